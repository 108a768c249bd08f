import Derived.Test.YtjemmmemenljbaaZFoldKeeps02
import Derived.Lib.Hide
import Derived.Outline
import Derived.WalkMore
section
namespace Go.Proofs.Ytjemmmemenljbaa.PFold
open Go.RowKit Go.Proofs.YtjemmmemenljbaaW.PrintWords Go.Proofs.YtjemmmemenljbaaW.PrintLast Go.Proofs.YtjemmmemenljbaaW.PrintMore
def stN (u c : Int) : Int := Go.bits .or .u64 (IntKind.u64.wrap (u * 256)) (IntKind.u64.wrap c)
def numF (l : List Int) : Int := l.foldl stN 0
def numOf (l : List Int) : Int := wrap64 (Go.bits .xor .u64 (numF (l.take 8)) 9223372036854775808)
def code_ReadNumber.f (l : List Int) : Option (Int × Int × Int) := if (l.length : Int) < 8 then some (0, 0, 10) else some (numOf l, 8, 0)
theorem numF_snoc {l : List Int} {j : Nat} (h : j < l.length) : numF (l.take (j + 1)) = stN (numF (l.take j)) l[j] := by
  unfold numF
  rw [List.take_succ_eq_append_getElem h, List.foldl_append]
  rfl
set_option maxHeartbeats 1000000 in
theorem code_ReadNumber.calls (A0 : Option Addr) (c0 : Nat) (l0 : List Int) (r1 r2 r3 : Int) (w : World) (hr0 : Kd.C (Kd.int .u8) w A0 l0.length l0) (hc0 : l0.length ≤ c0) (h : code_ReadNumber.f l0 = some (r1, r2, r3)) :
    Calls Try.prog 94 #[.slice A0 l0.length c0] w fun e w' => e = .returned (.tuple #[.int .i64 r1, .int .i64 r2, .int .i64 r3]) ∧ Drawn0 w w' := by
  unfold code_ReadNumber.f at h
  have HC := Lib.hid hr0; clear hr0
  by_cases hl : (l0.length : Int) < 8
  · rw [if_pos hl] at h
    simp only [Option.some.injEq, Prod.mk.injEq] at h
    obtain ⟨rfl, rfl, rfl⟩ := h
    have e1 : decide ((l0.length : Int) < 8) = true := decide_eq_true hl
    have e2 : decide (l0.length < 8) = true := decide_eq_true (by omega)
    clear hl
    go_enter Try.func94, Try.ntmps94
    go_wp2
    go_ret3
    exact ⟨rfl, Drawn0.refl _⟩
  · rw [if_neg hl] at h
    simp only [Option.some.injEq, Prod.mk.injEq] at h
    obtain ⟨h1, rfl, rfl⟩ := h
    have H1 := Lib.hid h1
    have e1 : decide ((l0.length : Int) < 8) = false := decide_eq_false hl
    have e2 : decide (l0.length < 8) = false := decide_eq_false (by omega)
    have h8 : 8 ≤ l0.length := by omega
    have h8c : 8 ≤ c0 := by omega
    clear hl h1
    go_enter Try.func94, Try.ntmps94
    go_wp2
    go_loop [5, 7, 14] (fun v5 _ v => ∃ j : Nat, v = .int .i64 j ∧ j ≤ 8 ∧ v5 = .int .u64 (numF (l0.take j))) (fun _ _ v => 8 - (intOf v).toNat)
    case atStart => exact ⟨0, rfl, by omega, rfl⟩
    case round =>
      obtain ⟨j, rfl, hj, rfl⟩ := hrel
      by_cases hlt : j < 8
      · have d1 : decide ((j : Int) < 8) = true := decide_eq_true (by omega)
        have d2 : decide (j < 8) = true := decide_eq_true hlt
        obtain ⟨ad, ha, hx0⟩ := Kd.at_int HC.out (j : Int) (by omega) (by omega)
        subst ha
        obtain ⟨x, hx⟩ : ∃ x, x = rd l0 (j : Int) := ⟨_, rfl⟩
        have hn : Hid (numF (l0.take (j + 1)) = stN (numF (l0.take j)) x) := Lib.hid (by
          rw [numF_snoc (by omega), hx]
          unfold rd
          rw [show ((j : Int)).toNat = j from by omega, List.getD_eq_getElem?_getD, List.getElem?_eq_getElem (by omega)]
          rfl)
        rw [← hx] at hx0
        simp only [Int.toNat_natCast] at hx0
        clear hx
        generalize numF (l0.take j) = u at *
        go_wp2
        go_round
        case rel => exact ⟨j + 1, by go_num, hlt, by rw [hn.out]; rfl⟩
        case measure => simp [intOf]; omega
      · have d1 : decide ((j : Int) < 8) = false := decide_eq_false (by omega)
        have d2 : decide (j < 8) = false := decide_eq_false hlt
        obtain rfl : j = 8 := by omega
        have hn : Hid (numOf l0 = wrap64 (Go.bits .xor .u64 (numF (l0.take 8)) 9223372036854775808)) := Lib.hid rfl
        generalize numF (l0.take 8) = u at *
        go_wp2
        go_ret3
        exact ⟨by rw [← H1.out, hn.out]; rfl, Drawn0.refl _⟩
end Go.Proofs.Ytjemmmemenljbaa.PFold
end
