import Derived.Test.YtjemmmemenljbaaZFoldKeeps02
import Derived.Lib.Hide
import Derived.Outline
import Derived.WalkMore
import Derived.Shelf.Abstract
section
namespace Go.Proofs.Ytjemmmemenljbaa.PFold
open Go.RowKit Go.Proofs.YtjemmmemenljbaaW.PrintWords Go.Proofs.YtjemmmemenljbaaW.PrintLast Go.Proofs.YtjemmmemenljbaaW.PrintMore
theorem dim_long (s : ByteArray) (w : World) : Calls Try.prog 86 #[.string s] w fun e w' => e = .returned (.bool (decide (16 < (s.size : Int)))) ∧ w = w' := by
  go_enter Try.func86, Try.ntmps86
  go_wp2
  go_ret
  exact ⟨rfl, rfl⟩
def lng (s : ByteArray) : Bool := decide (16 < (s.size : Int))
def idxS (l : List ByteArray) : Int := match l.findIdx? lng with | some i => (i : Int) | none => -1
theorem idxS_hit {l : List ByteArray} {j : Nat} (h : j < l.length) (h1 : lng l[j] = true) (h2 : ∀ i, ∀ hi : i < j, lng (l[i]'(by omega)) = false) : idxS l = j := by
  unfold idxS
  have : l.findIdx? lng = some j := by
    rw [List.findIdx?_eq_some_iff_getElem]
    exact ⟨h, h1, fun i hi => by simpa using h2 i hi⟩
  rw [this]
theorem idxS_miss {l : List ByteArray} (h2 : ∀ i, ∀ hi : i < l.length, lng l[i] = false) : idxS l = -1 := by
  unfold idxS
  have : l.findIdx? lng = none := by
    rw [List.findIdx?_eq_none_iff]
    intro x hx
    obtain ⟨i, hi, rfl⟩ := List.mem_iff_getElem.1 hx
    exact h2 i hi
  rw [this]
theorem idxS_any (l : List ByteArray) : decide (idxS l ≥ 0) = l.any lng := by
  unfold idxS
  cases h : l.findIdx? lng with
  | none =>
    rw [List.findIdx?_eq_none_iff] at h
    have : l.any lng = false := by rw [List.any_eq_false]; intro x hx; simp [h x hx]
    rw [this]; rfl
  | some i =>
    rw [List.findIdx?_eq_some_iff_getElem] at h
    obtain ⟨hi, hp, _⟩ := h
    rw [List.any_eq_true.2 ⟨_, List.getElem_mem hi, hp⟩]
    exact decide_eq_true (show ((i : Nat) : Int) ≥ 0 by omega)
def IdxSRel (w : World) (l : List ByteArray) (j : Nat) (wr : World) : Prop := j ≤ l.length ∧ wr = w ∧ ∀ i, i < j → ∀ hi : i < l.length, lng l[i] = false
set_option maxHeartbeats 1000000 in
theorem index_dims (A0 : Option Addr) (c0 : Nat) (l0 : List ByteArray) (w : World) (hr0 : Kd.C Kd.string w A0 l0.length l0) (hl : l0.length ≤ 1000) :
    Calls Try.prog 100 #[.slice A0 l0.length c0, .func (.func 86) #[] #[]] w fun e w' => e = .returned (.int .i64 (idxS l0)) ∧ w = w' := by
  have HC := Lib.hid hr0; clear hr0
  go_enter Try.func100, Try.ntmps100
  go_wp2
  go_loopw [5, 8] (fun _ v wr => ∃ j : Nat, v = .int .i64 j ∧ IdxSRel w l0 j wr) (fun _ v _ => l0.length - (intOf v).toNat)
  case atStart => exact ⟨0, rfl, Nat.zero_le _, rfl, fun i hi => by omega⟩
  case round =>
    obtain ⟨j, rfl, hj, rfl, hno⟩ := hrel
    have HN := Lib.hid hno; clear hno
    by_cases hlt : j < l0.length
    · have e1 : decide ((j : Int) < (l0.length : Int)) = true := decide_eq_true (by omega)
      obtain ⟨ad, ha, hx0⟩ := Kd.at_string HC.out (j : Int) (by omega) (by omega)
      subst ha
      obtain ⟨x, hx⟩ : ∃ x, x = rdOf ByteArray.empty l0 (j : Int) := ⟨_, rfl⟩
      have hxl : Hid (x = l0[j]) := Lib.hid (by
        rw [hx]; unfold rdOf
        rw [show ((j : Int)).toNat = j from by omega, List.getD_eq_getElem?_getD, List.getElem?_eq_getElem hlt]
        rfl)
      rw [← hx] at hx0
      simp only [Int.toNat_natCast] at hx0
      clear hx
      cases hq : lng x with
      | true =>
        have HQ := Lib.hid hq
        unfold lng at hq
        go_wp2_with (go_at_call 86; refine (dim_long x _).mono ?_; rintro e w' ⟨rfl, rfl⟩)
        go_ret
        refine ⟨?_, rfl⟩
        rw [idxS_hit hlt (by rw [← hxl.out]; exact HQ.out) (fun i hi => HN.out i hi (by omega))]
        rfl
      | false =>
        have HQ := Lib.hid hq
        unfold lng at hq
        go_wp2_with (go_at_call 86; refine (dim_long x _).mono ?_; rintro e w' ⟨rfl, rfl⟩)
        go_roundw
        case rel =>
          refine ⟨j + 1, by go_num, hlt, rfl, fun i hi hi' => ?_⟩
          by_cases e : i = j
          · subst e
            rw [← hxl.out]; exact HQ.out
          · exact HN.out i (by omega) hi'
        case measure => simp [intOf]; omega
    · have e1 : decide ((j : Int) < (l0.length : Int)) = false := decide_eq_false (by omega)
      go_wp2
      go_ret
      refine ⟨?_, rfl⟩
      rw [idxS_miss (fun i hi => HN.out i (by omega) hi)]
      rfl
set_option maxHeartbeats 1000000 in
theorem contains_dims (A0 : Option Addr) (c0 : Nat) (l0 : List ByteArray) (w : World) (hr0 : Kd.C Kd.string w A0 l0.length l0) (hl : l0.length ≤ 1000) :
    Calls Try.prog 85 #[.slice A0 l0.length c0, .func (.func 86) #[] #[]] w fun e w' => e = .returned (.bool (l0.any lng)) ∧ w = w' := by
  have HC := Lib.hid hr0; clear hr0
  have hA := Lib.hid (idxS_any l0)
  go_enter Try.func85, Try.ntmps85
  go_wp2_with (go_at_call 100; refine (index_dims A0 c0 l0 w HC.out hl).mono ?_; rintro e w' ⟨rfl, rfl⟩)
  go_ret
  refine ⟨?_, rfl⟩
  rw [← hA.out]
  rfl
def dimsB (l : List ByteArray) : Bool := decide (l.length ≤ 4) && !l.any lng
def key_fits.f (l : List ByteArray) : Option Bool := some (dimsB l)
set_option maxHeartbeats 1000000 in
theorem key_fits.calls (A0 : Option Addr) (c0 : Nat) (l0 : List ByteArray) (r : Bool) (w : World) (hr0 : Kd.C Kd.string w A0 l0.length l0) (_ : l0.length ≤ c0) (h : key_fits.f l0 = some r) :
    Calls Try.prog 61 #[.slice A0 l0.length c0] w fun e w' => e = .returned (.bool r) ∧ Drawn0 w w' := by
  have HC := Lib.hid hr0; clear hr0
  have H : Hid (dimsB l0 = r) := Lib.hid (Option.some.inj h)
  clear h
  by_cases hl : l0.length ≤ 4
  · have e1 : decide ((l0.length : Int) ≤ 4) = true := decide_eq_true (by omega)
    have e2 : decide (l0.length ≤ 4) = true := decide_eq_true hl
    cases hq : l0.any lng with
    | true =>
      have HQ := Lib.hid hq; clear hq
      go_enter Try.func61, Try.ntmps61
      go_wp2_with (go_at_call 85; refine (contains_dims A0 c0 l0 w HC.out (by omega)).mono ?_; rintro e w' ⟨rfl, rfl⟩; rw [HQ.out])
      go_ret
      refine ⟨?_, Drawn0.refl _⟩
      rw [← H.out]; unfold dimsB; rw [HQ.out]; simp
    | false =>
      have HQ := Lib.hid hq; clear hq
      go_enter Try.func61, Try.ntmps61
      go_wp2_with (go_at_call 85; refine (contains_dims A0 c0 l0 w HC.out (by omega)).mono ?_; rintro e w' ⟨rfl, rfl⟩; rw [HQ.out])
      go_ret
      refine ⟨?_, Drawn0.refl _⟩
      rw [← H.out]; unfold dimsB; rw [HQ.out, e2]; rfl
  · have e1 : decide ((l0.length : Int) ≤ 4) = false := decide_eq_false (by omega)
    have e2 : decide (l0.length ≤ 4) = false := decide_eq_false hl
    have H2 : Hid (r = false) := Lib.hid (by rw [← H.out]; unfold dimsB; rw [e2]; rfl)
    go_enter Try.func61, Try.ntmps61
    go_wp2
    go_ret
    exact ⟨by rw [H2.out]; rfl, Drawn0.refl _⟩
end Go.Proofs.Ytjemmmemenljbaa.PFold
end
