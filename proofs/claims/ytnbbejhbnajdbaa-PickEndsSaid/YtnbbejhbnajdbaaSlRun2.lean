/- slices.IndexFunc and ContainsFunc at rows of runs, with a closure that is told by what it says of each run; pick.After's two closures. -/
import Derived.Test.YtnbbejhbnajdbaaSlRun
import Derived.Shelf.Abstract
namespace Go.Proofs.Ytnbbejhbnajdbaa.PPick
open Go.RowKit Go.Proofs.YtnbbejhbnajdbaaW.PrintWords Go.Proofs.YtnbbejhbnajdbaaW.PrintLast Go.Proofs.YtnbbejhbnajdbaaW.PrintMore Go.Proofs.Ytnbbejhbnajdbaa.XLib

/-- The closure g, with the captured variables lb, says p of each run. -/
def PredRun (g : Nat) (lb : Array Value) (p : S26 → Bool) (w : World) : Prop := ∀ (W : World) (x : S26), Below w.heap.size w W →
  Calls Try.prog g (#[.agg #[.int .i64 x.f0, .int .i64 x.f1, .int .i64 x.f2, .bool x.f3]] ++ lb) W fun e w' => e = .returned (.bool (p x)) ∧ Below W.heap.size W w'
theorem PredRun.later {g : Nat} {lb : Array Value} {p : S26 → Bool} {w W : World} (h : PredRun g lb p w) (hb : Below w.heap.size w W) : PredRun g lb p W :=
  fun W' x hb' => h W' x (hb.trans (hb'.mono hb.size))

theorem after1 (b : Nat) (m : Int) (w : World) (hm : w.cell? ⟨b, 0, none⟩ = some (.int .i64 m)) (hb : b < w.heap.size) : PredRun 29 #[.pointer (some ⟨b, 0, none⟩)] (fun x => x.f0 == m) w := by
  intro W x hB
  have hm' := (hB.cell (p := ⟨b, 0, none⟩) hb).trans hm
  have hlt : b < W.heap.size := Nat.lt_of_lt_of_le hb hB.size
  clear hm hb hB
  show Calls Try.prog 29 #[.agg #[.int .i64 x.f0, .int .i64 x.f1, .int .i64 x.f2, .bool x.f3], .pointer (some ⟨b, 0, none⟩)] W _
  go_enter Try.func29, Try.ntmps29
  go_wp2
  go_ret
  exact ⟨rfl, (Below.refl _ _).alloc (Nat.le_refl _) _⟩
theorem after2 (b : Nat) (m : Int) (w : World) (hm : w.cell? ⟨b, 0, none⟩ = some (.int .i64 m)) (hb : b < w.heap.size) : PredRun 32 #[.pointer (some ⟨b, 0, none⟩)] (fun x => x.f0 == m) w := by
  intro W x hB
  have hm' := (hB.cell (p := ⟨b, 0, none⟩) hb).trans hm
  have hlt : b < W.heap.size := Nat.lt_of_lt_of_le hb hB.size
  clear hm hb hB
  show Calls Try.prog 32 #[.agg #[.int .i64 x.f0, .int .i64 x.f1, .int .i64 x.f2, .bool x.f3], .pointer (some ⟨b, 0, none⟩)] W _
  go_enter Try.func32, Try.ntmps32
  go_wp2
  go_ret
  exact ⟨rfl, (Below.refl _ _).alloc (Nat.le_refl _) _⟩
theorem enter1 (args : Array Value) (w : World) : (callFunc 29 args).run Try.prog w = .ok (.enter 29 args) w := enters_ Try.func29 (by kernel_rfl) (by kernel_rfl) args w
theorem enter2 (args : Array Value) (w : World) : (callFunc 32 args).run Try.prog w = .ok (.enter 32 args) w := enters_ Try.func32 (by kernel_rfl) (by kernel_rfl) args w

/-- Where the first run stands of which p holds, or -1. -/
def idxF (p : S26 → Bool) (l : List S26) : Int := match l.findIdx? p with | some i => (i : Int) | none => -1
theorem idxF_hit {p : S26 → Bool} {l : List S26} {j : Nat} (h : j < l.length) (h1 : p l[j] = true) (h2 : ∀ i, ∀ hi : i < j, p (l[i]'(by omega)) = false) : idxF p l = j := by
  unfold idxF
  have : l.findIdx? p = some j := by
    rw [List.findIdx?_eq_some_iff_getElem]
    exact ⟨h, h1, fun i hi => by simpa using h2 i hi⟩
  rw [this]
theorem idxF_miss {p : S26 → Bool} {l : List S26} (h2 : ∀ i, ∀ hi : i < l.length, p l[i] = false) : idxF p l = -1 := by
  unfold idxF
  have : l.findIdx? p = none := by
    rw [List.findIdx?_eq_none_iff]
    intro x hx
    obtain ⟨i, hi, rfl⟩ := List.mem_iff_getElem.1 hx
    exact h2 i hi
  rw [this]

def IdxRel (w : World) (p : S26 → Bool) (l : List S26) (j : Nat) (wr : World) : Prop := j ≤ l.length ∧ Below w.heap.size w wr ∧ ∀ i, i < j → ∀ hi : i < l.length, p l[i] = false

set_option maxHeartbeats 1000000 in
theorem index_runs (p : S26 → Bool) (g : Nat) (lb : Array Value) (eg : ∀ args w, (callFunc g args).run Try.prog w = .ok (.enter g args) w) (A0 : Option Addr) (c0 : Nat) (l0 : List S26) (w : World) (hr0 : Kd.C k26 w A0 l0.length l0) (hl : l0.length ≤ 1000) (hp : PredRun g lb p w) :
    Calls Try.prog 28 #[.slice A0 l0.length c0, .func (.func g) #[] lb] w fun e w' => e = .returned (.int .i64 (idxF p l0)) ∧ Below w.heap.size w w' := by
  have HC := Lib.hid hr0; clear hr0
  have HP := Lib.hid hp; clear hp
  go_enter Try.func28, Try.ntmps28
  go_wp2
  go_loopw [5, 8] (fun _ v wr => ∃ j : Nat, v = .int .i64 j ∧ IdxRel w p l0 j wr) (fun _ v _ => l0.length - (intOf v).toNat)
  case atStart => exact ⟨0, rfl, Nat.zero_le _, Below.refl _ _, fun i hi => by omega⟩
  case round =>
    obtain ⟨j, rfl, hj, hB, hno⟩ := hrel
    have HB := Lib.hid hB; have HN := Lib.hid hno; clear hB hno
    by_cases hlt : j < l0.length
    · have e1 : decide ((j : Int) < (l0.length : Int)) = true := decide_eq_true (by omega)
      obtain ⟨ad, ha, hx0, hx1, hx2, hx3⟩ := at_T26 HC.out (j : Int) (by omega) (by omega)
      subst ha
      obtain ⟨x, hx⟩ : ∃ x, x = rd_T26 l0 (j : Int) := ⟨_, rfl⟩
      rw [← hx] at hx0 hx1 hx2 hx3
      simp only [Int.toNat_natCast] at hx0 hx1 hx2 hx3
      have hxl : Hid (x = l0[j]) := Lib.hid (by
        rw [hx]; unfold rd_T26
        rw [show ((j : Int)).toNat = j from by omega, List.getD_eq_getElem?_getD, List.getElem?_eq_getElem hlt]
        rfl)
      clear hx
      replace hx0 := (HB.out.cell (World.block_lt_of_cell? w _ hx0)).trans hx0
      replace hx1 := (HB.out.cell (World.block_lt_of_cell? w _ hx1)).trans hx1
      replace hx2 := (HB.out.cell (World.block_lt_of_cell? w _ hx2)).trans hx2
      replace hx3 := (HB.out.cell (World.block_lt_of_cell? w _ hx3)).trans hx3
      have hcall := Lib.hid (HP.out wr x HB.out)
      cases hq : p x with
      | true =>
        have HQ := Lib.hid hq; clear hq
        rw [HQ.out] at hcall
        go_wp2_with (go_at_fn g; refine hcall.out.mono ?_; rintro e w' ⟨rfl, hb'⟩; have HB' := Lib.hid hb'; clear hb')
        go_ret
        refine ⟨?_, below_step HB.out HB'.out⟩
        rw [idxF_hit hlt (by rw [← hxl.out]; exact HQ.out) (fun i hi => HN.out i hi (by omega))]
        rfl
      | false =>
        have HQ := Lib.hid hq; clear hq
        rw [HQ.out] at hcall
        go_wp2_with (go_at_fn g; refine hcall.out.mono ?_; rintro e w' ⟨rfl, hb'⟩; have HB' := Lib.hid hb'; clear hb')
        go_roundw
        case rel =>
          refine ⟨j + 1, by go_num, hlt, below_step HB.out HB'.out, fun i hi hi' => ?_⟩
          by_cases e : i = j
          · subst e
            rw [← hxl.out]; exact HQ.out
          · exact HN.out i (by omega) hi'
        case measure => simp [intOf]; omega
    · have e1 : decide ((j : Int) < (l0.length : Int)) = false := decide_eq_false (by omega)
      go_wp2
      go_ret
      refine ⟨?_, HB.out⟩
      rw [idxF_miss (fun i hi => HN.out i (by omega) hi)]
      rfl

theorem idxF_any (p : S26 → Bool) (l : List S26) : decide (idxF p l ≥ 0) = l.any p := by
  unfold idxF
  cases h : l.findIdx? p with
  | none =>
    rw [List.findIdx?_eq_none_iff] at h
    have : l.any p = false := by rw [List.any_eq_false]; intro x hx; simp [h x hx]
    rw [this]; rfl
  | some i =>
    rw [List.findIdx?_eq_some_iff_getElem] at h
    obtain ⟨hi, hp, _⟩ := h
    rw [List.any_eq_true.2 ⟨_, List.getElem_mem hi, hp⟩]
    exact decide_eq_true (show ((i : Nat) : Int) ≥ 0 by omega)
set_option maxHeartbeats 1000000 in
theorem contains_runs (p : S26 → Bool) (g : Nat) (lb : Array Value) (eg : ∀ args w, (callFunc g args).run Try.prog w = .ok (.enter g args) w) (A0 : Option Addr) (c0 : Nat) (l0 : List S26) (w : World) (hr0 : Kd.C k26 w A0 l0.length l0) (hl : l0.length ≤ 1000) (hp : PredRun g lb p w) :
    Calls Try.prog 31 #[.slice A0 l0.length c0, .func (.func g) #[] lb] w fun e w' => e = .returned (.bool (l0.any p)) ∧ Below w.heap.size w w' := by
  have HC := Lib.hid hr0; clear hr0
  have HP := Lib.hid hp; clear hp
  have hA := Lib.hid (idxF_any p l0)
  go_enter Try.func31, Try.ntmps31
  go_wp2_with (go_at_call 28; refine (index_runs p g lb eg A0 c0 l0 w HC.out hl HP.out).mono ?_; rintro e w' ⟨rfl, hb'⟩; have HB' := Lib.hid hb'; clear hb')
  go_ret
  refine ⟨?_, HB'.out⟩
  rw [← hA.out]
  rfl
end Go.Proofs.Ytnbbejhbnajdbaa.PPick
