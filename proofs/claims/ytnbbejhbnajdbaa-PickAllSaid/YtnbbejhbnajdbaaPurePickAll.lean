/- The plain law of PickAll: of a full level all runs are offered, and those of the next one, and no others; else one stale run. -/
import Derived.Test.YtnbbejhbnajdbaaPPickxSPickAll
import Derived.Test.YtnbbejhbnajdbaaPickA
import Derived.Test.YtnbbejhbnajdbaaPPickx17
namespace Go.Proofs.Ytnbbejhbnajdbaa.Pure
open List Go.RowKit Go.Proofs.YtnbbejhbnajdbaaW.PrintWords Go.Proofs.YtnbbejhbnajdbaaW.PrintLast Go.Proofs.Ytnbbejhbnajdbaa.PPick Go.Proofs.Ytnbbejhbnajdbaa.PickP

theorem full_ev {l : List Ru} {i : Int} (hi : 0 ≤ i) (hl : l.length ≤ 64) : Ev (fun k => pick_full.f k l i) (fullB l i) := by
  obtain ⟨k, hk⟩ := full_tells l i hi (by omega)
  exact Ev.of (pick_full.mono l i) hk
theorem Full_ev {l : List Ru} (ht : Tree l) (hw : wfF l) {i : Int} (hi : 0 ≤ i) (h4 : i < 4) : Ev (fun k => pick_Full.f k l i) (fullB l i) := by
  unfold pick_Full.f
  rw [right_some hw, (right_iff l).2 ht]
  simp only [Option.bind_some, if_true, ge_iff_le]
  refine Ev.congr (fun k => ?_) (Ev.bind (full_ev hi ht.len) (Ev.now _))
  rw [if_pos hi, if_pos h4]

section
variable {l : List Ru} (ht : Tree l) (hw : wfF l) {low lv : Int} {fs : List Int}

/-- What a run must be. -/
def fits (low lv : Int) (fs : List Int) (r : Ru) : Prop := (0 ≤ low → (r.f0 ∈ fs ↔ (r.f1 = low ∨ r.f1 = low + 1))) ∧ (low < 0 → r.f0 ∈ fs → r.f3 = true ∧ r.f1 = lv)

theorem in_end {j : Nat} (hj : j < l.length) (h64 : l.length ≤ 64) (hlow : -1 ≤ low ∧ low < 4) {b : Bool} (hb : b = true ↔ l[j].f0 ∈ fs) (hf : fits low lv fs l[j]) (c : Nat) (hc : fs.length ≤ c) {r : Bool}
    (next : Ev (fun k => rickyardlaw16_PickAll.l1 k l low ((j + 1 : Nat) : Int) fs lv) r) : Ev (fun k => rickyardlaw16_PickAll.l2 k l low (j : Int) b (c : Int) fs lv) r := by
  refine Ev.step (fun k => ?_) next
  simp only [rickyardlaw16_PickAll.l2, rd_run hj, w64n j (by omega), w64 (show -9223372036854775808 ≤ low + 1 by omega) (by omega)]
  rw [if_neg (by omega)]
  by_cases h0 : 0 ≤ low
  · have h1 := hf.1 h0
    rw [if_pos h0, if_pos (by omega), if_pos (by omega)]
    by_cases h2 : l[j].f1 = low
    · have hbt : b = true := hb.2 (h1.2 (.inl h2))
      rw [if_pos h2, hbt, if_neg (by decide), if_neg (by omega)]
    · rw [if_neg h2]
      have hbe : b = (l[j].f1 == low + 1) := by
        rw [Bool.eq_iff_iff, hb, h1]
        simp [h2]
      rw [if_neg (by rw [hbe]; simp), if_neg (by omega)]
  · rw [if_neg (by omega), if_pos (by omega)]
    cases hbt : b with
    | false => simp
    | true =>
      obtain ⟨h3, h4⟩ := hf.2 (by omega) (hb.1 hbt)
      simp only [if_true]
      rw [if_pos (by omega), if_pos (by omega), if_pos h3, if_pos h4]

theorem in_loop {j : Nat} (hj : j < l.length) (h64 : l.length ≤ 64) (hfs : fs.length ≤ 64) (hlow : -1 ≤ low ∧ low < 4) (hf : fits low lv fs l[j]) {r : Bool}
    (next : Ev (fun k => rickyardlaw16_PickAll.l1 k l low ((j + 1 : Nat) : Int) fs lv) r) (d : Nat) : ∀ (c : Nat) (b : Bool), fs.length - c = d → c ≤ fs.length → (b = true ↔ l[j].f0 ∈ fs.take c) →
    Ev (fun k => rickyardlaw16_PickAll.l2 k l low (j : Int) b (c : Int) fs lv) r := by
  induction d with
  | zero =>
    intro c b hd hc hb
    rw [take_of_length_le (by omega)] at hb
    exact in_end hj h64 hlow hb hf c (by omega) next
  | succ d ih =>
    intro c b hd hc hb
    have hlt : c < fs.length := by omega
    have hr : rd fs (c : Int) = fs[c] := by
      unfold rd
      rw [show ((c : Int)).toNat = c from by omega, List.getD_eq_getElem?_getD, List.getElem?_eq_getElem hlt]
      rfl
    have hn := ih (c + 1) (b || (fs[c] == l[j].f0)) (by omega) (by omega) (by
      rw [take_succ_eq_append_getElem hlt, mem_append, mem_singleton, ← hb]
      simp
      rw [eq_comm (a := fs[c])])
    refine Ev.step (fun k => ?_) hn
    simp only [rickyardlaw16_PickAll.l2, w64n c (by omega), rd_run hj, hr]
    rw [if_pos (by omega)]
    cases b with
    | true => simp
    | false =>
      rw [if_neg (by decide), if_pos (by omega), if_pos (by omega), if_pos (by omega)]
      simp

theorem all_loop (h64 : l.length ≤ 64) (hfs : fs.length ≤ 64) (hlow : -1 ≤ low ∧ low < 4) (hall : ∀ r ∈ l, fits low lv fs r) (h1 : 0 ≤ low → lv = low + 1) (h2 : low < 0 → fs.length = 1) (d : Nat) : ∀ j : Nat, l.length - j = d → j ≤ l.length →
    Ev (fun k => rickyardlaw16_PickAll.l1 k l low (j : Int) fs lv) true := by
  induction d with
  | zero =>
    intro j hd hj
    refine Ev.step (fun k => ?_) (Ev.now true)
    simp only [rickyardlaw16_PickAll.l1, alive_tells, Option.bind_some, if_true, w64 (show -9223372036854775808 ≤ low + 1 by omega) (by omega)]
    rw [if_neg (by omega)]
    by_cases h0 : 0 ≤ low
    · rw [if_pos h0, if_pos (h1 h0)]
    · rw [if_neg (by omega), if_pos (by omega), h2 (by omega)]
      rfl
  | succ d ih =>
    intro j hd hj
    have hlt : j < l.length := by omega
    refine Ev.step (fun k => ?_) (in_loop hlt h64 hfs hlow (hall _ (getElem_mem hlt)) (ih (j + 1) (by omega) (by omega)) fs.length 0 false (by omega) (by omega) (by simp))
    simp only [rickyardlaw16_PickAll.l1]
    rw [if_pos (by omega)]
    rfl

include ht hw in
theorem low_step {x : Int} (h0 : 0 ≤ x) (h4 : x < 4) {low' : Int} (hl : low' = if fullB l x = true then x else low) {r : Bool}
    (next : Ev (fun k => rickyardlaw16_PickAll.l0 k l low' (x - 1) fs lv) r) : Ev (fun k => rickyardlaw16_PickAll.l0 k l low x fs lv) r := by
  subst hl
  refine Ev.step (f := fun k => (pick_Full.f k l x).bind fun t => if t = true then rickyardlaw16_PickAll.l0 k l x (x - 1) fs lv else rickyardlaw16_PickAll.l0 k l low (x - 1) fs lv) (fun k => ?_) (Ev.bind (Full_ev ht hw h0 h4) ?_)
  · simp only [rickyardlaw16_PickAll.l0, w64 (show -9223372036854775808 ≤ x - 1 by omega) (by omega)]
    rw [if_pos h0]
  · cases hf : fullB l x with
    | true => simpa [hf] using next
    | false => simpa [hf] using next
end

theorem PickAll : rickyardlaw16_PickAll.Pure := by
  intro l hl
  have hw := wf_of hl
  refine Ev.rounds ?_
  unfold rickyardlaw16_PickAll.f
  rw [offer_some hw]
  simp only [Option.bind_some]
  have hdone : ∀ lv : Int, Ev (fun k => rickyardlaw16_PickAll.j0 k l false true [] lv) true := fun lv => Ev.step (fun k => by simp only [rickyardlaw16_PickAll.j0]; rw [if_pos trivial, alive_tells]; rfl) (Ev.now true)
  by_cases ht : Tree l
  · have h64 := ht.len
    rcases phase_cases ht with ⟨hno, _⟩ | ⟨i, h0, h3, hf, hn, _⟩
    · rw [offer_none ht hno]
      by_cases hz : (best l).f0 = 0
      · rw [if_pos hz]
        exact hdone 0
      · rw [if_neg hz]
        have hb : best l ∈ l ∧ (best l).f3 = true := by
          rcases (best_is l).from_ with e | e
          · rw [e] at hz; exact absurd rfl hz
          · exact e
        refine Ev.step (f := fun k => rickyardlaw16_PickAll.l0 k l (-1) 3 [(best l).f0] (best l).f1) (fun k => by simp [rickyardlaw16_PickAll.j0]) ?_
        refine low_step ht hw (by omega) (by omega) (low' := -1) (by rw [hno 3 (by omega)]; rfl) ?_
        refine low_step ht hw (by omega) (by omega) (low' := -1) (by rw [hno _ (by omega)]; rfl) ?_
        refine low_step ht hw (by omega) (by omega) (low' := -1) (by rw [hno _ (by omega)]; rfl) ?_
        refine low_step ht hw (by omega) (by omega) (low' := -1) (by rw [hno _ (by omega)]; rfl) ?_
        refine Ev.step (fun k => ?_) (all_loop (fs := [(best l).f0]) (low := -1) (lv := (best l).f1) h64 (by simp) (by omega) (fun r hr => ⟨fun h => by omega, fun _ hm => ?_⟩) (fun h => by omega) (fun _ => rfl) l.length 0 (by omega) (by omega))
        · simp only [rickyardlaw16_PickAll.l0]
          rw [if_neg (by omega)]
          rfl
        · have := ht.inj hr hb.1 (by simpa using hm)
          subst this
          exact ⟨hb.2, rfl⟩
    · rw [offer_full ht h0 hf hn]
      refine Ev.step (f := fun k => rickyardlaw16_PickAll.l0 k l (-1) 3 (XLib.sorted (both l i)) (i + 1)) (fun k => by simp [rickyardlaw16_PickAll.j0]) ?_
      have hend : Ev (fun k => rickyardlaw16_PickAll.l0 k l i (-1) (XLib.sorted (both l i)) (i + 1)) true := by
        refine Ev.step (fun k => ?_) (all_loop (fs := XLib.sorted (both l i)) (low := i) (lv := i + 1) h64 (by rw [(sorted_perm _).length_eq]; exact Nat.le_trans (both_len l i) h64) (by omega) (fun r hr => ⟨fun _ => ?_, fun h => by omega⟩) (fun _ => rfl) (fun h => by omega) l.length 0 (by omega) (by omega))
        · simp only [rickyardlaw16_PickAll.l0]
          rw [if_neg (by omega)]
          rfl
        · rw [(sorted_perm _).mem_iff, mem_both]
          constructor
          · rintro ⟨r', h1, h2, h3⟩
            have := ht.inj h1 hr h3
            subst this
            exact h2
          · exact fun h => ⟨r, hr, h, rfl⟩
      have hi : i = 0 ∨ i = 1 ∨ i = 2 := by omega
      have h3f := full_far (l := l) (i := 3) (by omega)
      rcases hi with rfl | rfl | rfl
      · refine low_step ht hw (by omega) (by omega) rfl (low_step ht hw (by omega) (by omega) rfl (low_step ht hw (by omega) (by omega) rfl (low_step ht hw (by omega) (by omega) (low' := 0) ?_ hend)))
        rw [show (3 : Int) - 1 - 1 - 1 = 0 from rfl, hf]; rfl
      · refine low_step ht hw (by omega) (by omega) rfl (low_step ht hw (by omega) (by omega) rfl (low_step ht hw (by omega) (by omega) (low' := 1) ?_ (low_step ht hw (by omega) (by omega) (low' := 1) ?_ hend)))
        · rw [show (3 : Int) - 1 - 1 = 1 from rfl, hf]; rfl
        · rw [show (3 : Int) - 1 - 1 - 1 = 0 from rfl, hn 0 (by omega) (by omega)]; rfl
      · refine low_step ht hw (by omega) (by omega) rfl (low_step ht hw (by omega) (by omega) (low' := 2) ?_ (low_step ht hw (by omega) (by omega) (low' := 2) ?_ (low_step ht hw (by omega) (by omega) (low' := 2) ?_ hend)))
        · rw [show (3 : Int) - 1 = 2 from rfl, hf]; rfl
        · rw [show (3 : Int) - 1 - 1 = 1 from rfl, hn 1 (by omega) (by omega)]; rfl
        · rw [show (3 : Int) - 1 - 1 - 1 = 0 from rfl, hn 0 (by omega) (by omega)]; rfl
  · rw [offer_not ht]
    exact hdone 0
end Go.Proofs.Ytnbbejhbnajdbaa.Pure
