/- The plain law of PickOffers: what the reference tells is told. -/
import Derived.Test.YtnbbejhbnajdbaaPPickxSPickOffers
import Derived.Test.YtnbbejhbnajdbaaPickS
namespace Go.Proofs.Ytnbbejhbnajdbaa.Pure
open List Go.RowKit Go.Proofs.YtnbbejhbnajdbaaW.PrintWords Go.Proofs.YtnbbejhbnajdbaaW.PrintLast Go.Proofs.Ytnbbejhbnajdbaa.PPick Go.Proofs.Ytnbbejhbnajdbaa.PickP

theorem task_from (a : List Int) (x y : Int) (hl : a.length ≤ 1000) (d : Nat) : ∀ j : Nat, a.length - j = d → j ≤ a.length → Ev (fun k => rickyardref16_SameTask.l0 k (j : Int) a x a y) true := by
  induction d with
  | zero =>
    intro j hd hj
    refine Ev.step (fun k => ?_) (Ev.now _)
    simp only [rickyardref16_SameTask.l0]
    rw [if_neg (by omega)]
  | succ d ih =>
    intro j hd hj
    refine Ev.step (fun k => ?_) (ih (j + 1) (by omega) (by omega))
    simp only [rickyardref16_SameTask.l0, w64n j (by omega)]
    rw [if_pos (by omega), if_pos (by omega), if_pos (by omega), if_pos trivial]
theorem task_tells (a : List Int) (x : Int) (hl : a.length ≤ 1000) : Ev (fun k => rickyardref16_SameTask.f k a x a x) true := by
  have h : Ev (fun k => rickyardref16_SameTask.j0 k false a x a x) true := Ev.step (fun k => by simp only [rickyardref16_SameTask.j0]; rfl) (task_from a x x hl a.length 0 rfl (by omega))
  refine Ev.congr (fun k => ?_) h
  simp only [rickyardref16_SameTask.f]
  rw [if_pos trivial]
  simp
theorem offer_len (l : List Ru) : (offerB l).1.length ≤ 64 := by
  by_cases ht : Tree l
  · rcases phase_cases ht with ⟨hno, _⟩ | ⟨i, hi, _, hf, hn, _⟩
    · rw [offer_none ht hno]
      split <;> simp
    · rw [offer_full ht hi hf hn]
      show (XLib.sorted (both l i)).length ≤ _
      rw [(sorted_perm _).length_eq]
      exact Nat.le_trans (both_len l i) ht.len
  · rw [offer_not ht]; simp

theorem PickOffers : rickyardlaw16_PickOffers.Pure := by
  intro l i hl _
  have hw := wf_of hl
  refine Ev.rounds ?_
  unfold rickyardlaw16_PickOffers.f
  by_cases h : (l.length : Int) > 100
  · refine Ev.congr (fun k => ?_) (Ev.now true)
    rw [if_pos h, alive_tells]
    rfl
  · have hlen : l.length ≤ 1000 := by omega
    refine Ev.congr (fun k => if_neg h) (Ev.bind (as_tells l hlen) ?_)
    rw [offer_some hw]
    simp only [Option.bind_some]
    refine Ev.bind (roffer_tells l) ?_
    rw [alive_tells, right_some hw]
    simp only [Option.bind_some, if_true]
    refine Ev.bind (right_tells l) ?_
    refine Ev.congr (fun k => if_pos (by simp)) (Ev.bind (Full_tells hw i) (Ev.bind (rfull_tells l i) (Ev.congr (fun k => if_pos (by simp)) (Ev.bind (task_tells _ _ (Nat.le_trans (offer_len l) (by omega))) ?_))))
    simp only [if_true, BEq.rfl]
    exact Ev.bind (as_tells l hlen) (Ev.bind (same_tells l hlen) (Ev.now _))
end Go.Proofs.Ytnbbejhbnajdbaa.Pure
