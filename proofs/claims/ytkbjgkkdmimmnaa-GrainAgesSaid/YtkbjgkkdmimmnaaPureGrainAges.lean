/- The plain law of GrainAges: the bucket of a time's step is old enough, if it is not the first step's, and the next step's, if there is one, is not. -/
import Derived.Test.YtkbjgkkdmimmnaaPGrainxSGrainAges
import Derived.Test.YtkbjgkkdmimmnaaGrainL3
import Derived.Test.YtkbjgkkdmimmnaaPGrainx9
namespace Go.Proofs.Ytkbjgkkdmimmnaa.Pure
open Go.RowKit Go.Proofs.YtkbjgkkdmimmnaaW.PrintWords Go.Proofs.YtkbjgkkdmimmnaaW.PrintLast Go.Proofs.Ytkbjgkkdmimmnaa.PGrain Go.Proofs.Ytkbjgkkdmimmnaa.GrainM Go.Proofs.Ytkbjgkkdmimmnaa.GrainL

theorem alive_Ages : Ev (fun k => rickyardlaw03_alive.f k) true := Ev.of rickyardlaw03_alive.mono (k := 30) (by decide +kernel)

theorem GrainAges : rickyardlaw03_GrainAges.Pure := by
  intro gs keep t w _ _ _ _
  refine Ev.rounds ?_
  unfold rickyardlaw03_GrainAges.f
  by_cases he : fitE gs keep t w = 0
  · obtain ⟨R, ht, hw⟩ := fitE_zero.1 he
    obtain ⟨a, A⟩ := R.step_ex t w
    have h4 := R.four
    have hlt := A.lt
    have hage : ∀ i, i < gs.length → wrap64 (w - ag gs i) = w - ag gs i := fun i hi => by
      have := R.age i hi
      obtain ⟨h8, h9⟩ := hw
      rw [w64] <;> omega
    refine Ev.bind (step_tells R ht hw A) ?_
    simp only [if_true]
    simp only [if_neg (show ¬ (a : Int) < 0 by omega), decide_eq_false (show ¬ (a : Int) ≥ (gs.length : Int) by omega)]
    refine Ev.step (f := fun k => _) (fun k => by simp only [rickyardlaw03_GrainAges.j0]; rfl) ?_
    simp only [Bool.false_eq_true, if_false]
    refine Ev.bind (end_of_tells R ht A.lt) ?_
    simp only [if_true]
    have next : Ev (fun k => rickyardlaw03_GrainAges.j1 k t w (a : Int) false gs keep) true := by
      refine Ev.step (f := fun k => _) (fun k => by simp only [rickyardlaw03_GrainAges.j1]; rfl) ?_
      simp only [Bool.false_eq_true, if_false]
      rw [show wrap64 ((a : Int) + 1) = ((a + 1 : Nat) : Int) from by rw [w64] <;> omega]
      by_cases hn : a + 1 < gs.length
      · simp only [if_neg (show ¬ ((a + 1 : Nat) : Int) ≥ (gs.length : Int) by omega), rd_ag, hage (a + 1) hn]
        refine Ev.bind (end_of_tells R ht hn) (Ev.bind alive_Ages (Ev.congr (fun k => ?_) (Ev.now true)))
        have := A.above hn
        unfold old at this
        rw [if_pos rfl, if_pos rfl, if_pos (by omega), if_pos (by omega), decide_eq_true (by omega)]
      · simp only [if_pos (show ((a + 1 : Nat) : Int) ≥ (gs.length : Int) by omega)]
        exact Ev.bind alive_Ages (Ev.now _)
    by_cases hz : (a : Int) > 0
    · have := A.below a (by omega) (Nat.le_refl _)
      unfold old at this
      simp only [if_pos hz, if_pos (show (0 : Int) ≤ (a : Int) by omega), if_pos (show (a : Int) < (gs.length : Int) by omega), rd_ag, hage a hlt]
      rw [decide_eq_false (by omega)]
      exact next
    · simp only [if_neg hz]
      exact next
  · refine Ev.bind (step_errs he) ?_
    simp only [if_neg he]
    exact Ev.bind alive_Ages (Ev.now _)
end Go.Proofs.Ytkbjgkkdmimmnaa.Pure
