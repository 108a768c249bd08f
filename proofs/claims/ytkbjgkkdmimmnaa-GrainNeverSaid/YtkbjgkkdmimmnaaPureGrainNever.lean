/- The plain law of GrainNever: with a later watermark the step is not less, and what is expired stays so, with the last step. -/
import Derived.Test.YtkbjgkkdmimmnaaPGrainxSGrainNever
import Derived.Test.YtkbjgkkdmimmnaaGrainL2
import Derived.Test.YtkbjgkkdmimmnaaPGrainx4
namespace Go.Proofs.Ytkbjgkkdmimmnaa.Pure
open Go.RowKit Go.Proofs.YtkbjgkkdmimmnaaW.PrintWords Go.Proofs.YtkbjgkkdmimmnaaW.PrintLast Go.Proofs.Ytkbjgkkdmimmnaa.PGrain Go.Proofs.Ytkbjgkkdmimmnaa.GrainM Go.Proofs.Ytkbjgkkdmimmnaa.GrainL

theorem alive_Never : Ev (fun k => rickyardlaw03_alive.f k) true := Ev.of rickyardlaw03_alive.mono (k := 30) (by decide +kernel)

theorem GrainNever : rickyardlaw03_GrainNever.Pure := by
  intro gs keep t w w' _ _ _ _ _
  refine Ev.rounds ?_
  have alive_j : ∀ a b, Ev (fun k => rickyardlaw03_GrainNever.j0 k t w w' a b true gs keep) true := fun a b => by
    refine Ev.step (f := fun k => rickyardlaw03_alive.f k) (fun k => ?_) alive_Never
    simp only [rickyardlaw03_GrainNever.j0]
    simp
  unfold rickyardlaw03_GrainNever.f
  by_cases he : fitE gs keep t w = 0
  · obtain ⟨R, ht, hw⟩ := fitE_zero.1 he
    by_cases he' : fitE gs keep t w' = 0
    · obtain ⟨_, _, hw'⟩ := fitE_zero.1 he'
      obtain ⟨a, A⟩ := R.step_ex t w
      obtain ⟨b, B⟩ := R.step_ex t w'
      refine Ev.bind (step_tells R ht hw A) (Ev.bind (step_tells R ht hw' B) ?_)
      simp only [if_true]
      by_cases hlt : w' < w
      · rw [decide_eq_true hlt]; exact alive_j _ _
      · rw [decide_eq_false hlt]
        refine Ev.step (f := fun k => _) (fun k => by simp only [rickyardlaw03_GrainNever.j0]; rfl) ?_
        simp only [Bool.false_eq_true, if_false]
        refine Ev.bind (expired_tells R ht hw) (Ev.bind (expired_tells R ht hw') (Ev.bind alive_Never (Ev.congr (fun k => ?_) (Ev.now true))))
        have h1 := R.one
        have h4 := R.four
        have hab := R.never A B (by omega)
        have e : wrap64 ((gs.length : Int) - 1) = ((gs.length - 1 : Nat) : Int) := by rw [w64] <;> omega
        simp only [if_true, e]
        rw [if_pos (by omega)]
        by_cases hg : en t (sz gs (gs.length - 1)) ≤ w - keep
        · have hg' : en t (sz gs (gs.length - 1)) ≤ w' - keep := by omega
          have := R.gone_last A hg
          simp [hg, hg', this]
        · simp [hg]
    · obtain ⟨a, A⟩ := R.step_ex t w
      refine Ev.bind (step_tells R ht hw A) (Ev.bind (step_errs he') ?_)
      simp only [if_true, if_neg he']
      exact alive_j _ _
  · refine Ev.bind (step_errs he) ?_
    by_cases he' : fitE gs keep t w' = 0
    · obtain ⟨R, ht, hw'⟩ := fitE_zero.1 he'
      obtain ⟨b, B⟩ := R.step_ex t w'
      refine Ev.bind (step_tells R ht hw' B) ?_
      simp only [if_neg he]
      exact alive_j _ _
    · refine Ev.bind (step_errs he') ?_
      simp only [if_neg he]
      exact alive_j _ _
end Go.Proofs.Ytkbjgkkdmimmnaa.Pure
