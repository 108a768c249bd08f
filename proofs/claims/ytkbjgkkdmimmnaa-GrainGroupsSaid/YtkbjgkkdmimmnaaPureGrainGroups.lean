/- The plain law of GrainGroups: who is in one bucket at a watermark is in one at each later one. -/
import Derived.Test.YtkbjgkkdmimmnaaPGrainxSGrainGroups
import Derived.Test.YtkbjgkkdmimmnaaGrainL2
import Derived.Test.YtkbjgkkdmimmnaaPGrainx4
namespace Go.Proofs.Ytkbjgkkdmimmnaa.Pure
open Go.RowKit Go.Proofs.YtkbjgkkdmimmnaaW.PrintWords Go.Proofs.YtkbjgkkdmimmnaaW.PrintLast Go.Proofs.Ytkbjgkkdmimmnaa.PGrain Go.Proofs.Ytkbjgkkdmimmnaa.GrainM Go.Proofs.Ytkbjgkkdmimmnaa.GrainL

theorem alive_Groups : Ev (fun k => rickyardlaw03_alive.f k) true := Ev.of rickyardlaw03_alive.mono (k := 30) (by decide +kernel)

theorem GrainGroups : rickyardlaw03_GrainGroups.Pure := by
  intro gs keep t u w w' _ _ _ _ _ _
  refine Ev.rounds ?_
  have alive_j : Ev (fun k => rickyardlaw03_GrainGroups.j0 k t u w' true gs keep) true := by
    refine Ev.step (f := fun k => rickyardlaw03_alive.f k) (fun k => ?_) alive_Groups
    simp only [rickyardlaw03_GrainGroups.j0]
    simp
  unfold rickyardlaw03_GrainGroups.f
  by_cases he : fitE gs keep t w = 0
  · obtain ⟨R, ht, hw⟩ := fitE_zero.1 he
    obtain ⟨a, A⟩ := R.step_ex t w
    refine Ev.bind (bucket_tells R ht hw A) ?_
    by_cases he' : fitE gs keep u w = 0
    · obtain ⟨_, hu, _⟩ := fitE_zero.1 he'
      obtain ⟨b, B⟩ := R.step_ex u w
      refine Ev.bind (bucket_tells R hu hw B) ?_
      simp only [if_true]
      by_cases h1 : t - t % sz gs a = u - u % sz gs b
      · simp only [if_pos h1]
        by_cases h2 : (a : Int) = (b : Int)
        · simp only [if_pos h2]
          obtain rfl : a = b := by omega
          by_cases hlt : w' < w
          · rw [decide_eq_true hlt]; exact alive_j
          · rw [decide_eq_false hlt]
            refine Ev.step (f := fun k => _) (fun k => by simp only [rickyardlaw03_GrainGroups.j0]; rfl) ?_
            simp only [Bool.false_eq_true, if_false]
            by_cases hw' : isT w'
            · obtain ⟨c, C⟩ := R.step_ex t w'
              obtain ⟨d, D⟩ := R.step_ex u w'
              refine Ev.bind (bucket_tells R ht hw' C) (Ev.bind (bucket_tells R hu hw' D) (Ev.bind alive_Groups (Ev.congr (fun k => ?_) (Ev.now true))))
              obtain ⟨rfl, hb⟩ := R.together A B h1 (by omega) C D
              simp [hb]
            · have g1 : fitE gs keep t w' ≠ 0 := fun h => hw' (fitE_zero.1 h).2.2
              have g2 : fitE gs keep u w' ≠ 0 := fun h => hw' (fitE_zero.1 h).2.2
              refine Ev.bind (bucket_errs g1) (Ev.bind (bucket_errs g2) (Ev.bind alive_Groups (Ev.congr (fun k => ?_) (Ev.now true))))
              have e1 : fitE gs keep t w' = 1 := by unfold fitE; simp [R, hw']
              have e2 : fitE gs keep u w' = 1 := by unfold fitE; simp [R, hw']
              simp [e1, e2]
        · simp only [if_neg h2]; exact alive_j
      · simp only [if_neg h1]; exact alive_j
    · refine Ev.bind (bucket_errs he') ?_
      simp only [if_true, if_neg he']
      exact alive_j
  · refine Ev.bind (bucket_errs he) ?_
    simp only [if_neg he]
    by_cases he' : fitE gs keep u w = 0
    · obtain ⟨R, hu, hw⟩ := fitE_zero.1 he'
      obtain ⟨b, B⟩ := R.step_ex u w
      exact Ev.bind (bucket_tells R hu hw B) alive_j
    · exact Ev.bind (bucket_errs he') alive_j
end Go.Proofs.Ytkbjgkkdmimmnaa.Pure
