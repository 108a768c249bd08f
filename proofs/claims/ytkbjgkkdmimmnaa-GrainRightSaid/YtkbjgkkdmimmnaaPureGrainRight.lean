/- The plain law of GrainRight: Right and Floor answer as the reference's do. -/
import Derived.Test.YtkbjgkkdmimmnaaPGrainxSGrainRight
import Derived.Test.YtkbjgkkdmimmnaaGrainR
import Derived.Test.YtkbjgkkdmimmnaaGrainL3
import Derived.Test.YtkbjgkkdmimmnaaPGrainx9
namespace Go.Proofs.Ytkbjgkkdmimmnaa.Pure
open Go.RowKit Go.Proofs.YtkbjgkkdmimmnaaW.PrintWords Go.Proofs.YtkbjgkkdmimmnaaW.PrintLast Go.Proofs.Ytkbjgkkdmimmnaa.PGrain Go.Proofs.Ytkbjgkkdmimmnaa.GrainM Go.Proofs.Ytkbjgkkdmimmnaa.GrainL

theorem alive_Right : Ev (fun k => rickyardlaw03_alive.f k) true := Ev.of rickyardlaw03_alive.mono (k := 30) (by decide +kernel)

theorem GrainRight : rickyardlaw03_GrainRight.Pure := by
  intro gs keep t s _ _ _ _
  refine Ev.rounds ?_
  unfold rickyardlaw03_GrainRight.f
  by_cases h : isT t ∧ 1 ≤ s ∧ s ≤ 1099511627776
  · rw [floor_tells h.1 h.2.1 h.2.2, rfloor_tells h.1 h.2.1 h.2.2]
    simp only [Option.bind_some]
    refine Ev.bind alive_Right ?_
    simp only [if_true]
    refine Ev.bind (right_tells gs keep) (Ev.bind (rright_tells gs keep) (Ev.congr (fun k => ?_) (Ev.now true)))
    simp
  · rw [floor_none h, rfloor_none h]
    simp only [Option.bind_some]
    refine Ev.bind alive_Right ?_
    simp only [if_true]
    refine Ev.bind (right_tells gs keep) (Ev.bind (rright_tells gs keep) (Ev.congr (fun k => ?_) (Ev.now true)))
    simp
end Go.Proofs.Ytkbjgkkdmimmnaa.Pure
