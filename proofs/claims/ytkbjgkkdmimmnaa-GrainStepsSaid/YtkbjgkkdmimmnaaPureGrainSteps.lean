/- The plain law of GrainSteps: Step, Bucket and Expired answer as the reference's do. -/
import Derived.Test.YtkbjgkkdmimmnaaPGrainxSGrainSteps
import Derived.Test.YtkbjgkkdmimmnaaGrainR2
import Derived.Test.YtkbjgkkdmimmnaaPGrainx4
namespace Go.Proofs.Ytkbjgkkdmimmnaa.Pure
open Go.RowKit Go.Proofs.YtkbjgkkdmimmnaaW.PrintWords Go.Proofs.YtkbjgkkdmimmnaaW.PrintLast Go.Proofs.Ytkbjgkkdmimmnaa.PGrain Go.Proofs.Ytkbjgkkdmimmnaa.GrainM Go.Proofs.Ytkbjgkkdmimmnaa.GrainL

theorem alive_Steps : Ev (fun k => rickyardlaw03_alive.f k) true := Ev.of rickyardlaw03_alive.mono (k := 30) (by decide +kernel)

theorem GrainSteps : rickyardlaw03_GrainSteps.Pure := by
  intro gs keep t w _ _ _ _
  refine Ev.rounds ?_
  unfold rickyardlaw03_GrainSteps.f
  by_cases he : fitE gs keep t w = 0
  · obtain ⟨R, ht, hw⟩ := fitE_zero.1 he
    obtain ⟨a, A⟩ := R.step_ex t w
    refine Ev.bind (step_tells R ht hw A) (Ev.bind (rstep_tells R ht hw A) (Ev.bind (bucket_tells R ht hw A) (Ev.bind (rbucket_tells R ht hw A) (Ev.bind (expired_tells R ht hw) (Ev.bind (rexpired_tells R ht hw) (Ev.bind alive_Steps (Ev.congr (fun k => ?_) (Ev.now true))))))))
    simp
  · refine Ev.bind (step_errs he) (Ev.bind (rstep_errs he) (Ev.bind (bucket_errs he) (Ev.bind (rbucket_errs he) (Ev.bind (expired_errs he) (Ev.bind (rexpired_errs he) (Ev.bind alive_Steps (Ev.congr (fun k => ?_) (Ev.now true))))))))
    simp
end Go.Proofs.Ytkbjgkkdmimmnaa.Pure
