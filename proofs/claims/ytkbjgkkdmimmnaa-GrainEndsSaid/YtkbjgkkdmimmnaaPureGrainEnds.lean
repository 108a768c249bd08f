/- The plain law of GrainEnds: End answers as the reference's does. -/
import Derived.Test.YtkbjgkkdmimmnaaPGrainxSGrainEnds
import Derived.Test.YtkbjgkkdmimmnaaGrainR3
import Derived.Test.YtkbjgkkdmimmnaaPGrainx9
namespace Go.Proofs.Ytkbjgkkdmimmnaa.Pure
open Go.RowKit Go.Proofs.YtkbjgkkdmimmnaaW.PrintWords Go.Proofs.YtkbjgkkdmimmnaaW.PrintLast Go.Proofs.Ytkbjgkkdmimmnaa.PGrain Go.Proofs.Ytkbjgkkdmimmnaa.GrainM Go.Proofs.Ytkbjgkkdmimmnaa.GrainL

theorem alive_Ends : Ev (fun k => rickyardlaw03_alive.f k) true := Ev.of rickyardlaw03_alive.mono (k := 30) (by decide +kernel)

theorem GrainEnds : rickyardlaw03_GrainEnds.Pure := by
  intro gs keep t s _ _ _ _
  refine Ev.rounds ?_
  unfold rickyardlaw03_GrainEnds.f
  by_cases he : fitE gs keep t 0 = 0
  · obtain ⟨R, ht, _⟩ := fitE_zero.1 he
    by_cases hs : s < 0 ∨ s ≥ (gs.length : Int)
    · refine Ev.bind (end_of_none R ht hs) (Ev.bind (rend_of_none R ht hs) (Ev.bind alive_Ends (Ev.congr (fun k => ?_) (Ev.now true))))
      simp
    · obtain ⟨n, rfl⟩ : ∃ n : Nat, s = (n : Int) := ⟨s.toNat, by omega⟩
      have hn : n < gs.length := by omega
      refine Ev.bind (end_of_tells R ht hn) (Ev.bind (rend_of_tells R ht hn) (Ev.bind alive_Ends (Ev.congr (fun k => ?_) (Ev.now true))))
      simp
  · refine Ev.bind (end_of_errs he) (Ev.bind (rend_of_errs he) (Ev.bind alive_Ends (Ev.congr (fun k => ?_) (Ev.now true))))
    simp
end Go.Proofs.Ytkbjgkkdmimmnaa.Pure
