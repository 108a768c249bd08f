/- The reference's End. -/
import Derived.Test.YtkbjgkkdmimmnaaPGrainx15
import Derived.Test.YtkbjgkkdmimmnaaGrainR
import Derived.Test.YtkbjgkkdmimmnaaGrainL3
namespace Go.Proofs.Ytkbjgkkdmimmnaa.GrainL
open Go.RowKit Go.Proofs.YtkbjgkkdmimmnaaW.PrintWords Go.Proofs.YtkbjgkkdmimmnaaW.PrintLast Go.Proofs.Ytkbjgkkdmimmnaa.PGrain Go.Proofs.Ytkbjgkkdmimmnaa.GrainM

theorem rend_of_tells {gs : List Gr} {keep t : Int} (R : Rgt gs keep) (ht : isT t) {s : Nat} (hs : s < gs.length) : Ev (fun k => rickyardref03_End.f k gs keep t (s : Int)) (en t (sz gs s), 0) := by
  unfold rickyardref03_End.f
  refine Ev.bind (may_tells gs keep t 0) ?_
  have h := R.size s hs
  have f0 := fl_nonneg ht.1 h.1
  have f1 := fl_le (t := t) h.1
  have ht2 := ht.2
  simp only [fitE_zero.2 ⟨R, ht, isT0⟩, if_true, rd_sz]
  simp only [if_neg (show ¬ (s : Int) < 0 by omega), if_neg (show ¬ (s : Int) ≥ (gs.length : Int) by omega), if_pos (show (0 : Int) ≤ (s : Int) by omega), if_pos (show (s : Int) < (gs.length : Int) by omega), rfloor_tells ht h.1 h.2, Option.bind_some]
  rw [w64 (by omega) (by omega)]
  exact Ev.now _
theorem rend_of_none {gs : List Gr} {keep t : Int} (R : Rgt gs keep) (ht : isT t) {s : Int} (hs : s < 0 ∨ s ≥ (gs.length : Int)) : Ev (fun k => rickyardref03_End.f k gs keep t s) (0, 1) := by
  unfold rickyardref03_End.f
  refine Ev.bind (may_tells gs keep t 0) ?_
  simp only [fitE_zero.2 ⟨R, ht, isT0⟩, if_true]
  rcases hs with hs | hs
  · simp only [if_pos hs]; exact Ev.now _
  · simp only [if_neg (show ¬ s < 0 by omega), if_pos hs]; exact Ev.now _
theorem rend_of_errs {gs : List Gr} {keep t s : Int} (h : fitE gs keep t 0 ≠ 0) : Ev (fun k => rickyardref03_End.f k gs keep t s) (0, fitE gs keep t 0) := by
  unfold rickyardref03_End.f
  refine Ev.bind (may_tells gs keep t 0) ?_
  simp only [if_neg h]
  exact Ev.now _
end Go.Proofs.Ytkbjgkkdmimmnaa.GrainL
