/- End and Floor of layer grain, in the words of GrainM. -/
import Derived.Test.YtkbjgkkdmimmnaaPGrainx15
import Derived.Test.YtkbjgkkdmimmnaaPGrainx13
import Derived.Test.YtkbjgkkdmimmnaaGrainL2
namespace Go.Proofs.Ytkbjgkkdmimmnaa.GrainL
open Go.RowKit Go.Proofs.YtkbjgkkdmimmnaaW.PrintWords Go.Proofs.YtkbjgkkdmimmnaaW.PrintLast Go.Proofs.Ytkbjgkkdmimmnaa.PGrain Go.Proofs.Ytkbjgkkdmimmnaa.GrainM

theorem isT0 : isT 0 := by unfold isT; omega
theorem end_of_tells {gs : List Gr} {keep t : Int} (R : Rgt gs keep) (ht : isT t) {s : Nat} (hs : s < gs.length) : Ev (fun k => grain_End.f k gs keep t (s : Int)) (en t (sz gs s), 0) := by
  unfold grain_End.f
  refine Ev.bind (fits_tells gs keep t 0) ?_
  simp only [fitE_zero.2 ⟨R, ht, isT0⟩, if_true, rd_sz]
  have h := R.size s hs
  simp only [if_neg (show ¬ (s : Int) < 0 by omega), if_neg (show ¬ (s : Int) ≥ (gs.length : Int) by omega), if_pos (show (0 : Int) ≤ (s : Int) by omega), if_pos (show (s : Int) < (gs.length : Int) by omega), end_tells ht h.1 h.2, Option.bind_some]
  exact Ev.now _
theorem end_of_none {gs : List Gr} {keep t : Int} (R : Rgt gs keep) (ht : isT t) {s : Int} (hs : s < 0 ∨ s ≥ (gs.length : Int)) : Ev (fun k => grain_End.f k gs keep t s) (0, 1) := by
  unfold grain_End.f
  refine Ev.bind (fits_tells gs keep t 0) ?_
  simp only [fitE_zero.2 ⟨R, ht, isT0⟩, if_true]
  rcases hs with hs | hs
  · simp only [if_pos hs]; exact Ev.now _
  · simp only [if_neg (show ¬ s < 0 by omega), if_pos hs]; exact Ev.now _
theorem end_of_errs {gs : List Gr} {keep t s : Int} (h : fitE gs keep t 0 ≠ 0) : Ev (fun k => grain_End.f k gs keep t s) (0, fitE gs keep t 0) := by
  unfold grain_End.f
  refine Ev.bind (fits_tells gs keep t 0) ?_
  simp only [if_neg h]
  exact Ev.now _
theorem floor_tells {t s : Int} (ht : isT t) (h1 : 1 ≤ s) (h2 : s ≤ 1099511627776) : grain_Floor.f t s = some (t - t % s, 0) := by
  unfold grain_Floor.f
  have h5 := Int.emod_nonneg t (show s ≠ 0 by omega)
  have h6 := Int.emod_lt_of_pos t (show 0 < s by omega)
  have h7 := ht
  obtain ⟨h3, h4⟩ := h7
  rw [isTime_tells]
  simp only [Option.bind_some, decide_eq_true ht, if_true]
  rw [if_neg (by omega), if_neg (by omega), if_neg (by omega), tmod_emod h3, w64 (by omega) (by omega)]
theorem floor_none {t s : Int} (h : ¬ (isT t ∧ 1 ≤ s ∧ s ≤ 1099511627776)) : grain_Floor.f t s = some (0, 1) := by
  unfold grain_Floor.f
  rw [isTime_tells]
  by_cases ht : isT t
  · simp only [Option.bind_some, decide_eq_true ht, if_true]
    by_cases h1 : s < 1
    · rw [if_pos h1]
    · rw [if_neg h1, if_pos (by
        rcases Int.lt_or_le 1099511627776 s with h2 | h2
        · exact h2
        · exact absurd ⟨ht, by omega, h2⟩ h)]
  · simp [ht]
end Go.Proofs.Ytkbjgkkdmimmnaa.GrainL
