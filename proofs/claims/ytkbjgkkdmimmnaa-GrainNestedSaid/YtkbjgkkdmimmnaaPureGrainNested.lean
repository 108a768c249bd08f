/- The plain law of GrainNested: a bucket at a step lies within one at the next step. -/
import Derived.Test.YtkbjgkkdmimmnaaPGrainxSGrainNested
import Derived.Test.YtkbjgkkdmimmnaaGrainL3
import Derived.Test.YtkbjgkkdmimmnaaPGrainx9
namespace Go.Proofs.Ytkbjgkkdmimmnaa.Pure
open Go.RowKit Go.Proofs.YtkbjgkkdmimmnaaW.PrintWords Go.Proofs.YtkbjgkkdmimmnaaW.PrintLast Go.Proofs.Ytkbjgkkdmimmnaa.PGrain Go.Proofs.Ytkbjgkkdmimmnaa.GrainM Go.Proofs.Ytkbjgkkdmimmnaa.GrainL

theorem alive_Nested : Ev (fun k => rickyardlaw03_alive.f k) true := Ev.of rickyardlaw03_alive.mono (k := 30) (by decide +kernel)

open Classical in
theorem GrainNested : rickyardlaw03_GrainNested.Pure := by
  intro gs keep t step _ _ _ _
  refine Ev.rounds ?_
  have alive_j : Ev (fun k => rickyardlaw03_GrainNested.j0 k t step true gs keep) true := by
    refine Ev.step (f := fun k => rickyardlaw03_alive.f k) (fun k => ?_) alive_Nested
    simp only [rickyardlaw03_GrainNested.j0]
    simp
  unfold rickyardlaw03_GrainNested.f
  refine Ev.bind (right_tells gs keep) ?_
  by_cases R : Rgt gs keep
  · simp only [decide_eq_true R, if_true]
    have h1 := R.one
    have h4 := R.four
    rw [w64 (x := (gs.length : Int) - 1) (by omega) (by omega)]
    by_cases hs : step < 0
    · simp only [if_pos hs]; exact alive_j
    simp only [if_neg hs]
    by_cases hs2 : step ≥ (gs.length : Int) - 1
    · rw [decide_eq_true hs2]; exact alive_j
    rw [decide_eq_false hs2]
    obtain ⟨s, rfl⟩ : ∃ s : Nat, step = (s : Int) := ⟨step.toNat, by omega⟩
    have hlt : s < gs.length := by omega
    have hlt1 : s + 1 < gs.length := by omega
    refine Ev.step (f := fun k => _) (fun k => by simp only [rickyardlaw03_GrainNested.j0]; rfl) ?_
    simp only [Bool.false_eq_true, if_false, rd_sz]
    rw [show wrap64 ((s : Int) + 1) = ((s + 1 : Nat) : Int) from by rw [w64] <;> omega]
    simp only [rd_sz, if_pos (show (0 : Int) ≤ (s : Int) by omega), if_pos (show (s : Int) < (gs.length : Int) by omega), if_pos (show (0 : Int) ≤ ((s + 1 : Nat) : Int) by omega), if_pos (show ((s + 1 : Nat) : Int) < (gs.length : Int) by omega)]
    have z := R.size s hlt
    have z1 := R.size (s + 1) hlt1
    by_cases ht : isT t
    · simp only [floor_tells ht z.1 z.2, floor_tells ht z1.1 z1.2, Option.bind_some, if_true]
      refine Ev.bind (end_of_tells R ht hlt) (Ev.bind (end_of_tells R ht hlt1) (Ev.bind alive_Nested (Ev.congr (fun k => ?_) (Ev.now true))))
      obtain ⟨n1, n2⟩ := nest (t := t) z.1 z1.1 (R.up s hlt1).2.1
      have f1 := fl_le (t := t) z.1
      have f2 := lt_en (t := t) z.1
      rw [if_pos rfl, if_pos rfl, if_pos rfl, if_pos n1, if_pos f1, if_pos f2, decide_eq_true n2]
    · have e1 : grain_Floor.f t (sz gs s) = some (0, 1) := floor_none (fun h => ht h.1)
      have e2 : grain_Floor.f t (sz gs (s + 1)) = some (0, 1) := floor_none (fun h => ht h.1)
      simp only [e1, e2, Option.bind_some, if_neg (show ¬ (1 : Int) = 0 by decide)]
      exact Ev.bind alive_Nested (Ev.congr (fun k => by simp) (Ev.now true))
  · simp only [decide_eq_false R, Bool.false_eq_true, if_false]
    exact alive_j
end Go.Proofs.Ytkbjgkkdmimmnaa.Pure
