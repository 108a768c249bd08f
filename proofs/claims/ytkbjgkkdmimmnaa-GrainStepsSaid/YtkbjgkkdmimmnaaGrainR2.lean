/- The references' Step, Bucket, Expired and End. -/
import Derived.Test.YtkbjgkkdmimmnaaPGrainx4
import Derived.Test.YtkbjgkkdmimmnaaGrainR
import Derived.Test.YtkbjgkkdmimmnaaGrainL2
namespace Go.Proofs.Ytkbjgkkdmimmnaa.GrainL
open Go.RowKit Go.Proofs.YtkbjgkkdmimmnaaW.PrintWords Go.Proofs.YtkbjgkkdmimmnaaW.PrintLast Go.Proofs.Ytkbjgkkdmimmnaa.PGrain Go.Proofs.Ytkbjgkkdmimmnaa.GrainM

theorem rstep_from {gs : List Gr} {keep t w : Int} (R : Rgt gs keep) (ht : isT t) {s : Nat} (S : IsStep gs.length (sz gs) (ag gs) t w s) (i : Nat) : ∀ k : Nat, s ≤ i → i < gs.length →
    rickyardref03_Step.l0 (k + i + 1) t w 0 (i : Int) gs keep = some ((s : Int), 0) := by
  induction i with
  | zero =>
    intro k h1 h2
    obtain rfl : s = 0 := by omega
    simp only [rickyardref03_Step.l0]
    rw [if_neg (by omega)]
    rfl
  | succ i ih =>
    intro k h1 h2
    have h4 := R.four
    have hs := R.size (i + 1) h2
    have ha := R.age (i + 1) h2
    have f0 := fl_nonneg ht.1 hs.1
    have f1 := fl_le (t := t) hs.1
    have ht2 := ht.2
    rw [show k + (i + 1) + 1 = (k + i + 1) + 1 from by omega]
    generalize hm : k + i + 1 = m
    simp only [rickyardref03_Step.l0, rd_sz, rd_ag]
    rw [if_pos (by omega), if_pos (by omega), if_pos (by omega), rfloor_tells ht hs.1 hs.2]
    simp only [Option.bind_some]
    simp only [w64 (x := t - t % sz gs (i + 1) + sz gs (i + 1)) (by omega) (by omega), w64 (x := t - t % sz gs (i + 1) + sz gs (i + 1) + ag gs (i + 1)) (by omega) (by omega)]
    have ho := R.step_of S (i := i + 1) (by omega) h2
    unfold old en at ho
    by_cases hi : i + 1 ≤ s
    · rw [if_pos (by have := ho.2 hi; omega)]
      obtain rfl : s = i + 1 := by omega
      rfl
    · rw [if_neg (by
        intro hc
        exact hi (ho.1 (by omega)))]
      rw [show wrap64 (((i + 1 : Nat) : Int) - 1) = (i : Int) from by rw [w64] <;> omega, ← hm]
      exact ih k (by omega) (by omega)
theorem rstep_tells {gs : List Gr} {keep t w : Int} (R : Rgt gs keep) (ht : isT t) (hw : isT w) {s : Nat} (S : IsStep gs.length (sz gs) (ag gs) t w s) : Ev (fun k => rickyardref03_Step.f k gs keep t w) ((s : Int), 0) := by
  unfold rickyardref03_Step.f
  refine Ev.bind (may_tells gs keep t w) ?_
  rw [fitE_zero.2 ⟨R, ht, hw⟩]
  simp only [if_true]
  have h4 := R.four
  have h1 := R.one
  have hl := S.lt
  refine ⟨gs.length, fun k hk => ?_⟩
  have := rstep_from R ht S (gs.length - 1) (k - gs.length) (by omega) (by omega)
  rw [show k - gs.length + (gs.length - 1) + 1 = k from by omega] at this
  rw [show wrap64 ((gs.length : Int) - 1) = ((gs.length - 1 : Nat) : Int) from by rw [w64] <;> omega]
  exact this
theorem rstep_errs {gs : List Gr} {keep t w : Int} (h : fitE gs keep t w ≠ 0) : Ev (fun k => rickyardref03_Step.f k gs keep t w) (0, fitE gs keep t w) := by
  unfold rickyardref03_Step.f
  refine Ev.bind (may_tells gs keep t w) ?_
  simp only [if_neg h]
  exact Ev.now _
theorem rbucket_tells {gs : List Gr} {keep t w : Int} (R : Rgt gs keep) (ht : isT t) (hw : isT w) {s : Nat} (S : IsStep gs.length (sz gs) (ag gs) t w s) :
    Ev (fun k => rickyardref03_Bucket.f k gs keep t w) (t - t % sz gs s, (s : Int), 0) := by
  unfold rickyardref03_Bucket.f
  refine Ev.bind (rstep_tells R ht hw S) ?_
  have hs := R.size s S.lt
  have h7 := S.lt
  simp only [if_true, rd_sz]
  simp only [if_pos (show (0 : Int) ≤ (s : Int) by omega), if_pos (show (s : Int) < (gs.length : Int) by omega), rfloor_tells ht hs.1 hs.2, Option.bind_some]
  exact Ev.now _
theorem rbucket_errs {gs : List Gr} {keep t w : Int} (h : fitE gs keep t w ≠ 0) : Ev (fun k => rickyardref03_Bucket.f k gs keep t w) (0, 0, fitE gs keep t w) := by
  unfold rickyardref03_Bucket.f
  refine Ev.bind (rstep_errs h) ?_
  simp only [if_neg h]
  exact Ev.now _
open Classical in
theorem rexpired_tells {gs : List Gr} {keep t w : Int} (R : Rgt gs keep) (ht : isT t) (hw : isT w) :
    Ev (fun k => rickyardref03_Expired.f k gs keep t w) (decide (en t (sz gs (gs.length - 1)) ≤ w - keep), 0) := by
  unfold rickyardref03_Expired.f
  refine Ev.bind (may_tells gs keep t w) ?_
  have h1 := R.one
  have h4 := R.four
  have hk : ag gs (gs.length - 1) ≤ keep := R.kept
  have ha := R.age (gs.length - 1) (by omega)
  have hm : keep ≤ 2199023255552 := R.most
  have hs := R.size (gs.length - 1) (by omega)
  have f0 := fl_nonneg ht.1 hs.1
  have f1 := fl_le (t := t) hs.1
  have ht2 := ht.2
  have e : wrap64 ((gs.length : Int) - 1) = ((gs.length - 1 : Nat) : Int) := by rw [w64] <;> omega
  simp only [fitE_zero.2 ⟨R, ht, hw⟩, if_true, e, rd_sz]
  simp only [if_pos (show (0 : Int) ≤ ((gs.length - 1 : Nat) : Int) by omega), if_pos (show ((gs.length - 1 : Nat) : Int) < (gs.length : Int) by omega), rfloor_tells ht hs.1 hs.2, Option.bind_some]
  have e1 : wrap64 (wrap64 (t - t % sz gs (gs.length - 1) + sz gs (gs.length - 1)) + keep) = t - t % sz gs (gs.length - 1) + sz gs (gs.length - 1) + keep := by
    rw [w64 (x := t - t % sz gs (gs.length - 1) + sz gs (gs.length - 1)) (by omega) (by omega), w64 (by omega) (by omega)]
  have e2 : ∀ (p q : Prop) [Decidable p] (i : Decidable q), (p ↔ q) → some (decide p, (0 : Int)) = some (@decide q i, 0) := fun p q _ i h => by
    rw [decide_eq_decide.2 h]
  refine ⟨0, fun _ _ => e2 _ _ _ ?_⟩
  show wrap64 (wrap64 (t - t % sz gs (gs.length - 1) + sz gs (gs.length - 1)) + keep) ≤ w ↔ _
  rw [e1]
  unfold en
  omega
theorem rexpired_errs {gs : List Gr} {keep t w : Int} (h : fitE gs keep t w ≠ 0) : Ev (fun k => rickyardref03_Expired.f k gs keep t w) (false, fitE gs keep t w) := by
  unfold rickyardref03_Expired.f
  refine Ev.bind (may_tells gs keep t w) ?_
  simp only [if_neg h]
  exact Ev.now _
end Go.Proofs.Ytkbjgkkdmimmnaa.GrainL
