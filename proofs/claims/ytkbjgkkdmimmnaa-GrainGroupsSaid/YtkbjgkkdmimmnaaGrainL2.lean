/- Bucket, Expired, End and Floor of layer grain, in the words of GrainM. -/
import Derived.Test.YtkbjgkkdmimmnaaPGrainx4
import Derived.Test.YtkbjgkkdmimmnaaGrainL
namespace Go.Proofs.Ytkbjgkkdmimmnaa.GrainL
open Go.RowKit Go.Proofs.YtkbjgkkdmimmnaaW.PrintWords Go.Proofs.YtkbjgkkdmimmnaaW.PrintLast Go.Proofs.Ytkbjgkkdmimmnaa.PGrain Go.Proofs.Ytkbjgkkdmimmnaa.GrainM

theorem rd_sz (gs : List Gr) (i : Nat) : (rd_T42 gs (i : Int)).f0 = sz gs i := rfl
theorem rd_ag (gs : List Gr) (i : Nat) : (rd_T42 gs (i : Int)).f1 = ag gs i := rfl

theorem bucket_tells {gs : List Gr} {keep t w : Int} (R : Rgt gs keep) (ht : isT t) (hw : isT w) {s : Nat} (S : IsStep gs.length (sz gs) (ag gs) t w s) :
    Ev (fun k => grain_Bucket.f k gs keep t w) (t - t % sz gs s, (s : Int), 0) := by
  unfold grain_Bucket.f
  refine Ev.bind (step_tells R ht hw S) ?_
  have hs := R.size s S.lt
  have h5 := Int.emod_nonneg t (show sz gs s ≠ 0 by omega)
  have h6 := Int.emod_lt_of_pos t (show 0 < sz gs s by omega)
  have h7 := S.lt
  obtain ⟨h8, h9⟩ := ht
  simp only [if_true, rd_sz]
  simp only [if_pos (show (0 : Int) ≤ (s : Int) by omega), if_pos (show (s : Int) < (gs.length : Int) by omega), if_neg (show ¬ sz gs s = 0 by omega), tmod_emod h8, w64 (x := t - t % sz gs s) (by omega) (by omega)]
  exact Ev.now _
theorem bucket_errs {gs : List Gr} {keep t w : Int} (h : fitE gs keep t w ≠ 0) : Ev (fun k => grain_Bucket.f k gs keep t w) (0, 0, fitE gs keep t w) := by
  unfold grain_Bucket.f
  refine Ev.bind (step_errs h) ?_
  simp only [if_neg h]
  exact Ev.now _

open Classical in
theorem expired_tells {gs : List Gr} {keep t w : Int} (R : Rgt gs keep) (ht : isT t) (hw : isT w) :
    Ev (fun k => grain_Expired.f k gs keep t w) (decide (en t (sz gs (gs.length - 1)) ≤ w - keep), 0) := by
  unfold grain_Expired.f
  refine Ev.bind (fits_tells gs keep t w) ?_
  have h1 := R.one
  have h4 := R.four
  have hk : ag gs (gs.length - 1) ≤ keep := R.kept
  have ha := R.age (gs.length - 1) (by omega)
  have hm : keep ≤ 2199023255552 := R.most
  have hs := R.size (gs.length - 1) (by omega)
  have e : wrap64 ((gs.length : Int) - 1) = ((gs.length - 1 : Nat) : Int) := by rw [w64] <;> omega
  have e2 : wrap64 (w - keep) = w - keep := by
    obtain ⟨h8, h9⟩ := hw
    rw [w64] <;> omega
  simp only [fitE_zero.2 ⟨R, ht, hw⟩, if_true, e, rd_sz, e2]
  simp only [if_pos (show (0 : Int) ≤ ((gs.length - 1 : Nat) : Int) by omega), if_pos (show ((gs.length - 1 : Nat) : Int) < (gs.length : Int) by omega), end_tells ht hs.1 hs.2, Option.bind_some]
  have : (decide (en t (sz gs (gs.length - 1)) ≤ w - keep)) = @decide (en t (sz gs (gs.length - 1)) ≤ w - keep) (propDecidable _) := by congr
  rw [this]
  exact Ev.now _
theorem expired_errs {gs : List Gr} {keep t w : Int} (h : fitE gs keep t w ≠ 0) : Ev (fun k => grain_Expired.f k gs keep t w) (false, fitE gs keep t w) := by
  unfold grain_Expired.f
  refine Ev.bind (fits_tells gs keep t w) ?_
  simp only [if_neg h]
  exact Ev.now _
end Go.Proofs.Ytkbjgkkdmimmnaa.GrainL
