/- The plain law of GrainWhole: all times of one bucket have, at a watermark, that bucket, and are expired together. -/
import Derived.Test.YtkbjgkkdmimmnaaPGrainxSGrainWhole
import Derived.Test.YtkbjgkkdmimmnaaGrainL3
import Derived.Test.YtkbjgkkdmimmnaaPGrainx9
namespace Go.Proofs.Ytkbjgkkdmimmnaa.Pure
open Go.RowKit Go.Proofs.YtkbjgkkdmimmnaaW.PrintWords Go.Proofs.YtkbjgkkdmimmnaaW.PrintLast Go.Proofs.Ytkbjgkkdmimmnaa.PGrain Go.Proofs.Ytkbjgkkdmimmnaa.GrainM Go.Proofs.Ytkbjgkkdmimmnaa.GrainL

theorem alive_Whole : Ev (fun k => rickyardlaw03_alive.f k) true := Ev.of rickyardlaw03_alive.mono (k := 30) (by decide +kernel)

theorem GrainWhole : rickyardlaw03_GrainWhole.Pure := by
  intro gs keep t w by_ _ _ _ _ _
  refine Ev.rounds ?_
  unfold rickyardlaw03_GrainWhole.f
  by_cases he : fitE gs keep t w = 0
  · obtain ⟨R, ht, hw⟩ := fitE_zero.1 he
    obtain ⟨a, A⟩ := R.step_ex t w
    have hs := R.size a A.lt
    have hf0 : 0 ≤ t - t % sz gs a := fl_nonneg ht.1 hs.1
    have hf1 : t - t % sz gs a ≤ t := fl_le hs.1
    have he1 : t < en t (sz gs a) := lt_en hs.1
    have he2 : en t (sz gs a) ≤ t + sz gs a := en_le hs.1
    have ht2 := ht.2
    have alive_j : Ev (fun k => rickyardlaw03_GrainWhole.j0 k t w by_ (t - t % sz gs a) (a : Int) (en t (sz gs a)) 0 true gs keep) true := by
      refine Ev.step (f := fun k => _) (fun k => by simp only [rickyardlaw03_GrainWhole.j0]; rfl) ?_
      simp only [if_true]
      refine Ev.bind alive_Whole (Ev.congr (fun k => ?_) (Ev.now true))
      simp [hf1, he1]
    refine Ev.bind (bucket_tells R ht hw A) ?_
    simp only [if_true]
    refine Ev.bind (end_of_tells R ht A.lt) ?_
    simp only [if_true]
    by_cases h1 : t - t % sz gs a > t
    · omega
    simp only [if_neg h1]
    by_cases h2 : t ≥ en t (sz gs a)
    · omega
    simp only [if_neg h2]
    by_cases h3 : by_ < 0
    · simp only [if_pos h3]; exact alive_j
    simp only [if_neg h3]
    rw [w64 (x := en t (sz gs a) - (t - t % sz gs a)) (by omega) (by omega)]
    by_cases h4 : by_ ≥ en t (sz gs a) - (t - t % sz gs a)
    · simp only [if_pos h4]; exact alive_j
    simp only [if_neg h4]
    rw [w64 (x := 1099511627776 - by_) (by omega) (by omega)]
    by_cases h5 : t - t % sz gs a > 1099511627776 - by_
    · rw [decide_eq_true h5]; exact alive_j
    rw [decide_eq_false h5]
    refine Ev.step (f := fun k => _) (fun k => by simp only [rickyardlaw03_GrainWhole.j0]; rfl) ?_
    simp only [Bool.false_eq_true, if_false]
    rw [w64 (x := t - t % sz gs a + by_) (by omega) (by omega)]
    have hu : isT (t - t % sz gs a + by_) := ⟨by omega, by omega⟩
    obtain ⟨B, hb, hx⟩ := R.whole (u := t - t % sz gs a + by_) A (by omega) (by omega)
    refine Ev.bind (bucket_tells R hu hw B) (Ev.bind (expired_tells R ht hw) (Ev.bind (expired_tells R hu hw) (Ev.bind alive_Whole (Ev.congr (fun k => ?_) (Ev.now true)))))
    rw [hx, hb]
    simp
  · refine Ev.bind (bucket_errs he) ?_
    simp only [if_neg he]
    exact Ev.bind alive_Whole (Ev.now _)
end Go.Proofs.Ytkbjgkkdmimmnaa.Pure
