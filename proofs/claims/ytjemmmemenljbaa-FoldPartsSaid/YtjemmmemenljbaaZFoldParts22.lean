import Derived.Test.YtjemmmemenljbaaZFoldParts21
section
namespace Go.Proofs.Ytjemmmemenljbaa.Pure
open Go.RowKit Go.Proofs.YtjemmmemenljbaaW.PrintWords Go.Proofs.YtjemmmemenljbaaW.PrintLast Go.Proofs.YtjemmmemenljbaaW.PrintMore Go.Proofs.Ytjemmmemenljbaa.PFold Go.Proofs.Ytjemmmemenljbaa.GrainM Go.Proofs.Ytjemmmemenljbaa.GrainL
set_option linter.unusedVariables false
set_option linter.unusedSimpArgs false
set_option maxHeartbeats 8000000
set_option maxRecDepth 100000
theorem FoldParts : rickyardlaw15_FoldParts.Pure := by
  classical
  intro gs keep w one two a b _ _ _ _ _ hwa hwb
  refine Ev.rounds ?_
  unfold rickyardlaw15_FoldParts.f
  obtain ⟨t, ht, hf⟩ := great_ex a
  refine Ev.bind ht ?_
  cases t with
  | true => simp only [if_true]; exact alive_tells
  | false =>
    obtain ⟨a60, ak⟩ := hf rfl
    simp only [Bool.false_eq_true, if_false]
    obtain ⟨t, ht, hf⟩ := great_ex b
    refine Ev.bind ht ?_
    cases t with
    | true => simp only [if_true]; exact alive_tells
    | false =>
      obtain ⟨b60, bk⟩ := hf rfl
      have wa : ∀ x ∈ a, WfE x := fun x hx => wfE_of (hwa.2 x hx) (ak x hx)
      have wb : ∀ x ∈ b, WfE x := fun x hx => wfE_of (hwb.2 x hx) (bk x hx)
      simp only [Bool.false_eq_true, if_false]
      by_cases o1 : one > w
      · simp only [if_pos o1]; exact alive_tells
      simp only [if_neg o1]
      by_cases o2 : two > w
      · simp only [if_pos o2]; exact alive_tells
      simp only [if_neg o2]
      obtain ⟨g, hg⟩ := mAll_ex (a := a) (b := b) (by omega) (by omega) wa wb
      by_cases oa : okL gs keep one a
      case neg =>
        obtain ⟨e, he, h⟩ := fold_errs (gs := gs) (keep := keep) (wm := one) (l := a) (by omega) wa oa
        by_cases ob : okL gs keep two b
        · refine Ev.bind h (Ev.bind (fold_tells (by omega) wb ob) (Ev.bind hg ?_))
          simp only [if_neg he]
          exact alive_tells
        · obtain ⟨e2, _, h2⟩ := fold_errs (gs := gs) (keep := keep) (wm := two) (l := b) (by omega) wb ob
          refine Ev.bind h (Ev.bind h2 (Ev.bind hg ?_))
          simp only [if_neg he]
          exact alive_tells
      by_cases ob : okL gs keep two b
      case neg =>
        obtain ⟨e2, he2, h2⟩ := fold_errs (gs := gs) (keep := keep) (wm := two) (l := b) (by omega) wb ob
        refine Ev.bind (fold_tells (by omega) wa oa) (Ev.bind h2 (Ev.bind hg ?_))
        simp only [if_true, if_neg he2]
        exact alive_tells
      obtain ⟨x1, x2, x3, x4, _⟩ := foldM_ok wa oa
      obtain ⟨y1, y2, y3, y4, _⟩ := foldM_ok wb ob
      have hab := mAll_tells (gs := gs) (a := a) (b := b) (by omega) (by omega) wa wb oa.2.2.1 ob.2.2.1 oa.2.2.2 ob.2.2.2
      have hxy := mAll_tells (gs := gs) (a := foldM gs keep one a) (b := foldM gs keep two b) (by omega) (by omega) x3 y3 x1 y1 x2 y2
      refine Ev.bind (fold_tells (by omega) wa oa) (Ev.bind (fold_tells (by omega) wb ob) (Ev.bind hab ?_))
      simp only [if_true]
      refine Ev.bind hxy ?_
      have l1 := nrm_len (a ++ b)
      have l2 := nrm_len (foldM gs keep one a ++ foldM gs keep two b)
      rw [List.length_append] at l1 l2
      by_cases hT : isT w
      · have f1 := nrm_fit wa wb oa.2.2.2 ob.2.2.2
        have f2 := nrm_fit x3 y3 x2 y2
        have k1 : okL gs keep w (nrm (a ++ b)) := ⟨oa.1, hT, nrm_sorted _, fun x hx => (f1 x hx).1⟩
        have k2 : okL gs keep w (nrm (foldM gs keep one a ++ foldM gs keep two b)) := ⟨oa.1, hT, nrm_sorted _, fun x hx => (f2 x hx).1⟩
        have p1 := fold_tells (l := nrm (a ++ b)) (by omega) (fun x hx => (f1 x hx).2) k1
        have p2 := fold_tells (l := nrm (foldM gs keep one a ++ foldM gs keep two b)) (by omega) (fun x hx => (f2 x hx).2) k2
        refine Ev.bind p1 (Ev.bind p2 (Ev.bind alive_tells ?_))
        have ga : Go.Proofs.Ytjemmmemenljbaa.PFold.Good a := fun x hx => okP_of (wa x hx) (oa.2.2.2 x hx)
        have gb : Go.Proofs.Ytjemmmemenljbaa.PFold.Good b := fun x hx => okP_of (wb x hx) (ob.2.2.2 x hx)
        have gx : Go.Proofs.Ytjemmmemenljbaa.PFold.Good (foldM gs keep one a) := fun x hx => okP_of (x3 x hx) (x2 x hx)
        have gy : Go.Proofs.Ytjemmmemenljbaa.PFold.Good (foldM gs keep two b) := fun x hx => okP_of (y3 x hx) (y2 x hx)
        have e : foldM gs keep w (nrm (foldM gs keep one a ++ foldM gs keep two b)) = foldM gs keep w (nrm (a ++ b)) := by
          have q1 : nrm (mapE (AtK gs keep w) (foldM gs keep one a)) = nrm (mapE (AtK gs keep w) a) := foldM_later wa oa hT (by omega)
          have q2 : nrm (mapE (AtK gs keep w) (foldM gs keep two b)) = nrm (mapE (AtK gs keep w) b) := foldM_later wb ob hT (by omega)
          show nrm (mapE (AtK gs keep w) (nrm (foldM gs keep one a ++ foldM gs keep two b))) = nrm (mapE (AtK gs keep w) (nrm (a ++ b)))
          rw [mapE_nrm _ (good_app gx gy), mapE_nrm _ (good_app ga gb), mapE_append, mapE_append, ← nrm_both (mapE_good gx) (mapE_good gy), q1, q2, nrm_both (mapE_good ga) (mapE_good gb)]
        rw [e]
        have l3 : (foldM gs keep w (nrm (a ++ b))).length ≤ 1000 := by
          have h1 := nrm_len (mapE (AtK gs keep w) (nrm (a ++ b)))
          have h2 := mapE_len (AtK gs keep w) (nrm (a ++ b))
          show (nrm (mapE (AtK gs keep w) (nrm (a ++ b)))).length ≤ 1000
          omega
        have ps := same_tells (foldM gs keep w (nrm (a ++ b))) (by omega)
        refine Ev.bind ps (Ev.congr (fun k => ?_) (Ev.now true))
        simp
      · refine Ev.bind (fold_late oa.1 hT _) (Ev.bind (fold_late oa.1 hT _) (Ev.bind alive_tells ?_))
        refine Ev.bind (same_tells [] (by simp)) (Ev.congr (fun k => ?_) (Ev.now true))
        simp
end Go.Proofs.Ytjemmmemenljbaa.Pure
end
