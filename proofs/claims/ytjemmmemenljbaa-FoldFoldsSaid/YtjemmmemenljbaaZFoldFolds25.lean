import Derived.Test.YtjemmmemenljbaaZFoldFolds24
section
namespace Go.Proofs.Ytjemmmemenljbaa.PFold
open Go.RowKit Go.Proofs.YtjemmmemenljbaaW.PrintWords Go.Proofs.YtjemmmemenljbaaW.PrintLast Go.Proofs.YtjemmmemenljbaaW.PrintMore Go.Proofs.Ytjemmmemenljbaa.GrainM Go.Proofs.Ytjemmmemenljbaa.GrainL
set_option linter.unusedVariables false
set_option linter.unusedSimpArgs false
set_option maxHeartbeats 8000000
set_option maxRecDepth 100000
structure FitK (gs : List Gr) (b : List Int) (d : List ByteArray) (f : Int) (g : Nat) : Prop where
  read : Ev (fun k => key_Read.f k b) (d, f, (g : Int), 0)
  dims : dimsB d = true
  time : isT f
  gran : g < gs.length
  from_ : f % sz gs g = 0
def fitK (gs : List Gr) (b : List Int) : Prop := ∃ d f g, FitK gs b d f g
def agR (a : Ag) : Prop := a.f3 ≤ a.f4 ∧ (a.f1 = true → a.f0 = mW - 1)
def fitX (gs : List Gr) (x : En) : Prop := fitK gs x.f0 ∧ x.f1.f0 ≠ 0 ∧ agR x.f1
open Classical in
theorem right_ag {a : Ag} (h0 : a.f0 ≠ 0) : agg_Right.f a.f0 a.f1 a.f2.f0 a.f2.f1 a.f3 a.f4 = some (decide (agR a)) := by
  unfold agg_Right.f agR
  rw [if_neg h0]
  by_cases h1 : a.f3 ≤ a.f4
  · by_cases h2 : a.f1 = true
    · rw [if_pos h1, if_pos h2]
      have : (a.f0 == 18446744073709551615) = decide (a.f0 = 18446744073709551615) := rfl
      rw [this]
      simp [h1, h2, mW]
    · rw [if_pos h1, if_neg h2]; simp [h1, h2]
  · rw [if_neg h1]; simp [h1]
open Classical in
theorem fits_tells1 {gs : List Gr} {keep : Int} (R : Rgt gs keep) (x : En) (hb : x.f0.length < 1000000) :
    Ev (fun k => fold_fits.f k gs keep x.f0 x.f1.f0 x.f1.f1 x.f1.f2.f0 x.f1.f2.f1 x.f1.f3 x.f1.f4) (decide (fitX gs x)) := by
  obtain ⟨⟨d, f, g, e⟩, h, hk⟩ := read_ex x.f0 hb
  have h4 := R.four
  unfold fold_fits.f
  refine Ev.bind h ?_
  have no : ∀ hh : ¬ fitX gs x, ∀ {q : Nat → Option Bool}, (∀ k, q k = some false) → Ev q (decide (fitX gs x)) := fun hh q hq => by
    rw [decide_eq_false hh]
    exact Ev.congr hq (Ev.now _)
  have un : ∀ d' f' g', FitK gs x.f0 d' f' g' → d = d' ∧ f = f' ∧ g = (g' : Int) ∧ e = 0 := fun d' f' g' F => by
    have := Ev.uniq h F.read
    simpa using this
  by_cases he : e = 0
  · obtain ⟨hd, hf, hg0, hg4⟩ := hk he
    subst he
    obtain ⟨n, rfl⟩ : ∃ n : Nat, g = (n : Int) := ⟨g.toNat, by simp only at hg0; omega⟩
    by_cases hn : n < gs.length
    · have hs := R.size n hn
      have e1 : Int.tmod f (sz gs n) = f % sz gs n := tmod_emod hf.1
      by_cases hm : f % sz gs n = 0
      · by_cases h0 : x.f1.f0 = 0
        · refine no (fun hh => hh.2.1 h0) (fun k => ?_)
          simp only [rd_sz, e1]
          rw [if_pos trivial, if_pos (by omega), if_pos (by omega), if_neg (by omega), if_pos hm, if_pos h0]
        · refine Ev.congr (fun k => ?_) (Ev.now _)
          simp only [rd_sz, e1, right_ag h0]
          rw [if_pos trivial, if_pos (by omega), if_pos (by omega), if_neg (by omega), if_pos hm, if_neg h0, Option.bind_some]
          congr 1
          apply decide_eq_decide.2
          exact ⟨fun ha => ⟨⟨d, f, n, h, hd, hf, hn, hm⟩, h0, ha⟩, fun hh => hh.2.2⟩
      · refine no (fun hh => ?_) (fun k => ?_)
        · obtain ⟨⟨d', f', g', F⟩, _⟩ := hh
          obtain ⟨rfl, rfl, hg, _⟩ := un _ _ _ F
          obtain rfl : n = g' := by omega
          exact hm F.from_
        · simp only [rd_sz, e1]
          rw [if_pos trivial, if_pos (by omega), if_pos (by omega), if_neg (by omega), if_neg hm]
    · refine no (fun hh => ?_) (fun k => ?_)
      · obtain ⟨⟨d', f', g', F⟩, _⟩ := hh
        obtain ⟨rfl, rfl, hg, _⟩ := un _ _ _ F
        have := F.gran
        omega
      · simp only
        rw [if_pos trivial, if_neg (by omega)]
  · refine no (fun hh => ?_) (fun k => ?_)
    · obtain ⟨⟨d', f', g', F⟩, _⟩ := hh
      exact he (un _ _ _ F).2.2.2
    · simp only
      rw [if_neg he]
theorem any_tells {q : Nat → En → Option Bool} {p : En → Bool} : ∀ {l : List En}, (∀ x ∈ l, Ev (fun k => q k x) (p x)) → Ev (fun k => anyQ (q k) l) (l.any p)
  | [], _ => Ev.now _
  | x :: r, h => by
    have ih := any_tells (fun y hy => h y (List.mem_cons_of_mem _ hy))
    show Ev (fun k => (q k x).bind _) _
    refine Ev.bind (h x List.mem_cons_self) ?_
    rw [List.any_cons]
    cases hp : p x with
    | true => exact Ev.congr (fun k => by simp) (Ev.now _)
    | false => exact Ev.congr (fun k => by simp) ih
open Classical in
theorem fits_tells2 {gs : List Gr} {keep : Int} (R : Rgt gs keep) {l : List En} (hl : l.length < 1000000) (hb : ∀ x ∈ l, x.f0.length < 1000000) :
    Ev (fun k => fold_Fits.f k gs keep l) (decide (∀ x ∈ l, fitX gs x)) := by
  unfold fold_Fits.f
  by_cases h0 : l.length = 0
  · obtain rfl := List.length_eq_zero_iff.1 h0
    exact Ev.congr (fun k => by simp) (Ev.now _)
  · simp only [if_neg h0]
    refine Ev.bind (right_tells gs keep) ?_
    simp only [decide_eq_true R, if_true, if_pos (show l.length ≤ 140737488355328 by omega)]
    refine Ev.bind (any_tells (p := fun x => !decide (fitX gs x)) (fun x hx => ?_)) (Ev.congr (fun k => ?_) (Ev.now _))
    · unfold unfit
      exact Ev.bind (fits_tells1 R x (hb x hx)) (Ev.now _)
    · congr 1
      by_cases hh : ∀ x ∈ l, fitX gs x
      · rw [decide_eq_true hh, List.any_eq_false.2 (fun x hx => by simp [hh x hx])]; rfl
      · rw [decide_eq_false hh]
        have : l.any (fun x => !decide (fitX gs x)) = true := by
          obtain ⟨x, hx⟩ := Classical.not_forall.1 hh
          obtain ⟨hx, hn⟩ := Classical.not_imp.1 hx
          exact List.any_eq_true.2 ⟨x, hx, by simp [hn]⟩
        rw [this]; rfl
def okL (gs : List Gr) (keep wm : Int) (l : List En) : Prop := Rgt gs keep ∧ isT wm ∧ SortedE l ∧ ∀ x ∈ l, fitX gs x
theorem sorted_adj {l : List En} (h : ∀ j (hj : j < l.length), 0 < j → cmpB (l[j - 1]'(by omega)).f0 l[j].f0 < 0) : SortedE l := by
  refine List.pairwise_iff_getElem.2 (fun i j hi hj hij => ?_)
  induction j with
  | zero => omega
  | succ j ih =>
    have h1 := h (j + 1) hj (by omega)
    simp only [Nat.add_sub_cancel] at h1
    rcases Nat.lt_or_ge i j with hl | hl
    · exact cmpB_trans (ih (by omega) hl) h1
    · obtain rfl : i = j := by omega
      exact h1
open Classical in
theorem check_loop {gs : List Gr} {keep : Int} (R : Rgt gs keep) {l : List En} (hl : l.length < 1000000) (hb : ∀ x ∈ l, x.f0.length < 1000000) (hB : ∀ x ∈ l, x.f0.all isB = true) (d : Nat) : ∀ i : Nat, l.length - i = d → i ≤ l.length →
    ∃ e, Ev (fun k => fold_check.l0 k l (l.length : Int) (i : Int) gs keep) e ∧ (e = 0 ↔ (∀ j (hj : j < l.length), i ≤ j → 0 < j → cmpB (l[j - 1]'(by omega)).f0 l[j].f0 < 0) ∧ ∀ x ∈ l, fitX gs x) := by
  induction d with
  | zero =>
    intro i hd hi
    refine ⟨if ∀ x ∈ l, fitX gs x then 0 else 3, Ev.step (f := fun k => (fold_Fits.f k gs keep l).bind fun t121 => (if t121 = true then (some 0) else (some 3))) (fun k => ?_) (Ev.bind (fits_tells2 R hl hb) (Ev.congr (fun k => ?_) (Ev.now _))), ?_⟩
    · simp only [fold_check.l0]
      rw [if_neg (by omega)]
    · by_cases hh : ∀ x ∈ l, fitX gs x
      · rw [decide_eq_true hh, if_pos rfl, if_pos hh]
      · rw [decide_eq_false hh, if_neg (by decide), if_neg hh]
    · by_cases hh : ∀ x ∈ l, fitX gs x
      · rw [if_pos hh]
        exact ⟨fun _ => ⟨fun j hj hij => by omega, hh⟩, fun _ => rfl⟩
      · rw [if_neg hh]
        exact ⟨fun h => by omega, fun h => absurd h.2 hh⟩
  | succ d ih =>
    intro i hd hi
    have hlt : i < l.length := by omega
    obtain ⟨e, h, he⟩ := ih (i + 1) (by omega) (by omega)
    rcases Nat.eq_zero_or_pos i with h0 | h0
    · subst h0
      refine ⟨e, Ev.step (fun k => ?_) h, ?_⟩
      · simp only [fold_check.l0]
        rw [if_pos (by omega), if_neg (by omega), kw64 (by omega) (by omega)]
        rfl
      · rw [he]
        exact ⟨fun hh => ⟨fun j hj h1 h2 => hh.1 j hj (by omega) h2, hh.2⟩, fun hh => ⟨fun j hj h1 h2 => hh.1 j hj (by omega) h2, hh.2⟩⟩
    · have hc : bytes_Compare.f (rd_T51 l ((i - 1 : Nat) : Int)).f0 (rd_T51 l (i : Int)).f0 = some (cmpB (l[i - 1]'(by omega)).f0 l[i].f0) := by
        rw [rd_ent hlt, rd_ent (show i - 1 < l.length by omega)]
        unfold bytes_Compare.f
        rw [if_pos ⟨hB _ (List.getElem_mem _), hB _ (List.getElem_mem _)⟩]
      have ew : wrap64 ((i : Int) - 1) = ((i - 1 : Nat) : Int) := by rw [kw64] <;> omega
      by_cases hge : cmpB (l[i - 1]'(by omega)).f0 l[i].f0 ≥ 0
      · refine ⟨50, Ev.step (fun k => ?_) (Ev.now _), ⟨fun h => by omega, fun hh => ?_⟩⟩
        · simp only [fold_check.l0, ew]
          rw [if_pos (by omega), if_pos (by omega), if_pos (by omega), if_pos (by omega), if_pos (by omega), if_pos (by omega), hc, Option.bind_some, if_pos hge]
        · have := hh.1 i hlt (Nat.le_refl _) h0
          omega
      · refine ⟨e, Ev.step (fun k => ?_) h, ?_⟩
        · simp only [fold_check.l0, ew]
          rw [if_pos (by omega), if_pos (by omega), if_pos (by omega), if_pos (by omega), if_pos (by omega), if_pos (by omega), hc, Option.bind_some, if_neg hge, kw64o i (by omega)]
        · rw [he]
          refine ⟨fun hh => ⟨fun j hj h1 h2 => ?_, hh.2⟩, fun hh => ⟨fun j hj h1 h2 => hh.1 j hj (by omega) h2, hh.2⟩⟩
          rcases Nat.lt_or_ge i j with hl' | hl'
          · exact hh.1 j hj hl' h2
          · obtain rfl : i = j := by omega
            omega
theorem check_tells (gs : List Gr) (keep wm : Int) {l : List En} (hl : l.length < 1000000) (hb : ∀ x ∈ l, x.f0.length < 1000000) (hB : ∀ x ∈ l, x.f0.all isB = true) :
    ∃ e, Ev (fun k => fold_check.f k gs keep wm l) e ∧ (e = 0 ↔ okL gs keep wm l) := by
  unfold fold_check.f
  by_cases R : Rgt gs keep
  · by_cases h0 : wm < 0
    · refine ⟨1, Ev.bind (right_tells gs keep) (Ev.congr (fun k => ?_) (Ev.now _)), ⟨fun h => by omega, fun h => ?_⟩⟩
      · simp [R, h0]
      · have := h.2.1; unfold isT at this; omega
    · by_cases h1 : wm > 1099511627776
      · refine ⟨1, Ev.bind (right_tells gs keep) (Ev.congr (fun k => ?_) (Ev.now _)), ⟨fun h => by omega, fun h => ?_⟩⟩
        · have h1' : 1099511627776 < wm := h1
          simp [R, h0, h1']
        · have := h.2.1; unfold isT at this; omega
      · obtain ⟨e, h, he⟩ := check_loop R hl hb hB l.length 0 (by omega) (Nat.zero_le _)
        refine ⟨e, Ev.bind (right_tells gs keep) (Ev.congr (fun k => ?_) h), ?_⟩
        · rw [if_pos (by simp [R]), if_neg h0, if_neg h1]
          rfl
        · rw [he]
          constructor
          · rintro ⟨a, b⟩
            exact ⟨R, by unfold isT; omega, sorted_adj (fun j hj h2 => a j hj (Nat.zero_le _) h2), b⟩
          · rintro ⟨_, _, a, b⟩
            exact ⟨fun j hj _ h2 => sorted_lt a (by omega) hj, b⟩
  · refine ⟨30, Ev.bind (right_tells gs keep) (Ev.congr (fun k => ?_) (Ev.now _)), ⟨fun h => by omega, fun h => absurd h.1 R⟩⟩
    simp [R]
theorem at_tells {gs : List Gr} {keep wm : Int} (R : Rgt gs keep) (hw : isT wm) {b : List Int} {d : List ByteArray} {f : Int} {g s m : Nat} (F : FitK gs b d f g) (S : IsStep gs.length (sz gs) (ag gs) f wm s) (hm : m = max g s) :
    Ev (fun k => fold_at.f k gs keep wm b) (wrB d (f - f % sz gs m) (m : Int), (open Classical in decide (en f (sz gs (gs.length - 1)) ≤ wm - keep))) := by
  have h4 := R.four
  have hg := F.gran
  have hsl := S.lt
  have hml : m < gs.length := by omega
  have hz := R.size m hml
  unfold fold_at.f
  refine Ev.bind F.read (Ev.bind (expired_tells R F.time hw) (Ev.bind (step_tells R F.time hw S) ?_))
  have emx : mx (g : Int) (s : Int) = (m : Int) := by unfold mx; split <;> omega
  simp only [emx, if_pos (show (0 : Int) ≤ (m : Int) by omega), if_pos (show (m : Int) < (gs.length : Int) by omega), rd_sz, floor_tells F.time hz.1 hz.2, Option.bind_some]
  have f0 := fl_nonneg F.time.1 hz.1
  have f1 := fl_le (t := f) hz.1
  have ft := F.time.2
  exact Ev.bind (write_tells F.dims ⟨f0, by omega⟩ ⟨by omega, by omega⟩) (Ev.now _)
open Classical in
noncomputable def AtK (gs : List Gr) (keep wm : Int) (b : List Int) : Option (List Int) := if h : ∃ o, Ev (fun k => fold_at.f k gs keep wm b) (o, false) then some h.choose else none
theorem atK_gone {gs : List Gr} {keep wm : Int} {b o : List Int} (h : Ev (fun k => fold_at.f k gs keep wm b) (o, true)) : AtK gs keep wm b = none := by
  unfold AtK
  rw [dif_neg]
  rintro ⟨o', h'⟩
  have := Ev.uniq h h'
  simp at this
theorem atK_some {gs : List Gr} {keep wm : Int} {b o : List Int} (h : Ev (fun k => fold_at.f k gs keep wm b) (o, false)) : AtK gs keep wm b = some o := by
  unfold AtK
  have hh : ∃ o, Ev (fun k => fold_at.f k gs keep wm b) (o, false) := ⟨o, h⟩
  rw [dif_pos hh]
  have := Ev.uniq h hh.choose_spec
  simp only [Prod.mk.injEq, and_true] at this
  rw [← this]
open Classical in
theorem atK_eq {gs : List Gr} {keep wm : Int} (R : Rgt gs keep) (hw : isT wm) {b : List Int} {d : List ByteArray} {f : Int} {g s m : Nat} (F : FitK gs b d f g) (S : IsStep gs.length (sz gs) (ag gs) f wm s) (hm : m = max g s) :
    AtK gs keep wm b = if en f (sz gs (gs.length - 1)) ≤ wm - keep then none else some (wrB d (f - f % sz gs m) (m : Int)) := by
  have h := at_tells R hw F S hm
  by_cases hc : en f (sz gs (gs.length - 1)) ≤ wm - keep
  · rw [if_pos hc]
    rw [decide_eq_true hc] at h
    exact atK_gone h
  · rw [if_neg hc]
    rw [decide_eq_false hc] at h
    exact atK_some h
theorem fit_wr {gs : List Gr} {keep : Int} (R : Rgt gs keep) {d : List ByteArray} {f : Int} {m : Nat} (hd : dimsB d = true) (ht : isT f) (hm : m < gs.length) : FitK gs (wrB d (f - f % sz gs m) (m : Int)) d (f - f % sz gs m) m := by
  have h4 := R.four
  have hz := R.size m hm
  have f0 := fl_nonneg ht.1 hz.1
  have f1 := fl_le (t := f) hz.1
  have ft := ht.2
  exact ⟨read_back hd ⟨f0, by omega⟩ ⟨by omega, by omega⟩, hd, ⟨f0, by omega⟩, hm, fl_mod⟩
theorem at_ex {gs : List Gr} {keep wm : Int} (R : Rgt gs keep) (hw : isT wm) {b : List Int} (hf : fitK gs b) : ∃ o t, Ev (fun k => fold_at.f k gs keep wm b) (o, t) := by
  obtain ⟨d, f, g, F⟩ := hf
  obtain ⟨s, S⟩ := R.step_ex f wm
  exact ⟨_, _, at_tells R hw F S rfl⟩
theorem atK_fit {gs : List Gr} {keep wm : Int} (R : Rgt gs keep) (hw : isT wm) {b c : List Int} (hf : fitK gs b) (h : AtK gs keep wm b = some c) : fitK gs c ∧ c.all isB = true ∧ c.length ≤ 300 := by
  have h4 := R.four
  obtain ⟨d, f, g, F⟩ := hf
  obtain ⟨s, S⟩ := R.step_ex f wm
  have hg := F.gran
  have hsl := S.lt
  rw [atK_eq R hw F S rfl] at h
  split at h
  · cases h
  · obtain rfl := Option.some.inj h
    exact ⟨⟨_, _, _, fit_wr R F.dims F.time (by omega)⟩, wrB_isB (by omega) (by omega), wrB_len F.dims⟩
structure WfE (x : En) : Prop where
  key : x.f0.all isB = true
  short : x.f0.length < 1000000
  cnt : inU x.f1.f0
  lo : inU x.f1.f2.f1
theorem okP_of {gs : List Gr} {x : En} (hw : WfE x) (h : fitX gs x) : okP x.f1 := ⟨⟨hw.cnt, hw.lo, h.2.2.2⟩, h.2.1⟩
noncomputable def foldM (gs : List Gr) (keep wm : Int) (l : List En) : List En := nrm (mapE (AtK gs keep wm) l)
theorem foldGo_tells {gs : List Gr} {keep wm : Int} (R : Rgt gs keep) (hw : isT wm) : ∀ (l p : List En), (∀ x ∈ l, fitK gs x.f0) → Good l → Good p → (∀ y ∈ p, y.f0.all isB = true) → p.length + l.length < 1000 →
    Ev (fun k => foldGo k gs keep wm l (nrm p)) (nrm (p ++ mapE (AtK gs keep wm) l))
  | [], p, _, _, _, _, _ => by simp only [foldGo, mapE, List.append_nil]; exact Ev.now _
  | x :: r, p, hf, hg, hgp, hb, hl => by
    have ⟨g1, g2⟩ := Good.cons.1 hg
    have hfx := hf x List.mem_cons_self
    have hfr : ∀ y ∈ r, fitK gs y.f0 := fun y hy => hf y (List.mem_cons_of_mem _ hy)
    simp only [List.length_cons] at hl
    obtain ⟨o, t, ha⟩ := at_ex R hw hfx
    simp only [foldGo]
    refine Ev.bind ha ?_
    cases t with
    | true =>
      rw [mapE_none (atK_gone ha)]
      exact Ev.congr (fun k => by simp) (foldGo_tells R hw r p hfr g2 hgp hb (by omega))
    | false =>
      have hs := atK_some ha
      rw [mapE_some hs]
      have ho := atK_fit R hw hfx hs
      have hnl := nrm_len p
      have hput : putE o x.f1 (nrm p) = some (insE o x.f1 (nrm p)) := putE_eq (nrm_sorted p) (by omega) (fun y hy => by obtain ⟨q, hq, e⟩ := nrm_mem hy; rw [e]; exact hb q hq) ho.2.1 (fun y hy => (nrm_good hgp y hy).1.2.1) g1.1.2.1
      have hsn : insE o x.f1 (nrm p) = nrm (p ++ [⟨o, x.f1⟩]) := (nrm_snoc (x := ⟨o, x.f1⟩) g1 hgp).symm
      have ih := foldGo_tells R hw r (p ++ [⟨o, x.f1⟩]) hfr g2 (fun y hy => by
        rcases List.mem_append.1 hy with hy | hy
        · exact hgp y hy
        · obtain rfl := List.mem_singleton.1 hy; exact g1) (fun y hy => by
        rcases List.mem_append.1 hy with hy | hy
        · exact hb y hy
        · obtain rfl := List.mem_singleton.1 hy; exact ho.2.1) (by simp; omega)
      rw [List.append_assoc] at ih
      refine Ev.congr (fun k => ?_) ih
      simp only [Bool.false_eq_true, if_false, hput, Option.bind_some, hsn]
theorem fold_tells {gs : List Gr} {keep wm : Int} {l : List En} (hl : l.length < 1000) (hw : ∀ x ∈ l, WfE x) (ho : okL gs keep wm l) : Ev (fun k => fold_Fold.f k gs keep wm l) (foldM gs keep wm l, 0) := by
  obtain ⟨e, h, he⟩ := check_tells gs keep wm (l := l) (by omega) (fun x hx => (hw x hx).short) (fun x hx => (hw x hx).key)
  have e0 := he.2 ho
  subst e0
  unfold fold_Fold.f
  refine Ev.bind h ?_
  obtain ⟨R, ht, _, hf⟩ := ho
  have := foldGo_tells R ht l [] (fun x hx => (hf x hx).1) (fun x hx => okP_of (hw x hx) (hf x hx)) Good.nil (fun y hy => by cases hy) (by simpa using hl)
  exact Ev.bind this (Ev.now _)
def okQ (a : Ag) : Prop := okP a ∧ a.f3 ≤ a.f4
theorem okQ_merge {a b : Ag} (ha : okQ a) (hb : okQ b) : okQ (mergeA a b) := by
  refine ⟨okP_merge ha.1 hb.1, ?_⟩
  rw [mergeA_eq ha.1.1 hb.1.1 ha.1.2 hb.1.2]
  have h1 := ha.2
  have h2 := hb.2
  simp only
  unfold leastI mostI
  split <;> split <;> omega
theorem ins_all {P : Ag → Prop} (hm : ∀ a b, P a → P b → P (mergeA a b)) {b : List Int} {a : Ag} (ha : P a) : ∀ {l : List En}, (∀ y ∈ l, P y.f1) → ∀ y ∈ insE b a l, P y.f1
  | [], _, y, hy => by obtain rfl := List.mem_singleton.1 hy; exact ha
  | x :: r, h, y, hy => by
    have hx := h x List.mem_cons_self
    have hr : ∀ y ∈ r, P y.f1 := fun y hy => h y (List.mem_cons_of_mem _ hy)
    rcases cmpB_tri x.f0 b with c | c | c
    · rw [ins_lt c] at hy
      rcases List.mem_cons.1 hy with rfl | hy
      · exact hx
      · exact ins_all hm ha hr y hy
    · rw [ins_eq c] at hy
      rcases List.mem_cons.1 hy with rfl | hy
      · exact hm _ _ hx ha
      · exact hr y hy
    · rw [ins_gt c] at hy
      rcases List.mem_cons.1 hy with rfl | hy
      · exact ha
      · exact h y hy
theorem nrm_all {P : Ag → Prop} (hm : ∀ a b, P a → P b → P (mergeA a b)) : ∀ {l : List En}, (∀ y ∈ l, P y.f1) → ∀ y ∈ nrm l, P y.f1
  | [], _, _, hy => by cases hy
  | x :: r, h, y, hy => ins_all hm (h x List.mem_cons_self) (nrm_all hm (fun y hy => h y (List.mem_cons_of_mem _ hy))) y hy
theorem foldM_ok {gs : List Gr} {keep wm : Int} {l : List En} (hw : ∀ x ∈ l, WfE x) (ho : okL gs keep wm l) :
    SortedE (foldM gs keep wm l) ∧ (∀ x ∈ foldM gs keep wm l, fitX gs x) ∧ (∀ x ∈ foldM gs keep wm l, WfE x) ∧ (foldM gs keep wm l).length ≤ l.length ∧ ∀ x ∈ foldM gs keep wm l, ∃ y ∈ l, AtK gs keep wm y.f0 = some x.f0 := by
  obtain ⟨R, ht, hs, hf⟩ := ho
  have hQ : ∀ x ∈ foldM gs keep wm l, okQ x.f1 := nrm_all (P := okQ) (fun _ _ => okQ_merge) (fun y hy => by
    obtain ⟨x, hx, _, e⟩ := mapE_mem hy
    rw [e]
    exact ⟨okP_of (hw x hx) (hf x hx), (hf x hx).2.2.1⟩)
  have hk : ∀ x ∈ foldM gs keep wm l, ∃ y ∈ l, AtK gs keep wm y.f0 = some x.f0 := fun x hx => by
    obtain ⟨z, hz, e⟩ := nrm_mem hx
    obtain ⟨y, hy, e2, _⟩ := mapE_mem hz
    exact ⟨y, hy, by rw [e2, e]⟩
  have hfit : ∀ x ∈ foldM gs keep wm l, fitK gs x.f0 ∧ x.f0.all isB = true ∧ x.f0.length ≤ 300 := fun x hx => by
    obtain ⟨y, hy, e⟩ := hk x hx
    exact atK_fit R ht (hf y hy).1 e
  refine ⟨nrm_sorted _, fun x hx => ⟨(hfit x hx).1, (hQ x hx).1.2, (hQ x hx).2, (hQ x hx).1.1.2.2⟩, fun x hx => ⟨(hfit x hx).2.1, by have := (hfit x hx).2.2; omega, (hQ x hx).1.1.1, (hQ x hx).1.1.2.1⟩, ?_, hk⟩
  exact Nat.le_trans (nrm_len _) (mapE_len _ _)
open Classical in
theorem stale_tells {gs : List Gr} {keep wm : Int} {l : List En} (hl : l.length < 1000) (hw : ∀ x ∈ l, WfE x) (ho : okL gs keep wm l) :
    Ev (fun k => fold_Stale.f k gs keep wm l) (l.any (fun x => !decide (AtK gs keep wm x.f0 = some x.f0)), 0) := by
  obtain ⟨e, h, he⟩ := check_tells gs keep wm (l := l) (by omega) (fun x hx => (hw x hx).short) (fun x hx => (hw x hx).key)
  have e0 := he.2 ho
  subst e0
  unfold fold_Stale.f
  refine Ev.bind h ?_
  obtain ⟨R, ht, _, hf⟩ := ho
  simp only [if_true, if_pos (show l.length ≤ 140737488355328 by omega)]
  refine Ev.bind (any_tells (p := fun x => !decide (AtK gs keep wm x.f0 = some x.f0)) (fun x hx => ?_)) (Ev.now _)
  unfold staleQ
  obtain ⟨o, t, ha⟩ := at_ex R ht (hf x hx).1
  refine Ev.bind ha ?_
  cases t with
  | true =>
    rw [atK_gone ha]
    exact Ev.congr (fun k => by simp) (Ev.now _)
  | false =>
    have hs := atK_some ha
    have ho := atK_fit R ht (hf x hx).1 hs
    rw [hs]
    refine Ev.congr (fun k => ?_) (Ev.now _)
    simp only [Bool.false_eq_true, if_false]
    unfold bytes_Equal.f
    rw [Option.bind_some]
    congr 2
    by_cases hh : o = x.f0
    · subst hh; simp
    · have : ¬ (strOfNums o).toList = (strOfNums x.f0).toList := fun hc => hh (strs_eq ho.2.1 (hw x hx).key hc)
      simp [hh, this]
theorem same_loop (l : List En) (hl : l.length < 1000000) (d : Nat) : ∀ i : Nat, l.length - i = d → Ev (fun k => rickyardref08_Same.l0 k l l (i : Int)) true := by
  induction d with
  | zero =>
    intro i hd
    refine Ev.step (fun k => ?_) (Ev.now _)
    simp only [rickyardref08_Same.l0]
    rw [if_neg (by omega)]
  | succ d ih =>
    intro i hd
    refine Ev.step (fun k => ?_) (ih (i + 1) (by omega))
    simp only [rickyardref08_Same.l0, kw64o i (by omega)]
    rw [if_pos (by omega), if_pos (by omega), if_pos (by omega), if_pos trivial, if_neg (by simp)]
theorem same_tells (l : List En) (hl : l.length < 1000000) : Ev (fun k => rickyardref08_Same.f k l l) true := by
  unfold rickyardref08_Same.f
  simp only [if_true]
  exact same_loop l hl _ 0 rfl
theorem strOf_list (l : List Int) : (strOfNums l).toList = l.map fun n => UInt8.ofNat n.toNat := by
  rw [ByteArray.toList_eq]; rfl
theorem u8_of {x : Int} (h : isB x = true) : ((UInt8.ofNat x.toNat).toNat : Int) = x := by
  unfold isB at h
  simp only [Bool.and_eq_true, decide_eq_true_eq] at h
  rw [UInt8.toNat_ofNat']
  omega
theorem less_cmp : ∀ {a b : List Int}, a.all isB = true → b.all isB = true → Op.bytesLess (strOfNums a).toList (strOfNums b).toList = decide (cmpB a b < 0)
  | a, b, ha, hb => by
    rw [strOf_list, strOf_list]
    induction a generalizing b with
    | nil => cases b <;> simp [Op.bytesLess, cmpB]
    | cons x r ih =>
      cases b with
      | nil => simp [Op.bytesLess, cmpB]
      | cons y q =>
        simp only [List.all_cons, Bool.and_eq_true] at ha hb
        have ex := u8_of ha.1
        have ey := u8_of hb.1
        have hx : (UInt8.ofNat x.toNat < UInt8.ofNat y.toNat) ↔ x < y := by rw [UInt8.lt_iff_toNat_lt]; omega
        have he : (UInt8.ofNat x.toNat = UInt8.ofNat y.toNat) ↔ x = y := by
          constructor
          · intro h; rw [h] at ex; omega
          · rintro rfl; rfl
        have ec : cmpB (x :: r) (y :: q) = if x < y then -1 else if y < x then 1 else cmpB r q := by rw [cmpB]
        simp only [List.map_cons, Op.bytesLess, ih q ha.2 hb.2]
        rw [ec]
        by_cases h1 : x < y
        · have := hx.2 h1
          simp [h1, this]
        · have n1 : ¬ UInt8.ofNat x.toNat < UInt8.ofNat y.toNat := fun h => h1 (hx.1 h)
          by_cases h2 : y < x
          · have n2 : ¬ UInt8.ofNat x.toNat = UInt8.ofNat y.toNat := fun h => by have := he.1 h; omega
            have e1 : (decide (UInt8.ofNat x.toNat < UInt8.ofNat y.toNat) || (UInt8.ofNat x.toNat == UInt8.ofNat y.toNat && decide (cmpB r q < 0))) = false := by simp [n1, n2]
            rw [e1, if_neg h1, if_pos h2]; rfl
          · have e2 : x = y := by omega
            have e3 := he.2 e2
            have e1 : (decide (UInt8.ofNat x.toNat < UInt8.ofNat y.toNat) || (UInt8.ofNat x.toNat == UInt8.ofNat y.toNat && decide (cmpB r q < 0))) = decide (cmpB r q < 0) := by rw [e3]; simp
            rw [e1, if_neg h1, if_neg h2]
theorem rright_ag {a : Ag} (h0 : a.f0 ≠ 0) : rickyardref02_Right.f a.f0 a.f1 a.f2.f0 a.f2.f1 a.f3 a.f4 = some (open Classical in decide (agR a)) := by
  unfold rickyardref02_Right.f agR mW
  rw [if_neg h0]
  by_cases h2 : a.f1 = true
  · rw [if_pos h2]
    by_cases h3 : a.f0 = 18446744073709551615
    · rw [if_pos h3]
      congr 1
      simp [h2, h3]
    · rw [if_neg h3]
      simp [h2, h3]
  · rw [if_neg h2]
    simp [h2]
theorem rmerge_tells {a b : Ag} (ha : okP a) (hb : okP b) : Ev (fun k => rickyardref02_Merge.f k a.f0 a.f1 a.f2.f0 a.f2.f1 a.f3 a.f4 b.f0 b.f1 b.f2.f0 b.f2.f1 b.f3 b.f4) ((mergeA a b).f0, (mergeA a b).f1, (mergeA a b).f2.f0, (mergeA a b).f2.f1, (mergeA a b).f3, (mergeA a b).f4) := by
  unfold rickyardref02_Merge.f
  simp only [if_neg ha.2, if_neg hb.2]
  have hadd : rickyardref01_Add.f a.f2.f0 a.f2.f1 b.f2.f0 b.f2.f1 = some ((addW a.f2 b.f2).f0, (addW a.f2 b.f2).f1) := by
    unfold rickyardref01_Add.f
    rw [if_pos ⟨ha.1.2.1, hb.1.2.1⟩]
  rw [hadd]
  simp only [Option.bind_some]
  rw [mergeA_eq ha.1 hb.1 ha.2 hb.2]
  have ca := ha.1.1
  have cb := hb.1.1
  have pb := hb.2
  have wr : ∀ n : Int, IntKind.u64.wrap n = n % 18446744073709551616 := fun n => by simp [IntKind.wrap, IntKind.bits, IntKind.signed]
  have e1 : IntKind.u64.wrap (18446744073709551615 - b.f0) = 18446744073709551615 - b.f0 := by rw [wr]; unfold inU mW at *; omega
  have fin : ∀ mn mx_ : Int, Ev (fun k => rickyardref02_Merge.j0 k a.f0 a.f1 a.f2.f0 a.f2.f1 a.f3 a.f4 b.f0 b.f1 b.f2.f0 b.f2.f1 b.f3 b.f4 0 false (addW a.f2 b.f2).f0 (addW a.f2 b.f2).f1 mn a.f4) ((cntS a.f0 a.f1 b.f0 b.f1).1, (cntS a.f0 a.f1 b.f0 b.f1).2, (addW a.f2 b.f2).f0, (addW a.f2 b.f2).f1, mn, mostI a.f4 b.f4) := fun mn _ => by
    refine Ev.step (fun k => ?_) (Ev.now _)
    simp only [rickyardref02_Merge.j0, e1]
    have em : ∀ z : Int, (a.f1 = true → cntS a.f0 a.f1 b.f0 b.f1 = (18446744073709551615, true)) ∧ (b.f1 = true → cntS a.f0 a.f1 b.f0 b.f1 = (18446744073709551615, true)) ∧ (a.f0 > 18446744073709551615 - b.f0 → cntS a.f0 a.f1 b.f0 b.f1 = (18446744073709551615, true)) ∧ (¬ a.f1 = true → ¬ b.f1 = true → ¬ a.f0 > 18446744073709551615 - b.f0 → cntS a.f0 a.f1 b.f0 b.f1 = (IntKind.u64.wrap (a.f0 + b.f0), false)) := fun z => by
      unfold cntS mW
      refine ⟨fun h => by rw [if_pos (.inr (.inl h))]; rfl, fun h => by rw [if_pos (.inr (.inr h))]; rfl, fun h => by rw [if_pos (.inl (by omega))]; rfl, fun h1 h2 h3 => ?_⟩
      rw [if_neg (by rintro (h | h | h); omega; exact h1 h; exact h2 h), wr, Int.emod_eq_of_lt (by unfold inU at *; omega) (by omega)]
    obtain ⟨m1, m2, m3, m4⟩ := em 0
    unfold mostI
    by_cases hm : b.f4 > a.f4
    · rw [if_pos hm, if_pos (show a.f4 < b.f4 from hm)]
      by_cases h1 : a.f1 = true
      · rw [if_pos h1, m1 h1]
      · rw [if_neg h1]
        by_cases h2 : b.f1 = true
        · rw [if_pos h2, m2 h2]
        · rw [if_neg h2]
          by_cases h3 : a.f0 > 18446744073709551615 - b.f0
          · rw [if_pos h3, m3 h3]
          · rw [if_neg h3, m4 h1 h2 h3]
    · rw [if_neg hm, if_neg (show ¬ a.f4 < b.f4 from hm)]
      by_cases h1 : a.f1 = true
      · rw [if_pos h1, m1 h1]
      · rw [if_neg h1]
        by_cases h2 : b.f1 = true
        · rw [if_pos h2, m2 h2]
        · rw [if_neg h2]
          by_cases h3 : a.f0 > 18446744073709551615 - b.f0
          · rw [if_pos h3, m3 h3]
          · rw [if_neg h3, m4 h1 h2 h3]
  unfold leastI
  by_cases hl : b.f3 < a.f3
  · simp only [if_pos hl]; exact fin b.f3 0
  · simp only [if_neg hl]; exact fin a.f3 0
open Classical in
theorem rfits_from {gs : List Gr} {keep : Int} (R : Rgt gs keep) {l : List En} (hl : l.length < 1000000) (hw : ∀ x ∈ l, WfE x) (d : Nat) : ∀ i : Nat, l.length - i = d → Ev (fun k => rickyardref15_Fits.l0 k l (i : Int) gs keep) ((l.drop i).all fun x => decide (fitX gs x)) := by
  have h4 := R.four
  induction d with
  | zero =>
    intro i hd
    rw [List.drop_eq_nil_of_le (by omega)]
    refine Ev.step (fun k => ?_) (Ev.now _)
    simp only [rickyardref15_Fits.l0]
    rw [if_neg (by omega)]
    simp
  | succ d ih =>
    intro i hd
    have hlt : i < l.length := by omega
    have hx := hw l[i] (List.getElem_mem _)
    obtain ⟨⟨dd, f, g, e⟩, h, h', hk⟩ := reads_alike l[i].f0 hx.short hx.key
    rw [List.drop_eq_getElem_cons hlt]
    rw [List.all_cons]
    have no : ∀ hh : ¬ fitX gs l[i], ∀ {q : Nat → Option Bool}, Ev q false → Ev q (decide (fitX gs l[i]) && (l.drop (i + 1)).all fun x => decide (fitX gs x)) := fun hh q hq => by
      rw [decide_eq_false hh, Bool.false_and]
      exact hq
    have un : ∀ d' f' g', FitK gs l[i].f0 d' f' g' → dd = d' ∧ f = f' ∧ g = (g' : Int) ∧ e = 0 := fun d' f' g' F => by
      have := Ev.uniq h F.read
      simpa using this
    have nof : Ev (fun k => rickyardref15_Fits.j1 k l (i : Int) true gs keep dd f g) false := by
      refine Ev.step (fun k => ?_) (Ev.now _)
      simp only [rickyardref15_Fits.j1]
      rw [if_pos trivial]
    have hl0 : ∀ k, rickyardref15_Fits.l0 (k + 1) l (i : Int) gs keep = (rickyardref06_Read.f k l[i].f0).bind fun bt334 => (if bt334.2.2.2 = 0 then ((rickyardref03_Right.f k gs keep).bind fun t341 => (if t341 = true then (rickyardref15_Fits.j1 k l (i : Int) (decide (bt334.2.2.1 ≥ (gs.length : Int))) gs keep bt334.1 bt334.2.1 bt334.2.2.1) else (rickyardref15_Fits.j1 k l (i : Int) true gs keep bt334.1 bt334.2.1 bt334.2.2.1))) else (rickyardref15_Fits.j1 k l (i : Int) true gs keep bt334.1 bt334.2.1 bt334.2.2.1)) := fun k => by
      simp only [rickyardref15_Fits.l0, rd_ent hlt]
      rw [if_pos (by omega), if_pos (by omega)]
    by_cases he : e = 0
    · subst he
      obtain ⟨⟨hdm, hf, hg0, hg4⟩, _⟩ := hk rfl
      simp only at hdm hf hg0 hg4
      obtain ⟨n, rfl⟩ : ∃ n : Nat, g = (n : Int) := ⟨g.toNat, by omega⟩
      by_cases hn : n < gs.length
      · have hs := R.size n hn
        have hfl : rickyardref03_Floor.f f (rd_T67 gs (n : Int)).f0 = some (f - f % sz gs n, 0) := rfloor_tells hf hs.1 hs.2
        have hj : ∀ k, rickyardref15_Fits.j1 (k + 1) l (i : Int) false gs keep dd f (n : Int) = if f - f % sz gs n = f then (if l[i].f1.f0 = 0 then some false else (rickyardref02_Right.f l[i].f1.f0 l[i].f1.f1 l[i].f1.f2.f0 l[i].f1.f2.f1 l[i].f1.f3 l[i].f1.f4).bind fun t347 => (if t347 = true then (rickyardref15_Fits.l0 k l ((i + 1 : Nat) : Int) gs keep) else (some false))) else some false := fun k => by
          simp only [rickyardref15_Fits.j1, rd_ent hlt, hfl, Option.bind_some, kw64o i (show i < 4611686018427387904 by omega), if_pos (show (0 : Int) ≤ (i : Int) by omega), if_pos (show (i : Int) < (l.length : Int) by omega)]
          rw [if_neg (by decide), if_pos (by omega), if_pos (by omega)]
        have enter : ∀ {r : Bool}, Ev (fun k => rickyardref15_Fits.j1 k l (i : Int) false gs keep dd f (n : Int)) r → Ev (fun k => rickyardref15_Fits.l0 k l (i : Int) gs keep) r := fun hr => by
          refine Ev.step hl0 (Ev.bind h' ?_)
          simp only [if_true]
          refine Ev.bind (rright_tells gs keep) ?_
          rw [decide_eq_true R]
          simp only [if_true]
          rw [decide_eq_false (by omega)]
          exact hr
        by_cases hm : f % sz gs n = 0
        · by_cases h0 : l[i].f1.f0 = 0
          · refine no (fun hh => hh.2.1 h0) (enter (Ev.step hj (Ev.congr (fun k => ?_) (Ev.now _))))
            rw [if_pos (by omega), if_pos h0]
          · by_cases hr : agR l[i].f1
            · rw [decide_eq_true (show fitX gs l[i] from ⟨⟨dd, f, n, h, hdm, hf, hn, hm⟩, h0, hr⟩), Bool.true_and]
              refine enter (Ev.step hj (Ev.congr (fun k => ?_) (ih (i + 1) (by omega))))
              rw [if_pos (by omega), if_neg h0, rright_ag h0, Option.bind_some, decide_eq_true hr, if_pos rfl]
            · refine no (fun hh => hr hh.2.2) (enter (Ev.step hj (Ev.congr (fun k => ?_) (Ev.now _))))
              rw [if_pos (by omega), if_neg h0, rright_ag h0, Option.bind_some, decide_eq_false hr, if_neg (by decide)]
        · refine no (fun hh => ?_) (enter (Ev.step hj (Ev.congr (fun k => ?_) (Ev.now _))))
          · obtain ⟨⟨d', f', g', F⟩, _⟩ := hh
            obtain ⟨rfl, rfl, hg, _⟩ := un _ _ _ F
            obtain rfl : n = g' := by omega
            exact hm F.from_
          · rw [if_neg (by omega)]
      · refine no (fun hh => ?_) (Ev.step hl0 (Ev.bind h' ?_))
        · obtain ⟨⟨d', f', g', F⟩, _⟩ := hh
          obtain ⟨rfl, rfl, hg, _⟩ := un _ _ _ F
          have := F.gran
          omega
        · simp only [if_true]
          refine Ev.bind (rright_tells gs keep) ?_
          rw [decide_eq_true R]
          simp only [if_true]
          rw [decide_eq_true (by omega)]
          exact nof
    · refine no (fun hh => ?_) (Ev.step hl0 (Ev.bind h' ?_))
      · obtain ⟨⟨d', f', g', F⟩, _⟩ := hh
        exact he (un _ _ _ F).2.2.2
      · simp only [if_neg he]
        exact nof
open Classical in
theorem rcheck_head {gs : List Gr} {keep wm : Int} {l : List En} {e : Int} (h : Rgt gs keep → isT wm → Ev (fun k => rickyardref15_Check.l0 k l 1 gs keep) e) (h1 : ¬ Rgt gs keep → e = 30) (h2 : Rgt gs keep → ¬ isT wm → e = 1) : Ev (fun k => rickyardref15_Check.f k gs keep wm l) e := by
  unfold rickyardref15_Check.f
  refine Ev.bind (rright_tells gs keep) ?_
  by_cases R : Rgt gs keep
  · rw [decide_eq_true R]
    simp only [if_true, time_tells, Option.bind_some]
    by_cases ht : isT wm
    · rw [decide_eq_true ht]
      simp only [if_true]
      exact h R ht
    · rw [decide_eq_false ht, h2 R ht]
      simp only [Bool.false_eq_true, if_false]
      exact Ev.now _
  · rw [decide_eq_false R, h1 R]
    simp only [Bool.false_eq_true, if_false]
    exact Ev.now _
open Classical in
theorem rcheck_loop {gs : List Gr} {keep : Int} (R : Rgt gs keep) {l : List En} (hl : l.length < 1000000) (hw : ∀ x ∈ l, WfE x) (hs : SortedE l) (hf : ∀ x ∈ l, fitX gs x) (d : Nat) : ∀ i : Nat, 0 < i → l.length - i = d → Ev (fun k => rickyardref15_Check.l0 k l (i : Int) gs keep) 0 := by
  induction d with
  | zero =>
    intro i h0 hd
    refine Ev.step (f := fun k => (rickyardref15_Fits.f k gs keep l).bind fun t353 => (if t353 = true then (some 0) else (some 3))) (fun k => ?_) (Ev.bind (g := fun k => rickyardref15_Fits.f k gs keep l) (a := true) ?_ (Ev.congr (fun k => ?_) (Ev.now _)))
    · simp only [rickyardref15_Check.l0]
      rw [if_neg (by omega)]
    · have := rfits_from R hl hw _ 0 rfl
      rw [List.drop_zero] at this
      unfold rickyardref15_Fits.f
      have e : (l.all fun x => decide (fitX gs x)) = true := List.all_eq_true.2 (fun x hx => decide_eq_true (hf x hx))
      rw [e] at this
      exact this
    · rw [if_pos rfl]
  | succ d ih =>
    intro i h0 hd
    have hlt : i < l.length := by omega
    have w1 : wrap64 ((i : Int) - 1) = ((i - 1 : Nat) : Int) := by rw [kw64] <;> omega
    refine Ev.step (fun k => ?_) (ih (i + 1) (by omega) (by omega))
    simp only [rickyardref15_Check.l0, w1, rd_ent hlt, rd_ent (show i - 1 < l.length by omega), kw64o i (show i < 4611686018427387904 by omega)]
    have hlt2 := sorted_lt hs (show i - 1 < i by omega) hlt
    rw [if_pos (by omega), if_pos (by omega), if_pos (by omega), if_pos (by omega), less_cmp (hw _ (List.getElem_mem _)).key (hw _ (List.getElem_mem _)).key, decide_eq_true hlt2, if_pos rfl]
theorem rcheck_ok {gs : List Gr} {keep wm : Int} {l : List En} (hl : l.length < 1000000) (hw : ∀ x ∈ l, WfE x) (ho : okL gs keep wm l) : Ev (fun k => rickyardref15_Check.f k gs keep wm l) 0 :=
  rcheck_head (fun R _ => rcheck_loop R hl hw ho.2.2.1 ho.2.2.2 _ 1 (by decide) rfl) (fun h => absurd ho.1 h) (fun _ h => absurd ho.2.1 h)
open Classical in
theorem rkey_tells {gs : List Gr} {keep wm : Int} (R : Rgt gs keep) (hw : isT wm) {b : List Int} (hb : b.length < 1000000) (hB : b.all isB = true) (hf : fitK gs b) : ∃ o t, Ev (fun k => rickyardref15_Key.f k gs keep wm b) (o, !t) ∧ Ev (fun k => fold_at.f k gs keep wm b) (o, t) := by
  obtain ⟨d, f, g, F⟩ := hf
  obtain ⟨s, S⟩ := R.step_ex f wm
  have hA := at_tells R hw F S rfl
  refine ⟨_, _, ?_, hA⟩
  obtain ⟨r, h, h', _⟩ := reads_alike b hb hB
  obtain rfl := Ev.uniq h F.read
  have h4 := R.four
  have hg := F.gran
  have hsl := S.lt
  have hz := R.size (max g s) (by omega)
  have f0 := fl_nonneg F.time.1 hz.1
  have f1 := fl_le (t := f) hz.1
  have ft := F.time.2
  have hok : okK d (f - f % sz gs (max g s)) ((max g s : Nat) : Int) := ⟨F.dims, ⟨f0, by omega⟩, by omega, by omega⟩
  unfold rickyardref15_Key.f
  refine Ev.bind h' (Ev.bind (rexpired_tells R F.time hw) (Ev.bind (rstep_tells R F.time hw S) ?_))
  by_cases hgt : (s : Int) > (g : Int)
  · have em : max g s = s := by omega
    rw [em] at hok hz ⊢
    simp only [if_pos hgt, if_pos (show (0 : Int) ≤ (s : Int) by omega), if_pos (show (s : Int) < (gs.length : Int) by omega)]
    have hfl : rickyardref03_Floor.f f (rd_T67 gs (s : Int)).f0 = some (f - f % sz gs s, 0) := rfloor_tells F.time hz.1 hz.2
    simp only [hfl, Option.bind_some]
    exact Ev.bind (rwrite_tells hok) (Ev.now _)
  · have em : max g s = g := by omega
    rw [em] at hok hz ⊢
    simp only [if_neg hgt, if_pos (show (0 : Int) ≤ (g : Int) by omega), if_pos (show (g : Int) < (gs.length : Int) by omega)]
    have hfl : rickyardref03_Floor.f f (rd_T67 gs (g : Int)).f0 = some (f - f % sz gs g, 0) := rfloor_tells F.time hz.1 hz.2
    simp only [hfl, Option.bind_some]
    exact Ev.bind (rwrite_tells hok) (Ev.now _)
theorem rput_loop {l : List En} {b : List Int} {a : Ag} (hl : l.length < 1000) (hg : Good l) (hk : ∀ y ∈ l, y.f0.all isB = true) (hb : b.all isB = true) (ha : okP a) (d : Nat) : ∀ i : Nat, l.length - i = d → i ≤ l.length →
    Ev (fun k => rickyardref14_Put.l0 k l (i : Int) b a.f0 a.f1 a.f2.f0 a.f2.f1 a.f3 a.f4) (l.take i ++ insE b a (l.drop i)) := by
  induction d with
  | zero =>
    intro i hd hi
    have e : l.drop i = [] := List.drop_eq_nil_of_le (by omega)
    have q1 : ¬ (i : Int) < (l.length : Int) := by omega
    have q2 : (0 : Int) ≤ (i : Int) := by omega
    have q3 : (i : Int) ≤ (l.length : Int) := by omega
    have q4 : (l.take i).length < 1954687338268 := by rw [List.length_take]; omega
    have q5 : ([] : List En).length + (l.take i).length < 1954687338268 := by rw [List.length_nil, Nat.zero_add]; exact q4
    have q8 : ∀ (x : En) (n : Nat), (l.take i ++ [x]).length + (l.drop n).length < 1954687338268 := fun x n => by rw [List.length_append, List.length_singleton, List.length_take, List.length_drop]; omega
    have e2 : l.take i ++ insE b a (l.drop i) = l.take i ++ [(⟨b, ⟨a.f0, a.f1, ⟨a.f2.f0, a.f2.f1⟩, a.f3, a.f4⟩⟩ : En)] ++ l.drop i := by rw [e, List.append_nil]; rfl
    rw [e2]
    refine Ev.step (f := fun _ => some (l.take i ++ [(⟨b, ⟨a.f0, a.f1, ⟨a.f2.f0, a.f2.f1⟩, a.f3, a.f4⟩⟩ : En)] ++ l.drop i)) (fun k => ?_) (Ev.now _)
    rw [rickyardref14_Put.l0, if_neg q1, if_pos q2, if_pos q3, Option.bind_some, Int.toNat_natCast, if_pos q5, Option.bind_some, List.nil_append, if_pos q4, Option.bind_some, Option.bind_some, if_pos (q8 _ _)]
  | succ d ih =>
    intro i hd hi
    have hlt : i < l.length := by omega
    have q1 : (i : Int) < (l.length : Int) := by omega
    have q2 : (0 : Int) ≤ (i : Int) := by omega
    have q3 : (i : Int) ≤ (l.length : Int) := by omega
    have q4 : (l.take i).length < 1954687338268 := by rw [List.length_take]; omega
    have q5 : ([] : List En).length + (l.take i).length < 1954687338268 := by rw [List.length_nil, Nat.zero_add]; exact q4
    have q6 : (0 : Int) ≤ ((i + 1 : Nat) : Int) := by omega
    have q7 : ((i + 1 : Nat) : Int) ≤ (l.length : Int) := by omega
    have q8 : ∀ (x : En) (n : Nat), (l.take i ++ [x]).length + (l.drop n).length < 1954687338268 := fun x n => by rw [List.length_append, List.length_singleton, List.length_take, List.length_drop]; omega
    have q9 : wrap64 ((i : Int) + 1) = ((i + 1 : Nat) : Int) := kw64o i (by omega)
    have q10 := ih (i + 1) (by omega) (by omega)
    have hy := hk l[i] (List.getElem_mem _)
    have gy := hg l[i] (List.getElem_mem _)
    have hlc := less_cmp hy hb
    have ed : l.drop i = l[i] :: l.drop (i + 1) := List.drop_eq_getElem_cons hlt
    rcases cmpB_tri l[i].f0 b with c | c | c
    · have e : l.take i ++ insE b a (l.drop i) = l.take (i + 1) ++ insE b a (l.drop (i + 1)) := by
        rw [ed, ins_lt c, List.take_succ_eq_append_getElem hlt, List.append_assoc]; rfl
      rw [e]
      refine Ev.step (fun k => ?_) q10
      simp only [rickyardref14_Put.l0, rd_ent hlt, hlc, q9]
      rw [if_pos q1, if_pos q2, decide_eq_true c, if_pos rfl]
    · have e : l.take i ++ insE b a (l.drop i) = l.take i ++ [⟨b, mergeA l[i].f1 a⟩] ++ l.drop (i + 1) := by rw [ed, ins_eq c, List.append_assoc]; rfl
      rw [e]
      have hn : ¬ cmpB l[i].f0 b < 0 := by rw [c, cmpB_refl]; decide
      have hs : (strOfNums l[i].f0).toList = (strOfNums b).toList := by rw [c]
      refine Ev.step (f := fun k => (rickyardref02_Merge.f k l[i].f1.f0 l[i].f1.f1 l[i].f1.f2.f0 l[i].f1.f2.f1 l[i].f1.f3 l[i].f1.f4 a.f0 a.f1 a.f2.f0 a.f2.f1 a.f3 a.f4).bind fun bt414 => some (l.take i ++ [(⟨b, ⟨bt414.1, bt414.2.1, ⟨bt414.2.2.1, bt414.2.2.2.1⟩, bt414.2.2.2.2.1, bt414.2.2.2.2.2⟩⟩ : En)] ++ l.drop (i + 1))) (fun k => ?_) (Ev.bind (rmerge_tells gy ha) (Ev.now _))
      simp only [rickyardref14_Put.l0, rd_ent hlt, hlc, q9, Option.bind_some, Int.toNat_natCast, List.nil_append, decide_eq_false hn, if_pos hs, if_pos q4, if_pos q6, if_pos q7, if_pos (q8 _ _)]
      rw [if_pos q1, if_pos q2, if_neg Bool.false_ne_true, if_pos q3, if_pos q5]
    · have e : l.take i ++ insE b a (l.drop i) = l.take i ++ [(⟨b, ⟨a.f0, a.f1, ⟨a.f2.f0, a.f2.f1⟩, a.f3, a.f4⟩⟩ : En)] ++ l.drop i := by rw [ed, ins_gt c, List.append_assoc]; rfl
      rw [e]
      have hn : ¬ cmpB l[i].f0 b < 0 := cmpB_asymm c
      have hs : ¬ (strOfNums l[i].f0).toList = (strOfNums b).toList := fun h => cmpB_ne c (strs_eq hy hb h).symm
      refine Ev.step (f := fun _ => some (l.take i ++ [(⟨b, ⟨a.f0, a.f1, ⟨a.f2.f0, a.f2.f1⟩, a.f3, a.f4⟩⟩ : En)] ++ l.drop i)) (fun k => ?_) (Ev.now _)
      rw [rickyardref14_Put.l0, if_pos q1, if_pos q2, rd_ent hlt, hlc, decide_eq_false hn, if_neg Bool.false_ne_true, if_pos q3, Option.bind_some, Int.toNat_natCast, if_pos q5, Option.bind_some, List.nil_append, if_neg hs, if_pos q4, Option.bind_some, Option.bind_some, if_pos (q8 _ _)]
theorem rput_tells {l : List En} {b : List Int} {a : Ag} (hl : l.length < 1000) (hg : Good l) (hk : ∀ y ∈ l, y.f0.all isB = true) (hb : b.all isB = true) (ha : okP a) :
    Ev (fun k => rickyardref14_Put.f k l b a.f0 a.f1 a.f2.f0 a.f2.f1 a.f3 a.f4) (insE b a l) := by
  have := rput_loop hl hg hk hb ha _ 0 rfl (Nat.zero_le _)
  unfold rickyardref14_Put.f
  simpa using this
theorem keys_nrm {p : List En} (hb : ∀ y ∈ p, y.f0.all isB = true) : ∀ y ∈ nrm p, y.f0.all isB = true := fun y hy => by obtain ⟨q, hq, e⟩ := nrm_mem hy; rw [e]; exact hb q hq
theorem rfold_loop {gs : List Gr} {keep wm : Int} (R : Rgt gs keep) (hT : isT wm) {l : List En} (hlen : l.length < 1000000) (hw : ∀ x ∈ l, WfE x) (hf : ∀ x ∈ l, fitX gs x) (e : Int) (d : Nat) : ∀ (i : Nat) (p : List En), l.length - i = d → i ≤ l.length → Good p → (∀ y ∈ p, y.f0.all isB = true) → p.length + d < 1000 →
    Ev (fun k => rickyardref15_Fold.l0 k wm l e (nrm p) (i : Int) gs keep) (nrm (p ++ mapE (AtK gs keep wm) (l.drop i)), e) := by
  induction d with
  | zero =>
    intro i p hd hi _ _ _
    rw [List.drop_eq_nil_of_le (by omega)]
    refine Ev.step (fun k => ?_) (Ev.now _)
    simp only [rickyardref15_Fold.l0]
    rw [if_neg (by omega)]
    simp [mapE]
  | succ d ih =>
    intro i p hd hi hg hb hp
    have hlt : i < l.length := by omega
    have hx := hw l[i] (List.getElem_mem _)
    have hfx := hf l[i] (List.getElem_mem _)
    have hq := okP_of hx hfx
    obtain ⟨o, t, hK, hA⟩ := rkey_tells R hT hx.short hx.key hfx.1
    rw [List.drop_eq_getElem_cons hlt]
    refine Ev.step (f := fun k => (rickyardref15_Key.f k gs keep wm l[i].f0).bind fun bt464 => (if bt464.2 = true then ((rickyardref14_Put.f k (nrm p) bt464.1 l[i].f1.f0 l[i].f1.f1 l[i].f1.f2.f0 l[i].f1.f2.f1 l[i].f1.f3 l[i].f1.f4).bind fun t469 => (rickyardref15_Fold.l0 k wm l e t469 ((i + 1 : Nat) : Int) gs keep)) else (rickyardref15_Fold.l0 k wm l e (nrm p) ((i + 1 : Nat) : Int) gs keep))) (fun k => ?_) (Ev.bind hK ?_)
    · simp only [rickyardref15_Fold.l0, rd_ent hlt, kw64o i (show i < 4611686018427387904 by omega)]
      rw [if_pos (by omega), if_pos (by omega)]
    · cases t with
      | true =>
        rw [mapE_none (atK_gone hA)]
        exact Ev.congr (fun k => by simp) (ih (i + 1) p (by omega) (by omega) hg hb (by omega))
      | false =>
        have hs := atK_some hA
        rw [mapE_some hs]
        have ho := atK_fit R hT hfx.1 hs
        have hnl := nrm_len p
        have hsn : insE o l[i].f1 (nrm p) = nrm (p ++ [⟨o, l[i].f1⟩]) := (nrm_snoc (x := ⟨o, l[i].f1⟩) hq hg).symm
        have ih' := ih (i + 1) (p ++ [⟨o, l[i].f1⟩]) (by omega) (by omega) (fun y hy => by
          rcases List.mem_append.1 hy with hy | hy
          · exact hg y hy
          · obtain rfl := List.mem_singleton.1 hy; exact hq) (fun y hy => by
          rcases List.mem_append.1 hy with hy | hy
          · exact hb y hy
          · obtain rfl := List.mem_singleton.1 hy; exact ho.2.1) (by simp; omega)
        rw [List.append_assoc] at ih'
        simp only [Bool.not_false, if_true]
        refine Ev.bind (rput_tells (by omega) (nrm_good hg) (keys_nrm hb) ho.2.1 hq) ?_
        rw [hsn]
        exact ih'
theorem rfold_tells {gs : List Gr} {keep wm : Int} {l : List En} (hl : l.length < 1000) (hw : ∀ x ∈ l, WfE x) (ho : okL gs keep wm l) : Ev (fun k => rickyardref15_Fold.f k gs keep wm l) (foldM gs keep wm l, 0) := by
  unfold rickyardref15_Fold.f
  refine Ev.bind (rcheck_ok (by omega) hw ho) ?_
  simp only [if_true]
  have := rfold_loop ho.1 ho.2.1 (by omega) hw ho.2.2.2 0 _ 0 [] rfl (Nat.zero_le _) Good.nil (fun y hy => by cases hy) (by simpa using hl)
  simpa [nrm, foldM] using this
open Classical in
theorem rfits_tells2 {gs : List Gr} {keep : Int} (R : Rgt gs keep) {l : List En} (hl : l.length < 1000000) (hw : ∀ x ∈ l, WfE x) : Ev (fun k => rickyardref15_Fits.f k gs keep l) (decide (∀ x ∈ l, fitX gs x)) := by
  have h := rfits_from R hl hw _ 0 rfl
  rw [List.drop_zero] at h
  have e : (l.all fun x => decide (fitX gs x)) = decide (∀ x ∈ l, fitX gs x) := by
    by_cases hh : ∀ x ∈ l, fitX gs x
    · rw [decide_eq_true hh]; exact List.all_eq_true.2 (fun x hx => decide_eq_true (hh x hx))
    · rw [decide_eq_false hh, Bool.eq_false_iff]
      intro h2
      exact hh (fun x hx => of_decide_eq_true (List.all_eq_true.1 h2 x hx))
  rw [e] at h
  exact h
theorem fits_alike (gs : List Gr) (keep : Int) {l : List En} (hl : l.length < 1000000) (hw : ∀ x ∈ l, WfE x) : ∃ t, Ev (fun k => fold_Fits.f k gs keep l) t ∧ Ev (fun k => rickyardref15_Fits.f k gs keep l) t := by
  classical
  by_cases R : Rgt gs keep
  · exact ⟨_, fits_tells2 R hl (fun x hx => (hw x hx).short), rfits_tells2 R hl hw⟩
  · by_cases h0 : l.length = 0
    · refine ⟨true, Ev.congr (fun k => ?_) (Ev.now true), Ev.step (f := fun _ => some true) (fun k => ?_) (Ev.now true)⟩
      · show fold_Fits.f k gs keep l = some true
        unfold fold_Fits.f; rw [if_pos h0]
      · show rickyardref15_Fits.l0 (k + 1) l 0 gs keep = _
        simp only [rickyardref15_Fits.l0]
        rw [if_neg (by omega)]
    · have hlt : 0 < l.length := by omega
      have hx := hw l[0] (List.getElem_mem _)
      obtain ⟨⟨dd, f, g, e⟩, _, h', _⟩ := reads_alike l[0].f0 hx.short hx.key
      have nof : Ev (fun k => rickyardref15_Fits.j1 k l (0 : Int) true gs keep dd f g) false := by
        refine Ev.step (fun k => ?_) (Ev.now _)
        simp only [rickyardref15_Fits.j1]
        rw [if_pos trivial]
      refine ⟨false, ?_, ?_⟩
      · unfold fold_Fits.f
        simp only [if_neg h0]
        refine Ev.bind (right_tells gs keep) ?_
        simp only [decide_eq_false R, Bool.false_eq_true, if_false]
        exact Ev.now _
      · refine Ev.step (f := fun k => (rickyardref06_Read.f k l[0].f0).bind fun bt334 => (if bt334.2.2.2 = 0 then ((rickyardref03_Right.f k gs keep).bind fun t341 => (if t341 = true then (rickyardref15_Fits.j1 k l 0 (decide (bt334.2.2.1 ≥ (gs.length : Int))) gs keep bt334.1 bt334.2.1 bt334.2.2.1) else (rickyardref15_Fits.j1 k l 0 true gs keep bt334.1 bt334.2.1 bt334.2.2.1))) else (rickyardref15_Fits.j1 k l 0 true gs keep bt334.1 bt334.2.1 bt334.2.2.1))) (fun k => ?_) (Ev.bind h' ?_)
        · show rickyardref15_Fits.l0 (k + 1) l ((0 : Nat) : Int) gs keep = _
          simp only [rickyardref15_Fits.l0, rd_ent hlt]
          rw [if_pos (by omega), if_pos (by omega)]
          rfl
        · by_cases he : e = 0
          · simp only [if_pos he]
            refine Ev.bind (rright_tells gs keep) ?_
            simp only [decide_eq_false R, Bool.false_eq_true, if_false]
            exact nof
          · simp only [if_neg he]
            exact nof
theorem check_both {gs : List Gr} {keep : Int} (R : Rgt gs keep) {l : List En} (hl : l.length < 1000000) (hw : ∀ x ∈ l, WfE x) (d : Nat) : ∀ i : Nat, 0 < i → l.length - i = d →
    ∃ e, Ev (fun k => fold_check.l0 k l (l.length : Int) (i : Int) gs keep) e ∧ Ev (fun k => rickyardref15_Check.l0 k l (i : Int) gs keep) e := by
  classical
  induction d with
  | zero =>
    intro i h0 hd
    have hf := fits_tells2 R hl (fun x hx => (hw x hx).short)
    have hr := rfits_tells2 R hl hw
    have hj : ∀ _ : Nat, (if decide (∀ x ∈ l, fitX gs x) = true then some (0 : Int) else some 3) = some (if ∀ x ∈ l, fitX gs x then 0 else 3) := fun _ => by
      by_cases hh : ∀ x ∈ l, fitX gs x
      · rw [decide_eq_true hh, if_pos rfl, if_pos hh]
      · rw [decide_eq_false hh, if_neg (by decide), if_neg hh]
    refine ⟨if ∀ x ∈ l, fitX gs x then 0 else 3, ?_, ?_⟩
    · refine Ev.step (f := fun k => (fold_Fits.f k gs keep l).bind fun t121 => (if t121 = true then (some 0) else (some 3))) (fun k => ?_) (Ev.bind hf (Ev.congr hj (Ev.now _)))
      simp only [fold_check.l0]
      rw [if_neg (by omega)]
    · refine Ev.step (f := fun k => (rickyardref15_Fits.f k gs keep l).bind fun t353 => (if t353 = true then (some 0) else (some 3))) (fun k => ?_) (Ev.bind hr (Ev.congr hj (Ev.now _)))
      simp only [rickyardref15_Check.l0]
      rw [if_neg (by omega)]
  | succ d ih =>
    intro i h0 hd
    have hlt : i < l.length := by omega
    obtain ⟨e, h1, h2⟩ := ih (i + 1) (by omega) (by omega)
    have k1 := (hw _ (List.getElem_mem (show i - 1 < l.length by omega))).key
    have k2 := (hw _ (List.getElem_mem hlt)).key
    have hc : bytes_Compare.f (rd_T51 l ((i - 1 : Nat) : Int)).f0 (rd_T51 l (i : Int)).f0 = some (cmpB (l[i - 1]'(by omega)).f0 l[i].f0) := by
      rw [rd_ent hlt, rd_ent (show i - 1 < l.length by omega)]
      unfold bytes_Compare.f
      rw [if_pos ⟨k1, k2⟩]
    have ew : wrap64 ((i : Int) - 1) = ((i - 1 : Nat) : Int) := by rw [kw64] <;> omega
    by_cases hge : cmpB (l[i - 1]'(by omega)).f0 l[i].f0 ≥ 0
    · refine ⟨50, Ev.step (fun k => ?_) (Ev.now _), Ev.step (fun k => ?_) (Ev.now _)⟩
      · simp only [fold_check.l0, ew]
        rw [if_pos (by omega), if_pos (by omega), if_pos (by omega), if_pos (by omega), if_pos (by omega), if_pos (by omega), hc, Option.bind_some, if_pos hge]
      · simp only [rickyardref15_Check.l0, ew, rd_ent hlt, rd_ent (show i - 1 < l.length by omega)]
        rw [if_pos (by omega), if_pos (by omega), if_pos (by omega), if_pos (by omega), less_cmp k1 k2, decide_eq_false (by omega), if_neg (by decide)]
    · refine ⟨e, Ev.step (fun k => ?_) h1, Ev.step (fun k => ?_) h2⟩
      · simp only [fold_check.l0, ew]
        rw [if_pos (by omega), if_pos (by omega), if_pos (by omega), if_pos (by omega), if_pos (by omega), if_pos (by omega), hc, Option.bind_some, if_neg hge, kw64o i (by omega)]
      · simp only [rickyardref15_Check.l0, ew, rd_ent hlt, rd_ent (show i - 1 < l.length by omega), kw64o i (show i < 4611686018427387904 by omega)]
        rw [if_pos (by omega), if_pos (by omega), if_pos (by omega), if_pos (by omega), less_cmp k1 k2, decide_eq_true (by omega), if_pos rfl]
theorem checks_alike (gs : List Gr) (keep wm : Int) {l : List En} (hl : l.length < 1000000) (hw : ∀ x ∈ l, WfE x) : ∃ e, Ev (fun k => fold_check.f k gs keep wm l) e ∧ Ev (fun k => rickyardref15_Check.f k gs keep wm l) e := by
  classical
  by_cases R : Rgt gs keep
  · by_cases ht : isT wm
    · obtain ⟨e, h1, h2⟩ := check_both R hl hw _ 1 (by decide) rfl
      refine ⟨e, ?_, rcheck_head (fun _ _ => h2) (fun h => absurd R h) (fun _ h => absurd ht h)⟩
      unfold fold_check.f
      refine Ev.bind (right_tells gs keep) ?_
      have n0 : ¬ wm < 0 := by unfold isT at ht; omega
      have n1 : ¬ wm > 1099511627776 := by unfold isT at ht; omega
      simp only [decide_eq_true R, if_true, if_neg n0, if_neg n1]
      by_cases h0 : l.length = 0
      · have h1' : Ev (fun k => fold_check.l0 k l (l.length : Int) ((1 : Nat) : Int) gs keep) e := h1
        obtain ⟨K, hK⟩ := h1'
        refine ⟨K, fun k hk => ?_⟩
        have := hK k hk
        cases k with
        | zero => simp [fold_check.l0] at this
        | succ k =>
          simp only [fold_check.l0] at this ⊢
          rw [if_neg (by omega)] at this
          rw [if_neg (by omega)]
          exact this
      · refine Ev.step (fun k => ?_) h1
        simp only [fold_check.l0]
        rw [if_pos (by omega), if_neg (by omega), kw64 (by omega) (by omega)]
        rfl
    · refine ⟨1, ?_, rcheck_head (fun _ h => absurd h ht) (fun h => absurd R h) (fun _ _ => rfl)⟩
      unfold fold_check.f
      refine Ev.bind (right_tells gs keep) ?_
      simp only [decide_eq_true R, if_true]
      by_cases h0 : wm < 0
      · simp only [if_pos h0]; exact Ev.now _
      · have h1 : wm > 1099511627776 := by unfold isT at ht; omega
        simp only [if_neg h0, if_pos h1]; exact Ev.now _
  · refine ⟨30, ?_, rcheck_head (fun h => absurd h R) (fun _ => rfl) (fun h => absurd h R)⟩
    unfold fold_check.f
    refine Ev.bind (right_tells gs keep) ?_
    simp only [decide_eq_false R, Bool.false_eq_true, if_false]
    exact Ev.now _
open Classical in
theorem rstale_loop {gs : List Gr} {keep wm : Int} (R : Rgt gs keep) (hT : isT wm) {l : List En} (hlen : l.length < 1000000) (hw : ∀ x ∈ l, WfE x) (hf : ∀ x ∈ l, fitX gs x) (e : Int) (d : Nat) : ∀ i : Nat, l.length - i = d → i ≤ l.length →
    Ev (fun k => rickyardref15_Stale.l0 k wm l e (i : Int) gs keep) ((l.drop i).any (fun x => !decide (AtK gs keep wm x.f0 = some x.f0)), e) := by
  induction d with
  | zero =>
    intro i hd hi
    rw [List.drop_eq_nil_of_le (by omega)]
    refine Ev.step (fun k => ?_) (Ev.now _)
    simp only [rickyardref15_Stale.l0]
    rw [if_neg (by omega)]
    simp
  | succ d ih =>
    intro i hd hi
    have hlt : i < l.length := by omega
    have hx := hw l[i] (List.getElem_mem _)
    have hfx := hf l[i] (List.getElem_mem _)
    obtain ⟨o, t, hK, hA⟩ := rkey_tells R hT hx.short hx.key hfx.1
    rw [List.drop_eq_getElem_cons hlt, List.any_cons]
    refine Ev.step (f := fun k => (rickyardref15_Key.f k gs keep wm l[i].f0).bind fun bt576 => (if bt576.2 = true then (if (strOfNums bt576.1).toList = (strOfNums l[i].f0).toList then (rickyardref15_Stale.l0 k wm l e ((i + 1 : Nat) : Int) gs keep) else (some (true, e))) else (some (true, e)))) (fun k => ?_) (Ev.bind hK ?_)
    · simp only [rickyardref15_Stale.l0, rd_ent hlt, kw64o i (show i < 4611686018427387904 by omega)]
      rw [if_pos (by omega), if_pos (by omega)]
    · cases t with
      | true =>
        rw [atK_gone hA]
        simp only [Bool.not_true, Bool.false_eq_true, if_false]
        refine Ev.congr (fun k => ?_) (Ev.now _)
        simp
      | false =>
        have hs := atK_some hA
        have ho := atK_fit R hT hfx.1 hs
        rw [hs]
        simp only [Bool.not_false, if_true]
        by_cases hh : o = l[i].f0
        · subst hh
          simp only [if_true, decide_true, Bool.not_true, Bool.false_or]
          exact ih (i + 1) (by omega) (by omega)
        · have hn : ¬ (strOfNums o).toList = (strOfNums l[i].f0).toList := fun hc => hh (strs_eq ho.2.1 hx.key hc)
          simp only [if_neg hn]
          refine Ev.congr (fun k => ?_) (Ev.now _)
          simp [hh]
open Classical in
theorem rstale_tells {gs : List Gr} {keep wm : Int} {l : List En} (hl : l.length < 1000) (hw : ∀ x ∈ l, WfE x) (ho : okL gs keep wm l) :
    Ev (fun k => rickyardref15_Stale.f k gs keep wm l) (l.any (fun x => !decide (AtK gs keep wm x.f0 = some x.f0)), 0) := by
  unfold rickyardref15_Stale.f
  refine Ev.bind (rcheck_ok (by omega) hw ho) ?_
  simp only [if_true]
  have := rstale_loop ho.1 ho.2.1 (by omega) hw ho.2.2.2 0 _ 0 rfl (Nat.zero_le _)
  simpa using this
theorem alive_tells : Ev (fun k => rickyardlaw15_alive.f k) true := ⟨64, fun k hk => by show rickyardlaw15_alive.f k = _; unfold rickyardlaw15_alive.f; rw [if_pos hk]⟩
theorem lit_u8 {x : Int} (h : (Lit.int .u8 x).wf = true) : isB x = true := by
  simpa [Lit.wf, IntKind.min, IntKind.max, IntKind.bits, IntKind.signed, isB] using h
theorem lit_u64 {x : Int} (h : (Lit.int .u64 x).wf = true) : inU x := by
  have : 0 ≤ x ∧ x ≤ 18446744073709551615 := by simpa [Lit.wf, IntKind.min, IntKind.max, IntKind.bits, IntKind.signed] using h
  unfold inU mW; omega
theorem wfE_of {x : En} (h : wfS51 x) (hs : x.f0.length ≤ 300) : WfE x := ⟨List.all_eq_true.2 (fun z hz => lit_u8 (h.1.2 z hz)), by omega, lit_u64 h.2.1, lit_u64 h.2.2.1.2⟩
theorem great_loop (l : List En) (hl : l.length < 1000000) (d : Nat) : ∀ i : Nat, l.length - i = d → ∃ t, Ev (fun k => rickyardlaw15_Great.l0 k l (i : Int)) t ∧ (t = false → ∀ j (hj : j < l.length), i ≤ j → l[j].f0.length ≤ 300) := by
  induction d with
  | zero =>
    intro i hd
    refine ⟨false, Ev.step (fun k => ?_) (Ev.now _), fun _ j hj h => by omega⟩
    simp only [rickyardlaw15_Great.l0]
    rw [if_neg (by omega)]
  | succ d ih =>
    intro i hd
    have hlt : i < l.length := by omega
    by_cases hg : (l[i].f0.length : Int) > 300
    · refine ⟨true, Ev.step (fun k => ?_) (Ev.now _), fun h => by cases h⟩
      simp only [rickyardlaw15_Great.l0, rd_ent hlt]
      rw [if_pos (by omega), if_pos (by omega), if_pos hg]
    · obtain ⟨t, h, ht⟩ := ih (i + 1) (by omega)
      refine ⟨t, Ev.step (fun k => ?_) h, fun hf j hj hij => ?_⟩
      · simp only [rickyardlaw15_Great.l0, rd_ent hlt, kw64o i (by omega)]
        rw [if_pos (by omega), if_pos (by omega), if_neg hg]
      · rcases Nat.lt_or_ge i j with h1 | h1
        · exact ht hf j hj h1
        · obtain rfl : i = j := by omega
          omega
theorem great_ex (l : List En) : ∃ t, Ev (fun k => rickyardlaw15_Great.f k l) t ∧ (t = false → l.length ≤ 60 ∧ ∀ x ∈ l, x.f0.length ≤ 300) := by
  unfold rickyardlaw15_Great.f
  by_cases h : (l.length : Int) > 60
  · exact ⟨true, Ev.congr (fun k => by rw [if_pos h]) (Ev.now _), fun h => by cases h⟩
  · obtain ⟨t, ht, hf⟩ := great_loop l (by omega) _ 0 rfl
    refine ⟨t, Ev.congr (fun k => by rw [if_neg h]; rfl) ht, fun h0 => ⟨by omega, fun x hx => ?_⟩⟩
    obtain ⟨j, hj, rfl⟩ := List.getElem_of_mem hx
    exact hf h0 j hj (Nat.zero_le _)
end Go.Proofs.Ytjemmmemenljbaa.PFold
end
section
namespace Go.Proofs.Ytjemmmemenljbaa.Pure
open Go.RowKit Go.Proofs.YtjemmmemenljbaaW.PrintWords Go.Proofs.YtjemmmemenljbaaW.PrintLast Go.Proofs.YtjemmmemenljbaaW.PrintMore Go.Proofs.Ytjemmmemenljbaa.PFold Go.Proofs.Ytjemmmemenljbaa.GrainM Go.Proofs.Ytjemmmemenljbaa.GrainL
set_option linter.unusedVariables false
set_option linter.unusedSimpArgs false
set_option maxHeartbeats 8000000
set_option maxRecDepth 100000
theorem FoldFolds : rickyardlaw15_FoldFolds.Pure := by
  classical
  intro gs keep w l _ _ _ hwl
  refine Ev.rounds ?_
  unfold rickyardlaw15_FoldFolds.f
  obtain ⟨t, ht, hf⟩ := great_ex l
  refine Ev.bind ht ?_
  cases t with
  | true => simp only [if_true]; exact Ev.bind alive_tells (Ev.now true)
  | false =>
    obtain ⟨h60, hk⟩ := hf rfl
    have hw : ∀ x ∈ l, WfE x := fun x hx => wfE_of (hwl.2 x hx) (hk x hx)
    simp only [Bool.false_eq_true, if_false]
    obtain ⟨u, hu, hur⟩ := fits_alike gs keep (l := l) (by omega) hw
    by_cases ho : okL gs keep w l
    · obtain ⟨a1, a2, a3, a4, a5⟩ := foldM_ok hw ho
      refine Ev.bind (fold_tells (by omega) hw ho) (Ev.bind (rfold_tells (by omega) hw ho) (Ev.bind (stale_tells (by omega) hw ho) (Ev.bind (rstale_tells (by omega) hw ho) (Ev.bind alive_tells ?_))))
      simp only [if_true]
      refine Ev.bind hu (Ev.bind hur ?_)
      simp only [beq_self_eq_true, if_true]
      refine Ev.bind (same_tells _ (by omega)) (Ev.congr (fun k => ?_) (Ev.now true))
      rw [if_pos rfl]
    · obtain ⟨e, h1, h2⟩ := checks_alike gs keep w (l := l) (by omega) hw
      obtain ⟨e', h', he⟩ := check_tells gs keep w (l := l) (by omega) (fun x hx => (hw x hx).short) (fun x hx => (hw x hx).key)
      obtain rfl := Ev.uniq h1 h'
      have e0 : e ≠ 0 := fun h0 => ho (he.1 h0)
      have f1 : Ev (fun k => fold_Fold.f k gs keep w l) ([], e) := by
        unfold fold_Fold.f
        refine Ev.bind h1 ?_
        simp only [if_neg e0]
        exact Ev.now _
      have f2 : Ev (fun k => rickyardref15_Fold.f k gs keep w l) ([], e) := by
        unfold rickyardref15_Fold.f
        refine Ev.bind h2 ?_
        simp only [if_neg e0]
        exact Ev.now _
      have f3 : Ev (fun k => fold_Stale.f k gs keep w l) (false, e) := by
        unfold fold_Stale.f
        refine Ev.bind h1 ?_
        simp only [if_neg e0]
        exact Ev.now _
      have f4 : Ev (fun k => rickyardref15_Stale.f k gs keep w l) (false, e) := by
        unfold rickyardref15_Stale.f
        refine Ev.bind h2 ?_
        simp only [if_neg e0]
        exact Ev.now _
      refine Ev.bind f1 (Ev.bind f2 (Ev.bind f3 (Ev.bind f4 (Ev.bind alive_tells ?_))))
      simp only [if_true]
      refine Ev.bind hu (Ev.bind hur ?_)
      simp only [beq_self_eq_true, if_true]
      refine Ev.bind (same_tells [] (by simp)) (Ev.congr (fun k => ?_) (Ev.now true))
      rw [if_pos rfl]
end Go.Proofs.Ytjemmmemenljbaa.Pure
end
