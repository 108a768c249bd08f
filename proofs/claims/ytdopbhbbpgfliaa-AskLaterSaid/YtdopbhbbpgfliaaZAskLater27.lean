import Derived.Test.YtdopbhbbpgfliaaZAskLater24
import Derived.Test.YtdopbhbbpgfliaaZAskLater26
section
namespace Go.Proofs.Ytdopbhbbpgfliaa.PAsk
open Go.RowKit Go.Proofs.YtdopbhbbpgfliaaW.PrintWords Go.Proofs.YtdopbhbbpgfliaaW.PrintLast Go.Proofs.YtdopbhbbpgfliaaW.PrintMore Go.Proofs.Ytdopbhbbpgfliaa.GrainM Go.Proofs.Ytdopbhbbpgfliaa.GrainL
set_option linter.unusedVariables false
set_option linter.unusedSimpArgs false
set_option maxHeartbeats 8000000
set_option maxRecDepth 100000
structure FitK (gs : List Gr) (b : List Int) (d : List ByteArray) (f : Int) (g : Nat) : Prop where
  read : Ev (fun k => key_Read.f k b) (d, f, (g : Int), 0)
  dims : dimsB d = true
  time : isT f
  gran : g < gs.length
  from_ : f % sz gs g = 0
def fitK (gs : List Gr) (b : List Int) : Prop := ∃ d f g, FitK gs b d f g
def agR (a : Ag) : Prop := a.f3 ≤ a.f4 ∧ (a.f1 = true → a.f0 = mW - 1)
def fitX (gs : List Gr) (x : En) : Prop := fitK gs x.f0 ∧ x.f1.f0 ≠ 0 ∧ agR x.f1
open Classical in
theorem right_ag {a : Ag} (h0 : a.f0 ≠ 0) : agg_Right.f a.f0 a.f1 a.f2.f0 a.f2.f1 a.f3 a.f4 = some (decide (agR a)) := by
  unfold agg_Right.f agR
  rw [if_neg h0]
  by_cases h1 : a.f3 ≤ a.f4
  · by_cases h2 : a.f1 = true
    · rw [if_pos h1, if_pos h2]
      have : (a.f0 == 18446744073709551615) = decide (a.f0 = 18446744073709551615) := rfl
      rw [this]
      simp [h1, h2, mW]
    · rw [if_pos h1, if_neg h2]; simp [h1, h2]
  · rw [if_neg h1]; simp [h1]
open Classical in
theorem fits_tells1 {gs : List Gr} {keep : Int} (R : Rgt gs keep) (x : En) (hb : x.f0.length < 1000000) :
    Ev (fun k => fold_fits.f k gs keep x.f0 x.f1.f0 x.f1.f1 x.f1.f2.f0 x.f1.f2.f1 x.f1.f3 x.f1.f4) (decide (fitX gs x)) := by
  obtain ⟨⟨d, f, g, e⟩, h, hk⟩ := read_ex x.f0 hb
  have h4 := R.four
  unfold fold_fits.f
  refine Ev.bind h ?_
  have no : ∀ hh : ¬ fitX gs x, ∀ {q : Nat → Option Bool}, (∀ k, q k = some false) → Ev q (decide (fitX gs x)) := fun hh q hq => by
    rw [decide_eq_false hh]
    exact Ev.congr hq (Ev.now _)
  have un : ∀ d' f' g', FitK gs x.f0 d' f' g' → d = d' ∧ f = f' ∧ g = (g' : Int) ∧ e = 0 := fun d' f' g' F => by
    have := Ev.uniq h F.read
    simpa using this
  by_cases he : e = 0
  · obtain ⟨hd, hf, hg0, hg4⟩ := hk he
    subst he
    obtain ⟨n, rfl⟩ : ∃ n : Nat, g = (n : Int) := ⟨g.toNat, by simp only at hg0; omega⟩
    by_cases hn : n < gs.length
    · have hs := R.size n hn
      have e1 : Int.tmod f (sz gs n) = f % sz gs n := tmod_emod hf.1
      by_cases hm : f % sz gs n = 0
      · by_cases h0 : x.f1.f0 = 0
        · refine no (fun hh => hh.2.1 h0) (fun k => ?_)
          simp only [rd_sz, e1]
          rw [if_pos trivial, if_pos (by omega), if_pos (by omega), if_neg (by omega), if_pos hm, if_pos h0]
        · refine Ev.congr (fun k => ?_) (Ev.now _)
          simp only [rd_sz, e1, right_ag h0]
          rw [if_pos trivial, if_pos (by omega), if_pos (by omega), if_neg (by omega), if_pos hm, if_neg h0, Option.bind_some]
          congr 1
          apply decide_eq_decide.2
          exact ⟨fun ha => ⟨⟨d, f, n, h, hd, hf, hn, hm⟩, h0, ha⟩, fun hh => hh.2.2⟩
      · refine no (fun hh => ?_) (fun k => ?_)
        · obtain ⟨⟨d', f', g', F⟩, _⟩ := hh
          obtain ⟨rfl, rfl, hg, _⟩ := un _ _ _ F
          obtain rfl : n = g' := by omega
          exact hm F.from_
        · simp only [rd_sz, e1]
          rw [if_pos trivial, if_pos (by omega), if_pos (by omega), if_neg (by omega), if_neg hm]
    · refine no (fun hh => ?_) (fun k => ?_)
      · obtain ⟨⟨d', f', g', F⟩, _⟩ := hh
        obtain ⟨rfl, rfl, hg, _⟩ := un _ _ _ F
        have := F.gran
        omega
      · simp only
        rw [if_pos trivial, if_neg (by omega)]
  · refine no (fun hh => ?_) (fun k => ?_)
    · obtain ⟨⟨d', f', g', F⟩, _⟩ := hh
      exact he (un _ _ _ F).2.2.2
    · simp only
      rw [if_neg he]
theorem any_tells {q : Nat → En → Option Bool} {p : En → Bool} : ∀ {l : List En}, (∀ x ∈ l, Ev (fun k => q k x) (p x)) → Ev (fun k => anyQ (q k) l) (l.any p)
  | [], _ => Ev.now _
  | x :: r, h => by
    have ih := any_tells (fun y hy => h y (List.mem_cons_of_mem _ hy))
    show Ev (fun k => (q k x).bind _) _
    refine Ev.bind (h x List.mem_cons_self) ?_
    rw [List.any_cons]
    cases hp : p x with
    | true => exact Ev.congr (fun k => by simp) (Ev.now _)
    | false => exact Ev.congr (fun k => by simp) ih
open Classical in
theorem fits_tells2 {gs : List Gr} {keep : Int} (R : Rgt gs keep) {l : List En} (hl : l.length < 1000000) (hb : ∀ x ∈ l, x.f0.length < 1000000) :
    Ev (fun k => fold_Fits.f k gs keep l) (decide (∀ x ∈ l, fitX gs x)) := by
  unfold fold_Fits.f
  by_cases h0 : l.length = 0
  · obtain rfl := List.length_eq_zero_iff.1 h0
    exact Ev.congr (fun k => by simp) (Ev.now _)
  · simp only [if_neg h0]
    refine Ev.bind (right_tells gs keep) ?_
    simp only [decide_eq_true R, if_true, if_pos (show l.length ≤ 140737488355328 by omega)]
    refine Ev.bind (any_tells (p := fun x => !decide (fitX gs x)) (fun x hx => ?_)) (Ev.congr (fun k => ?_) (Ev.now _))
    · unfold unfit
      exact Ev.bind (fits_tells1 R x (hb x hx)) (Ev.now _)
    · congr 1
      by_cases hh : ∀ x ∈ l, fitX gs x
      · rw [decide_eq_true hh, List.any_eq_false.2 (fun x hx => by simp [hh x hx])]; rfl
      · rw [decide_eq_false hh]
        have : l.any (fun x => !decide (fitX gs x)) = true := by
          obtain ⟨x, hx⟩ := Classical.not_forall.1 hh
          obtain ⟨hx, hn⟩ := Classical.not_imp.1 hx
          exact List.any_eq_true.2 ⟨x, hx, by simp [hn]⟩
        rw [this]; rfl
def okL (gs : List Gr) (keep wm : Int) (l : List En) : Prop := Rgt gs keep ∧ isT wm ∧ SortedE l ∧ ∀ x ∈ l, fitX gs x
theorem sorted_adj {l : List En} (h : ∀ j (hj : j < l.length), 0 < j → cmpB (l[j - 1]'(by omega)).f0 l[j].f0 < 0) : SortedE l := by
  refine List.pairwise_iff_getElem.2 (fun i j hi hj hij => ?_)
  induction j with
  | zero => omega
  | succ j ih =>
    have h1 := h (j + 1) hj (by omega)
    simp only [Nat.add_sub_cancel] at h1
    rcases Nat.lt_or_ge i j with hl | hl
    · exact cmpB_trans (ih (by omega) hl) h1
    · obtain rfl : i = j := by omega
      exact h1
open Classical in
theorem check_loop {gs : List Gr} {keep : Int} (R : Rgt gs keep) {l : List En} (hl : l.length < 1000000) (hb : ∀ x ∈ l, x.f0.length < 1000000) (hB : ∀ x ∈ l, x.f0.all isB = true) (d : Nat) : ∀ i : Nat, l.length - i = d → i ≤ l.length →
    ∃ e, Ev (fun k => fold_check.l0 k l (l.length : Int) (i : Int) gs keep) e ∧ (e = 0 ↔ (∀ j (hj : j < l.length), i ≤ j → 0 < j → cmpB (l[j - 1]'(by omega)).f0 l[j].f0 < 0) ∧ ∀ x ∈ l, fitX gs x) := by
  induction d with
  | zero =>
    intro i hd hi
    refine ⟨if ∀ x ∈ l, fitX gs x then 0 else 3, Ev.step (f := fun k => (fold_Fits.f k gs keep l).bind fun t121 => (if t121 = true then (some 0) else (some 3))) (fun k => ?_) (Ev.bind (fits_tells2 R hl hb) (Ev.congr (fun k => ?_) (Ev.now _))), ?_⟩
    · simp only [fold_check.l0]
      rw [if_neg (by omega)]
    · by_cases hh : ∀ x ∈ l, fitX gs x
      · rw [decide_eq_true hh, if_pos rfl, if_pos hh]
      · rw [decide_eq_false hh, if_neg (by decide), if_neg hh]
    · by_cases hh : ∀ x ∈ l, fitX gs x
      · rw [if_pos hh]
        exact ⟨fun _ => ⟨fun j hj hij => by omega, hh⟩, fun _ => rfl⟩
      · rw [if_neg hh]
        exact ⟨fun h => by omega, fun h => absurd h.2 hh⟩
  | succ d ih =>
    intro i hd hi
    have hlt : i < l.length := by omega
    obtain ⟨e, h, he⟩ := ih (i + 1) (by omega) (by omega)
    rcases Nat.eq_zero_or_pos i with h0 | h0
    · subst h0
      refine ⟨e, Ev.step (fun k => ?_) h, ?_⟩
      · simp only [fold_check.l0]
        rw [if_pos (by omega), if_neg (by omega), kw64 (by omega) (by omega)]
        rfl
      · rw [he]
        exact ⟨fun hh => ⟨fun j hj h1 h2 => hh.1 j hj (by omega) h2, hh.2⟩, fun hh => ⟨fun j hj h1 h2 => hh.1 j hj (by omega) h2, hh.2⟩⟩
    · have hc : bytes_Compare.f (rd_T60 l ((i - 1 : Nat) : Int)).f0 (rd_T60 l (i : Int)).f0 = some (cmpB (l[i - 1]'(by omega)).f0 l[i].f0) := by
        rw [rd_ent hlt, rd_ent (show i - 1 < l.length by omega)]
        unfold bytes_Compare.f
        rw [if_pos ⟨hB _ (List.getElem_mem _), hB _ (List.getElem_mem _)⟩]
      have ew : wrap64 ((i : Int) - 1) = ((i - 1 : Nat) : Int) := by rw [kw64] <;> omega
      by_cases hge : cmpB (l[i - 1]'(by omega)).f0 l[i].f0 ≥ 0
      · refine ⟨50, Ev.step (fun k => ?_) (Ev.now _), ⟨fun h => by omega, fun hh => ?_⟩⟩
        · simp only [fold_check.l0, ew]
          rw [if_pos (by omega), if_pos (by omega), if_pos (by omega), if_pos (by omega), if_pos (by omega), if_pos (by omega), hc, Option.bind_some, if_pos hge]
        · have := hh.1 i hlt (Nat.le_refl _) h0
          omega
      · refine ⟨e, Ev.step (fun k => ?_) h, ?_⟩
        · simp only [fold_check.l0, ew]
          rw [if_pos (by omega), if_pos (by omega), if_pos (by omega), if_pos (by omega), if_pos (by omega), if_pos (by omega), hc, Option.bind_some, if_neg hge, kw64o i (by omega)]
        · rw [he]
          refine ⟨fun hh => ⟨fun j hj h1 h2 => ?_, hh.2⟩, fun hh => ⟨fun j hj h1 h2 => hh.1 j hj (by omega) h2, hh.2⟩⟩
          rcases Nat.lt_or_ge i j with hl' | hl'
          · exact hh.1 j hj hl' h2
          · obtain rfl : i = j := by omega
            omega
theorem check_tells (gs : List Gr) (keep wm : Int) {l : List En} (hl : l.length < 1000000) (hb : ∀ x ∈ l, x.f0.length < 1000000) (hB : ∀ x ∈ l, x.f0.all isB = true) :
    ∃ e, Ev (fun k => fold_check.f k gs keep wm l) e ∧ (e = 0 ↔ okL gs keep wm l) := by
  unfold fold_check.f
  by_cases R : Rgt gs keep
  · by_cases h0 : wm < 0
    · refine ⟨1, Ev.bind (right_tells gs keep) (Ev.congr (fun k => ?_) (Ev.now _)), ⟨fun h => by omega, fun h => ?_⟩⟩
      · simp [R, h0]
      · have := h.2.1; unfold isT at this; omega
    · by_cases h1 : wm > 1099511627776
      · refine ⟨1, Ev.bind (right_tells gs keep) (Ev.congr (fun k => ?_) (Ev.now _)), ⟨fun h => by omega, fun h => ?_⟩⟩
        · have h1' : 1099511627776 < wm := h1
          simp [R, h0, h1']
        · have := h.2.1; unfold isT at this; omega
      · obtain ⟨e, h, he⟩ := check_loop R hl hb hB l.length 0 (by omega) (Nat.zero_le _)
        refine ⟨e, Ev.bind (right_tells gs keep) (Ev.congr (fun k => ?_) h), ?_⟩
        · rw [if_pos (by simp [R]), if_neg h0, if_neg h1]
          rfl
        · rw [he]
          constructor
          · rintro ⟨a, b⟩
            exact ⟨R, by unfold isT; omega, sorted_adj (fun j hj h2 => a j hj (Nat.zero_le _) h2), b⟩
          · rintro ⟨_, _, a, b⟩
            exact ⟨fun j hj _ h2 => sorted_lt a (by omega) hj, b⟩
  · refine ⟨30, Ev.bind (right_tells gs keep) (Ev.congr (fun k => ?_) (Ev.now _)), ⟨fun h => by omega, fun h => absurd h.1 R⟩⟩
    simp [R]
theorem at_tells {gs : List Gr} {keep wm : Int} (R : Rgt gs keep) (hw : isT wm) {b : List Int} {d : List ByteArray} {f : Int} {g s m : Nat} (F : FitK gs b d f g) (S : IsStep gs.length (sz gs) (ag gs) f wm s) (hm : m = max g s) :
    Ev (fun k => fold_at.f k gs keep wm b) (wrB d (f - f % sz gs m) (m : Int), (open Classical in decide (en f (sz gs (gs.length - 1)) ≤ wm - keep))) := by
  have h4 := R.four
  have hg := F.gran
  have hsl := S.lt
  have hml : m < gs.length := by omega
  have hz := R.size m hml
  unfold fold_at.f
  refine Ev.bind F.read (Ev.bind (expired_tells R F.time hw) (Ev.bind (step_tells R F.time hw S) ?_))
  have emx : mx (g : Int) (s : Int) = (m : Int) := by unfold mx; split <;> omega
  simp only [emx, if_pos (show (0 : Int) ≤ (m : Int) by omega), if_pos (show (m : Int) < (gs.length : Int) by omega), rd_sz, floor_tells F.time hz.1 hz.2, Option.bind_some]
  have f0 := fl_nonneg F.time.1 hz.1
  have f1 := fl_le (t := f) hz.1
  have ft := F.time.2
  exact Ev.bind (write_tells F.dims ⟨f0, by omega⟩ ⟨by omega, by omega⟩) (Ev.now _)
open Classical in
noncomputable def AtK (gs : List Gr) (keep wm : Int) (b : List Int) : Option (List Int) := if h : ∃ o, Ev (fun k => fold_at.f k gs keep wm b) (o, false) then some h.choose else none
theorem atK_gone {gs : List Gr} {keep wm : Int} {b o : List Int} (h : Ev (fun k => fold_at.f k gs keep wm b) (o, true)) : AtK gs keep wm b = none := by
  unfold AtK
  rw [dif_neg]
  rintro ⟨o', h'⟩
  have := Ev.uniq h h'
  simp at this
theorem atK_some {gs : List Gr} {keep wm : Int} {b o : List Int} (h : Ev (fun k => fold_at.f k gs keep wm b) (o, false)) : AtK gs keep wm b = some o := by
  unfold AtK
  have hh : ∃ o, Ev (fun k => fold_at.f k gs keep wm b) (o, false) := ⟨o, h⟩
  rw [dif_pos hh]
  have := Ev.uniq h hh.choose_spec
  simp only [Prod.mk.injEq, and_true] at this
  rw [← this]
open Classical in
theorem atK_eq {gs : List Gr} {keep wm : Int} (R : Rgt gs keep) (hw : isT wm) {b : List Int} {d : List ByteArray} {f : Int} {g s m : Nat} (F : FitK gs b d f g) (S : IsStep gs.length (sz gs) (ag gs) f wm s) (hm : m = max g s) :
    AtK gs keep wm b = if en f (sz gs (gs.length - 1)) ≤ wm - keep then none else some (wrB d (f - f % sz gs m) (m : Int)) := by
  have h := at_tells R hw F S hm
  by_cases hc : en f (sz gs (gs.length - 1)) ≤ wm - keep
  · rw [if_pos hc]
    rw [decide_eq_true hc] at h
    exact atK_gone h
  · rw [if_neg hc]
    rw [decide_eq_false hc] at h
    exact atK_some h
theorem fit_wr {gs : List Gr} {keep : Int} (R : Rgt gs keep) {d : List ByteArray} {f : Int} {m : Nat} (hd : dimsB d = true) (ht : isT f) (hm : m < gs.length) : FitK gs (wrB d (f - f % sz gs m) (m : Int)) d (f - f % sz gs m) m := by
  have h4 := R.four
  have hz := R.size m hm
  have f0 := fl_nonneg ht.1 hz.1
  have f1 := fl_le (t := f) hz.1
  have ft := ht.2
  exact ⟨read_back hd ⟨f0, by omega⟩ ⟨by omega, by omega⟩, hd, ⟨f0, by omega⟩, hm, fl_mod⟩
theorem at_ex {gs : List Gr} {keep wm : Int} (R : Rgt gs keep) (hw : isT wm) {b : List Int} (hf : fitK gs b) : ∃ o t, Ev (fun k => fold_at.f k gs keep wm b) (o, t) := by
  obtain ⟨d, f, g, F⟩ := hf
  obtain ⟨s, S⟩ := R.step_ex f wm
  exact ⟨_, _, at_tells R hw F S rfl⟩
theorem atK_fit {gs : List Gr} {keep wm : Int} (R : Rgt gs keep) (hw : isT wm) {b c : List Int} (hf : fitK gs b) (h : AtK gs keep wm b = some c) : fitK gs c ∧ c.all isB = true ∧ c.length ≤ 300 := by
  have h4 := R.four
  obtain ⟨d, f, g, F⟩ := hf
  obtain ⟨s, S⟩ := R.step_ex f wm
  have hg := F.gran
  have hsl := S.lt
  rw [atK_eq R hw F S rfl] at h
  split at h
  · cases h
  · obtain rfl := Option.some.inj h
    exact ⟨⟨_, _, _, fit_wr R F.dims F.time (by omega)⟩, wrB_isB (by omega) (by omega), wrB_len F.dims⟩
theorem atK_again {gs : List Gr} {keep w w' : Int} (R : Rgt gs keep) (hw : isT w) (hw' : isT w') (hle : w ≤ w') {b : List Int} (hf : fitK gs b) : (AtK gs keep w b).bind (AtK gs keep w') = AtK gs keep w' b := by
  obtain ⟨d, f, g, F⟩ := hf
  obtain ⟨s, S⟩ := R.step_ex f w
  obtain ⟨s1, S1⟩ := R.step_ex f w'
  have hg := F.gran
  have hsl := S.lt
  have hml : max g s < gs.length := by omega
  have h1 := R.one
  rw [atK_eq R hw F S rfl, atK_eq R hw' F S1 rfl]
  by_cases hc : en f (sz gs (gs.length - 1)) ≤ w - keep
  · rw [if_pos hc, if_pos (by omega)]; rfl
  · rw [if_neg hc, Option.bind_some]
    have F2 := fit_wr R F.dims F.time hml
    obtain ⟨s2, S2⟩ := R.step_ex (f - f % sz gs (max g s)) w'
    rw [atK_eq R hw' F2 S2 rfl]
    have e1 : en (f - f % sz gs (max g s)) (sz gs (gs.length - 1)) = en f (sz gs (gs.length - 1)) := en_same (R.floors (by omega) (by omega))
    rw [e1]
    have hs1 := S1.lt
    have em := R.again hle S rfl hg F.from_ S1 S2
    rw [em, R.floors (by have := R.never S S1 hle; omega) (by omega)]
structure WfE (x : En) : Prop where
  key : x.f0.all isB = true
  short : x.f0.length < 1000000
  cnt : inU x.f1.f0
  lo : inU x.f1.f2.f1
theorem okP_of {gs : List Gr} {x : En} (hw : WfE x) (h : fitX gs x) : okP x.f1 := ⟨⟨hw.cnt, hw.lo, h.2.2.2⟩, h.2.1⟩
noncomputable def foldM (gs : List Gr) (keep wm : Int) (l : List En) : List En := nrm (mapE (AtK gs keep wm) l)
theorem foldGo_tells {gs : List Gr} {keep wm : Int} (R : Rgt gs keep) (hw : isT wm) : ∀ (l p : List En), (∀ x ∈ l, fitK gs x.f0) → Good l → Good p → (∀ y ∈ p, y.f0.all isB = true) → p.length + l.length < 1000 →
    Ev (fun k => foldGo k gs keep wm l (nrm p)) (nrm (p ++ mapE (AtK gs keep wm) l))
  | [], p, _, _, _, _, _ => by simp only [foldGo, mapE, List.append_nil]; exact Ev.now _
  | x :: r, p, hf, hg, hgp, hb, hl => by
    have ⟨g1, g2⟩ := Good.cons.1 hg
    have hfx := hf x List.mem_cons_self
    have hfr : ∀ y ∈ r, fitK gs y.f0 := fun y hy => hf y (List.mem_cons_of_mem _ hy)
    simp only [List.length_cons] at hl
    obtain ⟨o, t, ha⟩ := at_ex R hw hfx
    simp only [foldGo]
    refine Ev.bind ha ?_
    cases t with
    | true =>
      rw [mapE_none (atK_gone ha)]
      exact Ev.congr (fun k => by simp) (foldGo_tells R hw r p hfr g2 hgp hb (by omega))
    | false =>
      have hs := atK_some ha
      rw [mapE_some hs]
      have ho := atK_fit R hw hfx hs
      have hnl := nrm_len p
      have hput : putE o x.f1 (nrm p) = some (insE o x.f1 (nrm p)) := putE_eq (nrm_sorted p) (by omega) (fun y hy => by obtain ⟨q, hq, e⟩ := nrm_mem hy; rw [e]; exact hb q hq) ho.2.1 (fun y hy => (nrm_good hgp y hy).1.2.1) g1.1.2.1
      have hsn : insE o x.f1 (nrm p) = nrm (p ++ [⟨o, x.f1⟩]) := (nrm_snoc (x := ⟨o, x.f1⟩) g1 hgp).symm
      have ih := foldGo_tells R hw r (p ++ [⟨o, x.f1⟩]) hfr g2 (fun y hy => by
        rcases List.mem_append.1 hy with hy | hy
        · exact hgp y hy
        · obtain rfl := List.mem_singleton.1 hy; exact g1) (fun y hy => by
        rcases List.mem_append.1 hy with hy | hy
        · exact hb y hy
        · obtain rfl := List.mem_singleton.1 hy; exact ho.2.1) (by simp; omega)
      rw [List.append_assoc] at ih
      refine Ev.congr (fun k => ?_) ih
      simp only [Bool.false_eq_true, if_false, hput, Option.bind_some, hsn]
theorem fold_tells {gs : List Gr} {keep wm : Int} {l : List En} (hl : l.length < 1000) (hw : ∀ x ∈ l, WfE x) (ho : okL gs keep wm l) : Ev (fun k => fold_Fold.f k gs keep wm l) (foldM gs keep wm l, 0) := by
  obtain ⟨e, h, he⟩ := check_tells gs keep wm (l := l) (by omega) (fun x hx => (hw x hx).short) (fun x hx => (hw x hx).key)
  have e0 := he.2 ho
  subst e0
  unfold fold_Fold.f
  refine Ev.bind h ?_
  obtain ⟨R, ht, _, hf⟩ := ho
  have := foldGo_tells R ht l [] (fun x hx => (hf x hx).1) (fun x hx => okP_of (hw x hx) (hf x hx)) Good.nil (fun y hy => by cases hy) (by simpa using hl)
  exact Ev.bind this (Ev.now _)
theorem fold_errs {gs : List Gr} {keep wm : Int} {l : List En} (hl : l.length < 1000) (hw : ∀ x ∈ l, WfE x) (ho : ¬ okL gs keep wm l) : ∃ e, e ≠ 0 ∧ Ev (fun k => fold_Fold.f k gs keep wm l) ([], e) := by
  obtain ⟨e, h, he⟩ := check_tells gs keep wm (l := l) (by omega) (fun x hx => (hw x hx).short) (fun x hx => (hw x hx).key)
  have e0 : e ≠ 0 := fun h0 => ho (he.1 h0)
  refine ⟨e, e0, ?_⟩
  unfold fold_Fold.f
  refine Ev.bind h ?_
  simp only [if_neg e0]
  exact Ev.now _
def okQ (a : Ag) : Prop := okP a ∧ a.f3 ≤ a.f4
theorem okQ_merge {a b : Ag} (ha : okQ a) (hb : okQ b) : okQ (mergeA a b) := by
  refine ⟨okP_merge ha.1 hb.1, ?_⟩
  rw [mergeA_eq ha.1.1 hb.1.1 ha.1.2 hb.1.2]
  have h1 := ha.2
  have h2 := hb.2
  simp only
  unfold leastI mostI
  split <;> split <;> omega
theorem ins_all {P : Ag → Prop} (hm : ∀ a b, P a → P b → P (mergeA a b)) {b : List Int} {a : Ag} (ha : P a) : ∀ {l : List En}, (∀ y ∈ l, P y.f1) → ∀ y ∈ insE b a l, P y.f1
  | [], _, y, hy => by obtain rfl := List.mem_singleton.1 hy; exact ha
  | x :: r, h, y, hy => by
    have hx := h x List.mem_cons_self
    have hr : ∀ y ∈ r, P y.f1 := fun y hy => h y (List.mem_cons_of_mem _ hy)
    rcases cmpB_tri x.f0 b with c | c | c
    · rw [ins_lt c] at hy
      rcases List.mem_cons.1 hy with rfl | hy
      · exact hx
      · exact ins_all hm ha hr y hy
    · rw [ins_eq c] at hy
      rcases List.mem_cons.1 hy with rfl | hy
      · exact hm _ _ hx ha
      · exact hr y hy
    · rw [ins_gt c] at hy
      rcases List.mem_cons.1 hy with rfl | hy
      · exact ha
      · exact h y hy
theorem nrm_all {P : Ag → Prop} (hm : ∀ a b, P a → P b → P (mergeA a b)) : ∀ {l : List En}, (∀ y ∈ l, P y.f1) → ∀ y ∈ nrm l, P y.f1
  | [], _, _, hy => by cases hy
  | x :: r, h, y, hy => ins_all hm (h x List.mem_cons_self) (nrm_all hm (fun y hy => h y (List.mem_cons_of_mem _ hy))) y hy
theorem foldM_ok {gs : List Gr} {keep wm : Int} {l : List En} (hw : ∀ x ∈ l, WfE x) (ho : okL gs keep wm l) :
    SortedE (foldM gs keep wm l) ∧ (∀ x ∈ foldM gs keep wm l, fitX gs x) ∧ (∀ x ∈ foldM gs keep wm l, WfE x) ∧ (foldM gs keep wm l).length ≤ l.length ∧ ∀ x ∈ foldM gs keep wm l, ∃ y ∈ l, AtK gs keep wm y.f0 = some x.f0 := by
  obtain ⟨R, ht, hs, hf⟩ := ho
  have hQ : ∀ x ∈ foldM gs keep wm l, okQ x.f1 := nrm_all (P := okQ) (fun _ _ => okQ_merge) (fun y hy => by
    obtain ⟨x, hx, _, e⟩ := mapE_mem hy
    rw [e]
    exact ⟨okP_of (hw x hx) (hf x hx), (hf x hx).2.2.1⟩)
  have hk : ∀ x ∈ foldM gs keep wm l, ∃ y ∈ l, AtK gs keep wm y.f0 = some x.f0 := fun x hx => by
    obtain ⟨z, hz, e⟩ := nrm_mem hx
    obtain ⟨y, hy, e2, _⟩ := mapE_mem hz
    exact ⟨y, hy, by rw [e2, e]⟩
  have hfit : ∀ x ∈ foldM gs keep wm l, fitK gs x.f0 ∧ x.f0.all isB = true ∧ x.f0.length ≤ 300 := fun x hx => by
    obtain ⟨y, hy, e⟩ := hk x hx
    exact atK_fit R ht (hf y hy).1 e
  refine ⟨nrm_sorted _, fun x hx => ⟨(hfit x hx).1, (hQ x hx).1.2, (hQ x hx).2, (hQ x hx).1.1.2.2⟩, fun x hx => ⟨(hfit x hx).2.1, by have := (hfit x hx).2.2; omega, (hQ x hx).1.1.1, (hQ x hx).1.1.2.1⟩, ?_, hk⟩
  exact Nat.le_trans (nrm_len _) (mapE_len _ _)
theorem foldM_later {gs : List Gr} {keep w w' : Int} {l : List En} (hw : ∀ x ∈ l, WfE x) (ho : okL gs keep w l) (ht : isT w') (hle : w ≤ w') : foldM gs keep w' (foldM gs keep w l) = foldM gs keep w' l :=
  fold_fold (fun x hx => okP_of (hw x hx) (ho.2.2.2 x hx)) (fun x hx => atK_again ho.1 ho.2.1 ht hle (ho.2.2.2 x hx).1)
theorem alive17_tells : Ev (fun k => rickyardlaw17_alive.f k) true := ⟨64, fun k hk => by show rickyardlaw17_alive.f k = _; unfold rickyardlaw17_alive.f; rw [if_pos hk]⟩
theorem eq_nil (l : List ByteArray) : Ev (fun k => slices_Equal_string_string.f k (l.take ([] : List ByteArray).length) []) true :=
  Ev.step (f := fun _ => some true) (fun k => by simp [slices_Equal_string_string.f, slices_Equal_string_string.l0]) (Ev.now _)
def inRange (lo hi : Int) (x : Rw) : Bool := decide (lo ≤ x.f1 ∧ x.f1 < hi)
theorem scan_nil {lo hi : Int} : ∀ (l out : List Rw), out.length + l.length < 1000000 → Ev (fun k => scanGo k [] lo hi l out) (out ++ l.filter (inRange lo hi))
  | [], out, _ => by simp only [scanGo, List.filter_nil, List.append_nil]; exact Ev.now _
  | x :: r, out, h => by
    simp only [List.length_cons] at h
    refine Ev.congr (f := fun k => (slices_Equal_string_string.f k (x.f0.take ([] : List ByteArray).length) []).bind fun q => if q = true ∧ lo ≤ x.f1 ∧ x.f1 < hi then (if out.length < 1000000 then scanGo k [] lo hi r (out ++ [x]) else none) else scanGo k [] lo hi r out) (fun k => by
      conv => lhs; unfold scanGo
      rw [if_pos (show ([] : List ByteArray).length ≤ x.f0.length from Nat.zero_le _)]) (Ev.bind (eq_nil x.f0) ?_)
    by_cases c : lo ≤ x.f1 ∧ x.f1 < hi
    · have hc : inRange lo hi x = true := decide_eq_true c
      rw [List.filter_cons_of_pos hc]
      have := scan_nil (lo := lo) (hi := hi) r (out ++ [x]) (by simp; omega)
      rw [List.append_assoc, List.singleton_append] at this
      refine Ev.congr (fun k => ?_) this
      rw [if_pos ⟨rfl, c⟩, if_pos (by omega)]
    · have hc : ¬ inRange lo hi x = true := by unfold inRange; simpa using c
      rw [List.filter_cons_of_neg hc]
      refine Ev.congr (fun k => ?_) (scan_nil r out (by omega))
      rw [if_neg (fun h => c h.2)]
def isRow (gs : List Gr) (x : En) (y : Rw) : Prop := ∃ g : Nat, FitK gs x.f0 y.f0 y.f1 g ∧ y.f2 = sz gs g ∧ y.f3 = x.f1
inductive RowsOf (gs : List Gr) : List En → List Rw → Prop
  | nil : RowsOf gs [] []
  | cons {x : En} {y : Rw} {l : List En} {rs : List Rw} : isRow gs x y → RowsOf gs l rs → RowsOf gs (x :: l) (y :: rs)
theorem RowsOf.length {gs : List Gr} : ∀ {l : List En} {rs : List Rw}, RowsOf gs l rs → rs.length = l.length
  | _, _, .nil => rfl
  | _, _, .cons _ h => by simp [h.length]
theorem rows_loop {gs : List Gr} {keep : Int} {fl : List En} (hl : fl.length < 1000000) (hf : ∀ x ∈ fl, fitX gs x) (d : Nat) : ∀ (i : Nat) (out : List Rw), fl.length - i = d → out.length ≤ i → ∃ rs, RowsOf gs (fl.drop i) rs ∧ Ev (fun k => ask_rows.l0 k out fl (fl.length : Int) (i : Int) gs keep) (out ++ rs, 0) := by
  induction d with
  | zero =>
    intro i out hd ho
    refine ⟨[], by rw [List.drop_eq_nil_of_le (by omega)]; exact RowsOf.nil, Ev.step (fun k => ?_) (Ev.now _)⟩
    simp only [ask_rows.l0]
    rw [if_neg (by omega), List.append_nil]
  | succ d ih =>
    intro i out hd ho
    have hi : i < fl.length := by omega
    obtain ⟨dd, f, g, F⟩ := (hf fl[i] (List.getElem_mem hi)).1
    obtain ⟨rs, h1, h2⟩ := ih (i + 1) (out ++ [⟨dd, f, sz gs g, fl[i].f1⟩]) (by omega) (by simp; omega)
    have hg := F.gran
    refine ⟨⟨dd, f, sz gs g, fl[i].f1⟩ :: rs, ?_, Ev.step (f := fun k => (key_Read.f k fl[i].f0).bind fun bt => if 0 ≤ bt.2.2.1 then (if bt.2.2.1 < (gs.length : Int) then ask_rows.l0 k (out ++ [⟨bt.1, bt.2.1, (rd_T84 gs bt.2.2.1).f0, fl[i].f1⟩]) fl (fl.length : Int) ((i + 1 : Nat) : Int) gs keep else none) else none) (fun k => ?_) (Ev.bind F.read ?_)⟩
    · rw [List.drop_eq_getElem_cons hi]
      exact RowsOf.cons ⟨g, F, rfl, rfl⟩ h1
    · simp only [ask_rows.l0, rd_ent hi, kw64o i (by omega)]
      rw [if_pos (by omega), if_pos (by omega), if_pos (by omega)]
      simp only [if_pos (show out.length < 1599289640401 by omega)]
    · simp only [if_pos (show (0 : Int) ≤ (g : Int) by omega), if_pos (show (g : Int) < (gs.length : Int) by omega), rd_sz]
      simpa using h2
theorem rows_tells {gs : List Gr} {keep w : Int} {l : List En} (hl : l.length < 1000) (hw : ∀ x ∈ l, WfE x) (ho : okL gs keep w l) : ∃ rs, RowsOf gs (foldM gs keep w l) rs ∧ Ev (fun k => ask_rows.f k gs keep w l) (rs, 0) := by
  obtain ⟨x1, x2, x3, x4, _⟩ := foldM_ok hw ho
  obtain ⟨rs, h1, h2⟩ := rows_loop (keep := keep) (fl := foldM gs keep w l) (by omega) x2 _ 0 [] rfl (Nat.le_refl 0)
  refine ⟨rs, by simpa using h1, ?_⟩
  unfold ask_rows.f
  refine Ev.bind (fold_tells hl hw ho) ?_
  simp only [if_true]
  simpa using h2
theorem rows_errs {gs : List Gr} {keep w : Int} {l : List En} (hl : l.length < 1000) (hw : ∀ x ∈ l, WfE x) (ho : ¬ okL gs keep w l) : ∃ e, e ≠ 0 ∧ Ev (fun k => ask_rows.f k gs keep w l) ([], e) := by
  obtain ⟨e, he, h⟩ := fold_errs (gs := gs) (keep := keep) (wm := w) hl hw ho
  refine ⟨e, he, ?_⟩
  unfold ask_rows.f
  refine Ev.bind h ?_
  simp only [if_neg he]
  exact Ev.now _
theorem scan_errs {gs : List Gr} {keep w : Int} {l : List En} (hl : l.length < 1000) (hw : ∀ x ∈ l, WfE x) (ho : ¬ okL gs keep w l) (dims : List ByteArray) (lo hi : Int) : ∃ e, e ≠ 0 ∧ Ev (fun k => ask_Scan.f k gs keep w l dims lo hi) ([], e) := by
  obtain ⟨e, he, h⟩ := rows_errs (gs := gs) (keep := keep) (w := w) hl hw ho
  refine ⟨e, he, ?_⟩
  unfold ask_Scan.f
  refine Ev.bind h ?_
  simp only [if_neg he]
  exact Ev.now _
theorem scan_all {gs : List Gr} {keep w : Int} {l : List En} (hl : l.length < 1000) (hw : ∀ x ∈ l, WfE x) (ho : okL gs keep w l) : ∃ rs, RowsOf gs (foldM gs keep w l) rs ∧ Ev (fun k => ask_Scan.f k gs keep w l [] 0 1099511627776) (rs.filter (inRange 0 1099511627776), 0) := by
  obtain ⟨rs, h1, h2⟩ := rows_tells hl hw ho
  obtain ⟨_, _, _, x4, _⟩ := foldM_ok hw ho
  have hlen : rs.length = (foldM gs keep w l).length := h1.length
  refine ⟨rs, h1, ?_⟩
  unfold ask_Scan.f
  refine Ev.bind h2 ?_
  simp only [if_true]
  have hk : key_Right.f ([] : List ByteArray) 0 0 = some true := by rw [key_right_tells]; rfl
  have hr : ask_ranged.f 0 1099511627776 = some true := rfl
  simp only [hk, hr, Option.bind_some, if_true]
  refine Ev.bind (scan_nil rs [] (by simp; omega)) (Ev.now _)
theorem lit_u8 {x : Int} (h : (Lit.int .u8 x).wf = true) : isB x = true := by
  simpa [Lit.wf, IntKind.min, IntKind.max, IntKind.bits, IntKind.signed, isB] using h
theorem lit_u64 {x : Int} (h : (Lit.int .u64 x).wf = true) : inU x := by
  have : 0 ≤ x ∧ x ≤ 18446744073709551615 := by simpa [Lit.wf, IntKind.min, IntKind.max, IntKind.bits, IntKind.signed] using h
  unfold inU mW; omega
theorem wfE_of {x : En} (h : wfS60 x) (hs : x.f0.length ≤ 300) : WfE x := ⟨List.all_eq_true.2 (fun z hz => lit_u8 (h.1.2 z hz)), by omega, lit_u64 h.2.1, lit_u64 h.2.2.1.2⟩
theorem great_loop (l : List En) (hl : l.length < 1000000) (d : Nat) : ∀ i : Nat, l.length - i = d → ∃ t, Ev (fun k => rickyardlaw15_Great.l0 k l (i : Int)) t ∧ (t = false → ∀ j (hj : j < l.length), i ≤ j → l[j].f0.length ≤ 300) := by
  induction d with
  | zero =>
    intro i hd
    refine ⟨false, Ev.step (fun k => ?_) (Ev.now _), fun _ j hj h => by omega⟩
    simp only [rickyardlaw15_Great.l0]
    rw [if_neg (by omega)]
  | succ d ih =>
    intro i hd
    have hlt : i < l.length := by omega
    by_cases hg : (l[i].f0.length : Int) > 300
    · refine ⟨true, Ev.step (fun k => ?_) (Ev.now _), fun h => by cases h⟩
      simp only [rickyardlaw15_Great.l0, rd_ent hlt]
      rw [if_pos (by omega), if_pos (by omega), if_pos hg]
    · obtain ⟨t, h, ht⟩ := ih (i + 1) (by omega)
      refine ⟨t, Ev.step (fun k => ?_) h, fun hf j hj hij => ?_⟩
      · simp only [rickyardlaw15_Great.l0, rd_ent hlt, kw64o i (by omega)]
        rw [if_pos (by omega), if_pos (by omega), if_neg hg]
      · rcases Nat.lt_or_ge i j with h1 | h1
        · exact ht hf j hj h1
        · obtain rfl : i = j := by omega
          omega
theorem great_ex (l : List En) : ∃ t, Ev (fun k => rickyardlaw15_Great.f k l) t ∧ (t = false → l.length ≤ 60 ∧ ∀ x ∈ l, x.f0.length ≤ 300) := by
  unfold rickyardlaw15_Great.f
  by_cases h : (l.length : Int) > 60
  · exact ⟨true, Ev.congr (fun k => by rw [if_pos h]) (Ev.now _), fun h => by cases h⟩
  · obtain ⟨t, ht, hf⟩ := great_loop l (by omega) _ 0 rfl
    refine ⟨t, Ev.congr (fun k => by rw [if_neg h]; rfl) ht, fun h0 => ⟨by omega, fun x hx => ?_⟩⟩
    obtain ⟨j, hj, rfl⟩ := List.getElem_of_mem hx
    exact hf h0 j hj (Nat.zero_le _)
end Go.Proofs.Ytdopbhbbpgfliaa.PAsk
end
section
namespace Go.Proofs.Ytdopbhbbpgfliaa.PAsk
open Go.RowKit Go.Proofs.YtdopbhbbpgfliaaW.PrintWords Go.Proofs.YtdopbhbbpgfliaaW.PrintLast Go.Proofs.YtdopbhbbpgfliaaW.PrintMore Go.Proofs.Ytdopbhbbpgfliaa.GrainM Go.Proofs.Ytdopbhbbpgfliaa.GrainL
set_option linter.unusedVariables false
set_option linter.unusedSimpArgs false
set_option maxHeartbeats 8000000
set_option maxRecDepth 100000
open Classical in
noncomputable def fromB (gs : List Gr) (T : Int) (b : List Int) : Bool := decide (∃ d f g, FitK gs b d f g ∧ f < T)
theorem FitK.uniq {gs : List Gr} {b : List Int} {d d' : List ByteArray} {f f' : Int} {g g' : Nat} (h : FitK gs b d f g) (h' : FitK gs b d' f' g') : d = d' ∧ f = f' ∧ g = g' := by
  have := Ev.uniq h.read h'.read
  simp only [Prod.mk.injEq] at this
  exact ⟨this.1, this.2.1, by omega⟩
open Classical in
theorem fromB_eq {gs : List Gr} {T : Int} {b : List Int} {d : List ByteArray} {f : Int} {g : Nat} (h : FitK gs b d f g) : fromB gs T b = decide (f < T) := by
  unfold fromB
  by_cases c : f < T
  · rw [decide_eq_true c]; exact decide_eq_true ⟨d, f, g, h, c⟩
  · rw [decide_eq_false c]
    exact decide_eq_false (fun ⟨d', f', g', h', c'⟩ => c ((h.uniq h').2.1 ▸ c'))
theorem rows_cnt {gs : List Gr} {p : Rw → Bool} {q : En → Bool} : ∀ {A : List En} {rs : List Rw}, RowsOf gs A rs → (∀ x ∈ A, ∀ y, isRow gs x y → p y = q x) → rs.countP p = A.countP q
  | _, _, .nil, _ => rfl
  | x :: A, y :: rs, .cons h hs, hq => by
    rw [List.countP_cons, List.countP_cons, rows_cnt hs (fun z hz => hq z (List.mem_cons_of_mem _ hz)), hq x List.mem_cons_self y h]
theorem ins_cnt (q : List Int → Bool) (b : List Int) (a : Ag) : ∀ l : List En, (insE b a l).countP (fun x => q x.f0) ≤ l.countP (fun x => q x.f0) + (if q b then 1 else 0)
  | [] => by simp [insE, List.countP_cons]
  | y :: r => by
    rcases cmpB_tri y.f0 b with c | c | c
    · rw [ins_lt c, List.countP_cons, List.countP_cons]
      have := ins_cnt q b a r
      omega
    · rw [ins_eq c, List.countP_cons, List.countP_cons]
      simp only [c]
      omega
    · rw [ins_gt c, List.countP_cons]
      simp
theorem nrm_cnt (q : List Int → Bool) : ∀ l : List En, (nrm l).countP (fun x => q x.f0) ≤ l.countP (fun x => q x.f0)
  | [] => Nat.le_refl _
  | x :: r => by
    show (insE x.f0 x.f1 (nrm r)).countP (fun x => q x.f0) ≤ _
    have h1 := ins_cnt q x.f0 x.f1 (nrm r)
    have h2 := nrm_cnt q r
    rw [List.countP_cons]
    omega
theorem mapE_cnt {f : List Int → Option (List Int)} {q : List Int → Bool} {p : En → Bool} : ∀ {l : List En}, (∀ x ∈ l, ∀ c, f x.f0 = some c → q c = true → p x = true) → (mapE f l).countP (fun x => q x.f0) ≤ l.countP p
  | [], _ => Nat.le_refl _
  | x :: r, h => by
    have ih := mapE_cnt (f := f) (q := q) (p := p) (l := r) (fun y hy => h y (List.mem_cons_of_mem _ hy))
    rw [List.countP_cons]
    cases hf : f x.f0 with
    | none => rw [mapE_none hf]; omega
    | some c =>
      rw [mapE_some hf, List.countP_cons]
      have := h x List.mem_cons_self c hf
      by_cases hq : q c = true
      · rw [if_pos (this hq)]; simp only [hq, if_true]; omega
      · simp only [hq]; simp; omega
theorem cnt_split {α : Type} (p q : α → Bool) : ∀ l : List α, (l.filter p).countP q + l.countP (fun x => p x && !q x) = l.countP p
  | [] => rfl
  | x :: r => by
    have ih := cnt_split p q r
    by_cases hp : p x = true
    · rw [List.filter_cons_of_pos hp, List.countP_cons, List.countP_cons, List.countP_cons, hp]
      cases q x <;> simp <;> omega
    · rw [List.filter_cons_of_neg hp, List.countP_cons, List.countP_cons]
      have : p x = false := by simpa using hp
      rw [this]
      simpa using ih
def goneR (gs : List Gr) (keep later : Int) (y : Rw) : Bool := decide (en y.f1 (sz gs (gs.length - 1)) ≤ later - keep)
theorem later_loop {gs : List Gr} {keep later : Int} (R : Rgt gs keep) (hw : isT later) {a b : List Rw} (ha : a.length < 1000000) (hb : b.length < 1000000) (ht : ∀ y ∈ a, isT y.f1) (d : Nat) : ∀ i c : Nat, a.length - i = d → c ≤ i → i ≤ a.length →
    Ev (fun k => rickyardlaw17_AskLater.l0 k later a b (c : Int) (i : Int) gs keep) (decide (b.length ≤ a.length - (c + (a.drop i).countP (goneR gs keep later)))) := by
  have u64 : ∀ n : Nat, n < 4294967296 → IntKind.u64.wrap (n : Int) = (n : Int) := fun n h => by rw [IntKind.wrap_u64]; omega
  induction d with
  | zero =>
    intro i c hd hc hi
    refine Ev.step (f := fun k => (rickyardlaw17_alive.f k).bind fun t => if t = true then some (decide (b.length ≤ a.length - (c + (a.drop i).countP (goneR gs keep later)))) else some false) (fun k => ?_) (Ev.bind alive17_tells (by simp only [if_true]; exact Ev.now _))
    simp only [rickyardlaw17_AskLater.l0]
    rw [if_neg (by omega), List.drop_eq_nil_of_le (by omega), u64 _ (by omega), u64 _ (by omega), show (a.length : Int) - (c : Int) = ((a.length - c : Nat) : Int) by omega, u64 _ (by omega)]
    congr 1
    funext t
    congr 2
    exact decide_eq_decide.2 (by simp only [List.countP_nil]; omega)
  | succ d ih =>
    intro i c hd hc hi
    have hlt : i < a.length := by omega
    have hT := ht _ (List.getElem_mem hlt)
    have hdr := List.drop_eq_getElem_cons hlt
    refine Ev.step (f := fun k => (grain_Expired.f k gs keep a[i].f1 later).bind fun bt => if bt.2 = 0 then (if bt.1 = true then rickyardlaw17_AskLater.l0 k later a b ((c + 1 : Nat) : Int) ((i + 1 : Nat) : Int) gs keep else rickyardlaw17_AskLater.l0 k later a b (c : Int) ((i + 1 : Nat) : Int) gs keep) else some false) (fun k => ?_) (Ev.bind (expired_tells R hT hw) ?_)
    · simp only [rickyardlaw17_AskLater.l0, rd_row hlt, kw64o i (by omega)]
      rw [if_pos (by omega), if_pos (by omega), show ((c : Int) + 1) = ((c + 1 : Nat) : Int) by omega, u64 _ (by omega)]
    · simp only [if_true]
      rw [hdr, List.countP_cons]
      by_cases hg : en a[i].f1 (sz gs (gs.length - 1)) ≤ later - keep
      · have hgr : goneR gs keep later a[i] = true := decide_eq_true hg
        have := ih (i + 1) (c + 1) (by omega) (by omega) (by omega)
        rw [hgr]
        simp only [hg, decide_true, if_true]
        rw [show c + (List.countP (goneR gs keep later) (a.drop (i + 1)) + 1) = c + 1 + List.countP (goneR gs keep later) (a.drop (i + 1)) by omega]
        exact this
      · have hgr : goneR gs keep later a[i] = false := decide_eq_false hg
        have := ih (i + 1) c (by omega) (by omega) (by omega)
        rw [hgr]
        simp only [hg, decide_false, Bool.false_eq_true, if_false, Nat.add_zero]
        exact this
theorem from_later {gs : List Gr} {keep later : Int} (R : Rgt gs keep) (hw : isT later) {b c : List Int} (hf : fitK gs b) (h : AtK gs keep later b = some c) (hq : fromB gs 1099511627776 c = true) : fromB gs 1099511627776 b = true := by
  obtain ⟨d, f, g, F⟩ := hf
  rw [fromB_eq F]
  refine decide_eq_true (Decidable.byContradiction fun hc => ?_)
  obtain ⟨s, S⟩ := R.step_ex f later
  have hfT : f = 1099511627776 := by have := F.time.2; omega
  have hs0 : s = 0 := by
    refine Decidable.byContradiction fun hs => ?_
    have h1 := S.below s (by omega) (Nat.le_refl _)
    have hz := R.size s S.lt
    have ha := R.age s S.lt
    have h2 := hw.2
    unfold old at h1
    unfold en at h1
    have h3 := Int.emod_lt_of_pos f (show 0 < sz gs s by omega)
    omega
  subst hs0
  rw [atK_eq R hw F S (m := g) (by omega)] at h
  split at h
  · cases h
  · obtain rfl := Option.some.inj h
    rw [F.from_, Int.sub_zero] at hq
    have F2 := fit_wr R (f := f) F.dims F.time F.gran
    rw [F.from_, Int.sub_zero] at F2
    rw [fromB_eq F2] at hq
    exact hc (of_decide_eq_true hq)
end Go.Proofs.Ytdopbhbbpgfliaa.PAsk
namespace Go.Proofs.Ytdopbhbbpgfliaa.Pure
open Go.RowKit Go.Proofs.YtdopbhbbpgfliaaW.PrintWords Go.Proofs.YtdopbhbbpgfliaaW.PrintLast Go.Proofs.YtdopbhbbpgfliaaW.PrintMore Go.Proofs.Ytdopbhbbpgfliaa.PAsk Go.Proofs.Ytdopbhbbpgfliaa.GrainM Go.Proofs.Ytdopbhbbpgfliaa.GrainL
theorem AskLater : rickyardlaw17_AskLater.Pure := by
  classical
  intro gs keep w later l _ _ _ _ hwl
  refine Ev.rounds ?_
  unfold rickyardlaw17_AskLater.f
  have hal : Ev (fun k => (rickyardlaw17_alive.f k).bind fun t => some t) true := Ev.bind alive17_tells (Ev.now _)
  have hj0 : Ev (fun k => rickyardlaw17_AskLater.j0 k w later l true gs keep) true := Ev.step (fun k => by simp only [rickyardlaw17_AskLater.j0, if_true]) hal
  have hj1 : ∀ a b, Ev (fun k => rickyardlaw17_AskLater.j1 k later a b true gs keep) true := fun a b => Ev.step (fun k => by simp only [rickyardlaw17_AskLater.j1, if_true]) hal
  obtain ⟨t, ht, hf⟩ := great_ex l
  refine Ev.bind ht ?_
  cases t with
  | true => simp only [if_true]; exact hj0
  | false =>
    obtain ⟨l60, lk⟩ := hf rfl
    simp only [Bool.false_eq_true, if_false]
    have wl : ∀ x ∈ l, WfE x := fun x hx => wfE_of (hwl.2 x hx) (lk x hx)
    by_cases hlw : later < w
    · rw [show decide (later < w) = true from decide_eq_true hlw]; exact hj0
    rw [show decide (later < w) = false from decide_eq_false hlw]
    refine Ev.step (f := fun k => (ask_Scan.f k gs keep w l ([] : List ByteArray) 0 1099511627776).bind fun a => (ask_Scan.f k gs keep later l ([] : List ByteArray) 0 1099511627776).bind fun b => if a.2 = 0 then rickyardlaw17_AskLater.j1 k later a.1 b.1 (b.2 != 0) gs keep else rickyardlaw17_AskLater.j1 k later a.1 b.1 true gs keep) (fun k => by simp only [rickyardlaw17_AskLater.j0, Bool.false_eq_true, if_false]) ?_
    by_cases oa : okL gs keep w l
    case neg =>
      obtain ⟨e, he, h1⟩ := scan_errs (gs := gs) (keep := keep) (w := w) (l := l) (by omega) wl oa [] 0 1099511627776
      refine Ev.bind h1 ?_
      simp only [if_neg he]
      by_cases ob : okL gs keep later l
      · obtain ⟨_, _, h2⟩ := scan_all (gs := gs) (keep := keep) (w := later) (l := l) (by omega) wl ob
        exact Ev.bind h2 (hj1 _ _)
      · obtain ⟨_, _, h2⟩ := scan_errs (gs := gs) (keep := keep) (w := later) (l := l) (by omega) wl ob [] 0 1099511627776
        exact Ev.bind h2 (hj1 _ _)
    obtain ⟨rsA, hA, h1⟩ := scan_all (gs := gs) (keep := keep) (w := w) (l := l) (by omega) wl oa
    refine Ev.bind h1 ?_
    simp only [if_true]
    by_cases ob : okL gs keep later l
    case neg =>
      obtain ⟨e, he, h2⟩ := scan_errs (gs := gs) (keep := keep) (w := later) (l := l) (by omega) wl ob [] 0 1099511627776
      refine Ev.bind h2 ?_
      simp only [show (e != 0) = true from bne_iff_ne.2 he]
      exact hj1 _ _
    obtain ⟨rsB, hB, h2⟩ := scan_all (gs := gs) (keep := keep) (w := later) (l := l) (by omega) wl ob
    refine Ev.bind h2 ?_
    simp only [show ((0 : Int) != 0) = false from rfl]
    obtain ⟨_, x2, x3, x4, _⟩ := foldM_ok wl oa
    obtain ⟨_, y2, _, y4, _⟩ := foldM_ok wl ob
    have R := oa.1
    have hT := ob.2.1
    have hpw : ∀ x y, isRow gs x y → inRange 0 1099511627776 y = fromB gs 1099511627776 x.f0 := fun x y ⟨g, F, _, _⟩ => by
      rw [fromB_eq F]
      exact decide_eq_decide.2 ⟨fun h => h.2, fun h => ⟨F.time.1, h⟩⟩
    have hgn : ∀ x y, isRow gs x y → goneR gs keep later y = (AtK gs keep later x.f0).isNone := fun x y ⟨g, F, _, _⟩ => by
      obtain ⟨s, S⟩ := R.step_ex y.f1 later
      rw [atK_eq R hT F S rfl]
      unfold goneR
      split
      · rename_i h; rw [decide_eq_true h]; rfl
      · rename_i h; rw [decide_eq_false h]; rfl
    have eB : (rsB.filter (inRange 0 1099511627776)).length = (foldM gs keep later l).countP (fun x => fromB gs 1099511627776 x.f0) := by
      rw [← List.countP_eq_length_filter]; exact rows_cnt hB (fun x _ y h => hpw x y h)
    have eA : (rsA.filter (inRange 0 1099511627776)).length = rsA.countP (inRange 0 1099511627776) := (List.countP_eq_length_filter ..).symm
    have eS := cnt_split (inRange 0 1099511627776) (goneR gs keep later) rsA
    have eP : rsA.countP (fun y => inRange 0 1099511627776 y && !goneR gs keep later y) = (foldM gs keep w l).countP (fun x => fromB gs 1099511627776 x.f0 && !(AtK gs keep later x.f0).isNone) := rows_cnt hA (fun x _ y h => by rw [hpw x y h, hgn x y h])
    have hle : (foldM gs keep later l).countP (fun x => fromB gs 1099511627776 x.f0) ≤ (foldM gs keep w l).countP (fun x => fromB gs 1099511627776 x.f0 && !(AtK gs keep later x.f0).isNone) := by
      have q1 : nrm (mapE (AtK gs keep later) (foldM gs keep w l)) = nrm (mapE (AtK gs keep later) l) := foldM_later wl oa hT (by omega)
      show (nrm (mapE (AtK gs keep later) l)).countP _ ≤ _
      rw [← q1]
      refine Nat.le_trans (nrm_cnt _ _) (mapE_cnt (fun x hx c hc hq => ?_))
      rw [from_later R hT (x2 x hx).1 hc hq, hc]; rfl
    have hmain : (rsB.filter (inRange 0 1099511627776)).length ≤ (rsA.filter (inRange 0 1099511627776)).length - (0 + (rsA.filter (inRange 0 1099511627776)).countP (goneR gs keep later)) := by omega
    have la := hA.length
    have lb := hB.length
    have lfa := List.length_filter_le (inRange 0 1099511627776) rsA
    have lfb := List.length_filter_le (inRange 0 1099511627776) rsB
    have hta : ∀ (A : List En) (rs : List Rw), RowsOf gs A rs → ∀ y ∈ rs, isT y.f1 := fun A rs h => by
      induction h with
      | nil => intro y hy; cases hy
      | cons h _ ih =>
        intro y hy
        rcases List.mem_cons.1 hy with rfl | hy
        · exact h.choose_spec.1.time
        · exact ih y hy
    have hloop := later_loop (gs := gs) (keep := keep) (later := later) R hT (a := rsA.filter (inRange 0 1099511627776)) (b := rsB.filter (inRange 0 1099511627776)) (by omega) (by omega) (fun y hy => hta _ _ hA y (List.mem_filter.1 hy).1) _ 0 0 rfl (Nat.le_refl 0) (Nat.zero_le _)
    rw [List.drop_zero, decide_eq_true hmain] at hloop
    refine Ev.step (f := fun k => rickyardlaw17_AskLater.l0 k later (rsA.filter (inRange 0 1099511627776)) (rsB.filter (inRange 0 1099511627776)) 0 0 gs keep) (fun k => ?_) hloop
    simp only [rickyardlaw17_AskLater.j1, Bool.false_eq_true, if_false]
    rw [if_neg (by omega)]
end Go.Proofs.Ytdopbhbbpgfliaa.Pure
end
