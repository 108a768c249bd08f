import Derived.Test.YtjemmmemenljbaaZFoldParts18
import Derived.Test.YtjemmmemenljbaaZFoldParts20
section
namespace Go.Proofs.Ytjemmmemenljbaa.PFold
open Go.RowKit Go.Proofs.YtjemmmemenljbaaW.PrintWords Go.Proofs.YtjemmmemenljbaaW.PrintLast Go.Proofs.YtjemmmemenljbaaW.PrintMore Go.Proofs.Ytjemmmemenljbaa.GrainM Go.Proofs.Ytjemmmemenljbaa.GrainL
set_option linter.unusedVariables false
set_option linter.unusedSimpArgs false
set_option maxHeartbeats 8000000
set_option maxRecDepth 100000
structure FitK (gs : List Gr) (b : List Int) (d : List ByteArray) (f : Int) (g : Nat) : Prop where
  read : Ev (fun k => key_Read.f k b) (d, f, (g : Int), 0)
  dims : dimsB d = true
  time : isT f
  gran : g < gs.length
  from_ : f % sz gs g = 0
def fitK (gs : List Gr) (b : List Int) : Prop := ∃ d f g, FitK gs b d f g
def agR (a : Ag) : Prop := a.f3 ≤ a.f4 ∧ (a.f1 = true → a.f0 = mW - 1)
def fitX (gs : List Gr) (x : En) : Prop := fitK gs x.f0 ∧ x.f1.f0 ≠ 0 ∧ agR x.f1
open Classical in
theorem right_ag {a : Ag} (h0 : a.f0 ≠ 0) : agg_Right.f a.f0 a.f1 a.f2.f0 a.f2.f1 a.f3 a.f4 = some (decide (agR a)) := by
  unfold agg_Right.f agR
  rw [if_neg h0]
  by_cases h1 : a.f3 ≤ a.f4
  · by_cases h2 : a.f1 = true
    · rw [if_pos h1, if_pos h2]
      have : (a.f0 == 18446744073709551615) = decide (a.f0 = 18446744073709551615) := rfl
      rw [this]
      simp [h1, h2, mW]
    · rw [if_pos h1, if_neg h2]; simp [h1, h2]
  · rw [if_neg h1]; simp [h1]
open Classical in
theorem fits_tells1 {gs : List Gr} {keep : Int} (R : Rgt gs keep) (x : En) (hb : x.f0.length < 1000000) :
    Ev (fun k => fold_fits.f k gs keep x.f0 x.f1.f0 x.f1.f1 x.f1.f2.f0 x.f1.f2.f1 x.f1.f3 x.f1.f4) (decide (fitX gs x)) := by
  obtain ⟨⟨d, f, g, e⟩, h, hk⟩ := read_ex x.f0 hb
  have h4 := R.four
  unfold fold_fits.f
  refine Ev.bind h ?_
  have no : ∀ hh : ¬ fitX gs x, ∀ {q : Nat → Option Bool}, (∀ k, q k = some false) → Ev q (decide (fitX gs x)) := fun hh q hq => by
    rw [decide_eq_false hh]
    exact Ev.congr hq (Ev.now _)
  have un : ∀ d' f' g', FitK gs x.f0 d' f' g' → d = d' ∧ f = f' ∧ g = (g' : Int) ∧ e = 0 := fun d' f' g' F => by
    have := Ev.uniq h F.read
    simpa using this
  by_cases he : e = 0
  · obtain ⟨hd, hf, hg0, hg4⟩ := hk he
    subst he
    obtain ⟨n, rfl⟩ : ∃ n : Nat, g = (n : Int) := ⟨g.toNat, by simp only at hg0; omega⟩
    by_cases hn : n < gs.length
    · have hs := R.size n hn
      have e1 : Int.tmod f (sz gs n) = f % sz gs n := tmod_emod hf.1
      by_cases hm : f % sz gs n = 0
      · by_cases h0 : x.f1.f0 = 0
        · refine no (fun hh => hh.2.1 h0) (fun k => ?_)
          simp only [rd_sz, e1]
          rw [if_pos trivial, if_pos (by omega), if_pos (by omega), if_neg (by omega), if_pos hm, if_pos h0]
        · refine Ev.congr (fun k => ?_) (Ev.now _)
          simp only [rd_sz, e1, right_ag h0]
          rw [if_pos trivial, if_pos (by omega), if_pos (by omega), if_neg (by omega), if_pos hm, if_neg h0, Option.bind_some]
          congr 1
          apply decide_eq_decide.2
          exact ⟨fun ha => ⟨⟨d, f, n, h, hd, hf, hn, hm⟩, h0, ha⟩, fun hh => hh.2.2⟩
      · refine no (fun hh => ?_) (fun k => ?_)
        · obtain ⟨⟨d', f', g', F⟩, _⟩ := hh
          obtain ⟨rfl, rfl, hg, _⟩ := un _ _ _ F
          obtain rfl : n = g' := by omega
          exact hm F.from_
        · simp only [rd_sz, e1]
          rw [if_pos trivial, if_pos (by omega), if_pos (by omega), if_neg (by omega), if_neg hm]
    · refine no (fun hh => ?_) (fun k => ?_)
      · obtain ⟨⟨d', f', g', F⟩, _⟩ := hh
        obtain ⟨rfl, rfl, hg, _⟩ := un _ _ _ F
        have := F.gran
        omega
      · simp only
        rw [if_pos trivial, if_neg (by omega)]
  · refine no (fun hh => ?_) (fun k => ?_)
    · obtain ⟨⟨d', f', g', F⟩, _⟩ := hh
      exact he (un _ _ _ F).2.2.2
    · simp only
      rw [if_neg he]
theorem any_tells {q : Nat → En → Option Bool} {p : En → Bool} : ∀ {l : List En}, (∀ x ∈ l, Ev (fun k => q k x) (p x)) → Ev (fun k => anyQ (q k) l) (l.any p)
  | [], _ => Ev.now _
  | x :: r, h => by
    have ih := any_tells (fun y hy => h y (List.mem_cons_of_mem _ hy))
    show Ev (fun k => (q k x).bind _) _
    refine Ev.bind (h x List.mem_cons_self) ?_
    rw [List.any_cons]
    cases hp : p x with
    | true => exact Ev.congr (fun k => by simp) (Ev.now _)
    | false => exact Ev.congr (fun k => by simp) ih
open Classical in
theorem fits_tells2 {gs : List Gr} {keep : Int} (R : Rgt gs keep) {l : List En} (hl : l.length < 1000000) (hb : ∀ x ∈ l, x.f0.length < 1000000) :
    Ev (fun k => fold_Fits.f k gs keep l) (decide (∀ x ∈ l, fitX gs x)) := by
  unfold fold_Fits.f
  by_cases h0 : l.length = 0
  · obtain rfl := List.length_eq_zero_iff.1 h0
    exact Ev.congr (fun k => by simp) (Ev.now _)
  · simp only [if_neg h0]
    refine Ev.bind (right_tells gs keep) ?_
    simp only [decide_eq_true R, if_true, if_pos (show l.length ≤ 140737488355328 by omega)]
    refine Ev.bind (any_tells (p := fun x => !decide (fitX gs x)) (fun x hx => ?_)) (Ev.congr (fun k => ?_) (Ev.now _))
    · unfold unfit
      exact Ev.bind (fits_tells1 R x (hb x hx)) (Ev.now _)
    · congr 1
      by_cases hh : ∀ x ∈ l, fitX gs x
      · rw [decide_eq_true hh, List.any_eq_false.2 (fun x hx => by simp [hh x hx])]; rfl
      · rw [decide_eq_false hh]
        have : l.any (fun x => !decide (fitX gs x)) = true := by
          obtain ⟨x, hx⟩ := Classical.not_forall.1 hh
          obtain ⟨hx, hn⟩ := Classical.not_imp.1 hx
          exact List.any_eq_true.2 ⟨x, hx, by simp [hn]⟩
        rw [this]; rfl
def okL (gs : List Gr) (keep wm : Int) (l : List En) : Prop := Rgt gs keep ∧ isT wm ∧ SortedE l ∧ ∀ x ∈ l, fitX gs x
theorem sorted_adj {l : List En} (h : ∀ j (hj : j < l.length), 0 < j → cmpB (l[j - 1]'(by omega)).f0 l[j].f0 < 0) : SortedE l := by
  refine List.pairwise_iff_getElem.2 (fun i j hi hj hij => ?_)
  induction j with
  | zero => omega
  | succ j ih =>
    have h1 := h (j + 1) hj (by omega)
    simp only [Nat.add_sub_cancel] at h1
    rcases Nat.lt_or_ge i j with hl | hl
    · exact cmpB_trans (ih (by omega) hl) h1
    · obtain rfl : i = j := by omega
      exact h1
open Classical in
theorem check_loop {gs : List Gr} {keep : Int} (R : Rgt gs keep) {l : List En} (hl : l.length < 1000000) (hb : ∀ x ∈ l, x.f0.length < 1000000) (hB : ∀ x ∈ l, x.f0.all isB = true) (d : Nat) : ∀ i : Nat, l.length - i = d → i ≤ l.length →
    ∃ e, Ev (fun k => fold_check.l0 k l (l.length : Int) (i : Int) gs keep) e ∧ (e = 0 ↔ (∀ j (hj : j < l.length), i ≤ j → 0 < j → cmpB (l[j - 1]'(by omega)).f0 l[j].f0 < 0) ∧ ∀ x ∈ l, fitX gs x) := by
  induction d with
  | zero =>
    intro i hd hi
    refine ⟨if ∀ x ∈ l, fitX gs x then 0 else 3, Ev.step (f := fun k => (fold_Fits.f k gs keep l).bind fun t121 => (if t121 = true then (some 0) else (some 3))) (fun k => ?_) (Ev.bind (fits_tells2 R hl hb) (Ev.congr (fun k => ?_) (Ev.now _))), ?_⟩
    · simp only [fold_check.l0]
      rw [if_neg (by omega)]
    · by_cases hh : ∀ x ∈ l, fitX gs x
      · rw [decide_eq_true hh, if_pos rfl, if_pos hh]
      · rw [decide_eq_false hh, if_neg (by decide), if_neg hh]
    · by_cases hh : ∀ x ∈ l, fitX gs x
      · rw [if_pos hh]
        exact ⟨fun _ => ⟨fun j hj hij => by omega, hh⟩, fun _ => rfl⟩
      · rw [if_neg hh]
        exact ⟨fun h => by omega, fun h => absurd h.2 hh⟩
  | succ d ih =>
    intro i hd hi
    have hlt : i < l.length := by omega
    obtain ⟨e, h, he⟩ := ih (i + 1) (by omega) (by omega)
    rcases Nat.eq_zero_or_pos i with h0 | h0
    · subst h0
      refine ⟨e, Ev.step (fun k => ?_) h, ?_⟩
      · simp only [fold_check.l0]
        rw [if_pos (by omega), if_neg (by omega), kw64 (by omega) (by omega)]
        rfl
      · rw [he]
        exact ⟨fun hh => ⟨fun j hj h1 h2 => hh.1 j hj (by omega) h2, hh.2⟩, fun hh => ⟨fun j hj h1 h2 => hh.1 j hj (by omega) h2, hh.2⟩⟩
    · have hc : bytes_Compare.f (rd_T51 l ((i - 1 : Nat) : Int)).f0 (rd_T51 l (i : Int)).f0 = some (cmpB (l[i - 1]'(by omega)).f0 l[i].f0) := by
        rw [rd_ent hlt, rd_ent (show i - 1 < l.length by omega)]
        unfold bytes_Compare.f
        rw [if_pos ⟨hB _ (List.getElem_mem _), hB _ (List.getElem_mem _)⟩]
      have ew : wrap64 ((i : Int) - 1) = ((i - 1 : Nat) : Int) := by rw [kw64] <;> omega
      by_cases hge : cmpB (l[i - 1]'(by omega)).f0 l[i].f0 ≥ 0
      · refine ⟨50, Ev.step (fun k => ?_) (Ev.now _), ⟨fun h => by omega, fun hh => ?_⟩⟩
        · simp only [fold_check.l0, ew]
          rw [if_pos (by omega), if_pos (by omega), if_pos (by omega), if_pos (by omega), if_pos (by omega), if_pos (by omega), hc, Option.bind_some, if_pos hge]
        · have := hh.1 i hlt (Nat.le_refl _) h0
          omega
      · refine ⟨e, Ev.step (fun k => ?_) h, ?_⟩
        · simp only [fold_check.l0, ew]
          rw [if_pos (by omega), if_pos (by omega), if_pos (by omega), if_pos (by omega), if_pos (by omega), if_pos (by omega), hc, Option.bind_some, if_neg hge, kw64o i (by omega)]
        · rw [he]
          refine ⟨fun hh => ⟨fun j hj h1 h2 => ?_, hh.2⟩, fun hh => ⟨fun j hj h1 h2 => hh.1 j hj (by omega) h2, hh.2⟩⟩
          rcases Nat.lt_or_ge i j with hl' | hl'
          · exact hh.1 j hj hl' h2
          · obtain rfl : i = j := by omega
            omega
theorem check_tells (gs : List Gr) (keep wm : Int) {l : List En} (hl : l.length < 1000000) (hb : ∀ x ∈ l, x.f0.length < 1000000) (hB : ∀ x ∈ l, x.f0.all isB = true) :
    ∃ e, Ev (fun k => fold_check.f k gs keep wm l) e ∧ (e = 0 ↔ okL gs keep wm l) := by
  unfold fold_check.f
  by_cases R : Rgt gs keep
  · by_cases h0 : wm < 0
    · refine ⟨1, Ev.bind (right_tells gs keep) (Ev.congr (fun k => ?_) (Ev.now _)), ⟨fun h => by omega, fun h => ?_⟩⟩
      · simp [R, h0]
      · have := h.2.1; unfold isT at this; omega
    · by_cases h1 : wm > 1099511627776
      · refine ⟨1, Ev.bind (right_tells gs keep) (Ev.congr (fun k => ?_) (Ev.now _)), ⟨fun h => by omega, fun h => ?_⟩⟩
        · have h1' : 1099511627776 < wm := h1
          simp [R, h0, h1']
        · have := h.2.1; unfold isT at this; omega
      · obtain ⟨e, h, he⟩ := check_loop R hl hb hB l.length 0 (by omega) (Nat.zero_le _)
        refine ⟨e, Ev.bind (right_tells gs keep) (Ev.congr (fun k => ?_) h), ?_⟩
        · rw [if_pos (by simp [R]), if_neg h0, if_neg h1]
          rfl
        · rw [he]
          constructor
          · rintro ⟨a, b⟩
            exact ⟨R, by unfold isT; omega, sorted_adj (fun j hj h2 => a j hj (Nat.zero_le _) h2), b⟩
          · rintro ⟨_, _, a, b⟩
            exact ⟨fun j hj _ h2 => sorted_lt a (by omega) hj, b⟩
  · refine ⟨30, Ev.bind (right_tells gs keep) (Ev.congr (fun k => ?_) (Ev.now _)), ⟨fun h => by omega, fun h => absurd h.1 R⟩⟩
    simp [R]
theorem at_tells {gs : List Gr} {keep wm : Int} (R : Rgt gs keep) (hw : isT wm) {b : List Int} {d : List ByteArray} {f : Int} {g s m : Nat} (F : FitK gs b d f g) (S : IsStep gs.length (sz gs) (ag gs) f wm s) (hm : m = max g s) :
    Ev (fun k => fold_at.f k gs keep wm b) (wrB d (f - f % sz gs m) (m : Int), (open Classical in decide (en f (sz gs (gs.length - 1)) ≤ wm - keep))) := by
  have h4 := R.four
  have hg := F.gran
  have hsl := S.lt
  have hml : m < gs.length := by omega
  have hz := R.size m hml
  unfold fold_at.f
  refine Ev.bind F.read (Ev.bind (expired_tells R F.time hw) (Ev.bind (step_tells R F.time hw S) ?_))
  have emx : mx (g : Int) (s : Int) = (m : Int) := by unfold mx; split <;> omega
  simp only [emx, if_pos (show (0 : Int) ≤ (m : Int) by omega), if_pos (show (m : Int) < (gs.length : Int) by omega), rd_sz, floor_tells F.time hz.1 hz.2, Option.bind_some]
  have f0 := fl_nonneg F.time.1 hz.1
  have f1 := fl_le (t := f) hz.1
  have ft := F.time.2
  exact Ev.bind (write_tells F.dims ⟨f0, by omega⟩ ⟨by omega, by omega⟩) (Ev.now _)
open Classical in
noncomputable def AtK (gs : List Gr) (keep wm : Int) (b : List Int) : Option (List Int) := if h : ∃ o, Ev (fun k => fold_at.f k gs keep wm b) (o, false) then some h.choose else none
theorem atK_gone {gs : List Gr} {keep wm : Int} {b o : List Int} (h : Ev (fun k => fold_at.f k gs keep wm b) (o, true)) : AtK gs keep wm b = none := by
  unfold AtK
  rw [dif_neg]
  rintro ⟨o', h'⟩
  have := Ev.uniq h h'
  simp at this
theorem atK_some {gs : List Gr} {keep wm : Int} {b o : List Int} (h : Ev (fun k => fold_at.f k gs keep wm b) (o, false)) : AtK gs keep wm b = some o := by
  unfold AtK
  have hh : ∃ o, Ev (fun k => fold_at.f k gs keep wm b) (o, false) := ⟨o, h⟩
  rw [dif_pos hh]
  have := Ev.uniq h hh.choose_spec
  simp only [Prod.mk.injEq, and_true] at this
  rw [← this]
open Classical in
theorem atK_eq {gs : List Gr} {keep wm : Int} (R : Rgt gs keep) (hw : isT wm) {b : List Int} {d : List ByteArray} {f : Int} {g s m : Nat} (F : FitK gs b d f g) (S : IsStep gs.length (sz gs) (ag gs) f wm s) (hm : m = max g s) :
    AtK gs keep wm b = if en f (sz gs (gs.length - 1)) ≤ wm - keep then none else some (wrB d (f - f % sz gs m) (m : Int)) := by
  have h := at_tells R hw F S hm
  by_cases hc : en f (sz gs (gs.length - 1)) ≤ wm - keep
  · rw [if_pos hc]
    rw [decide_eq_true hc] at h
    exact atK_gone h
  · rw [if_neg hc]
    rw [decide_eq_false hc] at h
    exact atK_some h
theorem fit_wr {gs : List Gr} {keep : Int} (R : Rgt gs keep) {d : List ByteArray} {f : Int} {m : Nat} (hd : dimsB d = true) (ht : isT f) (hm : m < gs.length) : FitK gs (wrB d (f - f % sz gs m) (m : Int)) d (f - f % sz gs m) m := by
  have h4 := R.four
  have hz := R.size m hm
  have f0 := fl_nonneg ht.1 hz.1
  have f1 := fl_le (t := f) hz.1
  have ft := ht.2
  exact ⟨read_back hd ⟨f0, by omega⟩ ⟨by omega, by omega⟩, hd, ⟨f0, by omega⟩, hm, fl_mod⟩
theorem at_ex {gs : List Gr} {keep wm : Int} (R : Rgt gs keep) (hw : isT wm) {b : List Int} (hf : fitK gs b) : ∃ o t, Ev (fun k => fold_at.f k gs keep wm b) (o, t) := by
  obtain ⟨d, f, g, F⟩ := hf
  obtain ⟨s, S⟩ := R.step_ex f wm
  exact ⟨_, _, at_tells R hw F S rfl⟩
theorem atK_fit {gs : List Gr} {keep wm : Int} (R : Rgt gs keep) (hw : isT wm) {b c : List Int} (hf : fitK gs b) (h : AtK gs keep wm b = some c) : fitK gs c ∧ c.all isB = true ∧ c.length ≤ 300 := by
  have h4 := R.four
  obtain ⟨d, f, g, F⟩ := hf
  obtain ⟨s, S⟩ := R.step_ex f wm
  have hg := F.gran
  have hsl := S.lt
  rw [atK_eq R hw F S rfl] at h
  split at h
  · cases h
  · obtain rfl := Option.some.inj h
    exact ⟨⟨_, _, _, fit_wr R F.dims F.time (by omega)⟩, wrB_isB (by omega) (by omega), wrB_len F.dims⟩
theorem atK_again {gs : List Gr} {keep w w' : Int} (R : Rgt gs keep) (hw : isT w) (hw' : isT w') (hle : w ≤ w') {b : List Int} (hf : fitK gs b) : (AtK gs keep w b).bind (AtK gs keep w') = AtK gs keep w' b := by
  obtain ⟨d, f, g, F⟩ := hf
  obtain ⟨s, S⟩ := R.step_ex f w
  obtain ⟨s1, S1⟩ := R.step_ex f w'
  have hg := F.gran
  have hsl := S.lt
  have hml : max g s < gs.length := by omega
  have h1 := R.one
  rw [atK_eq R hw F S rfl, atK_eq R hw' F S1 rfl]
  by_cases hc : en f (sz gs (gs.length - 1)) ≤ w - keep
  · rw [if_pos hc, if_pos (by omega)]; rfl
  · rw [if_neg hc, Option.bind_some]
    have F2 := fit_wr R F.dims F.time hml
    obtain ⟨s2, S2⟩ := R.step_ex (f - f % sz gs (max g s)) w'
    rw [atK_eq R hw' F2 S2 rfl]
    have e1 : en (f - f % sz gs (max g s)) (sz gs (gs.length - 1)) = en f (sz gs (gs.length - 1)) := en_same (R.floors (by omega) (by omega))
    rw [e1]
    have hs1 := S1.lt
    have em := R.again hle S rfl hg F.from_ S1 S2
    rw [em, R.floors (by have := R.never S S1 hle; omega) (by omega)]
structure WfE (x : En) : Prop where
  key : x.f0.all isB = true
  short : x.f0.length < 1000000
  cnt : inU x.f1.f0
  lo : inU x.f1.f2.f1
theorem okP_of {gs : List Gr} {x : En} (hw : WfE x) (h : fitX gs x) : okP x.f1 := ⟨⟨hw.cnt, hw.lo, h.2.2.2⟩, h.2.1⟩
noncomputable def foldM (gs : List Gr) (keep wm : Int) (l : List En) : List En := nrm (mapE (AtK gs keep wm) l)
theorem foldGo_tells {gs : List Gr} {keep wm : Int} (R : Rgt gs keep) (hw : isT wm) : ∀ (l p : List En), (∀ x ∈ l, fitK gs x.f0) → Good l → Good p → (∀ y ∈ p, y.f0.all isB = true) → p.length + l.length < 1000 →
    Ev (fun k => foldGo k gs keep wm l (nrm p)) (nrm (p ++ mapE (AtK gs keep wm) l))
  | [], p, _, _, _, _, _ => by simp only [foldGo, mapE, List.append_nil]; exact Ev.now _
  | x :: r, p, hf, hg, hgp, hb, hl => by
    have ⟨g1, g2⟩ := Good.cons.1 hg
    have hfx := hf x List.mem_cons_self
    have hfr : ∀ y ∈ r, fitK gs y.f0 := fun y hy => hf y (List.mem_cons_of_mem _ hy)
    simp only [List.length_cons] at hl
    obtain ⟨o, t, ha⟩ := at_ex R hw hfx
    simp only [foldGo]
    refine Ev.bind ha ?_
    cases t with
    | true =>
      rw [mapE_none (atK_gone ha)]
      exact Ev.congr (fun k => by simp) (foldGo_tells R hw r p hfr g2 hgp hb (by omega))
    | false =>
      have hs := atK_some ha
      rw [mapE_some hs]
      have ho := atK_fit R hw hfx hs
      have hnl := nrm_len p
      have hput : putE o x.f1 (nrm p) = some (insE o x.f1 (nrm p)) := putE_eq (nrm_sorted p) (by omega) (fun y hy => by obtain ⟨q, hq, e⟩ := nrm_mem hy; rw [e]; exact hb q hq) ho.2.1 (fun y hy => (nrm_good hgp y hy).1.2.1) g1.1.2.1
      have hsn : insE o x.f1 (nrm p) = nrm (p ++ [⟨o, x.f1⟩]) := (nrm_snoc (x := ⟨o, x.f1⟩) g1 hgp).symm
      have ih := foldGo_tells R hw r (p ++ [⟨o, x.f1⟩]) hfr g2 (fun y hy => by
        rcases List.mem_append.1 hy with hy | hy
        · exact hgp y hy
        · obtain rfl := List.mem_singleton.1 hy; exact g1) (fun y hy => by
        rcases List.mem_append.1 hy with hy | hy
        · exact hb y hy
        · obtain rfl := List.mem_singleton.1 hy; exact ho.2.1) (by simp; omega)
      rw [List.append_assoc] at ih
      refine Ev.congr (fun k => ?_) ih
      simp only [Bool.false_eq_true, if_false, hput, Option.bind_some, hsn]
theorem fold_tells {gs : List Gr} {keep wm : Int} {l : List En} (hl : l.length < 1000) (hw : ∀ x ∈ l, WfE x) (ho : okL gs keep wm l) : Ev (fun k => fold_Fold.f k gs keep wm l) (foldM gs keep wm l, 0) := by
  obtain ⟨e, h, he⟩ := check_tells gs keep wm (l := l) (by omega) (fun x hx => (hw x hx).short) (fun x hx => (hw x hx).key)
  have e0 := he.2 ho
  subst e0
  unfold fold_Fold.f
  refine Ev.bind h ?_
  obtain ⟨R, ht, _, hf⟩ := ho
  have := foldGo_tells R ht l [] (fun x hx => (hf x hx).1) (fun x hx => okP_of (hw x hx) (hf x hx)) Good.nil (fun y hy => by cases hy) (by simpa using hl)
  exact Ev.bind this (Ev.now _)
theorem fold_errs {gs : List Gr} {keep wm : Int} {l : List En} (hl : l.length < 1000) (hw : ∀ x ∈ l, WfE x) (ho : ¬ okL gs keep wm l) : ∃ e, e ≠ 0 ∧ Ev (fun k => fold_Fold.f k gs keep wm l) ([], e) := by
  obtain ⟨e, h, he⟩ := check_tells gs keep wm (l := l) (by omega) (fun x hx => (hw x hx).short) (fun x hx => (hw x hx).key)
  have e0 : e ≠ 0 := fun h0 => ho (he.1 h0)
  refine ⟨e, e0, ?_⟩
  unfold fold_Fold.f
  refine Ev.bind h ?_
  simp only [if_neg e0]
  exact Ev.now _
def okQ (a : Ag) : Prop := okP a ∧ a.f3 ≤ a.f4
theorem okQ_merge {a b : Ag} (ha : okQ a) (hb : okQ b) : okQ (mergeA a b) := by
  refine ⟨okP_merge ha.1 hb.1, ?_⟩
  rw [mergeA_eq ha.1.1 hb.1.1 ha.1.2 hb.1.2]
  have h1 := ha.2
  have h2 := hb.2
  simp only
  unfold leastI mostI
  split <;> split <;> omega
theorem ins_all {P : Ag → Prop} (hm : ∀ a b, P a → P b → P (mergeA a b)) {b : List Int} {a : Ag} (ha : P a) : ∀ {l : List En}, (∀ y ∈ l, P y.f1) → ∀ y ∈ insE b a l, P y.f1
  | [], _, y, hy => by obtain rfl := List.mem_singleton.1 hy; exact ha
  | x :: r, h, y, hy => by
    have hx := h x List.mem_cons_self
    have hr : ∀ y ∈ r, P y.f1 := fun y hy => h y (List.mem_cons_of_mem _ hy)
    rcases cmpB_tri x.f0 b with c | c | c
    · rw [ins_lt c] at hy
      rcases List.mem_cons.1 hy with rfl | hy
      · exact hx
      · exact ins_all hm ha hr y hy
    · rw [ins_eq c] at hy
      rcases List.mem_cons.1 hy with rfl | hy
      · exact hm _ _ hx ha
      · exact hr y hy
    · rw [ins_gt c] at hy
      rcases List.mem_cons.1 hy with rfl | hy
      · exact ha
      · exact h y hy
theorem nrm_all {P : Ag → Prop} (hm : ∀ a b, P a → P b → P (mergeA a b)) : ∀ {l : List En}, (∀ y ∈ l, P y.f1) → ∀ y ∈ nrm l, P y.f1
  | [], _, _, hy => by cases hy
  | x :: r, h, y, hy => ins_all hm (h x List.mem_cons_self) (nrm_all hm (fun y hy => h y (List.mem_cons_of_mem _ hy))) y hy
theorem foldM_ok {gs : List Gr} {keep wm : Int} {l : List En} (hw : ∀ x ∈ l, WfE x) (ho : okL gs keep wm l) :
    SortedE (foldM gs keep wm l) ∧ (∀ x ∈ foldM gs keep wm l, fitX gs x) ∧ (∀ x ∈ foldM gs keep wm l, WfE x) ∧ (foldM gs keep wm l).length ≤ l.length ∧ ∀ x ∈ foldM gs keep wm l, ∃ y ∈ l, AtK gs keep wm y.f0 = some x.f0 := by
  obtain ⟨R, ht, hs, hf⟩ := ho
  have hQ : ∀ x ∈ foldM gs keep wm l, okQ x.f1 := nrm_all (P := okQ) (fun _ _ => okQ_merge) (fun y hy => by
    obtain ⟨x, hx, _, e⟩ := mapE_mem hy
    rw [e]
    exact ⟨okP_of (hw x hx) (hf x hx), (hf x hx).2.2.1⟩)
  have hk : ∀ x ∈ foldM gs keep wm l, ∃ y ∈ l, AtK gs keep wm y.f0 = some x.f0 := fun x hx => by
    obtain ⟨z, hz, e⟩ := nrm_mem hx
    obtain ⟨y, hy, e2, _⟩ := mapE_mem hz
    exact ⟨y, hy, by rw [e2, e]⟩
  have hfit : ∀ x ∈ foldM gs keep wm l, fitK gs x.f0 ∧ x.f0.all isB = true ∧ x.f0.length ≤ 300 := fun x hx => by
    obtain ⟨y, hy, e⟩ := hk x hx
    exact atK_fit R ht (hf y hy).1 e
  refine ⟨nrm_sorted _, fun x hx => ⟨(hfit x hx).1, (hQ x hx).1.2, (hQ x hx).2, (hQ x hx).1.1.2.2⟩, fun x hx => ⟨(hfit x hx).2.1, by have := (hfit x hx).2.2; omega, (hQ x hx).1.1.1, (hQ x hx).1.1.2.1⟩, ?_, hk⟩
  exact Nat.le_trans (nrm_len _) (mapE_len _ _)
theorem foldM_later {gs : List Gr} {keep w w' : Int} {l : List En} (hw : ∀ x ∈ l, WfE x) (ho : okL gs keep w l) (ht : isT w') (hle : w ≤ w') : foldM gs keep w' (foldM gs keep w l) = foldM gs keep w' l :=
  fold_fold (fun x hx => okP_of (hw x hx) (ho.2.2.2 x hx)) (fun x hx => atK_again ho.1 ho.2.1 ht hle (ho.2.2.2 x hx).1)
theorem same_loop (l : List En) (hl : l.length < 1000000) (d : Nat) : ∀ i : Nat, l.length - i = d → Ev (fun k => rickyardref08_Same.l0 k l l (i : Int)) true := by
  induction d with
  | zero =>
    intro i hd
    refine Ev.step (fun k => ?_) (Ev.now _)
    simp only [rickyardref08_Same.l0]
    rw [if_neg (by omega)]
  | succ d ih =>
    intro i hd
    refine Ev.step (fun k => ?_) (ih (i + 1) (by omega))
    simp only [rickyardref08_Same.l0, kw64o i (by omega)]
    rw [if_pos (by omega), if_pos (by omega), if_pos (by omega), if_pos trivial, if_neg (by simp)]
theorem same_tells (l : List En) (hl : l.length < 1000000) : Ev (fun k => rickyardref08_Same.f k l l) true := by
  unfold rickyardref08_Same.f
  simp only [if_true]
  exact same_loop l hl _ 0 rfl
theorem nrm_ins_app {b : List Int} {a : Ag} (ha : okP a) : ∀ {l : List En}, Good l → ∀ v, Good v → nrm (insE b a l ++ v) = insE b a (nrm (l ++ v))
  | [], _, v, _ => rfl
  | y :: l, hl, v, hv => by
    have hy := (Good.cons.1 hl).1
    have hl2 := (Good.cons.1 hl).2
    have hlv : Good (l ++ v) := fun z hz => by
      rcases List.mem_append.1 hz with h | h
      · exact hl2 z h
      · exact hv z h
    have hn := nrm_good hlv
    rcases cmpB_tri y.f0 b with c | c | c
    · rw [ins_lt c]
      show insE y.f0 y.f1 (nrm (insE b a l ++ v)) = insE b a (insE y.f0 y.f1 (nrm (l ++ v)))
      rw [nrm_ins_app ha hl2 v hv, ins_comm hy ha hn]
    · rw [ins_eq c]
      show insE b (mergeA y.f1 a) (nrm (l ++ v)) = insE b a (insE y.f0 y.f1 (nrm (l ++ v)))
      rw [c, ins_twice ha hy hn]
    · rw [ins_gt c]
      rfl
theorem good_app {u v : List En} (hu : Good u) (hv : Good v) : Good (u ++ v) := fun z hz => by
  rcases List.mem_append.1 hz with h | h
  · exact hu z h
  · exact hv z h
theorem nrm_left : ∀ {u v : List En}, Good u → Good v → nrm (nrm u ++ v) = nrm (u ++ v)
  | [], v, _, _ => rfl
  | x :: u, v, hu, hv => by
    have h1 := (Good.cons.1 hu).1
    have h2 := (Good.cons.1 hu).2
    show nrm (insE x.f0 x.f1 (nrm u) ++ v) = insE x.f0 x.f1 (nrm (u ++ v))
    rw [nrm_ins_app h1 (nrm_good h2) v hv, nrm_left h2 hv]
theorem nrm_both {u v : List En} (hu : Good u) (hv : Good v) : nrm (nrm u ++ nrm v) = nrm (u ++ v) := by
  rw [nrm_left hu (nrm_good hv), nrm_perm List.perm_append_comm (good_app hu (nrm_good hv)), nrm_left hv hu, nrm_perm List.perm_append_comm (good_app hv hu)]
theorem ins_end {b : List Int} {a : Ag} : ∀ {l : List En}, (∀ y ∈ l, cmpB y.f0 b < 0) → insE b a l = l ++ [⟨b, a⟩]
  | [], _ => rfl
  | y :: l, h => by
    rw [ins_lt (h y (by simp)), ins_end (fun z hz => h z (List.mem_cons_of_mem _ hz))]
    rfl
theorem ins_last {b : List Int} {a : Ag} : ∀ {l : List En} (_ : SortedE l) (hn : 0 < l.length), l[l.length - 1].f0 = b → insE b a l = l.set (l.length - 1) ⟨b, mergeA l[l.length - 1].f1 a⟩
  | [], _, hn, _ => absurd hn (by simp)
  | [y], _, _, h => by
    have h' : y.f0 = b := h
    rw [ins_eq h']
    rfl
  | y :: z :: l, hs, _, h => by
    have hs2 := (List.pairwise_cons.1 hs)
    have hlt : cmpB y.f0 b < 0 := by
      rw [← h]
      exact hs2.1 _ (by
        have : (y :: z :: l)[(y :: z :: l).length - 1] = (z :: l)[(z :: l).length - 1] := by simp
        rw [this]
        exact List.getElem_mem _)
    rw [ins_lt hlt]
    have := ins_last (b := b) (a := a) hs2.2 (by simp) (by simpa using h)
    rw [this]
    simp
theorem putM_tells {x : En} {acc : List En} (hlen : acc.length < 1000) (hs : SortedE acc) (hg : Good acc) (hx : okP x.f1) (hk : ∀ y ∈ acc, y.f0.all isB = true) (hkx : x.f0.all isB = true) (hle : ∀ y ∈ acc, ¬ cmpB x.f0 y.f0 < 0) : putM x acc = some (nrm (acc ++ [x])) := by
  rw [nrm_snoc hx hg, nrm_self hs]
  unfold putM
  rw [if_pos hlen]
  by_cases h0 : 0 < acc.length
  · have hlt : acc.length - 1 < acc.length := by omega
    have hm := List.getElem_mem hlt
    rw [rd_ent hlt]
    by_cases he : acc[acc.length - 1].f0 = x.f0
    · have e : eqE acc[acc.length - 1] x = true := by unfold eqE; rw [he]; simp
      rw [if_pos ⟨h0, e⟩, if_pos ⟨(hg _ hm).1.2.1, hx.1.2.1⟩, ins_last hs h0 he, he]
    · have e : ¬ eqE acc[acc.length - 1] x = true := fun h => he (strs_eq (hk _ hm) hkx (by unfold eqE at h; exact eq_of_beq h))
      rw [if_neg (fun h => e h.2)]
      have hall : ∀ y ∈ acc, cmpB y.f0 x.f0 < 0 := fun y hy => by
        obtain ⟨i, hi, rfl⟩ := List.getElem_of_mem hy
        have hlast : cmpB acc[acc.length - 1].f0 x.f0 < 0 := by
          rcases cmpB_tri acc[acc.length - 1].f0 x.f0 with c | c | c
          · exact c
          · exact absurd c he
          · exact absurd c (hle _ hm)
        rcases Nat.lt_or_ge i (acc.length - 1) with h | h
        · exact cmpB_trans (sorted_lt hs h hlt) hlast
        · have : i = acc.length - 1 := by omega
          subst this
          exact hlast
      rw [ins_end hall]
  · have : acc = [] := List.length_eq_zero_iff.1 (by omega)
    subst this
    rw [if_neg (fun h => h0 h.1)]
    rfl
def restF (fs : List Fr) : List En := fs.flatMap (·.l)
structure FrOk (f : Fr) : Prop where
  pos : 0 < f.l.length
  srt : SortedE f.l
  good : Good f.l
  isb : ∀ y ∈ f.l, y.f0.all isB = true
def OrdF : List Fr → Prop
  | [a, b] => lessFr b a = false
  | _ => True
theorem lessF_asymm {x y : List Int} {p q : Int} (h : lessF x y p q = true) : lessF y x q p = false := by
  unfold lessF at h ⊢
  have ha := cmpB_anti x y
  rw [Bool.or_eq_true, Bool.and_eq_true, decide_eq_true_iff, decide_eq_true_iff, decide_eq_true_iff] at h
  rw [Bool.or_eq_false_iff, Bool.and_eq_false_iff, decide_eq_false_iff_not, decide_eq_false_iff_not, decide_eq_false_iff_not]
  omega
theorem sinkFs_ord (fs : List Fr) (h : fs.length ≤ 2) : OrdF (sinkFs fs) := by
  match fs, h with
  | [], _ => trivial
  | [a], _ => trivial
  | [a, b], _ =>
    show OrdF (if lessFr b a = true then [b, a] else [a, b])
    by_cases t : lessFr b a = true
    · rw [if_pos t]; exact lessF_asymm t
    · rw [if_neg t]; exact Bool.eq_false_iff.2 t
theorem sinkFs_rest (fs : List Fr) : List.Perm (restF (sinkFs fs)) (restF fs) := by
  unfold sinkFs
  split
  · split
    · simp only [restF, List.flatMap_cons, List.flatMap_nil, List.append_nil]
      exact List.perm_append_comm
    · exact List.Perm.refl _
  · exact List.Perm.refl _
theorem tail_ok {f : Fr} (h : FrOk f) (hl : 1 < f.l.length) : FrOk f.tail :=
  ⟨by simp [Fr.tail]; omega, List.Pairwise.sublist (List.drop_sublist _ _) h.srt, fun y hy => h.good y (List.mem_of_mem_drop hy), fun y hy => h.isb y (List.mem_of_mem_drop hy)⟩
theorem nextFs_ok {f : Fr} {q : List Fr} (h : ∀ z ∈ f :: q, FrOk z) : ∀ z ∈ nextFs f q, FrOk z := fun z hz => by
  have := sinkFs_mem hz
  split at this
  · rename_i hl
    rcases List.mem_cons.1 this with rfl | hm
    · exact tail_ok (h f (by simp)) hl
    · exact h z (List.mem_cons_of_mem _ hm)
  · exact h z (List.mem_cons_of_mem _ this)
theorem nextFs_rest {f : Fr} {q : List Fr} {x : En} {l : List En} (hf : f.l = x :: l) : List.Perm (restF (nextFs f q)) (l ++ restF q) := by
  unfold nextFs
  refine (sinkFs_rest _).trans ?_
  by_cases hl : 1 < f.l.length
  · rw [if_pos hl]
    simp [restF, Fr.tail, hf]
  · rw [if_neg hl]
    have : l = [] := by
      rw [hf] at hl
      cases l with
      | nil => rfl
      | cons a b => simp at hl
    subst this
    simp
theorem mrgGo_tells (n : Nat) : ∀ (fs : List Fr) (acc : List En), (restF fs).length = n → fs.length ≤ 2 → (∀ f ∈ fs, FrOk f) → OrdF fs → SortedE acc → Good acc → (∀ y ∈ acc, y.f0.all isB = true) → (∀ y ∈ acc, ∀ x ∈ restF fs, ¬ cmpB x.f0 y.f0 < 0) → acc.length + n < 1000 → Ev (fun k => mrgGo k fs acc) (nrm (acc ++ restF fs)) := by
  induction n with
  | zero =>
    intro fs acc hn _ hok _ hs _ _ _ _
    cases fs with
    | nil =>
      rw [show acc ++ restF [] = acc from by simp [restF], nrm_self hs]
      exact Ev.step (f := fun _ => some acc) (fun k => rfl) (Ev.now _)
    | cons f q =>
      have := (hok f (by simp)).pos
      simp [restF] at hn
      rw [hn.1] at this
      simp at this
  | succ n ih =>
    intro fs acc hn hl hok ho hs hg hk hle hlen
    cases fs with
    | nil => simp [restF] at hn
    | cons f q =>
      have F := hok f (by simp)
      obtain ⟨x, l, hf⟩ : ∃ x l, f.l = x :: l := by
        cases h : f.l with
        | nil => have := F.pos; rw [h] at this; simp at this
        | cons x l => exact ⟨x, l, rfl⟩
      have hxm : x ∈ f.l := by rw [hf]; simp
      have hx := F.good x hxm
      have hrest : restF (f :: q) = x :: (l ++ restF q) := by simp [restF, hf]
      have hput := putM_tells (x := x) (acc := acc) (by omega) hs hg hx hk (F.isb x hxm) (fun y hy => hle y hy x (by rw [hrest]; simp))
      have hp := nextFs_rest (q := q) hf
      have hga : Good (acc ++ [x]) := good_app hg (fun y hy => by obtain rfl := List.mem_singleton.1 hy; exact hx)
      have hlast : ∀ z ∈ l ++ restF q, ¬ cmpB z.f0 x.f0 < 0 := fun z hz => by
        rcases List.mem_append.1 hz with h | h
        · have := F.srt
          rw [hf] at this
          exact cmpB_asymm ((List.pairwise_cons.1 this).1 z h)
        · match q, hl, ho, h, hok with
          | [b], _, ho, h, hok =>
            have B := hok b (by simp)
            have hz2 : z ∈ b.l := by simpa [restF] using h
            have hlb : ¬ cmpB (b.l[0]'B.pos).f0 x.f0 < 0 := fun c => by
              have h1 : lessFr b f = false := ho
              unfold lessFr lessF at h1
              rw [headD_eq B.pos, headD_eq F.pos, Bool.or_eq_false_iff, decide_eq_false_iff_not] at h1
              have h2 : (f.l[0]'F.pos) = x := by simp [hf]
              rw [h2] at h1
              exact h1.1 c
            obtain ⟨i, hi, rfl⟩ := List.getElem_of_mem hz2
            intro c
            rcases Nat.eq_zero_or_pos i with rfl | hpos
            · exact hlb c
            · exact hlb (cmpB_trans (sorted_lt B.srt hpos hi) c)
      have ih' := ih (nextFs f q) (nrm (acc ++ [x])) (by rw [hp.length_eq]; rw [hrest] at hn; simpa using hn) (nextFs_len f q (by simp at hl; omega)) (nextFs_ok hok) (sinkFs_ord _ (by split <;> simp at hl ⊢ <;> omega)) (nrm_sorted _) (nrm_good hga)
        (fun y hy => by
          obtain ⟨z, hz, e⟩ := nrm_mem hy
          rw [e]
          rcases List.mem_append.1 hz with h | h
          · exact hk z h
          · obtain rfl := List.mem_singleton.1 h; exact F.isb _ hxm)
        (fun y hy z hz => by
          have hz2 := hp.mem_iff.1 hz
          obtain ⟨u, hu, e⟩ := nrm_mem hy
          rw [e]
          rcases List.mem_append.1 hu with h | h
          · exact hle u h z (by rw [hrest]; exact List.mem_cons_of_mem _ hz2)
          · obtain rfl := List.mem_singleton.1 h; exact hlast z hz2)
        (by have := nrm_len (acc ++ [x]); simp at this; omega)
      have hgr : Good (l ++ restF q) := fun z hz => by
        rcases List.mem_append.1 hz with h | h
        · exact F.good z (by rw [hf]; exact List.mem_cons_of_mem _ h)
        · obtain ⟨b, hb, hzb⟩ := List.mem_flatMap.1 h
          exact (hok b (List.mem_cons_of_mem _ hb)).good z hzb
      have hgn : Good (restF (nextFs f q)) := fun z hz => hgr z (hp.mem_iff.1 hz)
      have e : nrm (nrm (acc ++ [x]) ++ restF (nextFs f q)) = nrm (acc ++ restF (f :: q)) := by
        rw [nrm_left hga hgn, nrm_perm (hp.append_left (acc ++ [x])) (good_app hga hgn), hrest, List.append_assoc]
        rfl
      rw [← e]
      refine Ev.step (f := fun k => mrgGo k (nextFs f q) (nrm (acc ++ [x]))) (fun k => ?_) ih'
      show (match f.l.head? with | none => none | some x => (putM x acc).bind fun a => mrgGo k (nextFs f q) a) = _
      rw [hf]
      show (putM x acc).bind _ = _
      rw [hput, Option.bind_some]
theorem merge_lo {a b : Ag} (ha : inU a.f2.f1) (hb : inU b.f2.f1) : inU (mergeA a b).f2.f1 := by
  unfold mergeA
  split
  · exact hb
  · split
    · exact ha
    · show inU (addW a.f2 b.f2).f1
      rw [addW_eq ha hb]
      exact mod_mW _
theorem putM_ex {x : En} {acc : List En} (hlen : acc.length < 1000) (hx : inU x.f1.f2.f1) (hg : ∀ y ∈ acc, inU y.f1.f2.f1) : ∃ a, putM x acc = some a ∧ a.length ≤ acc.length + 1 ∧ ∀ y ∈ a, inU y.f1.f2.f1 := by
  unfold putM
  rw [if_pos hlen]
  by_cases h : 0 < acc.length ∧ eqE (rd_T51 acc ((acc.length - 1 : Nat) : Int)) x = true
  · rw [if_pos h]
    have hlt : acc.length - 1 < acc.length := by omega
    rw [rd_ent hlt]
    have hy := hg _ (List.getElem_mem hlt)
    rw [if_pos ⟨hy, hx⟩]
    refine ⟨_, rfl, by simp, fun y hy2 => ?_⟩
    rcases List.mem_or_eq_of_mem_set hy2 with h2 | rfl
    · exact hg y h2
    · exact merge_lo hy hx
  · rw [if_neg h]
    refine ⟨_, rfl, by simp, fun y hy => ?_⟩
    rcases List.mem_append.1 hy with h2 | h2
    · exact hg y h2
    · obtain rfl := List.mem_singleton.1 h2; exact hx
theorem mrgGo_ex (n : Nat) : ∀ (fs : List Fr) (acc : List En), (restF fs).length = n → fs.length ≤ 2 → (∀ f ∈ fs, 0 < f.l.length) → (∀ x ∈ restF fs, inU x.f1.f2.f1) → (∀ y ∈ acc, inU y.f1.f2.f1) → acc.length + n < 1000 → ∃ r, Ev (fun k => mrgGo k fs acc) r := by
  induction n with
  | zero =>
    intro fs acc hn _ hok _ _ _
    cases fs with
    | nil => exact ⟨acc, Ev.step (f := fun _ => some acc) (fun k => rfl) (Ev.now _)⟩
    | cons f q =>
      have := hok f (by simp)
      simp [restF] at hn
      rw [hn.1] at this
      simp at this
  | succ n ih =>
    intro fs acc hn hl hok hr ha hlen
    cases fs with
    | nil => simp [restF] at hn
    | cons f q =>
      obtain ⟨x, l, hf⟩ : ∃ x l, f.l = x :: l := by
        cases h : f.l with
        | nil => have := hok f (by simp); rw [h] at this; simp at this
        | cons x l => exact ⟨x, l, rfl⟩
      have hrest : restF (f :: q) = x :: (l ++ restF q) := by simp [restF, hf]
      obtain ⟨a, hput, hal, hai⟩ := putM_ex (x := x) (acc := acc) (by omega) (hr x (by rw [hrest]; simp)) ha
      have hp := nextFs_rest (q := q) hf
      obtain ⟨r, h⟩ := ih (nextFs f q) a (by rw [hp.length_eq]; rw [hrest] at hn; simpa using hn) (nextFs_len f q (by simp at hl; omega))
        (fun z hz => by
          have := sinkFs_mem hz
          split at this
          · rename_i hl2
            rcases List.mem_cons.1 this with rfl | hm
            · simp [Fr.tail]; omega
            · exact hok z (List.mem_cons_of_mem _ hm)
          · exact hok z (List.mem_cons_of_mem _ this))
        (fun z hz => hr z (by rw [hrest]; exact List.mem_cons_of_mem _ (hp.mem_iff.1 hz))) hai (by omega)
      refine ⟨r, Ev.step (f := fun k => mrgGo k (nextFs f q) a) (fun k => ?_) h⟩
      show (match f.l.head? with | none => none | some x => (putM x acc).bind fun a => mrgGo k (nextFs f q) a) = _
      rw [hf]
      show (putM x acc).bind _ = _
      rw [hput, Option.bind_some]
theorem rest_two (a b : List En) : List.Perm (restF (sinkFs (frontsOf (twoRows a b)))) (a ++ b) := by
  refine (sinkFs_rest _).trans ?_
  cases a with
  | nil => cases b with
    | nil => simp [twoRows, frontsOf, restF]
    | cons y s => simp [twoRows, frontsOf, restF]
  | cons x r => cases b with
    | nil => simp [twoRows, frontsOf, restF]
    | cons y s => simp [twoRows, frontsOf, restF]
theorem fronts_pos {a b : List En} {f : Fr} (h : f ∈ sinkFs (frontsOf (twoRows a b))) : 0 < f.l.length ∧ (f.l = a ∨ f.l = b) := by
  have := sinkFs_mem h
  unfold frontsOf at this
  rw [List.mem_filter] at this
  refine ⟨by simpa using this.2, ?_⟩
  rcases List.mem_cons.1 this.1 with rfl | h2
  · exact .inl rfl
  · obtain rfl := List.mem_singleton.1 h2; exact .inr rfl
theorem fronts_len (a b : List En) : (sinkFs (frontsOf (twoRows a b))).length ≤ 2 := by
  rw [sinkFs_len]
  exact frontsOf_len _
theorem rowW_of {l : List En} (hl : l.length < 1000) (hw : ∀ x ∈ l, WfE x) : RowW l := ⟨by omega, fun y hy => ⟨(hw y hy).key, by have := (hw y hy).short; omega⟩⟩
open Classical in
theorem mAll_ex {a b : List En} (ha : a.length < 400) (hb : b.length < 400) (wa : ∀ x ∈ a, WfE x) (wb : ∀ x ∈ b, WfE x) : ∃ r, Ev (fun k => mAll k a b) r := by
  have hw : RowW a ∧ RowW b := ⟨rowW_of (by omega) wa, rowW_of (by omega) wb⟩
  by_cases hz : firstE (twoRows a b) = 0
  · obtain ⟨r, h⟩ := mrgGo_ex _ (sinkFs (frontsOf (twoRows a b))) [] rfl (fronts_len a b) (fun f hf => (fronts_pos hf).1) (fun x hx => by
      rcases List.mem_append.1 ((rest_two a b).mem_iff.1 hx) with h | h
      · exact (wa x h).lo
      · exact (wb x h).lo) (fun y hy => by cases hy) (by rw [(rest_two a b).length_eq]; simp; omega)
    refine ⟨(r, 0), ?_⟩
    refine Ev.congr (f := fun k => (mrgGo k (sinkFs (frontsOf (twoRows a b))) []).bind fun r => some (r, 0)) (fun k => ?_) (Ev.bind h (Ev.now _))
    unfold mAll
    rw [if_pos hw, if_pos hz]
  · refine ⟨([], firstE (twoRows a b)), Ev.congr (fun k => ?_) (Ev.now _)⟩
    unfold mAll
    rw [if_pos hw, if_neg hz]
theorem rowE_ok {gs : List Gr} {l : List En} (hs : SortedE l) (hf : ∀ x ∈ l, fitX gs x) : rowE l = 0 := by
  have hr : RisesE l := fun j hj h0 => sorted_lt hs (by omega) hj
  have hq : ∀ l : List En, (∀ x ∈ l, fitX gs x) → anyQ wrongQ l = some false := fun l => by
    classical
    induction l with
    | nil => intro _; rfl
    | cons x r ih =>
      intro h
      have hx := h x (by simp)
      have e : wrongQ x = some false := by
        unfold wrongQ
        rw [right_ag hx.2.1, decide_eq_true hx.2.2]
        rfl
      unfold anyQ
      rw [e]
      simpa using ih (fun y hy => h y (List.mem_cons_of_mem _ hy))
  unfold rowE
  rw [if_pos hr, hq l hf, if_neg (by simp)]
theorem mAll_tells {gs : List Gr} {a b : List En} (ha : a.length < 400) (hb : b.length < 400) (wa : ∀ x ∈ a, WfE x) (wb : ∀ x ∈ b, WfE x) (sa : SortedE a) (sb : SortedE b) (fa : ∀ x ∈ a, fitX gs x) (fb : ∀ x ∈ b, fitX gs x) : Ev (fun k => mAll k a b) (nrm (a ++ b), 0) := by
  have hw : RowW a ∧ RowW b := ⟨rowW_of (by omega) wa, rowW_of (by omega) wb⟩
  have ga : Good a := fun x hx => okP_of (wa x hx) (fa x hx)
  have gb : Good b := fun x hx => okP_of (wb x hx) (fb x hx)
  have hz : firstE (twoRows a b) = 0 := by
    show (if rowE a = 0 then (if rowE b = 0 then (0 : Int) else rowE b) else rowE a) = 0
    rw [if_pos (rowE_ok sa fa), if_pos (rowE_ok sb fb)]
  have h := mrgGo_tells _ (sinkFs (frontsOf (twoRows a b))) [] rfl (fronts_len a b) (fun f hf => by
    obtain ⟨h0, h | h⟩ := fronts_pos hf
    · exact ⟨h0, by rw [h]; exact sa, by rw [h]; exact ga, by rw [h]; exact fun y hy => (wa y hy).key⟩
    · exact ⟨h0, by rw [h]; exact sb, by rw [h]; exact gb, by rw [h]; exact fun y hy => (wb y hy).key⟩) (sinkFs_ord _ (frontsOf_len _)) List.Pairwise.nil Good.nil (fun y hy => by cases hy) (fun y hy => by cases hy) (by rw [(rest_two a b).length_eq]; simp; omega)
  rw [List.nil_append, nrm_perm (rest_two a b) (fun z hz => good_app ga gb z ((rest_two a b).mem_iff.1 hz))] at h
  refine Ev.congr (f := fun k => (mrgGo k (sinkFs (frontsOf (twoRows a b))) []).bind fun r => some (r, 0)) (fun k => ?_) (Ev.bind h (Ev.now _))
  unfold mAll
  rw [if_pos hw, if_pos hz]
open Classical in
theorem check_late {gs : List Gr} {keep wm : Int} (R : Rgt gs keep) (ht : ¬ isT wm) (l : List En) : Ev (fun k => fold_check.f k gs keep wm l) 1 := by
  unfold fold_check.f
  refine Ev.bind (right_tells gs keep) ?_
  simp only [decide_eq_true R, if_true]
  by_cases h0 : wm < 0
  · simp only [if_pos h0]; exact Ev.now _
  · have h1 : wm > 1099511627776 := by unfold isT at ht; omega
    simp only [if_neg h0, if_pos h1]; exact Ev.now _
theorem fold_late {gs : List Gr} {keep wm : Int} (R : Rgt gs keep) (ht : ¬ isT wm) (l : List En) : Ev (fun k => fold_Fold.f k gs keep wm l) ([], 1) := by
  unfold fold_Fold.f
  refine Ev.bind (check_late R ht l) ?_
  simp only [if_neg (show ¬ (1 : Int) = 0 by decide)]
  exact Ev.now _
theorem nrm_fit {gs : List Gr} {a b : List En} (wa : ∀ x ∈ a, WfE x) (wb : ∀ x ∈ b, WfE x) (fa : ∀ x ∈ a, fitX gs x) (fb : ∀ x ∈ b, fitX gs x) : ∀ y ∈ nrm (a ++ b), fitX gs y ∧ WfE y := fun y hy => by
  have hq : ∀ q ∈ a ++ b, okQ q.f1 := fun q hq => by
    rcases List.mem_append.1 hq with h | h
    · exact ⟨okP_of (wa q h) (fa q h), (fa q h).2.2.1⟩
    · exact ⟨okP_of (wb q h) (fb q h), (fb q h).2.2.1⟩
  have hQ : okQ y.f1 := nrm_all (P := okQ) (fun _ _ => okQ_merge) hq y hy
  obtain ⟨z, hz, e⟩ := nrm_mem hy
  have hz2 : fitX gs z ∧ WfE z := by
    rcases List.mem_append.1 hz with h | h
    · exact ⟨fa z h, wa z h⟩
    · exact ⟨fb z h, wb z h⟩
  exact ⟨⟨by rw [e]; exact hz2.1.1, hQ.1.2, hQ.2, hQ.1.1.2.2⟩, ⟨by rw [e]; exact hz2.2.key, by rw [e]; exact hz2.2.short, hQ.1.1.1, hQ.1.1.2.1⟩⟩
theorem alive_tells : Ev (fun k => rickyardlaw15_alive.f k) true := ⟨64, fun k hk => by show rickyardlaw15_alive.f k = _; unfold rickyardlaw15_alive.f; rw [if_pos hk]⟩
theorem lit_u8 {x : Int} (h : (Lit.int .u8 x).wf = true) : isB x = true := by
  simpa [Lit.wf, IntKind.min, IntKind.max, IntKind.bits, IntKind.signed, isB] using h
theorem lit_u64 {x : Int} (h : (Lit.int .u64 x).wf = true) : inU x := by
  have : 0 ≤ x ∧ x ≤ 18446744073709551615 := by simpa [Lit.wf, IntKind.min, IntKind.max, IntKind.bits, IntKind.signed] using h
  unfold inU mW; omega
theorem wfE_of {x : En} (h : wfS51 x) (hs : x.f0.length ≤ 300) : WfE x := ⟨List.all_eq_true.2 (fun z hz => lit_u8 (h.1.2 z hz)), by omega, lit_u64 h.2.1, lit_u64 h.2.2.1.2⟩
theorem great_loop (l : List En) (hl : l.length < 1000000) (d : Nat) : ∀ i : Nat, l.length - i = d → ∃ t, Ev (fun k => rickyardlaw15_Great.l0 k l (i : Int)) t ∧ (t = false → ∀ j (hj : j < l.length), i ≤ j → l[j].f0.length ≤ 300) := by
  induction d with
  | zero =>
    intro i hd
    refine ⟨false, Ev.step (fun k => ?_) (Ev.now _), fun _ j hj h => by omega⟩
    simp only [rickyardlaw15_Great.l0]
    rw [if_neg (by omega)]
  | succ d ih =>
    intro i hd
    have hlt : i < l.length := by omega
    by_cases hg : (l[i].f0.length : Int) > 300
    · refine ⟨true, Ev.step (fun k => ?_) (Ev.now _), fun h => by cases h⟩
      simp only [rickyardlaw15_Great.l0, rd_ent hlt]
      rw [if_pos (by omega), if_pos (by omega), if_pos hg]
    · obtain ⟨t, h, ht⟩ := ih (i + 1) (by omega)
      refine ⟨t, Ev.step (fun k => ?_) h, fun hf j hj hij => ?_⟩
      · simp only [rickyardlaw15_Great.l0, rd_ent hlt, kw64o i (by omega)]
        rw [if_pos (by omega), if_pos (by omega), if_neg hg]
      · rcases Nat.lt_or_ge i j with h1 | h1
        · exact ht hf j hj h1
        · obtain rfl : i = j := by omega
          omega
theorem great_ex (l : List En) : ∃ t, Ev (fun k => rickyardlaw15_Great.f k l) t ∧ (t = false → l.length ≤ 60 ∧ ∀ x ∈ l, x.f0.length ≤ 300) := by
  unfold rickyardlaw15_Great.f
  by_cases h : (l.length : Int) > 60
  · exact ⟨true, Ev.congr (fun k => by rw [if_pos h]) (Ev.now _), fun h => by cases h⟩
  · obtain ⟨t, ht, hf⟩ := great_loop l (by omega) _ 0 rfl
    refine ⟨t, Ev.congr (fun k => by rw [if_neg h]; rfl) ht, fun h0 => ⟨by omega, fun x hx => ?_⟩⟩
    obtain ⟨j, hj, rfl⟩ := List.getElem_of_mem hx
    exact hf h0 j hj (Nat.zero_le _)
end Go.Proofs.Ytjemmmemenljbaa.PFold
end
