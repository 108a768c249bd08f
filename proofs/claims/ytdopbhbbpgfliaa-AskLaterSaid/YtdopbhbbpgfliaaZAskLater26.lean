import Derived.Test.YtdopbhbbpgfliaaZAskLater25
import Init
section
namespace Go.Proofs.Ytdopbhbbpgfliaa.PAsk
open Go.RowKit Go.Proofs.YtdopbhbbpgfliaaW.PrintWords Go.Proofs.YtdopbhbbpgfliaaW.PrintLast Go.Proofs.YtdopbhbbpgfliaaW.PrintMore
set_option linter.unusedVariables false
set_option linter.unusedSimpArgs false
set_option maxHeartbeats 8000000
set_option maxRecDepth 100000
def okP (a : Ag) : Prop := okAg a ∧ a.f0 ≠ 0
def Good (l : List En) : Prop := ∀ y ∈ l, okP y.f1
theorem Good.cons {y : En} {r : List En} : Good (y :: r) ↔ okP y.f1 ∧ Good r := by simp [Good]
theorem Good.nil : Good [] := by simp [Good]
theorem okP_merge {a b : Ag} (ha : okP a) (hb : okP b) : okP (mergeA a b) := ⟨mergeA_ok ha.1 hb.1, mergeA_pos ha.1 hb.1 ha.2⟩
theorem cmpB_tri (x y : List Int) : cmpB x y < 0 ∨ x = y ∨ cmpB y x < 0 := by
  rcases Int.lt_trichotomy (cmpB x y) 0 with h | h | h
  · exact .inl h
  · exact .inr (.inl (cmpB_eq h))
  · exact .inr (.inr (cmpB_gt.1 h))
theorem cmpB_asymm {x y : List Int} (h : cmpB x y < 0) : ¬ cmpB y x < 0 := by have := cmpB_anti x y; omega
theorem cmpB_ne {x y : List Int} (h : cmpB x y < 0) : x ≠ y := by rintro rfl; rw [cmpB_refl] at h; omega
theorem ins_lt {b : List Int} {a : Ag} {y : En} {r : List En} (h : cmpB y.f0 b < 0) : insE b a (y :: r) = y :: insE b a r := by
  conv => lhs; unfold insE
  rw [if_pos h]
theorem ins_eq {b : List Int} {a : Ag} {y : En} {r : List En} (h : y.f0 = b) : insE b a (y :: r) = ⟨b, mergeA y.f1 a⟩ :: r := by
  conv => lhs; unfold insE
  rw [if_neg (by rw [h, cmpB_refl]; omega), if_pos h, h]
theorem ins_gt {b : List Int} {a : Ag} {y : En} {r : List En} (h : cmpB b y.f0 < 0) : insE b a (y :: r) = ⟨b, a⟩ :: y :: r := by
  conv => lhs; unfold insE
  rw [if_neg (cmpB_asymm h), if_neg (fun e => cmpB_ne h e.symm)]
theorem good_ins {b : List Int} {a : Ag} (ha : okP a) : ∀ {l : List En}, Good l → Good (insE b a l)
  | [], _ => Good.cons.2 ⟨ha, Good.nil⟩
  | y :: r, h => by
    have ⟨h1, h2⟩ := Good.cons.1 h
    rcases cmpB_tri y.f0 b with c | c | c
    · rw [ins_lt c]; exact Good.cons.2 ⟨h1, good_ins ha h2⟩
    · rw [ins_eq c]; exact Good.cons.2 ⟨okP_merge h1 ha, h2⟩
    · rw [ins_gt c]; exact Good.cons.2 ⟨ha, h⟩
theorem ins_comm {b c : List Int} {a d : Ag} (ha : okP a) (hd : okP d) : ∀ {l : List En}, Good l → insE b a (insE c d l) = insE c d (insE b a l)
  | [], _ => by
    show insE b a [⟨c, d⟩] = insE c d [⟨b, a⟩]
    rcases cmpB_tri c b with h | h | h
    · rw [ins_lt h, ins_gt (y := ⟨b, a⟩) h]; rfl
    · rw [ins_eq h, ins_eq (y := ⟨b, a⟩) h.symm, h, mergeA_comm hd.1 ha.1 hd.2 ha.2]
    · rw [ins_gt h, ins_lt (y := ⟨b, a⟩) h]; rfl
  | y :: r, hg => by
    have ⟨h1, h2⟩ := Good.cons.1 hg
    rcases cmpB_tri y.f0 b with hb | hb | hb
    · rcases cmpB_tri y.f0 c with hc | hc | hc
      · rw [ins_lt hb, ins_lt hc, ins_lt hb, ins_lt hc, ins_comm ha hd h2]
      · rw [ins_lt hb, ins_eq hc, ins_eq hc, ins_lt (y := ⟨c, _⟩) (hc ▸ hb)]
      · rw [ins_lt hb, ins_gt hc, ins_gt hc, ins_lt (y := ⟨c, d⟩) (cmpB_trans hc hb), ins_lt hb]
    · rcases cmpB_tri y.f0 c with hc | hc | hc
      · rw [ins_lt hc, ins_eq hb, ins_eq hb, ins_lt (y := ⟨b, _⟩) (hb ▸ hc)]
      · rw [ins_eq hb, ins_eq hc, ins_eq (y := ⟨c, _⟩) (hc ▸ hb), ins_eq (y := ⟨b, _⟩) (hb ▸ hc), mergeA_assoc h1.1 hd.1 ha.1 h1.2 hd.2 ha.2, mergeA_assoc h1.1 ha.1 hd.1 h1.2 ha.2 hd.2, mergeA_comm hd.1 ha.1 hd.2 ha.2, ← hb, hc]
      · rw [ins_gt hc, ins_eq hb, ins_lt (y := ⟨c, d⟩) (hb ▸ hc), ins_eq hb, ins_gt (y := ⟨b, _⟩) (hb ▸ hc)]
    · rcases cmpB_tri y.f0 c with hc | hc | hc
      · rw [ins_lt hc, ins_gt hb, ins_gt hb, ins_lt (y := ⟨b, a⟩) (cmpB_trans hb hc), ins_lt hc]
      · rw [ins_eq hc, ins_gt hb, ins_gt (y := ⟨c, _⟩) (hc ▸ hb), ins_lt (y := ⟨b, a⟩) (hc ▸ hb), ins_eq hc]
      · rw [ins_gt hc, ins_gt hb]
        rcases cmpB_tri c b with h | h | h
        · rw [ins_lt (y := ⟨c, d⟩) h, ins_gt hb, ins_gt (y := ⟨b, a⟩) h]
        · rw [ins_eq (y := ⟨c, d⟩) h, ins_eq (y := ⟨b, a⟩) h.symm, h, mergeA_comm hd.1 ha.1 hd.2 ha.2]
        · rw [ins_gt (y := ⟨c, d⟩) h, ins_lt (y := ⟨b, a⟩) h, ins_gt hc]
theorem ins_twice {b : List Int} {a d : Ag} (ha : okP a) (hd : okP d) : ∀ {l : List En}, Good l → insE b a (insE b d l) = insE b (mergeA d a) l
  | [], _ => by
    show insE b a [⟨b, d⟩] = [⟨b, _⟩]
    rw [ins_eq (y := ⟨b, d⟩) rfl]
  | y :: r, hg => by
    have ⟨h1, h2⟩ := Good.cons.1 hg
    rcases cmpB_tri y.f0 b with h | h | h
    · rw [ins_lt h, ins_lt h, ins_lt h, ins_twice ha hd h2]
    · rw [ins_eq h, ins_eq h, ins_eq (y := ⟨b, _⟩) rfl, mergeA_assoc h1.1 hd.1 ha.1 h1.2 hd.2 ha.2]
    · rw [ins_gt h, ins_gt h, ins_eq (y := ⟨b, d⟩) rfl]
theorem ins_sorted {b : List Int} {a : Ag} : ∀ {l : List En}, SortedE l → SortedE (insE b a l) ∧ ∀ x, cmpB x b < 0 → (∀ y ∈ l, cmpB x y.f0 < 0) → ∀ y ∈ insE b a l, cmpB x y.f0 < 0
  | [], _ => ⟨List.pairwise_singleton _ _, fun x hx _ y hy => by obtain rfl := List.mem_singleton.1 hy; exact hx⟩
  | y :: r, hs => by
    have ⟨h1, h2⟩ := List.pairwise_cons.1 hs
    have ⟨i1, i2⟩ := ins_sorted (b := b) (a := a) h2
    rcases cmpB_tri y.f0 b with h | h | h
    · rw [ins_lt h]
      refine ⟨List.pairwise_cons.2 ⟨i2 _ h h1, i1⟩, fun x hx hl z hz => ?_⟩
      rcases List.mem_cons.1 hz with rfl | hz
      · exact hl _ (List.mem_cons_self)
      · exact i2 x hx (fun q hq => hl q (List.mem_cons_of_mem _ hq)) z hz
    · rw [ins_eq h]
      refine ⟨List.pairwise_cons.2 ⟨fun z hz => h ▸ h1 z hz, h2⟩, fun x hx hl z hz => ?_⟩
      rcases List.mem_cons.1 hz with rfl | hz
      · exact hx
      · exact hl z (List.mem_cons_of_mem _ hz)
    · rw [ins_gt h]
      refine ⟨List.pairwise_cons.2 ⟨fun z hz => ?_, hs⟩, fun x hx hl z hz => ?_⟩
      · rcases List.mem_cons.1 hz with rfl | hz
        · exact h
        · exact cmpB_trans h (h1 z hz)
      · rcases List.mem_cons.1 hz with rfl | hz
        · exact hx
        · exact hl z hz
theorem ins_len (b : List Int) (a : Ag) : ∀ l : List En, (insE b a l).length ≤ l.length + 1
  | [] => by simp [insE]
  | y :: r => by
    have := ins_len b a r
    rcases cmpB_tri y.f0 b with h | h | h
    · rw [ins_lt h]; simp; omega
    · rw [ins_eq h]; simp
    · rw [ins_gt h]; simp
theorem ins_mem {b : List Int} {a : Ag} {z : En} : ∀ {l : List En}, z ∈ insE b a l → z.f0 = b ∨ z ∈ l
  | [], h => .inl (by obtain rfl := List.mem_singleton.1 h; rfl)
  | y :: r, h => by
    rcases cmpB_tri y.f0 b with c | c | c
    · rw [ins_lt c] at h
      rcases List.mem_cons.1 h with rfl | h
      · exact .inr List.mem_cons_self
      · exact (ins_mem h).imp id (List.mem_cons_of_mem _)
    · rw [ins_eq c] at h
      rcases List.mem_cons.1 h with rfl | h
      · exact .inl rfl
      · exact .inr (List.mem_cons_of_mem _ h)
    · rw [ins_gt c] at h
      rcases List.mem_cons.1 h with rfl | h
      · exact .inl rfl
      · exact .inr h
def nrm : List En → List En
  | [] => []
  | x :: r => insE x.f0 x.f1 (nrm r)
theorem nrm_good : ∀ {l : List En}, Good l → Good (nrm l)
  | [], _ => Good.nil
  | _ :: _, h => good_ins (Good.cons.1 h).1 (nrm_good (Good.cons.1 h).2)
theorem nrm_sorted : ∀ l : List En, SortedE (nrm l)
  | [] => List.Pairwise.nil
  | _ :: r => (ins_sorted (nrm_sorted r)).1
theorem nrm_len : ∀ l : List En, (nrm l).length ≤ l.length
  | [] => Nat.le_refl _
  | x :: r => by
    have := ins_len x.f0 x.f1 (nrm r)
    have := nrm_len r
    simp only [nrm, List.length_cons]; omega
theorem nrm_mem {z : En} : ∀ {l : List En}, z ∈ nrm l → ∃ x ∈ l, z.f0 = x.f0
  | [], h => by cases h
  | x :: r, h => by
    rcases ins_mem h with h | h
    · exact ⟨x, List.mem_cons_self, h⟩
    · obtain ⟨q, hq, e⟩ := nrm_mem h
      exact ⟨q, List.mem_cons_of_mem _ hq, e⟩
theorem nrm_snoc {x : En} (hx : okP x.f1) : ∀ {l : List En}, Good l → nrm (l ++ [x]) = insE x.f0 x.f1 (nrm l)
  | [], _ => rfl
  | y :: r, h => by
    show insE y.f0 y.f1 (nrm (r ++ [x])) = insE x.f0 x.f1 (insE y.f0 y.f1 (nrm r))
    rw [nrm_snoc hx (Good.cons.1 h).2, ins_comm (Good.cons.1 h).1 hx (nrm_good (Good.cons.1 h).2)]
def mapE (f : List Int → Option (List Int)) : List En → List En
  | [] => []
  | x :: r => match f x.f0 with
    | some b => ⟨b, x.f1⟩ :: mapE f r
    | none => mapE f r
theorem mapE_some {f : List Int → Option (List Int)} {x : En} {r : List En} {b : List Int} (h : f x.f0 = some b) : mapE f (x :: r) = ⟨b, x.f1⟩ :: mapE f r := by simp only [mapE, h]
theorem mapE_none {f : List Int → Option (List Int)} {x : En} {r : List En} (h : f x.f0 = none) : mapE f (x :: r) = mapE f r := by simp only [mapE, h]
theorem mapE_good {f : List Int → Option (List Int)} : ∀ {l : List En}, Good l → Good (mapE f l)
  | [], _ => Good.nil
  | x :: r, h => by
    have ⟨h1, h2⟩ := Good.cons.1 h
    cases e : f x.f0 with
    | none => rw [mapE_none e]; exact mapE_good h2
    | some b => rw [mapE_some e]; exact Good.cons.2 ⟨h1, mapE_good h2⟩
theorem mapE_len (f : List Int → Option (List Int)) : ∀ l : List En, (mapE f l).length ≤ l.length
  | [] => Nat.le_refl _
  | x :: r => by
    have := mapE_len f r
    cases e : f x.f0 with
    | none => rw [mapE_none e]; simp; omega
    | some b => rw [mapE_some e]; simp; omega
theorem mapE_mem {f : List Int → Option (List Int)} {z : En} : ∀ {l : List En}, z ∈ mapE f l → ∃ x ∈ l, f x.f0 = some z.f0 ∧ z.f1 = x.f1
  | [], h => by cases h
  | x :: r, h => by
    cases e : f x.f0 with
    | none =>
      rw [mapE_none e] at h
      obtain ⟨q, hq, h⟩ := mapE_mem h
      exact ⟨q, List.mem_cons_of_mem _ hq, h⟩
    | some b =>
      rw [mapE_some e] at h
      rcases List.mem_cons.1 h with rfl | h
      · exact ⟨x, List.mem_cons_self, e, rfl⟩
      · obtain ⟨q, hq, h⟩ := mapE_mem h
        exact ⟨q, List.mem_cons_of_mem _ hq, h⟩
theorem mapE_ins (f : List Int → Option (List Int)) {b : List Int} {a : Ag} (ha : okP a) : ∀ {l : List En}, Good l → nrm (mapE f (insE b a l)) = match f b with
    | some c => insE c a (nrm (mapE f l))
    | none => nrm (mapE f l)
  | [], _ => by
    show nrm (mapE f [⟨b, a⟩]) = _
    cases e : f b with
    | none => rw [mapE_none (x := ⟨b, a⟩) e]
    | some c => rw [mapE_some (x := ⟨b, a⟩) e]; rfl
  | y :: r, hg => by
    have ⟨h1, h2⟩ := Good.cons.1 hg
    have hr := nrm_good (mapE_good (f := f) h2)
    rcases cmpB_tri y.f0 b with h | h | h
    · have ih := mapE_ins f (b := b) ha h2
      rw [ins_lt h]
      cases ey : f y.f0 with
      | none => rw [mapE_none ey, mapE_none ey, ih]
      | some d =>
        rw [mapE_some ey, mapE_some ey]
        show insE d y.f1 (nrm (mapE f (insE b a r))) = _
        rw [ih]
        cases e : f b with
        | none => rfl
        | some c => exact ins_comm h1 ha hr
    · rw [ins_eq h]
      subst h
      cases e : f y.f0 with
      | none => rw [mapE_none (x := y) e, mapE_none (x := ⟨y.f0, mergeA y.f1 a⟩) e]
      | some c =>
        rw [mapE_some (x := y) e, mapE_some (x := ⟨y.f0, mergeA y.f1 a⟩) e]
        exact (ins_twice ha h1 hr).symm
    · rw [ins_gt h]
      cases e : f b with
      | none => rw [mapE_none (x := ⟨b, a⟩) e]
      | some c => rw [mapE_some (x := ⟨b, a⟩) e]; rfl
theorem mapE_nrm (f : List Int → Option (List Int)) : ∀ {l : List En}, Good l → nrm (mapE f (nrm l)) = nrm (mapE f l)
  | [], _ => rfl
  | x :: r, h => by
    have ⟨h1, h2⟩ := Good.cons.1 h
    show nrm (mapE f (insE x.f0 x.f1 (nrm r))) = _
    rw [mapE_ins f h1 (nrm_good h2), mapE_nrm f h2]
    cases e : f x.f0 with
    | none => rw [mapE_none e]
    | some c => rw [mapE_some e]; rfl
theorem mapE_mapE {f g h : List Int → Option (List Int)} : ∀ {l : List En}, (∀ x ∈ l, (f x.f0).bind g = h x.f0) → mapE g (mapE f l) = mapE h l
  | [], _ => rfl
  | x :: r, hh => by
    have h0 := hh x List.mem_cons_self
    have ih := mapE_mapE (f := f) (g := g) (h := h) (l := r) (fun y hy => hh y (List.mem_cons_of_mem _ hy))
    cases e : f x.f0 with
    | none => rw [e] at h0; rw [mapE_none e, mapE_none (f := h) h0.symm, ih]
    | some b =>
      rw [e] at h0
      rw [mapE_some e]
      cases e2 : g b with
      | none => rw [mapE_none (x := ⟨b, _⟩) e2, mapE_none (f := h) (by rw [← h0]; exact e2), ih]
      | some c => rw [mapE_some (x := ⟨b, _⟩) e2, mapE_some (f := h) (b := c) (by rw [← h0]; exact e2), ih]
theorem fold_fold {f g h : List Int → Option (List Int)} {l : List En} (hg : Good l) (hh : ∀ x ∈ l, (f x.f0).bind g = h x.f0) : nrm (mapE g (nrm (mapE f l))) = nrm (mapE h l) := by
  rw [mapE_nrm g (mapE_good hg), mapE_mapE hh]
end Go.Proofs.Ytdopbhbbpgfliaa.PAsk
end
section
namespace Go.Proofs.Ytdopbhbbpgfliaa.GrainM
set_option linter.unusedVariables false
set_option linter.unusedSimpArgs false
set_option maxHeartbeats 8000000
set_option maxRecDepth 100000
def T : Int := 1099511627776
def isT (t : Int) : Prop := 0 ≤ t ∧ t ≤ 1099511627776
instance (t : Int) : Decidable (isT t) := by unfold isT; infer_instance
structure Rt (n : Nat) (sz ag : Nat → Int) (keep : Int) : Prop where
  one : 1 ≤ n
  four : n ≤ 4
  first : ag 0 = 0
  size : ∀ i, i < n → 1 ≤ sz i ∧ sz i ≤ 1099511627776
  age : ∀ i, i < n → 0 ≤ ag i ∧ ag i ≤ 1099511627776
  up : ∀ i, i + 1 < n → sz i < sz (i + 1) ∧ sz (i + 1) % sz i = 0 ∧ ag i ≤ ag (i + 1)
  kept : ag (n - 1) ≤ keep
  most : keep ≤ 2199023255552
def en (t s : Int) : Int := t - t % s + s
def old (sz ag : Nat → Int) (t w : Int) (i : Nat) : Prop := en t (sz i) ≤ w - ag i
structure IsStep (n : Nat) (sz ag : Nat → Int) (t w : Int) (s : Nat) : Prop where
  lt : s < n
  below : ∀ i, 0 < i → i ≤ s → old sz ag t w i
  above : s + 1 < n → ¬ old sz ag t w (s + 1)
theorem en_mul (t s : Int) : en t s = s * (t / s + 1) := by
  unfold en
  have h := Int.emod_add_mul_ediv t s
  rw [Int.mul_add, Int.mul_one]
  omega
theorem fl_mul (t s : Int) : t - t % s = s * (t / s) := by
  have h := Int.emod_add_mul_ediv t s
  omega
theorem fl_le {t s : Int} (hs : 1 ≤ s) : t - t % s ≤ t := by
  have := Int.emod_nonneg t (show s ≠ 0 by omega)
  omega
theorem fl_nonneg {t s : Int} (ht : 0 ≤ t) (hs : 1 ≤ s) : 0 ≤ t - t % s := by
  rw [fl_mul]
  exact Int.mul_nonneg (by omega) (Int.ediv_nonneg ht (by omega))
theorem dvd_of {a b : Int} (h : b % a = 0) : ∃ m, b = a * m := ⟨b / a, by have := Int.emod_add_mul_ediv b a; rw [h] at this; omega⟩
theorem nest {t s s' : Int} (hs : 1 ≤ s) (hs' : 1 ≤ s') (hd : s' % s = 0) : t - t % s' ≤ t - t % s ∧ en t s ≤ en t s' := by
  obtain ⟨m, rfl⟩ := dvd_of hd
  have hm : 0 < m := by
    rcases Int.lt_or_le 0 m with h | h
    · exact h
    · exfalso
      have : s * m ≤ 0 := Int.mul_nonpos_of_nonneg_of_nonpos (by omega) h
      omega
  have e : t / (s * m) = t / s / m := (Int.ediv_ediv_of_nonneg (x := t) (y := s) (by omega : (0 : Int) ≤ s)).symm
  have h1 : t / s / m * m ≤ t / s := Int.ediv_mul_le _ (by omega)
  have h2 : t / s < (t / s / m + 1) * m := Int.lt_ediv_add_one_mul_self _ hm
  constructor
  · rw [fl_mul, fl_mul, e, Int.mul_assoc]
    apply Int.mul_le_mul_of_nonneg_left _ (by omega : (0 : Int) ≤ s)
    rw [Int.mul_comm]; exact h1
  · rw [en_mul, en_mul, e, Int.mul_assoc]
    apply Int.mul_le_mul_of_nonneg_left _ (by omega : (0 : Int) ≤ s)
    rw [Int.mul_comm]; omega
theorem same_up {t u s s' : Int} (hs : 1 ≤ s) (hs' : 1 ≤ s') (hd : s' % s = 0) (h : t - t % s = u - u % s) : t - t % s' = u - u % s' := by
  obtain ⟨m, rfl⟩ := dvd_of hd
  rw [fl_mul, fl_mul] at h ⊢
  have hq : t / s = u / s := Int.eq_of_mul_eq_mul_left (show s ≠ 0 by omega) h
  rw [← Int.ediv_ediv_of_nonneg (x := t) (y := s) (by omega : (0 : Int) ≤ s), ← Int.ediv_ediv_of_nonneg (x := u) (y := s) (by omega : (0 : Int) ≤ s), hq]
theorem en_same {t u s : Int} (h : t - t % s = u - u % s) : en t s = en u s := by unfold en; omega
section
variable {n : Nat} {sz ag : Nat → Int} {keep : Int}
theorem Rt.mod (R : Rt n sz ag keep) {i j : Nat} (hij : i ≤ j) (hj : j < n) : sz j % sz i = 0 := by
  induction j with
  | zero => obtain rfl : i = 0 := by omega
            exact Int.emod_self
  | succ j ih =>
    rcases Nat.lt_or_ge i (j + 1) with h | h
    · obtain ⟨a, ha⟩ := dvd_of (ih (by omega) (by omega))
      obtain ⟨b, hb⟩ := dvd_of (R.up j hj).2.1
      rw [hb, ha, Int.mul_assoc]
      exact Int.mul_emod_right _ _
    · obtain rfl : i = j + 1 := by omega
      exact Int.emod_self
theorem Rt.ages (R : Rt n sz ag keep) {i j : Nat} (hij : i ≤ j) (hj : j < n) : ag i ≤ ag j := by
  induction j with
  | zero => obtain rfl : i = 0 := by omega
            exact Int.le_refl _
  | succ j ih =>
    rcases Nat.lt_or_ge i (j + 1) with h | h
    · have := ih (by omega) (by omega)
      have := (R.up j hj).2.2
      omega
    · obtain rfl : i = j + 1 := by omega
      exact Int.le_refl _
theorem Rt.old_down (R : Rt n sz ag keep) {t w : Int} {i j : Nat} (hij : i ≤ j) (hj : j < n) (h : old sz ag t w j) : old sz ag t w i := by
  unfold old at h ⊢
  have := (nest (t := t) (R.size i (by omega)).1 (R.size j hj).1 (R.mod hij hj)).2
  have := R.ages hij hj
  omega
theorem old_later {t w w' : Int} {i : Nat} (h : old sz ag t w i) (hw : w ≤ w') : old sz ag t w' i := by
  unfold old at h ⊢; omega
theorem Rt.step_of (R : Rt n sz ag keep) {t w : Int} {s i : Nat} (S : IsStep n sz ag t w s) (h0 : 0 < i) (hi : i < n) : old sz ag t w i ↔ i ≤ s := by
  constructor
  · intro h
    rcases Nat.lt_or_ge s i with hlt | hge
    · exact absurd (R.old_down hlt hi h) (S.above (by omega))
    · exact hge
  · exact S.below i h0
theorem Rt.step_unique (R : Rt n sz ag keep) {t w : Int} {s s' : Nat} (S : IsStep n sz ag t w s) (S' : IsStep n sz ag t w s') : s = s' := by
  rcases Nat.lt_trichotomy s s' with h | h | h
  · have := (R.step_of S (i := s') (by omega) S'.lt).1 (S'.below s' (by omega) (Nat.le_refl _)); omega
  · exact h
  · have := (R.step_of S' (i := s) (by omega) S.lt).1 (S.below s (by omega) (Nat.le_refl _)); omega
theorem Rt.step_ex (R : Rt n sz ag keep) (t w : Int) : ∃ s, IsStep n sz ag t w s := by
  have key : ∀ m, m < n → (∀ i, 0 < i → i ≤ m → old sz ag t w i) → ∃ s, IsStep n sz ag t w s := by
    intro m hm
    induction hd : n - m generalizing m with
    | zero => omega
    | succ d ih =>
      intro h
      by_cases hn : m + 1 < n
      · by_cases ho : old sz ag t w (m + 1)
        · refine ih (m + 1) hn (by omega) (fun i h0 hi => ?_)
          rcases Nat.lt_or_ge i (m + 1) with hlt | hge
          · exact h i h0 (by omega)
          · obtain rfl : i = m + 1 := by omega
            exact ho
        · exact ⟨m, hm, h, fun _ => ho⟩
      · exact ⟨m, hm, h, fun hc => absurd hc hn⟩
  exact key 0 R.one (fun i h0 hi => by omega)
theorem Rt.never (R : Rt n sz ag keep) {t w w' : Int} {a b : Nat} (A : IsStep n sz ag t w a) (B : IsStep n sz ag t w' b) (hw : w ≤ w') : a ≤ b := by
  rcases Nat.eq_zero_or_pos a with h | h
  · omega
  · exact (R.step_of B h A.lt).1 (old_later (A.below a h (Nat.le_refl _)) hw)
end
theorem fl_mod {t s : Int} : (t - t % s) % s = 0 := by rw [fl_mul]; exact Int.mul_emod_right _ _
section
variable {n : Nat} {sz ag : Nat → Int} {keep : Int}
theorem Rt.floors (R : Rt n sz ag keep) {t : Int} {m j : Nat} (h : m ≤ j) (hj : j < n) : (t - t % sz m) - (t - t % sz m) % sz j = t - t % sz j :=
  same_up (R.size m (by omega)).1 (R.size j hj).1 (R.mod h hj) (by rw [fl_mod]; omega)
theorem Rt.again (R : Rt n sz ag keep) {t w w' : Int} {g s m s1 s2 : Nat} (hw : w ≤ w') (S : IsStep n sz ag t w s) (hm : m = max g s) (hg : g < n) (h0 : t % sz g = 0) (S1 : IsStep n sz ag t w' s1)
    (S2 : IsStep n sz ag (t - t % sz m) w' s2) : max m s2 = max g s1 := by
  have hs := R.never S S1 hw
  have hsn := S.lt
  have hmn : m < n := by rw [hm]; exact Nat.max_lt.2 ⟨hg, hsn⟩
  rcases Nat.lt_or_ge s1 m with h | h
  · have e : m = g := by omega
    rw [e, h0, Int.sub_zero] at S2
    have := R.step_unique S1 S2
    omega
  · have h1 := S1.lt
    have : IsStep n sz ag (t - t % sz m) w' s1 := by
      have eo : ∀ j, m ≤ j → j < n → (old sz ag (t - t % sz m) w' j ↔ old sz ag t w' j) := fun j hj hn => by
        unfold old; rw [en_same (R.floors hj hn)]
      refine ⟨h1, fun i hi his => ?_, fun hn ho => S1.above hn ((eo (s1 + 1) (by omega) hn).1 ho)⟩
      rcases Nat.lt_or_ge i m with hl | hl
      · exact R.old_down (Nat.le_of_lt hl) (by omega) ((eo m (Nat.le_refl _) (by omega)).2 (S1.below m (by omega) h))
      · exact (eo i hl (by omega)).2 (S1.below i hi his)
    have := R.step_unique this S2
    omega
end
end Go.Proofs.Ytdopbhbbpgfliaa.GrainM
end
section
namespace Go.Proofs.Ytdopbhbbpgfliaa.GrainL
open Go.RowKit Go.Proofs.YtdopbhbbpgfliaaW.PrintWords Go.Proofs.YtdopbhbbpgfliaaW.PrintLast Go.Proofs.Ytdopbhbbpgfliaa.PAsk Go.Proofs.Ytdopbhbbpgfliaa.GrainM
set_option linter.unusedVariables false
set_option linter.unusedSimpArgs false
set_option maxHeartbeats 8000000
set_option maxRecDepth 100000
abbrev Gr := S84
def sz (gs : List Gr) (i : Nat) : Int := (rd_T84 gs (i : Int)).f0
def ag (gs : List Gr) (i : Nat) : Int := (rd_T84 gs (i : Int)).f1
def Rgt (gs : List Gr) (keep : Int) : Prop := Rt gs.length (sz gs) (ag gs) keep
theorem w64 {x : Int} (h0 : -9223372036854775808 ≤ x) (h1 : x ≤ 9223372036854775807) : wrap64 x = x := by unfold wrap64; omega
theorem tmod_emod {a b : Int} (h : 0 ≤ a) : Int.tmod a b = a % b := Int.tmod_eq_emod_of_nonneg h
def good (gs : List Gr) (i : Nat) : Prop := 1 ≤ sz gs i ∧ sz gs i ≤ 1099511627776 ∧ ag gs i ≤ 1099511627776 ∧ (0 < i → sz gs (i - 1) < sz gs i ∧ Int.tmod (sz gs i) (sz gs (i - 1)) = 0 ∧ ag gs (i - 1) ≤ ag gs i)
def goods (gs : List Gr) (keep : Int) (n i : Nat) : Prop := (∀ j, i ≤ j → j < n → good gs j) ∧ ag gs (n - 1) ≤ keep ∧ keep ≤ 2199023255552
theorem rgt_iff {gs : List Gr} {keep : Int} : Rgt gs keep ↔ 1 ≤ gs.length ∧ gs.length ≤ 4 ∧ ag gs 0 = 0 ∧ goods gs keep gs.length 0 := by
  unfold goods
  constructor
  · intro R
    refine ⟨R.one, R.four, R.first, fun j _ hj => ?_, R.kept, R.most⟩
    have hs := R.size j hj
    refine ⟨hs.1, hs.2, (R.age j hj).2, fun h0 => ?_⟩
    have hu := R.up (j - 1) (by omega)
    rw [show j - 1 + 1 = j from by omega] at hu
    exact ⟨hu.1, by rw [tmod_emod (by omega)]; exact hu.2.1, hu.2.2⟩
  · rintro ⟨h1, h4, h0, hg, hk, hm⟩
    have hages : ∀ i, i < gs.length → 0 ≤ ag gs i := by
      intro i
      induction i with
      | zero => intro _; omega
      | succ i ih =>
        intro hi
        have := ((hg (i + 1) (by omega) hi).2.2.2 (by omega)).2.2
        have := ih (by omega)
        simp only [Nat.add_sub_cancel] at *
        omega
    refine ⟨h1, h4, h0, fun i hi => ⟨(hg i (by omega) hi).1, (hg i (by omega) hi).2.1⟩, fun i hi => ⟨hages i hi, (hg i (by omega) hi).2.2.1⟩, fun i hi => ?_, hk, hm⟩
    obtain ⟨a, b, c⟩ := (hg (i + 1) (by omega) hi).2.2.2 (by omega)
    simp only [Nat.add_sub_cancel] at a b c
    refine ⟨a, ?_, c⟩
    rw [← tmod_emod (by have := (hg (i + 1) (by omega) hi).1; omega)]
    exact b
theorem stepR_good {gs : List Gr} {i : Nat} : stepR gs i = true ↔ good gs i := by
  unfold stepR good
  show (decide (1 ≤ sz gs i) && (decide (sz gs i ≤ 1099511627776) && (decide (ag gs i ≤ 1099511627776) && (decide (i = 0) || (decide (sz gs (i - 1) < sz gs i) && (decide (Int.tmod (sz gs i) (sz gs (i - 1)) = 0) && decide (ag gs (i - 1) ≤ ag gs i))))))) = true ↔ _
  simp only [Bool.and_eq_true, Bool.or_eq_true, decide_eq_true_eq]
  constructor
  · rintro ⟨h1, h2, h3, h4⟩
    refine ⟨h1, h2, h3, fun h0 => ?_⟩
    rcases h4 with h4 | h4
    · omega
    · exact h4
  · rintro ⟨h1, h2, h3, h4⟩
    refine ⟨h1, h2, h3, ?_⟩
    rcases Nat.eq_zero_or_pos i with h | h
    · exact .inl h
    · exact .inr (h4 h)
theorem rightR_iff {gs : List Gr} {keep : Int} : rightR gs keep = true ↔ Rgt gs keep := by
  rw [rgt_iff]
  unfold rightR goods
  show (decide (1 ≤ gs.length) && (decide (gs.length ≤ 4) && (decide (ag gs 0 = 0) && ((List.range gs.length).all (stepR gs) && (decide (ag gs (gs.length - 1) ≤ keep) && decide (keep ≤ 2199023255552)))))) = true ↔ _
  simp only [Bool.and_eq_true, decide_eq_true_eq, List.all_eq_true, List.mem_range]
  constructor
  · rintro ⟨h1, h2, h3, h4, h5, h6⟩
    exact ⟨h1, h2, h3, fun j _ hj => stepR_good.1 (h4 j hj), h5, h6⟩
  · rintro ⟨h1, h2, h3, h4, h5, h6⟩
    exact ⟨h1, h2, h3, fun j hj => stepR_good.2 (h4 j (Nat.zero_le _) hj), h5, h6⟩
open Classical in
theorem right_tells (gs : List Gr) (keep : Int) : Ev (fun k => grain_Right.f k gs keep) (decide (Rgt gs keep)) := by
  have e : rightR gs keep = decide (Rgt gs keep) := by rw [Bool.eq_iff_iff, rightR_iff, decide_eq_true_iff]
  rw [← e]
  exact Ev.now _
theorem isTime_tells (t : Int) : grain_isTime.f t = some (decide (isT t)) := by
  have e : isT t ↔ (t ≥ 0 ∧ t ≤ 1099511627776) := Iff.rfl
  unfold grain_isTime.f
  by_cases h : t ≥ 0 <;> by_cases h' : t ≤ 1099511627776 <;> simp [h, h', e]
open Classical in
noncomputable def fitE (gs : List Gr) (keep t w : Int) : Int := if Rgt gs keep then (if isT t ∧ isT w then 0 else 1) else 30
theorem fits_tells (gs : List Gr) (keep t w : Int) : Ev (fun k => grain_fits.f k gs keep t w) (fitE gs keep t w) := by
  unfold grain_fits.f fitE
  refine Ev.bind (right_tells gs keep) ?_
  by_cases hR : Rgt gs keep
  · simp only [hR, decide_true, if_true, isTime_tells, Option.bind_some]
    by_cases h1 : isT t <;> by_cases h2 : isT w <;> simp [h1, h2] <;> exact Ev.now _
  · simp [hR]; exact Ev.now _
theorem fitE_zero {gs : List Gr} {keep t w : Int} : fitE gs keep t w = 0 ↔ Rgt gs keep ∧ isT t ∧ isT w := by
  unfold fitE
  by_cases h : Rgt gs keep <;> by_cases h2 : isT t ∧ isT w <;> simp [h, h2]
theorem end_tells {t s : Int} (ht : isT t) (h1 : 1 ≤ s) (h2 : s ≤ 1099511627776) : grain_end.f t s = some (en t s) := by
  unfold grain_end.f en
  obtain ⟨h3, h4⟩ := ht
  have h5 := Int.emod_nonneg t (show s ≠ 0 by omega)
  have h6 := Int.emod_lt_of_pos t (show 0 < s by omega)
  rw [if_neg (by omega), tmod_emod h3, w64 (x := t - t % s) (by omega) (by omega), w64 (by omega) (by omega)]
theorem step_from {gs : List Gr} {keep t w : Int} (R : Rgt gs keep) (ht : isT t) (hw : isT w) (d : Nat) : ∀ (i s k : Nat), gs.length - i = d → i ≤ gs.length → s + 1 = i →
    (∀ j, 0 < j → j ≤ s → old (sz gs) (ag gs) t w j) → ∃ r : Nat, grain_Step.l0 (k + d + 1) t w s gs.length i gs keep = some ((r : Int), 0) ∧ IsStep gs.length (sz gs) (ag gs) t w r := by
  have h4 := R.four
  induction d with
  | zero =>
    intro i s k hd hi hs ho
    refine ⟨s, ?_, by omega, ho, fun hc => by omega⟩
    simp only [grain_Step.l0]
    rw [if_neg (by omega)]
  | succ d ih =>
    intro i s k hd hi hs ho
    have hlt : i < gs.length := by omega
    have ha := R.age i hlt
    have hsz := R.size i hlt
    have e1 : wrap64 ((i : Int) + 1) = ((i + 1 : Nat) : Int) := by rw [w64] <;> omega
    have e2 : wrap64 (w - (rd_T84 gs (i : Int)).f1) = w - ag gs i := by
      rw [w64]
      · rfl
      · unfold ag at ha; unfold isT at hw; omega
      · unfold ag at ha; unfold isT at hw; omega
    rw [show k + (d + 1) + 1 = (k + d + 1) + 1 from by omega]
    simp only [grain_Step.l0]
    rw [if_pos (by omega), if_neg (by omega), if_pos (by omega), if_pos (by omega), e2, e1]
    have e3 : grain_end.f t (rd_T84 gs (i : Int)).f0 = some (en t (sz gs i)) := end_tells ht hsz.1 hsz.2
    rw [e3]
    simp only [Option.bind_some]
    by_cases hold : old (sz gs) (ag gs) t w i
    · rw [if_neg (by unfold old at hold; omega)]
      exact ih (i + 1) i k (by omega) (by omega) rfl (fun j h0 hj => by
        rcases Nat.lt_or_ge j i with hl | hl
        · exact ho j h0 (by omega)
        · obtain rfl : j = i := by omega
          exact hold)
    · rw [if_pos (by unfold old at hold; omega)]
      exact ⟨s, rfl, by omega, ho, fun _ => by rw [hs]; exact hold⟩
theorem step_tells {gs : List Gr} {keep t w : Int} (R : Rgt gs keep) (ht : isT t) (hw : isT w) {s : Nat} (S : IsStep gs.length (sz gs) (ag gs) t w s) : Ev (fun k => grain_Step.f k gs keep t w) ((s : Int), 0) := by
  unfold grain_Step.f
  refine Ev.bind (fits_tells gs keep t w) ?_
  rw [fitE_zero.2 ⟨R, ht, hw⟩]
  simp only [if_true]
  have h4 := R.four
  have h1 := R.one
  refine ⟨gs.length + 1, fun k hk => ?_⟩
  obtain ⟨k, rfl⟩ : ∃ m, k = (m + (gs.length - 1) + 1) + 1 := ⟨k - gs.length - 1, by omega⟩
  obtain ⟨r, hr, hS⟩ := step_from R ht hw (gs.length - 1) 1 0 k (by omega) h1 rfl (fun j h0 hj => by omega)
  obtain rfl := R.step_unique hS S
  rw [← hr]
  generalize k + (gs.length - 1) + 1 = m
  simp only [grain_Step.l0]
  rw [if_pos (by omega), if_pos trivial, show wrap64 (0 + 1) = ((1 : Nat) : Int) from by rw [w64] <;> omega]
  rfl
theorem rd_sz (gs : List Gr) (i : Nat) : (rd_T84 gs (i : Int)).f0 = sz gs i := rfl
open Classical in
theorem expired_tells {gs : List Gr} {keep t w : Int} (R : Rgt gs keep) (ht : isT t) (hw : isT w) :
    Ev (fun k => grain_Expired.f k gs keep t w) (decide (en t (sz gs (gs.length - 1)) ≤ w - keep), 0) := by
  unfold grain_Expired.f
  refine Ev.bind (fits_tells gs keep t w) ?_
  have h1 := R.one
  have h4 := R.four
  have hk : ag gs (gs.length - 1) ≤ keep := R.kept
  have ha := R.age (gs.length - 1) (by omega)
  have hm : keep ≤ 2199023255552 := R.most
  have hs := R.size (gs.length - 1) (by omega)
  have e : wrap64 ((gs.length : Int) - 1) = ((gs.length - 1 : Nat) : Int) := by rw [w64] <;> omega
  have e2 : wrap64 (w - keep) = w - keep := by
    obtain ⟨h8, h9⟩ := hw
    rw [w64] <;> omega
  simp only [fitE_zero.2 ⟨R, ht, hw⟩, if_true, e, rd_sz, e2]
  simp only [if_pos (show (0 : Int) ≤ ((gs.length - 1 : Nat) : Int) by omega), if_pos (show ((gs.length - 1 : Nat) : Int) < (gs.length : Int) by omega), end_tells ht hs.1 hs.2, Option.bind_some]
  have : (decide (en t (sz gs (gs.length - 1)) ≤ w - keep)) = @decide (en t (sz gs (gs.length - 1)) ≤ w - keep) (propDecidable _) := by congr
  rw [this]
  exact Ev.now _
theorem floor_tells {t s : Int} (ht : isT t) (h1 : 1 ≤ s) (h2 : s ≤ 1099511627776) : grain_Floor.f t s = some (t - t % s, 0) := by
  unfold grain_Floor.f
  have h5 := Int.emod_nonneg t (show s ≠ 0 by omega)
  have h6 := Int.emod_lt_of_pos t (show 0 < s by omega)
  have h7 := ht
  obtain ⟨h3, h4⟩ := h7
  rw [isTime_tells]
  simp only [Option.bind_some, decide_eq_true ht, if_true]
  rw [if_neg (by omega), if_neg (by omega), if_neg (by omega), tmod_emod h3, w64 (by omega) (by omega)]
end Go.Proofs.Ytdopbhbbpgfliaa.GrainL
end
