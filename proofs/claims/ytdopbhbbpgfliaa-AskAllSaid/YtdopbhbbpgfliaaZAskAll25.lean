import Derived.Test.YtdopbhbbpgfliaaZAskAll24
import Init
section
namespace Go.Proofs.Ytdopbhbbpgfliaa.PAsk
open Go.RowKit Go.Proofs.YtdopbhbbpgfliaaW.PrintWords Go.Proofs.YtdopbhbbpgfliaaW.PrintLast Go.Proofs.YtdopbhbbpgfliaaW.PrintMore
set_option linter.unusedVariables false
set_option linter.unusedSimpArgs false
set_option maxHeartbeats 8000000
set_option maxRecDepth 100000
def okP (a : Ag) : Prop := okAg a ∧ a.f0 ≠ 0
def Good (l : List En) : Prop := ∀ y ∈ l, okP y.f1
theorem Good.cons {y : En} {r : List En} : Good (y :: r) ↔ okP y.f1 ∧ Good r := by simp [Good]
theorem Good.nil : Good [] := by simp [Good]
theorem okP_merge {a b : Ag} (ha : okP a) (hb : okP b) : okP (mergeA a b) := ⟨mergeA_ok ha.1 hb.1, mergeA_pos ha.1 hb.1 ha.2⟩
theorem cmpB_tri (x y : List Int) : cmpB x y < 0 ∨ x = y ∨ cmpB y x < 0 := by
  rcases Int.lt_trichotomy (cmpB x y) 0 with h | h | h
  · exact .inl h
  · exact .inr (.inl (cmpB_eq h))
  · exact .inr (.inr (cmpB_gt.1 h))
theorem cmpB_asymm {x y : List Int} (h : cmpB x y < 0) : ¬ cmpB y x < 0 := by have := cmpB_anti x y; omega
theorem cmpB_ne {x y : List Int} (h : cmpB x y < 0) : x ≠ y := by rintro rfl; rw [cmpB_refl] at h; omega
theorem ins_lt {b : List Int} {a : Ag} {y : En} {r : List En} (h : cmpB y.f0 b < 0) : insE b a (y :: r) = y :: insE b a r := by
  conv => lhs; unfold insE
  rw [if_pos h]
theorem ins_eq {b : List Int} {a : Ag} {y : En} {r : List En} (h : y.f0 = b) : insE b a (y :: r) = ⟨b, mergeA y.f1 a⟩ :: r := by
  conv => lhs; unfold insE
  rw [if_neg (by rw [h, cmpB_refl]; omega), if_pos h, h]
theorem ins_gt {b : List Int} {a : Ag} {y : En} {r : List En} (h : cmpB b y.f0 < 0) : insE b a (y :: r) = ⟨b, a⟩ :: y :: r := by
  conv => lhs; unfold insE
  rw [if_neg (cmpB_asymm h), if_neg (fun e => cmpB_ne h e.symm)]
theorem good_ins {b : List Int} {a : Ag} (ha : okP a) : ∀ {l : List En}, Good l → Good (insE b a l)
  | [], _ => Good.cons.2 ⟨ha, Good.nil⟩
  | y :: r, h => by
    have ⟨h1, h2⟩ := Good.cons.1 h
    rcases cmpB_tri y.f0 b with c | c | c
    · rw [ins_lt c]; exact Good.cons.2 ⟨h1, good_ins ha h2⟩
    · rw [ins_eq c]; exact Good.cons.2 ⟨okP_merge h1 ha, h2⟩
    · rw [ins_gt c]; exact Good.cons.2 ⟨ha, h⟩
theorem ins_comm {b c : List Int} {a d : Ag} (ha : okP a) (hd : okP d) : ∀ {l : List En}, Good l → insE b a (insE c d l) = insE c d (insE b a l)
  | [], _ => by
    show insE b a [⟨c, d⟩] = insE c d [⟨b, a⟩]
    rcases cmpB_tri c b with h | h | h
    · rw [ins_lt h, ins_gt (y := ⟨b, a⟩) h]; rfl
    · rw [ins_eq h, ins_eq (y := ⟨b, a⟩) h.symm, h, mergeA_comm hd.1 ha.1 hd.2 ha.2]
    · rw [ins_gt h, ins_lt (y := ⟨b, a⟩) h]; rfl
  | y :: r, hg => by
    have ⟨h1, h2⟩ := Good.cons.1 hg
    rcases cmpB_tri y.f0 b with hb | hb | hb
    · rcases cmpB_tri y.f0 c with hc | hc | hc
      · rw [ins_lt hb, ins_lt hc, ins_lt hb, ins_lt hc, ins_comm ha hd h2]
      · rw [ins_lt hb, ins_eq hc, ins_eq hc, ins_lt (y := ⟨c, _⟩) (hc ▸ hb)]
      · rw [ins_lt hb, ins_gt hc, ins_gt hc, ins_lt (y := ⟨c, d⟩) (cmpB_trans hc hb), ins_lt hb]
    · rcases cmpB_tri y.f0 c with hc | hc | hc
      · rw [ins_lt hc, ins_eq hb, ins_eq hb, ins_lt (y := ⟨b, _⟩) (hb ▸ hc)]
      · rw [ins_eq hb, ins_eq hc, ins_eq (y := ⟨c, _⟩) (hc ▸ hb), ins_eq (y := ⟨b, _⟩) (hb ▸ hc), mergeA_assoc h1.1 hd.1 ha.1 h1.2 hd.2 ha.2, mergeA_assoc h1.1 ha.1 hd.1 h1.2 ha.2 hd.2, mergeA_comm hd.1 ha.1 hd.2 ha.2, ← hb, hc]
      · rw [ins_gt hc, ins_eq hb, ins_lt (y := ⟨c, d⟩) (hb ▸ hc), ins_eq hb, ins_gt (y := ⟨b, _⟩) (hb ▸ hc)]
    · rcases cmpB_tri y.f0 c with hc | hc | hc
      · rw [ins_lt hc, ins_gt hb, ins_gt hb, ins_lt (y := ⟨b, a⟩) (cmpB_trans hb hc), ins_lt hc]
      · rw [ins_eq hc, ins_gt hb, ins_gt (y := ⟨c, _⟩) (hc ▸ hb), ins_lt (y := ⟨b, a⟩) (hc ▸ hb), ins_eq hc]
      · rw [ins_gt hc, ins_gt hb]
        rcases cmpB_tri c b with h | h | h
        · rw [ins_lt (y := ⟨c, d⟩) h, ins_gt hb, ins_gt (y := ⟨b, a⟩) h]
        · rw [ins_eq (y := ⟨c, d⟩) h, ins_eq (y := ⟨b, a⟩) h.symm, h, mergeA_comm hd.1 ha.1 hd.2 ha.2]
        · rw [ins_gt (y := ⟨c, d⟩) h, ins_lt (y := ⟨b, a⟩) h, ins_gt hc]
theorem ins_sorted {b : List Int} {a : Ag} : ∀ {l : List En}, SortedE l → SortedE (insE b a l) ∧ ∀ x, cmpB x b < 0 → (∀ y ∈ l, cmpB x y.f0 < 0) → ∀ y ∈ insE b a l, cmpB x y.f0 < 0
  | [], _ => ⟨List.pairwise_singleton _ _, fun x hx _ y hy => by obtain rfl := List.mem_singleton.1 hy; exact hx⟩
  | y :: r, hs => by
    have ⟨h1, h2⟩ := List.pairwise_cons.1 hs
    have ⟨i1, i2⟩ := ins_sorted (b := b) (a := a) h2
    rcases cmpB_tri y.f0 b with h | h | h
    · rw [ins_lt h]
      refine ⟨List.pairwise_cons.2 ⟨i2 _ h h1, i1⟩, fun x hx hl z hz => ?_⟩
      rcases List.mem_cons.1 hz with rfl | hz
      · exact hl _ (List.mem_cons_self)
      · exact i2 x hx (fun q hq => hl q (List.mem_cons_of_mem _ hq)) z hz
    · rw [ins_eq h]
      refine ⟨List.pairwise_cons.2 ⟨fun z hz => h ▸ h1 z hz, h2⟩, fun x hx hl z hz => ?_⟩
      rcases List.mem_cons.1 hz with rfl | hz
      · exact hx
      · exact hl z (List.mem_cons_of_mem _ hz)
    · rw [ins_gt h]
      refine ⟨List.pairwise_cons.2 ⟨fun z hz => ?_, hs⟩, fun x hx hl z hz => ?_⟩
      · rcases List.mem_cons.1 hz with rfl | hz
        · exact h
        · exact cmpB_trans h (h1 z hz)
      · rcases List.mem_cons.1 hz with rfl | hz
        · exact hx
        · exact hl z hz
theorem ins_len (b : List Int) (a : Ag) : ∀ l : List En, (insE b a l).length ≤ l.length + 1
  | [] => by simp [insE]
  | y :: r => by
    have := ins_len b a r
    rcases cmpB_tri y.f0 b with h | h | h
    · rw [ins_lt h]; simp; omega
    · rw [ins_eq h]; simp
    · rw [ins_gt h]; simp
theorem ins_mem {b : List Int} {a : Ag} {z : En} : ∀ {l : List En}, z ∈ insE b a l → z.f0 = b ∨ z ∈ l
  | [], h => .inl (by obtain rfl := List.mem_singleton.1 h; rfl)
  | y :: r, h => by
    rcases cmpB_tri y.f0 b with c | c | c
    · rw [ins_lt c] at h
      rcases List.mem_cons.1 h with rfl | h
      · exact .inr List.mem_cons_self
      · exact (ins_mem h).imp id (List.mem_cons_of_mem _)
    · rw [ins_eq c] at h
      rcases List.mem_cons.1 h with rfl | h
      · exact .inl rfl
      · exact .inr (List.mem_cons_of_mem _ h)
    · rw [ins_gt c] at h
      rcases List.mem_cons.1 h with rfl | h
      · exact .inl rfl
      · exact .inr h
def nrm : List En → List En
  | [] => []
  | x :: r => insE x.f0 x.f1 (nrm r)
theorem nrm_good : ∀ {l : List En}, Good l → Good (nrm l)
  | [], _ => Good.nil
  | _ :: _, h => good_ins (Good.cons.1 h).1 (nrm_good (Good.cons.1 h).2)
theorem nrm_sorted : ∀ l : List En, SortedE (nrm l)
  | [] => List.Pairwise.nil
  | _ :: r => (ins_sorted (nrm_sorted r)).1
theorem nrm_len : ∀ l : List En, (nrm l).length ≤ l.length
  | [] => Nat.le_refl _
  | x :: r => by
    have := ins_len x.f0 x.f1 (nrm r)
    have := nrm_len r
    simp only [nrm, List.length_cons]; omega
theorem nrm_mem {z : En} : ∀ {l : List En}, z ∈ nrm l → ∃ x ∈ l, z.f0 = x.f0
  | [], h => by cases h
  | x :: r, h => by
    rcases ins_mem h with h | h
    · exact ⟨x, List.mem_cons_self, h⟩
    · obtain ⟨q, hq, e⟩ := nrm_mem h
      exact ⟨q, List.mem_cons_of_mem _ hq, e⟩
theorem nrm_snoc {x : En} (hx : okP x.f1) : ∀ {l : List En}, Good l → nrm (l ++ [x]) = insE x.f0 x.f1 (nrm l)
  | [], _ => rfl
  | y :: r, h => by
    show insE y.f0 y.f1 (nrm (r ++ [x])) = insE x.f0 x.f1 (insE y.f0 y.f1 (nrm r))
    rw [nrm_snoc hx (Good.cons.1 h).2, ins_comm (Good.cons.1 h).1 hx (nrm_good (Good.cons.1 h).2)]
def mapE (f : List Int → Option (List Int)) : List En → List En
  | [] => []
  | x :: r => match f x.f0 with
    | some b => ⟨b, x.f1⟩ :: mapE f r
    | none => mapE f r
theorem mapE_some {f : List Int → Option (List Int)} {x : En} {r : List En} {b : List Int} (h : f x.f0 = some b) : mapE f (x :: r) = ⟨b, x.f1⟩ :: mapE f r := by simp only [mapE, h]
theorem mapE_none {f : List Int → Option (List Int)} {x : En} {r : List En} (h : f x.f0 = none) : mapE f (x :: r) = mapE f r := by simp only [mapE, h]
theorem mapE_len (f : List Int → Option (List Int)) : ∀ l : List En, (mapE f l).length ≤ l.length
  | [] => Nat.le_refl _
  | x :: r => by
    have := mapE_len f r
    cases e : f x.f0 with
    | none => rw [mapE_none e]; simp; omega
    | some b => rw [mapE_some e]; simp; omega
theorem mapE_mem {f : List Int → Option (List Int)} {z : En} : ∀ {l : List En}, z ∈ mapE f l → ∃ x ∈ l, f x.f0 = some z.f0 ∧ z.f1 = x.f1
  | [], h => by cases h
  | x :: r, h => by
    cases e : f x.f0 with
    | none =>
      rw [mapE_none e] at h
      obtain ⟨q, hq, h⟩ := mapE_mem h
      exact ⟨q, List.mem_cons_of_mem _ hq, h⟩
    | some b =>
      rw [mapE_some e] at h
      rcases List.mem_cons.1 h with rfl | h
      · exact ⟨x, List.mem_cons_self, e, rfl⟩
      · obtain ⟨q, hq, h⟩ := mapE_mem h
        exact ⟨q, List.mem_cons_of_mem _ hq, h⟩
end Go.Proofs.Ytdopbhbbpgfliaa.PAsk
end
section
namespace Go.Proofs.Ytdopbhbbpgfliaa.GrainM
set_option linter.unusedVariables false
set_option linter.unusedSimpArgs false
set_option maxHeartbeats 8000000
set_option maxRecDepth 100000
def T : Int := 1099511627776
def isT (t : Int) : Prop := 0 ≤ t ∧ t ≤ 1099511627776
instance (t : Int) : Decidable (isT t) := by unfold isT; infer_instance
structure Rt (n : Nat) (sz ag : Nat → Int) (keep : Int) : Prop where
  one : 1 ≤ n
  four : n ≤ 4
  first : ag 0 = 0
  size : ∀ i, i < n → 1 ≤ sz i ∧ sz i ≤ 1099511627776
  age : ∀ i, i < n → 0 ≤ ag i ∧ ag i ≤ 1099511627776
  up : ∀ i, i + 1 < n → sz i < sz (i + 1) ∧ sz (i + 1) % sz i = 0 ∧ ag i ≤ ag (i + 1)
  kept : ag (n - 1) ≤ keep
  most : keep ≤ 2199023255552
def en (t s : Int) : Int := t - t % s + s
def old (sz ag : Nat → Int) (t w : Int) (i : Nat) : Prop := en t (sz i) ≤ w - ag i
structure IsStep (n : Nat) (sz ag : Nat → Int) (t w : Int) (s : Nat) : Prop where
  lt : s < n
  below : ∀ i, 0 < i → i ≤ s → old sz ag t w i
  above : s + 1 < n → ¬ old sz ag t w (s + 1)
theorem en_mul (t s : Int) : en t s = s * (t / s + 1) := by
  unfold en
  have h := Int.emod_add_mul_ediv t s
  rw [Int.mul_add, Int.mul_one]
  omega
theorem fl_mul (t s : Int) : t - t % s = s * (t / s) := by
  have h := Int.emod_add_mul_ediv t s
  omega
theorem fl_le {t s : Int} (hs : 1 ≤ s) : t - t % s ≤ t := by
  have := Int.emod_nonneg t (show s ≠ 0 by omega)
  omega
theorem fl_nonneg {t s : Int} (ht : 0 ≤ t) (hs : 1 ≤ s) : 0 ≤ t - t % s := by
  rw [fl_mul]
  exact Int.mul_nonneg (by omega) (Int.ediv_nonneg ht (by omega))
theorem dvd_of {a b : Int} (h : b % a = 0) : ∃ m, b = a * m := ⟨b / a, by have := Int.emod_add_mul_ediv b a; rw [h] at this; omega⟩
theorem nest {t s s' : Int} (hs : 1 ≤ s) (hs' : 1 ≤ s') (hd : s' % s = 0) : t - t % s' ≤ t - t % s ∧ en t s ≤ en t s' := by
  obtain ⟨m, rfl⟩ := dvd_of hd
  have hm : 0 < m := by
    rcases Int.lt_or_le 0 m with h | h
    · exact h
    · exfalso
      have : s * m ≤ 0 := Int.mul_nonpos_of_nonneg_of_nonpos (by omega) h
      omega
  have e : t / (s * m) = t / s / m := (Int.ediv_ediv_of_nonneg (x := t) (y := s) (by omega : (0 : Int) ≤ s)).symm
  have h1 : t / s / m * m ≤ t / s := Int.ediv_mul_le _ (by omega)
  have h2 : t / s < (t / s / m + 1) * m := Int.lt_ediv_add_one_mul_self _ hm
  constructor
  · rw [fl_mul, fl_mul, e, Int.mul_assoc]
    apply Int.mul_le_mul_of_nonneg_left _ (by omega : (0 : Int) ≤ s)
    rw [Int.mul_comm]; exact h1
  · rw [en_mul, en_mul, e, Int.mul_assoc]
    apply Int.mul_le_mul_of_nonneg_left _ (by omega : (0 : Int) ≤ s)
    rw [Int.mul_comm]; omega
section
variable {n : Nat} {sz ag : Nat → Int} {keep : Int}
theorem Rt.mod (R : Rt n sz ag keep) {i j : Nat} (hij : i ≤ j) (hj : j < n) : sz j % sz i = 0 := by
  induction j with
  | zero => obtain rfl : i = 0 := by omega
            exact Int.emod_self
  | succ j ih =>
    rcases Nat.lt_or_ge i (j + 1) with h | h
    · obtain ⟨a, ha⟩ := dvd_of (ih (by omega) (by omega))
      obtain ⟨b, hb⟩ := dvd_of (R.up j hj).2.1
      rw [hb, ha, Int.mul_assoc]
      exact Int.mul_emod_right _ _
    · obtain rfl : i = j + 1 := by omega
      exact Int.emod_self
theorem Rt.ages (R : Rt n sz ag keep) {i j : Nat} (hij : i ≤ j) (hj : j < n) : ag i ≤ ag j := by
  induction j with
  | zero => obtain rfl : i = 0 := by omega
            exact Int.le_refl _
  | succ j ih =>
    rcases Nat.lt_or_ge i (j + 1) with h | h
    · have := ih (by omega) (by omega)
      have := (R.up j hj).2.2
      omega
    · obtain rfl : i = j + 1 := by omega
      exact Int.le_refl _
theorem Rt.old_down (R : Rt n sz ag keep) {t w : Int} {i j : Nat} (hij : i ≤ j) (hj : j < n) (h : old sz ag t w j) : old sz ag t w i := by
  unfold old at h ⊢
  have := (nest (t := t) (R.size i (by omega)).1 (R.size j hj).1 (R.mod hij hj)).2
  have := R.ages hij hj
  omega
theorem Rt.step_of (R : Rt n sz ag keep) {t w : Int} {s i : Nat} (S : IsStep n sz ag t w s) (h0 : 0 < i) (hi : i < n) : old sz ag t w i ↔ i ≤ s := by
  constructor
  · intro h
    rcases Nat.lt_or_ge s i with hlt | hge
    · exact absurd (R.old_down hlt hi h) (S.above (by omega))
    · exact hge
  · exact S.below i h0
theorem Rt.step_unique (R : Rt n sz ag keep) {t w : Int} {s s' : Nat} (S : IsStep n sz ag t w s) (S' : IsStep n sz ag t w s') : s = s' := by
  rcases Nat.lt_trichotomy s s' with h | h | h
  · have := (R.step_of S (i := s') (by omega) S'.lt).1 (S'.below s' (by omega) (Nat.le_refl _)); omega
  · exact h
  · have := (R.step_of S' (i := s) (by omega) S.lt).1 (S.below s (by omega) (Nat.le_refl _)); omega
theorem Rt.step_ex (R : Rt n sz ag keep) (t w : Int) : ∃ s, IsStep n sz ag t w s := by
  have key : ∀ m, m < n → (∀ i, 0 < i → i ≤ m → old sz ag t w i) → ∃ s, IsStep n sz ag t w s := by
    intro m hm
    induction hd : n - m generalizing m with
    | zero => omega
    | succ d ih =>
      intro h
      by_cases hn : m + 1 < n
      · by_cases ho : old sz ag t w (m + 1)
        · refine ih (m + 1) hn (by omega) (fun i h0 hi => ?_)
          rcases Nat.lt_or_ge i (m + 1) with hlt | hge
          · exact h i h0 (by omega)
          · obtain rfl : i = m + 1 := by omega
            exact ho
        · exact ⟨m, hm, h, fun _ => ho⟩
      · exact ⟨m, hm, h, fun hc => absurd hc hn⟩
  exact key 0 R.one (fun i h0 hi => by omega)
end
theorem fl_mod {t s : Int} : (t - t % s) % s = 0 := by rw [fl_mul]; exact Int.mul_emod_right _ _
section
variable {n : Nat} {sz ag : Nat → Int} {keep : Int}
end
end Go.Proofs.Ytdopbhbbpgfliaa.GrainM
end
section
namespace Go.Proofs.Ytdopbhbbpgfliaa.GrainL
open Go.RowKit Go.Proofs.YtdopbhbbpgfliaaW.PrintWords Go.Proofs.YtdopbhbbpgfliaaW.PrintLast Go.Proofs.Ytdopbhbbpgfliaa.PAsk Go.Proofs.Ytdopbhbbpgfliaa.GrainM
set_option linter.unusedVariables false
set_option linter.unusedSimpArgs false
set_option maxHeartbeats 8000000
set_option maxRecDepth 100000
abbrev Gr := S84
def sz (gs : List Gr) (i : Nat) : Int := (rd_T84 gs (i : Int)).f0
def ag (gs : List Gr) (i : Nat) : Int := (rd_T84 gs (i : Int)).f1
def Rgt (gs : List Gr) (keep : Int) : Prop := Rt gs.length (sz gs) (ag gs) keep
theorem w64 {x : Int} (h0 : -9223372036854775808 ≤ x) (h1 : x ≤ 9223372036854775807) : wrap64 x = x := by unfold wrap64; omega
theorem tmod_emod {a b : Int} (h : 0 ≤ a) : Int.tmod a b = a % b := Int.tmod_eq_emod_of_nonneg h
def good (gs : List Gr) (i : Nat) : Prop := 1 ≤ sz gs i ∧ sz gs i ≤ 1099511627776 ∧ ag gs i ≤ 1099511627776 ∧ (0 < i → sz gs (i - 1) < sz gs i ∧ Int.tmod (sz gs i) (sz gs (i - 1)) = 0 ∧ ag gs (i - 1) ≤ ag gs i)
def goods (gs : List Gr) (keep : Int) (n i : Nat) : Prop := (∀ j, i ≤ j → j < n → good gs j) ∧ ag gs (n - 1) ≤ keep ∧ keep ≤ 2199023255552
theorem rgt_iff {gs : List Gr} {keep : Int} : Rgt gs keep ↔ 1 ≤ gs.length ∧ gs.length ≤ 4 ∧ ag gs 0 = 0 ∧ goods gs keep gs.length 0 := by
  unfold goods
  constructor
  · intro R
    refine ⟨R.one, R.four, R.first, fun j _ hj => ?_, R.kept, R.most⟩
    have hs := R.size j hj
    refine ⟨hs.1, hs.2, (R.age j hj).2, fun h0 => ?_⟩
    have hu := R.up (j - 1) (by omega)
    rw [show j - 1 + 1 = j from by omega] at hu
    exact ⟨hu.1, by rw [tmod_emod (by omega)]; exact hu.2.1, hu.2.2⟩
  · rintro ⟨h1, h4, h0, hg, hk, hm⟩
    have hages : ∀ i, i < gs.length → 0 ≤ ag gs i := by
      intro i
      induction i with
      | zero => intro _; omega
      | succ i ih =>
        intro hi
        have := ((hg (i + 1) (by omega) hi).2.2.2 (by omega)).2.2
        have := ih (by omega)
        simp only [Nat.add_sub_cancel] at *
        omega
    refine ⟨h1, h4, h0, fun i hi => ⟨(hg i (by omega) hi).1, (hg i (by omega) hi).2.1⟩, fun i hi => ⟨hages i hi, (hg i (by omega) hi).2.2.1⟩, fun i hi => ?_, hk, hm⟩
    obtain ⟨a, b, c⟩ := (hg (i + 1) (by omega) hi).2.2.2 (by omega)
    simp only [Nat.add_sub_cancel] at a b c
    refine ⟨a, ?_, c⟩
    rw [← tmod_emod (by have := (hg (i + 1) (by omega) hi).1; omega)]
    exact b
theorem stepR_good {gs : List Gr} {i : Nat} : stepR gs i = true ↔ good gs i := by
  unfold stepR good
  show (decide (1 ≤ sz gs i) && (decide (sz gs i ≤ 1099511627776) && (decide (ag gs i ≤ 1099511627776) && (decide (i = 0) || (decide (sz gs (i - 1) < sz gs i) && (decide (Int.tmod (sz gs i) (sz gs (i - 1)) = 0) && decide (ag gs (i - 1) ≤ ag gs i))))))) = true ↔ _
  simp only [Bool.and_eq_true, Bool.or_eq_true, decide_eq_true_eq]
  constructor
  · rintro ⟨h1, h2, h3, h4⟩
    refine ⟨h1, h2, h3, fun h0 => ?_⟩
    rcases h4 with h4 | h4
    · omega
    · exact h4
  · rintro ⟨h1, h2, h3, h4⟩
    refine ⟨h1, h2, h3, ?_⟩
    rcases Nat.eq_zero_or_pos i with h | h
    · exact .inl h
    · exact .inr (h4 h)
theorem rightR_iff {gs : List Gr} {keep : Int} : rightR gs keep = true ↔ Rgt gs keep := by
  rw [rgt_iff]
  unfold rightR goods
  show (decide (1 ≤ gs.length) && (decide (gs.length ≤ 4) && (decide (ag gs 0 = 0) && ((List.range gs.length).all (stepR gs) && (decide (ag gs (gs.length - 1) ≤ keep) && decide (keep ≤ 2199023255552)))))) = true ↔ _
  simp only [Bool.and_eq_true, decide_eq_true_eq, List.all_eq_true, List.mem_range]
  constructor
  · rintro ⟨h1, h2, h3, h4, h5, h6⟩
    exact ⟨h1, h2, h3, fun j _ hj => stepR_good.1 (h4 j hj), h5, h6⟩
  · rintro ⟨h1, h2, h3, h4, h5, h6⟩
    exact ⟨h1, h2, h3, fun j hj => stepR_good.2 (h4 j (Nat.zero_le _) hj), h5, h6⟩
open Classical in
theorem right_tells (gs : List Gr) (keep : Int) : Ev (fun k => grain_Right.f k gs keep) (decide (Rgt gs keep)) := by
  have e : rightR gs keep = decide (Rgt gs keep) := by rw [Bool.eq_iff_iff, rightR_iff, decide_eq_true_iff]
  rw [← e]
  exact Ev.now _
theorem isTime_tells (t : Int) : grain_isTime.f t = some (decide (isT t)) := by
  have e : isT t ↔ (t ≥ 0 ∧ t ≤ 1099511627776) := Iff.rfl
  unfold grain_isTime.f
  by_cases h : t ≥ 0 <;> by_cases h' : t ≤ 1099511627776 <;> simp [h, h', e]
open Classical in
noncomputable def fitE (gs : List Gr) (keep t w : Int) : Int := if Rgt gs keep then (if isT t ∧ isT w then 0 else 1) else 30
theorem fits_tells (gs : List Gr) (keep t w : Int) : Ev (fun k => grain_fits.f k gs keep t w) (fitE gs keep t w) := by
  unfold grain_fits.f fitE
  refine Ev.bind (right_tells gs keep) ?_
  by_cases hR : Rgt gs keep
  · simp only [hR, decide_true, if_true, isTime_tells, Option.bind_some]
    by_cases h1 : isT t <;> by_cases h2 : isT w <;> simp [h1, h2] <;> exact Ev.now _
  · simp [hR]; exact Ev.now _
theorem fitE_zero {gs : List Gr} {keep t w : Int} : fitE gs keep t w = 0 ↔ Rgt gs keep ∧ isT t ∧ isT w := by
  unfold fitE
  by_cases h : Rgt gs keep <;> by_cases h2 : isT t ∧ isT w <;> simp [h, h2]
theorem end_tells {t s : Int} (ht : isT t) (h1 : 1 ≤ s) (h2 : s ≤ 1099511627776) : grain_end.f t s = some (en t s) := by
  unfold grain_end.f en
  obtain ⟨h3, h4⟩ := ht
  have h5 := Int.emod_nonneg t (show s ≠ 0 by omega)
  have h6 := Int.emod_lt_of_pos t (show 0 < s by omega)
  rw [if_neg (by omega), tmod_emod h3, w64 (x := t - t % s) (by omega) (by omega), w64 (by omega) (by omega)]
theorem step_from {gs : List Gr} {keep t w : Int} (R : Rgt gs keep) (ht : isT t) (hw : isT w) (d : Nat) : ∀ (i s k : Nat), gs.length - i = d → i ≤ gs.length → s + 1 = i →
    (∀ j, 0 < j → j ≤ s → old (sz gs) (ag gs) t w j) → ∃ r : Nat, grain_Step.l0 (k + d + 1) t w s gs.length i gs keep = some ((r : Int), 0) ∧ IsStep gs.length (sz gs) (ag gs) t w r := by
  have h4 := R.four
  induction d with
  | zero =>
    intro i s k hd hi hs ho
    refine ⟨s, ?_, by omega, ho, fun hc => by omega⟩
    simp only [grain_Step.l0]
    rw [if_neg (by omega)]
  | succ d ih =>
    intro i s k hd hi hs ho
    have hlt : i < gs.length := by omega
    have ha := R.age i hlt
    have hsz := R.size i hlt
    have e1 : wrap64 ((i : Int) + 1) = ((i + 1 : Nat) : Int) := by rw [w64] <;> omega
    have e2 : wrap64 (w - (rd_T84 gs (i : Int)).f1) = w - ag gs i := by
      rw [w64]
      · rfl
      · unfold ag at ha; unfold isT at hw; omega
      · unfold ag at ha; unfold isT at hw; omega
    rw [show k + (d + 1) + 1 = (k + d + 1) + 1 from by omega]
    simp only [grain_Step.l0]
    rw [if_pos (by omega), if_neg (by omega), if_pos (by omega), if_pos (by omega), e2, e1]
    have e3 : grain_end.f t (rd_T84 gs (i : Int)).f0 = some (en t (sz gs i)) := end_tells ht hsz.1 hsz.2
    rw [e3]
    simp only [Option.bind_some]
    by_cases hold : old (sz gs) (ag gs) t w i
    · rw [if_neg (by unfold old at hold; omega)]
      exact ih (i + 1) i k (by omega) (by omega) rfl (fun j h0 hj => by
        rcases Nat.lt_or_ge j i with hl | hl
        · exact ho j h0 (by omega)
        · obtain rfl : j = i := by omega
          exact hold)
    · rw [if_pos (by unfold old at hold; omega)]
      exact ⟨s, rfl, by omega, ho, fun _ => by rw [hs]; exact hold⟩
theorem step_tells {gs : List Gr} {keep t w : Int} (R : Rgt gs keep) (ht : isT t) (hw : isT w) {s : Nat} (S : IsStep gs.length (sz gs) (ag gs) t w s) : Ev (fun k => grain_Step.f k gs keep t w) ((s : Int), 0) := by
  unfold grain_Step.f
  refine Ev.bind (fits_tells gs keep t w) ?_
  rw [fitE_zero.2 ⟨R, ht, hw⟩]
  simp only [if_true]
  have h4 := R.four
  have h1 := R.one
  refine ⟨gs.length + 1, fun k hk => ?_⟩
  obtain ⟨k, rfl⟩ : ∃ m, k = (m + (gs.length - 1) + 1) + 1 := ⟨k - gs.length - 1, by omega⟩
  obtain ⟨r, hr, hS⟩ := step_from R ht hw (gs.length - 1) 1 0 k (by omega) h1 rfl (fun j h0 hj => by omega)
  obtain rfl := R.step_unique hS S
  rw [← hr]
  generalize k + (gs.length - 1) + 1 = m
  simp only [grain_Step.l0]
  rw [if_pos (by omega), if_pos trivial, show wrap64 (0 + 1) = ((1 : Nat) : Int) from by rw [w64] <;> omega]
  rfl
theorem rd_sz (gs : List Gr) (i : Nat) : (rd_T84 gs (i : Int)).f0 = sz gs i := rfl
open Classical in
theorem expired_tells {gs : List Gr} {keep t w : Int} (R : Rgt gs keep) (ht : isT t) (hw : isT w) :
    Ev (fun k => grain_Expired.f k gs keep t w) (decide (en t (sz gs (gs.length - 1)) ≤ w - keep), 0) := by
  unfold grain_Expired.f
  refine Ev.bind (fits_tells gs keep t w) ?_
  have h1 := R.one
  have h4 := R.four
  have hk : ag gs (gs.length - 1) ≤ keep := R.kept
  have ha := R.age (gs.length - 1) (by omega)
  have hm : keep ≤ 2199023255552 := R.most
  have hs := R.size (gs.length - 1) (by omega)
  have e : wrap64 ((gs.length : Int) - 1) = ((gs.length - 1 : Nat) : Int) := by rw [w64] <;> omega
  have e2 : wrap64 (w - keep) = w - keep := by
    obtain ⟨h8, h9⟩ := hw
    rw [w64] <;> omega
  simp only [fitE_zero.2 ⟨R, ht, hw⟩, if_true, e, rd_sz, e2]
  simp only [if_pos (show (0 : Int) ≤ ((gs.length - 1 : Nat) : Int) by omega), if_pos (show ((gs.length - 1 : Nat) : Int) < (gs.length : Int) by omega), end_tells ht hs.1 hs.2, Option.bind_some]
  have : (decide (en t (sz gs (gs.length - 1)) ≤ w - keep)) = @decide (en t (sz gs (gs.length - 1)) ≤ w - keep) (propDecidable _) := by congr
  rw [this]
  exact Ev.now _
theorem floor_tells {t s : Int} (ht : isT t) (h1 : 1 ≤ s) (h2 : s ≤ 1099511627776) : grain_Floor.f t s = some (t - t % s, 0) := by
  unfold grain_Floor.f
  have h5 := Int.emod_nonneg t (show s ≠ 0 by omega)
  have h6 := Int.emod_lt_of_pos t (show 0 < s by omega)
  have h7 := ht
  obtain ⟨h3, h4⟩ := h7
  rw [isTime_tells]
  simp only [Option.bind_some, decide_eq_true ht, if_true]
  rw [if_neg (by omega), if_neg (by omega), if_neg (by omega), tmod_emod h3, w64 (by omega) (by omega)]
end Go.Proofs.Ytdopbhbbpgfliaa.GrainL
end
section
namespace Go.Proofs.Ytdopbhbbpgfliaa.PAsk
open Go.RowKit Go.Proofs.YtdopbhbbpgfliaaW.PrintWords Go.Proofs.YtdopbhbbpgfliaaW.PrintLast Go.Proofs.YtdopbhbbpgfliaaW.PrintMore Go.Proofs.Ytdopbhbbpgfliaa.GrainM Go.Proofs.Ytdopbhbbpgfliaa.GrainL
set_option linter.unusedVariables false
set_option linter.unusedSimpArgs false
set_option maxHeartbeats 8000000
set_option maxRecDepth 100000
structure FitK (gs : List Gr) (b : List Int) (d : List ByteArray) (f : Int) (g : Nat) : Prop where
  read : Ev (fun k => key_Read.f k b) (d, f, (g : Int), 0)
  dims : dimsB d = true
  time : isT f
  gran : g < gs.length
  from_ : f % sz gs g = 0
def fitK (gs : List Gr) (b : List Int) : Prop := ∃ d f g, FitK gs b d f g
def agR (a : Ag) : Prop := a.f3 ≤ a.f4 ∧ (a.f1 = true → a.f0 = mW - 1)
def fitX (gs : List Gr) (x : En) : Prop := fitK gs x.f0 ∧ x.f1.f0 ≠ 0 ∧ agR x.f1
open Classical in
theorem right_ag {a : Ag} (h0 : a.f0 ≠ 0) : agg_Right.f a.f0 a.f1 a.f2.f0 a.f2.f1 a.f3 a.f4 = some (decide (agR a)) := by
  unfold agg_Right.f agR
  rw [if_neg h0]
  by_cases h1 : a.f3 ≤ a.f4
  · by_cases h2 : a.f1 = true
    · rw [if_pos h1, if_pos h2]
      have : (a.f0 == 18446744073709551615) = decide (a.f0 = 18446744073709551615) := rfl
      rw [this]
      simp [h1, h2, mW]
    · rw [if_pos h1, if_neg h2]; simp [h1, h2]
  · rw [if_neg h1]; simp [h1]
open Classical in
theorem fits_tells1 {gs : List Gr} {keep : Int} (R : Rgt gs keep) (x : En) (hb : x.f0.length < 1000000) :
    Ev (fun k => fold_fits.f k gs keep x.f0 x.f1.f0 x.f1.f1 x.f1.f2.f0 x.f1.f2.f1 x.f1.f3 x.f1.f4) (decide (fitX gs x)) := by
  obtain ⟨⟨d, f, g, e⟩, h, hk⟩ := read_ex x.f0 hb
  have h4 := R.four
  unfold fold_fits.f
  refine Ev.bind h ?_
  have no : ∀ hh : ¬ fitX gs x, ∀ {q : Nat → Option Bool}, (∀ k, q k = some false) → Ev q (decide (fitX gs x)) := fun hh q hq => by
    rw [decide_eq_false hh]
    exact Ev.congr hq (Ev.now _)
  have un : ∀ d' f' g', FitK gs x.f0 d' f' g' → d = d' ∧ f = f' ∧ g = (g' : Int) ∧ e = 0 := fun d' f' g' F => by
    have := Ev.uniq h F.read
    simpa using this
  by_cases he : e = 0
  · obtain ⟨hd, hf, hg0, hg4⟩ := hk he
    subst he
    obtain ⟨n, rfl⟩ : ∃ n : Nat, g = (n : Int) := ⟨g.toNat, by simp only at hg0; omega⟩
    by_cases hn : n < gs.length
    · have hs := R.size n hn
      have e1 : Int.tmod f (sz gs n) = f % sz gs n := tmod_emod hf.1
      by_cases hm : f % sz gs n = 0
      · by_cases h0 : x.f1.f0 = 0
        · refine no (fun hh => hh.2.1 h0) (fun k => ?_)
          simp only [rd_sz, e1]
          rw [if_pos trivial, if_pos (by omega), if_pos (by omega), if_neg (by omega), if_pos hm, if_pos h0]
        · refine Ev.congr (fun k => ?_) (Ev.now _)
          simp only [rd_sz, e1, right_ag h0]
          rw [if_pos trivial, if_pos (by omega), if_pos (by omega), if_neg (by omega), if_pos hm, if_neg h0, Option.bind_some]
          congr 1
          apply decide_eq_decide.2
          exact ⟨fun ha => ⟨⟨d, f, n, h, hd, hf, hn, hm⟩, h0, ha⟩, fun hh => hh.2.2⟩
      · refine no (fun hh => ?_) (fun k => ?_)
        · obtain ⟨⟨d', f', g', F⟩, _⟩ := hh
          obtain ⟨rfl, rfl, hg, _⟩ := un _ _ _ F
          obtain rfl : n = g' := by omega
          exact hm F.from_
        · simp only [rd_sz, e1]
          rw [if_pos trivial, if_pos (by omega), if_pos (by omega), if_neg (by omega), if_neg hm]
    · refine no (fun hh => ?_) (fun k => ?_)
      · obtain ⟨⟨d', f', g', F⟩, _⟩ := hh
        obtain ⟨rfl, rfl, hg, _⟩ := un _ _ _ F
        have := F.gran
        omega
      · simp only
        rw [if_pos trivial, if_neg (by omega)]
  · refine no (fun hh => ?_) (fun k => ?_)
    · obtain ⟨⟨d', f', g', F⟩, _⟩ := hh
      exact he (un _ _ _ F).2.2.2
    · simp only
      rw [if_neg he]
theorem any_tells {q : Nat → En → Option Bool} {p : En → Bool} : ∀ {l : List En}, (∀ x ∈ l, Ev (fun k => q k x) (p x)) → Ev (fun k => anyQ (q k) l) (l.any p)
  | [], _ => Ev.now _
  | x :: r, h => by
    have ih := any_tells (fun y hy => h y (List.mem_cons_of_mem _ hy))
    show Ev (fun k => (q k x).bind _) _
    refine Ev.bind (h x List.mem_cons_self) ?_
    rw [List.any_cons]
    cases hp : p x with
    | true => exact Ev.congr (fun k => by simp) (Ev.now _)
    | false => exact Ev.congr (fun k => by simp) ih
open Classical in
theorem fits_tells2 {gs : List Gr} {keep : Int} (R : Rgt gs keep) {l : List En} (hl : l.length < 1000000) (hb : ∀ x ∈ l, x.f0.length < 1000000) :
    Ev (fun k => fold_Fits.f k gs keep l) (decide (∀ x ∈ l, fitX gs x)) := by
  unfold fold_Fits.f
  by_cases h0 : l.length = 0
  · obtain rfl := List.length_eq_zero_iff.1 h0
    exact Ev.congr (fun k => by simp) (Ev.now _)
  · simp only [if_neg h0]
    refine Ev.bind (right_tells gs keep) ?_
    simp only [decide_eq_true R, if_true, if_pos (show l.length ≤ 140737488355328 by omega)]
    refine Ev.bind (any_tells (p := fun x => !decide (fitX gs x)) (fun x hx => ?_)) (Ev.congr (fun k => ?_) (Ev.now _))
    · unfold unfit
      exact Ev.bind (fits_tells1 R x (hb x hx)) (Ev.now _)
    · congr 1
      by_cases hh : ∀ x ∈ l, fitX gs x
      · rw [decide_eq_true hh, List.any_eq_false.2 (fun x hx => by simp [hh x hx])]; rfl
      · rw [decide_eq_false hh]
        have : l.any (fun x => !decide (fitX gs x)) = true := by
          obtain ⟨x, hx⟩ := Classical.not_forall.1 hh
          obtain ⟨hx, hn⟩ := Classical.not_imp.1 hx
          exact List.any_eq_true.2 ⟨x, hx, by simp [hn]⟩
        rw [this]; rfl
def okL (gs : List Gr) (keep wm : Int) (l : List En) : Prop := Rgt gs keep ∧ isT wm ∧ SortedE l ∧ ∀ x ∈ l, fitX gs x
theorem sorted_adj {l : List En} (h : ∀ j (hj : j < l.length), 0 < j → cmpB (l[j - 1]'(by omega)).f0 l[j].f0 < 0) : SortedE l := by
  refine List.pairwise_iff_getElem.2 (fun i j hi hj hij => ?_)
  induction j with
  | zero => omega
  | succ j ih =>
    have h1 := h (j + 1) hj (by omega)
    simp only [Nat.add_sub_cancel] at h1
    rcases Nat.lt_or_ge i j with hl | hl
    · exact cmpB_trans (ih (by omega) hl) h1
    · obtain rfl : i = j := by omega
      exact h1
open Classical in
theorem check_loop {gs : List Gr} {keep : Int} (R : Rgt gs keep) {l : List En} (hl : l.length < 1000000) (hb : ∀ x ∈ l, x.f0.length < 1000000) (hB : ∀ x ∈ l, x.f0.all isB = true) (d : Nat) : ∀ i : Nat, l.length - i = d → i ≤ l.length →
    ∃ e, Ev (fun k => fold_check.l0 k l (l.length : Int) (i : Int) gs keep) e ∧ (e = 0 ↔ (∀ j (hj : j < l.length), i ≤ j → 0 < j → cmpB (l[j - 1]'(by omega)).f0 l[j].f0 < 0) ∧ ∀ x ∈ l, fitX gs x) := by
  induction d with
  | zero =>
    intro i hd hi
    refine ⟨if ∀ x ∈ l, fitX gs x then 0 else 3, Ev.step (f := fun k => (fold_Fits.f k gs keep l).bind fun t121 => (if t121 = true then (some 0) else (some 3))) (fun k => ?_) (Ev.bind (fits_tells2 R hl hb) (Ev.congr (fun k => ?_) (Ev.now _))), ?_⟩
    · simp only [fold_check.l0]
      rw [if_neg (by omega)]
    · by_cases hh : ∀ x ∈ l, fitX gs x
      · rw [decide_eq_true hh, if_pos rfl, if_pos hh]
      · rw [decide_eq_false hh, if_neg (by decide), if_neg hh]
    · by_cases hh : ∀ x ∈ l, fitX gs x
      · rw [if_pos hh]
        exact ⟨fun _ => ⟨fun j hj hij => by omega, hh⟩, fun _ => rfl⟩
      · rw [if_neg hh]
        exact ⟨fun h => by omega, fun h => absurd h.2 hh⟩
  | succ d ih =>
    intro i hd hi
    have hlt : i < l.length := by omega
    obtain ⟨e, h, he⟩ := ih (i + 1) (by omega) (by omega)
    rcases Nat.eq_zero_or_pos i with h0 | h0
    · subst h0
      refine ⟨e, Ev.step (fun k => ?_) h, ?_⟩
      · simp only [fold_check.l0]
        rw [if_pos (by omega), if_neg (by omega), kw64 (by omega) (by omega)]
        rfl
      · rw [he]
        exact ⟨fun hh => ⟨fun j hj h1 h2 => hh.1 j hj (by omega) h2, hh.2⟩, fun hh => ⟨fun j hj h1 h2 => hh.1 j hj (by omega) h2, hh.2⟩⟩
    · have hc : bytes_Compare.f (rd_T60 l ((i - 1 : Nat) : Int)).f0 (rd_T60 l (i : Int)).f0 = some (cmpB (l[i - 1]'(by omega)).f0 l[i].f0) := by
        rw [rd_ent hlt, rd_ent (show i - 1 < l.length by omega)]
        unfold bytes_Compare.f
        rw [if_pos ⟨hB _ (List.getElem_mem _), hB _ (List.getElem_mem _)⟩]
      have ew : wrap64 ((i : Int) - 1) = ((i - 1 : Nat) : Int) := by rw [kw64] <;> omega
      by_cases hge : cmpB (l[i - 1]'(by omega)).f0 l[i].f0 ≥ 0
      · refine ⟨50, Ev.step (fun k => ?_) (Ev.now _), ⟨fun h => by omega, fun hh => ?_⟩⟩
        · simp only [fold_check.l0, ew]
          rw [if_pos (by omega), if_pos (by omega), if_pos (by omega), if_pos (by omega), if_pos (by omega), if_pos (by omega), hc, Option.bind_some, if_pos hge]
        · have := hh.1 i hlt (Nat.le_refl _) h0
          omega
      · refine ⟨e, Ev.step (fun k => ?_) h, ?_⟩
        · simp only [fold_check.l0, ew]
          rw [if_pos (by omega), if_pos (by omega), if_pos (by omega), if_pos (by omega), if_pos (by omega), if_pos (by omega), hc, Option.bind_some, if_neg hge, kw64o i (by omega)]
        · rw [he]
          refine ⟨fun hh => ⟨fun j hj h1 h2 => ?_, hh.2⟩, fun hh => ⟨fun j hj h1 h2 => hh.1 j hj (by omega) h2, hh.2⟩⟩
          rcases Nat.lt_or_ge i j with hl' | hl'
          · exact hh.1 j hj hl' h2
          · obtain rfl : i = j := by omega
            omega
theorem check_tells (gs : List Gr) (keep wm : Int) {l : List En} (hl : l.length < 1000000) (hb : ∀ x ∈ l, x.f0.length < 1000000) (hB : ∀ x ∈ l, x.f0.all isB = true) :
    ∃ e, Ev (fun k => fold_check.f k gs keep wm l) e ∧ (e = 0 ↔ okL gs keep wm l) := by
  unfold fold_check.f
  by_cases R : Rgt gs keep
  · by_cases h0 : wm < 0
    · refine ⟨1, Ev.bind (right_tells gs keep) (Ev.congr (fun k => ?_) (Ev.now _)), ⟨fun h => by omega, fun h => ?_⟩⟩
      · simp [R, h0]
      · have := h.2.1; unfold isT at this; omega
    · by_cases h1 : wm > 1099511627776
      · refine ⟨1, Ev.bind (right_tells gs keep) (Ev.congr (fun k => ?_) (Ev.now _)), ⟨fun h => by omega, fun h => ?_⟩⟩
        · have h1' : 1099511627776 < wm := h1
          simp [R, h0, h1']
        · have := h.2.1; unfold isT at this; omega
      · obtain ⟨e, h, he⟩ := check_loop R hl hb hB l.length 0 (by omega) (Nat.zero_le _)
        refine ⟨e, Ev.bind (right_tells gs keep) (Ev.congr (fun k => ?_) h), ?_⟩
        · rw [if_pos (by simp [R]), if_neg h0, if_neg h1]
          rfl
        · rw [he]
          constructor
          · rintro ⟨a, b⟩
            exact ⟨R, by unfold isT; omega, sorted_adj (fun j hj h2 => a j hj (Nat.zero_le _) h2), b⟩
          · rintro ⟨_, _, a, b⟩
            exact ⟨fun j hj _ h2 => sorted_lt a (by omega) hj, b⟩
  · refine ⟨30, Ev.bind (right_tells gs keep) (Ev.congr (fun k => ?_) (Ev.now _)), ⟨fun h => by omega, fun h => absurd h.1 R⟩⟩
    simp [R]
theorem at_tells {gs : List Gr} {keep wm : Int} (R : Rgt gs keep) (hw : isT wm) {b : List Int} {d : List ByteArray} {f : Int} {g s m : Nat} (F : FitK gs b d f g) (S : IsStep gs.length (sz gs) (ag gs) f wm s) (hm : m = max g s) :
    Ev (fun k => fold_at.f k gs keep wm b) (wrB d (f - f % sz gs m) (m : Int), (open Classical in decide (en f (sz gs (gs.length - 1)) ≤ wm - keep))) := by
  have h4 := R.four
  have hg := F.gran
  have hsl := S.lt
  have hml : m < gs.length := by omega
  have hz := R.size m hml
  unfold fold_at.f
  refine Ev.bind F.read (Ev.bind (expired_tells R F.time hw) (Ev.bind (step_tells R F.time hw S) ?_))
  have emx : mx (g : Int) (s : Int) = (m : Int) := by unfold mx; split <;> omega
  simp only [emx, if_pos (show (0 : Int) ≤ (m : Int) by omega), if_pos (show (m : Int) < (gs.length : Int) by omega), rd_sz, floor_tells F.time hz.1 hz.2, Option.bind_some]
  have f0 := fl_nonneg F.time.1 hz.1
  have f1 := fl_le (t := f) hz.1
  have ft := F.time.2
  exact Ev.bind (write_tells F.dims ⟨f0, by omega⟩ ⟨by omega, by omega⟩) (Ev.now _)
open Classical in
noncomputable def AtK (gs : List Gr) (keep wm : Int) (b : List Int) : Option (List Int) := if h : ∃ o, Ev (fun k => fold_at.f k gs keep wm b) (o, false) then some h.choose else none
theorem atK_gone {gs : List Gr} {keep wm : Int} {b o : List Int} (h : Ev (fun k => fold_at.f k gs keep wm b) (o, true)) : AtK gs keep wm b = none := by
  unfold AtK
  rw [dif_neg]
  rintro ⟨o', h'⟩
  have := Ev.uniq h h'
  simp at this
theorem atK_some {gs : List Gr} {keep wm : Int} {b o : List Int} (h : Ev (fun k => fold_at.f k gs keep wm b) (o, false)) : AtK gs keep wm b = some o := by
  unfold AtK
  have hh : ∃ o, Ev (fun k => fold_at.f k gs keep wm b) (o, false) := ⟨o, h⟩
  rw [dif_pos hh]
  have := Ev.uniq h hh.choose_spec
  simp only [Prod.mk.injEq, and_true] at this
  rw [← this]
open Classical in
theorem atK_eq {gs : List Gr} {keep wm : Int} (R : Rgt gs keep) (hw : isT wm) {b : List Int} {d : List ByteArray} {f : Int} {g s m : Nat} (F : FitK gs b d f g) (S : IsStep gs.length (sz gs) (ag gs) f wm s) (hm : m = max g s) :
    AtK gs keep wm b = if en f (sz gs (gs.length - 1)) ≤ wm - keep then none else some (wrB d (f - f % sz gs m) (m : Int)) := by
  have h := at_tells R hw F S hm
  by_cases hc : en f (sz gs (gs.length - 1)) ≤ wm - keep
  · rw [if_pos hc]
    rw [decide_eq_true hc] at h
    exact atK_gone h
  · rw [if_neg hc]
    rw [decide_eq_false hc] at h
    exact atK_some h
theorem fit_wr {gs : List Gr} {keep : Int} (R : Rgt gs keep) {d : List ByteArray} {f : Int} {m : Nat} (hd : dimsB d = true) (ht : isT f) (hm : m < gs.length) : FitK gs (wrB d (f - f % sz gs m) (m : Int)) d (f - f % sz gs m) m := by
  have h4 := R.four
  have hz := R.size m hm
  have f0 := fl_nonneg ht.1 hz.1
  have f1 := fl_le (t := f) hz.1
  have ft := ht.2
  exact ⟨read_back hd ⟨f0, by omega⟩ ⟨by omega, by omega⟩, hd, ⟨f0, by omega⟩, hm, fl_mod⟩
theorem at_ex {gs : List Gr} {keep wm : Int} (R : Rgt gs keep) (hw : isT wm) {b : List Int} (hf : fitK gs b) : ∃ o t, Ev (fun k => fold_at.f k gs keep wm b) (o, t) := by
  obtain ⟨d, f, g, F⟩ := hf
  obtain ⟨s, S⟩ := R.step_ex f wm
  exact ⟨_, _, at_tells R hw F S rfl⟩
theorem atK_fit {gs : List Gr} {keep wm : Int} (R : Rgt gs keep) (hw : isT wm) {b c : List Int} (hf : fitK gs b) (h : AtK gs keep wm b = some c) : fitK gs c ∧ c.all isB = true ∧ c.length ≤ 300 := by
  have h4 := R.four
  obtain ⟨d, f, g, F⟩ := hf
  obtain ⟨s, S⟩ := R.step_ex f wm
  have hg := F.gran
  have hsl := S.lt
  rw [atK_eq R hw F S rfl] at h
  split at h
  · cases h
  · obtain rfl := Option.some.inj h
    exact ⟨⟨_, _, _, fit_wr R F.dims F.time (by omega)⟩, wrB_isB (by omega) (by omega), wrB_len F.dims⟩
structure WfE (x : En) : Prop where
  key : x.f0.all isB = true
  short : x.f0.length < 1000000
  cnt : inU x.f1.f0
  lo : inU x.f1.f2.f1
theorem okP_of {gs : List Gr} {x : En} (hw : WfE x) (h : fitX gs x) : okP x.f1 := ⟨⟨hw.cnt, hw.lo, h.2.2.2⟩, h.2.1⟩
noncomputable def foldM (gs : List Gr) (keep wm : Int) (l : List En) : List En := nrm (mapE (AtK gs keep wm) l)
theorem foldGo_tells {gs : List Gr} {keep wm : Int} (R : Rgt gs keep) (hw : isT wm) : ∀ (l p : List En), (∀ x ∈ l, fitK gs x.f0) → Good l → Good p → (∀ y ∈ p, y.f0.all isB = true) → p.length + l.length < 1000 →
    Ev (fun k => foldGo k gs keep wm l (nrm p)) (nrm (p ++ mapE (AtK gs keep wm) l))
  | [], p, _, _, _, _, _ => by simp only [foldGo, mapE, List.append_nil]; exact Ev.now _
  | x :: r, p, hf, hg, hgp, hb, hl => by
    have ⟨g1, g2⟩ := Good.cons.1 hg
    have hfx := hf x List.mem_cons_self
    have hfr : ∀ y ∈ r, fitK gs y.f0 := fun y hy => hf y (List.mem_cons_of_mem _ hy)
    simp only [List.length_cons] at hl
    obtain ⟨o, t, ha⟩ := at_ex R hw hfx
    simp only [foldGo]
    refine Ev.bind ha ?_
    cases t with
    | true =>
      rw [mapE_none (atK_gone ha)]
      exact Ev.congr (fun k => by simp) (foldGo_tells R hw r p hfr g2 hgp hb (by omega))
    | false =>
      have hs := atK_some ha
      rw [mapE_some hs]
      have ho := atK_fit R hw hfx hs
      have hnl := nrm_len p
      have hput : putE o x.f1 (nrm p) = some (insE o x.f1 (nrm p)) := putE_eq (nrm_sorted p) (by omega) (fun y hy => by obtain ⟨q, hq, e⟩ := nrm_mem hy; rw [e]; exact hb q hq) ho.2.1 (fun y hy => (nrm_good hgp y hy).1.2.1) g1.1.2.1
      have hsn : insE o x.f1 (nrm p) = nrm (p ++ [⟨o, x.f1⟩]) := (nrm_snoc (x := ⟨o, x.f1⟩) g1 hgp).symm
      have ih := foldGo_tells R hw r (p ++ [⟨o, x.f1⟩]) hfr g2 (fun y hy => by
        rcases List.mem_append.1 hy with hy | hy
        · exact hgp y hy
        · obtain rfl := List.mem_singleton.1 hy; exact g1) (fun y hy => by
        rcases List.mem_append.1 hy with hy | hy
        · exact hb y hy
        · obtain rfl := List.mem_singleton.1 hy; exact ho.2.1) (by simp; omega)
      rw [List.append_assoc] at ih
      refine Ev.congr (fun k => ?_) ih
      simp only [Bool.false_eq_true, if_false, hput, Option.bind_some, hsn]
theorem fold_tells {gs : List Gr} {keep wm : Int} {l : List En} (hl : l.length < 1000) (hw : ∀ x ∈ l, WfE x) (ho : okL gs keep wm l) : Ev (fun k => fold_Fold.f k gs keep wm l) (foldM gs keep wm l, 0) := by
  obtain ⟨e, h, he⟩ := check_tells gs keep wm (l := l) (by omega) (fun x hx => (hw x hx).short) (fun x hx => (hw x hx).key)
  have e0 := he.2 ho
  subst e0
  unfold fold_Fold.f
  refine Ev.bind h ?_
  obtain ⟨R, ht, _, hf⟩ := ho
  have := foldGo_tells R ht l [] (fun x hx => (hf x hx).1) (fun x hx => okP_of (hw x hx) (hf x hx)) Good.nil (fun y hy => by cases hy) (by simpa using hl)
  exact Ev.bind this (Ev.now _)
theorem fold_errs {gs : List Gr} {keep wm : Int} {l : List En} (hl : l.length < 1000) (hw : ∀ x ∈ l, WfE x) (ho : ¬ okL gs keep wm l) : ∃ e, e ≠ 0 ∧ Ev (fun k => fold_Fold.f k gs keep wm l) ([], e) := by
  obtain ⟨e, h, he⟩ := check_tells gs keep wm (l := l) (by omega) (fun x hx => (hw x hx).short) (fun x hx => (hw x hx).key)
  have e0 : e ≠ 0 := fun h0 => ho (he.1 h0)
  refine ⟨e, e0, ?_⟩
  unfold fold_Fold.f
  refine Ev.bind h ?_
  simp only [if_neg e0]
  exact Ev.now _
def okQ (a : Ag) : Prop := okP a ∧ a.f3 ≤ a.f4
theorem okQ_merge {a b : Ag} (ha : okQ a) (hb : okQ b) : okQ (mergeA a b) := by
  refine ⟨okP_merge ha.1 hb.1, ?_⟩
  rw [mergeA_eq ha.1.1 hb.1.1 ha.1.2 hb.1.2]
  have h1 := ha.2
  have h2 := hb.2
  simp only
  unfold leastI mostI
  split <;> split <;> omega
theorem ins_all {P : Ag → Prop} (hm : ∀ a b, P a → P b → P (mergeA a b)) {b : List Int} {a : Ag} (ha : P a) : ∀ {l : List En}, (∀ y ∈ l, P y.f1) → ∀ y ∈ insE b a l, P y.f1
  | [], _, y, hy => by obtain rfl := List.mem_singleton.1 hy; exact ha
  | x :: r, h, y, hy => by
    have hx := h x List.mem_cons_self
    have hr : ∀ y ∈ r, P y.f1 := fun y hy => h y (List.mem_cons_of_mem _ hy)
    rcases cmpB_tri x.f0 b with c | c | c
    · rw [ins_lt c] at hy
      rcases List.mem_cons.1 hy with rfl | hy
      · exact hx
      · exact ins_all hm ha hr y hy
    · rw [ins_eq c] at hy
      rcases List.mem_cons.1 hy with rfl | hy
      · exact hm _ _ hx ha
      · exact hr y hy
    · rw [ins_gt c] at hy
      rcases List.mem_cons.1 hy with rfl | hy
      · exact ha
      · exact h y hy
theorem nrm_all {P : Ag → Prop} (hm : ∀ a b, P a → P b → P (mergeA a b)) : ∀ {l : List En}, (∀ y ∈ l, P y.f1) → ∀ y ∈ nrm l, P y.f1
  | [], _, _, hy => by cases hy
  | x :: r, h, y, hy => ins_all hm (h x List.mem_cons_self) (nrm_all hm (fun y hy => h y (List.mem_cons_of_mem _ hy))) y hy
theorem foldM_ok {gs : List Gr} {keep wm : Int} {l : List En} (hw : ∀ x ∈ l, WfE x) (ho : okL gs keep wm l) :
    SortedE (foldM gs keep wm l) ∧ (∀ x ∈ foldM gs keep wm l, fitX gs x) ∧ (∀ x ∈ foldM gs keep wm l, WfE x) ∧ (foldM gs keep wm l).length ≤ l.length ∧ ∀ x ∈ foldM gs keep wm l, ∃ y ∈ l, AtK gs keep wm y.f0 = some x.f0 := by
  obtain ⟨R, ht, hs, hf⟩ := ho
  have hQ : ∀ x ∈ foldM gs keep wm l, okQ x.f1 := nrm_all (P := okQ) (fun _ _ => okQ_merge) (fun y hy => by
    obtain ⟨x, hx, _, e⟩ := mapE_mem hy
    rw [e]
    exact ⟨okP_of (hw x hx) (hf x hx), (hf x hx).2.2.1⟩)
  have hk : ∀ x ∈ foldM gs keep wm l, ∃ y ∈ l, AtK gs keep wm y.f0 = some x.f0 := fun x hx => by
    obtain ⟨z, hz, e⟩ := nrm_mem hx
    obtain ⟨y, hy, e2, _⟩ := mapE_mem hz
    exact ⟨y, hy, by rw [e2, e]⟩
  have hfit : ∀ x ∈ foldM gs keep wm l, fitK gs x.f0 ∧ x.f0.all isB = true ∧ x.f0.length ≤ 300 := fun x hx => by
    obtain ⟨y, hy, e⟩ := hk x hx
    exact atK_fit R ht (hf y hy).1 e
  refine ⟨nrm_sorted _, fun x hx => ⟨(hfit x hx).1, (hQ x hx).1.2, (hQ x hx).2, (hQ x hx).1.1.2.2⟩, fun x hx => ⟨(hfit x hx).2.1, by have := (hfit x hx).2.2; omega, (hQ x hx).1.1.1, (hQ x hx).1.1.2.1⟩, ?_, hk⟩
  exact Nat.le_trans (nrm_len _) (mapE_len _ _)
end Go.Proofs.Ytdopbhbbpgfliaa.PAsk
end
