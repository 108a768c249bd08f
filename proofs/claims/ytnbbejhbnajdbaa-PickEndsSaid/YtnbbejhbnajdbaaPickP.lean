/- Trees of runs, in plain lists: what is full, what is offered, and that the order is of no matter. No program in sight. -/
import Derived.Test.YtnbbejhbnajdbaaPickM
namespace Go.Proofs.Ytnbbejhbnajdbaa.PickP
open List Go.RowKit Go.Proofs.YtnbbejhbnajdbaaW.PrintWords Go.Proofs.Ytnbbejhbnajdbaa.PPick Go.Proofs.Ytnbbejhbnajdbaa.XLib

/-- Numbers that a run may have. -/
def gd (r : Ru) : Prop := 1 ≤ r.f0 ∧ 0 ≤ r.f1 ∧ r.f1 ≤ 3 ∧ 1 ≤ r.f2
/-- Two runs that a tree may have. -/
def P2 (a b : Ru) : Prop := a.f0 ≠ b.f0 ∧ (a.f1 = b.f1 → b.f1 = 0)
theorem P2.symm {a b : Ru} (h : P2 a b) : P2 b a := ⟨fun e => h.1 e.symm, fun e => e ▸ h.2 e.symm⟩
structure Tree (l : List Ru) : Prop where
  len : l.length ≤ 64
  good : ∀ r ∈ l, gd r
  two : l.Pairwise P2

theorem rightFrom_iff (l : List Ru) : ∀ F L : List Int, rightFrom F L l = true ↔ (∀ r ∈ l, gd r ∧ r.f0 ∉ F ∧ (0 < r.f1 → r.f1 ∉ L)) ∧ l.Pairwise P2 := by
  induction l with
  | nil => intro F L; simp [rightFrom]
  | cons a l ih =>
    intro F L
    unfold rightFrom
    by_cases h : a.f0 < 1 ∨ a.f0 ∈ F ∨ a.f1 < 0 ∨ 4 ≤ a.f1 ∨ a.f2 < 1 ∨ (0 < a.f1 ∧ a.f1 ∈ L)
    · rw [if_pos h]
      refine ⟨fun h' => (by cases h'), fun h' => ?_⟩
      exfalso
      obtain ⟨⟨g1, g2, g3, g4⟩, k1, k2⟩ := h'.1 a (by simp)
      rcases h with h | h | h | h | h | h
      · omega
      · exact k1 h
      · omega
      · omega
      · omega
      · exact k2 h.1 h.2
    · rw [if_neg h, ih, pairwise_cons]
      have n1 : ¬ a.f0 < 1 := fun e => h (.inl e)
      have n2 : a.f0 ∉ F := fun e => h (.inr (.inl e))
      have n3 : ¬ a.f1 < 0 := fun e => h (.inr (.inr (.inl e)))
      have n4 : ¬ 4 ≤ a.f1 := fun e => h (.inr (.inr (.inr (.inl e))))
      have n5 : ¬ a.f2 < 1 := fun e => h (.inr (.inr (.inr (.inr (.inl e)))))
      have n6 : 0 < a.f1 → a.f1 ∉ L := fun e e' => h (.inr (.inr (.inr (.inr (.inr ⟨e, e'⟩)))))
      constructor
      · rintro ⟨h1, h2⟩
        refine ⟨fun r hr => ?_, fun r hr => ?_, h2⟩
        · rcases mem_cons.1 hr with rfl | hr
          · exact ⟨⟨by omega, by omega, by omega, by omega⟩, n2, n6⟩
          · obtain ⟨g, k1, k2⟩ := h1 r hr
            exact ⟨g, fun e => k1 (mem_cons_of_mem _ e), fun e e' => k2 e (mem_cons_of_mem _ e')⟩
        · obtain ⟨g, k1, k2⟩ := h1 r hr
          refine ⟨fun e => k1 (by rw [← e]; simp), fun e => ?_⟩
          have := g.2.1
          rcases Int.lt_or_le 0 r.f1 with hp | hp
          · exact absurd (by rw [← e]; simp) (k2 hp)
          · omega
      · rintro ⟨h1, h2, h3⟩
        refine ⟨fun r hr => ?_, h3⟩
        obtain ⟨g, k1, k2⟩ := h1 r (mem_cons_of_mem _ hr)
        refine ⟨g, fun e => ?_, fun e e' => ?_⟩
        · rcases mem_cons.1 e with e | e
          · exact (h2 r hr).1 e.symm
          · exact k1 e
        · rcases mem_cons.1 e' with e' | e'
          · have := (h2 r hr).2 e'.symm
            omega
          · exact k2 e e'
theorem right_iff (l : List Ru) : rightB l = true ↔ Tree l := by
  unfold rightB
  by_cases h : 64 < l.length
  · rw [if_pos h]
    exact ⟨fun e => (by cases e), fun e => absurd e.len (by omega)⟩
  · rw [if_neg h, rightFrom_iff]
    constructor
    · rintro ⟨h1, h2⟩
      exact ⟨by omega, fun r hr => (h1 r hr).1, h2⟩
    · intro ht
      exact ⟨fun r hr => ⟨ht.good r hr, by simp, by simp⟩, ht.two⟩
theorem right_false (l : List Ru) : rightB l = false ↔ ¬ Tree l := by
  rw [← right_iff]; simp

theorem Tree.perm {l m : List Ru} (h : Tree l) (p : l ~ m) : Tree m :=
  ⟨by rw [← p.length_eq]; exact h.len, fun r hr => h.good r (p.mem_iff.2 hr), h.two.perm p P2.symm⟩
/-- Files are told apart. -/
theorem Tree.inj {l : List Ru} (h : Tree l) {a b : Ru} (ha : a ∈ l) (hb : b ∈ l) (e : a.f0 = b.f0) : a = b := by
  rcases Classical.em (a = b) with hab | hab
  · exact hab
  · exfalso
    have := h.two
    obtain ⟨i, hi, rfl⟩ := mem_iff_getElem.1 ha
    obtain ⟨j, hj, rfl⟩ := mem_iff_getElem.1 hb
    rw [pairwise_iff_getElem] at this
    rcases Nat.lt_trichotomy i j with hij | hij | hij
    · exact (this i j hi hj hij).1 e
    · subst hij; exact hab rfl
    · exact (this j i hj hi hij).1 e.symm
theorem Tree.level {l : List Ru} (h : Tree l) {a b : Ru} (ha : a ∈ l) (hb : b ∈ l) (e : a.f1 = b.f1) (h0 : a.f1 ≠ 0) : a = b := by
  rcases Classical.em (a = b) with hab | hab
  · exact hab
  · exfalso
    have := h.two
    obtain ⟨i, hi, rfl⟩ := mem_iff_getElem.1 ha
    obtain ⟨j, hj, rfl⟩ := mem_iff_getElem.1 hb
    rw [pairwise_iff_getElem] at this
    rcases Nat.lt_trichotomy i j with hij | hij | hij
    · exact h0 (e.trans ((this i j hi hj hij).2 e))
    · subst hij; exact hab rfl
    · exact h0 ((this j i hj hi hij).2 e.symm)

/-- The runs of a level. -/
def atL (l : List Ru) (i : Int) : List Ru := l.filter fun r => decide (r.f1 = i)
theorem stf_foldl (l : List Ru) (i : Int) : ∀ s, l.foldl (stf i) s = (atL l i).foldl (fun s r => (s.1 + 1, r.f2)) s := by
  induction l with
  | nil => intro s; rfl
  | cons a l ih =>
    intro s
    rw [foldl_cons, ih]
    unfold atL
    rw [filter_cons]
    by_cases h : a.f1 = i
    · rw [if_pos (by simpa using h), foldl_cons]
      simp only [stf, if_pos h]
    · rw [if_neg (by simpa using h)]
      simp only [stf, if_neg h]
theorem count_foldl (l : List Ru) : ∀ s : Int × Int, (l.foldl (fun s r => (s.1 + 1, r.f2)) s).1 = s.1 + l.length := by
  induction l with
  | nil => intro s; simp
  | cons a l ih =>
    intro s
    rw [foldl_cons, ih]
    simp only [length_cons]; omega
theorem mem_atL {l : List Ru} {i : Int} {r : Ru} : r ∈ atL l i ↔ r ∈ l ∧ r.f1 = i := by unfold atL; simp
theorem Tree.one {l : List Ru} (h : Tree l) {i : Int} (hi : i ≠ 0) : (atL l i).length ≤ 1 := by
  have h2 : (atL l i).Pairwise P2 := h.two.filter _
  match hm : atL l i with
  | [] => simp
  | [a] => simp
  | a :: b :: t =>
    exfalso
    rw [hm] at h2
    have ha : a ∈ atL l i := by rw [hm]; simp
    have hb : b ∈ atL l i := by rw [hm]; simp
    have := ((pairwise_cons.1 h2).1 b (by simp)).2 ((mem_atL.1 ha).2.trans (mem_atL.1 hb).2.symm)
    exact hi ((mem_atL.1 hb).2.symm.trans this)
/-- Which levels are full, of a tree. -/
theorem full_zero (l : List Ru) : fullB l 0 = true ↔ 2 ≤ (atL l 0).length := by
  unfold fullB
  rw [if_pos rfl, decide_eq_true_iff, stf_foldl, count_foldl]
  simp only
  omega
theorem full_more {l : List Ru} (h : Tree l) {i : Int} (h1 : 1 ≤ i) (h2 : i < 3) : fullB l i = true ↔ ∃ r, atL l i = [r] ∧ (if i = 1 then 64 else 256) < r.f2 := by
  unfold fullB
  rw [if_neg (by omega), if_pos h2, decide_eq_true_iff, stf_foldl]
  have := h.one (i := i) (by omega)
  match hm : atL l i with
  | [] => constructor
          · intro h; simp at h; split at h <;> omega
          · rintro ⟨r, hr, _⟩; cases hr
  | [a] => constructor
           · intro h; exact ⟨a, rfl, by simpa using h⟩
           · rintro ⟨r, hr, h⟩; cases hr; simpa using h
  | a :: b :: t => rw [hm] at this; simp at this
theorem full_far {l : List Ru} {i : Int} (h : 3 ≤ i) : fullB l i = false := by
  unfold fullB
  rw [if_neg (by omega), if_neg (by omega)]
theorem atL_perm {l m : List Ru} (p : l ~ m) (i : Int) : atL l i ~ atL m i := p.filter _
theorem full_perm {l m : List Ru} (h : Tree l) (p : l ~ m) (i : Int) (h0 : 0 ≤ i) : fullB l i = fullB m i := by
  rw [Bool.eq_iff_iff]
  rcases Int.lt_or_le i 3 with h3 | h3
  · rcases Int.lt_or_le i 1 with h1 | h1
    · obtain rfl : i = 0 := by omega
      rw [full_zero, full_zero, (atL_perm p 0).length_eq]
    · rw [full_more h h1 h3, full_more (h.perm p) h1 h3]
      have hp := atL_perm p i
      constructor
      · rintro ⟨r, e, hr⟩
        rw [e] at hp
        exact ⟨r, perm_singleton.1 hp.symm, hr⟩
      · rintro ⟨r, e, hr⟩
        rw [e] at hp
        exact ⟨r, perm_singleton.1 hp, hr⟩
  · rw [full_far h3, full_far h3]

/-! What is sorted. -/
theorem sorted_perm (xs : List Int) : sorted xs ~ xs := mergeSort_perm _ _
theorem sorted_up (xs : List Int) : (sorted xs).Pairwise (· ≤ ·) := by
  have := pairwise_mergeSort (le := fun x y : Int => decide (x ≤ y)) (by simp; omega) (by simp; omega) xs
  simpa [sorted] using this
theorem sorted_unique {xs ys : List Int} (p : ys ~ xs) (h : ys.Pairwise (· ≤ ·)) : ys = sorted xs :=
  Perm.eq_of_pairwise (fun _ _ _ _ h1 h2 => Int.le_antisymm h1 h2) h (sorted_up xs) (p.trans (sorted_perm xs).symm)
theorem sorted_of_perm {xs ys : List Int} (p : xs ~ ys) : sorted xs = sorted ys :=
  sorted_unique ((sorted_perm xs).trans p) (sorted_up xs)
theorem sorted_ne {xs : List Int} (h : xs ≠ []) : sorted xs ≠ [] := by
  intro e
  have := (sorted_perm xs).length_eq
  rw [e] at this
  exact h (length_eq_zero_iff.1 (by simpa using this.symm))

theorem both_split (l : List Ru) (i : Int) : both l i ~ (atL l i).map (·.f0) ++ (atL l (i + 1)).map (·.f0) := by
  unfold both atL
  rw [← map_append]
  apply Perm.map
  induction l with
  | nil => exact Perm.refl _
  | cons a l ih =>
    by_cases h1 : a.f1 = i
    · have h2 : ¬ a.f1 = i + 1 := by omega
      rw [filter_cons_of_pos (by simp [h1]), filter_cons_of_pos (by simpa using h1), filter_cons_of_neg (by simpa using h2)]
      exact Perm.cons _ ih
    · by_cases h2 : a.f1 = i + 1
      · rw [filter_cons_of_pos (by simp [h2]), filter_cons_of_neg (by simpa using h1), filter_cons_of_pos (by simpa using h2)]
        exact (Perm.cons _ ih).trans perm_middle.symm
      · rw [filter_cons_of_neg (by simp [h1, h2]), filter_cons_of_neg (by simpa using h1), filter_cons_of_neg (by simpa using h2)]
        exact ih
theorem both_perm {l m : List Ru} (p : l ~ m) (i : Int) : both l i ~ both m i := (p.filter _).map _
theorem mem_both {l : List Ru} {i x : Int} : x ∈ both l i ↔ ∃ r ∈ l, (r.f1 = i ∨ r.f1 = i + 1) ∧ r.f0 = x := by
  unfold both; simp [and_assoc]
theorem both_ne {l : List Ru} (h : Tree l) {i : Int} (h0 : 0 ≤ i) (hf : fullB l i = true) : both l i ≠ [] := by
  have : ∃ r, r ∈ atL l i := by
    rcases Int.lt_or_le i 3 with h3 | h3
    · rcases Int.lt_or_le i 1 with h1 | h1
      · obtain rfl : i = 0 := by omega
        rw [full_zero] at hf
        match hm : atL l 0 with
        | [] => rw [hm] at hf; simp at hf
        | a :: t => exact ⟨a, by simp⟩
      · obtain ⟨r, e, _⟩ := (full_more h h1 h3).1 hf
        exact ⟨r, by rw [e]; simp⟩
    · rw [full_far h3] at hf; cases hf
  obtain ⟨r, hr⟩ := this
  obtain ⟨h1, h2⟩ := mem_atL.1 hr
  intro e
  have : r.f0 ∈ both l i := mem_both.2 ⟨r, h1, .inl h2, rfl⟩
  rw [e] at this
  cases this

/-! The best stale run. -/
/-- b is ahead of r, or the same. -/
def ahead (b r : Ru) : Prop := b.f1 < r.f1 ∨ b.f1 = r.f1 ∧ b.f0 ≤ r.f0
structure IsBest (l : List Ru) (b : Ru) : Prop where
  least : ∀ r ∈ l, r.f3 = true → ahead b r
  from_ : b = ⟨0, 4, 0, false⟩ ∨ (b ∈ l ∧ b.f3 = true)
theorem ahead_trans {a b c : Ru} (h1 : ahead a b) (h2 : ahead b c) : ahead a c := by
  unfold ahead at *; omega
theorem ahead_refl (a : Ru) : ahead a a := by unfold ahead; omega
theorem best_from (l : List Ru) : ∀ b : Ru, ahead (l.foldl bst b) b ∧ (∀ r ∈ l, r.f3 = true → ahead (l.foldl bst b) r) ∧ (l.foldl bst b = b ∨ (l.foldl bst b ∈ l ∧ (l.foldl bst b).f3 = true)) := by
  induction l with
  | nil => intro b; exact ⟨ahead_refl b, by simp, .inl rfl⟩
  | cons a l ih =>
    intro b
    obtain ⟨h1, h2, h3⟩ := ih (bst b a)
    rw [foldl_cons]
    have hb : ahead (bst b a) b ∧ (a.f3 = true → ahead (bst b a) a) ∧ (bst b a = b ∨ (bst b a = a ∧ a.f3 = true)) := by
      unfold bst ahead
      split
      · rename_i h; exact ⟨by omega, fun _ => by omega, .inr ⟨rfl, h.1⟩⟩
      · rename_i h
        refine ⟨by omega, fun hs => ?_, .inl rfl⟩
        have : ¬ (a.f1 < b.f1 ∨ a.f1 = b.f1 ∧ a.f0 < b.f0) := fun e => h ⟨hs, e⟩
        omega
    refine ⟨ahead_trans h1 hb.1, fun r hr hs => ?_, ?_⟩
    · rcases mem_cons.1 hr with rfl | hr
      · exact ahead_trans h1 (hb.2.1 hs)
      · exact h2 r hr hs
    · rcases h3 with h3 | h3
      · rcases hb.2.2 with e | e
        · exact .inl (h3.trans e)
        · refine .inr ⟨?_, ?_⟩
          · rw [h3, e.1]; simp
          · rw [h3, e.1]; exact e.2
      · exact .inr ⟨mem_cons_of_mem _ h3.1, h3.2⟩
theorem best_is (l : List Ru) : IsBest l (best l) := by
  obtain ⟨_, h2, h3⟩ := best_from l ⟨0, 4, 0, false⟩
  exact ⟨h2, h3⟩
theorem best_unique {l : List Ru} (h : Tree l) {a b : Ru} (ha : IsBest l a) (hb : IsBest l b) : a = b := by
  rcases ha.from_ with ea | ⟨ma, sa⟩ <;> rcases hb.from_ with eb | ⟨mb, sb⟩
  · rw [ea, eb]
  · exfalso
    have h1 := ha.least b mb sb
    have := (h.good b mb).2.2.1
    rw [ea] at h1
    unfold ahead at h1
    simp at h1
    omega
  · exfalso
    have h1 := hb.least a ma sa
    have := (h.good a ma).2.2.1
    rw [eb] at h1
    unfold ahead at h1
    simp at h1
    omega
  · have h1 := ha.least b mb sb
    have h2 := hb.least a ma sa
    unfold ahead at h1 h2
    exact h.inj ma mb (by omega)
theorem IsBest.perm {l m : List Ru} {b : Ru} (h : IsBest l b) (p : l ~ m) : IsBest m b :=
  ⟨fun r hr => h.least r (p.mem_iff.2 hr), h.from_.imp_right fun ⟨h1, h2⟩ => ⟨p.mem_iff.1 h1, h2⟩⟩
theorem best_perm {l m : List Ru} (h : Tree l) (p : l ~ m) : best l = best m := best_unique h (best_is l) ((best_is m).perm p.symm)
theorem best_zero {l : List Ru} (h : Tree l) : (best l).f0 = 0 ↔ ∀ r ∈ l, r.f3 = false := by
  rcases (best_is l).from_ with e | ⟨m, s⟩
  · refine ⟨fun _ r hr => ?_, fun _ => by rw [e]⟩
    cases hs : r.f3 with
    | false => rfl
    | true =>
      have h1 := (best_is l).least r hr hs
      have := (h.good r hr).2.2.1
      rw [e] at h1
      unfold ahead at h1
      simp at h1
      omega
  · refine ⟨fun e => ?_, fun hn => ?_⟩
    · have := (h.good _ m).1; omega
    · rw [hn _ m] at s; cases s

/-! What is offered. -/
theorem phase_cases {l : List Ru} (h : Tree l) : ((∀ i : Int, 0 ≤ i → fullB l i = false) ∧ phase1 l = ([], 0)) ∨ ∃ i : Int, 0 ≤ i ∧ i < 3 ∧ fullB l i = true ∧ (∀ j : Int, 0 ≤ j → j < i → fullB l j = false) ∧ phase1 l = (both l i, i + 1) ∧ both l i ≠ [] := by
  unfold phase1 fullAt
  cases h0 : fullB l 0 with
  | true => exact .inr ⟨0, by omega, by omega, h0, fun j _ _ => by omega, by simp, both_ne h (by omega) h0⟩
  | false =>
    cases h1 : fullB l 1 with
    | true => exact .inr ⟨1, by omega, by omega, h1, fun j _ _ => by obtain rfl : j = 0 := by omega
                                                                     exact h0, by simp, both_ne h (by omega) h1⟩
    | false =>
      cases h2 : fullB l 2 with
      | true => exact .inr ⟨2, by omega, by omega, h2, fun j _ _ => by
                  have : j = 0 ∨ j = 1 := by omega
                  rcases this with rfl | rfl
                  · exact h0
                  · exact h1, by simp, both_ne h (by omega) h2⟩
      | false =>
        refine .inl ⟨fun i hi => ?_, by simp⟩
        rcases Int.lt_or_le i 3 with h3 | h3
        · have : i = 0 ∨ i = 1 ∨ i = 2 := by omega
          rcases this with rfl | rfl | rfl
          · exact h0
          · exact h1
          · exact h2
        · exact full_far h3
theorem offer_not {l : List Ru} (h : ¬ Tree l) : offerB l = ([], 0, false, 1) := by
  unfold offerB; rw [if_pos ((right_false l).2 h)]
theorem offer_full {l : List Ru} (h : Tree l) {i : Int} (h0 : 0 ≤ i) (hf : fullB l i = true) (hn : ∀ j : Int, 0 ≤ j → j < i → fullB l j = false) : offerB l = (sorted (both l i), i + 1, true, 0) := by
  unfold offerB
  rw [if_neg (by rw [(right_iff l).2 h]; decide)]
  rcases phase_cases h with ⟨hno, _⟩ | ⟨i', h0', _, hf', hn', hp, hne⟩
  · rw [hno i h0] at hf; cases hf
  · have : i' = i := by
      rcases Int.lt_trichotomy i' i with hl | hl | hl
      · rw [hn i' h0' hl] at hf'; cases hf'
      · exact hl
      · rw [hn' i h0 hl] at hf; cases hf
    subst this
    rw [hp, if_pos hne]
theorem offer_none {l : List Ru} (h : Tree l) (hf : ∀ i : Int, 0 ≤ i → fullB l i = false) : offerB l = if (best l).f0 = 0 then ([], 0, false, 0) else ([(best l).f0], (best l).f1, true, 0) := by
  unfold offerB
  rw [if_neg (by rw [(right_iff l).2 h]; decide)]
  rcases phase_cases h with ⟨_, hp⟩ | ⟨i', h0', _, hf', _⟩
  · rw [hp, if_neg (by simp)]
  · rw [hf i' h0'] at hf'; cases hf'
theorem offer_perm {l m : List Ru} (h : Tree l) (p : l ~ m) : offerB l = offerB m := by
  rcases phase_cases h with ⟨hno, _⟩ | ⟨i, h0, _, hf, hn, _⟩
  · rw [offer_none h hno, offer_none (h.perm p) (fun i hi => by rw [← full_perm h p i hi]; exact hno i hi), best_perm h p]
  · rw [offer_full h h0 hf hn, offer_full (h.perm p) h0 (by rw [← full_perm h p i h0]; exact hf) (fun j hj hj' => by rw [← full_perm h p j hj]; exact hn j hj hj'), sorted_of_perm (both_perm p i)]
end Go.Proofs.Ytnbbejhbnajdbaa.PickP
