/- Layer grain in plain numbers: what right rules are, what a time's step and bucket are, and what follows: nested, as a whole, never finer. No program in sight. -/
import Init
namespace Go.Proofs.Ytkbjgkkdmimmnaa.GrainM

def T : Int := 1099511627776
def isT (t : Int) : Prop := 0 ≤ t ∧ t ≤ 1099511627776
instance (t : Int) : Decidable (isT t) := by unfold isT; infer_instance

/-- Rules that are right: n steps, their sizes and ages, and how long is kept. -/
structure Rt (n : Nat) (sz ag : Nat → Int) (keep : Int) : Prop where
  one : 1 ≤ n
  four : n ≤ 4
  first : ag 0 = 0
  size : ∀ i, i < n → 1 ≤ sz i ∧ sz i ≤ 1099511627776
  age : ∀ i, i < n → 0 ≤ ag i ∧ ag i ≤ 1099511627776
  up : ∀ i, i + 1 < n → sz i < sz (i + 1) ∧ sz (i + 1) % sz i = 0 ∧ ag i ≤ ag (i + 1)
  kept : ag (n - 1) ≤ keep
  most : keep ≤ 2199023255552

/-- Where a bucket ends. -/
def en (t s : Int) : Int := t - t % s + s
/-- Is the bucket of a step old enough? -/
def old (sz ag : Nat → Int) (t w : Int) (i : Nat) : Prop := en t (sz i) ≤ w - ag i
/-- s is the step of a time at a watermark. -/
structure IsStep (n : Nat) (sz ag : Nat → Int) (t w : Int) (s : Nat) : Prop where
  lt : s < n
  below : ∀ i, 0 < i → i ≤ s → old sz ag t w i
  above : s + 1 < n → ¬ old sz ag t w (s + 1)

theorem en_mul (t s : Int) : en t s = s * (t / s + 1) := by
  unfold en
  have h := Int.emod_add_mul_ediv t s
  rw [Int.mul_add, Int.mul_one]
  omega
theorem fl_mul (t s : Int) : t - t % s = s * (t / s) := by
  have h := Int.emod_add_mul_ediv t s
  omega
theorem lt_en {t s : Int} (hs : 1 ≤ s) : t < en t s := by
  unfold en
  have := Int.emod_lt_of_pos t (show 0 < s by omega)
  omega
theorem fl_le {t s : Int} (hs : 1 ≤ s) : t - t % s ≤ t := by
  have := Int.emod_nonneg t (show s ≠ 0 by omega)
  omega
theorem fl_nonneg {t s : Int} (ht : 0 ≤ t) (hs : 1 ≤ s) : 0 ≤ t - t % s := by
  rw [fl_mul]
  exact Int.mul_nonneg (by omega) (Int.ediv_nonneg ht (by omega))
theorem en_le {t s : Int} (hs : 1 ≤ s) : en t s ≤ t + s := by
  have := fl_le (t := t) hs
  unfold en; omega

theorem dvd_of {a b : Int} (h : b % a = 0) : ∃ m, b = a * m := ⟨b / a, by have := Int.emod_add_mul_ediv b a; rw [h] at this; omega⟩

/-- A bucket lies within the coarser one. -/
theorem nest {t s s' : Int} (hs : 1 ≤ s) (hs' : 1 ≤ s') (hd : s' % s = 0) : t - t % s' ≤ t - t % s ∧ en t s ≤ en t s' := by
  obtain ⟨m, rfl⟩ := dvd_of hd
  have hm : 0 < m := by
    rcases Int.lt_or_le 0 m with h | h
    · exact h
    · exfalso
      have : s * m ≤ 0 := Int.mul_nonpos_of_nonneg_of_nonpos (by omega) h
      omega
  have e : t / (s * m) = t / s / m := (Int.ediv_ediv_of_nonneg (x := t) (y := s) (by omega : (0 : Int) ≤ s)).symm
  have h1 : t / s / m * m ≤ t / s := Int.ediv_mul_le _ (by omega)
  have h2 : t / s < (t / s / m + 1) * m := Int.lt_ediv_add_one_mul_self _ hm
  constructor
  · rw [fl_mul, fl_mul, e, Int.mul_assoc]
    apply Int.mul_le_mul_of_nonneg_left _ (by omega : (0 : Int) ≤ s)
    rw [Int.mul_comm]; exact h1
  · rw [en_mul, en_mul, e, Int.mul_assoc]
    apply Int.mul_le_mul_of_nonneg_left _ (by omega : (0 : Int) ≤ s)
    rw [Int.mul_comm]; omega

/-- Times in one bucket are in one coarser bucket. -/
theorem same_up {t u s s' : Int} (hs : 1 ≤ s) (hs' : 1 ≤ s') (hd : s' % s = 0) (h : t - t % s = u - u % s) : t - t % s' = u - u % s' := by
  obtain ⟨m, rfl⟩ := dvd_of hd
  rw [fl_mul, fl_mul] at h ⊢
  have hq : t / s = u / s := Int.eq_of_mul_eq_mul_left (show s ≠ 0 by omega) h
  rw [← Int.ediv_ediv_of_nonneg (x := t) (y := s) (by omega : (0 : Int) ≤ s), ← Int.ediv_ediv_of_nonneg (x := u) (y := s) (by omega : (0 : Int) ≤ s), hq]
theorem en_same {t u s : Int} (h : t - t % s = u - u % s) : en t s = en u s := by unfold en; omega

/-- Who lies in a bucket has its beginning. -/
theorem within {t u s : Int} (hs : 1 ≤ s) (h0 : t - t % s ≤ u) (h1 : u < en t s) : u - u % s = t - t % s := by
  rw [fl_mul] at h0 ⊢
  rw [en_mul] at h1
  rw [fl_mul]
  have hq : u / s = t / s := by
    apply Int.le_antisymm
    · have : u / s < t / s + 1 := Int.ediv_lt_of_lt_mul (by omega) (by rw [Int.mul_comm]; exact h1)
      omega
    · exact (Int.le_ediv_iff_mul_le (by omega)).2 (by rw [Int.mul_comm]; exact h0)
  rw [hq]

section
variable {n : Nat} {sz ag : Nat → Int} {keep : Int}

theorem Rt.mod (R : Rt n sz ag keep) {i j : Nat} (hij : i ≤ j) (hj : j < n) : sz j % sz i = 0 := by
  induction j with
  | zero => obtain rfl : i = 0 := by omega
            exact Int.emod_self
  | succ j ih =>
    rcases Nat.lt_or_ge i (j + 1) with h | h
    · obtain ⟨a, ha⟩ := dvd_of (ih (by omega) (by omega))
      obtain ⟨b, hb⟩ := dvd_of (R.up j hj).2.1
      rw [hb, ha, Int.mul_assoc]
      exact Int.mul_emod_right _ _
    · obtain rfl : i = j + 1 := by omega
      exact Int.emod_self
theorem Rt.ages (R : Rt n sz ag keep) {i j : Nat} (hij : i ≤ j) (hj : j < n) : ag i ≤ ag j := by
  induction j with
  | zero => obtain rfl : i = 0 := by omega
            exact Int.le_refl _
  | succ j ih =>
    rcases Nat.lt_or_ge i (j + 1) with h | h
    · have := ih (by omega) (by omega)
      have := (R.up j hj).2.2
      omega
    · obtain rfl : i = j + 1 := by omega
      exact Int.le_refl _
theorem Rt.old_down (R : Rt n sz ag keep) {t w : Int} {i j : Nat} (hij : i ≤ j) (hj : j < n) (h : old sz ag t w j) : old sz ag t w i := by
  unfold old at h ⊢
  have := (nest (t := t) (R.size i (by omega)).1 (R.size j hj).1 (R.mod hij hj)).2
  have := R.ages hij hj
  omega
theorem old_later {t w w' : Int} {i : Nat} (h : old sz ag t w i) (hw : w ≤ w') : old sz ag t w' i := by
  unfold old at h ⊢; omega

theorem Rt.step_of (R : Rt n sz ag keep) {t w : Int} {s i : Nat} (S : IsStep n sz ag t w s) (h0 : 0 < i) (hi : i < n) : old sz ag t w i ↔ i ≤ s := by
  constructor
  · intro h
    rcases Nat.lt_or_ge s i with hlt | hge
    · exact absurd (R.old_down hlt hi h) (S.above (by omega))
    · exact hge
  · exact S.below i h0
theorem Rt.step_unique (R : Rt n sz ag keep) {t w : Int} {s s' : Nat} (S : IsStep n sz ag t w s) (S' : IsStep n sz ag t w s') : s = s' := by
  rcases Nat.lt_trichotomy s s' with h | h | h
  · have := (R.step_of S (i := s') (by omega) S'.lt).1 (S'.below s' (by omega) (Nat.le_refl _)); omega
  · exact h
  · have := (R.step_of S' (i := s) (by omega) S.lt).1 (S.below s (by omega) (Nat.le_refl _)); omega
theorem Rt.step_ex (R : Rt n sz ag keep) (t w : Int) : ∃ s, IsStep n sz ag t w s := by
  have key : ∀ m, m < n → (∀ i, 0 < i → i ≤ m → old sz ag t w i) → ∃ s, IsStep n sz ag t w s := by
    intro m hm
    induction hd : n - m generalizing m with
    | zero => omega
    | succ d ih =>
      intro h
      by_cases hn : m + 1 < n
      · by_cases ho : old sz ag t w (m + 1)
        · refine ih (m + 1) hn (by omega) (fun i h0 hi => ?_)
          rcases Nat.lt_or_ge i (m + 1) with hlt | hge
          · exact h i h0 (by omega)
          · obtain rfl : i = m + 1 := by omega
            exact ho
        · exact ⟨m, hm, h, fun _ => ho⟩
      · exact ⟨m, hm, h, fun hc => absurd hc hn⟩
  exact key 0 R.one (fun i h0 hi => by omega)

/-- NEVER FINER. -/
theorem Rt.never (R : Rt n sz ag keep) {t w w' : Int} {a b : Nat} (A : IsStep n sz ag t w a) (B : IsStep n sz ag t w' b) (hw : w ≤ w') : a ≤ b := by
  rcases Nat.eq_zero_or_pos a with h | h
  · omega
  · exact (R.step_of B h A.lt).1 (old_later (A.below a h (Nat.le_refl _)) hw)
/-- What is expired has the last step. -/
theorem Rt.gone_last (R : Rt n sz ag keep) {t w : Int} {a : Nat} (A : IsStep n sz ag t w a) (h : en t (sz (n - 1)) ≤ w - keep) : a = n - 1 := by
  have := R.one
  rcases Nat.eq_zero_or_pos (n - 1) with h1 | h1
  · have := A.lt; omega
  · have ho : old sz ag t w (n - 1) := by unfold old; have := R.kept; omega
    have := (R.step_of A h1 (by omega)).1 ho
    have := A.lt
    omega
/-- Times in one bucket of a step have, from that step on, one step and one bucket. -/
theorem Rt.together (R : Rt n sz ag keep) {t u w w' : Int} {i a b : Nat} (hi : IsStep n sz ag t w i) (hk : IsStep n sz ag u w i) (hb : t - t % sz i = u - u % sz i) (hw : w ≤ w')
    (A : IsStep n sz ag t w' a) (B : IsStep n sz ag u w' b) : a = b ∧ t - t % sz a = u - u % sz a := by
  have hia := R.never hi A hw
  have hib := R.never hk B hw
  have hs : ∀ j, i ≤ j → j < n → t - t % sz j = u - u % sz j := fun j hij hj => same_up (R.size i hi.lt).1 (R.size j hj).1 (R.mod hij hj) hb
  have hold : ∀ j, i ≤ j → j < n → (old sz ag t w' j ↔ old sz ag u w' j) := fun j hij hj => by
    unfold old; rw [en_same (hs j hij hj)]
  have hab : a = b := by
    rcases Nat.lt_trichotomy a b with h | h | h
    · have := (R.step_of A (i := b) (by omega) B.lt).1 ((hold b hib B.lt).2 (B.below b (by omega) (Nat.le_refl _))); omega
    · exact h
    · have := (R.step_of B (i := a) (by omega) A.lt).1 ((hold a hia A.lt).1 (A.below a (by omega) (Nat.le_refl _))); omega
  exact ⟨hab, hs a hia A.lt⟩
/-- AS A WHOLE. -/
theorem Rt.whole (R : Rt n sz ag keep) {t u w : Int} {s : Nat} (S : IsStep n sz ag t w s) (h0 : t - t % sz s ≤ u) (h1 : u < en t (sz s)) :
    IsStep n sz ag u w s ∧ u - u % sz s = t - t % sz s ∧ (en u (sz (n - 1)) = en t (sz (n - 1))) := by
  have hb := within (R.size s S.lt).1 h0 h1
  have hs : ∀ j, s ≤ j → j < n → u - u % sz j = t - t % sz j := fun j hij hj => same_up (R.size s S.lt).1 (R.size j hj).1 (R.mod hij hj) hb
  refine ⟨⟨S.lt, fun i hi his => ?_, fun hn ho => S.above hn ?_⟩, hb, en_same (hs _ (by have := S.lt; omega) (by have := S.lt; omega))⟩
  · rcases Nat.eq_zero_or_pos s with hz | hz
    · omega
    · have : old sz ag u w s := by
        have := S.below s hz (Nat.le_refl _)
        unfold old at this ⊢
        rwa [en_same hb]
      exact R.old_down his S.lt this
  · unfold old at ho ⊢
    rwa [en_same (hs (s + 1) (by omega) hn)] at ho
end
end Go.Proofs.Ytkbjgkkdmimmnaa.GrainM
