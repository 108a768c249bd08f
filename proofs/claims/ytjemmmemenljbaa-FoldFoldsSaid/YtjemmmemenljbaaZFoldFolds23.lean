import Derived.Test.YtjemmmemenljbaaZFoldFolds22
import Init
section
namespace Go.Proofs.Ytjemmmemenljbaa.PFold
open Go.RowKit Go.Proofs.YtjemmmemenljbaaW.PrintWords Go.Proofs.YtjemmmemenljbaaW.PrintLast Go.Proofs.YtjemmmemenljbaaW.PrintMore
attribute [local go_sem] max2_int min2_int max_two min_two max_three min_three max_four min_four   -- for this text's walks alone
set_option linter.unusedVariables false
set_option linter.unusedSimpArgs false
set_option maxHeartbeats 8000000
set_option maxRecDepth 100000
def rickyardlaw15_FoldFolds.Pure : Prop := ∀ (l0_0 : List (S67)) (a0_1 : Int) (a1 : Int) (l2 : List (S51)), (l0_0.length * 16 ≤ 140737488351232 ∧ ∀ z4 ∈ l0_0, wfS67 z4) → (Lit.int .i64 a0_1).wf = true → (Lit.int .i64 a1).wf = true → (l2.length * 72 ≤ 140737488351232 ∧ ∀ z2 ∈ l2, wfS51 z2) → ∃ k, rickyardlaw15_FoldFolds.f k l0_0 a0_1 a1 l2 = some true
end Go.Proofs.Ytjemmmemenljbaa.PFold
end
section
namespace Go.Proofs.Ytjemmmemenljbaa.GrainM
set_option linter.unusedVariables false
set_option linter.unusedSimpArgs false
set_option maxHeartbeats 8000000
set_option maxRecDepth 100000
def T : Int := 1099511627776
def isT (t : Int) : Prop := 0 ≤ t ∧ t ≤ 1099511627776
instance (t : Int) : Decidable (isT t) := by unfold isT; infer_instance
structure Rt (n : Nat) (sz ag : Nat → Int) (keep : Int) : Prop where
  one : 1 ≤ n
  four : n ≤ 4
  first : ag 0 = 0
  size : ∀ i, i < n → 1 ≤ sz i ∧ sz i ≤ 1099511627776
  age : ∀ i, i < n → 0 ≤ ag i ∧ ag i ≤ 1099511627776
  up : ∀ i, i + 1 < n → sz i < sz (i + 1) ∧ sz (i + 1) % sz i = 0 ∧ ag i ≤ ag (i + 1)
  kept : ag (n - 1) ≤ keep
  most : keep ≤ 2199023255552
def en (t s : Int) : Int := t - t % s + s
def old (sz ag : Nat → Int) (t w : Int) (i : Nat) : Prop := en t (sz i) ≤ w - ag i
structure IsStep (n : Nat) (sz ag : Nat → Int) (t w : Int) (s : Nat) : Prop where
  lt : s < n
  below : ∀ i, 0 < i → i ≤ s → old sz ag t w i
  above : s + 1 < n → ¬ old sz ag t w (s + 1)
theorem en_mul (t s : Int) : en t s = s * (t / s + 1) := by
  unfold en
  have h := Int.emod_add_mul_ediv t s
  rw [Int.mul_add, Int.mul_one]
  omega
theorem fl_mul (t s : Int) : t - t % s = s * (t / s) := by
  have h := Int.emod_add_mul_ediv t s
  omega
theorem fl_le {t s : Int} (hs : 1 ≤ s) : t - t % s ≤ t := by
  have := Int.emod_nonneg t (show s ≠ 0 by omega)
  omega
theorem fl_nonneg {t s : Int} (ht : 0 ≤ t) (hs : 1 ≤ s) : 0 ≤ t - t % s := by
  rw [fl_mul]
  exact Int.mul_nonneg (by omega) (Int.ediv_nonneg ht (by omega))
theorem dvd_of {a b : Int} (h : b % a = 0) : ∃ m, b = a * m := ⟨b / a, by have := Int.emod_add_mul_ediv b a; rw [h] at this; omega⟩
theorem nest {t s s' : Int} (hs : 1 ≤ s) (hs' : 1 ≤ s') (hd : s' % s = 0) : t - t % s' ≤ t - t % s ∧ en t s ≤ en t s' := by
  obtain ⟨m, rfl⟩ := dvd_of hd
  have hm : 0 < m := by
    rcases Int.lt_or_le 0 m with h | h
    · exact h
    · exfalso
      have : s * m ≤ 0 := Int.mul_nonpos_of_nonneg_of_nonpos (by omega) h
      omega
  have e : t / (s * m) = t / s / m := (Int.ediv_ediv_of_nonneg (x := t) (y := s) (by omega : (0 : Int) ≤ s)).symm
  have h1 : t / s / m * m ≤ t / s := Int.ediv_mul_le _ (by omega)
  have h2 : t / s < (t / s / m + 1) * m := Int.lt_ediv_add_one_mul_self _ hm
  constructor
  · rw [fl_mul, fl_mul, e, Int.mul_assoc]
    apply Int.mul_le_mul_of_nonneg_left _ (by omega : (0 : Int) ≤ s)
    rw [Int.mul_comm]; exact h1
  · rw [en_mul, en_mul, e, Int.mul_assoc]
    apply Int.mul_le_mul_of_nonneg_left _ (by omega : (0 : Int) ≤ s)
    rw [Int.mul_comm]; omega
section
variable {n : Nat} {sz ag : Nat → Int} {keep : Int}
theorem Rt.mod (R : Rt n sz ag keep) {i j : Nat} (hij : i ≤ j) (hj : j < n) : sz j % sz i = 0 := by
  induction j with
  | zero => obtain rfl : i = 0 := by omega
            exact Int.emod_self
  | succ j ih =>
    rcases Nat.lt_or_ge i (j + 1) with h | h
    · obtain ⟨a, ha⟩ := dvd_of (ih (by omega) (by omega))
      obtain ⟨b, hb⟩ := dvd_of (R.up j hj).2.1
      rw [hb, ha, Int.mul_assoc]
      exact Int.mul_emod_right _ _
    · obtain rfl : i = j + 1 := by omega
      exact Int.emod_self
theorem Rt.ages (R : Rt n sz ag keep) {i j : Nat} (hij : i ≤ j) (hj : j < n) : ag i ≤ ag j := by
  induction j with
  | zero => obtain rfl : i = 0 := by omega
            exact Int.le_refl _
  | succ j ih =>
    rcases Nat.lt_or_ge i (j + 1) with h | h
    · have := ih (by omega) (by omega)
      have := (R.up j hj).2.2
      omega
    · obtain rfl : i = j + 1 := by omega
      exact Int.le_refl _
theorem Rt.old_down (R : Rt n sz ag keep) {t w : Int} {i j : Nat} (hij : i ≤ j) (hj : j < n) (h : old sz ag t w j) : old sz ag t w i := by
  unfold old at h ⊢
  have := (nest (t := t) (R.size i (by omega)).1 (R.size j hj).1 (R.mod hij hj)).2
  have := R.ages hij hj
  omega
theorem Rt.step_of (R : Rt n sz ag keep) {t w : Int} {s i : Nat} (S : IsStep n sz ag t w s) (h0 : 0 < i) (hi : i < n) : old sz ag t w i ↔ i ≤ s := by
  constructor
  · intro h
    rcases Nat.lt_or_ge s i with hlt | hge
    · exact absurd (R.old_down hlt hi h) (S.above (by omega))
    · exact hge
  · exact S.below i h0
theorem Rt.step_unique (R : Rt n sz ag keep) {t w : Int} {s s' : Nat} (S : IsStep n sz ag t w s) (S' : IsStep n sz ag t w s') : s = s' := by
  rcases Nat.lt_trichotomy s s' with h | h | h
  · have := (R.step_of S (i := s') (by omega) S'.lt).1 (S'.below s' (by omega) (Nat.le_refl _)); omega
  · exact h
  · have := (R.step_of S' (i := s) (by omega) S.lt).1 (S.below s (by omega) (Nat.le_refl _)); omega
theorem Rt.step_ex (R : Rt n sz ag keep) (t w : Int) : ∃ s, IsStep n sz ag t w s := by
  have key : ∀ m, m < n → (∀ i, 0 < i → i ≤ m → old sz ag t w i) → ∃ s, IsStep n sz ag t w s := by
    intro m hm
    induction hd : n - m generalizing m with
    | zero => omega
    | succ d ih =>
      intro h
      by_cases hn : m + 1 < n
      · by_cases ho : old sz ag t w (m + 1)
        · refine ih (m + 1) hn (by omega) (fun i h0 hi => ?_)
          rcases Nat.lt_or_ge i (m + 1) with hlt | hge
          · exact h i h0 (by omega)
          · obtain rfl : i = m + 1 := by omega
            exact ho
        · exact ⟨m, hm, h, fun _ => ho⟩
      · exact ⟨m, hm, h, fun hc => absurd hc hn⟩
  exact key 0 R.one (fun i h0 hi => by omega)
end
end Go.Proofs.Ytjemmmemenljbaa.GrainM
end
section
namespace Go.Proofs.Ytjemmmemenljbaa.GrainL
open Go.RowKit Go.Proofs.YtjemmmemenljbaaW.PrintWords Go.Proofs.YtjemmmemenljbaaW.PrintLast Go.Proofs.Ytjemmmemenljbaa.PFold Go.Proofs.Ytjemmmemenljbaa.GrainM
set_option linter.unusedVariables false
set_option linter.unusedSimpArgs false
set_option maxHeartbeats 8000000
set_option maxRecDepth 100000
abbrev Gr := S67
def sz (gs : List Gr) (i : Nat) : Int := (rd_T67 gs (i : Int)).f0
def ag (gs : List Gr) (i : Nat) : Int := (rd_T67 gs (i : Int)).f1
def Rgt (gs : List Gr) (keep : Int) : Prop := Rt gs.length (sz gs) (ag gs) keep
theorem w64 {x : Int} (h0 : -9223372036854775808 ≤ x) (h1 : x ≤ 9223372036854775807) : wrap64 x = x := by unfold wrap64; omega
theorem tmod_emod {a b : Int} (h : 0 ≤ a) : Int.tmod a b = a % b := Int.tmod_eq_emod_of_nonneg h
def good (gs : List Gr) (i : Nat) : Prop := 1 ≤ sz gs i ∧ sz gs i ≤ 1099511627776 ∧ ag gs i ≤ 1099511627776 ∧ (0 < i → sz gs (i - 1) < sz gs i ∧ Int.tmod (sz gs i) (sz gs (i - 1)) = 0 ∧ ag gs (i - 1) ≤ ag gs i)
def goods (gs : List Gr) (keep : Int) (n i : Nat) : Prop := (∀ j, i ≤ j → j < n → good gs j) ∧ ag gs (n - 1) ≤ keep ∧ keep ≤ 2199023255552
theorem rgt_iff {gs : List Gr} {keep : Int} : Rgt gs keep ↔ 1 ≤ gs.length ∧ gs.length ≤ 4 ∧ ag gs 0 = 0 ∧ goods gs keep gs.length 0 := by
  unfold goods
  constructor
  · intro R
    refine ⟨R.one, R.four, R.first, fun j _ hj => ?_, R.kept, R.most⟩
    have hs := R.size j hj
    refine ⟨hs.1, hs.2, (R.age j hj).2, fun h0 => ?_⟩
    have hu := R.up (j - 1) (by omega)
    rw [show j - 1 + 1 = j from by omega] at hu
    exact ⟨hu.1, by rw [tmod_emod (by omega)]; exact hu.2.1, hu.2.2⟩
  · rintro ⟨h1, h4, h0, hg, hk, hm⟩
    have hages : ∀ i, i < gs.length → 0 ≤ ag gs i := by
      intro i
      induction i with
      | zero => intro _; omega
      | succ i ih =>
        intro hi
        have := ((hg (i + 1) (by omega) hi).2.2.2 (by omega)).2.2
        have := ih (by omega)
        simp only [Nat.add_sub_cancel] at *
        omega
    refine ⟨h1, h4, h0, fun i hi => ⟨(hg i (by omega) hi).1, (hg i (by omega) hi).2.1⟩, fun i hi => ⟨hages i hi, (hg i (by omega) hi).2.2.1⟩, fun i hi => ?_, hk, hm⟩
    obtain ⟨a, b, c⟩ := (hg (i + 1) (by omega) hi).2.2.2 (by omega)
    simp only [Nat.add_sub_cancel] at a b c
    refine ⟨a, ?_, c⟩
    rw [← tmod_emod (by have := (hg (i + 1) (by omega) hi).1; omega)]
    exact b
theorem stepR_good {gs : List Gr} {i : Nat} : stepR gs i = true ↔ good gs i := by
  unfold stepR good
  show (decide (1 ≤ sz gs i) && (decide (sz gs i ≤ 1099511627776) && (decide (ag gs i ≤ 1099511627776) && (decide (i = 0) || (decide (sz gs (i - 1) < sz gs i) && (decide (Int.tmod (sz gs i) (sz gs (i - 1)) = 0) && decide (ag gs (i - 1) ≤ ag gs i))))))) = true ↔ _
  simp only [Bool.and_eq_true, Bool.or_eq_true, decide_eq_true_eq]
  constructor
  · rintro ⟨h1, h2, h3, h4⟩
    refine ⟨h1, h2, h3, fun h0 => ?_⟩
    rcases h4 with h4 | h4
    · omega
    · exact h4
  · rintro ⟨h1, h2, h3, h4⟩
    refine ⟨h1, h2, h3, ?_⟩
    rcases Nat.eq_zero_or_pos i with h | h
    · exact .inl h
    · exact .inr (h4 h)
theorem rightR_iff {gs : List Gr} {keep : Int} : rightR gs keep = true ↔ Rgt gs keep := by
  rw [rgt_iff]
  unfold rightR goods
  show (decide (1 ≤ gs.length) && (decide (gs.length ≤ 4) && (decide (ag gs 0 = 0) && ((List.range gs.length).all (stepR gs) && (decide (ag gs (gs.length - 1) ≤ keep) && decide (keep ≤ 2199023255552)))))) = true ↔ _
  simp only [Bool.and_eq_true, decide_eq_true_eq, List.all_eq_true, List.mem_range]
  constructor
  · rintro ⟨h1, h2, h3, h4, h5, h6⟩
    exact ⟨h1, h2, h3, fun j _ hj => stepR_good.1 (h4 j hj), h5, h6⟩
  · rintro ⟨h1, h2, h3, h4, h5, h6⟩
    exact ⟨h1, h2, h3, fun j hj => stepR_good.2 (h4 j (Nat.zero_le _) hj), h5, h6⟩
open Classical in
theorem right_tells (gs : List Gr) (keep : Int) : Ev (fun k => grain_Right.f k gs keep) (decide (Rgt gs keep)) := by
  have e : rightR gs keep = decide (Rgt gs keep) := by rw [Bool.eq_iff_iff, rightR_iff, decide_eq_true_iff]
  rw [← e]
  exact Ev.now _
theorem isTime_tells (t : Int) : grain_isTime.f t = some (decide (isT t)) := by
  have e : isT t ↔ (t ≥ 0 ∧ t ≤ 1099511627776) := Iff.rfl
  unfold grain_isTime.f
  by_cases h : t ≥ 0 <;> by_cases h' : t ≤ 1099511627776 <;> simp [h, h', e]
open Classical in
noncomputable def fitE (gs : List Gr) (keep t w : Int) : Int := if Rgt gs keep then (if isT t ∧ isT w then 0 else 1) else 30
theorem fits_tells (gs : List Gr) (keep t w : Int) : Ev (fun k => grain_fits.f k gs keep t w) (fitE gs keep t w) := by
  unfold grain_fits.f fitE
  refine Ev.bind (right_tells gs keep) ?_
  by_cases hR : Rgt gs keep
  · simp only [hR, decide_true, if_true, isTime_tells, Option.bind_some]
    by_cases h1 : isT t <;> by_cases h2 : isT w <;> simp [h1, h2] <;> exact Ev.now _
  · simp [hR]; exact Ev.now _
theorem fitE_zero {gs : List Gr} {keep t w : Int} : fitE gs keep t w = 0 ↔ Rgt gs keep ∧ isT t ∧ isT w := by
  unfold fitE
  by_cases h : Rgt gs keep <;> by_cases h2 : isT t ∧ isT w <;> simp [h, h2]
theorem end_tells {t s : Int} (ht : isT t) (h1 : 1 ≤ s) (h2 : s ≤ 1099511627776) : grain_end.f t s = some (en t s) := by
  unfold grain_end.f en
  obtain ⟨h3, h4⟩ := ht
  have h5 := Int.emod_nonneg t (show s ≠ 0 by omega)
  have h6 := Int.emod_lt_of_pos t (show 0 < s by omega)
  rw [if_neg (by omega), tmod_emod h3, w64 (x := t - t % s) (by omega) (by omega), w64 (by omega) (by omega)]
theorem step_from {gs : List Gr} {keep t w : Int} (R : Rgt gs keep) (ht : isT t) (hw : isT w) (d : Nat) : ∀ (i s k : Nat), gs.length - i = d → i ≤ gs.length → s + 1 = i →
    (∀ j, 0 < j → j ≤ s → old (sz gs) (ag gs) t w j) → ∃ r : Nat, grain_Step.l0 (k + d + 1) t w s gs.length i gs keep = some ((r : Int), 0) ∧ IsStep gs.length (sz gs) (ag gs) t w r := by
  have h4 := R.four
  induction d with
  | zero =>
    intro i s k hd hi hs ho
    refine ⟨s, ?_, by omega, ho, fun hc => by omega⟩
    simp only [grain_Step.l0]
    rw [if_neg (by omega)]
  | succ d ih =>
    intro i s k hd hi hs ho
    have hlt : i < gs.length := by omega
    have ha := R.age i hlt
    have hsz := R.size i hlt
    have e1 : wrap64 ((i : Int) + 1) = ((i + 1 : Nat) : Int) := by rw [w64] <;> omega
    have e2 : wrap64 (w - (rd_T67 gs (i : Int)).f1) = w - ag gs i := by
      rw [w64]
      · rfl
      · unfold ag at ha; unfold isT at hw; omega
      · unfold ag at ha; unfold isT at hw; omega
    rw [show k + (d + 1) + 1 = (k + d + 1) + 1 from by omega]
    simp only [grain_Step.l0]
    rw [if_pos (by omega), if_neg (by omega), if_pos (by omega), if_pos (by omega), e2, e1]
    have e3 : grain_end.f t (rd_T67 gs (i : Int)).f0 = some (en t (sz gs i)) := end_tells ht hsz.1 hsz.2
    rw [e3]
    simp only [Option.bind_some]
    by_cases hold : old (sz gs) (ag gs) t w i
    · rw [if_neg (by unfold old at hold; omega)]
      exact ih (i + 1) i k (by omega) (by omega) rfl (fun j h0 hj => by
        rcases Nat.lt_or_ge j i with hl | hl
        · exact ho j h0 (by omega)
        · obtain rfl : j = i := by omega
          exact hold)
    · rw [if_pos (by unfold old at hold; omega)]
      exact ⟨s, rfl, by omega, ho, fun _ => by rw [hs]; exact hold⟩
theorem step_tells {gs : List Gr} {keep t w : Int} (R : Rgt gs keep) (ht : isT t) (hw : isT w) {s : Nat} (S : IsStep gs.length (sz gs) (ag gs) t w s) : Ev (fun k => grain_Step.f k gs keep t w) ((s : Int), 0) := by
  unfold grain_Step.f
  refine Ev.bind (fits_tells gs keep t w) ?_
  rw [fitE_zero.2 ⟨R, ht, hw⟩]
  simp only [if_true]
  have h4 := R.four
  have h1 := R.one
  refine ⟨gs.length + 1, fun k hk => ?_⟩
  obtain ⟨k, rfl⟩ : ∃ m, k = (m + (gs.length - 1) + 1) + 1 := ⟨k - gs.length - 1, by omega⟩
  obtain ⟨r, hr, hS⟩ := step_from R ht hw (gs.length - 1) 1 0 k (by omega) h1 rfl (fun j h0 hj => by omega)
  obtain rfl := R.step_unique hS S
  rw [← hr]
  generalize k + (gs.length - 1) + 1 = m
  simp only [grain_Step.l0]
  rw [if_pos (by omega), if_pos trivial, show wrap64 (0 + 1) = ((1 : Nat) : Int) from by rw [w64] <;> omega]
  rfl
theorem time_tells (t : Int) : rickyardref03_Time.f t = some (decide (isT t)) := by
  have e : isT t ↔ (t ≥ 0 ∧ t ≤ 1099511627776) := Iff.rfl
  unfold rickyardref03_Time.f
  by_cases h : t ≥ 0 <;> by_cases h' : t ≤ 1099511627776 <;> simp [h, h', e]
theorem tdiv_ediv {a b : Int} (h : 0 ≤ a) : Int.tdiv a b = a / b := Int.tdiv_eq_ediv_of_nonneg h
theorem rfloor_tells {t s : Int} (ht : isT t) (h1 : 1 ≤ s) (h2 : s ≤ 1099511627776) : rickyardref03_Floor.f t s = some (t - t % s, 0) := by
  unfold rickyardref03_Floor.f
  have h5 := Int.emod_nonneg t (show s ≠ 0 by omega)
  have h6 := Int.emod_lt_of_pos t (show 0 < s by omega)
  have hm := fl_mul t s
  have hd := Int.ediv_nonneg ht.1 (show (0 : Int) ≤ s by omega)
  have hd2 := Int.ediv_le_self s ht.1
  have h7 := ht
  obtain ⟨h3, h4⟩ := h7
  rw [time_tells]
  simp only [Option.bind_some, decide_eq_true ht, if_true]
  rw [if_neg (by omega), if_neg (by omega), if_neg (by omega), tdiv_ediv h3, w64 (x := t / s) (by omega) (by omega), Int.mul_comm, ← hm, w64 (by omega) (by omega)]
def rgood (gs : List Gr) (i : Nat) : Prop := 1 ≤ sz gs i ∧ sz gs i ≤ 1099511627776 ∧ 0 ≤ ag gs i ∧ ag gs i ≤ 1099511627776 ∧ (i = 0 → ag gs i = 0) ∧
  (0 < i → ¬ Int.tdiv (sz gs i) (sz gs (i - 1)) < 2 ∧ Int.tmod (sz gs i) (sz gs (i - 1)) = 0 ∧ ag gs (i - 1) ≤ ag gs i)
theorem rright_good {gs : List Gr} {keep : Int} {i k : Nat} (hn : gs.length ≤ 4) (hi : i < gs.length) (hp : 0 < i → 1 ≤ sz gs (i - 1)) (h : rgood gs i) :
    rickyardref03_Right.l0 (k + 2) i gs keep = rickyardref03_Right.l0 k ((i + 1 : Nat) : Int) gs keep := by
  obtain ⟨h1, h2, h3, h4, h5, h6⟩ := h
  unfold sz at h1 h2 hp h6
  unfold ag at h3 h4 h5 h6
  have e1 : wrap64 ((i : Int) + 1) = ((i + 1 : Nat) : Int) := by rw [w64] <;> omega
  simp only [rickyardref03_Right.l0]
  rw [if_pos (by omega), if_pos (by omega), if_neg (by omega), if_neg (by omega), if_neg (by omega), if_neg (by omega)]
  rcases Nat.eq_zero_or_pos i with hz | hz
  · subst hz
    rw [if_pos (by simp)]
    simp only [rickyardref03_Right.j2, e1]
    rw [if_neg (by simpa using h5 rfl), if_neg (by omega)]
  · rw [if_neg (by omega)]
    obtain ⟨g1, g2, g3⟩ := h6 hz
    have hp := hp hz
    have e2 : wrap64 ((i : Int) - 1) = ((i - 1 : Nat) : Int) := by rw [w64] <;> omega
    have hq0 := Int.ediv_nonneg (a := (rd_T67 gs (i : Int)).f0) (b := (rd_T67 gs ((i - 1 : Nat) : Int)).f0) (by omega) (by omega)
    have hq1 := Int.ediv_le_self (a := (rd_T67 gs (i : Int)).f0) ((rd_T67 gs ((i - 1 : Nat) : Int)).f0) (by omega)
    simp only [rickyardref03_Right.j2, e1, e2]
    rw [if_neg (by simp), if_pos (by omega), if_pos (by omega), if_pos (by omega), if_neg (by omega), w64 (by rw [tdiv_ediv (by omega)]; omega) (by rw [tdiv_ediv (by omega)]; omega), if_neg g1, if_pos g2, if_neg (by omega)]
theorem rright_bad {gs : List Gr} {keep : Int} {i k : Nat} (hn : gs.length ≤ 4) (hi : i < gs.length) (hp : 0 < i → 1 ≤ sz gs (i - 1)) (h : ¬ rgood gs i) :
    rickyardref03_Right.l0 (k + 2) i gs keep = some false := by
  unfold rgood at h
  unfold sz at h hp
  unfold ag at h
  simp only [rickyardref03_Right.l0]
  rw [if_pos (by omega), if_pos (by omega)]
  by_cases h1 : (rd_T67 gs (i : Int)).f0 < 1
  · rw [if_pos h1]; simp [rickyardref03_Right.j2]
  rw [if_neg h1]
  by_cases h2 : (rd_T67 gs (i : Int)).f0 > 1099511627776
  · rw [if_pos h2]; simp [rickyardref03_Right.j2]
  rw [if_neg h2]
  by_cases h3 : (rd_T67 gs (i : Int)).f1 < 0
  · rw [if_pos h3]; simp [rickyardref03_Right.j2]
  rw [if_neg h3]
  by_cases h4 : (rd_T67 gs (i : Int)).f1 > 1099511627776
  · rw [if_pos h4]; simp [rickyardref03_Right.j2]
  rw [if_neg h4]
  rcases Nat.eq_zero_or_pos i with hz | hz
  · subst hz
    rw [if_pos (by simp)]
    simp only [rickyardref03_Right.j2]
    rw [if_pos]
    have : ¬ (rd_T67 gs ((0 : Nat) : Int)).f1 = 0 := fun hz => h ⟨by omega, by omega, by omega, by omega, fun _ => hz, fun hc => by omega⟩
    simpa using this
  · rw [if_neg (by omega)]
    have hp := hp hz
    have e2 : wrap64 ((i : Int) - 1) = ((i - 1 : Nat) : Int) := by rw [w64] <;> omega
    have hq0 := Int.ediv_nonneg (a := (rd_T67 gs (i : Int)).f0) (b := (rd_T67 gs ((i - 1 : Nat) : Int)).f0) (by omega) (by omega)
    have hq1 := Int.ediv_le_self (a := (rd_T67 gs (i : Int)).f0) ((rd_T67 gs ((i - 1 : Nat) : Int)).f0) (by omega)
    simp only [rickyardref03_Right.j2, e2]
    rw [if_neg (by simp), if_pos (by omega), if_pos (by omega), if_pos (by omega), if_neg (by omega), w64 (by rw [tdiv_ediv (by omega)]; omega) (by rw [tdiv_ediv (by omega)]; omega)]
    by_cases g1 : Int.tdiv (rd_T67 gs (i : Int)).f0 (rd_T67 gs ((i - 1 : Nat) : Int)).f0 < 2
    · rw [if_pos g1]
    rw [if_neg g1]
    by_cases g2 : Int.tmod (rd_T67 gs (i : Int)).f0 (rd_T67 gs ((i - 1 : Nat) : Int)).f0 = 0
    · rw [if_pos g2, if_pos]
      rcases Int.lt_or_le (rd_T67 gs (i : Int)).f1 (rd_T67 gs ((i - 1 : Nat) : Int)).f1 with g3 | g3
      · exact g3
      · exact absurd ⟨by omega, by omega, by omega, by omega, fun hc => by omega, fun _ => ⟨g1, g2, g3⟩⟩ h
    · rw [if_neg g2]
def rgoods (gs : List Gr) (keep : Int) (i : Nat) : Prop := (∀ j, i ≤ j → j < gs.length → rgood gs j) ∧ ag gs (gs.length - 1) ≤ keep ∧ keep ≤ 2199023255552
open Classical in
theorem rright_from {gs : List Gr} {keep : Int} (h0 : 1 ≤ gs.length) (h4 : gs.length ≤ 4) (d : Nat) : ∀ (i k : Nat), gs.length - i = d → i ≤ gs.length → (0 < i → 1 ≤ sz gs (i - 1)) →
    rickyardref03_Right.l0 (k + 2 * d + 1) i gs keep = some (decide (rgoods gs keep i)) := by
  induction d with
  | zero =>
    intro i k hd hi hp
    obtain rfl : i = gs.length := by omega
    have e2 : wrap64 ((gs.length : Int) - 1) = ((gs.length - 1 : Nat) : Int) := by rw [w64] <;> omega
    simp only [rickyardref03_Right.l0]
    rw [if_neg (by omega), e2, if_pos (by omega), if_pos (by omega)]
    have hg : rgoods gs keep gs.length ↔ ag gs (gs.length - 1) ≤ keep ∧ keep ≤ 2199023255552 := by
      unfold rgoods
      exact ⟨fun h => h.2, fun h => ⟨fun j h1 h2 => by omega, h⟩⟩
    by_cases hk : keep ≥ (rd_T67 gs ((gs.length - 1 : Nat) : Int)).f1
    · rw [if_pos hk]
      congr 1
      apply decide_eq_decide.2
      rw [hg]
      exact ⟨fun h => ⟨hk, h⟩, fun h => h.2⟩
    · rw [if_neg hk]
      congr 1
      symm
      rw [decide_eq_false_iff_not, hg]
      exact fun h => hk h.1
  | succ d ih =>
    intro i k hd hi hp
    rw [show k + 2 * (d + 1) + 1 = (k + 2 * d + 1) + 2 from by omega]
    by_cases hg : rgood gs i
    · rw [rright_good h4 (by omega) hp hg, ih (i + 1) k (by omega) (by omega) (fun _ => hg.1)]
      congr 1
      apply decide_eq_decide.2
      unfold rgoods
      refine ⟨fun h => ⟨fun j h1 h2 => ?_, h.2⟩, fun h => ⟨fun j h1 h2 => h.1 j (by omega) h2, h.2⟩⟩
      rcases Nat.lt_or_ge i j with hl | hl
      · exact h.1 j hl h2
      · obtain rfl : j = i := by omega
        exact hg
    · rw [rright_bad h4 (by omega) hp hg]
      congr 1
      symm
      rw [decide_eq_false_iff_not]
      exact fun h => hg (h.1 i (Nat.le_refl _) (by omega))
theorem twice {a b : Int} (ha : 1 ≤ a) (hb : 1 ≤ b) (hm : b % a = 0) : ¬ b / a < 2 ↔ a < b := by
  obtain ⟨m, rfl⟩ := dvd_of hm
  rw [Int.mul_ediv_cancel_left _ (by omega)]
  constructor
  · intro h
    have : a * 2 ≤ a * m := Int.mul_le_mul_of_nonneg_left (by omega) (by omega)
    omega
  · intro h h2
    have : a * m ≤ a * 1 := Int.mul_le_mul_of_nonneg_left (by omega) (by omega)
    omega
theorem rrgt_iff {gs : List Gr} {keep : Int} : Rgt gs keep ↔ 1 ≤ gs.length ∧ gs.length ≤ 4 ∧ rgoods gs keep 0 := by
  unfold rgoods
  constructor
  · intro R
    refine ⟨R.one, R.four, fun j _ hj => ?_, R.kept, R.most⟩
    have hs := R.size j hj
    refine ⟨hs.1, hs.2, (R.age j hj).1, (R.age j hj).2, fun h0 => by subst h0; exact R.first, fun h0 => ?_⟩
    have hu := R.up (j - 1) (by omega)
    have hs' := R.size (j - 1) (by omega)
    rw [show j - 1 + 1 = j from by omega] at hu
    rw [tmod_emod (by omega), tdiv_ediv (by omega)]
    exact ⟨(twice hs'.1 hs.1 hu.2.1).2 hu.1, hu.2.1, hu.2.2⟩
  · rintro ⟨h1, h4, hg, hk, hm⟩
    refine ⟨h1, h4, (hg 0 (by omega) (by omega)).2.2.2.2.1 rfl, fun i hi => ⟨(hg i (by omega) hi).1, (hg i (by omega) hi).2.1⟩, fun i hi => ⟨(hg i (by omega) hi).2.2.1, (hg i (by omega) hi).2.2.2.1⟩, fun i hi => ?_, hk, hm⟩
    have hs := (hg (i + 1) (by omega) hi).1
    have hs' := (hg i (by omega) (by omega)).1
    obtain ⟨a, b, c⟩ := (hg (i + 1) (by omega) hi).2.2.2.2.2 (by omega)
    simp only [Nat.add_sub_cancel] at a b c
    rw [tmod_emod (by omega)] at b
    rw [tdiv_ediv (by omega)] at a
    exact ⟨(twice hs' hs b).1 a, b, c⟩
open Classical in
theorem rright_tells (gs : List Gr) (keep : Int) : Ev (fun k => rickyardref03_Right.f k gs keep) (decide (Rgt gs keep)) := by
  refine ⟨20, fun k hk => ?_⟩
  obtain ⟨k, rfl⟩ : ∃ m, k = m + 20 := ⟨k - 20, by omega⟩
  show rickyardref03_Right.f (k + 20) gs keep = _
  unfold rickyardref03_Right.f
  have bad : ¬ (1 ≤ gs.length ∧ gs.length ≤ 4) → rickyardref03_Right.j0 (k + 20) true gs keep = some (decide (Rgt gs keep)) := fun h => by
    simp only [rickyardref03_Right.j0]
    rw [if_pos trivial]
    congr 1
    symm
    rw [decide_eq_false_iff_not, rrgt_iff]
    exact fun h' => h ⟨h'.1, h'.2.1⟩
  by_cases h1 : (gs.length : Int) < 1
  · rw [if_pos h1]
    exact bad (fun h => by omega)
  · rw [if_neg h1]
    by_cases h2 : (gs.length : Int) > 4
    · rw [decide_eq_true h2]
      exact bad (fun h => by omega)
    · rw [decide_eq_false h2]
      simp only [rickyardref03_Right.j0, Bool.false_eq_true, if_false]
      have := rright_from (gs := gs) (keep := keep) (by omega) (by omega) gs.length 0 (k + 18 - 2 * gs.length) (by omega) (by omega) (by omega)
      rw [show k + 18 - 2 * gs.length + 2 * gs.length + 1 = k + 19 from by omega] at this
      refine (this.trans ?_)
      congr 1
      apply decide_eq_decide.2
      rw [rrgt_iff]
      exact ⟨fun h => ⟨by omega, by omega, h⟩, fun h => h.2.2⟩
theorem may_tells (gs : List Gr) (keep t w : Int) : Ev (fun k => rickyardref03_May.f k gs keep t w) (fitE gs keep t w) := by
  unfold rickyardref03_May.f fitE
  refine Ev.bind (rright_tells gs keep) ?_
  by_cases hR : Rgt gs keep
  · simp only [hR, decide_true, if_true, time_tells, Option.bind_some]
    by_cases h1 : isT t <;> by_cases h2 : isT w <;> simp [h1, h2] <;> exact Ev.now _
  · simp [hR]; exact Ev.now _
theorem rd_sz (gs : List Gr) (i : Nat) : (rd_T67 gs (i : Int)).f0 = sz gs i := rfl
theorem rd_ag (gs : List Gr) (i : Nat) : (rd_T67 gs (i : Int)).f1 = ag gs i := rfl
open Classical in
theorem expired_tells {gs : List Gr} {keep t w : Int} (R : Rgt gs keep) (ht : isT t) (hw : isT w) :
    Ev (fun k => grain_Expired.f k gs keep t w) (decide (en t (sz gs (gs.length - 1)) ≤ w - keep), 0) := by
  unfold grain_Expired.f
  refine Ev.bind (fits_tells gs keep t w) ?_
  have h1 := R.one
  have h4 := R.four
  have hk : ag gs (gs.length - 1) ≤ keep := R.kept
  have ha := R.age (gs.length - 1) (by omega)
  have hm : keep ≤ 2199023255552 := R.most
  have hs := R.size (gs.length - 1) (by omega)
  have e : wrap64 ((gs.length : Int) - 1) = ((gs.length - 1 : Nat) : Int) := by rw [w64] <;> omega
  have e2 : wrap64 (w - keep) = w - keep := by
    obtain ⟨h8, h9⟩ := hw
    rw [w64] <;> omega
  simp only [fitE_zero.2 ⟨R, ht, hw⟩, if_true, e, rd_sz, e2]
  simp only [if_pos (show (0 : Int) ≤ ((gs.length - 1 : Nat) : Int) by omega), if_pos (show ((gs.length - 1 : Nat) : Int) < (gs.length : Int) by omega), end_tells ht hs.1 hs.2, Option.bind_some]
  have : (decide (en t (sz gs (gs.length - 1)) ≤ w - keep)) = @decide (en t (sz gs (gs.length - 1)) ≤ w - keep) (propDecidable _) := by congr
  rw [this]
  exact Ev.now _
theorem floor_tells {t s : Int} (ht : isT t) (h1 : 1 ≤ s) (h2 : s ≤ 1099511627776) : grain_Floor.f t s = some (t - t % s, 0) := by
  unfold grain_Floor.f
  have h5 := Int.emod_nonneg t (show s ≠ 0 by omega)
  have h6 := Int.emod_lt_of_pos t (show 0 < s by omega)
  have h7 := ht
  obtain ⟨h3, h4⟩ := h7
  rw [isTime_tells]
  simp only [Option.bind_some, decide_eq_true ht, if_true]
  rw [if_neg (by omega), if_neg (by omega), if_neg (by omega), tmod_emod h3, w64 (by omega) (by omega)]
theorem rstep_from {gs : List Gr} {keep t w : Int} (R : Rgt gs keep) (ht : isT t) {s : Nat} (S : IsStep gs.length (sz gs) (ag gs) t w s) (i : Nat) : ∀ k : Nat, s ≤ i → i < gs.length →
    rickyardref03_Step.l0 (k + i + 1) t w 0 (i : Int) gs keep = some ((s : Int), 0) := by
  induction i with
  | zero =>
    intro k h1 h2
    obtain rfl : s = 0 := by omega
    simp only [rickyardref03_Step.l0]
    rw [if_neg (by omega)]
    rfl
  | succ i ih =>
    intro k h1 h2
    have h4 := R.four
    have hs := R.size (i + 1) h2
    have ha := R.age (i + 1) h2
    have f0 := fl_nonneg ht.1 hs.1
    have f1 := fl_le (t := t) hs.1
    have ht2 := ht.2
    rw [show k + (i + 1) + 1 = (k + i + 1) + 1 from by omega]
    generalize hm : k + i + 1 = m
    simp only [rickyardref03_Step.l0, rd_sz, rd_ag]
    rw [if_pos (by omega), if_pos (by omega), if_pos (by omega), rfloor_tells ht hs.1 hs.2]
    simp only [Option.bind_some]
    simp only [w64 (x := t - t % sz gs (i + 1) + sz gs (i + 1)) (by omega) (by omega), w64 (x := t - t % sz gs (i + 1) + sz gs (i + 1) + ag gs (i + 1)) (by omega) (by omega)]
    have ho := R.step_of S (i := i + 1) (by omega) h2
    unfold old en at ho
    by_cases hi : i + 1 ≤ s
    · rw [if_pos (by have := ho.2 hi; omega)]
      obtain rfl : s = i + 1 := by omega
      rfl
    · rw [if_neg (by
        intro hc
        exact hi (ho.1 (by omega)))]
      rw [show wrap64 (((i + 1 : Nat) : Int) - 1) = (i : Int) from by rw [w64] <;> omega, ← hm]
      exact ih k (by omega) (by omega)
theorem rstep_tells {gs : List Gr} {keep t w : Int} (R : Rgt gs keep) (ht : isT t) (hw : isT w) {s : Nat} (S : IsStep gs.length (sz gs) (ag gs) t w s) : Ev (fun k => rickyardref03_Step.f k gs keep t w) ((s : Int), 0) := by
  unfold rickyardref03_Step.f
  refine Ev.bind (may_tells gs keep t w) ?_
  rw [fitE_zero.2 ⟨R, ht, hw⟩]
  simp only [if_true]
  have h4 := R.four
  have h1 := R.one
  have hl := S.lt
  refine ⟨gs.length, fun k hk => ?_⟩
  have := rstep_from R ht S (gs.length - 1) (k - gs.length) (by omega) (by omega)
  rw [show k - gs.length + (gs.length - 1) + 1 = k from by omega] at this
  rw [show wrap64 ((gs.length : Int) - 1) = ((gs.length - 1 : Nat) : Int) from by rw [w64] <;> omega]
  exact this
open Classical in
theorem rexpired_tells {gs : List Gr} {keep t w : Int} (R : Rgt gs keep) (ht : isT t) (hw : isT w) :
    Ev (fun k => rickyardref03_Expired.f k gs keep t w) (decide (en t (sz gs (gs.length - 1)) ≤ w - keep), 0) := by
  unfold rickyardref03_Expired.f
  refine Ev.bind (may_tells gs keep t w) ?_
  have h1 := R.one
  have h4 := R.four
  have hk : ag gs (gs.length - 1) ≤ keep := R.kept
  have ha := R.age (gs.length - 1) (by omega)
  have hm : keep ≤ 2199023255552 := R.most
  have hs := R.size (gs.length - 1) (by omega)
  have f0 := fl_nonneg ht.1 hs.1
  have f1 := fl_le (t := t) hs.1
  have ht2 := ht.2
  have e : wrap64 ((gs.length : Int) - 1) = ((gs.length - 1 : Nat) : Int) := by rw [w64] <;> omega
  simp only [fitE_zero.2 ⟨R, ht, hw⟩, if_true, e, rd_sz]
  simp only [if_pos (show (0 : Int) ≤ ((gs.length - 1 : Nat) : Int) by omega), if_pos (show ((gs.length - 1 : Nat) : Int) < (gs.length : Int) by omega), rfloor_tells ht hs.1 hs.2, Option.bind_some]
  have e1 : wrap64 (wrap64 (t - t % sz gs (gs.length - 1) + sz gs (gs.length - 1)) + keep) = t - t % sz gs (gs.length - 1) + sz gs (gs.length - 1) + keep := by
    rw [w64 (x := t - t % sz gs (gs.length - 1) + sz gs (gs.length - 1)) (by omega) (by omega), w64 (by omega) (by omega)]
  have e2 : ∀ (p q : Prop) [Decidable p] (i : Decidable q), (p ↔ q) → some (decide p, (0 : Int)) = some (@decide q i, 0) := fun p q _ i h => by
    rw [decide_eq_decide.2 h]
  refine ⟨0, fun _ _ => e2 _ _ _ ?_⟩
  show wrap64 (wrap64 (t - t % sz gs (gs.length - 1) + sz gs (gs.length - 1)) + keep) ≤ w ↔ _
  rw [e1]
  unfold en
  omega
end Go.Proofs.Ytjemmmemenljbaa.GrainL
end
section
namespace Go.Proofs.Ytjemmmemenljbaa.PFold
open Go.RowKit Go.Proofs.YtjemmmemenljbaaW.PrintWords Go.Proofs.YtjemmmemenljbaaW.PrintLast Go.Proofs.YtjemmmemenljbaaW.PrintMore
set_option linter.unusedVariables false
set_option linter.unusedSimpArgs false
set_option maxHeartbeats 8000000
set_option maxRecDepth 100000
theorem kw64 {x : Int} (h0 : -9223372036854775808 ≤ x) (h1 : x ≤ 9223372036854775807) : wrap64 x = x := by unfold wrap64; omega
theorem kw64n (j m : Nat) (h : j + m < 4611686018427387904) : wrap64 ((j : Int) + (m : Int)) = ((j + m : Nat) : Int) := by rw [kw64] <;> omega
theorem kw64o (j : Nat) (h : j < 4611686018427387904) : wrap64 ((j : Int) + 1) = ((j + 1 : Nat) : Int) := by rw [kw64] <;> omega
theorem rd_get {l : List Int} {i : Nat} (h : i < l.length) : rd l (i : Int) = l[i] := by
  unfold rd; simp [List.getD_eq_getElem?_getD, List.getElem?_eq_getElem h]
theorem rd_mid (pre : List Int) (a : Int) (r : List Int) : rd (pre ++ a :: r) (pre.length : Int) = a := by
  rw [rd_get (by simp)]; simp
theorem rd_mid1 (pre : List Int) (a c : Int) (r : List Int) : rd (pre ++ a :: c :: r) ((pre.length + 1 : Nat) : Int) = c := by
  rw [rd_get (by simp)]
  rw [List.getElem_append_right (by omega)]
  simp
theorem strOf_bytesOf (s : ByteArray) : strOfNums (bytesOf s) = s := by
  unfold strOfNums bytesOf
  apply ByteArray.ext
  simp only [List.map_map]
  have : (s.data.toList.map ((fun n : Int => UInt8.ofNat n.toNat) ∘ fun b => (b.toNat : Int))) = s.data.toList := by
    conv => rhs; rw [← List.map_id s.data.toList]
    apply List.map_congr_left
    intro b _
    simp
  rw [this]
theorem strs_eq {x y : List Int} (hx : x.all isB = true) (hy : y.all isB = true) (h : (strOfNums x).toList = (strOfNums y).toList) : x = y := by
  have e : ∀ l : List Int, (strOfNums l).toList = l.map fun n => UInt8.ofNat n.toNat := fun l => by
    rw [ByteArray.toList_eq]; rfl
  rw [e, e] at h
  have b : ∀ l : List Int, l.all isB = true → (l.map fun n => UInt8.ofNat n.toNat).map (fun u : UInt8 => (u.toNat : Int)) = l := fun l hl => by
    rw [List.map_map]
    conv => rhs; rw [← List.map_id l]
    apply List.map_congr_left
    intro n hn
    have := List.all_eq_true.1 hl n hn
    unfold isB at this
    simp only [Bool.and_eq_true, decide_eq_true_eq] at this
    simp only [Function.comp_apply, UInt8.toNat_ofNat', id_eq]
    omega
  rw [← b x hx, ← b y hy, h]
theorem bytesOf_isB (s : ByteArray) : (bytesOf s).all isB = true := by
  unfold bytesOf
  simp only [List.all_map, List.all_eq_true, Function.comp_apply]
  intro b _
  have := b.toNat_lt
  unfold isB
  simp only [Bool.and_eq_true, decide_eq_true_eq]
  omega
def textB : List Int → List Int
  | [] => [0, 1]
  | b :: r => if b = 0 then 0 :: 255 :: textB r else b :: textB r
def groupB : List ByteArray → List Int
  | [] => [0]
  | s :: r => 1 :: (textB (bytesOf s) ++ groupB r)
def numU (v : Int) : Int := Go.bits .xor .u64 (IntKind.u64.wrap v) 9223372036854775808
def numB (v : Int) : List Int := [shr .u64 (numU v) 56 % 256, shr .u64 (numU v) 48 % 256, shr .u64 (numU v) 40 % 256, shr .u64 (numU v) 32 % 256, shr .u64 (numU v) 24 % 256, shr .u64 (numU v) 16 % 256, shr .u64 (numU v) 8 % 256, shr .u64 (numU v) 0 % 256]
def wrB (d : List ByteArray) (f g : Int) : List Int := groupB d ++ numB f ++ [g]
theorem textB_len : ∀ b : List Int, (textB b).length ≤ 2 * b.length + 2
  | [] => by simp [textB]
  | b :: r => by
    have := textB_len r
    unfold textB
    split <;> simp <;> omega
theorem textB_pos : ∀ b : List Int, 2 ≤ (textB b).length
  | [] => by simp [textB]
  | b :: r => by
    have := textB_pos r
    unfold textB
    split <;> simp <;> omega
theorem textB_isB : ∀ {b : List Int}, b.all isB = true → (textB b).all isB = true
  | [], _ => by decide
  | b :: r, h => by
    simp only [List.all_cons, Bool.and_eq_true] at h
    have := textB_isB h.2
    unfold textB
    split
    · simp only [List.all_cons, this, Bool.and_true]; decide
    · simp only [List.all_cons, this, h.1, Bool.and_true]
theorem groupB_isB : ∀ d : List ByteArray, (groupB d).all isB = true
  | [] => by decide
  | s :: r => by
    have h1 := groupB_isB r
    have h2 := textB_isB (bytesOf_isB s)
    unfold groupB
    simp only [List.all_cons, List.all_append, h1, h2, Bool.and_true]; decide
theorem mod_isB (x : Int) : isB (x % 256) = true := by
  unfold isB
  simp only [Bool.and_eq_true, decide_eq_true_eq]
  omega
theorem wrB_isB {d : List ByteArray} {f g : Int} (h0 : 0 ≤ g) (h1 : g < 256) : (wrB d f g).all isB = true := by
  unfold wrB numB
  simp only [List.all_append, groupB_isB, List.all_cons, List.all_nil, mod_isB, Bool.and_true, Bool.true_and]
  unfold isB
  simp only [Bool.and_eq_true, decide_eq_true_eq]
  omega
theorem groupB_len {d : List ByteArray} (h : ∀ s ∈ d, s.size ≤ 16) : (groupB d).length ≤ 40 * d.length + 1 := by
  induction d with
  | nil => simp [groupB]
  | cons s r ih =>
    have := ih (fun x hx => h x (List.mem_cons_of_mem _ hx))
    have h1 := textB_len (bytesOf s)
    have h2 := h s List.mem_cons_self
    rw [bytesOf_length] at h1
    unfold groupB
    simp only [List.length_cons, List.length_append]
    omega
theorem dims_iff {d : List ByteArray} : dimsB d = true ↔ d.length ≤ 4 ∧ ∀ s ∈ d, s.size ≤ 16 := by
  unfold dimsB lng
  simp only [Bool.and_eq_true, decide_eq_true_eq, Bool.not_eq_true', List.any_eq_false]
  constructor
  · rintro ⟨h1, h2⟩
    exact ⟨h1, fun s hs => by have := h2 s hs; omega⟩
  · rintro ⟨h1, h2⟩
    exact ⟨h1, fun s hs => by have := h2 s hs; omega⟩
theorem numB_len (v : Int) : (numB v).length = 8 := rfl
theorem wrB_len {d : List ByteArray} {f g : Int} (h : dimsB d = true) : (wrB d f g).length ≤ 300 := by
  obtain ⟨h1, h2⟩ := dims_iff.1 h
  have := groupB_len h2
  unfold wrB
  simp only [List.length_append, numB_len, List.length_singleton]
  omega
theorem text_loop (s : ByteArray) (hs : s.size < 1000000) (d : Nat) : ∀ (i : Nat) (acc : List Int), s.size - i = d → i ≤ s.size → acc.length + 2 * d + 2 < 1000000000 →
    Ev (fun k => code_Text.l0 k s acc (s.size : Int) (i : Int)) (acc ++ textB ((bytesOf s).drop i)) := by
  induction d with
  | zero =>
    intro i acc hd hi hl
    have e : (bytesOf s).drop i = [] := List.drop_eq_nil_of_le (by rw [bytesOf_length]; omega)
    refine Ev.step (fun k => ?_) (Ev.now _)
    simp only [code_Text.l0]
    rw [if_neg (by omega)]
    simp only [Option.bind_some]
    rw [if_pos (by simp; omega), e]; rfl
  | succ d ih =>
    intro i acc hd hi hl
    have hlt : i < (bytesOf s).length := by rw [bytesOf_length]; omega
    have hb : bt s (i : Int) = (bytesOf s)[i] := by rw [← rd_bytesOf, rd_get hlt]
    rw [List.drop_eq_getElem_cons hlt]
    by_cases h0 : (bytesOf s)[i] = 0
    · have e : acc ++ textB ((bytesOf s)[i] :: (bytesOf s).drop (i + 1)) = (acc ++ [0] ++ [255]) ++ textB ((bytesOf s).drop (i + 1)) := by
        rw [h0]; simp [textB]
      rw [e]
      refine Ev.step (fun k => ?_) (ih (i + 1) (acc ++ [0] ++ [255]) (by omega) (by omega) (by simp; omega))
      simp only [code_Text.l0]
      rw [if_pos (by omega), if_pos (by omega), if_pos (by omega), if_pos (by omega)]
      simp only [Option.bind_some, hb, h0]
      rw [if_pos trivial, if_pos (by simp; omega), kw64o i (by omega)]
    · have e : acc ++ textB ((bytesOf s)[i] :: (bytesOf s).drop (i + 1)) = (acc ++ [(bytesOf s)[i]]) ++ textB ((bytesOf s).drop (i + 1)) := by
        simp [textB, h0]
      rw [e]
      refine Ev.step (fun k => ?_) (ih (i + 1) (acc ++ [(bytesOf s)[i]]) (by omega) (by omega) (by simp; omega))
      simp only [code_Text.l0]
      rw [if_pos (by omega), if_pos (by omega), if_pos (by omega), if_pos (by omega)]
      simp only [Option.bind_some, hb]
      rw [if_neg h0, kw64o i (by omega)]
theorem text_tells {s : ByteArray} (hs : s.size < 1000000) : Ev (fun k => code_Text.f k s) (textB (bytesOf s)) := by
  have := text_loop s hs s.size 0 [] (by omega) (by omega) (by simp; omega)
  unfold code_Text.f
  simpa using this
theorem rdOf_get {l : List ByteArray} {i : Nat} (h : i < l.length) : rdOf ByteArray.empty l (i : Int) = l[i] := by
  unfold rdOf; simp [List.getD_eq_getElem?_getD, List.getElem?_eq_getElem h]
theorem group_loop (l : List ByteArray) (hl : l.length ≤ 4) (hs : ∀ s ∈ l, s.size ≤ 16) (d : Nat) : ∀ (i : Nat) (acc : List Int), l.length - i = d → i ≤ l.length → acc.length + 40 * d + 1 < 100000 →
    Ev (fun k => key_group.l0 k acc l (l.length : Int) (i : Int)) (acc ++ groupB (l.drop i)) := by
  induction d with
  | zero =>
    intro i acc hd hi ha
    rw [List.drop_eq_nil_of_le (by omega)]
    refine Ev.step (fun k => ?_) (Ev.now _)
    simp only [key_group.l0]
    rw [if_neg (by omega), if_pos (by omega)]; rfl
  | succ d ih =>
    intro i acc hd hi ha
    have hlt : i < l.length := by omega
    have hz := hs l[i] (List.getElem_mem _)
    have ht := textB_len (bytesOf l[i])
    rw [bytesOf_length] at ht
    rw [List.drop_eq_getElem_cons hlt]
    have e : acc ++ groupB (l[i] :: l.drop (i + 1)) = (acc ++ [1] ++ textB (bytesOf l[i])) ++ groupB (l.drop (i + 1)) := by simp [groupB]
    rw [e]
    refine Ev.step (f := fun k => (code_Text.f k l[i]).bind fun t159 => (if (acc ++ [1]).length + t159.length < 140737488355328 then (key_group.l0 k ((acc ++ [1]) ++ t159) l (l.length : Int) ((i + 1 : Nat) : Int)) else (none))) (fun k => ?_) ?_
    · simp only [key_group.l0]
      rw [if_pos (by omega), if_pos (by omega), if_pos (by omega), if_pos (by omega)]
      simp only [Option.bind_some, rdOf_get hlt, kw64o i (by omega)]
    · refine Ev.bind (text_tells (by omega)) ?_
      refine Ev.congr (fun k => ?_) (ih (i + 1) (acc ++ [1] ++ textB (bytesOf l[i])) (by omega) (by omega) (by simp only [List.length_append, List.length_singleton]; omega))
      rw [if_pos (by simp only [List.length_append, List.length_singleton]; omega)]
theorem group_tells {l : List ByteArray} (h : dimsB l = true) : Ev (fun k => key_group.f k l) (groupB l) := by
  obtain ⟨h1, h2⟩ := dims_iff.1 h
  have := group_loop l h1 h2 l.length 0 [] (by omega) (by omega) (by simp; omega)
  unfold key_group.f
  simpa using this
theorem number_tells (v : Int) : Ev (fun k => code_Number.f k v) (numB v) := by
  refine ⟨10, fun k hk => ?_⟩
  obtain ⟨k, rfl⟩ : ∃ m, k = m + 10 := ⟨k - 10, by omega⟩
  show code_Number.l0 (k + 10) (numU v) [] 56 = _
  have e1 : wrap64 (56 - 8) = 48 := by unfold wrap64; omega
  have e2 : wrap64 (48 - 8) = 40 := by unfold wrap64; omega
  have e3 : wrap64 (40 - 8) = 32 := by unfold wrap64; omega
  have e4 : wrap64 (32 - 8) = 24 := by unfold wrap64; omega
  have e5 : wrap64 (24 - 8) = 16 := by unfold wrap64; omega
  have e6 : wrap64 (16 - 8) = 8 := by unfold wrap64; omega
  have e7 : wrap64 (8 - 8) = 0 := by unfold wrap64; omega
  have e8 : wrap64 (0 - 8) = -8 := by unfold wrap64; omega
  simp only [code_Number.l0, e1, e2, e3, e4, e5, e6, e7, e8]
  simp [numB]
theorem key_right_tells {d : List ByteArray} {f g : Int} : key_Right.f d f g = some (decide (dimsB d = true ∧ (0 ≤ f ∧ f ≤ 1099511627776) ∧ 0 ≤ g ∧ g < 4)) := by
  unfold key_Right.f key_fits.f
  simp only [Option.bind_some]
  by_cases h1 : dimsB d = true
  · by_cases h2 : f ≥ 0
    · by_cases h3 : f ≤ 1099511627776
      · by_cases h4 : g ≥ 0
        · have h2' : 0 ≤ f := h2
          have h4' : 0 ≤ g := h4
          simp [h1, h2', h3, h4']
        · have h4' : ¬ 0 ≤ g := h4
          simp [h1, h2, h3, h4']
      · simp [h1, h2, h3]
    · have h2' : ¬ 0 ≤ f := h2
      simp [h1, h2']
  · simp [h1]
theorem write_tells {d : List ByteArray} {f g : Int} (hd : dimsB d = true) (hf : 0 ≤ f ∧ f ≤ 1099511627776) (hg : 0 ≤ g ∧ g < 4) : Ev (fun k => key_Write.f k d f g) (wrB d f g, 0) := by
  obtain ⟨h1, h2⟩ := dims_iff.1 hd
  have hl := groupB_len h2
  unfold key_Write.f
  simp only [key_right_tells, Option.bind_some]
  rw [decide_eq_true ⟨hd, hf, hg⟩]
  simp only [if_true]
  refine Ev.bind (group_tells hd) (Ev.bind (number_tells f) ?_)
  refine Ev.congr (fun k => ?_) (Ev.now _)
  rw [if_pos (by rw [numB_len]; omega), if_pos (by simp only [List.length_append, numB_len, List.length_singleton]; omega), show g % 256 = g from by omega]
  rfl
theorem read_text_loop (bs : List Int) (rest : List Int) : ∀ (pre acc : List Int), (pre ++ textB bs ++ rest).length < 1000000 → acc.length ≤ pre.length →
    Ev (fun k => code_ReadText.l0 k (pre ++ textB bs ++ rest) acc (pre.length : Int)) (strOfNums (acc ++ bs), ((pre.length + (textB bs).length : Nat) : Int), 0) := by
  induction bs with
  | nil =>
    intro pre acc hl ha
    have e : pre ++ textB [] ++ rest = pre ++ 0 :: 1 :: rest := by simp [textB]
    rw [e] at hl ⊢
    have h1 : rd (pre ++ 0 :: 1 :: rest) ((pre.length : Int)) = 0 := rd_mid _ _ _
    have h2 : rd (pre ++ 0 :: 1 :: rest) ((pre.length + 1 : Nat) : Int) = 1 := rd_mid1 _ _ _ _
    have h3 : (pre ++ 0 :: 1 :: rest).length = pre.length + 2 + rest.length := by simp; omega
    refine Ev.step (fun k => ?_) (Ev.now _)
    simp only [code_ReadText.l0, kw64o pre.length (by omega), h1, h2, h3]
    rw [if_pos (by omega), if_pos (by omega), if_pos trivial, if_neg (by omega), if_pos (by omega), if_pos (by omega), if_pos trivial, kw64o _ (by omega)]
    simp [textB]; omega
  | cons b r ih =>
    intro pre acc hl ha
    by_cases hb : b = 0
    · subst hb
      have e : pre ++ textB (0 :: r) ++ rest = pre ++ 0 :: 255 :: (textB r ++ rest) := by simp [textB]
      have e2 : pre ++ 0 :: 255 :: (textB r ++ rest) = (pre ++ [0, 255]) ++ textB r ++ rest := by simp
      have h1 : rd (pre ++ 0 :: 255 :: (textB r ++ rest)) ((pre.length : Int)) = 0 := rd_mid _ _ _
      have h2 : rd (pre ++ 0 :: 255 :: (textB r ++ rest)) ((pre.length + 1 : Nat) : Int) = 255 := rd_mid1 _ _ _ _
      have h3 : (pre ++ 0 :: 255 :: (textB r ++ rest)).length = pre.length + 2 + (textB r ++ rest).length := by simp; omega
      have := ih (pre ++ [0, 255]) (acc ++ [0]) (by rw [← e2, ← e]; exact hl) (by simp; omega)
      rw [e] at hl ⊢
      rw [← e2] at this
      have e3 : (strOfNums (acc ++ 0 :: r), ((pre.length + (textB (0 :: r)).length : Nat) : Int), (0 : Int)) = (strOfNums ((acc ++ [0]) ++ r), (((pre ++ [0, 255]).length + (textB r).length : Nat) : Int), 0) := by
        simp [textB]; omega
      rw [e3]
      refine Ev.step (fun k => ?_) this
      simp only [code_ReadText.l0, kw64o pre.length (by omega), h1, h2, h3]
      rw [if_pos (by omega), if_pos (by omega), if_pos trivial, if_neg (by omega), if_pos (by omega), if_pos (by omega), if_neg (by decide), if_pos trivial, if_pos (by omega), kw64o _ (by omega)]
      congr 1
      simp; omega
    · have e : pre ++ textB (b :: r) ++ rest = pre ++ b :: (textB r ++ rest) := by simp [textB, hb]
      have e2 : pre ++ b :: (textB r ++ rest) = (pre ++ [b]) ++ textB r ++ rest := by simp
      have h1 : rd (pre ++ b :: (textB r ++ rest)) ((pre.length : Int)) = b := rd_mid _ _ _
      have h3 : (pre ++ b :: (textB r ++ rest)).length = pre.length + 1 + (textB r ++ rest).length := by simp; omega
      have := ih (pre ++ [b]) (acc ++ [b]) (by rw [← e2, ← e]; exact hl) (by simp; omega)
      rw [e] at hl ⊢
      rw [← e2] at this
      have e3 : (strOfNums (acc ++ b :: r), ((pre.length + (textB (b :: r)).length : Nat) : Int), (0 : Int)) = (strOfNums ((acc ++ [b]) ++ r), (((pre ++ [b]).length + (textB r).length : Nat) : Int), 0) := by
        simp [textB, hb]; omega
      rw [e3]
      refine Ev.step (fun k => ?_) this
      simp only [code_ReadText.l0, h1, h3]
      rw [if_pos (by omega), if_pos (by omega), if_neg hb, if_pos (by omega), kw64o _ (by omega)]
      congr 1
      simp
theorem read_text_tells (s : ByteArray) (rest : List Int) (h : (textB (bytesOf s) ++ rest).length < 1000000) : Ev (fun k => code_ReadText.f k (textB (bytesOf s) ++ rest)) (s, ((textB (bytesOf s)).length : Int), 0) := by
  have := read_text_loop (bytesOf s) rest [] [] (by simpa using h) (by simp)
  simp only [List.nil_append, List.length_nil, Nat.zero_add, strOf_bytesOf] at this
  exact this
theorem read_loop (rest : List Int) (ds : List ByteArray) : ∀ (pre : List Int) (acc : List ByteArray) (R : List ByteArray × Int × Int × Int), (pre ++ groupB ds ++ rest).length < 1000000 → acc.length ≤ pre.length →
    Ev (fun k => key_Read.j2 k (pre ++ groupB ds ++ rest) ((pre.length + (groupB ds).length : Nat) : Int) true (acc ++ ds) 0 0) R →
    Ev (fun k => key_Read.l0 k (pre ++ groupB ds ++ rest) (pre.length : Int) true acc 0 0) R := by
  induction ds with
  | nil =>
    intro pre acc R hl ha h
    have e : pre ++ groupB [] ++ rest = pre ++ 0 :: rest := by simp [groupB]
    rw [e] at hl h ⊢
    have h1 : rd (pre ++ 0 :: rest) (pre.length : Int) = 0 := rd_mid _ _ _
    have h3 : (pre ++ 0 :: rest).length = pre.length + 1 + rest.length := by simp; omega
    refine Ev.step (fun k => ?_) (Ev.step (g := fun k => key_Read.j1 k (pre ++ 0 :: rest) (pre.length : Int) true false acc 0 0) (fun k => ?_) h)
    · simp only [key_Read.l0, h1, h3]
      rw [if_neg (by omega), if_pos (by omega), if_pos (by omega)]
      rfl
    · simp only [key_Read.j1, h1, h3]
      rw [if_neg (by decide), if_pos (by omega), if_pos (by omega), if_pos trivial, kw64o _ (by omega)]
      simp [groupB]
  | cons s r ih =>
    intro pre acc R hl ha h
    have e : pre ++ groupB (s :: r) ++ rest = pre ++ 1 :: (textB (bytesOf s) ++ (groupB r ++ rest)) := by simp [groupB]
    have e2 : pre ++ 1 :: (textB (bytesOf s) ++ (groupB r ++ rest)) = (pre ++ 1 :: textB (bytesOf s)) ++ groupB r ++ rest := by simp
    have h1 : rd (pre ++ 1 :: (textB (bytesOf s) ++ (groupB r ++ rest))) (pre.length : Int) = 1 := rd_mid _ _ _
    have h3 : (pre ++ 1 :: (textB (bytesOf s) ++ (groupB r ++ rest))).length = pre.length + 1 + (textB (bytesOf s) ++ (groupB r ++ rest)).length := by simp; omega
    have hd : (pre ++ 1 :: (textB (bytesOf s) ++ (groupB r ++ rest))).drop (pre.length + 1) = textB (bytesOf s) ++ (groupB r ++ rest) := by
      rw [show pre ++ 1 :: (textB (bytesOf s) ++ (groupB r ++ rest)) = (pre ++ [1]) ++ (textB (bytesOf s) ++ (groupB r ++ rest)) from by simp]
      exact List.drop_left' (by simp)
    have h4 := textB_pos (bytesOf s)
    have hih := ih (pre ++ 1 :: textB (bytesOf s)) (acc ++ [s]) R (by rw [← e2, ← e]; exact hl) (by simp; omega) (by
      rw [← e2, ← e]
      have e5 : (((pre ++ 1 :: textB (bytesOf s)).length + (groupB r).length : Nat) : Int) = ((pre.length + (groupB (s :: r)).length : Nat) : Int) := by simp [groupB]; omega
      rw [e5]
      simpa using h)
    rw [← e2] at hih
    rw [e] at hl ⊢
    have h5 : (textB (bytesOf s)).length ≤ (textB (bytesOf s) ++ (groupB r ++ rest)).length := by rw [List.length_append]; omega
    refine Ev.step (fun k => ?_) (Ev.step (g := fun k => key_Read.j1 k (pre ++ 1 :: (textB (bytesOf s) ++ (groupB r ++ rest))) (pre.length : Int) true false acc 0 0) (f := fun k => (code_ReadText.f k (textB (bytesOf s) ++ (groupB r ++ rest))).bind fun bt202 => (if bt202.2.2 = 0 then (if acc.length < 8796093022208 then (key_Read.l0 k (pre ++ 1 :: (textB (bytesOf s) ++ (groupB r ++ rest))) (wrap64 ((pre.length : Int) + (wrap64 (bt202.2.1 + 1)))) true (acc ++ [bt202.1]) 0 0) else (none)) else (key_Read.j2 k (pre ++ 1 :: (textB (bytesOf s) ++ (groupB r ++ rest))) (pre.length : Int) false acc 0 0))) (fun k => ?_) ?_)
    · simp only [key_Read.l0, h1, h3]
      rw [if_neg (by omega), if_pos (by omega), if_pos (by omega)]
      rfl
    · simp only [key_Read.j1, h1, h3]
      rw [if_neg (by decide), if_pos (by omega), if_pos (by omega), if_neg (by decide), kw64o _ (by omega), if_pos (by omega), if_pos (by omega)]
      rw [show (((pre.length + 1 : Nat) : Int)).toNat = pre.length + 1 from by omega, hd]
    · refine Ev.bind (read_text_tells s (groupB r ++ rest) (by omega)) ?_
      refine Ev.congr (fun k => ?_) hih
      rw [if_pos rfl, if_pos (by omega), kw64o _ (by omega), kw64n _ _ (by omega)]
      congr 1
      simp
theorem numU_range (v : Int) : 0 ≤ numU v ∧ numU v < 18446744073709551616 := by
  unfold numU Go.bits
  simp [IntKind.wrap, IntKind.bits, IntKind.signed]
  first | done | omega
theorem wraps_u64 (n : Int) (h₀ : 0 ≤ n) (h₁ : n < 2 ^ 64) : IntKind.u64.wrap n = n := by
  simp [IntKind.wrap, IntKind.bits, IntKind.signed]; omega
theorem stN_join {u c : Int} (h0 : 0 ≤ u) (h1 : u < 72057594037927936) (h2 : 0 ≤ c) (h3 : c < 256) : stN u c = u * 256 + c := by
  unfold stN
  rw [wraps_u64 (u * 256) (by omega) (by omega), wraps_u64 c h2 (by omega)]
  exact bits_join .u64 64 (by decide) wraps_u64 8 (u * 256) c (by omega) (by omega) (by omega) h2 (by omega) (by omega)
theorem xor_twice {x : Int} (h0 : 0 ≤ x) (h1 : x < 18446744073709551616) : Go.bits .xor .u64 (Go.bits .xor .u64 x 9223372036854775808) 9223372036854775808 = x := by
  obtain ⟨n, rfl⟩ := Int.eq_ofNat_of_zero_le h0
  have hn : n < 18446744073709551616 := by omega
  have e1 : ∀ a : Int, Go.bits .xor .u64 a 9223372036854775808 = ((BitVec.ofInt 64 a ^^^ BitVec.ofInt 64 9223372036854775808).toNat : Int) := fun a => by
    show IntKind.u64.wrap ((BitVec.ofInt 64 a ^^^ BitVec.ofInt 64 9223372036854775808).toNat : Int) = _
    have := (BitVec.ofInt 64 a ^^^ BitVec.ofInt 64 9223372036854775808).isLt
    rw [wraps_u64 _ (by omega) (by omega)]
  rw [e1, e1]
  simp only [BitVec.ofInt_natCast]
  rw [BitVec.ofNat_toNat, BitVec.setWidth_eq, BitVec.xor_assoc, BitVec.xor_self, BitVec.xor_zero, BitVec.toNat_ofNat, Nat.mod_eq_of_lt (by omega)]
theorem shr_dig (u : Int) (j : Nat) (hj : j ≤ 64) : shr .u64 u (j : Int) = u / 2 ^ j := by
  unfold shr
  rw [show ((j : Int)).toNat = j from by omega, show IntKind.u64.bits = 64 from rfl, Nat.min_eq_left hj]
theorem numOf_numB (v : Int) : numF (numB v) = numU v := by
  have ⟨a, b⟩ := numU_range v
  generalize hu : numU v = u at *
  have s1 : shr .u64 u 56 = u / 72057594037927936 := shr_dig u 56 (by omega)
  have s2 : shr .u64 u 48 = u / 281474976710656 := shr_dig u 48 (by omega)
  have s3 : shr .u64 u 40 = u / 1099511627776 := shr_dig u 40 (by omega)
  have s4 : shr .u64 u 32 = u / 4294967296 := shr_dig u 32 (by omega)
  have s5 : shr .u64 u 24 = u / 16777216 := shr_dig u 24 (by omega)
  have s6 : shr .u64 u 16 = u / 65536 := shr_dig u 16 (by omega)
  have s7 : shr .u64 u 8 = u / 256 := shr_dig u 8 (by omega)
  have s8 : shr .u64 u 0 = u / 1 := shr_dig u 0 (by omega)
  unfold numF numB
  rw [hu, s1, s2, s3, s4, s5, s6, s7, s8]
  simp only [List.foldl_cons, List.foldl_nil]
  have st : ∀ x y : Int, 0 ≤ x → x < 72057594037927936 → stN x (y % 256) = x * 256 + y % 256 := fun x y h0 h1 => stN_join h0 h1 (by omega) (by omega)
  rw [st 0 _ (by omega) (by omega)]
  rw [show (0 * 256 + u / 72057594037927936 % 256 : Int) = u / 72057594037927936 from by omega]
  rw [st (u / 72057594037927936) _ (by omega) (by omega), show u / 72057594037927936 * 256 + u / 281474976710656 % 256 = u / 281474976710656 from by omega]
  rw [st (u / 281474976710656) _ (by omega) (by omega), show u / 281474976710656 * 256 + u / 1099511627776 % 256 = u / 1099511627776 from by omega]
  rw [st (u / 1099511627776) _ (by omega) (by omega), show u / 1099511627776 * 256 + u / 4294967296 % 256 = u / 4294967296 from by omega]
  rw [st (u / 4294967296) _ (by omega) (by omega), show u / 4294967296 * 256 + u / 16777216 % 256 = u / 16777216 from by omega]
  rw [st (u / 16777216) _ (by omega) (by omega), show u / 16777216 * 256 + u / 65536 % 256 = u / 65536 from by omega]
  rw [st (u / 65536) _ (by omega) (by omega), show u / 65536 * 256 + u / 256 % 256 = u / 256 from by omega]
  rw [st (u / 256) _ (by omega) (by omega)]
  omega
theorem number_back {v : Int} (h0 : 0 ≤ v) (h1 : v ≤ 1099511627776) (r : List Int) : code_ReadNumber.f (numB v ++ r) = some (v, 8, 0) := by
  unfold code_ReadNumber.f
  rw [if_neg (by simp [numB_len]; omega)]
  have e : (numB v ++ r).take 8 = numB v := List.take_left' (numB_len v)
  unfold numOf
  rw [e, numOf_numB]
  unfold numU
  rw [wraps_u64 v h0 (by omega), xor_twice h0 (by omega), kw64 (by omega) (by omega)]
theorem read_back {d : List ByteArray} {f g : Int} (hd : dimsB d = true) (hf : 0 ≤ f ∧ f ≤ 1099511627776) (hg : 0 ≤ g ∧ g < 4) : Ev (fun k => key_Read.f k (wrB d f g)) (d, f, g, 0) := by
  have hl := wrB_len (f := f) (g := g) hd
  have e : wrB d f g = [] ++ groupB d ++ (numB f ++ [g]) := by simp [wrB]
  unfold key_Read.f
  rw [e] at hl ⊢
  refine read_loop (numB f ++ [g]) d [] [] _ (by omega) (Nat.le_refl _) ?_
  simp only [List.nil_append, List.length_nil, Nat.zero_add] at hl ⊢
  have hlen : (groupB d ++ (numB f ++ [g])).length = (groupB d).length + 9 := by simp [numB_len]
  have hdr : (groupB d ++ (numB f ++ [g])).drop (groupB d).length = numB f ++ [g] := List.drop_left' rfl
  have hr8 : rd (groupB d ++ (numB f ++ [g])) (((groupB d).length + 8 : Nat) : Int) = g := by
    have := rd_mid (groupB d ++ numB f) g []
    simpa [numB_len] using this
  have ew : wrap64 (((groupB d).length : Int) + 9) = (((groupB d).length + 9 : Nat) : Int) := by rw [kw64] <;> omega
  have ew8 : wrap64 (((groupB d).length : Int) + 8) = (((groupB d).length + 8 : Nat) : Int) := by rw [kw64] <;> omega
  refine Ev.step (f := fun k => key_Read.j3 k (groupB d ++ (numB f ++ [g])) ((groupB d).length : Int) false d 0 0) (fun k => ?_) (Ev.step (fun k => ?_) (Ev.now _))
  · simp only [key_Read.j2, ew, hlen]
    simp
  · simp only [key_Read.j3]
    rw [if_neg (by decide), if_pos (by omega), if_pos (by omega), show (((groupB d).length : Int)).toNat = (groupB d).length from by omega, hdr, number_back hf.1 hf.2]
    simp only [Option.bind_some, ew8, hr8]
    rw [if_pos (by omega), if_pos (by omega), kw64 (x := g) (by omega) (by omega), key_right_tells, decide_eq_true ⟨hd, hf, hg⟩]
    rfl
theorem read_text_ex (x : List Int) (hx : x.length < 1000000) (d : Nat) : ∀ (i : Nat) (acc : List Int), x.length - i = d → i ≤ x.length → acc.length ≤ i →
    ∃ (s : ByteArray) (n e : Int), Ev (fun k => code_ReadText.l0 k x acc (i : Int)) (s, n, e) ∧ (e = 0 → (i : Int) ≤ n ∧ n ≤ (x.length : Int)) := by
  induction d using Nat.strongRecOn with
  | _ d ih =>
    intro i acc hd hi ha
    by_cases hlt : i < x.length
    · by_cases h0 : rd x (i : Int) = 0
      · by_cases h1 : i + 1 = x.length
        · refine ⟨⟨#[]⟩, 0, 10, Ev.step (fun k => ?_) (Ev.now _), fun h => by omega⟩
          simp only [code_ReadText.l0, kw64o i (by omega)]
          rw [if_pos (by omega), if_pos (by omega), if_pos h0, if_pos (by omega)]
        · by_cases h2 : rd x ((i + 1 : Nat) : Int) = 1
          · refine ⟨strOfNums acc, ((i + 2 : Nat) : Int), 0, Ev.step (fun k => ?_) (Ev.now _), fun h => by omega⟩
            simp only [code_ReadText.l0, kw64o i (by omega)]
            rw [if_pos (by omega), if_pos (by omega), if_pos h0, if_neg (by omega), if_pos (by omega), if_pos (by omega), if_pos h2, kw64o _ (by omega)]
          · by_cases h3 : rd x ((i + 1 : Nat) : Int) = 255
            · obtain ⟨s, n, e, h, hb⟩ := ih (x.length - (i + 2)) (by omega) (i + 2) (acc ++ [0]) rfl (by omega) (by simp; omega)
              refine ⟨s, n, e, Ev.step (fun k => ?_) h, fun h => by have := hb h; omega⟩
              simp only [code_ReadText.l0, kw64o i (by omega)]
              rw [if_pos (by omega), if_pos (by omega), if_pos h0, if_neg (by omega), if_pos (by omega), if_pos (by omega), if_neg h2, if_pos h3, if_pos (by omega), kw64o _ (by omega)]
            · refine ⟨⟨#[]⟩, 0, 3, Ev.step (fun k => ?_) (Ev.now _), fun h => by omega⟩
              simp only [code_ReadText.l0, kw64o i (by omega)]
              rw [if_pos (by omega), if_pos (by omega), if_pos h0, if_neg (by omega), if_pos (by omega), if_pos (by omega), if_neg h2, if_neg h3]
      · obtain ⟨s, n, e, h, hb⟩ := ih (x.length - (i + 1)) (by omega) (i + 1) (acc ++ [rd x (i : Int)]) rfl (by omega) (by simp; omega)
        refine ⟨s, n, e, Ev.step (fun k => ?_) h, fun h => by have := hb h; omega⟩
        simp only [code_ReadText.l0]
        rw [if_pos (by omega), if_pos (by omega), if_neg h0, if_pos (by omega), kw64o _ (by omega)]
    · refine ⟨⟨#[]⟩, 0, 10, Ev.step (fun k => ?_) (Ev.now _), fun h => by omega⟩
      simp only [code_ReadText.l0]
      rw [if_neg (by omega)]
def keyOk (r : List ByteArray × Int × Int × Int) : Prop := r.2.2.2 = 0 → dimsB r.1 = true ∧ (0 ≤ r.2.1 ∧ r.2.1 ≤ 1099511627776) ∧ 0 ≤ r.2.2.1 ∧ r.2.2.1 < 4
theorem read_end_bad (x : List Int) (i : Int) (ds : List ByteArray) : Ev (fun k => key_Read.j2 k x i false ds 0 0) ([], 0, 0, 40) := by
  refine Ev.step (f := fun k => key_Read.j3 k x i true ds 0 0) (fun k => ?_) (Ev.step (fun k => ?_) (Ev.now _))
  · simp only [key_Read.j2]; simp
  · simp only [key_Read.j3]; simp
theorem read_end (x : List Int) (hx : x.length < 1000000) (i : Nat) (hi : i ≤ x.length) (ds : List ByteArray) : ∃ r, Ev (fun k => key_Read.j2 k x (i : Int) true ds 0 0) r ∧ keyOk r := by
  have ew : wrap64 ((i : Int) + 9) = ((i + 9 : Nat) : Int) := by rw [kw64] <;> omega
  have ew8 : wrap64 ((i : Int) + 8) = ((i + 8 : Nat) : Int) := by rw [kw64] <;> omega
  by_cases h9 : x.length = i + 9
  · have hnum : code_ReadNumber.f (x.drop i) = some (numOf (x.drop i), 8, 0) := by
      unfold code_ReadNumber.f
      rw [if_neg (by rw [List.length_drop]; omega)]
    have hj : ∀ k, key_Read.j2 (k + 1) x (i : Int) true ds 0 0 = key_Read.j3 k x (i : Int) false ds 0 0 := fun k => by
      simp only [key_Read.j2, ew]
      rw [if_pos trivial, show ((x.length : Int) != ((i + 9 : Nat) : Int)) = false from by simp; omega]
    have hj3 : ∀ k, key_Read.j3 (k + 1) x (i : Int) false ds 0 0 = if decide (dimsB ds = true ∧ (0 ≤ numOf (x.drop i) ∧ numOf (x.drop i) ≤ 1099511627776) ∧ 0 ≤ wrap64 (rd x ((i + 8 : Nat) : Int)) ∧ wrap64 (rd x ((i + 8 : Nat) : Int)) < 4) = true then some (ds, numOf (x.drop i), wrap64 (rd x ((i + 8 : Nat) : Int)), 0) else some ([], 0, 0, 40) := fun k => by
      simp only [key_Read.j3]
      rw [if_neg (by decide), if_pos (by omega), if_pos (by omega), show ((i : Int)).toNat = i from by omega, hnum]
      simp only [Option.bind_some, ew8]
      rw [if_pos (by omega), if_pos (by omega), key_right_tells]
      rfl
    by_cases hr : dimsB ds = true ∧ (0 ≤ numOf (x.drop i) ∧ numOf (x.drop i) ≤ 1099511627776) ∧ 0 ≤ wrap64 (rd x ((i + 8 : Nat) : Int)) ∧ wrap64 (rd x ((i + 8 : Nat) : Int)) < 4
    · refine ⟨(ds, numOf (x.drop i), wrap64 (rd x ((i + 8 : Nat) : Int)), 0), Ev.step hj (Ev.step hj3 (Ev.congr (fun k => ?_) (Ev.now _))), fun _ => hr⟩
      rw [decide_eq_true hr, if_pos rfl]
    · refine ⟨([], 0, 0, 40), Ev.step hj (Ev.step hj3 (Ev.congr (fun k => ?_) (Ev.now _))), fun h => absurd h (by decide)⟩
      rw [decide_eq_false hr, if_neg (by decide)]
  · refine ⟨([], 0, 0, 40), Ev.step (f := fun k => key_Read.j3 k x i true ds 0 0) (fun k => ?_) (Ev.step (fun k => ?_) (Ev.now _)), fun h => absurd h (by decide)⟩
    · simp only [key_Read.j2, ew]
      rw [if_pos trivial, show ((x.length : Int) != ((i + 9 : Nat) : Int)) = true from by simp; omega]
    · simp only [key_Read.j3]; simp
theorem read_loop_ex (x : List Int) (hx : x.length < 1000000) (d : Nat) : ∀ (i : Nat) (ds : List ByteArray), x.length - i = d → i ≤ x.length → ds.length ≤ i →
    ∃ r, Ev (fun k => key_Read.l0 k x (i : Int) true ds 0 0) r ∧ keyOk r := by
  induction d using Nat.strongRecOn with
  | _ d ih =>
    intro i ds hd hi ha
    have bad : ∃ r, Ev (fun k => key_Read.j1 k x (i : Int) true true ds 0 0) r ∧ keyOk r := by
      refine ⟨([], 0, 0, 40), Ev.step (f := fun k => key_Read.j2 k x (i : Int) false ds 0 0) (fun k => ?_) (read_end_bad x i ds), fun h => absurd h (by decide)⟩
      simp only [key_Read.j1]; simp
    by_cases hlt : i < x.length
    · have hstep : ∀ k, key_Read.l0 (k + 1) x (i : Int) true ds 0 0 = key_Read.j1 k x (i : Int) true (decide (rd x (i : Int) > 1)) ds 0 0 := fun k => by
        simp only [key_Read.l0]
        rw [if_neg (by omega), if_pos (by omega), if_pos (by omega)]
      by_cases h1 : rd x (i : Int) > 1
      · obtain ⟨r, h, hk⟩ := bad
        exact ⟨r, Ev.step hstep (by rw [decide_eq_true h1]; exact h), hk⟩
      · by_cases h0 : rd x (i : Int) = 0
        · obtain ⟨r, h, hk⟩ := read_end x hx (i + 1) (by omega) ds
          refine ⟨r, Ev.step hstep ?_, hk⟩
          rw [decide_eq_false h1]
          refine Ev.step (fun k => ?_) h
          simp only [key_Read.j1]
          rw [if_neg (by decide), if_pos (by omega), if_pos (by omega), if_pos h0, kw64o _ (by omega)]
        · obtain ⟨s, n, e, ht, hn⟩ := read_text_ex (x.drop (i + 1)) (by rw [List.length_drop]; omega) _ 0 [] rfl (Nat.zero_le _) (Nat.zero_le _)
          have hj : ∀ k, key_Read.j1 (k + 1) x (i : Int) true false ds 0 0 = (code_ReadText.f k (x.drop (i + 1))).bind fun bt202 => (if bt202.2.2 = 0 then (if ds.length < 8796093022208 then (key_Read.l0 k x (wrap64 ((i : Int) + (wrap64 (bt202.2.1 + 1)))) true (ds ++ [bt202.1]) 0 0) else (none)) else (key_Read.j2 k x (i : Int) false ds 0 0)) := fun k => by
            simp only [key_Read.j1]
            rw [if_neg (by decide), if_pos (by omega), if_pos (by omega), if_neg h0, kw64o _ (by omega), if_pos (by omega), if_pos (by omega), show (((i + 1 : Nat) : Int)).toNat = i + 1 from by omega]
          by_cases he : e = 0
          · obtain ⟨hn0, hn1⟩ := hn he
            rw [List.length_drop] at hn1
            obtain ⟨m, rfl⟩ : ∃ m : Nat, n = (m : Int) := ⟨n.toNat, by omega⟩
            obtain ⟨r, h, hk⟩ := ih (x.length - (i + (m + 1))) (by omega) (i + (m + 1)) (ds ++ [s]) rfl (by omega) (by simp; omega)
            refine ⟨r, Ev.step hstep ?_, hk⟩
            rw [decide_eq_false h1]
            refine Ev.step hj (Ev.bind ht ?_)
            refine Ev.congr (fun k => ?_) h
            rw [if_pos he, if_pos (by omega), kw64o _ (by omega), kw64n _ _ (by omega)]
          · refine ⟨([], 0, 0, 40), Ev.step hstep ?_, fun h => absurd h (by decide)⟩
            rw [decide_eq_false h1]
            refine Ev.step hj (Ev.bind ht ?_)
            refine Ev.congr (fun k => ?_) (read_end_bad x i ds)
            rw [if_neg he]
    · obtain ⟨r, h, hk⟩ := bad
      refine ⟨r, Ev.step (fun k => ?_) h, hk⟩
      simp only [key_Read.l0]
      rw [if_pos (by omega)]
theorem read_ex (x : List Int) (hx : x.length < 1000000) : ∃ r, Ev (fun k => key_Read.f k x) r ∧ keyOk r := read_loop_ex x hx _ 0 [] rfl (Nat.zero_le _) (Nat.zero_le _)
theorem Ev.uniq {α : Type} {g : Nat → Option α} {a b : α} (h : Ev g a) (k : Ev g b) : a = b := by
  obtain ⟨K, h⟩ := h
  obtain ⟨K', k⟩ := k
  have h1 := h (max K K') (by omega)
  have h2 := k (max K K') (by omega)
  rw [h1] at h2
  exact Option.some.inj h2
end Go.Proofs.Ytjemmmemenljbaa.PFold
end
