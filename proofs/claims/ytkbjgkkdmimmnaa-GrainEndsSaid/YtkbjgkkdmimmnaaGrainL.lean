/- What the printed functions of layer grain come to, in the words of GrainM. -/
import Derived.Test.YtkbjgkkdmimmnaaPGrainx1
import Derived.Test.YtkbjgkkdmimmnaaPGrainx2
import Derived.Test.YtkbjgkkdmimmnaaPGrainx3
import Derived.Test.YtkbjgkkdmimmnaaGrainM
namespace Go.Proofs.Ytkbjgkkdmimmnaa.GrainL
open Go.RowKit Go.Proofs.YtkbjgkkdmimmnaaW.PrintWords Go.Proofs.YtkbjgkkdmimmnaaW.PrintLast Go.Proofs.Ytkbjgkkdmimmnaa.PGrain Go.Proofs.Ytkbjgkkdmimmnaa.GrainM

abbrev Gr := S42
def sz (gs : List Gr) (i : Nat) : Int := (rd_T42 gs (i : Int)).f0
def ag (gs : List Gr) (i : Nat) : Int := (rd_T42 gs (i : Int)).f1
/-- Rules that are right. -/
def Rgt (gs : List Gr) (keep : Int) : Prop := Rt gs.length (sz gs) (ag gs) keep
theorem w64 {x : Int} (h0 : -9223372036854775808 ≤ x) (h1 : x ≤ 9223372036854775807) : wrap64 x = x := by unfold wrap64; omega
theorem tmod_emod {a b : Int} (h : 0 ≤ a) : Int.tmod a b = a % b := Int.tmod_eq_emod_of_nonneg h

/-- A step of the ladder that is right. -/
def good (gs : List Gr) (i : Nat) : Prop := 1 ≤ sz gs i ∧ sz gs i ≤ 1099511627776 ∧ ag gs i ≤ 1099511627776 ∧ (0 < i → sz gs (i - 1) < sz gs i ∧ Int.tmod (sz gs i) (sz gs (i - 1)) = 0 ∧ ag gs (i - 1) ≤ ag gs i)

theorem right_good {gs : List Gr} {keep : Int} {n i k : Nat} {b : Bool} (hn : gs.length = n) (h4 : n ≤ 4) (hi : i < n) (hp : 0 < i → 1 ≤ sz gs (i - 1)) (h : good gs i) :
    grain_Right.l0 (k + 3) n b n i gs keep = grain_Right.l0 k n true n ((i + 1 : Nat) : Int) gs keep := by
  obtain ⟨h1, h2, h3, h5⟩ := h
  unfold sz at h1 h2 hp h5
  unfold ag at h3 h5
  have e1 : wrap64 ((i : Int) + 1) = ((i + 1 : Nat) : Int) := by rw [w64] <;> omega
  simp only [grain_Right.l0]
  rw [if_pos (by omega), if_pos (by omega), if_pos (by omega), if_pos (by omega), if_pos (by omega)]
  simp only [grain_Right.j2]
  rw [if_pos (by simpa using h3)]
  simp only [grain_Right.j3, e1]
  rcases Nat.eq_zero_or_pos i with hz | hz
  · subst hz
    rw [if_neg (by simp), if_pos (by simpa using h3)]
    congr 1
    simpa using h3
  · obtain ⟨g1, g2, g3⟩ := h5 hz
    have e2 : wrap64 ((i : Int) - 1) = ((i - 1 : Nat) : Int) := by rw [w64] <;> omega
    have hp := hp hz
    rw [if_pos (by simpa using hz), e2, if_pos (by omega), if_pos (by omega), if_pos (by omega), if_neg (by omega), if_pos g2, if_pos (by omega)]
    congr 1
    simpa using g3

theorem right_bad {gs : List Gr} {keep : Int} {n i k : Nat} {b : Bool} (hn : gs.length = n) (h4 : n ≤ 4) (hi : i < n) (hp : 0 < i → 1 ≤ sz gs (i - 1)) (h : ¬ good gs i) :
    grain_Right.l0 (k + 3) n b n i gs keep = some false := by
  unfold good at h
  unfold sz at h hp
  unfold ag at h
  have e3 : wrap64 ((i : Int) + 1) = ((i + 1 : Nat) : Int) := by rw [w64] <;> omega
  simp only [grain_Right.l0]
  rw [if_pos (by omega), if_pos (by omega), if_pos (by omega)]
  by_cases h1 : (rd_T42 gs (i : Int)).f0 ≥ 1
  · rw [if_pos h1]
    by_cases h2 : (rd_T42 gs (i : Int)).f0 ≤ 1099511627776
    · rw [if_pos h2]
      simp only [grain_Right.j2]
      by_cases h3 : (rd_T42 gs (i : Int)).f1 ≤ 1099511627776
      · rw [if_pos (by simpa using h3)]
        simp only [grain_Right.j3]
        have hz : 0 < i := by
          rcases Nat.eq_zero_or_pos i with hz | hz
          · exact absurd ⟨h1, h2, h3, fun hc => by omega⟩ h
          · exact hz
        have e2 : wrap64 ((i : Int) - 1) = ((i - 1 : Nat) : Int) := by rw [w64] <;> omega
        have hp := hp hz
        rw [if_pos (by simpa using hz), e2, if_pos (by omega), if_pos (by omega)]
        by_cases g1 : (rd_T42 gs (i : Int)).f0 > (rd_T42 gs ((i - 1 : Nat) : Int)).f0
        · rw [if_pos g1, if_neg (by omega)]
          by_cases g2 : Int.tmod (rd_T42 gs (i : Int)).f0 (rd_T42 gs ((i - 1 : Nat) : Int)).f0 = 0
          · rw [if_pos g2]
            have g3 : ¬ (rd_T42 gs (i : Int)).f1 ≥ (rd_T42 gs ((i - 1 : Nat) : Int)).f1 := fun g3 => h ⟨h1, h2, h3, fun _ => ⟨g1, g2, g3⟩⟩
            rw [if_neg g3, if_neg g3]
          · rw [if_neg g2]
        · rw [if_neg g1]
      · rw [if_neg (by simpa using h3)]
        simp [grain_Right.j3, h3]
    · rw [if_neg h2]
      simp [grain_Right.j2, grain_Right.j3]
  · rw [if_neg h1]
    simp [grain_Right.j2, grain_Right.j3]

/-- From step i on. -/
def goods (gs : List Gr) (keep : Int) (n i : Nat) : Prop := (∀ j, i ≤ j → j < n → good gs j) ∧ ag gs (n - 1) ≤ keep ∧ keep ≤ 2199023255552
open Classical in
theorem right_from {gs : List Gr} {keep : Int} {n : Nat} (hn : gs.length = n) (h0 : 1 ≤ n) (h4 : n ≤ 4) (d : Nat) : ∀ (i k : Nat), n - i = d → i ≤ n → (0 < i → 1 ≤ sz gs (i - 1)) →
    grain_Right.l0 (k + 3 * d + 1) n true n i gs keep = some (decide (goods gs keep n i)) := by
  induction d with
  | zero =>
    intro i k hd hi hp
    obtain rfl : i = n := by omega
    have e2 : wrap64 ((i : Int) - 1) = ((i - 1 : Nat) : Int) := by rw [w64] <;> omega
    simp only [grain_Right.l0]
    rw [if_neg (by omega), if_pos trivial, e2, if_pos (by omega), if_pos (by omega)]
    have hg : goods gs keep i i ↔ ag gs (i - 1) ≤ keep ∧ keep ≤ 2199023255552 := by
      unfold goods
      exact ⟨fun h => h.2, fun h => ⟨fun j h1 h2 => by omega, h⟩⟩
    by_cases hk : keep ≥ (rd_T42 gs ((i - 1 : Nat) : Int)).f1
    · rw [if_pos hk]
      congr 1
      apply decide_eq_decide.2
      rw [hg]
      exact ⟨fun h => ⟨hk, h⟩, fun h => h.2⟩
    · rw [if_neg hk]
      congr 1
      symm
      rw [decide_eq_false_iff_not, hg]
      exact fun h => hk h.1
  | succ d ih =>
    intro i k hd hi hp
    rw [show k + 3 * (d + 1) + 1 = (k + 3 * d + 1) + 3 from by omega]
    by_cases hg : good gs i
    · rw [right_good hn h4 (by omega) hp hg, ih (i + 1) k (by omega) (by omega) (fun _ => hg.1)]
      congr 1
      apply decide_eq_decide.2
      unfold goods
      refine ⟨fun h => ⟨fun j h1 h2 => ?_, h.2⟩, fun h => ⟨fun j h1 h2 => h.1 j (by omega) h2, h.2⟩⟩
      rcases Nat.lt_or_ge i j with hl | hl
      · exact h.1 j hl h2
      · obtain rfl : j = i := by omega
        exact hg
    · rw [right_bad hn h4 (by omega) hp hg]
      congr 1
      symm
      rw [decide_eq_false_iff_not]
      exact fun h => hg (h.1 i (Nat.le_refl _) (by omega))

theorem rgt_iff {gs : List Gr} {keep : Int} : Rgt gs keep ↔ 1 ≤ gs.length ∧ gs.length ≤ 4 ∧ ag gs 0 = 0 ∧ goods gs keep gs.length 0 := by
  unfold goods
  constructor
  · intro R
    refine ⟨R.one, R.four, R.first, fun j _ hj => ?_, R.kept, R.most⟩
    have hs := R.size j hj
    refine ⟨hs.1, hs.2, (R.age j hj).2, fun h0 => ?_⟩
    have hu := R.up (j - 1) (by omega)
    rw [show j - 1 + 1 = j from by omega] at hu
    exact ⟨hu.1, by rw [tmod_emod (by omega)]; exact hu.2.1, hu.2.2⟩
  · rintro ⟨h1, h4, h0, hg, hk, hm⟩
    have hages : ∀ i, i < gs.length → 0 ≤ ag gs i := by
      intro i
      induction i with
      | zero => intro _; omega
      | succ i ih =>
        intro hi
        have := ((hg (i + 1) (by omega) hi).2.2.2 (by omega)).2.2
        have := ih (by omega)
        simp only [Nat.add_sub_cancel] at *
        omega
    refine ⟨h1, h4, h0, fun i hi => ⟨(hg i (by omega) hi).1, (hg i (by omega) hi).2.1⟩, fun i hi => ⟨hages i hi, (hg i (by omega) hi).2.2.1⟩, fun i hi => ?_, hk, hm⟩
    obtain ⟨a, b, c⟩ := (hg (i + 1) (by omega) hi).2.2.2 (by omega)
    simp only [Nat.add_sub_cancel] at a b c
    refine ⟨a, ?_, c⟩
    rw [← tmod_emod (by have := (hg (i + 1) (by omega) hi).1; omega)]
    exact b

open Classical in
theorem right_tells (gs : List Gr) (keep : Int) : Ev (fun k => grain_Right.f k gs keep) (decide (Rgt gs keep)) := by
  refine ⟨20, fun k hk => ?_⟩
  obtain ⟨k, rfl⟩ : ∃ m, k = m + 20 := ⟨k - 20, by omega⟩
  show grain_Right.f (k + 20) gs keep = _
  unfold grain_Right.f
  by_cases h1 : (gs.length : Int) < 1
  · rw [if_pos h1]
    simp only [grain_Right.j0]
    rw [if_pos trivial]
    congr 1
    symm
    rw [decide_eq_false_iff_not, rgt_iff]
    intro h; omega
  · rw [if_neg h1]
    by_cases h2 : (gs.length : Int) > 4
    · rw [if_pos h2]
      simp only [grain_Right.j0]
      rw [if_pos trivial]
      congr 1
      symm
      rw [decide_eq_false_iff_not, rgt_iff]
      intro h; omega
    · rw [if_neg h2, if_pos (by omega)]
      simp only [grain_Right.j0]
      by_cases h3 : (rd_T42 gs 0).f1 = 0
      · rw [if_neg (by simpa using h3)]
        have := right_from (gs := gs) (keep := keep) rfl (by omega) (by omega) gs.length 0 (k + 18 - 3 * gs.length) (by omega) (by omega) (by omega)
        rw [show k + 18 - 3 * gs.length + 3 * gs.length + 1 = k + 19 from by omega] at this
        refine (this.trans ?_)
        congr 1
        apply decide_eq_decide.2
        rw [rgt_iff]
        exact ⟨fun h => ⟨by omega, by omega, h3, h⟩, fun h => h.2.2.2⟩
      · rw [if_pos (by simpa using h3)]
        congr 1
        symm
        rw [decide_eq_false_iff_not, rgt_iff]
        intro h; exact h3 h.2.2.1

theorem isTime_tells (t : Int) : grain_isTime.f t = some (decide (isT t)) := by
  have e : isT t ↔ (t ≥ 0 ∧ t ≤ 1099511627776) := Iff.rfl
  unfold grain_isTime.f
  by_cases h : t ≥ 0 <;> by_cases h' : t ≤ 1099511627776 <;> simp [h, h', e]

open Classical in
/-- The error of rules and times. -/
noncomputable def fitE (gs : List Gr) (keep t w : Int) : Int := if Rgt gs keep then (if isT t ∧ isT w then 0 else 1) else 30

theorem fits_tells (gs : List Gr) (keep t w : Int) : Ev (fun k => grain_fits.f k gs keep t w) (fitE gs keep t w) := by
  unfold grain_fits.f fitE
  refine Ev.bind (right_tells gs keep) ?_
  by_cases hR : Rgt gs keep
  · simp only [hR, decide_true, if_true, isTime_tells, Option.bind_some]
    by_cases h1 : isT t <;> by_cases h2 : isT w <;> simp [h1, h2] <;> exact Ev.now _
  · simp [hR]; exact Ev.now _
theorem fitE_zero {gs : List Gr} {keep t w : Int} : fitE gs keep t w = 0 ↔ Rgt gs keep ∧ isT t ∧ isT w := by
  unfold fitE
  by_cases h : Rgt gs keep <;> by_cases h2 : isT t ∧ isT w <;> simp [h, h2]

theorem end_tells {t s : Int} (ht : isT t) (h1 : 1 ≤ s) (h2 : s ≤ 1099511627776) : grain_end.f t s = some (en t s) := by
  unfold grain_end.f en
  obtain ⟨h3, h4⟩ := ht
  have h5 := Int.emod_nonneg t (show s ≠ 0 by omega)
  have h6 := Int.emod_lt_of_pos t (show 0 < s by omega)
  rw [if_neg (by omega), tmod_emod h3, w64 (x := t - t % s) (by omega) (by omega), w64 (by omega) (by omega)]

/-- From step i on, the steps up to s being old enough. -/
theorem step_from {gs : List Gr} {keep t w : Int} (R : Rgt gs keep) (ht : isT t) (hw : isT w) (d : Nat) : ∀ (i s k : Nat), gs.length - i = d → i ≤ gs.length → s + 1 = i →
    (∀ j, 0 < j → j ≤ s → old (sz gs) (ag gs) t w j) → ∃ r : Nat, grain_Step.l0 (k + d + 1) t w s gs.length i gs keep = some ((r : Int), 0) ∧ IsStep gs.length (sz gs) (ag gs) t w r := by
  have h4 := R.four
  induction d with
  | zero =>
    intro i s k hd hi hs ho
    refine ⟨s, ?_, by omega, ho, fun hc => by omega⟩
    simp only [grain_Step.l0]
    rw [if_neg (by omega)]
  | succ d ih =>
    intro i s k hd hi hs ho
    have hlt : i < gs.length := by omega
    have ha := R.age i hlt
    have hsz := R.size i hlt
    have e1 : wrap64 ((i : Int) + 1) = ((i + 1 : Nat) : Int) := by rw [w64] <;> omega
    have e2 : wrap64 (w - (rd_T42 gs (i : Int)).f1) = w - ag gs i := by
      rw [w64]
      · rfl
      · unfold ag at ha; unfold isT at hw; omega
      · unfold ag at ha; unfold isT at hw; omega
    rw [show k + (d + 1) + 1 = (k + d + 1) + 1 from by omega]
    simp only [grain_Step.l0]
    rw [if_pos (by omega), if_neg (by omega), if_pos (by omega), if_pos (by omega), e2, e1]
    have e3 : grain_end.f t (rd_T42 gs (i : Int)).f0 = some (en t (sz gs i)) := end_tells ht hsz.1 hsz.2
    rw [e3]
    simp only [Option.bind_some]
    by_cases hold : old (sz gs) (ag gs) t w i
    · rw [if_neg (by unfold old at hold; omega)]
      exact ih (i + 1) i k (by omega) (by omega) rfl (fun j h0 hj => by
        rcases Nat.lt_or_ge j i with hl | hl
        · exact ho j h0 (by omega)
        · obtain rfl : j = i := by omega
          exact hold)
    · rw [if_pos (by unfold old at hold; omega)]
      exact ⟨s, rfl, by omega, ho, fun _ => by rw [hs]; exact hold⟩

theorem step_tells {gs : List Gr} {keep t w : Int} (R : Rgt gs keep) (ht : isT t) (hw : isT w) {s : Nat} (S : IsStep gs.length (sz gs) (ag gs) t w s) : Ev (fun k => grain_Step.f k gs keep t w) ((s : Int), 0) := by
  unfold grain_Step.f
  refine Ev.bind (fits_tells gs keep t w) ?_
  rw [fitE_zero.2 ⟨R, ht, hw⟩]
  simp only [if_true]
  have h4 := R.four
  have h1 := R.one
  refine ⟨gs.length + 1, fun k hk => ?_⟩
  obtain ⟨k, rfl⟩ : ∃ m, k = (m + (gs.length - 1) + 1) + 1 := ⟨k - gs.length - 1, by omega⟩
  obtain ⟨r, hr, hS⟩ := step_from R ht hw (gs.length - 1) 1 0 k (by omega) h1 rfl (fun j h0 hj => by omega)
  obtain rfl := R.step_unique hS S
  rw [← hr]
  generalize k + (gs.length - 1) + 1 = m
  simp only [grain_Step.l0]
  rw [if_pos (by omega), if_pos trivial, show wrap64 (0 + 1) = ((1 : Nat) : Int) from by rw [w64] <;> omega]
  rfl
theorem step_errs {gs : List Gr} {keep t w : Int} (h : fitE gs keep t w ≠ 0) : Ev (fun k => grain_Step.f k gs keep t w) (0, fitE gs keep t w) := by
  unfold grain_Step.f
  refine Ev.bind (fits_tells gs keep t w) ?_
  simp only [if_neg h]
  exact Ev.now _
end Go.Proofs.Ytkbjgkkdmimmnaa.GrainL
