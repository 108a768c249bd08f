/- The references' functions of layer grain, in the words of GrainM. -/
import Derived.Test.YtkbjgkkdmimmnaaPGrainx5
import Derived.Test.YtkbjgkkdmimmnaaPGrainx6
import Derived.Test.YtkbjgkkdmimmnaaPGrainx4
import Derived.Test.YtkbjgkkdmimmnaaGrainL
namespace Go.Proofs.Ytkbjgkkdmimmnaa.GrainL
open Go.RowKit Go.Proofs.YtkbjgkkdmimmnaaW.PrintWords Go.Proofs.YtkbjgkkdmimmnaaW.PrintLast Go.Proofs.Ytkbjgkkdmimmnaa.PGrain Go.Proofs.Ytkbjgkkdmimmnaa.GrainM

theorem time_tells (t : Int) : rickyardref03_Time.f t = some (decide (isT t)) := by
  have e : isT t ↔ (t ≥ 0 ∧ t ≤ 1099511627776) := Iff.rfl
  unfold rickyardref03_Time.f
  by_cases h : t ≥ 0 <;> by_cases h' : t ≤ 1099511627776 <;> simp [h, h', e]

theorem tdiv_ediv {a b : Int} (h : 0 ≤ a) : Int.tdiv a b = a / b := Int.tdiv_eq_ediv_of_nonneg h

theorem rfloor_tells {t s : Int} (ht : isT t) (h1 : 1 ≤ s) (h2 : s ≤ 1099511627776) : rickyardref03_Floor.f t s = some (t - t % s, 0) := by
  unfold rickyardref03_Floor.f
  have h5 := Int.emod_nonneg t (show s ≠ 0 by omega)
  have h6 := Int.emod_lt_of_pos t (show 0 < s by omega)
  have hm := fl_mul t s
  have hd := Int.ediv_nonneg ht.1 (show (0 : Int) ≤ s by omega)
  have hd2 := Int.ediv_le_self s ht.1
  have h7 := ht
  obtain ⟨h3, h4⟩ := h7
  rw [time_tells]
  simp only [Option.bind_some, decide_eq_true ht, if_true]
  rw [if_neg (by omega), if_neg (by omega), if_neg (by omega), tdiv_ediv h3, w64 (x := t / s) (by omega) (by omega), Int.mul_comm, ← hm, w64 (by omega) (by omega)]
theorem rfloor_none {t s : Int} (h : ¬ (isT t ∧ 1 ≤ s ∧ s ≤ 1099511627776)) : rickyardref03_Floor.f t s = some (0, 1) := by
  unfold rickyardref03_Floor.f
  rw [time_tells]
  by_cases ht : isT t
  · simp only [Option.bind_some, decide_eq_true ht, if_true]
    by_cases h1 : s < 1
    · rw [if_pos h1]
    · rw [if_neg h1, if_pos (by
        rcases Int.lt_or_le 1099511627776 s with h2 | h2
        · exact h2
        · exact absurd ⟨ht, by omega, h2⟩ h)]
  · simp [ht]

/-- A step of the ladder that is right, as the reference asks. -/
def rgood (gs : List Gr) (i : Nat) : Prop := 1 ≤ sz gs i ∧ sz gs i ≤ 1099511627776 ∧ 0 ≤ ag gs i ∧ ag gs i ≤ 1099511627776 ∧ (i = 0 → ag gs i = 0) ∧
  (0 < i → ¬ Int.tdiv (sz gs i) (sz gs (i - 1)) < 2 ∧ Int.tmod (sz gs i) (sz gs (i - 1)) = 0 ∧ ag gs (i - 1) ≤ ag gs i)

theorem rright_good {gs : List Gr} {keep : Int} {i k : Nat} (hn : gs.length ≤ 4) (hi : i < gs.length) (hp : 0 < i → 1 ≤ sz gs (i - 1)) (h : rgood gs i) :
    rickyardref03_Right.l0 (k + 2) i gs keep = rickyardref03_Right.l0 k ((i + 1 : Nat) : Int) gs keep := by
  obtain ⟨h1, h2, h3, h4, h5, h6⟩ := h
  unfold sz at h1 h2 hp h6
  unfold ag at h3 h4 h5 h6
  have e1 : wrap64 ((i : Int) + 1) = ((i + 1 : Nat) : Int) := by rw [w64] <;> omega
  simp only [rickyardref03_Right.l0]
  rw [if_pos (by omega), if_pos (by omega), if_neg (by omega), if_neg (by omega), if_neg (by omega), if_neg (by omega)]
  rcases Nat.eq_zero_or_pos i with hz | hz
  · subst hz
    rw [if_pos (by simp)]
    simp only [rickyardref03_Right.j2, e1]
    rw [if_neg (by simpa using h5 rfl), if_neg (by omega)]
  · rw [if_neg (by omega)]
    obtain ⟨g1, g2, g3⟩ := h6 hz
    have hp := hp hz
    have e2 : wrap64 ((i : Int) - 1) = ((i - 1 : Nat) : Int) := by rw [w64] <;> omega
    have hq0 := Int.ediv_nonneg (a := (rd_T42 gs (i : Int)).f0) (b := (rd_T42 gs ((i - 1 : Nat) : Int)).f0) (by omega) (by omega)
    have hq1 := Int.ediv_le_self (a := (rd_T42 gs (i : Int)).f0) ((rd_T42 gs ((i - 1 : Nat) : Int)).f0) (by omega)
    simp only [rickyardref03_Right.j2, e1, e2]
    rw [if_neg (by simp), if_pos (by omega), if_pos (by omega), if_pos (by omega), if_neg (by omega), w64 (by rw [tdiv_ediv (by omega)]; omega) (by rw [tdiv_ediv (by omega)]; omega), if_neg g1, if_pos g2, if_neg (by omega)]
theorem rright_bad {gs : List Gr} {keep : Int} {i k : Nat} (hn : gs.length ≤ 4) (hi : i < gs.length) (hp : 0 < i → 1 ≤ sz gs (i - 1)) (h : ¬ rgood gs i) :
    rickyardref03_Right.l0 (k + 2) i gs keep = some false := by
  unfold rgood at h
  unfold sz at h hp
  unfold ag at h
  simp only [rickyardref03_Right.l0]
  rw [if_pos (by omega), if_pos (by omega)]
  by_cases h1 : (rd_T42 gs (i : Int)).f0 < 1
  · rw [if_pos h1]; simp [rickyardref03_Right.j2]
  rw [if_neg h1]
  by_cases h2 : (rd_T42 gs (i : Int)).f0 > 1099511627776
  · rw [if_pos h2]; simp [rickyardref03_Right.j2]
  rw [if_neg h2]
  by_cases h3 : (rd_T42 gs (i : Int)).f1 < 0
  · rw [if_pos h3]; simp [rickyardref03_Right.j2]
  rw [if_neg h3]
  by_cases h4 : (rd_T42 gs (i : Int)).f1 > 1099511627776
  · rw [if_pos h4]; simp [rickyardref03_Right.j2]
  rw [if_neg h4]
  rcases Nat.eq_zero_or_pos i with hz | hz
  · subst hz
    rw [if_pos (by simp)]
    simp only [rickyardref03_Right.j2]
    rw [if_pos]
    have : ¬ (rd_T42 gs ((0 : Nat) : Int)).f1 = 0 := fun hz => h ⟨by omega, by omega, by omega, by omega, fun _ => hz, fun hc => by omega⟩
    simpa using this
  · rw [if_neg (by omega)]
    have hp := hp hz
    have e2 : wrap64 ((i : Int) - 1) = ((i - 1 : Nat) : Int) := by rw [w64] <;> omega
    have hq0 := Int.ediv_nonneg (a := (rd_T42 gs (i : Int)).f0) (b := (rd_T42 gs ((i - 1 : Nat) : Int)).f0) (by omega) (by omega)
    have hq1 := Int.ediv_le_self (a := (rd_T42 gs (i : Int)).f0) ((rd_T42 gs ((i - 1 : Nat) : Int)).f0) (by omega)
    simp only [rickyardref03_Right.j2, e2]
    rw [if_neg (by simp), if_pos (by omega), if_pos (by omega), if_pos (by omega), if_neg (by omega), w64 (by rw [tdiv_ediv (by omega)]; omega) (by rw [tdiv_ediv (by omega)]; omega)]
    by_cases g1 : Int.tdiv (rd_T42 gs (i : Int)).f0 (rd_T42 gs ((i - 1 : Nat) : Int)).f0 < 2
    · rw [if_pos g1]
    rw [if_neg g1]
    by_cases g2 : Int.tmod (rd_T42 gs (i : Int)).f0 (rd_T42 gs ((i - 1 : Nat) : Int)).f0 = 0
    · rw [if_pos g2, if_pos]
      rcases Int.lt_or_le (rd_T42 gs (i : Int)).f1 (rd_T42 gs ((i - 1 : Nat) : Int)).f1 with g3 | g3
      · exact g3
      · exact absurd ⟨by omega, by omega, by omega, by omega, fun hc => by omega, fun _ => ⟨g1, g2, g3⟩⟩ h
    · rw [if_neg g2]

/-- From step i on. -/
def rgoods (gs : List Gr) (keep : Int) (i : Nat) : Prop := (∀ j, i ≤ j → j < gs.length → rgood gs j) ∧ ag gs (gs.length - 1) ≤ keep ∧ keep ≤ 2199023255552
open Classical in
theorem rright_from {gs : List Gr} {keep : Int} (h0 : 1 ≤ gs.length) (h4 : gs.length ≤ 4) (d : Nat) : ∀ (i k : Nat), gs.length - i = d → i ≤ gs.length → (0 < i → 1 ≤ sz gs (i - 1)) →
    rickyardref03_Right.l0 (k + 2 * d + 1) i gs keep = some (decide (rgoods gs keep i)) := by
  induction d with
  | zero =>
    intro i k hd hi hp
    obtain rfl : i = gs.length := by omega
    have e2 : wrap64 ((gs.length : Int) - 1) = ((gs.length - 1 : Nat) : Int) := by rw [w64] <;> omega
    simp only [rickyardref03_Right.l0]
    rw [if_neg (by omega), e2, if_pos (by omega), if_pos (by omega)]
    have hg : rgoods gs keep gs.length ↔ ag gs (gs.length - 1) ≤ keep ∧ keep ≤ 2199023255552 := by
      unfold rgoods
      exact ⟨fun h => h.2, fun h => ⟨fun j h1 h2 => by omega, h⟩⟩
    by_cases hk : keep ≥ (rd_T42 gs ((gs.length - 1 : Nat) : Int)).f1
    · rw [if_pos hk]
      congr 1
      apply decide_eq_decide.2
      rw [hg]
      exact ⟨fun h => ⟨hk, h⟩, fun h => h.2⟩
    · rw [if_neg hk]
      congr 1
      symm
      rw [decide_eq_false_iff_not, hg]
      exact fun h => hk h.1
  | succ d ih =>
    intro i k hd hi hp
    rw [show k + 2 * (d + 1) + 1 = (k + 2 * d + 1) + 2 from by omega]
    by_cases hg : rgood gs i
    · rw [rright_good h4 (by omega) hp hg, ih (i + 1) k (by omega) (by omega) (fun _ => hg.1)]
      congr 1
      apply decide_eq_decide.2
      unfold rgoods
      refine ⟨fun h => ⟨fun j h1 h2 => ?_, h.2⟩, fun h => ⟨fun j h1 h2 => h.1 j (by omega) h2, h.2⟩⟩
      rcases Nat.lt_or_ge i j with hl | hl
      · exact h.1 j hl h2
      · obtain rfl : j = i := by omega
        exact hg
    · rw [rright_bad h4 (by omega) hp hg]
      congr 1
      symm
      rw [decide_eq_false_iff_not]
      exact fun h => hg (h.1 i (Nat.le_refl _) (by omega))

theorem twice {a b : Int} (ha : 1 ≤ a) (hb : 1 ≤ b) (hm : b % a = 0) : ¬ b / a < 2 ↔ a < b := by
  obtain ⟨m, rfl⟩ := dvd_of hm
  rw [Int.mul_ediv_cancel_left _ (by omega)]
  constructor
  · intro h
    have : a * 2 ≤ a * m := Int.mul_le_mul_of_nonneg_left (by omega) (by omega)
    omega
  · intro h h2
    have : a * m ≤ a * 1 := Int.mul_le_mul_of_nonneg_left (by omega) (by omega)
    omega
theorem rrgt_iff {gs : List Gr} {keep : Int} : Rgt gs keep ↔ 1 ≤ gs.length ∧ gs.length ≤ 4 ∧ rgoods gs keep 0 := by
  unfold rgoods
  constructor
  · intro R
    refine ⟨R.one, R.four, fun j _ hj => ?_, R.kept, R.most⟩
    have hs := R.size j hj
    refine ⟨hs.1, hs.2, (R.age j hj).1, (R.age j hj).2, fun h0 => by subst h0; exact R.first, fun h0 => ?_⟩
    have hu := R.up (j - 1) (by omega)
    have hs' := R.size (j - 1) (by omega)
    rw [show j - 1 + 1 = j from by omega] at hu
    rw [tmod_emod (by omega), tdiv_ediv (by omega)]
    exact ⟨(twice hs'.1 hs.1 hu.2.1).2 hu.1, hu.2.1, hu.2.2⟩
  · rintro ⟨h1, h4, hg, hk, hm⟩
    refine ⟨h1, h4, (hg 0 (by omega) (by omega)).2.2.2.2.1 rfl, fun i hi => ⟨(hg i (by omega) hi).1, (hg i (by omega) hi).2.1⟩, fun i hi => ⟨(hg i (by omega) hi).2.2.1, (hg i (by omega) hi).2.2.2.1⟩, fun i hi => ?_, hk, hm⟩
    have hs := (hg (i + 1) (by omega) hi).1
    have hs' := (hg i (by omega) (by omega)).1
    obtain ⟨a, b, c⟩ := (hg (i + 1) (by omega) hi).2.2.2.2.2 (by omega)
    simp only [Nat.add_sub_cancel] at a b c
    rw [tmod_emod (by omega)] at b
    rw [tdiv_ediv (by omega)] at a
    exact ⟨(twice hs' hs b).1 a, b, c⟩

open Classical in
theorem rright_tells (gs : List Gr) (keep : Int) : Ev (fun k => rickyardref03_Right.f k gs keep) (decide (Rgt gs keep)) := by
  refine ⟨20, fun k hk => ?_⟩
  obtain ⟨k, rfl⟩ : ∃ m, k = m + 20 := ⟨k - 20, by omega⟩
  show rickyardref03_Right.f (k + 20) gs keep = _
  unfold rickyardref03_Right.f
  have bad : ¬ (1 ≤ gs.length ∧ gs.length ≤ 4) → rickyardref03_Right.j0 (k + 20) true gs keep = some (decide (Rgt gs keep)) := fun h => by
    simp only [rickyardref03_Right.j0]
    rw [if_pos trivial]
    congr 1
    symm
    rw [decide_eq_false_iff_not, rrgt_iff]
    exact fun h' => h ⟨h'.1, h'.2.1⟩
  by_cases h1 : (gs.length : Int) < 1
  · rw [if_pos h1]
    exact bad (fun h => by omega)
  · rw [if_neg h1]
    by_cases h2 : (gs.length : Int) > 4
    · rw [decide_eq_true h2]
      exact bad (fun h => by omega)
    · rw [decide_eq_false h2]
      simp only [rickyardref03_Right.j0, Bool.false_eq_true, if_false]
      have := rright_from (gs := gs) (keep := keep) (by omega) (by omega) gs.length 0 (k + 18 - 2 * gs.length) (by omega) (by omega) (by omega)
      rw [show k + 18 - 2 * gs.length + 2 * gs.length + 1 = k + 19 from by omega] at this
      refine (this.trans ?_)
      congr 1
      apply decide_eq_decide.2
      rw [rrgt_iff]
      exact ⟨fun h => ⟨by omega, by omega, h⟩, fun h => h.2.2⟩

theorem may_tells (gs : List Gr) (keep t w : Int) : Ev (fun k => rickyardref03_May.f k gs keep t w) (fitE gs keep t w) := by
  unfold rickyardref03_May.f fitE
  refine Ev.bind (rright_tells gs keep) ?_
  by_cases hR : Rgt gs keep
  · simp only [hR, decide_true, if_true, time_tells, Option.bind_some]
    by_cases h1 : isT t <;> by_cases h2 : isT w <;> simp [h1, h2] <;> exact Ev.now _
  · simp [hR]; exact Ev.now _
end Go.Proofs.Ytkbjgkkdmimmnaa.GrainL
