import Derived.Test.YtjemmmemenljbaaZFoldKeeps01
import Derived.Test.YtjemmmemenljbaaZFoldKeeps02
import Derived.Test.YtjemmmemenljbaaZFoldKeeps03
import Derived.Test.YtjemmmemenljbaaZFoldKeeps05
import Derived.Test.YtjemmmemenljbaaZFoldKeeps06
import Derived.Test.YtjemmmemenljbaaZFoldKeeps11
import Derived.Test.YtjemmmemenljbaaZFoldKeeps14
import Derived.Test.YtjemmmemenljbaaZFoldKeeps15
import Derived.Test.YtjemmmemenljbaaZFoldKeeps16
import Derived.Test.YtjemmmemenljbaaZFoldKeeps18
section
namespace Go.Proofs.Ytjemmmemenljbaa.GrainL
open Go.RowKit Go.Proofs.YtjemmmemenljbaaW.PrintWords Go.Proofs.YtjemmmemenljbaaW.PrintLast Go.Proofs.Ytjemmmemenljbaa.PFold Go.Proofs.Ytjemmmemenljbaa.GrainM
abbrev Gr := S67
def sz (gs : List Gr) (i : Nat) : Int := (rd_T67 gs (i : Int)).f0
def ag (gs : List Gr) (i : Nat) : Int := (rd_T67 gs (i : Int)).f1
def Rgt (gs : List Gr) (keep : Int) : Prop := Rt gs.length (sz gs) (ag gs) keep
theorem w64 {x : Int} (h0 : -9223372036854775808 ≤ x) (h1 : x ≤ 9223372036854775807) : wrap64 x = x := by unfold wrap64; omega
theorem tmod_emod {a b : Int} (h : 0 ≤ a) : Int.tmod a b = a % b := Int.tmod_eq_emod_of_nonneg h
def good (gs : List Gr) (i : Nat) : Prop := 1 ≤ sz gs i ∧ sz gs i ≤ 1099511627776 ∧ ag gs i ≤ 1099511627776 ∧ (0 < i → sz gs (i - 1) < sz gs i ∧ Int.tmod (sz gs i) (sz gs (i - 1)) = 0 ∧ ag gs (i - 1) ≤ ag gs i)
theorem right_good {gs : List Gr} {keep : Int} {n i k : Nat} {b : Bool} (hn : gs.length = n) (h4 : n ≤ 4) (hi : i < n) (hp : 0 < i → 1 ≤ sz gs (i - 1)) (h : good gs i) :
    grain_Right.l0 (k + 3) n b n i gs keep = grain_Right.l0 k n true n ((i + 1 : Nat) : Int) gs keep := by
  obtain ⟨h1, h2, h3, h5⟩ := h
  unfold sz at h1 h2 hp h5
  unfold ag at h3 h5
  have e1 : wrap64 ((i : Int) + 1) = ((i + 1 : Nat) : Int) := by rw [w64] <;> omega
  simp only [grain_Right.l0]
  rw [if_pos (by omega), if_pos (by omega), if_pos (by omega), if_pos (by omega), if_pos (by omega)]
  simp only [grain_Right.j2]
  rw [if_pos (by simpa using h3)]
  simp only [grain_Right.j3, e1]
  rcases Nat.eq_zero_or_pos i with hz | hz
  · subst hz
    rw [if_neg (by simp), if_pos (by simpa using h3)]
    congr 1
    simpa using h3
  · obtain ⟨g1, g2, g3⟩ := h5 hz
    have e2 : wrap64 ((i : Int) - 1) = ((i - 1 : Nat) : Int) := by rw [w64] <;> omega
    have hp := hp hz
    rw [if_pos (by simpa using hz), e2, if_pos (by omega), if_pos (by omega), if_pos (by omega), if_neg (by omega), if_pos g2, if_pos (by omega)]
    congr 1
    simpa using g3
theorem right_bad {gs : List Gr} {keep : Int} {n i k : Nat} {b : Bool} (hn : gs.length = n) (h4 : n ≤ 4) (hi : i < n) (hp : 0 < i → 1 ≤ sz gs (i - 1)) (h : ¬ good gs i) :
    grain_Right.l0 (k + 3) n b n i gs keep = some false := by
  unfold good at h
  unfold sz at h hp
  unfold ag at h
  have e3 : wrap64 ((i : Int) + 1) = ((i + 1 : Nat) : Int) := by rw [w64] <;> omega
  simp only [grain_Right.l0]
  rw [if_pos (by omega), if_pos (by omega), if_pos (by omega)]
  by_cases h1 : (rd_T67 gs (i : Int)).f0 ≥ 1
  · rw [if_pos h1]
    by_cases h2 : (rd_T67 gs (i : Int)).f0 ≤ 1099511627776
    · rw [if_pos h2]
      simp only [grain_Right.j2]
      by_cases h3 : (rd_T67 gs (i : Int)).f1 ≤ 1099511627776
      · rw [if_pos (by simpa using h3)]
        simp only [grain_Right.j3]
        have hz : 0 < i := by
          rcases Nat.eq_zero_or_pos i with hz | hz
          · exact absurd ⟨h1, h2, h3, fun hc => by omega⟩ h
          · exact hz
        have e2 : wrap64 ((i : Int) - 1) = ((i - 1 : Nat) : Int) := by rw [w64] <;> omega
        have hp := hp hz
        rw [if_pos (by simpa using hz), e2, if_pos (by omega), if_pos (by omega)]
        by_cases g1 : (rd_T67 gs (i : Int)).f0 > (rd_T67 gs ((i - 1 : Nat) : Int)).f0
        · rw [if_pos g1, if_neg (by omega)]
          by_cases g2 : Int.tmod (rd_T67 gs (i : Int)).f0 (rd_T67 gs ((i - 1 : Nat) : Int)).f0 = 0
          · rw [if_pos g2]
            have g3 : ¬ (rd_T67 gs (i : Int)).f1 ≥ (rd_T67 gs ((i - 1 : Nat) : Int)).f1 := fun g3 => h ⟨h1, h2, h3, fun _ => ⟨g1, g2, g3⟩⟩
            rw [if_neg g3, if_neg g3]
          · rw [if_neg g2]
        · rw [if_neg g1]
      · rw [if_neg (by simpa using h3)]
        simp [grain_Right.j3, h3]
    · rw [if_neg h2]
      simp [grain_Right.j2, grain_Right.j3]
  · rw [if_neg h1]
    simp [grain_Right.j2, grain_Right.j3]
def goods (gs : List Gr) (keep : Int) (n i : Nat) : Prop := (∀ j, i ≤ j → j < n → good gs j) ∧ ag gs (n - 1) ≤ keep ∧ keep ≤ 2199023255552
open Classical in
theorem right_from {gs : List Gr} {keep : Int} {n : Nat} (hn : gs.length = n) (h0 : 1 ≤ n) (h4 : n ≤ 4) (d : Nat) : ∀ (i k : Nat), n - i = d → i ≤ n → (0 < i → 1 ≤ sz gs (i - 1)) →
    grain_Right.l0 (k + 3 * d + 1) n true n i gs keep = some (decide (goods gs keep n i)) := by
  induction d with
  | zero =>
    intro i k hd hi hp
    obtain rfl : i = n := by omega
    have e2 : wrap64 ((i : Int) - 1) = ((i - 1 : Nat) : Int) := by rw [w64] <;> omega
    simp only [grain_Right.l0]
    rw [if_neg (by omega), if_pos trivial, e2, if_pos (by omega), if_pos (by omega)]
    have hg : goods gs keep i i ↔ ag gs (i - 1) ≤ keep ∧ keep ≤ 2199023255552 := by
      unfold goods
      exact ⟨fun h => h.2, fun h => ⟨fun j h1 h2 => by omega, h⟩⟩
    by_cases hk : keep ≥ (rd_T67 gs ((i - 1 : Nat) : Int)).f1
    · rw [if_pos hk]
      congr 1
      apply decide_eq_decide.2
      rw [hg]
      exact ⟨fun h => ⟨hk, h⟩, fun h => h.2⟩
    · rw [if_neg hk]
      congr 1
      symm
      rw [decide_eq_false_iff_not, hg]
      exact fun h => hk h.1
  | succ d ih =>
    intro i k hd hi hp
    rw [show k + 3 * (d + 1) + 1 = (k + 3 * d + 1) + 3 from by omega]
    by_cases hg : good gs i
    · rw [right_good hn h4 (by omega) hp hg, ih (i + 1) k (by omega) (by omega) (fun _ => hg.1)]
      congr 1
      apply decide_eq_decide.2
      unfold goods
      refine ⟨fun h => ⟨fun j h1 h2 => ?_, h.2⟩, fun h => ⟨fun j h1 h2 => h.1 j (by omega) h2, h.2⟩⟩
      rcases Nat.lt_or_ge i j with hl | hl
      · exact h.1 j hl h2
      · obtain rfl : j = i := by omega
        exact hg
    · rw [right_bad hn h4 (by omega) hp hg]
      congr 1
      symm
      rw [decide_eq_false_iff_not]
      exact fun h => hg (h.1 i (Nat.le_refl _) (by omega))
theorem rgt_iff {gs : List Gr} {keep : Int} : Rgt gs keep ↔ 1 ≤ gs.length ∧ gs.length ≤ 4 ∧ ag gs 0 = 0 ∧ goods gs keep gs.length 0 := by
  unfold goods
  constructor
  · intro R
    refine ⟨R.one, R.four, R.first, fun j _ hj => ?_, R.kept, R.most⟩
    have hs := R.size j hj
    refine ⟨hs.1, hs.2, (R.age j hj).2, fun h0 => ?_⟩
    have hu := R.up (j - 1) (by omega)
    rw [show j - 1 + 1 = j from by omega] at hu
    exact ⟨hu.1, by rw [tmod_emod (by omega)]; exact hu.2.1, hu.2.2⟩
  · rintro ⟨h1, h4, h0, hg, hk, hm⟩
    have hages : ∀ i, i < gs.length → 0 ≤ ag gs i := by
      intro i
      induction i with
      | zero => intro _; omega
      | succ i ih =>
        intro hi
        have := ((hg (i + 1) (by omega) hi).2.2.2 (by omega)).2.2
        have := ih (by omega)
        simp only [Nat.add_sub_cancel] at *
        omega
    refine ⟨h1, h4, h0, fun i hi => ⟨(hg i (by omega) hi).1, (hg i (by omega) hi).2.1⟩, fun i hi => ⟨hages i hi, (hg i (by omega) hi).2.2.1⟩, fun i hi => ?_, hk, hm⟩
    obtain ⟨a, b, c⟩ := (hg (i + 1) (by omega) hi).2.2.2 (by omega)
    simp only [Nat.add_sub_cancel] at a b c
    refine ⟨a, ?_, c⟩
    rw [← tmod_emod (by have := (hg (i + 1) (by omega) hi).1; omega)]
    exact b
open Classical in
theorem right_tells (gs : List Gr) (keep : Int) : Ev (fun k => grain_Right.f k gs keep) (decide (Rgt gs keep)) := by
  refine ⟨20, fun k hk => ?_⟩
  obtain ⟨k, rfl⟩ : ∃ m, k = m + 20 := ⟨k - 20, by omega⟩
  show grain_Right.f (k + 20) gs keep = _
  unfold grain_Right.f
  by_cases h1 : (gs.length : Int) < 1
  · rw [if_pos h1]
    simp only [grain_Right.j0]
    rw [if_pos trivial]
    congr 1
    symm
    rw [decide_eq_false_iff_not, rgt_iff]
    intro h; omega
  · rw [if_neg h1]
    by_cases h2 : (gs.length : Int) > 4
    · rw [if_pos h2]
      simp only [grain_Right.j0]
      rw [if_pos trivial]
      congr 1
      symm
      rw [decide_eq_false_iff_not, rgt_iff]
      intro h; omega
    · rw [if_neg h2, if_pos (by omega)]
      simp only [grain_Right.j0]
      by_cases h3 : (rd_T67 gs 0).f1 = 0
      · rw [if_neg (by simpa using h3)]
        have := right_from (gs := gs) (keep := keep) rfl (by omega) (by omega) gs.length 0 (k + 18 - 3 * gs.length) (by omega) (by omega) (by omega)
        rw [show k + 18 - 3 * gs.length + 3 * gs.length + 1 = k + 19 from by omega] at this
        refine (this.trans ?_)
        congr 1
        apply decide_eq_decide.2
        rw [rgt_iff]
        exact ⟨fun h => ⟨by omega, by omega, h3, h⟩, fun h => h.2.2.2⟩
      · rw [if_pos (by simpa using h3)]
        congr 1
        symm
        rw [decide_eq_false_iff_not, rgt_iff]
        intro h; exact h3 h.2.2.1
theorem isTime_tells (t : Int) : grain_isTime.f t = some (decide (isT t)) := by
  have e : isT t ↔ (t ≥ 0 ∧ t ≤ 1099511627776) := Iff.rfl
  unfold grain_isTime.f
  by_cases h : t ≥ 0 <;> by_cases h' : t ≤ 1099511627776 <;> simp [h, h', e]
open Classical in
noncomputable def fitE (gs : List Gr) (keep t w : Int) : Int := if Rgt gs keep then (if isT t ∧ isT w then 0 else 1) else 30
theorem fits_tells (gs : List Gr) (keep t w : Int) : Ev (fun k => grain_fits.f k gs keep t w) (fitE gs keep t w) := by
  unfold grain_fits.f fitE
  refine Ev.bind (right_tells gs keep) ?_
  by_cases hR : Rgt gs keep
  · simp only [hR, decide_true, if_true, isTime_tells, Option.bind_some]
    by_cases h1 : isT t <;> by_cases h2 : isT w <;> simp [h1, h2] <;> exact Ev.now _
  · simp [hR]; exact Ev.now _
theorem fitE_zero {gs : List Gr} {keep t w : Int} : fitE gs keep t w = 0 ↔ Rgt gs keep ∧ isT t ∧ isT w := by
  unfold fitE
  by_cases h : Rgt gs keep <;> by_cases h2 : isT t ∧ isT w <;> simp [h, h2]
theorem end_tells {t s : Int} (ht : isT t) (h1 : 1 ≤ s) (h2 : s ≤ 1099511627776) : grain_end.f t s = some (en t s) := by
  unfold grain_end.f en
  obtain ⟨h3, h4⟩ := ht
  have h5 := Int.emod_nonneg t (show s ≠ 0 by omega)
  have h6 := Int.emod_lt_of_pos t (show 0 < s by omega)
  rw [if_neg (by omega), tmod_emod h3, w64 (x := t - t % s) (by omega) (by omega), w64 (by omega) (by omega)]
theorem step_from {gs : List Gr} {keep t w : Int} (R : Rgt gs keep) (ht : isT t) (hw : isT w) (d : Nat) : ∀ (i s k : Nat), gs.length - i = d → i ≤ gs.length → s + 1 = i →
    (∀ j, 0 < j → j ≤ s → old (sz gs) (ag gs) t w j) → ∃ r : Nat, grain_Step.l0 (k + d + 1) t w s gs.length i gs keep = some ((r : Int), 0) ∧ IsStep gs.length (sz gs) (ag gs) t w r := by
  have h4 := R.four
  induction d with
  | zero =>
    intro i s k hd hi hs ho
    refine ⟨s, ?_, by omega, ho, fun hc => by omega⟩
    simp only [grain_Step.l0]
    rw [if_neg (by omega)]
  | succ d ih =>
    intro i s k hd hi hs ho
    have hlt : i < gs.length := by omega
    have ha := R.age i hlt
    have hsz := R.size i hlt
    have e1 : wrap64 ((i : Int) + 1) = ((i + 1 : Nat) : Int) := by rw [w64] <;> omega
    have e2 : wrap64 (w - (rd_T67 gs (i : Int)).f1) = w - ag gs i := by
      rw [w64]
      · rfl
      · unfold ag at ha; unfold isT at hw; omega
      · unfold ag at ha; unfold isT at hw; omega
    rw [show k + (d + 1) + 1 = (k + d + 1) + 1 from by omega]
    simp only [grain_Step.l0]
    rw [if_pos (by omega), if_neg (by omega), if_pos (by omega), if_pos (by omega), e2, e1]
    have e3 : grain_end.f t (rd_T67 gs (i : Int)).f0 = some (en t (sz gs i)) := end_tells ht hsz.1 hsz.2
    rw [e3]
    simp only [Option.bind_some]
    by_cases hold : old (sz gs) (ag gs) t w i
    · rw [if_neg (by unfold old at hold; omega)]
      exact ih (i + 1) i k (by omega) (by omega) rfl (fun j h0 hj => by
        rcases Nat.lt_or_ge j i with hl | hl
        · exact ho j h0 (by omega)
        · obtain rfl : j = i := by omega
          exact hold)
    · rw [if_pos (by unfold old at hold; omega)]
      exact ⟨s, rfl, by omega, ho, fun _ => by rw [hs]; exact hold⟩
theorem step_tells {gs : List Gr} {keep t w : Int} (R : Rgt gs keep) (ht : isT t) (hw : isT w) {s : Nat} (S : IsStep gs.length (sz gs) (ag gs) t w s) : Ev (fun k => grain_Step.f k gs keep t w) ((s : Int), 0) := by
  unfold grain_Step.f
  refine Ev.bind (fits_tells gs keep t w) ?_
  rw [fitE_zero.2 ⟨R, ht, hw⟩]
  simp only [if_true]
  have h4 := R.four
  have h1 := R.one
  refine ⟨gs.length + 1, fun k hk => ?_⟩
  obtain ⟨k, rfl⟩ : ∃ m, k = (m + (gs.length - 1) + 1) + 1 := ⟨k - gs.length - 1, by omega⟩
  obtain ⟨r, hr, hS⟩ := step_from R ht hw (gs.length - 1) 1 0 k (by omega) h1 rfl (fun j h0 hj => by omega)
  obtain rfl := R.step_unique hS S
  rw [← hr]
  generalize k + (gs.length - 1) + 1 = m
  simp only [grain_Step.l0]
  rw [if_pos (by omega), if_pos trivial, show wrap64 (0 + 1) = ((1 : Nat) : Int) from by rw [w64] <;> omega]
  rfl
end Go.Proofs.Ytjemmmemenljbaa.GrainL
end
section
namespace Go.Proofs.Ytjemmmemenljbaa.GrainL
open Go.RowKit Go.Proofs.YtjemmmemenljbaaW.PrintWords Go.Proofs.YtjemmmemenljbaaW.PrintLast Go.Proofs.Ytjemmmemenljbaa.PFold Go.Proofs.Ytjemmmemenljbaa.GrainM
theorem rd_sz (gs : List Gr) (i : Nat) : (rd_T67 gs (i : Int)).f0 = sz gs i := rfl
open Classical in
theorem expired_tells {gs : List Gr} {keep t w : Int} (R : Rgt gs keep) (ht : isT t) (hw : isT w) :
    Ev (fun k => grain_Expired.f k gs keep t w) (decide (en t (sz gs (gs.length - 1)) ≤ w - keep), 0) := by
  unfold grain_Expired.f
  refine Ev.bind (fits_tells gs keep t w) ?_
  have h1 := R.one
  have h4 := R.four
  have hk : ag gs (gs.length - 1) ≤ keep := R.kept
  have ha := R.age (gs.length - 1) (by omega)
  have hm : keep ≤ 2199023255552 := R.most
  have hs := R.size (gs.length - 1) (by omega)
  have e : wrap64 ((gs.length : Int) - 1) = ((gs.length - 1 : Nat) : Int) := by rw [w64] <;> omega
  have e2 : wrap64 (w - keep) = w - keep := by
    obtain ⟨h8, h9⟩ := hw
    rw [w64] <;> omega
  simp only [fitE_zero.2 ⟨R, ht, hw⟩, if_true, e, rd_sz, e2]
  simp only [if_pos (show (0 : Int) ≤ ((gs.length - 1 : Nat) : Int) by omega), if_pos (show ((gs.length - 1 : Nat) : Int) < (gs.length : Int) by omega), end_tells ht hs.1 hs.2, Option.bind_some]
  have : (decide (en t (sz gs (gs.length - 1)) ≤ w - keep)) = @decide (en t (sz gs (gs.length - 1)) ≤ w - keep) (propDecidable _) := by congr
  rw [this]
  exact Ev.now _
theorem floor_tells {t s : Int} (ht : isT t) (h1 : 1 ≤ s) (h2 : s ≤ 1099511627776) : grain_Floor.f t s = some (t - t % s, 0) := by
  unfold grain_Floor.f
  have h5 := Int.emod_nonneg t (show s ≠ 0 by omega)
  have h6 := Int.emod_lt_of_pos t (show 0 < s by omega)
  have h7 := ht
  obtain ⟨h3, h4⟩ := h7
  rw [isTime_tells]
  simp only [Option.bind_some, decide_eq_true ht, if_true]
  rw [if_neg (by omega), if_neg (by omega), if_neg (by omega), tmod_emod h3, w64 (by omega) (by omega)]
end Go.Proofs.Ytjemmmemenljbaa.GrainL
end
section
namespace Go.Proofs.Ytjemmmemenljbaa.PFold
open Go.RowKit Go.Proofs.YtjemmmemenljbaaW.PrintWords Go.Proofs.YtjemmmemenljbaaW.PrintLast Go.Proofs.YtjemmmemenljbaaW.PrintMore Go.Proofs.Ytjemmmemenljbaa.GrainM Go.Proofs.Ytjemmmemenljbaa.GrainL
structure FitK (gs : List Gr) (b : List Int) (d : List ByteArray) (f : Int) (g : Nat) : Prop where
  read : Ev (fun k => key_Read.f k b) (d, f, (g : Int), 0)
  dims : dimsB d = true
  time : isT f
  gran : g < gs.length
  from_ : f % sz gs g = 0
def fitK (gs : List Gr) (b : List Int) : Prop := ∃ d f g, FitK gs b d f g
def agR (a : Ag) : Prop := a.f3 ≤ a.f4 ∧ (a.f1 = true → a.f0 = mW - 1)
def fitX (gs : List Gr) (x : En) : Prop := fitK gs x.f0 ∧ x.f1.f0 ≠ 0 ∧ agR x.f1
open Classical in
theorem right_ag {a : Ag} (h0 : a.f0 ≠ 0) : agg_Right.f a.f0 a.f1 a.f2.f0 a.f2.f1 a.f3 a.f4 = some (decide (agR a)) := by
  unfold agg_Right.f agR
  rw [if_neg h0]
  by_cases h1 : a.f3 ≤ a.f4
  · by_cases h2 : a.f1 = true
    · rw [if_pos h1, if_pos h2]
      have : (a.f0 == 18446744073709551615) = decide (a.f0 = 18446744073709551615) := rfl
      rw [this]
      simp [h1, h2, mW]
    · rw [if_pos h1, if_neg h2]; simp [h1, h2]
  · rw [if_neg h1]; simp [h1]
open Classical in
theorem fits_tells1 {gs : List Gr} {keep : Int} (R : Rgt gs keep) (x : En) (hb : x.f0.length < 1000000) :
    Ev (fun k => fold_fits.f k gs keep x.f0 x.f1.f0 x.f1.f1 x.f1.f2.f0 x.f1.f2.f1 x.f1.f3 x.f1.f4) (decide (fitX gs x)) := by
  obtain ⟨⟨d, f, g, e⟩, h, hk⟩ := read_ex x.f0 hb
  have h4 := R.four
  unfold fold_fits.f
  refine Ev.bind h ?_
  have no : ∀ hh : ¬ fitX gs x, ∀ {q : Nat → Option Bool}, (∀ k, q k = some false) → Ev q (decide (fitX gs x)) := fun hh q hq => by
    rw [decide_eq_false hh]
    exact Ev.congr hq (Ev.now _)
  have un : ∀ d' f' g', FitK gs x.f0 d' f' g' → d = d' ∧ f = f' ∧ g = (g' : Int) ∧ e = 0 := fun d' f' g' F => by
    have := Ev.uniq h F.read
    simpa using this
  by_cases he : e = 0
  · obtain ⟨hd, hf, hg0, hg4⟩ := hk he
    subst he
    obtain ⟨n, rfl⟩ : ∃ n : Nat, g = (n : Int) := ⟨g.toNat, by simp only at hg0; omega⟩
    by_cases hn : n < gs.length
    · have hs := R.size n hn
      have e1 : Int.tmod f (sz gs n) = f % sz gs n := tmod_emod hf.1
      by_cases hm : f % sz gs n = 0
      · by_cases h0 : x.f1.f0 = 0
        · refine no (fun hh => hh.2.1 h0) (fun k => ?_)
          simp only [rd_sz, e1]
          rw [if_pos trivial, if_pos (by omega), if_pos (by omega), if_neg (by omega), if_pos hm, if_pos h0]
        · refine Ev.congr (fun k => ?_) (Ev.now _)
          simp only [rd_sz, e1, right_ag h0]
          rw [if_pos trivial, if_pos (by omega), if_pos (by omega), if_neg (by omega), if_pos hm, if_neg h0, Option.bind_some]
          congr 1
          apply decide_eq_decide.2
          exact ⟨fun ha => ⟨⟨d, f, n, h, hd, hf, hn, hm⟩, h0, ha⟩, fun hh => hh.2.2⟩
      · refine no (fun hh => ?_) (fun k => ?_)
        · obtain ⟨⟨d', f', g', F⟩, _⟩ := hh
          obtain ⟨rfl, rfl, hg, _⟩ := un _ _ _ F
          obtain rfl : n = g' := by omega
          exact hm F.from_
        · simp only [rd_sz, e1]
          rw [if_pos trivial, if_pos (by omega), if_pos (by omega), if_neg (by omega), if_neg hm]
    · refine no (fun hh => ?_) (fun k => ?_)
      · obtain ⟨⟨d', f', g', F⟩, _⟩ := hh
        obtain ⟨rfl, rfl, hg, _⟩ := un _ _ _ F
        have := F.gran
        omega
      · simp only
        rw [if_pos trivial, if_neg (by omega)]
  · refine no (fun hh => ?_) (fun k => ?_)
    · obtain ⟨⟨d', f', g', F⟩, _⟩ := hh
      exact he (un _ _ _ F).2.2.2
    · simp only
      rw [if_neg he]
theorem any_tells {q : Nat → En → Option Bool} {p : En → Bool} : ∀ {l : List En}, (∀ x ∈ l, Ev (fun k => q k x) (p x)) → Ev (fun k => anyQ (q k) l) (l.any p)
  | [], _ => Ev.now _
  | x :: r, h => by
    have ih := any_tells (fun y hy => h y (List.mem_cons_of_mem _ hy))
    show Ev (fun k => (q k x).bind _) _
    refine Ev.bind (h x List.mem_cons_self) ?_
    rw [List.any_cons]
    cases hp : p x with
    | true => exact Ev.congr (fun k => by simp) (Ev.now _)
    | false => exact Ev.congr (fun k => by simp) ih
open Classical in
theorem fits_tells2 {gs : List Gr} {keep : Int} (R : Rgt gs keep) {l : List En} (hl : l.length < 1000000) (hb : ∀ x ∈ l, x.f0.length < 1000000) :
    Ev (fun k => fold_Fits.f k gs keep l) (decide (∀ x ∈ l, fitX gs x)) := by
  unfold fold_Fits.f
  by_cases h0 : l.length = 0
  · obtain rfl := List.length_eq_zero_iff.1 h0
    exact Ev.congr (fun k => by simp) (Ev.now _)
  · simp only [if_neg h0]
    refine Ev.bind (right_tells gs keep) ?_
    simp only [decide_eq_true R, if_true, if_pos (show l.length ≤ 140737488355328 by omega)]
    refine Ev.bind (any_tells (p := fun x => !decide (fitX gs x)) (fun x hx => ?_)) (Ev.congr (fun k => ?_) (Ev.now _))
    · unfold unfit
      exact Ev.bind (fits_tells1 R x (hb x hx)) (Ev.now _)
    · congr 1
      by_cases hh : ∀ x ∈ l, fitX gs x
      · rw [decide_eq_true hh, List.any_eq_false.2 (fun x hx => by simp [hh x hx])]; rfl
      · rw [decide_eq_false hh]
        have : l.any (fun x => !decide (fitX gs x)) = true := by
          obtain ⟨x, hx⟩ := Classical.not_forall.1 hh
          obtain ⟨hx, hn⟩ := Classical.not_imp.1 hx
          exact List.any_eq_true.2 ⟨x, hx, by simp [hn]⟩
        rw [this]; rfl
def okL (gs : List Gr) (keep wm : Int) (l : List En) : Prop := Rgt gs keep ∧ isT wm ∧ SortedE l ∧ ∀ x ∈ l, fitX gs x
theorem sorted_adj {l : List En} (h : ∀ j (hj : j < l.length), 0 < j → cmpB (l[j - 1]'(by omega)).f0 l[j].f0 < 0) : SortedE l := by
  refine List.pairwise_iff_getElem.2 (fun i j hi hj hij => ?_)
  induction j with
  | zero => omega
  | succ j ih =>
    have h1 := h (j + 1) hj (by omega)
    simp only [Nat.add_sub_cancel] at h1
    rcases Nat.lt_or_ge i j with hl | hl
    · exact cmpB_trans (ih (by omega) hl) h1
    · obtain rfl : i = j := by omega
      exact h1
open Classical in
theorem check_loop {gs : List Gr} {keep : Int} (R : Rgt gs keep) {l : List En} (hl : l.length < 1000000) (hb : ∀ x ∈ l, x.f0.length < 1000000) (hB : ∀ x ∈ l, x.f0.all isB = true) (d : Nat) : ∀ i : Nat, l.length - i = d → i ≤ l.length →
    ∃ e, Ev (fun k => fold_check.l0 k l (l.length : Int) (i : Int) gs keep) e ∧ (e = 0 ↔ (∀ j (hj : j < l.length), i ≤ j → 0 < j → cmpB (l[j - 1]'(by omega)).f0 l[j].f0 < 0) ∧ ∀ x ∈ l, fitX gs x) := by
  induction d with
  | zero =>
    intro i hd hi
    refine ⟨if ∀ x ∈ l, fitX gs x then 0 else 3, Ev.step (f := fun k => (fold_Fits.f k gs keep l).bind fun t121 => (if t121 = true then (some 0) else (some 3))) (fun k => ?_) (Ev.bind (fits_tells2 R hl hb) (Ev.congr (fun k => ?_) (Ev.now _))), ?_⟩
    · simp only [fold_check.l0]
      rw [if_neg (by omega)]
    · by_cases hh : ∀ x ∈ l, fitX gs x
      · rw [decide_eq_true hh, if_pos rfl, if_pos hh]
      · rw [decide_eq_false hh, if_neg (by decide), if_neg hh]
    · by_cases hh : ∀ x ∈ l, fitX gs x
      · rw [if_pos hh]
        exact ⟨fun _ => ⟨fun j hj hij => by omega, hh⟩, fun _ => rfl⟩
      · rw [if_neg hh]
        exact ⟨fun h => by omega, fun h => absurd h.2 hh⟩
  | succ d ih =>
    intro i hd hi
    have hlt : i < l.length := by omega
    obtain ⟨e, h, he⟩ := ih (i + 1) (by omega) (by omega)
    rcases Nat.eq_zero_or_pos i with h0 | h0
    · subst h0
      refine ⟨e, Ev.step (fun k => ?_) h, ?_⟩
      · simp only [fold_check.l0]
        rw [if_pos (by omega), if_neg (by omega), kw64 (by omega) (by omega)]
        rfl
      · rw [he]
        exact ⟨fun hh => ⟨fun j hj h1 h2 => hh.1 j hj (by omega) h2, hh.2⟩, fun hh => ⟨fun j hj h1 h2 => hh.1 j hj (by omega) h2, hh.2⟩⟩
    · have hc : bytes_Compare.f (rd_T51 l ((i - 1 : Nat) : Int)).f0 (rd_T51 l (i : Int)).f0 = some (cmpB (l[i - 1]'(by omega)).f0 l[i].f0) := by
        rw [rd_ent hlt, rd_ent (show i - 1 < l.length by omega)]
        unfold bytes_Compare.f
        rw [if_pos ⟨hB _ (List.getElem_mem _), hB _ (List.getElem_mem _)⟩]
      have ew : wrap64 ((i : Int) - 1) = ((i - 1 : Nat) : Int) := by rw [kw64] <;> omega
      by_cases hge : cmpB (l[i - 1]'(by omega)).f0 l[i].f0 ≥ 0
      · refine ⟨50, Ev.step (fun k => ?_) (Ev.now _), ⟨fun h => by omega, fun hh => ?_⟩⟩
        · simp only [fold_check.l0, ew]
          rw [if_pos (by omega), if_pos (by omega), if_pos (by omega), if_pos (by omega), if_pos (by omega), if_pos (by omega), hc, Option.bind_some, if_pos hge]
        · have := hh.1 i hlt (Nat.le_refl _) h0
          omega
      · refine ⟨e, Ev.step (fun k => ?_) h, ?_⟩
        · simp only [fold_check.l0, ew]
          rw [if_pos (by omega), if_pos (by omega), if_pos (by omega), if_pos (by omega), if_pos (by omega), if_pos (by omega), hc, Option.bind_some, if_neg hge, kw64o i (by omega)]
        · rw [he]
          refine ⟨fun hh => ⟨fun j hj h1 h2 => ?_, hh.2⟩, fun hh => ⟨fun j hj h1 h2 => hh.1 j hj (by omega) h2, hh.2⟩⟩
          rcases Nat.lt_or_ge i j with hl' | hl'
          · exact hh.1 j hj hl' h2
          · obtain rfl : i = j := by omega
            omega
theorem check_tells (gs : List Gr) (keep wm : Int) {l : List En} (hl : l.length < 1000000) (hb : ∀ x ∈ l, x.f0.length < 1000000) (hB : ∀ x ∈ l, x.f0.all isB = true) :
    ∃ e, Ev (fun k => fold_check.f k gs keep wm l) e ∧ (e = 0 ↔ okL gs keep wm l) := by
  unfold fold_check.f
  by_cases R : Rgt gs keep
  · by_cases h0 : wm < 0
    · refine ⟨1, Ev.bind (right_tells gs keep) (Ev.congr (fun k => ?_) (Ev.now _)), ⟨fun h => by omega, fun h => ?_⟩⟩
      · simp [R, h0]
      · have := h.2.1; unfold isT at this; omega
    · by_cases h1 : wm > 1099511627776
      · refine ⟨1, Ev.bind (right_tells gs keep) (Ev.congr (fun k => ?_) (Ev.now _)), ⟨fun h => by omega, fun h => ?_⟩⟩
        · have h1' : 1099511627776 < wm := h1
          simp [R, h0, h1']
        · have := h.2.1; unfold isT at this; omega
      · obtain ⟨e, h, he⟩ := check_loop R hl hb hB l.length 0 (by omega) (Nat.zero_le _)
        refine ⟨e, Ev.bind (right_tells gs keep) (Ev.congr (fun k => ?_) h), ?_⟩
        · rw [if_pos (by simp [R]), if_neg h0, if_neg h1]
          rfl
        · rw [he]
          constructor
          · rintro ⟨a, b⟩
            exact ⟨R, by unfold isT; omega, sorted_adj (fun j hj h2 => a j hj (Nat.zero_le _) h2), b⟩
          · rintro ⟨_, _, a, b⟩
            exact ⟨fun j hj _ h2 => sorted_lt a (by omega) hj, b⟩
  · refine ⟨30, Ev.bind (right_tells gs keep) (Ev.congr (fun k => ?_) (Ev.now _)), ⟨fun h => by omega, fun h => absurd h.1 R⟩⟩
    simp [R]
theorem at_tells {gs : List Gr} {keep wm : Int} (R : Rgt gs keep) (hw : isT wm) {b : List Int} {d : List ByteArray} {f : Int} {g s m : Nat} (F : FitK gs b d f g) (S : IsStep gs.length (sz gs) (ag gs) f wm s) (hm : m = max g s) :
    Ev (fun k => fold_at.f k gs keep wm b) (wrB d (f - f % sz gs m) (m : Int), (open Classical in decide (en f (sz gs (gs.length - 1)) ≤ wm - keep))) := by
  have h4 := R.four
  have hg := F.gran
  have hsl := S.lt
  have hml : m < gs.length := by omega
  have hz := R.size m hml
  unfold fold_at.f
  refine Ev.bind F.read (Ev.bind (expired_tells R F.time hw) (Ev.bind (step_tells R F.time hw S) ?_))
  have emx : mx (g : Int) (s : Int) = (m : Int) := by unfold mx; split <;> omega
  simp only [emx, if_pos (show (0 : Int) ≤ (m : Int) by omega), if_pos (show (m : Int) < (gs.length : Int) by omega), rd_sz, floor_tells F.time hz.1 hz.2, Option.bind_some]
  have f0 := fl_nonneg F.time.1 hz.1
  have f1 := fl_le (t := f) hz.1
  have ft := F.time.2
  exact Ev.bind (write_tells F.dims ⟨f0, by omega⟩ ⟨by omega, by omega⟩) (Ev.now _)
open Classical in
noncomputable def AtK (gs : List Gr) (keep wm : Int) (b : List Int) : Option (List Int) := if h : ∃ o, Ev (fun k => fold_at.f k gs keep wm b) (o, false) then some h.choose else none
theorem atK_gone {gs : List Gr} {keep wm : Int} {b o : List Int} (h : Ev (fun k => fold_at.f k gs keep wm b) (o, true)) : AtK gs keep wm b = none := by
  unfold AtK
  rw [dif_neg]
  rintro ⟨o', h'⟩
  have := Ev.uniq h h'
  simp at this
theorem atK_some {gs : List Gr} {keep wm : Int} {b o : List Int} (h : Ev (fun k => fold_at.f k gs keep wm b) (o, false)) : AtK gs keep wm b = some o := by
  unfold AtK
  have hh : ∃ o, Ev (fun k => fold_at.f k gs keep wm b) (o, false) := ⟨o, h⟩
  rw [dif_pos hh]
  have := Ev.uniq h hh.choose_spec
  simp only [Prod.mk.injEq, and_true] at this
  rw [← this]
open Classical in
theorem atK_eq {gs : List Gr} {keep wm : Int} (R : Rgt gs keep) (hw : isT wm) {b : List Int} {d : List ByteArray} {f : Int} {g s m : Nat} (F : FitK gs b d f g) (S : IsStep gs.length (sz gs) (ag gs) f wm s) (hm : m = max g s) :
    AtK gs keep wm b = if en f (sz gs (gs.length - 1)) ≤ wm - keep then none else some (wrB d (f - f % sz gs m) (m : Int)) := by
  have h := at_tells R hw F S hm
  by_cases hc : en f (sz gs (gs.length - 1)) ≤ wm - keep
  · rw [if_pos hc]
    rw [decide_eq_true hc] at h
    exact atK_gone h
  · rw [if_neg hc]
    rw [decide_eq_false hc] at h
    exact atK_some h
theorem fit_wr {gs : List Gr} {keep : Int} (R : Rgt gs keep) {d : List ByteArray} {f : Int} {m : Nat} (hd : dimsB d = true) (ht : isT f) (hm : m < gs.length) : FitK gs (wrB d (f - f % sz gs m) (m : Int)) d (f - f % sz gs m) m := by
  have h4 := R.four
  have hz := R.size m hm
  have f0 := fl_nonneg ht.1 hz.1
  have f1 := fl_le (t := f) hz.1
  have ft := ht.2
  exact ⟨read_back hd ⟨f0, by omega⟩ ⟨by omega, by omega⟩, hd, ⟨f0, by omega⟩, hm, fl_mod⟩
theorem at_ex {gs : List Gr} {keep wm : Int} (R : Rgt gs keep) (hw : isT wm) {b : List Int} (hf : fitK gs b) : ∃ o t, Ev (fun k => fold_at.f k gs keep wm b) (o, t) := by
  obtain ⟨d, f, g, F⟩ := hf
  obtain ⟨s, S⟩ := R.step_ex f wm
  exact ⟨_, _, at_tells R hw F S rfl⟩
theorem atK_fit {gs : List Gr} {keep wm : Int} (R : Rgt gs keep) (hw : isT wm) {b c : List Int} (hf : fitK gs b) (h : AtK gs keep wm b = some c) : fitK gs c ∧ c.all isB = true ∧ c.length ≤ 300 := by
  have h4 := R.four
  obtain ⟨d, f, g, F⟩ := hf
  obtain ⟨s, S⟩ := R.step_ex f wm
  have hg := F.gran
  have hsl := S.lt
  rw [atK_eq R hw F S rfl] at h
  split at h
  · cases h
  · obtain rfl := Option.some.inj h
    exact ⟨⟨_, _, _, fit_wr R F.dims F.time (by omega)⟩, wrB_isB (by omega) (by omega), wrB_len F.dims⟩
structure WfE (x : En) : Prop where
  key : x.f0.all isB = true
  short : x.f0.length < 1000000
  cnt : inU x.f1.f0
  lo : inU x.f1.f2.f1
theorem okP_of {gs : List Gr} {x : En} (hw : WfE x) (h : fitX gs x) : okP x.f1 := ⟨⟨hw.cnt, hw.lo, h.2.2.2⟩, h.2.1⟩
noncomputable def foldM (gs : List Gr) (keep wm : Int) (l : List En) : List En := nrm (mapE (AtK gs keep wm) l)
theorem foldGo_tells {gs : List Gr} {keep wm : Int} (R : Rgt gs keep) (hw : isT wm) : ∀ (l p : List En), (∀ x ∈ l, fitK gs x.f0) → Good l → Good p → (∀ y ∈ p, y.f0.all isB = true) → p.length + l.length < 1000 →
    Ev (fun k => foldGo k gs keep wm l (nrm p)) (nrm (p ++ mapE (AtK gs keep wm) l))
  | [], p, _, _, _, _, _ => by simp only [foldGo, mapE, List.append_nil]; exact Ev.now _
  | x :: r, p, hf, hg, hgp, hb, hl => by
    have ⟨g1, g2⟩ := Good.cons.1 hg
    have hfx := hf x List.mem_cons_self
    have hfr : ∀ y ∈ r, fitK gs y.f0 := fun y hy => hf y (List.mem_cons_of_mem _ hy)
    simp only [List.length_cons] at hl
    obtain ⟨o, t, ha⟩ := at_ex R hw hfx
    simp only [foldGo]
    refine Ev.bind ha ?_
    cases t with
    | true =>
      rw [mapE_none (atK_gone ha)]
      exact Ev.congr (fun k => by simp) (foldGo_tells R hw r p hfr g2 hgp hb (by omega))
    | false =>
      have hs := atK_some ha
      rw [mapE_some hs]
      have ho := atK_fit R hw hfx hs
      have hnl := nrm_len p
      have hput : putE o x.f1 (nrm p) = some (insE o x.f1 (nrm p)) := putE_eq (nrm_sorted p) (by omega) (fun y hy => by obtain ⟨q, hq, e⟩ := nrm_mem hy; rw [e]; exact hb q hq) ho.2.1 (fun y hy => (nrm_good hgp y hy).1.2.1) g1.1.2.1
      have hsn : insE o x.f1 (nrm p) = nrm (p ++ [⟨o, x.f1⟩]) := (nrm_snoc (x := ⟨o, x.f1⟩) g1 hgp).symm
      have ih := foldGo_tells R hw r (p ++ [⟨o, x.f1⟩]) hfr g2 (fun y hy => by
        rcases List.mem_append.1 hy with hy | hy
        · exact hgp y hy
        · obtain rfl := List.mem_singleton.1 hy; exact g1) (fun y hy => by
        rcases List.mem_append.1 hy with hy | hy
        · exact hb y hy
        · obtain rfl := List.mem_singleton.1 hy; exact ho.2.1) (by simp; omega)
      rw [List.append_assoc] at ih
      refine Ev.congr (fun k => ?_) ih
      simp only [Bool.false_eq_true, if_false, hput, Option.bind_some, hsn]
theorem fold_tells {gs : List Gr} {keep wm : Int} {l : List En} (hl : l.length < 1000) (hw : ∀ x ∈ l, WfE x) (ho : okL gs keep wm l) : Ev (fun k => fold_Fold.f k gs keep wm l) (foldM gs keep wm l, 0) := by
  obtain ⟨e, h, he⟩ := check_tells gs keep wm (l := l) (by omega) (fun x hx => (hw x hx).short) (fun x hx => (hw x hx).key)
  have e0 := he.2 ho
  subst e0
  unfold fold_Fold.f
  refine Ev.bind h ?_
  obtain ⟨R, ht, _, hf⟩ := ho
  have := foldGo_tells R ht l [] (fun x hx => (hf x hx).1) (fun x hx => okP_of (hw x hx) (hf x hx)) Good.nil (fun y hy => by cases hy) (by simpa using hl)
  exact Ev.bind this (Ev.now _)
def okQ (a : Ag) : Prop := okP a ∧ a.f3 ≤ a.f4
theorem okQ_merge {a b : Ag} (ha : okQ a) (hb : okQ b) : okQ (mergeA a b) := by
  refine ⟨okP_merge ha.1 hb.1, ?_⟩
  rw [mergeA_eq ha.1.1 hb.1.1 ha.1.2 hb.1.2]
  have h1 := ha.2
  have h2 := hb.2
  simp only
  unfold leastI mostI
  split <;> split <;> omega
theorem ins_all {P : Ag → Prop} (hm : ∀ a b, P a → P b → P (mergeA a b)) {b : List Int} {a : Ag} (ha : P a) : ∀ {l : List En}, (∀ y ∈ l, P y.f1) → ∀ y ∈ insE b a l, P y.f1
  | [], _, y, hy => by obtain rfl := List.mem_singleton.1 hy; exact ha
  | x :: r, h, y, hy => by
    have hx := h x List.mem_cons_self
    have hr : ∀ y ∈ r, P y.f1 := fun y hy => h y (List.mem_cons_of_mem _ hy)
    rcases cmpB_tri x.f0 b with c | c | c
    · rw [ins_lt c] at hy
      rcases List.mem_cons.1 hy with rfl | hy
      · exact hx
      · exact ins_all hm ha hr y hy
    · rw [ins_eq c] at hy
      rcases List.mem_cons.1 hy with rfl | hy
      · exact hm _ _ hx ha
      · exact hr y hy
    · rw [ins_gt c] at hy
      rcases List.mem_cons.1 hy with rfl | hy
      · exact ha
      · exact h y hy
theorem nrm_all {P : Ag → Prop} (hm : ∀ a b, P a → P b → P (mergeA a b)) : ∀ {l : List En}, (∀ y ∈ l, P y.f1) → ∀ y ∈ nrm l, P y.f1
  | [], _, _, hy => by cases hy
  | x :: r, h, y, hy => ins_all hm (h x List.mem_cons_self) (nrm_all hm (fun y hy => h y (List.mem_cons_of_mem _ hy))) y hy
end Go.Proofs.Ytjemmmemenljbaa.PFold
end
section
namespace Go.Proofs.Ytjemmmemenljbaa.PFold
open Go.RowKit Go.Proofs.YtjemmmemenljbaaW.PrintWords Go.Proofs.YtjemmmemenljbaaW.PrintLast Go.Proofs.YtjemmmemenljbaaW.PrintMore Go.Proofs.Ytjemmmemenljbaa.GrainM Go.Proofs.Ytjemmmemenljbaa.GrainL
def oneA (v : Int) : Ag := ⟨1, false, ⟨v / 9223372036854775808, IntKind.u64.wrap v⟩, v, v⟩
theorem one_tells (v : Int) : agg_One.f v = some (1, false, v / 9223372036854775808, IntKind.u64.wrap v, v, v) := rfl
theorem okQ_one (v : Int) : okQ (oneA v) := ⟨⟨⟨by unfold oneA inU mW; simp, by unfold oneA inU; simp only [u64_wrap]; exact mod_mW _, fun h => by cases h⟩, by unfold oneA; simp⟩, Int.le_refl _⟩
def rightF (x : Fa) : Prop := dimsB x.f0 = true ∧ isT x.f1
def entF (gs : List Gr) (x : Fa) : En := ⟨wrB x.f0 (x.f1 - x.f1 % sz gs 0) ((0 : Nat) : Int), oneA x.f2⟩
theorem entF_fit {gs : List Gr} {keep : Int} (R : Rgt gs keep) {x : Fa} (h : rightF x) : FitK gs (entF gs x).f0 x.f0 (x.f1 - x.f1 % sz gs 0) 0 := fit_wr R h.1 h.2 R.one
theorem entF_ok {gs : List Gr} {keep : Int} (R : Rgt gs keep) {x : Fa} (h : rightF x) : fitX gs (entF gs x) ∧ WfE (entF gs x) := by
  have q := okQ_one x.f2
  refine ⟨⟨⟨_, _, _, entF_fit R h⟩, q.1.2, q.2, q.1.1.2.2⟩, ⟨wrB_isB (by omega) (by omega), ?_, q.1.1.1, q.1.1.2.1⟩⟩
  have := wrB_len (f := x.f1 - x.f1 % sz gs 0) (g := ((0 : Nat) : Int)) h.1
  show (wrB _ _ _).length < _
  omega
theorem good_entF (gs : List Gr) (l : List Fa) : Good (l.map (entF gs)) := fun y hy => by
  obtain ⟨x, _, rfl⟩ := List.mem_map.1 hy
  exact (okQ_one x.f2).1
theorem factGo_tells {gs : List Gr} {keep : Int} (R : Rgt gs keep) : ∀ (l : List Fa) (p : List En), Good p → (∀ y ∈ p, y.f0.all isB = true) → p.length + l.length < 1000 →
    ∃ o, Ev (fun k => factGo k gs l (nrm p)) o ∧ (o = none ∨ ((∀ x ∈ l, rightF x) ∧ o = some (nrm (p ++ l.map (entF gs)))))
  | [], p, _, _, _ => ⟨some (nrm p), by simp only [factGo]; exact Ev.now _, .inr ⟨fun x hx => (by cases hx), (by simp)⟩⟩
  | x :: r, p, hp, hb, hl => by
    simp only [List.length_cons] at hl
    have h1 := R.one
    have hz := R.size 0 h1
    by_cases hr : rightF x
    · have hof := (entF_ok R hr).2.key
      have hnl := nrm_len p
      have q := (okQ_one x.f2).1
      have hput : putE (entF gs x).f0 (oneA x.f2) (nrm p) = some (insE (entF gs x).f0 (oneA x.f2) (nrm p)) := putE_eq (nrm_sorted p) (by omega) (fun y hy => by obtain ⟨z, hz, e⟩ := nrm_mem hy; rw [e]; exact hb z hz) hof (fun y hy => (nrm_good hp y hy).1.2.1) q.1.2.1
      have hsn : insE (entF gs x).f0 (oneA x.f2) (nrm p) = nrm (p ++ [entF gs x]) := (nrm_snoc (x := entF gs x) q hp).symm
      obtain ⟨o, h, ho⟩ := factGo_tells R r (p ++ [entF gs x]) (fun y hy => by
        rcases List.mem_append.1 hy with hy | hy
        · exact hp y hy
        · obtain rfl := List.mem_singleton.1 hy; exact q) (fun y hy => by
        rcases List.mem_append.1 hy with hy | hy
        · exact hb y hy
        · obtain rfl := List.mem_singleton.1 hy; exact hof) (by simp; omega)
      refine ⟨o, ?_, ?_⟩
      · have f0 := fl_nonneg hr.2.1 hz.1
        have f1 := fl_le (t := x.f1) hz.1
        have ft := hr.2.2
        have ek : key_Right.f x.f0 x.f1 0 = some true := by rw [key_right_tells, decide_eq_true ⟨hr.1, hr.2, by omega, by omega⟩]
        have ef : grain_Floor.f x.f1 (rd_T67 gs 0).f0 = some (x.f1 - x.f1 % sz gs 0, 0) := floor_tells hr.2 hz.1 hz.2
        refine Ev.congr (g := fun k => factGo k gs (x :: r) (nrm p)) (f := fun k => (key_Write.f k x.f0 (x.f1 - x.f1 % sz gs 0) 0).bind fun kb => (agg_One.f x.f2).bind fun o => (putE kb.1 (agOf o) (nrm p)).bind fun a => factGo k gs r a) (fun k => ?_) ?_
        · simp only [factGo, ek, ef, Option.bind_some, if_true]
          rw [if_pos (by omega)]
        · refine Ev.bind (write_tells hr.1 ⟨f0, by omega⟩ ⟨by omega, by omega⟩) (Ev.congr (fun k => ?_) h)
          rw [one_tells, Option.bind_some]
          show (putE (entF gs x).f0 (oneA x.f2) (nrm p)).bind _ = _
          rw [hput, Option.bind_some, hsn]
      · rcases ho with ho | ⟨ha, ho⟩
        · exact .inl ho
        · refine .inr ⟨fun y hy => ?_, by rw [ho]; simp⟩
          rcases List.mem_cons.1 hy with rfl | hy
          · exact hr
          · exact ha y hy
    · refine ⟨none, Ev.congr (fun k => ?_) (Ev.now _), .inl rfl⟩
      simp only [factGo]
      rw [key_right_tells, decide_eq_false (fun h => hr ⟨h.1, h.2.1⟩)]
      simp
noncomputable def factsM (gs : List Gr) (keep wm : Int) (l : List Fa) : List En := nrm (mapE (AtK gs keep wm) (l.map (entF gs)))
theorem facts_tells (gs : List Gr) (keep wm : Int) {l : List Fa} (hl : l.length < 1000) :
    ∃ a e, Ev (fun k => fold_Facts.f k gs keep wm l) (a, e) ∧ (e ≠ 0 ∧ a = [] ∨ e = 0 ∧ Rgt gs keep ∧ isT wm ∧ (∀ x ∈ l, rightF x) ∧ a = factsM gs keep wm l) := by
  obtain ⟨e, h, he⟩ := check_tells gs keep wm (l := []) (by simp) (fun x hx => by cases hx) (fun x hx => by cases hx)
  unfold fold_Facts.f
  by_cases e0 : e = 0
  · subst e0
    obtain ⟨R, ht, _⟩ := he.1 rfl
    obtain ⟨o, hf, ho⟩ := factGo_tells R l [] Good.nil (fun y hy => by cases hy) (by simpa using hl)
    rcases ho with rfl | ⟨ha, rfl⟩
    · exact ⟨[], 110, Ev.bind h (by simp only [if_true]; exact Ev.bind hf (Ev.now _)), .inl ⟨by decide, rfl⟩⟩
    · have hok : ∀ y ∈ nrm (l.map (entF gs)), fitX gs y ∧ WfE y := fun y hy => by
        obtain ⟨z, hz, e⟩ := nrm_mem hy
        obtain ⟨x, hx, rfl⟩ := List.mem_map.1 hz
        have hh := entF_ok R (ha x hx)
        have hQ : okQ y.f1 := nrm_all (P := okQ) (fun _ _ => okQ_merge) (fun q hq => by obtain ⟨x, _, rfl⟩ := List.mem_map.1 hq; exact okQ_one x.f2) y hy
        exact ⟨⟨by rw [e]; exact hh.1.1, hQ.1.2, hQ.2, hQ.1.1.2.2⟩, ⟨by rw [e]; exact hh.2.key, by rw [e]; exact hh.2.short, hQ.1.1.1, hQ.1.1.2.1⟩⟩
      have hlen : (nrm (l.map (entF gs))).length < 1000 := by have := nrm_len (l.map (entF gs)); rw [List.length_map] at this; omega
      have := fold_tells (gs := gs) (keep := keep) (wm := wm) hlen (fun x hx => (hok x hx).2) ⟨R, ht, nrm_sorted _, fun x hx => (hok x hx).1⟩
      refine ⟨factsM gs keep wm l, 0, Ev.bind h ?_, .inr ⟨rfl, R, ht, ha, rfl⟩⟩
      simp only [if_true]
      refine Ev.bind hf ?_
      simp only [List.nil_append]
      unfold foldM at this
      rw [mapE_nrm _ (good_entF gs l)] at this
      exact this
  · exact ⟨[], e, Ev.bind h (by simp only [if_neg e0]; exact Ev.now _), .inl ⟨e0, rfl⟩⟩
theorem entF_gone {gs : List Gr} {keep wm : Int} (R : Rgt gs keep) (ht : isT wm) {x : Fa} (h : rightF x) : AtK gs keep wm (entF gs x).f0 = none ↔ en x.f1 (sz gs (gs.length - 1)) ≤ wm - keep := by
  have h1 := R.one
  obtain ⟨s, S⟩ := R.step_ex (x.f1 - x.f1 % sz gs 0) wm
  rw [atK_eq R ht (entF_fit R h) S rfl, en_same (R.floors (t := x.f1) (Nat.zero_le _) (by omega))]
  by_cases hc : en x.f1 (sz gs (gs.length - 1)) ≤ wm - keep
  · simp [hc]
  · simp [hc]
def zeroA : Ag := ⟨0, false, ⟨0, 0⟩, 0, 0⟩
def okZ (a : Ag) : Prop := a = zeroA ∨ okP a
theorem okZ_merge {a b : Ag} (ha : okZ a) (hb : okP b) : okP (mergeA a b) := by
  rcases ha with rfl | ha
  · rw [mergeA_zero_left rfl]; exact hb
  · exact okP_merge ha hb
theorem mergeZ_swap {a x y : Ag} (ha : okZ a) (hx : okP x) (hy : okP y) : mergeA (mergeA a x) y = mergeA (mergeA a y) x := by
  rcases ha with rfl | ha
  · rw [mergeA_zero_left (a := zeroA) rfl, mergeA_zero_left (a := zeroA) rfl, mergeA_comm hx.1 hy.1 hx.2 hy.2]
  · rw [mergeA_assoc ha.1 hx.1 hy.1 ha.2 hx.2 hy.2, mergeA_assoc ha.1 hy.1 hx.1 ha.2 hy.2 hx.2, mergeA_comm hx.1 hy.1 hx.2 hy.2]
theorem mergeZ_assoc {a x y : Ag} (ha : okZ a) (hx : okP x) (hy : okP y) : mergeA (mergeA a x) y = mergeA a (mergeA x y) := by
  rcases ha with rfl | ha
  · rw [mergeA_zero_left (a := zeroA) rfl, mergeA_zero_left (a := zeroA) rfl]
  · exact mergeA_assoc ha.1 hx.1 hy.1 ha.2 hx.2 hy.2
def totA : Ag → List En → Ag
  | a, [] => a
  | a, x :: r => totA (mergeA a x.f1) r
theorem tot_pull : ∀ {l : List En} {a x : Ag}, okZ a → okP x → Good l → totA (mergeA a x) l = mergeA (totA a l) x
  | [], _, _, _, _, _ => rfl
  | y :: r, a, x, ha, hx, hg => by
    have ⟨h1, h2⟩ := Good.cons.1 hg
    show totA (mergeA (mergeA a x) y.f1) r = mergeA (totA (mergeA a y.f1) r) x
    rw [mergeZ_swap ha hx h1, tot_pull (.inr (okZ_merge ha h1)) hx h2]
theorem tot_ins {b : List Int} {x : Ag} (hx : okP x) : ∀ {l : List En} {a : Ag}, okZ a → Good l → totA a (insE b x l) = mergeA (totA a l) x
  | [], _, _, _ => rfl
  | y :: r, a, ha, hg => by
    have ⟨h1, h2⟩ := Good.cons.1 hg
    rcases cmpB_tri y.f0 b with c | c | c
    · rw [ins_lt c]
      show totA (mergeA a y.f1) (insE b x r) = mergeA (totA (mergeA a y.f1) r) x
      exact tot_ins hx (.inr (okZ_merge ha h1)) h2
    · rw [ins_eq c]
      show totA (mergeA a (mergeA y.f1 x)) r = mergeA (totA (mergeA a y.f1) r) x
      rw [← mergeZ_assoc ha h1 hx, tot_pull (.inr (okZ_merge ha h1)) hx h2]
    · rw [ins_gt c]
      exact tot_pull ha hx hg
theorem tot_nrm : ∀ {l : List En} {a : Ag}, okZ a → Good l → totA a (nrm l) = totA a l
  | [], _, _, _ => rfl
  | x :: r, a, ha, hg => by
    have ⟨h1, h2⟩ := Good.cons.1 hg
    show totA a (insE x.f0 x.f1 (nrm r)) = totA (mergeA a x.f1) r
    rw [tot_ins h1 ha (nrm_good h2), tot_nrm ha h2, tot_pull ha h1 h2]
theorem merge_tells {a b : Ag} (ha : inU a.f2.f1) (hb : inU b.f2.f1) : agg_Merge.f a.f0 a.f1 a.f2.f0 a.f2.f1 a.f3 a.f4 b.f0 b.f1 b.f2.f0 b.f2.f1 b.f3 b.f4 = some ((mergeA a b).f0, (mergeA a b).f1, (mergeA a b).f2.f0, (mergeA a b).f2.f1, (mergeA a b).f3, (mergeA a b).f4) := by
  unfold agg_Merge.f
  rw [if_pos ⟨ha, hb⟩]
theorem okZ_lo {a : Ag} (h : okZ a) : inU a.f2.f1 := by
  rcases h with rfl | h
  · unfold inU zeroA mW; simp
  · exact h.1.2.1
theorem many_inner {l : List Fa} (hl : l.length < 1000000) {i : Nat} (hi : i < l.length) (hdl : l[i].f0.length < 1000000) {t : Bool} (h : Ev (fun k => rickyardlaw15_Many.l0 k l ((i + 1 : Nat) : Int)) t) (d : Nat) : ∀ j : Nat, l[i].f0.length - j = d → ∃ t, Ev (fun k => rickyardlaw15_Many.l1 k l (i : Int) (j : Int)) t := by
  induction d with
  | zero =>
    intro j hd
    refine ⟨t, Ev.step (fun k => ?_) h⟩
    simp only [rickyardlaw15_Many.l1, rd_fact hi, kw64o i (by omega)]
    rw [if_pos (by omega), if_pos (by omega), if_neg (by omega)]
  | succ d ih =>
    intro j hd
    by_cases hg : ((rdOf ByteArray.empty l[i].f0 (j : Int)).size : Int) > 100
    · refine ⟨true, Ev.step (fun k => ?_) (Ev.now _)⟩
      simp only [rickyardlaw15_Many.l1, rd_fact hi]
      rw [if_pos (by omega), if_pos (by omega), if_pos (by omega), if_pos (by omega), if_pos hg]
    · obtain ⟨t, h⟩ := ih (j + 1) (by omega)
      refine ⟨t, Ev.step (fun k => ?_) h⟩
      simp only [rickyardlaw15_Many.l1, rd_fact hi, kw64o j (by omega)]
      rw [if_pos (by omega), if_pos (by omega), if_pos (by omega), if_pos (by omega), if_neg hg]
theorem many_loop {l : List Fa} (hl : l.length < 1000000) (d : Nat) : ∀ i : Nat, l.length - i = d → ∃ t, Ev (fun k => rickyardlaw15_Many.l0 k l (i : Int)) t := by
  induction d with
  | zero =>
    intro i hd
    refine ⟨false, Ev.step (fun k => ?_) (Ev.now _)⟩
    simp only [rickyardlaw15_Many.l0]
    rw [if_neg (by omega)]
  | succ d ih =>
    intro i hd
    have hi : i < l.length := by omega
    by_cases hg : (l[i].f0.length : Int) > 20
    · refine ⟨true, Ev.step (fun k => ?_) (Ev.now _)⟩
      simp only [rickyardlaw15_Many.l0, rd_fact hi]
      rw [if_pos (by omega), if_pos (by omega), if_pos hg]
    · obtain ⟨t, h⟩ := ih (i + 1) (by omega)
      obtain ⟨t', h'⟩ := many_inner hl hi (by omega) h _ 0 rfl
      refine ⟨t', Ev.step (fun k => ?_) h'⟩
      simp only [rickyardlaw15_Many.l0, rd_fact hi]
      rw [if_pos (by omega), if_pos (by omega), if_neg hg]
      rfl
theorem many_ex (l : List Fa) : ∃ t, Ev (fun k => rickyardlaw15_Many.f k l) t ∧ (t = false → l.length ≤ 60) := by
  unfold rickyardlaw15_Many.f
  by_cases h : (l.length : Int) > 60
  · exact ⟨true, Ev.congr (fun k => by rw [if_pos h]) (Ev.now _), fun h => by cases h⟩
  · obtain ⟨t, ht⟩ := many_loop (l := l) (by omega) _ 0 rfl
    exact ⟨t, Ev.congr (fun k => by rw [if_neg h]; rfl) ht, fun _ => by omega⟩
end Go.Proofs.Ytjemmmemenljbaa.PFold
end
section
namespace Go.Proofs.Ytjemmmemenljbaa.PFold
open Go.RowKit Go.Proofs.YtjemmmemenljbaaW.PrintWords Go.Proofs.YtjemmmemenljbaaW.PrintLast Go.Proofs.YtjemmmemenljbaaW.PrintMore Go.Proofs.Ytjemmmemenljbaa.GrainM Go.Proofs.Ytjemmmemenljbaa.GrainL
theorem alive_tells : Ev (fun k => rickyardlaw15_alive.f k) true := ⟨64, fun k hk => by show rickyardlaw15_alive.f k = _; unfold rickyardlaw15_alive.f; rw [if_pos hk]⟩
end Go.Proofs.Ytjemmmemenljbaa.PFold
end
section
namespace Go.Proofs.Ytjemmmemenljbaa.PFold
open Go.RowKit Go.Proofs.YtjemmmemenljbaaW.PrintWords Go.Proofs.YtjemmmemenljbaaW.PrintLast Go.Proofs.YtjemmmemenljbaaW.PrintMore Go.Proofs.Ytjemmmemenljbaa.GrainM Go.Proofs.Ytjemmmemenljbaa.GrainL
theorem got_loop (all : List En) (hl : all.length < 1000000) (want : Ag) (d : Nat) : ∀ (i : Nat) (a : Ag), all.length - i = d → okZ a → Good (all.drop i) → totA a (all.drop i) = want →
    Ev (fun k => rickyardlaw15_FoldKeeps.l1 k all (i : Int) want.f0 want.f1 want.f2.f0 want.f2.f1 want.f3 want.f4 a.f0 a.f1 a.f2.f0 a.f2.f1 a.f3 a.f4) true := by
  induction d with
  | zero =>
    intro i a hd ha _ ht
    rw [List.drop_eq_nil_of_le (by omega)] at ht
    obtain rfl : a = want := ht
    refine Ev.step (f := fun k => (rickyardlaw15_alive.f k).bind fun t580 => if t580 = true then some true else some false) (fun k => ?_) (Ev.bind alive_tells (Ev.now true))
    simp only [rickyardlaw15_FoldKeeps.l1]
    rw [if_neg (by omega)]
    simp
  | succ d ih =>
    intro i a hd ha hg ht
    have hi : i < all.length := by omega
    rw [List.drop_eq_getElem_cons hi] at hg ht
    have ⟨g1, g2⟩ := Good.cons.1 hg
    refine Ev.step (fun k => ?_) (ih (i + 1) (mergeA a all[i].f1) (by omega) (.inr (okZ_merge ha g1)) g2 ht)
    simp only [rickyardlaw15_FoldKeeps.l1, rd_ent hi, merge_tells (okZ_lo ha) g1.1.2.1, Option.bind_some, kw64o i (by omega)]
    rw [if_pos (by omega), if_pos (by omega)]
open Classical in
theorem want_loop {gs : List Gr} {keep wm : Int} (R : Rgt gs keep) (ht : isT wm) {l : List Fa} (hl : l.length < 1000000) (hr : ∀ x ∈ l, rightF x) (all : List En) (fin : Ag) (d : Nat) : ∀ (i : Nat) (a : Ag), l.length - i = d → i ≤ l.length → okZ a →
    totA a (mapE (AtK gs keep wm) ((l.drop i).map (entF gs))) = fin →
    (Ev (fun k => rickyardlaw15_FoldKeeps.l1 k all 0 fin.f0 fin.f1 fin.f2.f0 fin.f2.f1 fin.f3 fin.f4 0 false 0 0 0 0) true) →
    Ev (fun k => rickyardlaw15_FoldKeeps.l0 k wm l all (i : Int) gs keep a.f0 a.f1 a.f2.f0 a.f2.f1 a.f3 a.f4 0 false 0 0 0 0) true := by
  induction d with
  | zero =>
    intro i a hd hi ha hf h
    rw [List.drop_eq_nil_of_le (by omega)] at hf
    obtain rfl : a = fin := hf
    refine Ev.step (fun k => ?_) h
    simp only [rickyardlaw15_FoldKeeps.l0]
    rw [if_neg (by omega)]
  | succ d ih =>
    intro i a hd hi ha hf h
    have hlt : i < l.length := by omega
    have hx := hr l[i] (List.getElem_mem _)
    rw [List.drop_eq_getElem_cons hlt, List.map_cons] at hf
    refine Ev.step (fun k => by simp only [rickyardlaw15_FoldKeeps.l0]; rw [if_pos (by omega), if_pos (by omega)]) ?_
    rw [rd_fact hlt]
    refine Ev.bind (expired_tells R hx.2 ht) ?_
    simp only [if_true]
    by_cases hc : en l[i].f1 (sz gs (gs.length - 1)) ≤ wm - keep
    · rw [mapE_none ((entF_gone R ht hx).2 hc)] at hf
      refine Ev.congr (fun k => ?_) (ih (i + 1) a (by omega) (by omega) ha hf h)
      rw [decide_eq_true hc, if_pos rfl, kw64o i (by omega)]
    · cases e : AtK gs keep wm (entF gs l[i]).f0 with
      | none => exact absurd ((entF_gone R ht hx).1 e) hc
      | some b =>
        rw [mapE_some e] at hf
        have q := (okQ_one l[i].f2).1
        refine Ev.congr (fun k => ?_) (ih (i + 1) (mergeA a (oneA l[i].f2)) (by omega) (by omega) (.inr (okZ_merge ha q)) hf h)
        have hm := merge_tells (b := oneA l[i].f2) (okZ_lo ha) q.1.2.1
        unfold oneA at hm
        simp only at hm
        rw [decide_eq_false hc, if_neg (by decide), one_tells, Option.bind_some]
        simp only [hm, Option.bind_some, kw64o i (show i < 4611686018427387904 by omega)]
        rfl
end Go.Proofs.Ytjemmmemenljbaa.PFold
namespace Go.Proofs.Ytjemmmemenljbaa.Pure
open Go.RowKit Go.Proofs.YtjemmmemenljbaaW.PrintWords Go.Proofs.YtjemmmemenljbaaW.PrintLast Go.Proofs.YtjemmmemenljbaaW.PrintMore Go.Proofs.Ytjemmmemenljbaa.PFold Go.Proofs.Ytjemmmemenljbaa.GrainM Go.Proofs.Ytjemmmemenljbaa.GrainL
theorem FoldKeeps : rickyardlaw15_FoldKeeps.Pure := by
  intro gs keep w l _ _ _ _
  refine Ev.rounds ?_
  unfold rickyardlaw15_FoldKeeps.f
  obtain ⟨t, ht, hf⟩ := many_ex l
  refine Ev.bind ht ?_
  cases t with
  | true => simp only [if_true]; exact Ev.bind alive_tells (Ev.now true)
  | false =>
    have h60 := hf rfl
    simp only [Bool.false_eq_true, if_false]
    obtain ⟨a, e, h, hh⟩ := facts_tells gs keep w (l := l) (by omega)
    refine Ev.bind h ?_
    rcases hh with ⟨he, _⟩ | ⟨rfl, R, hT, hr, rfl⟩
    · simp only [if_neg he]
      exact Ev.bind alive_tells (Ev.now true)
    · simp only [if_true]
      have hg := mapE_good (f := AtK gs keep w) (good_entF gs l)
      have hlen : (factsM gs keep w l).length < 1000000 := by
        have h1 := nrm_len (mapE (AtK gs keep w) (l.map (entF gs)))
        have h2 := mapE_len (AtK gs keep w) (l.map (entF gs))
        rw [List.length_map] at h2
        unfold factsM; omega
      have := got_loop (factsM gs keep w l) hlen (totA zeroA (mapE (AtK gs keep w) (l.map (entF gs)))) _ 0 zeroA rfl (.inl rfl) (nrm_good hg) (tot_nrm (.inl rfl) hg)
      exact want_loop R hT (by omega) hr (factsM gs keep w l) _ _ 0 zeroA rfl (Nat.zero_le _) (.inl rfl) rfl this
end Go.Proofs.Ytjemmmemenljbaa.Pure
end
