/- Whoever does what is offered comes to an end. No program in sight. -/
import Derived.Test.YtnbbejhbnajdbaaPickG
namespace Go.Proofs.Ytnbbejhbnajdbaa.PickP
open List Go.RowKit Go.Proofs.YtnbbejhbnajdbaaW.PrintWords Go.Proofs.YtnbbejhbnajdbaaW.PrintLast Go.Proofs.YtnbbejhbnajdbaaW.PrintMore Go.Proofs.Ytnbbejhbnajdbaa.PPick Go.Proofs.Ytnbbejhbnajdbaa.XLib

theorem full_congr {l m : List Ru} {j : Int} (h : atL l j = atL m j) : fullB l j = fullB m j := by
  unfold fullB
  rw [stf_foldl, stf_foldl, h]
theorem full_nil {l : List Ru} {j : Int} (h : atL l j = []) : fullB l j = false := by
  unfold fullB
  rw [stf_foldl, h]
  simp only [foldl_nil]
  split
  · rfl
  · split
    · split <;> rfl
    · rfl
theorem atL_append (l m : List Ru) (j : Int) : atL (l ++ m) j = atL l j ++ atL m j := by unfold atL; rw [filter_append]
theorem atL_out {fs : List Int} {l : List Ru} {j : Int} (h : ∀ r ∈ l, r.f1 = j → r.f0 ∉ fs) : atL (outOf fs l) j = atL l j := by
  unfold atL outOf
  rw [filter_filter]
  refine filter_congr fun r hr => ?_
  by_cases e : r.f1 = j
  · simp [e, h r hr e]
  · simp [e]
theorem atL_out_nil {fs : List Int} {l : List Ru} {j : Int} (h : ∀ r ∈ l, r.f1 = j → r.f0 ∈ fs) : atL (outOf fs l) j = [] := by
  unfold atL outOf
  rw [filter_filter]
  refine filter_eq_nil_iff.2 fun r hr => ?_
  by_cases e : r.f1 = j
  · simp [e, h r hr e]
  · simp [e]
theorem atL_new {lv file n j : Int} (h : lv ≠ j) (out : List Ru) : atL (withNew out lv file n) j = atL out j := by
  unfold withNew
  split
  · rw [atL_append]
    have : atL [(⟨file, lv, n, false⟩ : Ru)] j = [] := by unfold atL; simp [h]
    rw [this, append_nil]
  · rfl
/-- How many runs are stale. -/
def stale (l : List Ru) : Nat := l.countP (·.f3)
theorem countP_out {p : Ru → Bool} {b : Ru} {l : List Ru} (hb : b ∈ l) (hp : p b = true) {fs : List Int} (hf : b.f0 ∈ fs) : (outOf fs l).countP p + 1 ≤ l.countP p := by
  unfold outOf
  induction l with
  | nil => cases hb
  | cons a l ih =>
    rw [countP_cons]
    rcases mem_cons.1 hb with rfl | hb
    · rw [filter_cons_of_neg (by simpa using hf), if_pos hp]
      have := filter_sublist (l := l) (p := fun r => decide (r.f0 ∉ fs)) |>.countP_le (p := p)
      omega
    · have h1 := ih hb
      by_cases ha : a.f0 ∈ fs
      · rw [filter_cons_of_neg (by simpa using ha)]; omega
      · rw [filter_cons_of_pos (by simpa using ha), countP_cons]; omega
theorem stale_new {out : List Ru} {lv file n : Int} : stale (withNew out lv file n) = stale out := by
  unfold withNew stale
  split
  · rw [countP_append]; simp
  · rfl
theorem stale_out (fs : List Int) (l : List Ru) : stale (outOf fs l) ≤ stale l := (out_sub fs l).countP_le

/-- So many tasks at most are still to be done. -/
def Pot (l : List Ru) (p : Nat) : Prop := ∃ a : Nat, a ≤ 3 ∧ (∀ j : Int, 0 ≤ j → j < a → fullB l j = false) ∧ 3 - a + stale l ≤ p
theorem Pot.start (l : List Ru) : Pot l (l.length + 3) := ⟨0, by omega, fun j h1 h2 => by omega, by have : stale l ≤ l.length := countP_le_length; omega⟩
theorem sum_one {l : List Ru} (h : Tree l) {b : Ru} (hb : b ∈ l) : sumIn [b.f0] l = b.f2 := by
  cases hi : l.findIdx? (fun x => x.f0 == b.f0) with
  | none =>
    have := findIdx?_eq_none_iff.1 hi b hb
    simp at this
  | some i =>
    obtain ⟨_, g2, g3, g4⟩ := idx_facts h.nodup hi
    rw [g4 [] (by simp), sumIn_nil, h.inj (getElem_mem g2) hb g3]
    omega
/-- After a task less is to be done. -/
theorem Pot.step {l : List Ru} {fs : List Int} {lv file n : Int} {p : Nat} (hp : Pot l p) (ho : offerB l = (fs, lv, true, 0)) (hs : n ≤ sumIn fs l) : 1 ≤ p ∧ Pot (withNew (outOf fs l) lv file n) (p - 1) := by
  have ht := (offer_offered ho).tree
  obtain ⟨a, ha, hno, hpa⟩ := hp
  rcases phase_cases ht with ⟨hall, _⟩ | ⟨i, h0, h3, hf, hn, _, hne⟩
  · rw [offer_none ht hall] at ho
    by_cases hz : (best l).f0 = 0
    · rw [if_pos hz] at ho; simp at ho
    · rw [if_neg hz] at ho
      simp only [Prod.mk.injEq] at ho
      obtain ⟨rfl, rfl, _⟩ := ho
      obtain ⟨hb, hb3⟩ := best_mem hz
      rw [sum_one ht hb] at hs
      generalize hbb : best l = b at *
      have hst : stale (outOf [b.f0] l) + 1 ≤ stale l := countP_out hb hb3 (by simp)
      refine ⟨by omega, 3, Nat.le_refl _, fun j h1 h2 => ?_, by rw [stale_new]; omega⟩
      by_cases hj : b.f1 = j
      · subst hj
        have hfb := hall b.f1 h1
        rcases Int.lt_or_le 0 b.f1 with hpos | hz0
        · have hin : ∀ r ∈ l, r.f1 = b.f1 → r.f0 ∈ [b.f0] := fun r hr e => by rw [ht.level hr hb e (by omega)]; simp
          have hnil := atL_out_nil hin
          unfold withNew
          split
          · rename_i hn0
            have hat : atL (outOf [b.f0] l ++ [(⟨file, b.f1, n, false⟩ : Ru)]) b.f1 = [⟨file, b.f1, n, false⟩] := by
              rw [atL_append, hnil]; unfold atL; simp
            have hatl : atL l b.f1 = [b] := by
              have h1' := ht.one (i := b.f1) (by omega)
              have hm : b ∈ atL l b.f1 := mem_atL.2 ⟨hb, rfl⟩
              match hq : atL l b.f1 with
              | [] => rw [hq] at hm; cases hm
              | [x] => rw [hq] at hm; rw [mem_singleton.1 hm]
              | x :: y :: t => rw [hq] at h1'; simp at h1'
            unfold fullB at hfb ⊢
            rw [stf_foldl, hat]
            rw [stf_foldl, hatl] at hfb
            rw [if_neg (by omega)] at hfb ⊢
            by_cases h3 : b.f1 < 3
            · rw [if_pos h3] at hfb ⊢
              exact decide_eq_false (fun h => of_decide_eq_false hfb (Int.lt_of_lt_of_le h hs))
            · rw [if_neg h3]
          · exact full_nil hnil
        · have hz1 : b.f1 = 0 := by omega
          rw [hz1] at hfb ⊢
          cases hq : fullB (withNew (outOf [b.f0] l) 0 file n) 0 with
          | false => rfl
          | true =>
            exfalso
            rw [full_zero] at hq
            have h1 : ¬ 2 ≤ (atL l 0).length := fun h => by rw [(full_zero l).2 h] at hfb; cases hfb
            have h2 : (outOf [b.f0] l).countP (fun r => decide (r.f1 = 0)) + 1 ≤ l.countP (fun r => decide (r.f1 = 0)) := countP_out hb (by simp [hz1]) (by simp)
            rw [countP_eq_length_filter, countP_eq_length_filter] at h2
            have h3 : (atL (withNew (outOf [b.f0] l) 0 file n) 0).length ≤ (atL (outOf [b.f0] l) 0).length + 1 := by
              unfold withNew
              split
              · rw [atL_append, length_append]
                have : (atL [(⟨file, 0, n, false⟩ : Ru)] 0).length ≤ 1 := length_filter_le _ _
                omega
              · omega
            unfold atL at h1 h3 hq
            omega
      · rw [full_congr (m := l), hall j h1]
        rw [atL_new hj, atL_out (fun r hr e hm => hj (by rw [← e, ht.inj hr hb (by simpa using hm)]))]
  · rw [offer_full ht h0 hf hn] at ho
    simp only [Prod.mk.injEq] at ho
    obtain ⟨rfl, rfl, _⟩ := ho
    have hmem : ∀ r ∈ l, r.f0 ∈ sorted (both l i) ↔ (r.f1 = i ∨ r.f1 = i + 1) := by
      intro r hr
      rw [(sorted_perm _).mem_iff, mem_both]
      constructor
      · rintro ⟨q, hq, h1, h2⟩
        rw [← ht.inj hq hr h2]; exact h1
      · exact fun h => ⟨r, hr, h, rfl⟩
    have hai : (a : Int) ≤ i := by
      rcases Int.lt_or_le i a with h | h
      · rw [hno i h0 h] at hf; cases hf
      · exact h
    have hso := stale_out (sorted (both l i)) l
    refine ⟨by omega, i.toNat + 1, by omega, fun j h1 h2 => ?_, by rw [stale_new]; omega⟩
    by_cases hj : j = i
    · subst hj
      refine full_nil ?_
      rw [atL_new (by omega), atL_out_nil (fun r hr e => (hmem r hr).2 (.inl e))]
    · rw [full_congr (m := l), hn j h1 (by omega)]
      rw [atL_new (by omega), atL_out (fun r hr e hm => by have := (hmem r hr).1 hm; omega)]
theorem Pot.end {l : List Ru} {fs : List Int} {lv : Int} (hp : Pot l 0) : offerB l ≠ (fs, lv, true, 0) := fun ho => by
  have := (hp.step (file := 0) (n := 0) ho (sumIn_pos fun r hr => ((offer_offered ho).tree.good r hr).2.2.2)).1
  omega
/-- Where nothing is offered, nothing is to be done. -/
theorem offer_nothing {l : List Ru} (ht : Tree l) (h : ∀ fs lv, offerB l ≠ (fs, lv, true, 0)) : offerB l = ([], 0, false, 0) ∧ (∀ r ∈ l, r.f3 = false) ∧ ∀ i : Int, 0 ≤ i → fullB l i = false := by
  rcases phase_cases ht with ⟨hall, _⟩ | ⟨i, h0, h3, hf, hn, _, hne⟩
  · rw [offer_none ht hall] at h ⊢
    by_cases hz : (best l).f0 = 0
    · rw [if_pos hz]
      exact ⟨rfl, (best_zero ht).1 hz, hall⟩
    · exfalso
      exact h _ _ (if_neg hz)
  · exact absurd (offer_full ht h0 hf hn) (h _ _)
end Go.Proofs.Ytnbbejhbnajdbaa.PickP
