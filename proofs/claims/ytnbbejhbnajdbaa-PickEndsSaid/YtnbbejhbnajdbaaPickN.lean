/- What is offered may be done: what comes is a tree. No program in sight. -/
import Derived.Test.YtnbbejhbnajdbaaPickF
namespace Go.Proofs.Ytnbbejhbnajdbaa.PickP
open List Go.RowKit Go.Proofs.YtnbbejhbnajdbaaW.PrintWords Go.Proofs.YtnbbejhbnajdbaaW.PrintLast Go.Proofs.YtnbbejhbnajdbaaW.PrintMore Go.Proofs.Ytnbbejhbnajdbaa.PPick Go.Proofs.Ytnbbejhbnajdbaa.XLib

/-- A task that is offered. -/
structure Offered (l : List Ru) (fs : List Int) (lv : Int) : Prop where
  tree : Tree l
  nodup : fs.Nodup
  mem : ∀ x ∈ fs, x ∈ l.map (·.f0)
  ne : fs ≠ []
  lo : 0 ≤ lv
  hi : lv < 4
  clear : ∀ r ∈ l, r.f0 ∉ fs → 0 < lv → r.f1 ≠ lv
  up : fs.Pairwise (· < ·)

theorem up_of {xs : List Int} (h : xs.Pairwise (· ≤ ·)) (hn : xs.Nodup) : xs.Pairwise (· < ·) := by
  refine (pairwise_and_iff.2 ⟨h, hn⟩).imp ?_
  intro a b ⟨h1, h2⟩
  omega
theorem both_nodup {l : List Ru} (h : Tree l) (i : Int) : (both l i).Nodup := by
  unfold both
  exact (filter_sublist.map _).nodup h.nodup
theorem offered_full {l : List Ru} (h : Tree l) {i : Int} (h0 : 0 ≤ i) (h3 : i < 3) (hne : both l i ≠ []) : Offered l (sorted (both l i)) (i + 1) := by
  have hp := sorted_perm (both l i)
  have hn : (sorted (both l i)).Nodup := hp.nodup_iff.2 (both_nodup h i)
  refine ⟨h, hn, fun x hx => ?_, sorted_ne hne, by omega, by omega, fun r hr hx _ e => ?_, up_of (sorted_up _) hn⟩
  · obtain ⟨r, hr, _, e⟩ := mem_both.1 (hp.mem_iff.1 hx)
    exact mem_map.2 ⟨r, hr, e⟩
  · exact hx (hp.mem_iff.2 (mem_both.2 ⟨r, hr, .inr e, rfl⟩))
theorem offered_best {l : List Ru} (h : Tree l) (hb : best l ∈ l) : Offered l [(best l).f0] (best l).f1 := by
  have hg := h.good _ hb
  refine ⟨h, by simp, fun x hx => ?_, by simp, hg.2.1, by have := hg.2.2.1; omega, fun r hr hx h0 e => ?_, by simp⟩
  · rw [mem_singleton.1 hx]; exact mem_map_of_mem hb
  · have := h.level hr hb e (by omega)
    exact hx (by rw [this]; simp)
theorem best_mem {l : List Ru} (hz : (best l).f0 ≠ 0) : best l ∈ l ∧ (best l).f3 = true := by
  rcases (best_is l).from_ with e | e
  · rw [e] at hz; exact absurd rfl hz
  · exact e
theorem offer_offered {l : List Ru} {fs : List Int} {lv : Int} (h : offerB l = (fs, lv, true, 0)) : Offered l fs lv := by
  by_cases ht : Tree l
  · rcases phase_cases ht with ⟨hno, _⟩ | ⟨i, h0, h3, hf, hn, _, hne⟩
    · rw [offer_none ht hno] at h
      by_cases hz : (best l).f0 = 0
      · rw [if_pos hz] at h; simp at h
      · rw [if_neg hz] at h
        simp only [Prod.mk.injEq] at h
        obtain ⟨rfl, rfl, _⟩ := h
        exact offered_best ht (best_mem hz).1
    · rw [offer_full ht h0 hf hn] at h
      simp only [Prod.mk.injEq] at h
      obtain ⟨rfl, rfl, _⟩ := h
      exact offered_full ht h0 h3 hne
  · rw [offer_not ht] at h
    simp at h

theorem out_len {l : List Ru} (fs : List Int) (hl : (l.map (·.f0)).Nodup) : ∀ (_ : fs.Nodup) (_ : ∀ x ∈ fs, x ∈ l.map (·.f0)), (outOf fs l).length + fs.length = l.length := by
  intro hn hm
  have h1 : (l.filter fun r => decide (r.f0 ∈ fs)).length + (outOf fs l).length = l.length := by
    unfold outOf
    clear hl hm
    induction l with
    | nil => rfl
    | cons a l ih =>
      by_cases h : a.f0 ∈ fs
      · rw [filter_cons_of_pos (by simpa using h), filter_cons_of_neg (by simpa using h), length_cons, length_cons]; omega
      · rw [filter_cons_of_neg (by simpa using h), filter_cons_of_pos (by simpa using h), length_cons, length_cons]; omega
  have h2 : ((l.filter fun r => decide (r.f0 ∈ fs)).map (·.f0)) ~ fs := by
    refine (perm_ext_iff_of_nodup ((filter_sublist.map _).nodup hl) hn).2 fun x => ?_
    constructor
    · intro h
      obtain ⟨r, hr, e⟩ := mem_map.1 h
      have := (mem_filter.1 hr).2
      rw [← e]
      simpa using this
    · intro h
      obtain ⟨r, hr, e⟩ := mem_map.1 (hm x h)
      exact mem_map.2 ⟨r, mem_filter.2 ⟨hr, by simpa [e] using h⟩, e⟩
  have := h2.length_eq
  rw [length_map] at this
  omega
theorem Tree.sub {l m : List Ru} (h : Tree l) (s : m <+ l) : Tree m := ⟨Nat.le_trans s.length_le h.len, fun r hr => h.good r (s.subset hr), h.two.sublist s⟩
theorem out_sub (fs : List Int) (l : List Ru) : outOf fs l <+ l := filter_sublist
theorem mem_out {fs : List Int} {l : List Ru} {r : Ru} : r ∈ outOf fs l ↔ r ∈ l ∧ r.f0 ∉ fs := by unfold outOf; simp
theorem Tree.snoc {l : List Ru} {r : Ru} (h : Tree l) (hl : l.length < 64) (hg : gd r) (h2 : ∀ x ∈ l, P2 x r) : Tree (l ++ [r]) := by
  refine ⟨by simp; omega, fun x hx => ?_, ?_⟩
  · rcases mem_append.1 hx with hx | hx
    · exact h.good x hx
    · rw [mem_singleton.1 hx]; exact hg
  · rw [pairwise_append]
    exact ⟨h.two, by simp, fun a ha b hb => by rw [mem_singleton.1 hb]; exact h2 a ha⟩
/-- What is offered may be done. -/
theorem Offered.done {l : List Ru} {fs : List Int} {lv file n : Int} (h : Offered l fs lv) (h0 : 0 ≤ n) (h1 : n ≤ 9223372036854775807) (hs : n ≤ sumIn fs l) (hf : 1 ≤ file) (hfile : ∀ r ∈ l, r.f0 ∉ fs → r.f0 ≠ file) :
    afterB l fs lv file n = (withNew (outOf fs l) lv file n, 0) ∧ Tree (withNew (outOf fs l) lv file n) := by
  have hT := h.tree
  have hlen := out_len fs hT.nodup h.nodup h.mem
  have hfs : 0 < fs.length := length_pos_iff.2 h.ne
  have htree : Tree (withNew (outOf fs l) lv file n) := by
    unfold withNew
    split
    · refine (hT.sub (out_sub fs l)).snoc (by have := hT.len; omega) ⟨hf, h.lo, by have := h.hi; show lv ≤ 3; omega, by show 1 ≤ n; omega⟩ fun x hx => ?_
      obtain ⟨hx1, hx2⟩ := mem_out.1 hx
      refine ⟨hfile x hx1 hx2, fun e => ?_⟩
      show lv = 0
      have := h.lo
      rcases Int.lt_or_eq_of_le this with h2 | h2
      · exact absurd e (h.clear x hx1 hx2 h2)
      · exact h2.symm
    · exact hT.sub (out_sub fs l)
  refine ⟨?_, htree⟩
  unfold afterB
  rw [if_neg (by unfold afterBad; rw [(right_iff l).2 hT]; have := hT.len; have := h.lo; have := h.hi; simp; omega), takeF_eq fs l n hT.nodup (fun r hr => (hT.good r hr).2.2.2) h0 h1, if_pos ⟨h.nodup, h.mem⟩]
  unfold afterEnd
  simp only
  rw [if_neg, if_pos ((right_iff _).2 htree)]
  rintro (h2 | h2)
  · unfold sat at h2
    split at h2 <;> omega
  · rw [any_eq_true] at h2
    obtain ⟨r, hr, e⟩ := h2
    obtain ⟨hr1, hr2⟩ := mem_out.1 hr
    exact hfile r hr1 hr2 (by simpa using e)

/-- The counts of a task's runs, as far as they are told. -/
def tgt (fs : List Int) : List Ru → Int
  | [] => 0
  | r :: l => (if r.f0 ∈ fs ∧ r.f2 < 1099511627776 then r.f2 else 0) + tgt fs l
theorem tgt_le {fs : List Int} {l : List Ru} (h : ∀ r ∈ l, 1 ≤ r.f2) : 0 ≤ tgt fs l ∧ tgt fs l ≤ sumIn fs l ∧ tgt fs l ≤ 1099511627776 * l.length := by
  induction l with
  | nil => simp [tgt, sumIn]
  | cons a l ih =>
    have h1 := ih (fun r hr => h r (mem_cons_of_mem _ hr))
    have h2 := h a (by simp)
    simp only [tgt, sumIn, length_cons]
    by_cases h3 : a.f0 ∈ fs
    · rw [if_pos h3]
      by_cases h4 : a.f2 < 1099511627776
      · rw [if_pos ⟨h3, h4⟩]; omega
      · rw [if_neg (fun h => h4 h.2)]; omega
    · rw [if_neg h3, if_neg (fun h => h3 h.1)]; omega
theorem tgt_snoc (fs : List Int) (l : List Ru) (r : Ru) : tgt fs (l ++ [r]) = tgt fs l + (if r.f0 ∈ fs ∧ r.f2 < 1099511627776 then r.f2 else 0) := by
  induction l with
  | nil => simp [tgt]
  | cons a l ih =>
    simp only [cons_append, tgt, ih]
    omega
end Go.Proofs.Ytnbbejhbnajdbaa.PickP
