/- What the reference sorts, and offers. -/
import Derived.Test.YtnbbejhbnajdbaaPickT
namespace Go.Proofs.Ytnbbejhbnajdbaa.PickP
open List Go.RowKit Go.Proofs.YtnbbejhbnajdbaaW.PrintWords Go.Proofs.YtnbbejhbnajdbaaW.PrintLast Go.Proofs.Ytnbbejhbnajdbaa.PPick Go.Proofs.Ytnbbejhbnajdbaa.XLib

theorem rd_at {xs : List Int} {j : Nat} (h : j < xs.length) : rd xs (j : Int) = xs[j] := by
  unfold rd
  rw [show ((j : Int)).toNat = j from by omega, List.getD_eq_getElem?_getD, List.getElem?_eq_getElem h]
  rfl
/-- A number goes down to its place. -/
theorem sink {xs : List Int} {j : Nat} {r : List Int} (hj : j < 4611686018427387904) (n : Nat) : ∀ (P Z : List Int) (x : Int), P.length = n → P.length + Z.length < 1000 → (P ++ Z).Pairwise (· ≤ ·) → (∀ z ∈ Z, x ≤ z) →
    (∀ ys, ys ~ x :: (P ++ Z) → ys.Pairwise (· ≤ ·) → Ev (fun k => rickyardref16_sorted.l0 k xs ys ((j + 1 : Nat) : Int)) r) → Ev (fun k => rickyardref16_sorted.l1 k xs (P ++ x :: Z) (j : Int) (P.length : Int)) r := by
  induction n with
  | zero =>
    intro P Z x hn hl hs hz next
    obtain rfl := length_eq_zero_iff.1 hn
    refine Ev.step (fun k => ?_) (next (x :: Z) (Perm.refl _) (pairwise_cons.2 ⟨hz, hs⟩))
    simp only [rickyardref16_sorted.l1, w64n j hj]
    rw [if_neg (by simp)]
    rfl
  | succ n ih =>
    intro P Z x hn hl hs hz next
    rcases eq_nil_or_concat P with rfl | ⟨P', y, rfl⟩
    · simp at hn
    rw [concat_eq_append] at *
    simp only [length_append, length_cons, length_nil] at hn hl
    have e1 : wrap64 (((P' ++ [y]).length : Int) - 1) = ((P'.length : Nat) : Int) := by
      simp only [length_append, length_cons, length_nil]
      rw [w64] <;> omega
    have e2 : ((P' ++ [y]).length : Int) = ((P'.length + 1 : Nat) : Int) := by simp
    have r1 : rd (P' ++ [y] ++ x :: Z) (P'.length : Int) = y := by
      rw [rd_at (by simp)]; simp
    have r2 : rd (P' ++ [y] ++ x :: Z) ((P'.length + 1 : Nat) : Int) = x := by
      rw [rd_at (by simp)]; simp
    by_cases hyx : y > x
    · have hs2 : (P' ++ (y :: Z)).Pairwise (· ≤ ·) := by simpa using hs
      have hn2 := ih P' (y :: Z) x (by omega) (by simp; omega) hs2 (fun z hz' => by
        rcases mem_cons.1 hz' with rfl | hz'
        · omega
        · exact hz z hz') (fun ys hp hsy => next ys (by simpa using hp) hsy)
      refine Ev.step (fun k => ?_) hn2
      simp only [rickyardref16_sorted.l1, e1]
      rw [e2, r1, r2]
      rw [if_pos (by omega), if_pos (by omega), if_pos (by simp; omega), if_pos (by omega), if_pos (by simp; omega), if_pos hyx]
      congr 1
      simp only [append_assoc, Int.toNat_natCast, cons_append, nil_append]
      rw [set_append_right _ _ (Nat.le_refl _), Nat.sub_self, set_cons_zero, set_append_right _ _ (by omega), Nat.add_sub_cancel_left, set_cons_succ, set_cons_zero]
    · have hall : (P' ++ [y] ++ x :: Z).Pairwise (· ≤ ·) := by
        rw [pairwise_append] at hs ⊢
        obtain ⟨h1, h2, h3⟩ := hs
        refine ⟨h1, pairwise_cons.2 ⟨hz, h2⟩, fun a ha b hb => ?_⟩
        rcases mem_cons.1 hb with rfl | hb
        · rcases mem_append.1 ha with ha | ha
          · have := (pairwise_append.1 h1).2.2 a ha y (by simp)
            omega
          · have : a = y := by simpa using ha
            omega
        · exact h3 a ha b hb
      refine Ev.step (fun k => ?_) (next _ perm_middle hall)
      simp only [rickyardref16_sorted.l1, e1, w64n j hj]
      rw [e2, r1, r2]
      rw [if_pos (by omega), if_pos (by omega), if_pos (by simp; omega), if_pos (by omega), if_pos (by simp; omega), if_neg hyx]
theorem sorted_from (xs : List Int) (hl : xs.length ≤ 500) (d : Nat) : ∀ (j : Nat) (ys : List Int), xs.length - j = d → j ≤ xs.length → ys ~ xs.take j → ys.Pairwise (· ≤ ·) → Ev (fun k => rickyardref16_sorted.l0 k xs ys (j : Int)) (sorted xs) := by
  induction d with
  | zero =>
    intro j ys hd hj hp hs
    rw [take_of_length_le (by omega)] at hp
    rw [← sorted_unique hp hs]
    refine Ev.step (fun k => ?_) (Ev.now _)
    simp only [rickyardref16_sorted.l0]
    rw [if_neg (by omega)]
  | succ d ih =>
    intro j ys hd hj hp hs
    have hlt : j < xs.length := by omega
    have hyl : ys.length = j := by rw [hp.length_eq, length_take]; omega
    have := sink (xs := xs) (j := j) (r := sorted xs) (by omega) ys.length ys [] xs[j] rfl (by simp; omega) (by simpa using hs) (by simp) (fun zs hz hzs => ih (j + 1) zs (by omega) (by omega) (by
      rw [take_succ_eq_append_getElem hlt]
      rw [append_nil] at hz
      exact hz.trans ((Perm.cons _ hp).trans (perm_append_singleton _ _).symm)) hzs)
    refine Ev.step (fun k => ?_) this
    simp only [rickyardref16_sorted.l0, rd_at hlt]
    rw [if_pos (by omega), if_pos (by omega), if_pos (by omega)]
theorem sorted_tells (xs : List Int) (hl : xs.length ≤ 500) : Ev (fun k => rickyardref16_sorted.f k xs) (sorted xs) := sorted_from xs hl xs.length 0 [] rfl (by omega) (by simp) (by simp)

/-! What is offered. -/
/-- m is the least file of the stale runs, or 0. -/
def Least (l : List Ru) (m : Int) : Prop := (m = 0 ∧ ∀ r ∈ l, r.f3 = false) ∨ (0 < m ∧ (∃ r ∈ l, r.f3 = true ∧ r.f0 = m) ∧ ∀ r ∈ l, r.f3 = true → m ≤ r.f0)
theorem Least.snoc {l : List Ru} {m : Int} {r : Ru} (h : Least l m) (hr : 1 ≤ r.f0) : Least (l ++ [r]) (if r.f3 = true ∧ (m = 0 ∨ r.f0 < m) then r.f0 else m) := by
  rcases h with ⟨h1, h2⟩ | ⟨h1, ⟨q, hq, hq1, hq2⟩, h3⟩
  · cases hs : r.f3 with
    | false =>
      rw [if_neg (by simp)]
      refine .inl ⟨h1, fun x hx => ?_⟩
      rcases mem_append.1 hx with hx | hx
      · exact h2 x hx
      · have : x = r := by simpa using hx
        rw [this, hs]
    | true =>
      rw [if_pos ⟨rfl, .inl h1⟩]
      refine .inr ⟨by omega, ⟨r, by simp, hs, rfl⟩, fun x hx hx1 => ?_⟩
      rcases mem_append.1 hx with hx | hx
      · rw [h2 x hx] at hx1; cases hx1
      · have : x = r := by simpa using hx
        rw [this]; exact Int.le_refl _
  · by_cases hc : r.f3 = true ∧ (m = 0 ∨ r.f0 < m)
    · rw [if_pos hc]
      refine .inr ⟨by omega, ⟨r, by simp, hc.1, rfl⟩, fun x hx hx1 => ?_⟩
      rcases mem_append.1 hx with hx | hx
      · have := h3 x hx hx1
        have := hc.2
        omega
      · have : x = r := by simpa using hx
        rw [this]; exact Int.le_refl _
    · rw [if_neg hc]
      refine .inr ⟨h1, ⟨q, mem_append_left _ hq, hq1, hq2⟩, fun x hx hx1 => ?_⟩
      rcases mem_append.1 hx with hx | hx
      · exact h3 x hx hx1
      · have : x = r := by simpa using hx
        subst this
        have : ¬ x.f0 < m := fun h => hc ⟨hx1, .inr h⟩
        omega
theorem least_loop {l : List Ru} (hl : l.length ≤ 64) (hg : ∀ r ∈ l, 1 ≤ r.f0) {full : List S56} {v : Int} {res : List Int × Int × Bool × Int} (next : ∀ m, Least l m → 0 ≤ m ∧ (0 < m → res = ([m], v, true, 0)) ∧ (m = 0 → Ev (fun k => rickyardref16_Offer.l1 k full (wrap64 (v + 1))) res)) (d : Nat) :
    ∀ (c : Nat) (m : Int), l.length - c = d → c ≤ l.length → Least (l.take c) m → Ev (fun k => rickyardref16_Offer.l2 k full v m (l.map cv) (c : Int)) res := by
  induction d with
  | zero =>
    intro c m hd hc hm
    rw [take_of_length_le (by omega)] at hm
    obtain ⟨h0, h1, h2⟩ := next m hm
    by_cases hz : m > 0
    · rw [h1 hz]
      refine Ev.step (fun k => ?_) (Ev.now _)
      simp only [rickyardref16_Offer.l2, length_map]
      rw [if_neg (by omega), if_pos hz]
    · refine Ev.step (fun k => ?_) (h2 (by omega))
      simp only [rickyardref16_Offer.l2, length_map]
      rw [if_neg (by omega), if_neg hz]
  | succ d ih =>
    intro c m hd hc hm
    have hlt : c < l.length := by omega
    have hs := hm.snoc (hg _ (getElem_mem hlt))
    rw [← take_succ_eq_append_getElem hlt] at hs
    refine Ev.step (fun k => ?_) (ih (c + 1) _ (by omega) (by omega) hs)
    simp only [rickyardref16_Offer.l2, rd_cv hlt, w64n c (by omega), length_map, cv]
    rw [if_pos (by omega), if_pos (by omega)]
    by_cases h3 : l[c].f3 = true
    · rw [if_pos h3]
      by_cases h0 : m = 0
      · rw [if_pos h0, if_pos ⟨h3, .inl h0⟩]
      · rw [if_neg h0]
        by_cases h4 : l[c].f0 < m
        · rw [if_pos h4, if_pos ⟨h3, .inr h4⟩]
        · rw [if_neg h4, if_neg (fun h => h4 (h.2.resolve_left h0))]
    · rw [if_neg h3, if_neg (fun h => h3 h.1)]
theorem stale_loop {l : List Ru} (ht : Tree l) (d : Nat) : ∀ v : Int, 4 - v = d → 0 ≤ v → v ≤ 4 → (∀ r ∈ l, r.f3 = true → v ≤ r.f1) →
    Ev (fun k => rickyardref16_Offer.l1 k (l.map cv) v) (if (best l).f0 = 0 then ([], 0, false, 0) else ([(best l).f0], (best l).f1, true, 0)) := by
  have hl := ht.len
  induction d with
  | zero =>
    intro v hd h0 h4 hs
    rw [if_pos ((best_zero ht).2 (fun r hr => by
      cases h : r.f3 with
      | false => rfl
      | true =>
        have := hs r hr h
        have := (ht.good r hr).2.2.1
        omega))]
    refine Ev.step (fun k => ?_) (Ev.now _)
    simp only [rickyardref16_Offer.l1]
    rw [if_neg (by omega)]
  | succ d ih =>
    intro v hd h0 h4 hs
    refine Ev.step (f := fun k => (rickyardref16_at.f k (l.map cv) v).bind _) (fun k => by simp only [rickyardref16_Offer.l1]; rw [if_pos (by omega)]) (Ev.bind (at_tells l v (by omega)) ?_)
    refine least_loop (l := atL l v) (Nat.le_trans (length_filter_le _ _) hl) (fun r hr => (ht.good r (mem_atL.1 hr).1).1) (fun m hm => ?_) (atL l v).length 0 0 (by omega) (by omega) (.inl ⟨rfl, by simp⟩)
    rcases hm with ⟨h1, h2⟩ | ⟨h1, ⟨q, hq, hq1, hq2⟩, h3⟩
    · refine ⟨by omega, fun h => by omega, fun _ => ?_⟩
      rw [w64 (by omega) (by omega)]
      refine ih (v + 1) (by omega) (by omega) (by omega) (fun r hr hs1 => ?_)
      have := hs r hr hs1
      rcases Int.lt_or_eq_of_le this with h | h
      · omega
      · have := h2 r (mem_atL.2 ⟨hr, h.symm⟩)
        rw [this] at hs1; cases hs1
    · refine ⟨by omega, fun _ => ?_, fun h => by omega⟩
      obtain ⟨k1, k2⟩ := mem_atL.1 hq
      have hb : best l = q := best_unique ht (best_is l) ⟨fun r hr hs1 => by
        have := hs r hr hs1
        unfold ahead
        rcases Int.lt_or_eq_of_le this with h | h
        · exact .inl (by omega)
        · exact .inr ⟨by omega, by rw [hq2]; exact h3 r (mem_atL.2 ⟨hr, h.symm⟩) hs1⟩, .inr ⟨k1, hq1⟩⟩
      rw [hb, if_neg (by omega), hq2, k2]
theorem level_loop {l : List Ru} (ht : Tree l) (d : Nat) : ∀ v : Int, 3 - v = d → 0 ≤ v → v ≤ 3 → (∀ j : Int, 0 ≤ j → j < v → fullB l j = false) → Ev (fun k => rickyardref16_Offer.l0 k (l.map cv) v) (offerB l) := by
  have hl := ht.len
  induction d with
  | zero =>
    intro v hd h0 h3 hn
    rw [offer_none ht (fun i hi => by
      rcases Int.lt_or_le i 3 with h | h
      · exact hn i hi (by omega)
      · exact full_far h)]
    refine Ev.step (fun k => ?_) (stale_loop ht 4 0 rfl (by omega) (by omega) (fun r hr _ => (ht.good r hr).2.1))
    simp only [rickyardref16_Offer.l0]
    rw [if_neg (by omega)]
  | succ d ih =>
    intro v hd h0 h3 hn
    refine Ev.step (f := fun k => (rickyardref16_Full.f k (l.map cv) v).bind _) (fun k => by simp only [rickyardref16_Offer.l0]; rw [if_pos (by omega)]) (Ev.bind (rfull_tells l v) ?_)
    unfold isFull
    rw [(right_iff l).2 ht, decide_eq_true h0]
    cases hf : fullB l v with
    | true =>
      simp only [Bool.and_self, if_true]
      have hat : ∀ i, (atL l i).length ≤ 64 := fun i => Nat.le_trans (length_filter_le _ _) hl
      refine Ev.bind (at_tells l v (by omega)) (Ev.bind (files_tells _ (Nat.le_trans (hat v) (by omega))) ?_)
      rw [w64 (by omega) (by omega)]
      refine Ev.bind (at_tells l (v + 1) (by omega)) (Ev.bind (files_tells _ (Nat.le_trans (hat (v + 1)) (by omega))) ?_)
      have hlen : ((atL l v).map (·.f0)).length + ((atL l (v + 1)).map (·.f0)).length ≤ 500 := by
        have := hat v; have := hat (v + 1)
        simp only [length_map]; omega
      rw [offer_full ht h0 hf hn, sorted_of_perm (both_split l v)]
      refine Ev.congr (f := fun k => (rickyardref16_sorted.f k _).bind fun t => some (t, v + 1, true, 0)) (fun k => ?_) (Ev.bind (sorted_tells _ (by rw [length_append]; exact hlen)) (Ev.now _))
      rw [if_pos (by omega)]
    | false =>
      simp only [Bool.and_false]
      rw [w64 (by omega) (by omega)]
      exact ih (v + 1) (by omega) (by omega) (by omega) (fun j h1 h2 => by
        rcases Int.lt_or_eq_of_le (show j ≤ v by omega) with h | h
        · exact hn j h1 h
        · rw [h]; exact hf)
theorem roffer_tells (l : List Ru) : Ev (fun k => rickyardref16_Offer.f k (l.map cv)) (offerB l) := by
  refine Ev.bind (right_tells l) ?_
  by_cases ht : Tree l
  · rw [(right_iff l).2 ht]
    exact level_loop ht 3 0 rfl (by omega) (by omega) (fun j h1 h2 => by omega)
  · rw [(right_false l).2 ht, offer_not ht]
    exact Ev.now _
end Go.Proofs.Ytnbbejhbnajdbaa.PickP
