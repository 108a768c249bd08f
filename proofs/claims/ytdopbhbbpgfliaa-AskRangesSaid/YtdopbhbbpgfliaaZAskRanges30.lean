import Derived.Test.YtdopbhbbpgfliaaZAskRanges29
section
namespace Go.Proofs.Ytdopbhbbpgfliaa.PAsk
open Go.RowKit Go.Proofs.YtdopbhbbpgfliaaW.PrintWords Go.Proofs.YtdopbhbbpgfliaaW.PrintLast Go.Proofs.YtdopbhbbpgfliaaW.PrintMore Go.Proofs.Ytdopbhbbpgfliaa.GrainM Go.Proofs.Ytdopbhbbpgfliaa.GrainL
set_option linter.unusedVariables false
set_option linter.unusedSimpArgs false
set_option maxHeartbeats 8000000
set_option maxRecDepth 100000
theorem order_loop (l : List ByteArray) (hl : l.length < 10000000000000) (d : Nat) : ∀ i : Nat, l.length - i = d → Ev (fun k => rickyardref06_Order.l0 k l l (i : Int)) 0 := by
  induction d with
  | zero =>
    intro i hd
    refine Ev.step (f := fun k => rickyardref06_Order.j1 k l l (i : Int) false) (fun k => ?_) (Ev.step (f := fun _ => some 0) (fun k => ?_) (Ev.now _))
    · simp only [rickyardref06_Order.l0]; rw [if_neg (by omega)]
    · simp only [rickyardref06_Order.j1, Bool.false_eq_true, if_false]
      rw [if_neg (by omega), if_neg (by omega)]
  | succ d ih =>
    intro i hd
    refine Ev.step (f := fun k => rickyardref06_Order.j1 k l l (i : Int) true) (fun k => ?_) (Ev.step (f := fun k => rickyardref06_Order.l0 k l l ((i + 1 : Nat) : Int)) (fun k => ?_) (ih (i + 1) (by omega)))
    · simp only [rickyardref06_Order.l0]; rw [if_pos (by omega), show decide ((i : Int) < (l.length : Int)) = true from decide_eq_true (by omega)]
    · simp only [rickyardref06_Order.j1, if_true, bl_irr, Bool.false_eq_true, if_false, kw64o i (by omega)]
      rw [if_pos (by omega), if_pos (by omega), if_pos (by omega)]
theorem order_self (l : List ByteArray) (hl : l.length < 10000000000000) : Ev (fun k => rickyardref06_Order.f k l l) 0 := order_loop l hl _ 0 rfl
abbrev Rr := S73
def asR (x : Rw) : Rr := ⟨x.f0, x.f1, x.f2, x.f3⟩
theorem as_one (x : Rw) : Ev (fun k => rickyardlaw17_As.f k [x]) [asR x] := by
  unfold rickyardlaw17_As.f
  refine Ev.step (f := fun k => rickyardlaw17_As.l0 k [x] [asR x] 1) (fun k => ?_) (Ev.step (f := fun _ => some [asR x]) (fun k => ?_) (Ev.now _))
  · conv => lhs; unfold rickyardlaw17_As.l0
    rw [if_pos (by simp), if_pos (by omega), if_pos (by simp), show wrap64 ((0 : Int) + 1) = 1 from kw64o 0 (by omega)]
    rfl
  · conv => lhs; unfold rickyardlaw17_As.l0
    rw [if_neg (by simp)]
theorem same_one (x : Rr) (hl : x.f0.length < 10000000000000) : Ev (fun k => rickyardref17_SameAll.f k [x] [x]) true := by
  unfold rickyardref17_SameAll.f
  simp only [if_true]
  have hs : Ev (fun k => rickyardref17_Same.f k x.f0 x.f1 x.f2 x.f3.f0 x.f3.f1 x.f3.f2.f0 x.f3.f2.f1 x.f3.f3 x.f3.f4 x.f0 x.f1 x.f2 x.f3.f0 x.f3.f1 x.f3.f2.f0 x.f3.f2.f1 x.f3.f3 x.f3.f4) true := by
    unfold rickyardref17_Same.f
    refine Ev.bind (order_self x.f0 hl) (Ev.congr (fun k => ?_) (Ev.now true))
    simp
  refine Ev.step (f := fun k => (rickyardref17_Same.f k x.f0 x.f1 x.f2 x.f3.f0 x.f3.f1 x.f3.f2.f0 x.f3.f2.f1 x.f3.f3 x.f3.f4 x.f0 x.f1 x.f2 x.f3.f0 x.f3.f1 x.f3.f2.f0 x.f3.f2.f1 x.f3.f3 x.f3.f4).bind fun t => if t = true then rickyardref17_SameAll.l0 k [x] [x] 1 else some false) (fun k => ?_) (Ev.bind hs ?_)
  · conv => lhs; unfold rickyardref17_SameAll.l0
    rw [if_pos (by simp), if_pos (by omega), if_pos (by simp), show wrap64 ((0 : Int) + 1) = 1 from kw64o 0 (by omega)]
    rfl
  · simp only [if_true]
    refine Ev.step (f := fun _ => some true) (fun k => ?_) (Ev.now _)
    conv => lhs; unfold rickyardref17_SameAll.l0
    rw [if_neg (by simp)]
theorem toList_inj {a b : ByteArray} (h : a.toList = b.toList) : a = b := by
  have e : ∀ c : ByteArray, c.toList = c.data.toList := fun c => by rw [ByteArray.toList_eq]
  rw [e, e] at h
  cases a; cases b
  simp at h
  rw [h]
open Classical in
theorem eq_loop {a b : List ByteArray} (hab : a.length = b.length) (hl : a.length < 10000000000000) (d : Nat) : ∀ i : Nat, a.length - i = d → Ev (fun k => slices_Equal_string_string.l0 k a b (a.length : Int) (i : Int)) (decide (a.drop i = b.drop i)) := by
  induction d with
  | zero =>
    intro i hd
    rw [List.drop_eq_nil_of_le (by omega), List.drop_eq_nil_of_le (by omega)]
    refine Ev.step (f := fun _ => some true) (fun k => ?_) (Ev.congr (fun k => by simp) (Ev.now true))
    simp only [slices_Equal_string_string.l0]
    rw [if_neg (by omega)]
  | succ d ih =>
    intro i hd
    have h1 : i < a.length := by omega
    have h2 : i < b.length := by omega
    have r1 := rdOf_get h1
    have r2 := rdOf_get h2
    rw [List.drop_eq_getElem_cons h1, List.drop_eq_getElem_cons h2]
    by_cases e : a[i] = b[i]
    · have : decide (a[i] :: a.drop (i + 1) = b[i] :: b.drop (i + 1)) = decide (a.drop (i + 1) = b.drop (i + 1)) := decide_eq_decide.2 ⟨fun h => (List.cons.inj h).2, fun h => by rw [e, h]⟩
      rw [this]
      refine Ev.step (fun k => ?_) (ih (i + 1) (by omega))
      simp only [slices_Equal_string_string.l0, r1, r2, kw64o i (by omega)]
      rw [if_pos (by omega), if_pos (by omega), if_pos (by omega), if_pos (by omega), if_pos (by rw [e])]
    · have : decide (a[i] :: a.drop (i + 1) = b[i] :: b.drop (i + 1)) = false := decide_eq_false (fun h => e (List.cons.inj h).1)
      rw [this]
      refine Ev.step (f := fun _ => some false) (fun k => ?_) (Ev.now _)
      simp only [slices_Equal_string_string.l0, r1, r2]
      rw [if_pos (by omega), if_pos (by omega), if_pos (by omega), if_pos (by omega), if_neg (fun h => e (toList_inj h))]
open Classical in
theorem eq_tells (a b : List ByteArray) (hl : a.length < 10000000000000) : Ev (fun k => slices_Equal_string_string.f k a b) (decide (a = b)) := by
  unfold slices_Equal_string_string.f
  by_cases h : a.length = b.length
  · have := eq_loop h hl _ 0 rfl
    simp only [List.drop_zero] at this
    refine Ev.congr (fun k => ?_) this
    rw [if_pos (by omega)]; rfl
  · rw [show decide (a = b) = false from decide_eq_false (fun e => h (by rw [e]))]
    refine Ev.congr (fun k => ?_) (Ev.now false)
    rw [if_neg (by omega)]
open Classical in
noncomputable def inScan (dims : List ByteArray) (lo hi : Int) (x : Rw) : Bool := decide (dims.length ≤ x.f0.length ∧ x.f0.take dims.length = dims ∧ lo ≤ x.f1 ∧ x.f1 < hi)
theorem scan_some {dims : List ByteArray} (hd : dims.length < 10000000000000) {lo hi : Int} : ∀ (l out : List Rw), out.length + l.length < 1000000 → Ev (fun k => scanGo k dims lo hi l out) (out ++ l.filter (inScan dims lo hi))
  | [], out, _ => by simp only [scanGo, List.filter_nil, List.append_nil]; exact Ev.now _
  | x :: r, out, h => by
    classical
    simp only [List.length_cons] at h
    have ih1 := scan_some hd (lo := lo) (hi := hi) r out (by omega)
    by_cases hlen : dims.length ≤ x.f0.length
    · have heq := eq_tells (x.f0.take dims.length) dims (by rw [List.length_take]; omega)
      refine Ev.congr (f := fun k => (slices_Equal_string_string.f k (x.f0.take dims.length) dims).bind fun q => if q = true ∧ lo ≤ x.f1 ∧ x.f1 < hi then (if out.length < 1000000 then scanGo k dims lo hi r (out ++ [x]) else none) else scanGo k dims lo hi r out) (fun k => by
        conv => lhs; unfold scanGo
        rw [if_pos hlen]) (Ev.bind heq ?_)
      by_cases c : x.f0.take dims.length = dims ∧ lo ≤ x.f1 ∧ x.f1 < hi
      · have hc : inScan dims lo hi x = true := decide_eq_true ⟨hlen, c⟩
        rw [List.filter_cons_of_pos hc]
        have := scan_some hd (lo := lo) (hi := hi) r (out ++ [x]) (by simp; omega)
        rw [List.append_assoc, List.singleton_append] at this
        refine Ev.congr (fun k => ?_) this
        rw [if_pos ⟨decide_eq_true c.1, c.2⟩, if_pos (by omega)]
      · have hc : ¬ inScan dims lo hi x = true := by unfold inScan; simp only [decide_eq_true_eq]; exact fun h => c h.2
        rw [List.filter_cons_of_neg hc]
        refine Ev.congr (fun k => ?_) ih1
        rw [if_neg (fun h => c ⟨of_decide_eq_true h.1, h.2⟩)]
    · have hc : ¬ inScan dims lo hi x = true := by unfold inScan; simp only [decide_eq_true_eq]; exact fun h => hlen h.1
      rw [List.filter_cons_of_neg hc]
      refine Ev.congr (fun k => ?_) ih1
      conv => lhs; unfold scanGo
      rw [if_neg hlen]
theorem lit_u8 {x : Int} (h : (Lit.int .u8 x).wf = true) : isB x = true := by
  simpa [Lit.wf, IntKind.min, IntKind.max, IntKind.bits, IntKind.signed, isB] using h
theorem lit_u64 {x : Int} (h : (Lit.int .u64 x).wf = true) : inU x := by
  have : 0 ≤ x ∧ x ≤ 18446744073709551615 := by simpa [Lit.wf, IntKind.min, IntKind.max, IntKind.bits, IntKind.signed] using h
  unfold inU mW; omega
theorem wfE_of {x : En} (h : wfS60 x) (hs : x.f0.length ≤ 300) : WfE x := ⟨List.all_eq_true.2 (fun z hz => lit_u8 (h.1.2 z hz)), by omega, lit_u64 h.2.1, lit_u64 h.2.2.1.2⟩
theorem great_loop (l : List En) (hl : l.length < 1000000) (d : Nat) : ∀ i : Nat, l.length - i = d → ∃ t, Ev (fun k => rickyardlaw15_Great.l0 k l (i : Int)) t ∧ (t = false → ∀ j (hj : j < l.length), i ≤ j → l[j].f0.length ≤ 300) := by
  induction d with
  | zero =>
    intro i hd
    refine ⟨false, Ev.step (fun k => ?_) (Ev.now _), fun _ j hj h => by omega⟩
    simp only [rickyardlaw15_Great.l0]
    rw [if_neg (by omega)]
  | succ d ih =>
    intro i hd
    have hlt : i < l.length := by omega
    by_cases hg : (l[i].f0.length : Int) > 300
    · refine ⟨true, Ev.step (fun k => ?_) (Ev.now _), fun h => by cases h⟩
      simp only [rickyardlaw15_Great.l0, rd_ent hlt]
      rw [if_pos (by omega), if_pos (by omega), if_pos hg]
    · obtain ⟨t, h, ht⟩ := ih (i + 1) (by omega)
      refine ⟨t, Ev.step (fun k => ?_) h, fun hf j hj hij => ?_⟩
      · simp only [rickyardlaw15_Great.l0, rd_ent hlt, kw64o i (by omega)]
        rw [if_pos (by omega), if_pos (by omega), if_neg hg]
      · rcases Nat.lt_or_ge i j with h1 | h1
        · exact ht hf j hj h1
        · obtain rfl : i = j := by omega
          omega
theorem great_ex (l : List En) : ∃ t, Ev (fun k => rickyardlaw15_Great.f k l) t ∧ (t = false → l.length ≤ 60 ∧ ∀ x ∈ l, x.f0.length ≤ 300) := by
  unfold rickyardlaw15_Great.f
  by_cases h : (l.length : Int) > 60
  · exact ⟨true, Ev.congr (fun k => by rw [if_pos h]) (Ev.now _), fun h => by cases h⟩
  · obtain ⟨t, ht, hf⟩ := great_loop l (by omega) _ 0 rfl
    refine ⟨t, Ev.congr (fun k => by rw [if_neg h]; rfl) ht, fun h0 => ⟨by omega, fun x hx => ?_⟩⟩
    obtain ⟨j, hj, rfl⟩ := List.getElem_of_mem hx
    exact hf h0 j hj (Nat.zero_le _)
end Go.Proofs.Ytdopbhbbpgfliaa.PAsk
end
section
namespace Go.Proofs.Ytdopbhbbpgfliaa.PAsk
open Go.RowKit Go.Proofs.YtdopbhbbpgfliaaW.PrintWords Go.Proofs.YtdopbhbbpgfliaaW.PrintLast Go.Proofs.YtdopbhbbpgfliaaW.PrintMore Go.Proofs.Ytdopbhbbpgfliaa.GrainM Go.Proofs.Ytdopbhbbpgfliaa.GrainL
set_option linter.unusedVariables false
set_option linter.unusedSimpArgs false
set_option maxHeartbeats 8000000
set_option maxRecDepth 100000
theorem dimsB_len {l : List ByteArray} (h : dimsB l = true) : l.length ≤ 4 := by
  unfold dimsB at h
  simp only [Bool.and_eq_true, decide_eq_true_eq] at h
  exact h.1
theorem many_one (dims : List ByteArray) : ∃ t, Ev (fun k => rickyardlaw15_Many.f k [⟨dims, 0, 0⟩]) t := by
  have h1 : ∀ d j : Nat, dims.length ≤ 20 → dims.length - j = d → ∃ t, Ev (fun k => rickyardlaw15_Many.l1 k [⟨dims, 0, 0⟩] 0 (j : Int)) t := by
    intro d
    induction d with
    | zero =>
      intro j h20 hd
      refine ⟨false, Ev.step (f := fun k => rickyardlaw15_Many.l0 k [⟨dims, 0, 0⟩] 1) (fun k => ?_) (Ev.step (f := fun _ => some false) (fun k => ?_) (Ev.now _))⟩
      · simp only [rickyardlaw15_Many.l1]
        rw [if_pos (by omega), if_pos (by simp), if_neg (show ¬ (j : Int) < (((rd_T63 [⟨dims, 0, 0⟩] 0).f0).length : Int) by show ¬ (j : Int) < (dims.length : Int); omega), show wrap64 ((0 : Int) + 1) = 1 from kw64o 0 (by omega)]
      · simp only [rickyardlaw15_Many.l0]
        rw [if_neg (by simp)]
    | succ d ih =>
      intro j h20 hd
      by_cases hs : ((rdOf ByteArray.empty dims (j : Int)).size : Int) > 100
      · refine ⟨true, Ev.step (f := fun _ => some true) (fun k => ?_) (Ev.now _)⟩
        simp only [rickyardlaw15_Many.l1]
        rw [if_pos (by omega), if_pos (by simp), if_pos (show (j : Int) < (((rd_T63 [⟨dims, 0, 0⟩] 0).f0).length : Int) by show (j : Int) < (dims.length : Int); omega), if_pos (by omega)]
        exact if_pos hs
      · obtain ⟨t, h⟩ := ih (j + 1) h20 (by omega)
        refine ⟨t, Ev.step (fun k => ?_) h⟩
        simp only [rickyardlaw15_Many.l1]
        rw [if_pos (by omega), if_pos (by simp), if_pos (show (j : Int) < (((rd_T63 [⟨dims, 0, 0⟩] 0).f0).length : Int) by show (j : Int) < (dims.length : Int); omega), if_pos (by omega), kw64o j (by omega)]
        exact if_neg hs
  unfold rickyardlaw15_Many.f
  by_cases h20 : (dims.length : Int) > 20
  · refine ⟨true, Ev.congr (g := fun k => if (([⟨dims, 0, 0⟩] : List S63).length : Int) > 60 then some true else rickyardlaw15_Many.l0 k [⟨dims, 0, 0⟩] 0) (fun k => if_neg (by simp)) (Ev.step (f := fun _ => some true) (fun k => ?_) (Ev.now _))⟩
    simp only [rickyardlaw15_Many.l0]
    rw [if_pos (by simp), if_pos (by omega)]
    exact if_pos h20
  · obtain ⟨t, h⟩ := h1 _ 0 (by omega) rfl
    refine ⟨t, Ev.congr (g := fun k => if (([⟨dims, 0, 0⟩] : List S63).length : Int) > 60 then some true else rickyardlaw15_Many.l0 k [⟨dims, 0, 0⟩] 0) (fun k => if_neg (by simp)) (Ev.step (fun k => ?_) h)⟩
    simp only [rickyardlaw15_Many.l0]
    rw [if_pos (by simp), if_pos (by omega)]
    exact if_neg h20
theorem take_drop_one {α : Type} {l : List α} {n : Nat} (h : n < l.length) : (l.take (n + 1)).drop n = [l[n]] := by
  rw [List.take_succ_eq_append_getElem h, List.drop_append_of_le_length (by simp; omega)]
  rw [List.drop_eq_nil_of_le (by simp; omega)]
  rfl
theorem drop_head {α : Type} {l r : List α} {i : Nat} {x : α} (h : l.drop i = x :: r) : ∃ hi : i < l.length, l[i] = x ∧ l.drop (i + 1) = r := by
  have hi : i < l.length := by
    refine Decidable.byContradiction fun hc => ?_
    rw [List.drop_eq_nil_of_le (by omega)] at h
    cases h
  rw [List.drop_eq_getElem_cons hi] at h
  exact ⟨hi, (List.cons.inj h).1, (List.cons.inj h).2⟩
def aheadB (mid : Int) (x : Rw) : Bool := decide (x.f1 < mid)
theorem ranges_loop {mid : Int} {all a b : List Rw} (h0 : all.length < 1000000) (ha : a.length < 1000000) (hb : b.length < 1000000) (hd : ∀ x ∈ all, x.f0.length < 10000000000000) (d : Nat) : ∀ n i j : Nat, all.length - n = d → n ≤ all.length → i ≤ a.length → j ≤ b.length →
    a.drop i = (all.drop n).filter (aheadB mid) → b.drop j = (all.drop n).filter (fun x => !aheadB mid x) → Ev (fun k => rickyardlaw17_AskRanges.l0 k mid all a 0 b 0 (i : Int) (j : Int) (n : Int)) true := by
  induction d with
  | zero =>
    intro n i j hdn hn hi hj e1 e2
    rw [List.drop_eq_nil_of_le (show all.length ≤ n by omega), List.filter_nil] at e1 e2
    have hi2 : i = a.length := by have := congrArg List.length e1; simp at this; omega
    have hj2 : j = b.length := by have := congrArg List.length e2; simp at this; omega
    subst hi2 hj2
    refine Ev.step (f := fun k => (rickyardlaw17_alive.f k).bind fun t => if t = true then some true else some false) (fun k => ?_) (Ev.bind alive17_tells (by simp only [if_true]; exact Ev.now _))
    simp only [rickyardlaw17_AskRanges.l0]
    rw [if_neg (by omega)]
    simp
  | succ d ih =>
    intro n i j hdn hn hi hj e1 e2
    have hlt : n < all.length := by omega
    have hone : ∀ k, rickyardlaw17_As.f k ((all.take ((n + 1 : Nat) : Int).toNat).drop (n : Int).toNat) = rickyardlaw17_As.f k [all[n]] := fun k => by
      rw [show (((n + 1 : Nat) : Int)).toNat = n + 1 by omega, show ((n : Int)).toNat = n by omega, take_drop_one hlt]
    rw [List.drop_eq_getElem_cons hlt] at e1 e2
    have hx := hd _ (List.getElem_mem hlt)
    by_cases hp : all[n].f1 < mid
    · have hpb : aheadB mid all[n] = true := decide_eq_true hp
      rw [List.filter_cons_of_pos hpb] at e1
      rw [List.filter_cons_of_neg (by rw [hpb]; decide)] at e2
      obtain ⟨hil, hai, har⟩ := drop_head e1
      have htwo : ∀ k, rickyardlaw17_As.f k ((a.take ((i + 1 : Nat) : Int).toNat).drop (i : Int).toNat) = rickyardlaw17_As.f k [all[n]] := fun k => by
        rw [show (((i + 1 : Nat) : Int)).toNat = i + 1 by omega, show ((i : Int)).toNat = i by omega, take_drop_one hil, hai]
      have hrec := ih (n + 1) (i + 1) j (by omega) (by omega) (by omega) hj har e2
      refine Ev.step (f := fun k => (rickyardlaw17_As.f k [all[n]]).bind fun t => (rickyardlaw17_As.f k [all[n]]).bind fun u => (rickyardref17_SameAll.f k t u).bind fun v => rickyardlaw17_AskRanges.j2 k mid all a 0 b 0 (i : Int) (j : Int) (n : Int) t v) (fun k => ?_) (Ev.bind (as_one _) (Ev.bind (as_one _) (Ev.bind (same_one _ hx) ?_)))
      · simp only [rickyardlaw17_AskRanges.l0, rd_row hlt, kw64o n (by omega), kw64o i (by omega), hone, htwo]
        rw [if_pos (by omega), if_pos (by omega), if_pos (by omega), if_pos (by omega)]
        simp only [if_pos hp, if_pos (show (i : Int) < (a.length : Int) by omega), if_pos (show (0 : Int) ≤ (i : Int) by omega), if_pos (show (i : Int) ≤ ((i + 1 : Nat) : Int) by omega), if_pos (show ((i + 1 : Nat) : Int) ≤ (a.length : Int) by omega)]
      · refine Ev.step (fun k => ?_) hrec
        simp only [rickyardlaw17_AskRanges.j2, if_true, kw64o n (by omega), kw64o i (by omega)]
    · have hpb : aheadB mid all[n] = false := decide_eq_false hp
      rw [List.filter_cons_of_neg (by rw [hpb]; decide)] at e1
      rw [List.filter_cons_of_pos (by rw [hpb]; rfl)] at e2
      obtain ⟨hjl, hbj, hbr⟩ := drop_head e2
      have htwo : ∀ k, rickyardlaw17_As.f k ((b.take ((j + 1 : Nat) : Int).toNat).drop (j : Int).toNat) = rickyardlaw17_As.f k [all[n]] := fun k => by
        rw [show (((j + 1 : Nat) : Int)).toNat = j + 1 by omega, show ((j : Int)).toNat = j by omega, take_drop_one hjl, hbj]
      have hrec := ih (n + 1) i (j + 1) (by omega) (by omega) hi (by omega) e1 hbr
      refine Ev.step (f := fun k => (rickyardlaw17_As.f k [all[n]]).bind fun t => rickyardlaw17_AskRanges.j2 k mid all a 0 b 0 (i : Int) (j : Int) (n : Int) t false) (fun k => ?_) (Ev.bind (as_one _) (Ev.step (f := fun k => (rickyardlaw17_As.f k [all[n]]).bind fun u => (rickyardref17_SameAll.f k [asR all[n]] u).bind fun v => if v = true then rickyardlaw17_AskRanges.l0 k mid all a 0 b 0 (i : Int) ((j + 1 : Nat) : Int) ((n + 1 : Nat) : Int) else some false) (fun k => ?_) (Ev.bind (as_one _) (Ev.bind (same_one _ hx) ?_))))
      · simp only [rickyardlaw17_AskRanges.l0, rd_row hlt, kw64o n (by omega), hone]
        rw [if_pos (by omega), if_pos (by omega), if_pos (by omega), if_pos (by omega)]
        simp only [if_neg hp, ite_self]
      · simp only [rickyardlaw17_AskRanges.j2, Bool.false_eq_true, if_false, rd_row hlt, kw64o n (by omega), kw64o j (by omega), htwo]
        rw [if_pos (by omega), if_pos (by omega), if_pos (by omega), if_pos (by omega), if_pos (by omega), if_pos (by omega), if_pos (by omega)]
      · simp only [if_true]; exact hrec
open Classical in
theorem ranged_tells (lo hi : Int) : ask_ranged.f lo hi = some (decide (isT lo ∧ isT hi ∧ lo ≤ hi)) := by
  unfold ask_ranged.f ask_isTime.f isT
  by_cases a1 : 0 ≤ lo <;> by_cases a2 : lo ≤ 1099511627776 <;> by_cases b1 : 0 ≤ hi <;> by_cases b2 : hi ≤ 1099511627776 <;> simp [a1, a2, b1, b2]
open Classical in
theorem scan_gen {gs : List Gr} {keep w : Int} {l : List En} (hl : l.length < 1000) (hw : ∀ x ∈ l, WfE x) (ho : okL gs keep w l) : ∃ rs, RowsOf gs (foldM gs keep w l) rs ∧ ∀ (dims : List ByteArray) (lo hi : Int), dims.length < 10000000000000 →
    Ev (fun k => ask_Scan.f k gs keep w l dims lo hi) (if dimsB dims = true then if isT lo ∧ isT hi ∧ lo ≤ hi then (rs.filter (inScan dims lo hi), 0) else ([], 1) else ([], 110)) := by
  obtain ⟨rs, h1, h2⟩ := rows_tells hl hw ho
  obtain ⟨_, _, _, x4, _⟩ := foldM_ok hw ho
  have hlen := h1.length
  refine ⟨rs, h1, fun dims lo hi hd => ?_⟩
  unfold ask_Scan.f
  refine Ev.bind h2 ?_
  simp only [if_true]
  have hk : key_Right.f dims 0 0 = some (decide (dimsB dims = true)) := by
    rw [key_right_tells]; congr 1; exact decide_eq_decide.2 ⟨fun h => h.1, fun h => ⟨h, ⟨by omega, by omega⟩, by omega, by omega⟩⟩
  simp only [hk, ranged_tells, Option.bind_some]
  by_cases hb : dimsB dims = true
  · simp only [hb, decide_true, if_true]
    by_cases hr : isT lo ∧ isT hi ∧ lo ≤ hi
    · simp only [if_pos hr, decide_eq_true hr, if_true]
      exact Ev.bind (scan_some hd rs [] (by simp; omega)) (Ev.now _)
    · simp only [if_neg hr, decide_eq_false hr, Bool.false_eq_true, if_false]
      exact Ev.now _
  · simp only [if_neg hb, decide_eq_false hb, Bool.false_eq_true, if_false]
    exact Ev.now _
end Go.Proofs.Ytdopbhbbpgfliaa.PAsk
namespace Go.Proofs.Ytdopbhbbpgfliaa.Pure
open Go.RowKit Go.Proofs.YtdopbhbbpgfliaaW.PrintWords Go.Proofs.YtdopbhbbpgfliaaW.PrintLast Go.Proofs.YtdopbhbbpgfliaaW.PrintMore Go.Proofs.Ytdopbhbbpgfliaa.PAsk Go.Proofs.Ytdopbhbbpgfliaa.GrainM Go.Proofs.Ytdopbhbbpgfliaa.GrainL
theorem AskRanges : rickyardlaw17_AskRanges.Pure := by
  classical
  intro gs keep w l dims T lo hi mask mid _ _ _ hwl hdm _ _ _ _ _
  refine Ev.rounds ?_
  unfold rickyardlaw17_AskRanges.f
  have hal : Ev (fun k => (rickyardlaw17_alive.f k).bind fun t => some t) true := Ev.bind alive17_tells (Ev.now _)
  have hj0 : Ev (fun k => rickyardlaw17_AskRanges.j0 k w l mid true gs keep dims T lo hi mask) true := Ev.step (fun k => by simp only [rickyardlaw17_AskRanges.j0, if_true]) hal
  have hdl : dims.length < 10000000000000 := by have := hdm.1; omega
  obtain ⟨t, ht, hf⟩ := great_ex l
  refine Ev.bind ht ?_
  cases t with
  | true => simp only [if_true]; exact hj0
  | false =>
    obtain ⟨l60, lk⟩ := hf rfl
    simp only [Bool.false_eq_true, if_false]
    have wl : ∀ x ∈ l, WfE x := fun x hx => wfE_of (hwl.2 x hx) (lk x hx)
    obtain ⟨t2, hm⟩ := many_one dims
    have hL : Ev (fun k => rickyardlaw17_Long.f k dims T lo hi mask) t2 := by unfold rickyardlaw17_Long.f; exact Ev.bind hm (Ev.now _)
    refine Ev.bind hL ?_
    cases t2 with
    | true => simp only [if_true]; exact hj0
    | false =>
      simp only [Bool.false_eq_true, if_false]
      by_cases m1 : mid < lo
      · simp only [if_pos m1]; exact hj0
      simp only [if_neg m1]
      by_cases m2 : mid > hi
      · rw [show decide (mid > hi) = true from decide_eq_true m2]; exact hj0
      rw [show decide (mid > hi) = false from decide_eq_false m2]
      refine Ev.step (f := fun k => (ask_Scan.f k gs keep w l dims lo hi).bind fun x => (ask_Scan.f k gs keep w l dims lo mid).bind fun y => (ask_Scan.f k gs keep w l dims mid hi).bind fun z => if x.2 = 0 then rickyardlaw17_AskRanges.l0 k mid x.1 y.1 y.2 z.1 z.2 0 0 0 else (rickyardlaw17_alive.f k).bind fun t => if t = true then some ((x.1.length : Int) == 0) else some false) (fun k => by simp only [rickyardlaw17_AskRanges.j0, Bool.false_eq_true, if_false]) ?_
      have hdims : dims.length < 10000000000000 := hdl
      by_cases ok : okL gs keep w l
      case neg =>
        obtain ⟨e1, he1, h1⟩ := scan_errs (gs := gs) (keep := keep) (w := w) (l := l) (by omega) wl ok dims lo hi
        obtain ⟨e2, he2, h2⟩ := scan_errs (gs := gs) (keep := keep) (w := w) (l := l) (by omega) wl ok dims lo mid
        obtain ⟨e3, he3, h3⟩ := scan_errs (gs := gs) (keep := keep) (w := w) (l := l) (by omega) wl ok dims mid hi
        refine Ev.bind h1 (Ev.bind h2 (Ev.bind h3 ?_))
        simp only [if_neg he1]
        exact Ev.bind alive17_tells (Ev.congr (fun k => by simp) (Ev.now true))
      obtain ⟨rs, hrs, hsc⟩ := scan_gen (gs := gs) (keep := keep) (w := w) (l := l) (by omega) wl ok
      obtain ⟨_, _, _, x4, _⟩ := foldM_ok wl ok
      have hlen := hrs.length
      refine Ev.bind (hsc dims lo hi hdims) (Ev.bind (hsc dims lo mid hdims) (Ev.bind (hsc dims mid hi hdims) ?_))
      by_cases hb : dimsB dims = true
      case neg =>
        simp only [if_neg hb, if_neg (show ¬ (110 : Int) = 0 by decide)]
        exact Ev.bind alive17_tells (Ev.congr (fun k => by simp) (Ev.now true))
      simp only [if_pos hb]
      by_cases hr : isT lo ∧ isT hi ∧ lo ≤ hi
      case neg =>
        simp only [if_neg hr, if_neg (show ¬ (1 : Int) = 0 by decide)]
        exact Ev.bind alive17_tells (Ev.congr (fun k => by simp) (Ev.now true))
      have hm : isT mid := by have h1 := hr.1.1; have h2 := hr.2.1.2; exact ⟨by omega, by omega⟩
      simp only [if_pos hr, if_pos (show isT lo ∧ isT mid ∧ lo ≤ mid from ⟨hr.1, hm, by omega⟩), if_pos (show isT mid ∧ isT hi ∧ mid ≤ hi from ⟨hm, hr.2.1, by omega⟩), if_true]
      have hA : ∀ x ∈ rs, x.f0.length < 10000000000000 := by
        have : ∀ (A : List En) (rs : List Rw), RowsOf gs A rs → ∀ y ∈ rs, y.f0.length < 10000000000000 := fun A rs h => by
          induction h with
          | nil => intro y hy; cases hy
          | cons h _ ih =>
            intro y hy
            rcases List.mem_cons.1 hy with rfl | hy
            · have := dimsB_len h.choose_spec.1.dims; omega
            · exact ih y hy
        exact this _ _ hrs
      have ea : rs.filter (inScan dims lo mid) = (rs.filter (inScan dims lo hi)).filter (aheadB mid) := by
        rw [List.filter_filter]
        refine List.filter_congr (fun x _ => ?_)
        unfold inScan aheadB
        rw [← Bool.decide_and]
        exact decide_eq_decide.2 ⟨fun ⟨a, b, c, d⟩ => ⟨d, a, b, c, by omega⟩, fun ⟨d, a, b, c, _⟩ => ⟨a, b, c, d⟩⟩
      have eb : rs.filter (inScan dims mid hi) = (rs.filter (inScan dims lo hi)).filter (fun x => !aheadB mid x) := by
        rw [List.filter_filter]
        refine List.filter_congr (fun x _ => ?_)
        unfold inScan aheadB
        rw [← decide_not, ← Bool.decide_and]
        exact decide_eq_decide.2 ⟨fun ⟨a, b, c, d⟩ => ⟨by omega, a, b, by omega, d⟩, fun ⟨d, a, b, _, c⟩ => ⟨a, b, by omega, c⟩⟩
      have lf1 := List.length_filter_le (inScan dims lo hi) rs
      have lf2 := List.length_filter_le (inScan dims lo mid) rs
      have lf3 := List.length_filter_le (inScan dims mid hi) rs
      exact ranges_loop (mid := mid) (all := rs.filter (inScan dims lo hi)) (a := rs.filter (inScan dims lo mid)) (b := rs.filter (inScan dims mid hi)) (by omega) (by omega) (by omega) (fun x hx => hA x (List.mem_filter.1 hx).1) _ 0 0 0 rfl (Nat.zero_le _) (Nat.zero_le _) (Nat.zero_le _) (by simpa using ea) (by simpa using eb)
end Go.Proofs.Ytdopbhbbpgfliaa.Pure
end
