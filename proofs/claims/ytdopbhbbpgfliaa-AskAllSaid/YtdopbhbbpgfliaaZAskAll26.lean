import Derived.Test.YtdopbhbbpgfliaaZAskAll25
import Derived.Sort.Walk0
section
namespace Go.Proofs.Ytdopbhbbpgfliaa.PAsk
open Go.RowKit Go.Proofs.YtdopbhbbpgfliaaW.PrintWords Go.Proofs.YtdopbhbbpgfliaaW.PrintLast Go.Proofs.YtdopbhbbpgfliaaW.PrintMore Go.Proofs.Ytdopbhbbpgfliaa.GrainM Go.Proofs.Ytdopbhbbpgfliaa.GrainL
set_option linter.unusedVariables false
set_option linter.unusedSimpArgs false
set_option maxHeartbeats 8000000
set_option maxRecDepth 100000
theorem alive17_tells : Ev (fun k => rickyardlaw17_alive.f k) true := ⟨64, fun k hk => by show rickyardlaw17_alive.f k = _; unfold rickyardlaw17_alive.f; rw [if_pos hk]⟩
theorem eq_nil (l : List ByteArray) : Ev (fun k => slices_Equal_string_string.f k (l.take ([] : List ByteArray).length) []) true :=
  Ev.step (f := fun _ => some true) (fun k => by simp [slices_Equal_string_string.f, slices_Equal_string_string.l0]) (Ev.now _)
def inRange (lo hi : Int) (x : Rw) : Bool := decide (lo ≤ x.f1 ∧ x.f1 < hi)
theorem scan_nil {lo hi : Int} : ∀ (l out : List Rw), out.length + l.length < 1000000 → Ev (fun k => scanGo k [] lo hi l out) (out ++ l.filter (inRange lo hi))
  | [], out, _ => by simp only [scanGo, List.filter_nil, List.append_nil]; exact Ev.now _
  | x :: r, out, h => by
    simp only [List.length_cons] at h
    refine Ev.congr (f := fun k => (slices_Equal_string_string.f k (x.f0.take ([] : List ByteArray).length) []).bind fun q => if q = true ∧ lo ≤ x.f1 ∧ x.f1 < hi then (if out.length < 1000000 then scanGo k [] lo hi r (out ++ [x]) else none) else scanGo k [] lo hi r out) (fun k => by
      conv => lhs; unfold scanGo
      rw [if_pos (show ([] : List ByteArray).length ≤ x.f0.length from Nat.zero_le _)]) (Ev.bind (eq_nil x.f0) ?_)
    by_cases c : lo ≤ x.f1 ∧ x.f1 < hi
    · have hc : inRange lo hi x = true := decide_eq_true c
      rw [List.filter_cons_of_pos hc]
      have := scan_nil (lo := lo) (hi := hi) r (out ++ [x]) (by simp; omega)
      rw [List.append_assoc, List.singleton_append] at this
      refine Ev.congr (fun k => ?_) this
      rw [if_pos ⟨rfl, c⟩, if_pos (by omega)]
    · have hc : ¬ inRange lo hi x = true := by unfold inRange; simpa using c
      rw [List.filter_cons_of_neg hc]
      refine Ev.congr (fun k => ?_) (scan_nil r out (by omega))
      rw [if_neg (fun h => c h.2)]
def isRow (gs : List Gr) (x : En) (y : Rw) : Prop := ∃ g : Nat, FitK gs x.f0 y.f0 y.f1 g ∧ y.f2 = sz gs g ∧ y.f3 = x.f1
inductive RowsOf (gs : List Gr) : List En → List Rw → Prop
  | nil : RowsOf gs [] []
  | cons {x : En} {y : Rw} {l : List En} {rs : List Rw} : isRow gs x y → RowsOf gs l rs → RowsOf gs (x :: l) (y :: rs)
theorem RowsOf.length {gs : List Gr} : ∀ {l : List En} {rs : List Rw}, RowsOf gs l rs → rs.length = l.length
  | _, _, .nil => rfl
  | _, _, .cons _ h => by simp [h.length]
theorem rows_loop {gs : List Gr} {keep : Int} {fl : List En} (hl : fl.length < 1000000) (hf : ∀ x ∈ fl, fitX gs x) (d : Nat) : ∀ (i : Nat) (out : List Rw), fl.length - i = d → out.length ≤ i → ∃ rs, RowsOf gs (fl.drop i) rs ∧ Ev (fun k => ask_rows.l0 k out fl (fl.length : Int) (i : Int) gs keep) (out ++ rs, 0) := by
  induction d with
  | zero =>
    intro i out hd ho
    refine ⟨[], by rw [List.drop_eq_nil_of_le (by omega)]; exact RowsOf.nil, Ev.step (fun k => ?_) (Ev.now _)⟩
    simp only [ask_rows.l0]
    rw [if_neg (by omega), List.append_nil]
  | succ d ih =>
    intro i out hd ho
    have hi : i < fl.length := by omega
    obtain ⟨dd, f, g, F⟩ := (hf fl[i] (List.getElem_mem hi)).1
    obtain ⟨rs, h1, h2⟩ := ih (i + 1) (out ++ [⟨dd, f, sz gs g, fl[i].f1⟩]) (by omega) (by simp; omega)
    have hg := F.gran
    refine ⟨⟨dd, f, sz gs g, fl[i].f1⟩ :: rs, ?_, Ev.step (f := fun k => (key_Read.f k fl[i].f0).bind fun bt => if 0 ≤ bt.2.2.1 then (if bt.2.2.1 < (gs.length : Int) then ask_rows.l0 k (out ++ [⟨bt.1, bt.2.1, (rd_T84 gs bt.2.2.1).f0, fl[i].f1⟩]) fl (fl.length : Int) ((i + 1 : Nat) : Int) gs keep else none) else none) (fun k => ?_) (Ev.bind F.read ?_)⟩
    · rw [List.drop_eq_getElem_cons hi]
      exact RowsOf.cons ⟨g, F, rfl, rfl⟩ h1
    · simp only [ask_rows.l0, rd_ent hi, kw64o i (by omega)]
      rw [if_pos (by omega), if_pos (by omega), if_pos (by omega)]
      simp only [if_pos (show out.length < 1599289640401 by omega)]
    · simp only [if_pos (show (0 : Int) ≤ (g : Int) by omega), if_pos (show (g : Int) < (gs.length : Int) by omega), rd_sz]
      simpa using h2
theorem rows_tells {gs : List Gr} {keep w : Int} {l : List En} (hl : l.length < 1000) (hw : ∀ x ∈ l, WfE x) (ho : okL gs keep w l) : ∃ rs, RowsOf gs (foldM gs keep w l) rs ∧ Ev (fun k => ask_rows.f k gs keep w l) (rs, 0) := by
  obtain ⟨x1, x2, x3, x4, _⟩ := foldM_ok hw ho
  obtain ⟨rs, h1, h2⟩ := rows_loop (keep := keep) (fl := foldM gs keep w l) (by omega) x2 _ 0 [] rfl (Nat.le_refl 0)
  refine ⟨rs, by simpa using h1, ?_⟩
  unfold ask_rows.f
  refine Ev.bind (fold_tells hl hw ho) ?_
  simp only [if_true]
  simpa using h2
theorem rows_errs {gs : List Gr} {keep w : Int} {l : List En} (hl : l.length < 1000) (hw : ∀ x ∈ l, WfE x) (ho : ¬ okL gs keep w l) : ∃ e, e ≠ 0 ∧ Ev (fun k => ask_rows.f k gs keep w l) ([], e) := by
  obtain ⟨e, he, h⟩ := fold_errs (gs := gs) (keep := keep) (wm := w) hl hw ho
  refine ⟨e, he, ?_⟩
  unfold ask_rows.f
  refine Ev.bind h ?_
  simp only [if_neg he]
  exact Ev.now _
def zeroA : Ag := ⟨0, false, ⟨0, 0⟩, 0, 0⟩
def okZ (a : Ag) : Prop := a = zeroA ∨ okP a
theorem okZ_merge {a b : Ag} (ha : okZ a) (hb : okP b) : okP (mergeA a b) := by
  rcases ha with rfl | ha
  · rw [mergeA_zero_left rfl]; exact hb
  · exact okP_merge ha hb
theorem okZ_lo {a : Ag} (h : okZ a) : inU a.f2.f1 := by
  rcases h with rfl | h
  · unfold inU zeroA mW; simp
  · exact h.1.2.1
theorem merge_tells {a b : Ag} (ha : inU a.f2.f1) (hb : inU b.f2.f1) : agg_Merge.f a.f0 a.f1 a.f2.f0 a.f2.f1 a.f3 a.f4 b.f0 b.f1 b.f2.f0 b.f2.f1 b.f3 b.f4 = some ((mergeA a b).f0, (mergeA a b).f1, (mergeA a b).f2.f0, (mergeA a b).f2.f1, (mergeA a b).f3, (mergeA a b).f4) := by
  unfold agg_Merge.f
  rw [if_pos ⟨ha, hb⟩]
structure RowOk (x : Rw) : Prop where
  dims : dimsB x.f0 = true
  time : isT x.f1
  size : 1 ≤ x.f2 ∧ x.f2 ≤ 1099511627776
  step : x.f1 % x.f2 = 0
  agg : okP x.f3
theorem rows_ok {gs : List Gr} {keep : Int} (R : Rgt gs keep) : ∀ {l : List En} {rs : List Rw}, RowsOf gs l rs → (∀ x ∈ l, fitX gs x) → (∀ x ∈ l, WfE x) → ∀ y ∈ rs, RowOk y
  | _, _, .nil, _, _, y, hy => by cases hy
  | x :: l, z :: rs, .cons h t, hf, hw, y, hy => by
    rcases List.mem_cons.1 hy with rfl | hy
    · obtain ⟨g, F, e2, e3⟩ := h
      have hs := R.size g F.gran
      exact ⟨F.dims, F.time, by rw [e2]; exact hs, by rw [e2]; exact F.from_, by rw [e3]; exact okP_of (hw x List.mem_cons_self) (hf x List.mem_cons_self)⟩
    · exact rows_ok R t (fun x hx => hf x (List.mem_cons_of_mem _ hx)) (fun x hx => hw x (List.mem_cons_of_mem _ hx)) y hy
end Go.Proofs.Ytdopbhbbpgfliaa.PAsk
end
section
namespace Go.Proofs.Ytdopbhbbpgfliaa.PAsk
open Go.RowKit Go.Proofs.YtdopbhbbpgfliaaW.PrintWords Go.Proofs.YtdopbhbbpgfliaaW.PrintLast Go.Proofs.YtdopbhbbpgfliaaW.PrintMore Go.Proofs.Ytdopbhbbpgfliaa.GrainM
set_option linter.unusedVariables false
set_option linter.unusedSimpArgs false
set_option maxHeartbeats 8000000
set_option maxRecDepth 100000
def ordD : List ByteArray → List ByteArray → Int
  | [], [] => 0
  | [], _ :: _ => -1
  | _ :: _, [] => 1
  | a :: r, b :: s => if a.toList < b.toList then -1 else if b.toList < a.toList then 1 else ordD r s
theorem baL_inj {a b : ByteArray} (h : a.toList = b.toList) : a = b := by
  have e : ∀ c : ByteArray, c.toList = c.data.toList := fun c => by rw [ByteArray.toList_eq]
  rw [e, e] at h
  cases a; cases b
  simp at h
  rw [h]
theorem ordD_zero : ∀ {a b : List ByteArray}, ordD a b = 0 ↔ a = b
  | [], [] => by simp [ordD]
  | [], _ :: _ => by simp [ordD]
  | _ :: _, [] => by simp [ordD]
  | a :: r, b :: s => by
    unfold ordD
    by_cases h1 : a.toList < b.toList
    · rw [if_pos h1]
      refine ⟨fun h => absurd h (by decide), fun h => ?_⟩
      rw [(List.cons.inj h).1] at h1
      exact absurd h1 (List.lt_irrefl _)
    · rw [if_neg h1]
      by_cases h2 : b.toList < a.toList
      · rw [if_pos h2]
        refine ⟨fun h => absurd h (by decide), fun h => ?_⟩
        rw [(List.cons.inj h).1] at h2
        exact absurd h2 (List.lt_irrefl _)
      · rw [if_neg h2, ordD_zero]
        have e : a = b := baL_inj (List.le_antisymm (List.not_lt.1 h2) (List.not_lt.1 h1))
        subst e
        simp
theorem order_at {a b : List ByteArray} (hl : a.length < 10000000000000) (d : Nat) : ∀ i : Nat, a.length - i = d → i ≤ a.length → i ≤ b.length → Ev (fun k => rickyardref06_Order.l0 k a b (i : Int)) (ordD (a.drop i) (b.drop i)) := by
  have fin : ∀ i : Nat, Ev (fun k => rickyardref06_Order.j1 k a b (i : Int) false) (if (a.length : Int) < (b.length : Int) then -1 else if (a.length : Int) > (b.length : Int) then 1 else 0) := fun i => by
    by_cases h1 : (a.length : Int) < (b.length : Int)
    · refine Ev.step (f := fun _ => some (-1)) (fun k => ?_) (by rw [if_pos h1]; exact Ev.now _)
      simp only [rickyardref06_Order.j1, Bool.false_eq_true, if_false]
      rw [if_pos h1]
    · by_cases h2 : (a.length : Int) > (b.length : Int)
      · refine Ev.step (f := fun _ => some 1) (fun k => ?_) (by rw [if_neg h1, if_pos h2]; exact Ev.now _)
        simp only [rickyardref06_Order.j1, Bool.false_eq_true, if_false]
        rw [if_neg h1, if_pos h2]
      · refine Ev.step (f := fun _ => some 0) (fun k => ?_) (by rw [if_neg h1, if_neg h2]; exact Ev.now _)
        simp only [rickyardref06_Order.j1, Bool.false_eq_true, if_false]
        rw [if_neg h1, if_neg h2]
  induction d with
  | zero =>
    intro i hd hi hj
    obtain rfl : i = a.length := by omega
    refine Ev.step (f := fun k => rickyardref06_Order.j1 k a b (a.length : Int) false) (fun k => ?_) ?_
    · simp only [rickyardref06_Order.l0]; rw [if_neg (by omega)]
    · have := fin a.length
      rw [List.drop_length]
      rcases Nat.lt_or_ge a.length b.length with h | h
      · rw [List.drop_eq_getElem_cons h]
        rw [if_pos (by omega)] at this
        exact this
      · rw [List.drop_eq_nil_of_le h]
        rw [if_neg (by omega), if_neg (by omega)] at this
        exact this
  | succ d ih =>
    intro i hd hi hj
    have ha : i < a.length := by omega
    rw [List.drop_eq_getElem_cons ha]
    rcases Nat.lt_or_ge i b.length with hb | hb
    · rw [List.drop_eq_getElem_cons hb]
      refine Ev.step (f := fun k => rickyardref06_Order.j1 k a b (i : Int) true) (fun k => ?_) ?_
      · simp only [rickyardref06_Order.l0]; rw [if_pos (by omega), show decide ((i : Int) < (b.length : Int)) = true from decide_eq_true (by omega)]
      · unfold ordD
        by_cases h1 : a[i].toList < b[i].toList
        · rw [if_pos h1]
          refine Ev.step (f := fun _ => some (-1)) (fun k => ?_) (Ev.now _)
          simp only [rickyardref06_Order.j1, if_true, rdOf_get ha, rdOf_get hb, Go.Proofs.bytesLess_eq]
          rw [if_pos (by omega), if_pos (by omega), if_pos (by omega), if_pos (decide_eq_true h1)]
        · rw [if_neg h1]
          by_cases h2 : b[i].toList < a[i].toList
          · rw [if_pos h2]
            refine Ev.step (f := fun _ => some 1) (fun k => ?_) (Ev.now _)
            simp only [rickyardref06_Order.j1, if_true, rdOf_get ha, rdOf_get hb, Go.Proofs.bytesLess_eq]
            rw [if_pos (by omega), if_pos (by omega), if_pos (by omega), if_neg (by simpa using h1), if_pos (decide_eq_true h2)]
          · rw [if_neg h2]
            refine Ev.step (fun k => ?_) (ih (i + 1) (by omega) (by omega) (by omega))
            simp only [rickyardref06_Order.j1, if_true, rdOf_get ha, rdOf_get hb, Go.Proofs.bytesLess_eq, kw64o i (by omega)]
            rw [if_pos (by omega), if_pos (by omega), if_pos (by omega), if_neg (by simpa using h1), if_neg (by simpa using h2)]
    · rw [List.drop_eq_nil_of_le hb]
      refine Ev.step (f := fun k => rickyardref06_Order.j1 k a b (i : Int) false) (fun k => ?_) ?_
      · simp only [rickyardref06_Order.l0]; rw [if_pos (by omega), show decide ((i : Int) < (b.length : Int)) = false from decide_eq_false (by omega)]
      · have := fin i
        rw [if_neg (by omega), if_pos (by omega)] at this
        exact this
theorem order_tells (a b : List ByteArray) (hl : a.length < 10000000000000) : Ev (fun k => rickyardref06_Order.f k a b) (ordD a b) := by
  have := order_at (b := b) hl _ 0 rfl (Nat.zero_le _) (Nat.zero_le _)
  simp only [List.drop_zero] at this
  exact this
def textU : List UInt8 → List UInt8
  | [] => [0, 1]
  | c :: r => if c = 0 then 0 :: 255 :: textU r else c :: textU r
def groupU : List ByteArray → List UInt8
  | [] => [0]
  | s :: r => 1 :: (textU s.toList ++ groupU r)
theorem u8_pos {c : UInt8} (h : c ≠ 0) : (0 : UInt8) < c := by
  rw [UInt8.lt_iff_toNat_lt]
  have : c.toNat ≠ 0 := fun e => h (UInt8.toNat.inj e)
  show 0 < c.toNat
  omega
theorem u8_nlt (c : UInt8) : ¬ c < (0 : UInt8) := by
  rw [UInt8.lt_iff_toNat_lt]
  show ¬ c.toNat < 0
  omega
theorem text_lt : ∀ (a b u v : List UInt8), textU a ++ u < textU b ++ v ↔ a < b ∨ a = b ∧ u < v
  | [], [], u, v => by simp [textU, List.cons_lt_cons_iff]
  | [], d :: s, u, v => by
    unfold textU
    split
    · simp [List.cons_lt_cons_iff]
    · rename_i h
      simp [textU, List.cons_lt_cons_iff, u8_pos h]
  | c :: r, [], u, v => by
    conv => lhs; lhs; unfold textU
    split
    · simp [textU, List.cons_lt_cons_iff]
    · rename_i h
      simp [textU, List.cons_lt_cons_iff, u8_nlt c, h]
  | c :: r, d :: s, u, v => by
    have ih := text_lt r s u v
    unfold textU
    by_cases hc : c = 0 <;> by_cases hd : d = 0
    · subst hc hd
      simp only [if_true, List.cons_append, List.cons_lt_cons_iff, ih, List.cons.injEq, UInt8.lt_irrefl, false_or, true_and]
    · subst hc
      simp only [if_true, if_neg hd, List.cons_append, List.cons_lt_cons_iff, u8_pos hd, true_or]
    · subst hd
      rw [if_neg hc, if_pos rfl]
      simp only [List.cons_append, List.cons_lt_cons_iff, u8_nlt c, hc, false_or, false_and, List.cons.injEq]
    · simp only [if_neg hc, if_neg hd, List.cons_append, List.cons_lt_cons_iff, ih, List.cons.injEq]
      constructor
      · rintro (h | ⟨h, h2 | ⟨h2, h3⟩⟩)
        · exact .inl (.inl h)
        · exact .inl (.inr ⟨h, h2⟩)
        · exact .inr ⟨⟨h, h2⟩, h3⟩
      · rintro ((h | ⟨h, h2⟩) | ⟨⟨h, h2⟩, h3⟩)
        · exact .inl h
        · exact .inr ⟨h, .inl h2⟩
        · exact .inr ⟨h, .inr ⟨h2, h3⟩⟩
theorem group_lt : ∀ (a b : List ByteArray), groupU a < groupU b ↔ ordD a b < 0
  | [], [] => by simp [groupU, ordD]
  | [], b :: s => by simp [groupU, ordD, List.cons_lt_cons_iff]
  | a :: r, [] => by simp [groupU, ordD, List.cons_lt_cons_iff]
  | a :: r, b :: s => by
    have ih := group_lt r s
    unfold groupU ordD
    simp only [List.cons_lt_cons_iff, UInt8.lt_irrefl, false_or, true_and, text_lt, ih]
    by_cases h1 : a.toList < b.toList
    · simp [h1]
    · rw [if_neg h1]
      by_cases h2 : b.toList < a.toList
      · rw [if_pos h2]
        refine ⟨fun h => ?_, fun h => absurd h (by decide)⟩
        rcases h with h | ⟨h, _⟩
        · exact absurd h h1
        · rw [h] at h2; exact absurd h2 (List.lt_irrefl _)
      · rw [if_neg h2]
        have e : a.toList = b.toList := List.le_antisymm (List.not_lt.1 h2) (List.not_lt.1 h1)
        exact ⟨fun h => (h.resolve_left h1).2, fun h => .inr ⟨e, h⟩⟩
theorem ordD_anti : ∀ (a b : List ByteArray), ordD b a = - ordD a b
  | [], [] => rfl
  | [], _ :: _ => rfl
  | _ :: _, [] => rfl
  | a :: r, b :: s => by
    unfold ordD
    by_cases h1 : a.toList < b.toList
    · have h2 : ¬ b.toList < a.toList := fun h => List.lt_irrefl _ (List.lt_trans h h1)
      simp only [if_pos h1, if_neg h2]
      rfl
    · by_cases h2 : b.toList < a.toList
      · simp only [if_pos h2, if_neg h1]
      · simp only [if_neg h1, if_neg h2]
        exact ordD_anti r s
theorem groupU_inj {a b : List ByteArray} (h : groupU a = groupU b) : a = b := by
  have h1 : ¬ ordD a b < 0 := fun hc => by
    have := (group_lt a b).2 hc
    rw [h] at this
    exact List.lt_irrefl _ this
  have h2 : ¬ ordD b a < 0 := fun hc => by
    have := (group_lt b a).2 hc
    rw [h] at this
    exact List.lt_irrefl _ this
  rw [ordD_anti a b] at h2
  exact ordD_zero.1 (by omega)
theorem nums_of (l : List Int) : (strOfNums l).data.toList = l.map fun n => UInt8.ofNat n.toNat := rfl
theorem text_nums : ∀ l : List UInt8, (textB (l.map fun b => (b.toNat : Int))).map (fun n => UInt8.ofNat n.toNat) = textU l
  | [] => rfl
  | c :: r => by
    have ih := text_nums r
    simp only [List.map_cons]
    unfold textB textU
    by_cases h : c = 0
    · subst h
      rw [if_pos (by rfl), if_pos rfl]
      simp only [List.map_cons, ih]
      rfl
    · rw [if_neg (fun e => h (UInt8.toNat.inj (by have : (c.toNat : Int) = 0 := e; show c.toNat = 0; omega))), if_neg h]
      simp only [List.map_cons, ih]
      congr 1
      simp
theorem keyG_group : ∀ d : List ByteArray, (groupB d).map (fun n => UInt8.ofNat n.toNat) = groupU d
  | [] => rfl
  | s :: r => by
    have ih := keyG_group r
    unfold groupB groupU
    simp only [List.map_cons, List.map_append, ih]
    have : bytesOf s = s.toList.map fun b => (b.toNat : Int) := by rw [ByteArray.toList_eq]; rfl
    rw [this, text_nums]
    rfl
end Go.Proofs.Ytdopbhbbpgfliaa.PAsk
end
section
namespace Go.Proofs.Ytdopbhbbpgfliaa.PAsk
open Go.RowKit Go.Proofs.YtdopbhbbpgfliaaW.PrintWords Go.Proofs.YtdopbhbbpgfliaaW.PrintLast Go.Proofs.YtdopbhbbpgfliaaW.PrintMore
attribute [local go_sem] max2_int min2_int max_two min_two max_three min_three max_four min_four   -- for this text's walks alone
set_option linter.unusedVariables false
set_option linter.unusedSimpArgs false
set_option maxHeartbeats 8000000
set_option maxRecDepth 100000
def rickyardlaw17_As.T5 : Bool × List (List Nat × List Nat) := (true, [([], []), ([], []), ([], []), ([1, 2], [1, 2]), ([3], [3]), ([4], [4]), ([], []), ([], []), ([6, 7], [6, 7]), ([8], [8]), ([9], [9]), ([], []), ([], []), ([11, 12], [11, 12]), ([13], [13]), ([14], [14]), ([], []), ([], []), ([16, 17], [16, 17]), ([18], [18]), ([19], [19]), ([5, 10, 15, 20], [5, 10, 15, 20]), ([21], [21]), ([0, 22], [0, 22]), ([23, 23, 0, 1, 2, 3, 4, 5, 6, 7, 8, 9, 10, 11, 12, 13, 14, 15, 16, 17, 18, 19, 20, 21, 22, 23], [0, 23])])
def rickyardlaw17_As.B5 : List Nat := [0, 0, 0, 6, 14, 30, 0, 0, 192, 448, 960, 0, 0, 6144, 14336, 30720, 0, 0, 196608, 458752, 983040, 2097150, 4194302, 8388607, 16777215]
theorem rickyardlaw17_As.tab5 : rtab .any (opsOf Try.f11 5) = rickyardlaw17_As.T5 := by kernel_rfl
theorem rickyardlaw17_As.bits5 : waitsOk rickyardlaw17_As.T5.2 rickyardlaw17_As.B5 = true := by kernel_rfl
def rickyardref17_SameAll.T6 : Bool × List (List Nat × List Nat) := (true, [([], []), ([], []), ([0, 1], [0, 1]), ([2], [2]), ([], []), ([], []), ([4, 5], [4, 5]), ([6], [6]), ([3, 7], [3, 7]), ([8], [8])])
def rickyardref17_SameAll.B6 : List Nat := [0, 0, 3, 7, 0, 0, 48, 112, 255, 511]
theorem rickyardref17_SameAll.tab6 : rtab .any (opsOf Try.f12 6) = rickyardref17_SameAll.T6 := by kernel_rfl
theorem rickyardref17_SameAll.bits6 : waitsOk rickyardref17_SameAll.T6.2 rickyardref17_SameAll.B6 = true := by kernel_rfl
end Go.Proofs.Ytdopbhbbpgfliaa.PAsk
end
section
namespace Go.Proofs.Ytdopbhbbpgfliaa.PAsk
open Go.RowKit Go.Proofs.YtdopbhbbpgfliaaW.PrintWords Go.Proofs.YtdopbhbbpgfliaaW.PrintLast Go.Proofs.YtdopbhbbpgfliaaW.PrintMore Go.Proofs.Ytdopbhbbpgfliaa.GrainM Go.Proofs.Ytdopbhbbpgfliaa.GrainL
set_option linter.unusedVariables false
set_option linter.unusedSimpArgs false
set_option maxHeartbeats 8000000
set_option maxRecDepth 100000
abbrev Rr := S73
def bitM (mask : Int) (i : Nat) : Bool := decide (Go.bits .and .i64 (shr .i64 mask (i : Int)) 1 = 1)
def partM (mask : Int) : Nat → List ByteArray → List ByteArray
  | _, [] => []
  | i, s :: r => if bitM mask i = true then s :: partM mask (i + 1) r else partM mask (i + 1) r
theorem partM_mem {mask : Int} {s : ByteArray} : ∀ {l : List ByteArray} {i : Nat}, s ∈ partM mask i l → s ∈ l
  | [], _, h => h
  | a :: r, i, h => by
    unfold partM at h
    split at h
    · rcases List.mem_cons.1 h with h | h
      · exact h ▸ List.mem_cons_self
      · exact List.mem_cons_of_mem _ (partM_mem h)
    · exact List.mem_cons_of_mem _ (partM_mem h)
theorem partM_len (mask : Int) : ∀ (l : List ByteArray) (i : Nat), (partM mask i l).length ≤ l.length
  | [], _ => Nat.le_refl _
  | a :: r, i => by
    have := partM_len mask r (i + 1)
    unfold partM
    split
    · simp only [List.length_cons]; omega
    · simp only [List.length_cons]; omega
theorem partM_dims {mask : Int} {d : List ByteArray} (h : dimsB d = true) : dimsB (partM mask 0 d) = true := by
  obtain ⟨h1, h2⟩ := dims_iff.1 h
  exact dims_iff.2 ⟨Nat.le_trans (partM_len mask d 0) h1, fun s hs => h2 s (partM_mem hs)⟩
theorem partM_none : ∀ (l : List ByteArray) (i : Nat), i + l.length ≤ 4 → partM 0 i l = []
  | [], _, _ => rfl
  | a :: r, i, h => by
    simp only [List.length_cons] at h
    have hb : bitM 0 i = false := by
      have : i = 0 ∨ i = 1 ∨ i = 2 ∨ i = 3 := by omega
      rcases this with rfl | rfl | rfl | rfl <;> decide
    unfold partM
    rw [if_neg (by rw [hb]; decide)]
    exact partM_none r (i + 1) (by omega)
theorem part_loop {mask : Int} {l : List ByteArray} (hl : l.length ≤ 4) (d : Nat) : ∀ (i : Nat) (acc : List ByteArray), l.length - i = d → acc.length ≤ i → Ev (fun k => key_Part.l0 k l mask acc (l.length : Int) (i : Int)) (acc ++ partM mask i (l.drop i), 0) := by
  induction d with
  | zero =>
    intro i acc hd ha
    rw [List.drop_eq_nil_of_le (by omega)]
    refine Ev.step (f := fun _ => some (acc, 0)) (fun k => ?_) (by simp only [partM, List.append_nil]; exact Ev.now _)
    simp only [key_Part.l0]
    rw [if_neg (by omega)]
  | succ d ih =>
    intro i acc hd ha
    have hlt : i < l.length := by omega
    rw [List.drop_eq_getElem_cons hlt]
    unfold partM
    by_cases hb : bitM mask i = true
    · rw [if_pos hb]
      have := ih (i + 1) (acc ++ [l[i]]) (by omega) (by simp; omega)
      rw [List.append_assoc, List.singleton_append] at this
      refine Ev.step (fun k => ?_) this
      simp only [key_Part.l0, rdOf_get hlt, kw64o i (by omega)]
      rw [if_pos (by omega), if_pos (by omega), if_pos (by omega), if_pos (of_decide_eq_true hb), if_pos (by omega), if_pos (by omega)]
    · rw [if_neg hb]
      refine Ev.step (fun k => ?_) (ih (i + 1) acc (by omega) (by omega))
      simp only [key_Part.l0, kw64o i (by omega)]
      rw [if_pos (by omega), if_pos (by omega), if_pos (by omega), if_neg (fun h => hb (decide_eq_true h))]
theorem part_tells {mask : Int} (hm : 0 ≤ mask) {d : List ByteArray} (hd : d.length ≤ 4) : Ev (fun k => key_Part.f k d mask) (partM mask 0 d, 0) := by
  have := part_loop (mask := mask) hd _ 0 [] rfl (Nat.le_refl _)
  simp only [List.drop_zero, List.nil_append] at this
  refine Ev.congr (fun k => ?_) this
  unfold key_Part.f
  rw [if_neg (by omega)]
  rfl
theorem groups_tells {d : List ByteArray} (h : dimsB d = true) : Ev (fun k => key_Group.f k d) (groupB d, 0) := by
  unfold key_Group.f key_fits.f
  simp only [Option.bind_some, h, if_true]
  exact Ev.bind (group_tells h) (Ev.now _)
theorem keyG_tells (d : List ByteArray) : keyG (groupB d) = groupU d := (nums_of _).trans (keyG_group d)
def totR (a : Ag) (l : List Rw) : Ag := l.foldl (fun a x => mergeA a x.f3) a
theorem totR_snoc (a : Ag) (l : List Rw) (x : Rw) : totR a (l ++ [x]) = mergeA (totR a l) x.f3 := by unfold totR; rw [List.foldl_append]; rfl
theorem mergeZ_swap {a x y : Ag} (ha : okZ a) (hx : okP x) (hy : okP y) : mergeA (mergeA a x) y = mergeA (mergeA a y) x := by
  rcases ha with rfl | ha
  · rw [mergeA_zero_left (a := zeroA) rfl, mergeA_zero_left (a := zeroA) rfl, mergeA_comm hx.1 hy.1 hx.2 hy.2]
  · rw [mergeA_assoc ha.1 hx.1 hy.1 ha.2 hx.2 hy.2, mergeA_assoc ha.1 hy.1 hx.1 ha.2 hy.2 hx.2, mergeA_comm hx.1 hy.1 hx.2 hy.2]
theorem mergeZ_assoc {a x y : Ag} (ha : okZ a) (hx : okP x) (hy : okP y) : mergeA (mergeA a x) y = mergeA a (mergeA x y) := by
  rcases ha with rfl | ha
  · rw [mergeA_zero_left (a := zeroA) rfl, mergeA_zero_left (a := zeroA) rfl]
  · exact mergeA_assoc ha.1 hx.1 hy.1 ha.2 hx.2 hy.2
theorem okZ_tot : ∀ {l : List Rw} {a : Ag}, okZ a → (∀ x ∈ l, okP x.f3) → okZ (totR a l)
  | [], _, ha, _ => ha
  | x :: r, a, ha, h => okZ_tot (l := r) (a := mergeA a x.f3) (.inr (okZ_merge ha (h x List.mem_cons_self))) (fun y hy => h y (List.mem_cons_of_mem _ hy))
theorem totR_pull : ∀ {l : List Rw} {a x : Ag}, okZ a → okP x → (∀ y ∈ l, okP y.f3) → totR (mergeA a x) l = mergeA (totR a l) x
  | [], _, _, _, _, _ => rfl
  | y :: r, a, x, ha, hx, h => by
    have h1 := h y List.mem_cons_self
    show totR (mergeA (mergeA a x) y.f3) r = mergeA (totR (mergeA a y.f3) r) x
    rw [mergeZ_swap ha hx h1, totR_pull (.inr (okZ_merge ha h1)) hx (fun z hz => h z (List.mem_cons_of_mem _ hz))]
theorem lookG_above {key : KeyB} : ∀ {M : List (KeyB × Rw)}, (∀ p ∈ M, key < p.1) → lookG key M = none
  | [], _ => rfl
  | p :: r, h => by
    unfold lookG
    rw [if_neg (fun e => List.lt_irrefl key (by have := h p List.mem_cons_self; rw [e] at this; exact this))]
    exact lookG_above (fun q hq => h q (List.mem_cons_of_mem _ hq))
theorem tot_put {key : KeyB} {y : Rw} {x : Ag} (hx : okP x) : ∀ {M : List (KeyB × Rw)} {a : Ag}, okZ a → risesG M → (∀ p ∈ M, okP p.2.f3) → y.f3 = mergeA ((lookG key M).getD rowZ).f3 x → totR a ((putG key y M).map (·.2)) = mergeA (totR a (M.map (·.2))) x
  | [], a, _, _, _, hy => by
    show mergeA a y.f3 = mergeA a x
    rw [hy]
    exact congrArg (mergeA a) (mergeA_zero_left rfl)
  | p :: r, a, ha, hr, hp, hy => by
    have ⟨h1, h2⟩ := List.pairwise_cons.1 hr
    have hp1 := hp p List.mem_cons_self
    have hpr : ∀ q ∈ r, okP q.2.f3 := fun q hq => hp q (List.mem_cons_of_mem _ hq)
    have hmr : ∀ z ∈ r.map (·.2), okP z.f3 := fun z hz => by
      obtain ⟨q, hq, rfl⟩ := List.mem_map.1 hz
      exact hpr q hq
    unfold putG
    by_cases e : p.1 = key
    · rw [if_pos e]
      unfold lookG at hy
      rw [if_pos e] at hy
      show totR (mergeA a y.f3) (r.map (·.2)) = mergeA (totR (mergeA a p.2.f3) (r.map (·.2))) x
      rw [hy]
      show totR (mergeA a (mergeA p.2.f3 x)) (r.map (·.2)) = _
      rw [← mergeZ_assoc ha hp1 hx, totR_pull (.inr (okZ_merge ha hp1)) hx hmr]
    · rw [if_neg e]
      by_cases hlt : key < p.1
      · rw [if_pos hlt]
        have hn : lookG key (p :: r) = none := lookG_above (fun q hq => by
          rcases List.mem_cons.1 hq with rfl | hq
          · exact hlt
          · exact List.lt_trans hlt (h1 q hq))
        rw [hn] at hy
        show totR (mergeA a y.f3) ((p :: r).map (·.2)) = _
        rw [hy]
        show totR (mergeA a (mergeA zeroA x)) ((p :: r).map (·.2)) = _
        rw [mergeA_zero_left (a := zeroA) rfl]
        exact totR_pull ha hx (fun z hz => by
          rcases List.mem_cons.1 hz with rfl | hz
          · exact hp1
          · exact hmr z hz)
      · rw [if_neg hlt]
        unfold lookG at hy
        rw [if_neg e] at hy
        show totR (mergeA a p.2.f3) ((putG key y r).map (·.2)) = mergeA (totR (mergeA a p.2.f3) (r.map (·.2))) x
        exact tot_put hx (.inr (okZ_merge ha hp1)) h2 hpr hy
def stepM (mask lo hi : Int) (M : List (KeyB × Rw)) (x : Rw) : List (KeyB × Rw) :=
  putG (groupU (partM mask 0 x.f0)) ⟨partM mask 0 x.f0, lo, IntKind.i64.wrap (hi - lo), mergeA ((lookG (groupU (partM mask 0 x.f0)) M).getD rowZ).f3 x.f3⟩ M
def rollM (mask lo hi : Int) : List Rw → List (KeyB × Rw) → List (KeyB × Rw)
  | [], M => M
  | x :: r, M => if lo ≤ x.f1 ∧ x.f1 < hi then rollM mask lo hi r (stepM mask lo hi M x) else rollM mask lo hi r M
theorem okZ_look {M : List (KeyB × Rw)} (h : ∀ p ∈ M, okP p.2.f3) (key : KeyB) : okZ ((lookG key M).getD rowZ).f3 := by
  induction M with
  | nil => exact .inl rfl
  | cons p r ih =>
    unfold lookG
    split
    · exact .inr (h p List.mem_cons_self)
    · exact ih (fun q hq => h q (List.mem_cons_of_mem _ hq))
theorem ok_step {mask lo hi : Int} {M : List (KeyB × Rw)} (h : ∀ p ∈ M, okP p.2.f3) {x : Rw} (hx : okP x.f3) : ∀ p ∈ stepM mask lo hi M x, okP p.2.f3 := fun p hp => by
  rcases mem_putG hp with rfl | hp
  · exact okZ_merge (okZ_look h _) hx
  · exact h p hp
theorem rollGo_tells {mask lo hi : Int} (hm : 0 ≤ mask) : ∀ (l : List Rw) (M : List (KeyB × Rw)), (∀ x ∈ l, RowOk x) → (∀ p ∈ M, okP p.2.f3) → Ev (fun k => rollGo k mask lo hi l M) (rollM mask lo hi l M)
  | [], M, _, _ => by simp only [rollGo, rollM]; exact Ev.now _
  | x :: r, M, hl, hM => by
    have hx := hl x List.mem_cons_self
    have hr : ∀ y ∈ r, RowOk y := fun y hy => hl y (List.mem_cons_of_mem _ hy)
    unfold rollM
    by_cases c : lo ≤ x.f1 ∧ x.f1 < hi
    · rw [if_pos c]
      refine Ev.congr (fun k => by
        conv => lhs; unfold rollGo
        rw [if_pos c]) (Ev.bind (part_tells hm (dims_iff.1 hx.dims).1) (Ev.bind (groups_tells (partM_dims hx.dims)) ?_))
      simp only [keyG_tells]
      have hm1 := merge_tells (okZ_lo (okZ_look hM (groupU (partM mask 0 x.f0)))) hx.agg.1.2.1
      refine Ev.congr (fun k => ?_) (rollGo_tells hm r (stepM mask lo hi M x) hr (ok_step hM hx.agg))
      simp only [hm1, Option.bind_some]
      rfl
    · rw [if_neg c]
      refine Ev.congr (fun k => ?_) (rollGo_tells hm r M hr hM)
      conv => lhs; unfold rollGo
      rw [if_neg c]
structure RollI (mask : Int) (ps : List Rw) (M : List (KeyB × Rw)) : Prop where
  rises : risesG M
  ok : ∀ p ∈ M, okP p.2.f3
  key : ∀ p ∈ M, p.1 = groupU p.2.f0 ∧ ∃ x ∈ ps, partM mask 0 x.f0 = p.2.f0
  known : ∀ d, ((lookG (groupU d) M).getD rowZ).f3 = totR zeroA (ps.filter (fun x => decide (partM mask 0 x.f0 = d)))
  all : totR zeroA (M.map (·.2)) = totR zeroA ps
  some_ : ps ≠ [] → M ≠ []
theorem RollI.start (mask : Int) : RollI mask [] [] := ⟨List.Pairwise.nil, (fun p hp => by cases hp), (fun p hp => by cases hp), fun d => rfl, rfl, fun h => absurd rfl h⟩
theorem putG_ne (key : KeyB) (x : Rw) : ∀ M, putG key x M ≠ []
  | [] => by simp [putG]
  | p :: r => by
    unfold putG
    split
    · simp
    · split <;> simp
theorem RollI.step {mask lo hi : Int} {ps : List Rw} {M : List (KeyB × Rw)} (h : RollI mask ps M) (hps : ∀ y ∈ ps, okP y.f3) {x : Rw} (hx : okP x.f3) : RollI mask (ps ++ [x]) (stepM mask lo hi M x) := by
  refine ⟨risesG_put h.rises, ok_step h.ok hx, fun p hp => ?_, fun d => ?_, ?_, fun _ => putG_ne _ _ _⟩
  · rcases mem_putG hp with rfl | hp
    · exact ⟨rfl, x, List.mem_append_right _ (List.mem_singleton.2 rfl), rfl⟩
    · obtain ⟨h1, y, hy, h2⟩ := h.key p hp
      exact ⟨h1, y, List.mem_append_left _ hy, h2⟩
  · rw [List.filter_append]
    by_cases e : partM mask 0 x.f0 = d
    · subst e
      rw [List.filter_cons_of_pos (by simp), List.filter_nil, totR_snoc, ← h.known]
      unfold stepM
      rw [lookG_put_same]
      rfl
    · rw [List.filter_cons_of_neg (by simpa using e), List.filter_nil, List.append_nil, ← h.known]
      unfold stepM
      rw [lookG_put_other _ (fun hc => e (groupU_inj hc).symm)]
  · rw [totR_snoc, ← h.all]
    exact tot_put hx (.inl rfl) h.rises h.ok rfl
theorem RollI.rows {mask lo hi : Int} : ∀ {l ps : List Rw} {M : List (KeyB × Rw)}, RollI mask ps M → (∀ y ∈ ps, okP y.f3) → (∀ y ∈ l, okP y.f3) → RollI mask (ps ++ l.filter (inRange lo hi)) (rollM mask lo hi l M)
  | [], ps, M, h, _, _ => by simpa [rollM] using h
  | x :: r, ps, M, h, hps, hl => by
    have hx := hl x List.mem_cons_self
    have hr : ∀ y ∈ r, okP y.f3 := fun y hy => hl y (List.mem_cons_of_mem _ hy)
    unfold rollM
    by_cases c : lo ≤ x.f1 ∧ x.f1 < hi
    · rw [if_pos c, List.filter_cons_of_pos (show inRange lo hi x = true from decide_eq_true c)]
      have := RollI.rows (lo := lo) (hi := hi) (l := r) (h.step (lo := lo) (hi := hi) hps hx) (fun y hy => by
        rcases List.mem_append.1 hy with hy | hy
        · exact hps y hy
        · rw [List.mem_singleton.1 hy]; exact hx) hr
      rw [List.append_assoc, List.singleton_append] at this
      exact this
    · rw [if_neg c, List.filter_cons_of_neg (show ¬ inRange lo hi x = true from fun hc => c (of_decide_eq_true hc))]
      exact RollI.rows h hps hr
theorem roll_inv {mask lo hi : Int} {rs : List Rw} (hok : ∀ x ∈ rs, RowOk x) : RollI mask (rs.filter (inRange lo hi)) (rollM mask lo hi rs []) := by
  have := RollI.rows (lo := lo) (hi := hi) (l := rs) (RollI.start mask) (fun y hy => by cases hy) (fun y hy => (hok y hy).agg)
  simpa using this
theorem rollM_len {mask lo hi : Int} : ∀ (l : List Rw) (M : List (KeyB × Rw)), (rollM mask lo hi l M).length ≤ M.length + l.length
  | [], M => by simp [rollM]
  | x :: r, M => by
    unfold rollM
    split
    · have h1 := rollM_len (mask := mask) (lo := lo) (hi := hi) r (stepM mask lo hi M x)
      have h2 : (stepM mask lo hi M x).length ≤ M.length + 1 := putG_len _ _ M
      simp only [List.length_cons]; omega
    · have h1 := rollM_len (mask := mask) (lo := lo) (hi := hi) r M
      simp only [List.length_cons]; omega
theorem ranged_is (lo hi : Int) : ∃ t, ask_ranged.f lo hi = some t := by
  unfold ask_ranged.f ask_isTime.f
  by_cases a1 : 0 ≤ lo <;> by_cases a2 : lo ≤ 1099511627776 <;> by_cases b1 : 0 ≤ hi <;> by_cases b2 : hi ≤ 1099511627776 <;> simp [a1, a2, b1, b2]
theorem roll_gen {gs : List Gr} {keep w : Int} {l : List En} {rs : List Rw} (hrows : Ev (fun k => ask_rows.f k gs keep w l) (rs, 0)) (hok : ∀ x ∈ rs, RowOk x) (hl : rs.length < 1000000) {lo hi : Int} {t : Bool} (ht : ask_ranged.f lo hi = some t) (mask : Int) :
    Ev (fun k => ask_Rollup.f k gs keep w l mask lo hi) (if mask < 0 then ([], 1) else if t = true then ((rollM mask lo hi rs []).map (·.2), 0) else ([], 1)) := by
  unfold ask_Rollup.f
  refine Ev.bind hrows ?_
  simp only [if_true, ht, Option.bind_some]
  by_cases hm : mask < 0
  · simp only [if_pos hm]; exact Ev.now _
  · simp only [if_neg hm]
    cases t with
    | false => simp only [Bool.false_eq_true, if_false]; exact Ev.now _
    | true =>
      simp only [if_true]
      refine Ev.bind (rollGo_tells (by omega) rs [] hok (fun p hp => by cases hp)) ?_
      simp only [if_pos hl]
      exact Ev.now _
theorem roll_errs {gs : List Gr} {keep w : Int} {l : List En} {e : Int} (he : e ≠ 0) (hrows : Ev (fun k => ask_rows.f k gs keep w l) ([], e)) (mask lo hi : Int) : Ev (fun k => ask_Rollup.f k gs keep w l mask lo hi) ([], e) := by
  unfold ask_Rollup.f
  refine Ev.bind hrows ?_
  simp only [if_neg he]
  exact Ev.now _
theorem scan_errs' {gs : List Gr} {keep w : Int} {l : List En} {e : Int} (he : e ≠ 0) (hrows : Ev (fun k => ask_rows.f k gs keep w l) ([], e)) (dims : List ByteArray) (lo hi : Int) : Ev (fun k => ask_Scan.f k gs keep w l dims lo hi) ([], e) := by
  unfold ask_Scan.f
  refine Ev.bind hrows ?_
  simp only [if_neg he]
  exact Ev.now _
theorem scan_any {gs : List Gr} {keep w : Int} {l : List En} {rs : List Rw} (hrows : Ev (fun k => ask_rows.f k gs keep w l) (rs, 0)) (hl : rs.length < 1000000) {lo hi : Int} {t : Bool} (ht : ask_ranged.f lo hi = some t) :
    Ev (fun k => ask_Scan.f k gs keep w l [] lo hi) (if t = true then (rs.filter (inRange lo hi), 0) else ([], 1)) := by
  unfold ask_Scan.f
  refine Ev.bind hrows ?_
  simp only [if_true]
  have hk : key_Right.f ([] : List ByteArray) 0 0 = some true := by rw [key_right_tells]; rfl
  simp only [hk, ht, Option.bind_some, if_true]
  cases t with
  | false => simp only [Bool.false_eq_true, if_false]; exact Ev.now _
  | true =>
    simp only [if_true]
    exact Ev.bind (scan_nil rs [] (by simp; omega)) (Ev.now _)
theorem lit_u8 {x : Int} (h : (Lit.int .u8 x).wf = true) : isB x = true := by
  simpa [Lit.wf, IntKind.min, IntKind.max, IntKind.bits, IntKind.signed, isB] using h
theorem lit_u64 {x : Int} (h : (Lit.int .u64 x).wf = true) : inU x := by
  have : 0 ≤ x ∧ x ≤ 18446744073709551615 := by simpa [Lit.wf, IntKind.min, IntKind.max, IntKind.bits, IntKind.signed] using h
  unfold inU mW; omega
theorem wfE_of {x : En} (h : wfS60 x) (hs : x.f0.length ≤ 300) : WfE x := ⟨List.all_eq_true.2 (fun z hz => lit_u8 (h.1.2 z hz)), by omega, lit_u64 h.2.1, lit_u64 h.2.2.1.2⟩
theorem great_loop (l : List En) (hl : l.length < 1000000) (d : Nat) : ∀ i : Nat, l.length - i = d → ∃ t, Ev (fun k => rickyardlaw15_Great.l0 k l (i : Int)) t ∧ (t = false → ∀ j (hj : j < l.length), i ≤ j → l[j].f0.length ≤ 300) := by
  induction d with
  | zero =>
    intro i hd
    refine ⟨false, Ev.step (fun k => ?_) (Ev.now _), fun _ j hj h => by omega⟩
    simp only [rickyardlaw15_Great.l0]
    rw [if_neg (by omega)]
  | succ d ih =>
    intro i hd
    have hlt : i < l.length := by omega
    by_cases hg : (l[i].f0.length : Int) > 300
    · refine ⟨true, Ev.step (fun k => ?_) (Ev.now _), fun h => by cases h⟩
      simp only [rickyardlaw15_Great.l0, rd_ent hlt]
      rw [if_pos (by omega), if_pos (by omega), if_pos hg]
    · obtain ⟨t, h, ht⟩ := ih (i + 1) (by omega)
      refine ⟨t, Ev.step (fun k => ?_) h, fun hf j hj hij => ?_⟩
      · simp only [rickyardlaw15_Great.l0, rd_ent hlt, kw64o i (by omega)]
        rw [if_pos (by omega), if_pos (by omega), if_neg hg]
      · rcases Nat.lt_or_ge i j with h1 | h1
        · exact ht hf j hj h1
        · obtain rfl : i = j := by omega
          omega
theorem great_ex (l : List En) : ∃ t, Ev (fun k => rickyardlaw15_Great.f k l) t ∧ (t = false → l.length ≤ 60 ∧ ∀ x ∈ l, x.f0.length ≤ 300) := by
  unfold rickyardlaw15_Great.f
  by_cases h : (l.length : Int) > 60
  · exact ⟨true, Ev.congr (fun k => by rw [if_pos h]) (Ev.now _), fun h => by cases h⟩
  · obtain ⟨t, ht, hf⟩ := great_loop l (by omega) _ 0 rfl
    refine ⟨t, Ev.congr (fun k => by rw [if_neg h]; rfl) ht, fun h0 => ⟨by omega, fun x hx => ?_⟩⟩
    obtain ⟨j, hj, rfl⟩ := List.getElem_of_mem hx
    exact hf h0 j hj (Nat.zero_le _)
end Go.Proofs.Ytdopbhbbpgfliaa.PAsk
end
