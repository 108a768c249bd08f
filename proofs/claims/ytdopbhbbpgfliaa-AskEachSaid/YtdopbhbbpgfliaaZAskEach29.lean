import Derived.Test.YtdopbhbbpgfliaaZAskEach28
import Derived.Sort.Walk0
section
namespace Go.Proofs.Ytdopbhbbpgfliaa.PAsk
open Go.RowKit Go.Proofs.YtdopbhbbpgfliaaW.PrintWords Go.Proofs.YtdopbhbbpgfliaaW.PrintLast Go.Proofs.YtdopbhbbpgfliaaW.PrintMore Go.Proofs.Ytdopbhbbpgfliaa.GrainM Go.Proofs.Ytdopbhbbpgfliaa.GrainL
set_option linter.unusedVariables false
set_option linter.unusedSimpArgs false
set_option maxHeartbeats 8000000
set_option maxRecDepth 100000
theorem alive17_tells : Ev (fun k => rickyardlaw17_alive.f k) true := ⟨64, fun k hk => by show rickyardlaw17_alive.f k = _; unfold rickyardlaw17_alive.f; rw [if_pos hk]⟩
theorem eq_nil (l : List ByteArray) : Ev (fun k => slices_Equal_string_string.f k (l.take ([] : List ByteArray).length) []) true :=
  Ev.step (f := fun _ => some true) (fun k => by simp [slices_Equal_string_string.f, slices_Equal_string_string.l0]) (Ev.now _)
def inRange (lo hi : Int) (x : Rw) : Bool := decide (lo ≤ x.f1 ∧ x.f1 < hi)
theorem scan_nil {lo hi : Int} : ∀ (l out : List Rw), out.length + l.length < 1000000 → Ev (fun k => scanGo k [] lo hi l out) (out ++ l.filter (inRange lo hi))
  | [], out, _ => by simp only [scanGo, List.filter_nil, List.append_nil]; exact Ev.now _
  | x :: r, out, h => by
    simp only [List.length_cons] at h
    refine Ev.congr (f := fun k => (slices_Equal_string_string.f k (x.f0.take ([] : List ByteArray).length) []).bind fun q => if q = true ∧ lo ≤ x.f1 ∧ x.f1 < hi then (if out.length < 1000000 then scanGo k [] lo hi r (out ++ [x]) else none) else scanGo k [] lo hi r out) (fun k => by
      conv => lhs; unfold scanGo
      rw [if_pos (show ([] : List ByteArray).length ≤ x.f0.length from Nat.zero_le _)]) (Ev.bind (eq_nil x.f0) ?_)
    by_cases c : lo ≤ x.f1 ∧ x.f1 < hi
    · have hc : inRange lo hi x = true := decide_eq_true c
      rw [List.filter_cons_of_pos hc]
      have := scan_nil (lo := lo) (hi := hi) r (out ++ [x]) (by simp; omega)
      rw [List.append_assoc, List.singleton_append] at this
      refine Ev.congr (fun k => ?_) this
      rw [if_pos ⟨rfl, c⟩, if_pos (by omega)]
    · have hc : ¬ inRange lo hi x = true := by unfold inRange; simpa using c
      rw [List.filter_cons_of_neg hc]
      refine Ev.congr (fun k => ?_) (scan_nil r out (by omega))
      rw [if_neg (fun h => c h.2)]
def isRow (gs : List Gr) (x : En) (y : Rw) : Prop := ∃ g : Nat, FitK gs x.f0 y.f0 y.f1 g ∧ y.f2 = sz gs g ∧ y.f3 = x.f1
inductive RowsOf (gs : List Gr) : List En → List Rw → Prop
  | nil : RowsOf gs [] []
  | cons {x : En} {y : Rw} {l : List En} {rs : List Rw} : isRow gs x y → RowsOf gs l rs → RowsOf gs (x :: l) (y :: rs)
theorem RowsOf.length {gs : List Gr} : ∀ {l : List En} {rs : List Rw}, RowsOf gs l rs → rs.length = l.length
  | _, _, .nil => rfl
  | _, _, .cons _ h => by simp [h.length]
theorem rows_loop {gs : List Gr} {keep : Int} {fl : List En} (hl : fl.length < 1000000) (hf : ∀ x ∈ fl, fitX gs x) (d : Nat) : ∀ (i : Nat) (out : List Rw), fl.length - i = d → out.length ≤ i → ∃ rs, RowsOf gs (fl.drop i) rs ∧ Ev (fun k => ask_rows.l0 k out fl (fl.length : Int) (i : Int) gs keep) (out ++ rs, 0) := by
  induction d with
  | zero =>
    intro i out hd ho
    refine ⟨[], by rw [List.drop_eq_nil_of_le (by omega)]; exact RowsOf.nil, Ev.step (fun k => ?_) (Ev.now _)⟩
    simp only [ask_rows.l0]
    rw [if_neg (by omega), List.append_nil]
  | succ d ih =>
    intro i out hd ho
    have hi : i < fl.length := by omega
    obtain ⟨dd, f, g, F⟩ := (hf fl[i] (List.getElem_mem hi)).1
    obtain ⟨rs, h1, h2⟩ := ih (i + 1) (out ++ [⟨dd, f, sz gs g, fl[i].f1⟩]) (by omega) (by simp; omega)
    have hg := F.gran
    refine ⟨⟨dd, f, sz gs g, fl[i].f1⟩ :: rs, ?_, Ev.step (f := fun k => (key_Read.f k fl[i].f0).bind fun bt => if 0 ≤ bt.2.2.1 then (if bt.2.2.1 < (gs.length : Int) then ask_rows.l0 k (out ++ [⟨bt.1, bt.2.1, (rd_T84 gs bt.2.2.1).f0, fl[i].f1⟩]) fl (fl.length : Int) ((i + 1 : Nat) : Int) gs keep else none) else none) (fun k => ?_) (Ev.bind F.read ?_)⟩
    · rw [List.drop_eq_getElem_cons hi]
      exact RowsOf.cons ⟨g, F, rfl, rfl⟩ h1
    · simp only [ask_rows.l0, rd_ent hi, kw64o i (by omega)]
      rw [if_pos (by omega), if_pos (by omega), if_pos (by omega)]
      simp only [if_pos (show out.length < 1599289640401 by omega)]
    · simp only [if_pos (show (0 : Int) ≤ (g : Int) by omega), if_pos (show (g : Int) < (gs.length : Int) by omega), rd_sz]
      simpa using h2
theorem rows_tells {gs : List Gr} {keep w : Int} {l : List En} (hl : l.length < 1000) (hw : ∀ x ∈ l, WfE x) (ho : okL gs keep w l) : ∃ rs, RowsOf gs (foldM gs keep w l) rs ∧ Ev (fun k => ask_rows.f k gs keep w l) (rs, 0) := by
  obtain ⟨x1, x2, x3, x4, _⟩ := foldM_ok hw ho
  obtain ⟨rs, h1, h2⟩ := rows_loop (keep := keep) (fl := foldM gs keep w l) (by omega) x2 _ 0 [] rfl (Nat.le_refl 0)
  refine ⟨rs, by simpa using h1, ?_⟩
  unfold ask_rows.f
  refine Ev.bind (fold_tells hl hw ho) ?_
  simp only [if_true]
  simpa using h2
theorem rows_errs {gs : List Gr} {keep w : Int} {l : List En} (hl : l.length < 1000) (hw : ∀ x ∈ l, WfE x) (ho : ¬ okL gs keep w l) : ∃ e, e ≠ 0 ∧ Ev (fun k => ask_rows.f k gs keep w l) ([], e) := by
  obtain ⟨e, he, h⟩ := fold_errs (gs := gs) (keep := keep) (wm := w) hl hw ho
  refine ⟨e, he, ?_⟩
  unfold ask_rows.f
  refine Ev.bind h ?_
  simp only [if_neg he]
  exact Ev.now _
theorem scan_errs {gs : List Gr} {keep w : Int} {l : List En} (hl : l.length < 1000) (hw : ∀ x ∈ l, WfE x) (ho : ¬ okL gs keep w l) (dims : List ByteArray) (lo hi : Int) : ∃ e, e ≠ 0 ∧ Ev (fun k => ask_Scan.f k gs keep w l dims lo hi) ([], e) := by
  obtain ⟨e, he, h⟩ := rows_errs (gs := gs) (keep := keep) (w := w) hl hw ho
  refine ⟨e, he, ?_⟩
  unfold ask_Scan.f
  refine Ev.bind h ?_
  simp only [if_neg he]
  exact Ev.now _
def zeroA : Ag := ⟨0, false, ⟨0, 0⟩, 0, 0⟩
def okZ (a : Ag) : Prop := a = zeroA ∨ okP a
theorem okZ_merge {a b : Ag} (ha : okZ a) (hb : okP b) : okP (mergeA a b) := by
  rcases ha with rfl | ha
  · rw [mergeA_zero_left rfl]; exact hb
  · exact okP_merge ha hb
theorem okZ_lo {a : Ag} (h : okZ a) : inU a.f2.f1 := by
  rcases h with rfl | h
  · unfold inU zeroA mW; simp
  · exact h.1.2.1
theorem merge_tells {a b : Ag} (ha : inU a.f2.f1) (hb : inU b.f2.f1) : agg_Merge.f a.f0 a.f1 a.f2.f0 a.f2.f1 a.f3 a.f4 b.f0 b.f1 b.f2.f0 b.f2.f1 b.f3 b.f4 = some ((mergeA a b).f0, (mergeA a b).f1, (mergeA a b).f2.f0, (mergeA a b).f2.f1, (mergeA a b).f3, (mergeA a b).f4) := by
  unfold agg_Merge.f
  rw [if_pos ⟨ha, hb⟩]
structure RowOk (x : Rw) : Prop where
  dims : dimsB x.f0 = true
  time : isT x.f1
  size : 1 ≤ x.f2 ∧ x.f2 ≤ 1099511627776
  step : x.f1 % x.f2 = 0
  agg : okP x.f3
theorem rows_ok {gs : List Gr} {keep : Int} (R : Rgt gs keep) : ∀ {l : List En} {rs : List Rw}, RowsOf gs l rs → (∀ x ∈ l, fitX gs x) → (∀ x ∈ l, WfE x) → ∀ y ∈ rs, RowOk y
  | _, _, .nil, _, _, y, hy => by cases hy
  | x :: l, z :: rs, .cons h t, hf, hw, y, hy => by
    rcases List.mem_cons.1 hy with rfl | hy
    · obtain ⟨g, F, e2, e3⟩ := h
      have hs := R.size g F.gran
      exact ⟨F.dims, F.time, by rw [e2]; exact hs, by rw [e2]; exact F.from_, by rw [e3]; exact okP_of (hw x List.mem_cons_self) (hf x List.mem_cons_self)⟩
    · exact rows_ok R t (fun x hx => hf x (List.mem_cons_of_mem _ hx)) (fun x hx => hw x (List.mem_cons_of_mem _ hx)) y hy
end Go.Proofs.Ytdopbhbbpgfliaa.PAsk
end
section
namespace Go.Proofs.Ytdopbhbbpgfliaa.PAsk
open Go.RowKit Go.Proofs.YtdopbhbbpgfliaaW.PrintWords Go.Proofs.YtdopbhbbpgfliaaW.PrintLast Go.Proofs.YtdopbhbbpgfliaaW.PrintMore
attribute [local go_sem] max2_int min2_int max_two min_two max_three min_three max_four min_four   -- for this text's walks alone
set_option linter.unusedVariables false
set_option linter.unusedSimpArgs false
set_option maxHeartbeats 8000000
set_option maxRecDepth 100000
def rickyardlaw17_As.l0 : Nat → List (S44) → List (S73) → Int → Option ((List (S73)))
 | 0, _, _, _ => none
 | k + 1, x0, x3, x4 => if x4 < (x0.length : Int) then (if 0 ≤ x4 then (if x3.length < 1599289640401 then (rickyardlaw17_As.l0 k x0 (x3 ++ [(⟨(rd_T44 x0 x4).f0, (rd_T44 x0 x4).f1, (rd_T44 x0 x4).f2, (⟨(rd_T44 x0 x4).f3.f0, (rd_T44 x0 x4).f3.f1, (⟨(rd_T44 x0 x4).f3.f2.f0, (rd_T44 x0 x4).f3.f2.f1⟩ : S40), (rd_T44 x0 x4).f3.f3, (rd_T44 x0 x4).f3.f4⟩ : S42)⟩ : S73)]) (wrap64 (x4 + 1))) else (none)) else (none)) else (some x3)
def rickyardlaw17_As.f (k : Nat) (l0 : List (S44)) : Option ((List (S73))) := rickyardlaw17_As.l0 k l0 ([] : List (S73)) 0
def rickyardlaw17_As.T5 : Bool × List (List Nat × List Nat) := (true, [([], []), ([], []), ([], []), ([1, 2], [1, 2]), ([3], [3]), ([4], [4]), ([], []), ([], []), ([6, 7], [6, 7]), ([8], [8]), ([9], [9]), ([], []), ([], []), ([11, 12], [11, 12]), ([13], [13]), ([14], [14]), ([], []), ([], []), ([16, 17], [16, 17]), ([18], [18]), ([19], [19]), ([5, 10, 15, 20], [5, 10, 15, 20]), ([21], [21]), ([0, 22], [0, 22]), ([23, 23, 0, 1, 2, 3, 4, 5, 6, 7, 8, 9, 10, 11, 12, 13, 14, 15, 16, 17, 18, 19, 20, 21, 22, 23], [0, 23])])
def rickyardlaw17_As.B5 : List Nat := [0, 0, 0, 6, 14, 30, 0, 0, 192, 448, 960, 0, 0, 6144, 14336, 30720, 0, 0, 196608, 458752, 983040, 2097150, 4194302, 8388607, 16777215]
theorem rickyardlaw17_As.tab5 : rtab .any (opsOf Try.f11 5) = rickyardlaw17_As.T5 := by kernel_rfl
theorem rickyardlaw17_As.bits5 : waitsOk rickyardlaw17_As.T5.2 rickyardlaw17_As.B5 = true := by kernel_rfl
end Go.Proofs.Ytdopbhbbpgfliaa.PAsk
end
section
namespace Go.Proofs.Ytdopbhbbpgfliaa.PAsk
open Go.RowKit Go.Proofs.YtdopbhbbpgfliaaW.PrintWords Go.Proofs.YtdopbhbbpgfliaaW.PrintLast Go.Proofs.YtdopbhbbpgfliaaW.PrintMore
attribute [local go_sem] max2_int min2_int max_two min_two max_three min_three max_four min_four   -- for this text's walks alone
set_option linter.unusedVariables false
set_option linter.unusedSimpArgs false
attribute [local go_sem high] eqA42
set_option maxHeartbeats 8000000
set_option maxRecDepth 100000
def rickyardref17_Same.f (k : Nat) (l0_0 : List ByteArray) (a0_1 : Int) (a0_2 : Int) (a0_3 : Int) (a0_4 : Bool) (a0_5 : Int) (a0_6 : Int) (a0_7 : Int) (a0_8 : Int) (l1_0 : List ByteArray) (a1_1 : Int) (a1_2 : Int) (a1_3 : Int) (a1_4 : Bool) (a1_5 : Int) (a1_6 : Int) (a1_7 : Int) (a1_8 : Int) : Option (Bool) := (rickyardref06_Order.f k l0_0 l1_0).bind fun t541 => (if t541 = 0 then (if a0_1 = a1_1 then (if a0_2 = a1_2 then (some (a0_3 == a1_3 && (a0_4 == a1_4 && ((a0_5 == a1_5 && (a0_6 == a1_6)) && (a0_7 == a1_7 && (a0_8 == a1_8)))))) else (some false)) else (some false)) else (some false))
end Go.Proofs.Ytdopbhbbpgfliaa.PAsk
end
section
namespace Go.Proofs.Ytdopbhbbpgfliaa.PAsk
open Go.RowKit Go.Proofs.YtdopbhbbpgfliaaW.PrintWords Go.Proofs.YtdopbhbbpgfliaaW.PrintLast Go.Proofs.YtdopbhbbpgfliaaW.PrintMore
attribute [local go_sem] max2_int min2_int max_two min_two max_three min_three max_four min_four   -- for this text's walks alone
set_option linter.unusedVariables false
set_option linter.unusedSimpArgs false
set_option maxHeartbeats 8000000
set_option maxRecDepth 100000
def rickyardref17_SameAll.l0 : Nat → List (S73) → List (S73) → Int → Option (Bool)
 | 0, _, _, _ => none
 | k + 1, x0, x1, x5 => if x5 < (x0.length : Int) then (if 0 ≤ x5 then (if x5 < (x1.length : Int) then ((rickyardref17_Same.f k ((rd_T73 x0 x5).f0) ((rd_T73 x0 x5).f1) ((rd_T73 x0 x5).f2) ((rd_T73 x0 x5).f3.f0) ((rd_T73 x0 x5).f3.f1) ((rd_T73 x0 x5).f3.f2.f0) ((rd_T73 x0 x5).f3.f2.f1) ((rd_T73 x0 x5).f3.f3) ((rd_T73 x0 x5).f3.f4) ((rd_T73 x1 x5).f0) ((rd_T73 x1 x5).f1) ((rd_T73 x1 x5).f2) ((rd_T73 x1 x5).f3.f0) ((rd_T73 x1 x5).f3.f1) ((rd_T73 x1 x5).f3.f2.f0) ((rd_T73 x1 x5).f3.f2.f1) ((rd_T73 x1 x5).f3.f3) ((rd_T73 x1 x5).f3.f4)).bind fun t544 => (if t544 = true then (rickyardref17_SameAll.l0 k x0 x1 (wrap64 (x5 + 1))) else (some false))) else (none)) else (none)) else (some true)
def rickyardref17_SameAll.f (k : Nat) (l0 : List (S73)) (l1 : List (S73)) : Option (Bool) := if (l0.length : Int) = (l1.length : Int) then (rickyardref17_SameAll.l0 k l0 l1 0) else (some false)
def rickyardref17_SameAll.T6 : Bool × List (List Nat × List Nat) := (true, [([], []), ([], []), ([0, 1], [0, 1]), ([2], [2]), ([], []), ([], []), ([4, 5], [4, 5]), ([6], [6]), ([3, 7], [3, 7]), ([8], [8])])
def rickyardref17_SameAll.B6 : List Nat := [0, 0, 3, 7, 0, 0, 48, 112, 255, 511]
theorem rickyardref17_SameAll.tab6 : rtab .any (opsOf Try.f12 6) = rickyardref17_SameAll.T6 := by kernel_rfl
theorem rickyardref17_SameAll.bits6 : waitsOk rickyardref17_SameAll.T6.2 rickyardref17_SameAll.B6 = true := by kernel_rfl
end Go.Proofs.Ytdopbhbbpgfliaa.PAsk
end
section
namespace Go.Proofs.Ytdopbhbbpgfliaa.PAsk
open Go.RowKit Go.Proofs.YtdopbhbbpgfliaaW.PrintWords Go.Proofs.YtdopbhbbpgfliaaW.PrintLast Go.Proofs.YtdopbhbbpgfliaaW.PrintMore Go.Proofs.Ytdopbhbbpgfliaa.GrainM Go.Proofs.Ytdopbhbbpgfliaa.GrainL
set_option linter.unusedVariables false
set_option linter.unusedSimpArgs false
set_option maxHeartbeats 8000000
set_option maxRecDepth 100000
abbrev Rr := S73
theorem toList_inj {a b : ByteArray} (h : a.toList = b.toList) : a = b := by
  have e : ∀ c : ByteArray, c.toList = c.data.toList := fun c => by rw [ByteArray.toList_eq]
  rw [e, e] at h
  cases a; cases b
  simp at h
  rw [h]
open Classical in
theorem eq_loop {a b : List ByteArray} (hab : a.length = b.length) (hl : a.length < 10000000000000) (d : Nat) : ∀ i : Nat, a.length - i = d → Ev (fun k => slices_Equal_string_string.l0 k a b (a.length : Int) (i : Int)) (decide (a.drop i = b.drop i)) := by
  induction d with
  | zero =>
    intro i hd
    rw [List.drop_eq_nil_of_le (by omega), List.drop_eq_nil_of_le (by omega)]
    refine Ev.step (f := fun _ => some true) (fun k => ?_) (Ev.congr (fun k => by simp) (Ev.now true))
    simp only [slices_Equal_string_string.l0]
    rw [if_neg (by omega)]
  | succ d ih =>
    intro i hd
    have h1 : i < a.length := by omega
    have h2 : i < b.length := by omega
    have r1 := rdOf_get h1
    have r2 := rdOf_get h2
    rw [List.drop_eq_getElem_cons h1, List.drop_eq_getElem_cons h2]
    by_cases e : a[i] = b[i]
    · have : decide (a[i] :: a.drop (i + 1) = b[i] :: b.drop (i + 1)) = decide (a.drop (i + 1) = b.drop (i + 1)) := decide_eq_decide.2 ⟨fun h => (List.cons.inj h).2, fun h => by rw [e, h]⟩
      rw [this]
      refine Ev.step (fun k => ?_) (ih (i + 1) (by omega))
      simp only [slices_Equal_string_string.l0, r1, r2, kw64o i (by omega)]
      rw [if_pos (by omega), if_pos (by omega), if_pos (by omega), if_pos (by omega), if_pos (by rw [e])]
    · have : decide (a[i] :: a.drop (i + 1) = b[i] :: b.drop (i + 1)) = false := decide_eq_false (fun h => e (List.cons.inj h).1)
      rw [this]
      refine Ev.step (f := fun _ => some false) (fun k => ?_) (Ev.now _)
      simp only [slices_Equal_string_string.l0, r1, r2]
      rw [if_pos (by omega), if_pos (by omega), if_pos (by omega), if_pos (by omega), if_neg (fun h => e (toList_inj h))]
open Classical in
theorem eq_tells (a b : List ByteArray) (hl : a.length < 10000000000000) : Ev (fun k => slices_Equal_string_string.f k a b) (decide (a = b)) := by
  unfold slices_Equal_string_string.f
  by_cases h : a.length = b.length
  · have := eq_loop h hl _ 0 rfl
    simp only [List.drop_zero] at this
    refine Ev.congr (fun k => ?_) this
    rw [if_pos (by omega)]; rfl
  · rw [show decide (a = b) = false from decide_eq_false (fun e => h (by rw [e]))]
    refine Ev.congr (fun k => ?_) (Ev.now false)
    rw [if_neg (by omega)]
end Go.Proofs.Ytdopbhbbpgfliaa.PAsk
end
section
namespace Go.Proofs.Ytdopbhbbpgfliaa.PAsk
open Go.RowKit Go.Proofs.YtdopbhbbpgfliaaW.PrintWords Go.Proofs.YtdopbhbbpgfliaaW.PrintLast Go.Proofs.YtdopbhbbpgfliaaW.PrintMore Go.Proofs.Ytdopbhbbpgfliaa.GrainM
set_option linter.unusedVariables false
set_option linter.unusedSimpArgs false
set_option maxHeartbeats 8000000
set_option maxRecDepth 100000
def ordD : List ByteArray → List ByteArray → Int
  | [], [] => 0
  | [], _ :: _ => -1
  | _ :: _, [] => 1
  | a :: r, b :: s => if a.toList < b.toList then -1 else if b.toList < a.toList then 1 else ordD r s
theorem baL_inj {a b : ByteArray} (h : a.toList = b.toList) : a = b := by
  have e : ∀ c : ByteArray, c.toList = c.data.toList := fun c => by rw [ByteArray.toList_eq]
  rw [e, e] at h
  cases a; cases b
  simp at h
  rw [h]
theorem ordD_zero : ∀ {a b : List ByteArray}, ordD a b = 0 ↔ a = b
  | [], [] => by simp [ordD]
  | [], _ :: _ => by simp [ordD]
  | _ :: _, [] => by simp [ordD]
  | a :: r, b :: s => by
    unfold ordD
    by_cases h1 : a.toList < b.toList
    · rw [if_pos h1]
      refine ⟨fun h => absurd h (by decide), fun h => ?_⟩
      rw [(List.cons.inj h).1] at h1
      exact absurd h1 (List.lt_irrefl _)
    · rw [if_neg h1]
      by_cases h2 : b.toList < a.toList
      · rw [if_pos h2]
        refine ⟨fun h => absurd h (by decide), fun h => ?_⟩
        rw [(List.cons.inj h).1] at h2
        exact absurd h2 (List.lt_irrefl _)
      · rw [if_neg h2, ordD_zero]
        have e : a = b := baL_inj (List.le_antisymm (List.not_lt.1 h2) (List.not_lt.1 h1))
        subst e
        simp
theorem order_at {a b : List ByteArray} (hl : a.length < 10000000000000) (d : Nat) : ∀ i : Nat, a.length - i = d → i ≤ a.length → i ≤ b.length → Ev (fun k => rickyardref06_Order.l0 k a b (i : Int)) (ordD (a.drop i) (b.drop i)) := by
  have fin : ∀ i : Nat, Ev (fun k => rickyardref06_Order.j1 k a b (i : Int) false) (if (a.length : Int) < (b.length : Int) then -1 else if (a.length : Int) > (b.length : Int) then 1 else 0) := fun i => by
    by_cases h1 : (a.length : Int) < (b.length : Int)
    · refine Ev.step (f := fun _ => some (-1)) (fun k => ?_) (by rw [if_pos h1]; exact Ev.now _)
      simp only [rickyardref06_Order.j1, Bool.false_eq_true, if_false]
      rw [if_pos h1]
    · by_cases h2 : (a.length : Int) > (b.length : Int)
      · refine Ev.step (f := fun _ => some 1) (fun k => ?_) (by rw [if_neg h1, if_pos h2]; exact Ev.now _)
        simp only [rickyardref06_Order.j1, Bool.false_eq_true, if_false]
        rw [if_neg h1, if_pos h2]
      · refine Ev.step (f := fun _ => some 0) (fun k => ?_) (by rw [if_neg h1, if_neg h2]; exact Ev.now _)
        simp only [rickyardref06_Order.j1, Bool.false_eq_true, if_false]
        rw [if_neg h1, if_neg h2]
  induction d with
  | zero =>
    intro i hd hi hj
    obtain rfl : i = a.length := by omega
    refine Ev.step (f := fun k => rickyardref06_Order.j1 k a b (a.length : Int) false) (fun k => ?_) ?_
    · simp only [rickyardref06_Order.l0]; rw [if_neg (by omega)]
    · have := fin a.length
      rw [List.drop_length]
      rcases Nat.lt_or_ge a.length b.length with h | h
      · rw [List.drop_eq_getElem_cons h]
        rw [if_pos (by omega)] at this
        exact this
      · rw [List.drop_eq_nil_of_le h]
        rw [if_neg (by omega), if_neg (by omega)] at this
        exact this
  | succ d ih =>
    intro i hd hi hj
    have ha : i < a.length := by omega
    rw [List.drop_eq_getElem_cons ha]
    rcases Nat.lt_or_ge i b.length with hb | hb
    · rw [List.drop_eq_getElem_cons hb]
      refine Ev.step (f := fun k => rickyardref06_Order.j1 k a b (i : Int) true) (fun k => ?_) ?_
      · simp only [rickyardref06_Order.l0]; rw [if_pos (by omega), show decide ((i : Int) < (b.length : Int)) = true from decide_eq_true (by omega)]
      · unfold ordD
        by_cases h1 : a[i].toList < b[i].toList
        · rw [if_pos h1]
          refine Ev.step (f := fun _ => some (-1)) (fun k => ?_) (Ev.now _)
          simp only [rickyardref06_Order.j1, if_true, rdOf_get ha, rdOf_get hb, Go.Proofs.bytesLess_eq]
          rw [if_pos (by omega), if_pos (by omega), if_pos (by omega), if_pos (decide_eq_true h1)]
        · rw [if_neg h1]
          by_cases h2 : b[i].toList < a[i].toList
          · rw [if_pos h2]
            refine Ev.step (f := fun _ => some 1) (fun k => ?_) (Ev.now _)
            simp only [rickyardref06_Order.j1, if_true, rdOf_get ha, rdOf_get hb, Go.Proofs.bytesLess_eq]
            rw [if_pos (by omega), if_pos (by omega), if_pos (by omega), if_neg (by simpa using h1), if_pos (decide_eq_true h2)]
          · rw [if_neg h2]
            refine Ev.step (fun k => ?_) (ih (i + 1) (by omega) (by omega) (by omega))
            simp only [rickyardref06_Order.j1, if_true, rdOf_get ha, rdOf_get hb, Go.Proofs.bytesLess_eq, kw64o i (by omega)]
            rw [if_pos (by omega), if_pos (by omega), if_pos (by omega), if_neg (by simpa using h1), if_neg (by simpa using h2)]
    · rw [List.drop_eq_nil_of_le hb]
      refine Ev.step (f := fun k => rickyardref06_Order.j1 k a b (i : Int) false) (fun k => ?_) ?_
      · simp only [rickyardref06_Order.l0]; rw [if_pos (by omega), show decide ((i : Int) < (b.length : Int)) = false from decide_eq_false (by omega)]
      · have := fin i
        rw [if_neg (by omega), if_pos (by omega)] at this
        exact this
theorem order_tells (a b : List ByteArray) (hl : a.length < 10000000000000) : Ev (fun k => rickyardref06_Order.f k a b) (ordD a b) := by
  have := order_at (b := b) hl _ 0 rfl (Nat.zero_le _) (Nat.zero_le _)
  simp only [List.drop_zero] at this
  exact this
end Go.Proofs.Ytdopbhbbpgfliaa.PAsk
end
section
namespace Go.Proofs.Ytdopbhbbpgfliaa.PAsk
open Go.RowKit Go.Proofs.YtdopbhbbpgfliaaW.PrintWords Go.Proofs.YtdopbhbbpgfliaaW.PrintLast Go.Proofs.YtdopbhbbpgfliaaW.PrintMore Go.Proofs.Ytdopbhbbpgfliaa.GrainM Go.Proofs.Ytdopbhbbpgfliaa.GrainL
set_option linter.unusedVariables false
set_option linter.unusedSimpArgs false
set_option maxHeartbeats 8000000
set_option maxRecDepth 100000
def holdsR (dims : List ByteArray) (t : Int) (x : Rw) : Prop := x.f0 = dims ∧ x.f1 ≤ t ∧ t < x.f1 + x.f2
def rowPut (x out : Rw) (a : Ag) : Rw := if x.f2 > out.f2 then ⟨x.f0, x.f1, x.f2, a⟩ else ⟨out.f0, out.f1, out.f2, a⟩
open Classical in
noncomputable def getM (dims : List ByteArray) (t : Int) : List Rw → Rw → Rw
  | [], out => out
  | x :: r, out => if holdsR dims t x then getM dims t r (rowPut x out (mergeA out.f3 x.f3)) else getM dims t r out
theorem rowPut_agg (x out : Rw) (a : Ag) : (rowPut x out a).f3 = a := by unfold rowPut; split <;> rfl
theorem getGo_tells {dims : List ByteArray} {t : Int} : ∀ (l : List Rw) (out : Rw), (∀ x ∈ l, RowOk x) → okZ out.f3 → Ev (fun k => getGo k dims t l out) (getM dims t l out)
  | [], out, _, _ => by simp only [getGo, getM]; exact Ev.now _
  | x :: r, out, hx, ho => by
    classical
    have h := hx x List.mem_cons_self
    have hr : ∀ y ∈ r, RowOk y := fun y hy => hx y (List.mem_cons_of_mem _ hy)
    have h4 : x.f0.length ≤ 4 := (dims_iff.1 h.dims).1
    have hs := h.size
    have ht := h.time
    have hw : IntKind.i64.wrap (x.f1 + x.f2) = x.f1 + x.f2 := by rw [i64_w, kw64] <;> (unfold isT at ht; omega)
    have hm := merge_tells (okZ_lo ho) h.agg.1.2.1
    unfold getM
    simp only [getGo]
    refine Ev.bind (eq_tells x.f0 dims (by omega)) ?_
    by_cases c : holdsR dims t x
    · obtain ⟨c1, c2, c3⟩ := c
      rw [if_pos (show holdsR dims t x from ⟨c1, c2, c3⟩)]
      refine Ev.congr (fun k => ?_) (getGo_tells r (rowPut x out (mergeA out.f3 x.f3)) hr (by rw [rowPut_agg]; exact .inr (okZ_merge ho h.agg)))
      rw [if_pos ⟨decide_eq_true c1, by omega, by rw [hw]; omega⟩, hm]
      rfl
    · rw [if_neg c]
      refine Ev.congr (fun k => ?_) (getGo_tells r out hr ho)
      rw [if_neg]
      rintro ⟨c1, c2, c3⟩
      rw [hw] at c3
      exact c ⟨of_decide_eq_true c1, by omega, by omega⟩
theorem merge_ge {a b : Ag} (ha : okZ a) (hb : okP b) : a.f0 ≤ (mergeA a b).f0 ∧ b.f0 ≤ (mergeA a b).f0 := by
  rcases ha with rfl | ha
  · rw [mergeA_zero_left rfl]
    exact ⟨hb.1.1.1, Int.le_refl _⟩
  · rw [mergeA_eq ha.1 hb.1 ha.2 hb.2]
    have h1 := ha.1.1
    have h2 := hb.1.1
    unfold inU at h1 h2
    unfold cntS
    split
    · simp only; omega
    · simp only; omega
theorem getM_facts {dims : List ByteArray} {t : Int} : ∀ (l : List Rw) (out : Rw), (∀ x ∈ l, RowOk x) → okZ out.f3 →
    out.f2 ≤ (getM dims t l out).f2 ∧ out.f3.f0 ≤ (getM dims t l out).f3.f0 ∧ (∀ x ∈ l, holdsR dims t x → x.f2 ≤ (getM dims t l out).f2 ∧ x.f3.f0 ≤ (getM dims t l out).f3.f0) ∧
    (((getM dims t l out).f1 = out.f1 ∧ (getM dims t l out).f2 = out.f2) ∨ ∃ x ∈ l, holdsR dims t x ∧ (getM dims t l out).f1 = x.f1 ∧ (getM dims t l out).f2 = x.f2)
  | [], out, _, _ => ⟨Int.le_refl _, Int.le_refl _, (fun x hx => by cases hx), .inl ⟨rfl, rfl⟩⟩
  | x :: r, out, hx, ho => by
    have h := hx x List.mem_cons_self
    have hr : ∀ y ∈ r, RowOk y := fun y hy => hx y (List.mem_cons_of_mem _ hy)
    unfold getM
    by_cases c : holdsR dims t x
    · rw [if_pos c]
      have hm := merge_ge ho h.agg
      have ih := getM_facts (dims := dims) (t := t) r (rowPut x out (mergeA out.f3 x.f3)) hr (by rw [rowPut_agg]; exact .inr (okZ_merge ho h.agg))
      rw [rowPut_agg] at ih
      obtain ⟨i1, i2, i3, i4⟩ := ih
      have hp : out.f2 ≤ (rowPut x out (mergeA out.f3 x.f3)).f2 ∧ x.f2 ≤ (rowPut x out (mergeA out.f3 x.f3)).f2 := by
        unfold rowPut
        split
        · exact ⟨by simp only; omega, Int.le_refl _⟩
        · exact ⟨Int.le_refl _, by simp only; omega⟩
      refine ⟨by omega, by omega, fun y hy cy => ?_, ?_⟩
      · rcases List.mem_cons.1 hy with rfl | hy
        · exact ⟨by omega, by omega⟩
        · exact i3 y hy cy
      · rcases i4 with ⟨e1, e2⟩ | ⟨y, hy, cy, e⟩
        · rw [e1, e2]
          unfold rowPut
          split
          · exact .inr ⟨x, List.mem_cons_self, c, rfl, rfl⟩
          · exact .inl ⟨rfl, rfl⟩
        · exact .inr ⟨y, List.mem_cons_of_mem _ hy, cy, e⟩
    · rw [if_neg c]
      obtain ⟨i1, i2, i3, i4⟩ := getM_facts (dims := dims) (t := t) r out hr ho
      refine ⟨i1, i2, fun y hy cy => ?_, ?_⟩
      · rcases List.mem_cons.1 hy with rfl | hy
        · exact absurd cy c
        · exact i3 y hy cy
      · rcases i4 with e | ⟨y, hy, cy, e⟩
        · exact .inl e
        · exact .inr ⟨y, List.mem_cons_of_mem _ hy, cy, e⟩
noncomputable def getT (rs : List Rw) (dims : List ByteArray) (t : Int) : List ByteArray × Int × Int × Int × Bool × Int × Int × Int × Int × Bool × Int :=
  let o := getM dims t rs rowZ
  (o.f0, o.f1, o.f2, o.f3.f0, o.f3.f1, o.f3.f2.f0, o.f3.f2.f1, o.f3.f3, o.f3.f4, decide (o.f2 > 0), 0)
open Classical in
theorem get_gen {gs : List Gr} {keep w : Int} {l : List En} {rs : List Rw} (hrows : Ev (fun k => ask_rows.f k gs keep w l) (rs, 0)) (hok : ∀ x ∈ rs, RowOk x) (dims : List ByteArray) (t : Int) :
    Ev (fun k => ask_Get.f k gs keep w l dims t) (if dimsB dims = true ∧ isT t then getT rs dims t else ([], 0, 0, 0, false, 0, 0, 0, 0, false, 110)) := by
  unfold ask_Get.f
  refine Ev.bind hrows ?_
  simp only [if_true]
  have hk : key_Right.f dims t 0 = some (decide (dimsB dims = true ∧ isT t)) := by
    rw [key_right_tells]; congr 1; exact decide_eq_decide.2 ⟨fun h => ⟨h.1, h.2.1⟩, fun h => ⟨h.1, h.2, by omega, by omega⟩⟩
  simp only [hk, Option.bind_some]
  by_cases hb : dimsB dims = true ∧ isT t
  · simp only [decide_eq_true hb, if_true, if_pos hb]
    exact Ev.bind (getGo_tells rs rowZ hok (.inl rfl)) (Ev.now _)
  · simp only [decide_eq_false hb, Bool.false_eq_true, if_false, if_neg hb]
    exact Ev.now _
end Go.Proofs.Ytdopbhbbpgfliaa.PAsk
end
section
namespace Go.Proofs.Ytdopbhbbpgfliaa.PAsk
open Go.RowKit Go.Proofs.YtdopbhbbpgfliaaW.PrintWords Go.Proofs.YtdopbhbbpgfliaaW.PrintLast Go.Proofs.YtdopbhbbpgfliaaW.PrintMore
attribute [local go_sem] max2_int min2_int max_two min_two max_three min_three max_four min_four   -- for this text's walks alone
set_option linter.unusedVariables false
set_option linter.unusedSimpArgs false
set_option maxHeartbeats 8000000
set_option maxRecDepth 100000
mutual
def rickyardlaw17_AskRanges.j0 : Nat → Int → List (S60) → Int → Bool → List (S84) → Int → List ByteArray → Int → Int → Int → Int → Option (Bool)
 | 0, _, _, _, _, _, _, _, _, _, _, _ => none
 | k + 1, x1, x2, x4, x38, x546000, x546001, x547000, x547001, x547002, x547003, x547004 => if x38 = true then ((rickyardlaw17_alive.f k).bind fun t549 => (some t549)) else ((ask_Scan.f k x546000 x546001 x1 x2 x547000 x547002 x547003).bind fun bt550 => ((ask_Scan.f k x546000 x546001 x1 x2 x547000 x547002 x4).bind fun bt554 => ((ask_Scan.f k x546000 x546001 x1 x2 x547000 x4 x547003).bind fun bt558 => (if bt550.2 = 0 then (rickyardlaw17_AskRanges.l0 k x4 bt550.1 bt554.1 bt554.2 bt558.1 bt558.2 0 0 0) else ((rickyardlaw17_alive.f k).bind fun t562 => (if t562 = true then (some ((bt550.1.length : Int) == 0)) else (some false)))))))
def rickyardlaw17_AskRanges.l0 : Nat → Int → List (S44) → List (S44) → Int → List (S44) → Int → Int → Int → Int → Option (Bool)
 | 0, _, _, _, _, _, _, _, _, _ => none
 | k + 1, x4, x11, x13, x14, x15, x16, x17, x18, x19 => if x19 < (x11.length : Int) then (if 0 ≤ x19 then (if x19 ≤ (wrap64 (x19 + 1)) then (if (wrap64 (x19 + 1)) ≤ (x11.length : Int) then ((rickyardlaw17_As.f k ((x11.take ((wrap64 (x19 + 1)) : Int).toNat).drop (x19 : Int).toNat)).bind fun t569 => (if x17 < (x13.length : Int) then (if ((rd_T44 x11 x19).f1) < x4 then (if 0 ≤ x17 then (if x17 ≤ (wrap64 (x17 + 1)) then (if (wrap64 (x17 + 1)) ≤ (x13.length : Int) then ((rickyardlaw17_As.f k ((x13.take ((wrap64 (x17 + 1)) : Int).toNat).drop (x17 : Int).toNat)).bind fun t578 => ((rickyardref17_SameAll.f k t569 t578).bind fun t581 => (rickyardlaw17_AskRanges.j2 k x4 x11 x13 x14 x15 x16 x17 x18 x19 t569 t581))) else (none)) else (none)) else (none)) else (rickyardlaw17_AskRanges.j2 k x4 x11 x13 x14 x15 x16 x17 x18 x19 t569 false)) else (rickyardlaw17_AskRanges.j2 k x4 x11 x13 x14 x15 x16 x17 x18 x19 t569 false))) else (none)) else (none)) else (none)) else ((rickyardlaw17_alive.f k).bind fun t563 => (if t563 = true then (if x14 = 0 then (if x16 = 0 then (if x17 = (x13.length : Int) then (some (x18 == (x15.length : Int))) else (some false)) else (some false)) else (some false)) else (some false)))
def rickyardlaw17_AskRanges.j2 : Nat → Int → List (S44) → List (S44) → Int → List (S44) → Int → Int → Int → Int → List (S73) → Bool → Option (Bool)
 | 0, _, _, _, _, _, _, _, _, _, _, _ => none
 | k + 1, x4, x11, x13, x14, x15, x16, x17, x18, x19, x20, x97 => if x97 = true then (rickyardlaw17_AskRanges.l0 k x4 x11 x13 x14 x15 x16 (wrap64 (x17 + 1)) x18 (wrap64 (x19 + 1))) else (if x18 < (x15.length : Int) then (if 0 ≤ x19 then (if x19 < (x11.length : Int) then (if ((rd_T44 x11 x19).f1) ≥ x4 then (if 0 ≤ x18 then (if x18 ≤ (wrap64 (x18 + 1)) then (if (wrap64 (x18 + 1)) ≤ (x15.length : Int) then ((rickyardlaw17_As.f k ((x15.take ((wrap64 (x18 + 1)) : Int).toNat).drop (x18 : Int).toNat)).bind fun t588 => ((rickyardref17_SameAll.f k x20 t588).bind fun t591 => (if t591 = true then (rickyardlaw17_AskRanges.l0 k x4 x11 x13 x14 x15 x16 x17 (wrap64 (x18 + 1)) (wrap64 (x19 + 1))) else (some false)))) else (none)) else (none)) else (none)) else (some false)) else (none)) else (none)) else (some false))
end
def rickyardlaw17_AskRanges.f (k : Nat) (l0_0 : List (S84)) (a0_1 : Int) (a1 : Int) (l2 : List (S60)) (l3_0 : List ByteArray) (a3_1 : Int) (a3_2 : Int) (a3_3 : Int) (a3_4 : Int) (a4 : Int) : Option (Bool) := (rickyardlaw15_Great.f k l2).bind fun t547 => (if t547 = true then (rickyardlaw17_AskRanges.j0 k a1 l2 a4 true l0_0 a0_1 l3_0 a3_1 a3_2 a3_3 a3_4) else ((rickyardlaw17_Long.f k l3_0 a3_1 a3_2 a3_3 a3_4).bind fun t548 => (if t548 = true then (rickyardlaw17_AskRanges.j0 k a1 l2 a4 true l0_0 a0_1 l3_0 a3_1 a3_2 a3_3 a3_4) else (if a4 < a3_2 then (rickyardlaw17_AskRanges.j0 k a1 l2 a4 true l0_0 a0_1 l3_0 a3_1 a3_2 a3_3 a3_4) else (rickyardlaw17_AskRanges.j0 k a1 l2 a4 (decide (a4 > a3_3)) l0_0 a0_1 l3_0 a3_1 a3_2 a3_3 a3_4)))))
def rickyardlaw17_AskRanges.Pure : Prop := ∀ (l0_0 : List (S84)) (a0_1 : Int) (a1 : Int) (l2 : List (S60)) (l3_0 : List ByteArray) (a3_1 : Int) (a3_2 : Int) (a3_3 : Int) (a3_4 : Int) (a4 : Int), (l0_0.length * 16 ≤ 140737488351232 ∧ ∀ z4 ∈ l0_0, wfS84 z4) → (Lit.int .i64 a0_1).wf = true → (Lit.int .i64 a1).wf = true → (l2.length * 72 ≤ 140737488351232 ∧ ∀ z2 ∈ l2, wfS60 z2) → (l3_0.length * 16 ≤ 140737488351232 ∧ ∀ z4 ∈ l3_0, z4.size ≤ 140737488351232) → (Lit.int .i64 a3_1).wf = true → (Lit.int .i64 a3_2).wf = true → (Lit.int .i64 a3_3).wf = true → (Lit.int .i64 a3_4).wf = true → (Lit.int .i64 a4).wf = true → ∃ k, rickyardlaw17_AskRanges.f k l0_0 a0_1 a1 l2 l3_0 a3_1 a3_2 a3_3 a3_4 a4 = some true
end Go.Proofs.Ytdopbhbbpgfliaa.PAsk
end
section
namespace Go.Proofs.Ytdopbhbbpgfliaa.PAsk
open Go.RowKit Go.Proofs.YtdopbhbbpgfliaaW.PrintWords Go.Proofs.YtdopbhbbpgfliaaW.PrintLast Go.Proofs.YtdopbhbbpgfliaaW.PrintMore Go.Proofs.Ytdopbhbbpgfliaa.GrainM Go.Proofs.Ytdopbhbbpgfliaa.GrainL
set_option linter.unusedVariables false
set_option linter.unusedSimpArgs false
set_option maxHeartbeats 8000000
set_option maxRecDepth 100000
theorem lit_u8 {x : Int} (h : (Lit.int .u8 x).wf = true) : isB x = true := by
  simpa [Lit.wf, IntKind.min, IntKind.max, IntKind.bits, IntKind.signed, isB] using h
theorem lit_u64 {x : Int} (h : (Lit.int .u64 x).wf = true) : inU x := by
  have : 0 ≤ x ∧ x ≤ 18446744073709551615 := by simpa [Lit.wf, IntKind.min, IntKind.max, IntKind.bits, IntKind.signed] using h
  unfold inU mW; omega
theorem wfE_of {x : En} (h : wfS60 x) (hs : x.f0.length ≤ 300) : WfE x := ⟨List.all_eq_true.2 (fun z hz => lit_u8 (h.1.2 z hz)), by omega, lit_u64 h.2.1, lit_u64 h.2.2.1.2⟩
theorem great_loop (l : List En) (hl : l.length < 1000000) (d : Nat) : ∀ i : Nat, l.length - i = d → ∃ t, Ev (fun k => rickyardlaw15_Great.l0 k l (i : Int)) t ∧ (t = false → ∀ j (hj : j < l.length), i ≤ j → l[j].f0.length ≤ 300) := by
  induction d with
  | zero =>
    intro i hd
    refine ⟨false, Ev.step (fun k => ?_) (Ev.now _), fun _ j hj h => by omega⟩
    simp only [rickyardlaw15_Great.l0]
    rw [if_neg (by omega)]
  | succ d ih =>
    intro i hd
    have hlt : i < l.length := by omega
    by_cases hg : (l[i].f0.length : Int) > 300
    · refine ⟨true, Ev.step (fun k => ?_) (Ev.now _), fun h => by cases h⟩
      simp only [rickyardlaw15_Great.l0, rd_ent hlt]
      rw [if_pos (by omega), if_pos (by omega), if_pos hg]
    · obtain ⟨t, h, ht⟩ := ih (i + 1) (by omega)
      refine ⟨t, Ev.step (fun k => ?_) h, fun hf j hj hij => ?_⟩
      · simp only [rickyardlaw15_Great.l0, rd_ent hlt, kw64o i (by omega)]
        rw [if_pos (by omega), if_pos (by omega), if_neg hg]
      · rcases Nat.lt_or_ge i j with h1 | h1
        · exact ht hf j hj h1
        · obtain rfl : i = j := by omega
          omega
theorem great_ex (l : List En) : ∃ t, Ev (fun k => rickyardlaw15_Great.f k l) t ∧ (t = false → l.length ≤ 60 ∧ ∀ x ∈ l, x.f0.length ≤ 300) := by
  unfold rickyardlaw15_Great.f
  by_cases h : (l.length : Int) > 60
  · exact ⟨true, Ev.congr (fun k => by rw [if_pos h]) (Ev.now _), fun h => by cases h⟩
  · obtain ⟨t, ht, hf⟩ := great_loop l (by omega) _ 0 rfl
    refine ⟨t, Ev.congr (fun k => by rw [if_neg h]; rfl) ht, fun h0 => ⟨by omega, fun x hx => ?_⟩⟩
    obtain ⟨j, hj, rfl⟩ := List.getElem_of_mem hx
    exact hf h0 j hj (Nat.zero_le _)
end Go.Proofs.Ytdopbhbbpgfliaa.PAsk
end
section
namespace Go.Proofs.Ytdopbhbbpgfliaa.PAsk
open Go.RowKit Go.Proofs.YtdopbhbbpgfliaaW.PrintWords Go.Proofs.YtdopbhbbpgfliaaW.PrintLast Go.Proofs.YtdopbhbbpgfliaaW.PrintMore Go.Proofs.Ytdopbhbbpgfliaa.GrainM Go.Proofs.Ytdopbhbbpgfliaa.GrainL
set_option linter.unusedVariables false
set_option linter.unusedSimpArgs false
set_option maxHeartbeats 8000000
set_option maxRecDepth 100000
theorem many_one (dims : List ByteArray) : ∃ t, Ev (fun k => rickyardlaw15_Many.f k [⟨dims, 0, 0⟩]) t := by
  have h1 : ∀ d j : Nat, dims.length ≤ 20 → dims.length - j = d → ∃ t, Ev (fun k => rickyardlaw15_Many.l1 k [⟨dims, 0, 0⟩] 0 (j : Int)) t := by
    intro d
    induction d with
    | zero =>
      intro j h20 hd
      refine ⟨false, Ev.step (f := fun k => rickyardlaw15_Many.l0 k [⟨dims, 0, 0⟩] 1) (fun k => ?_) (Ev.step (f := fun _ => some false) (fun k => ?_) (Ev.now _))⟩
      · simp only [rickyardlaw15_Many.l1]
        rw [if_pos (by omega), if_pos (by simp), if_neg (show ¬ (j : Int) < (((rd_T63 [⟨dims, 0, 0⟩] 0).f0).length : Int) by show ¬ (j : Int) < (dims.length : Int); omega), show wrap64 ((0 : Int) + 1) = 1 from kw64o 0 (by omega)]
      · simp only [rickyardlaw15_Many.l0]
        rw [if_neg (by simp)]
    | succ d ih =>
      intro j h20 hd
      by_cases hs : ((rdOf ByteArray.empty dims (j : Int)).size : Int) > 100
      · refine ⟨true, Ev.step (f := fun _ => some true) (fun k => ?_) (Ev.now _)⟩
        simp only [rickyardlaw15_Many.l1]
        rw [if_pos (by omega), if_pos (by simp), if_pos (show (j : Int) < (((rd_T63 [⟨dims, 0, 0⟩] 0).f0).length : Int) by show (j : Int) < (dims.length : Int); omega), if_pos (by omega)]
        exact if_pos hs
      · obtain ⟨t, h⟩ := ih (j + 1) h20 (by omega)
        refine ⟨t, Ev.step (fun k => ?_) h⟩
        simp only [rickyardlaw15_Many.l1]
        rw [if_pos (by omega), if_pos (by simp), if_pos (show (j : Int) < (((rd_T63 [⟨dims, 0, 0⟩] 0).f0).length : Int) by show (j : Int) < (dims.length : Int); omega), if_pos (by omega), kw64o j (by omega)]
        exact if_neg hs
  unfold rickyardlaw15_Many.f
  by_cases h20 : (dims.length : Int) > 20
  · refine ⟨true, Ev.congr (g := fun k => if (([⟨dims, 0, 0⟩] : List S63).length : Int) > 60 then some true else rickyardlaw15_Many.l0 k [⟨dims, 0, 0⟩] 0) (fun k => if_neg (by simp)) (Ev.step (f := fun _ => some true) (fun k => ?_) (Ev.now _))⟩
    simp only [rickyardlaw15_Many.l0]
    rw [if_pos (by simp), if_pos (by omega)]
    exact if_pos h20
  · obtain ⟨t, h⟩ := h1 _ 0 (by omega) rfl
    refine ⟨t, Ev.congr (g := fun k => if (([⟨dims, 0, 0⟩] : List S63).length : Int) > 60 then some true else rickyardlaw15_Many.l0 k [⟨dims, 0, 0⟩] 0) (fun k => if_neg (by simp)) (Ev.step (fun k => ?_) h)⟩
    simp only [rickyardlaw15_Many.l0]
    rw [if_pos (by simp), if_pos (by omega)]
    exact if_neg h20
end Go.Proofs.Ytdopbhbbpgfliaa.PAsk
namespace Go.Proofs.Ytdopbhbbpgfliaa.Pure
open Go.RowKit Go.Proofs.YtdopbhbbpgfliaaW.PrintWords Go.Proofs.YtdopbhbbpgfliaaW.PrintLast Go.Proofs.YtdopbhbbpgfliaaW.PrintMore Go.Proofs.Ytdopbhbbpgfliaa.PAsk Go.Proofs.Ytdopbhbbpgfliaa.GrainM Go.Proofs.Ytdopbhbbpgfliaa.GrainL
end Go.Proofs.Ytdopbhbbpgfliaa.Pure
end
