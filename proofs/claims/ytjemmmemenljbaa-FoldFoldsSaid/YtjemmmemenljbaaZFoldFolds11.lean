import Derived.Test.YtjemmmemenljbaaZFoldFolds10
section
namespace Go.Proofs.Ytjemmmemenljbaa.PFold
open Go.RowKit Go.Proofs.YtjemmmemenljbaaW.PrintWords Go.Proofs.YtjemmmemenljbaaW.PrintLast Go.Proofs.YtjemmmemenljbaaW.PrintMore
attribute [local go_sem] max2_int min2_int max_two min_two max_three min_three max_four min_four   -- for this text's walks alone
set_option linter.unusedVariables false
set_option linter.unusedSimpArgs false
set_option maxHeartbeats 8000000
set_option maxRecDepth 100000
def rickyardref14_Put.l0 : Nat → List (S51) → Int → List Int → Int → Bool → Int → Int → Int → Int → Option ((List (S51)))
 | 0, _, _, _, _, _, _, _, _, _ => none
 | k + 1, x0, x5, x403000, x403001, x403002, x403003, x403004, x403005, x403006 => if x5 < (x0.length : Int) then (if 0 ≤ x5 then (if (Op.bytesLess ((strOfNums ((rd_T51 x0 x5).f0)).toList) ((strOfNums x403000).toList)) = true then (rickyardref14_Put.l0 k x0 (wrap64 (x5 + 1)) x403000 x403001 x403002 x403003 x403004 x403005 x403006) else (if x5 ≤ (x0.length : Int) then ((some (x0.take (x5 : Int).toNat : List (S51))).bind fun y404 => (if ([] : List (S51)).length + y404.length < 1954687338268 then ((some (([] : List (S51)) ++ y404 : List (S51))).bind fun y409 => (if (strOfNums ((rd_T51 x0 x5).f0)).toList = (strOfNums x403000).toList then ((rickyardref02_Merge.f k ((rd_T51 x0 x5).f1.f0) ((rd_T51 x0 x5).f1.f1) ((rd_T51 x0 x5).f1.f2.f0) ((rd_T51 x0 x5).f1.f2.f1) ((rd_T51 x0 x5).f1.f3) ((rd_T51 x0 x5).f1.f4) x403001 x403002 x403003 x403004 x403005 x403006).bind fun bt414 => (if y409.length < 1954687338268 then ((some (y409 ++ [(⟨x403000, (⟨bt414.1, bt414.2.1, (⟨bt414.2.2.1, bt414.2.2.2.1⟩ : S39), bt414.2.2.2.2.1, bt414.2.2.2.2.2⟩ : S41)⟩ : S51)] : List (S51))).bind fun y420 => (if 0 ≤ (wrap64 (x5 + 1)) then (if (wrap64 (x5 + 1)) ≤ (x0.length : Int) then ((some (x0.drop ((wrap64 (x5 + 1)) : Int).toNat : List (S51))).bind fun y423 => (if y420.length + y423.length < 1954687338268 then (some (y420 ++ y423)) else (none))) else (none)) else (none))) else (none))) else (if y409.length < 1954687338268 then ((some (y409 ++ [(⟨x403000, (⟨x403001, x403002, (⟨x403003, x403004⟩ : S39), x403005, x403006⟩ : S41)⟩ : S51)] : List (S51))).bind fun y431 => ((some (x0.drop (x5 : Int).toNat : List (S51))).bind fun y434 => (if y431.length + y434.length < 1954687338268 then (some (y431 ++ y434)) else (none)))) else (none)))) else (none))) else (none))) else (none)) else (if 0 ≤ x5 then (if x5 ≤ (x0.length : Int) then ((some (x0.take (x5 : Int).toNat : List (S51))).bind fun y442 => (if ([] : List (S51)).length + y442.length < 1954687338268 then ((some (([] : List (S51)) ++ y442 : List (S51))).bind fun y447 => (if y447.length < 1954687338268 then ((some (y447 ++ [(⟨x403000, (⟨x403001, x403002, (⟨x403003, x403004⟩ : S39), x403005, x403006⟩ : S41)⟩ : S51)] : List (S51))).bind fun y450 => ((some (x0.drop (x5 : Int).toNat : List (S51))).bind fun y453 => (if y450.length + y453.length < 1954687338268 then (some (y450 ++ y453)) else (none)))) else (none))) else (none))) else (none)) else (none))
def rickyardref14_Put.f (k : Nat) (l0 : List (S51)) (l1_0 : List Int) (a1_1 : Int) (a1_2 : Bool) (a1_3 : Int) (a1_4 : Int) (a1_5 : Int) (a1_6 : Int) : Option ((List (S51))) := rickyardref14_Put.l0 k l0 0 l1_0 a1_1 a1_2 a1_3 a1_4 a1_5 a1_6
def rickyardref14_Put.T2 : Bool × List (List Nat × List Nat) := (true, [([], []), ([], []), ([1], [1]), ([0, 2], [0, 2]), ([3], [3]), ([4], [4]), ([4], [4]), ([5, 6, 4], [4, 5, 6]), ([7, 4], [4, 7]), ([8, 4], [4, 8]), ([9, 4], [4, 9]), ([4], [4]), ([11, 4], [4, 11]), ([12, 4], [4, 12]), ([10, 13, 4], [4, 10, 13]), ([4, 14], [4, 14])])
def rickyardref14_Put.B2 : List Nat := [0, 0, 2, 7, 15, 31, 31, 127, 255, 511, 1023, 31, 2079, 6175, 16383, 32767]
theorem rickyardref14_Put.tab2 : rtab .any (opsOf Try.f48 2) = rickyardref14_Put.T2 := by kernel_rfl
theorem rickyardref14_Put.bits2 : waitsOk rickyardref14_Put.T2.2 rickyardref14_Put.B2 = true := by kernel_rfl
def rickyardref14_Put.T6 : Bool × List (List Nat × List Nat) := (true, [([], []), ([], []), ([1], [1]), ([0, 2], [0, 2]), ([3], [3]), ([4], [4]), ([4], [4]), ([5, 6, 4], [4, 5, 6]), ([7, 4], [4, 7]), ([8, 4], [4, 8]), ([9, 4], [4, 9]), ([4], [4]), ([11, 4], [4, 11]), ([12, 4], [4, 12]), ([10, 13, 4], [4, 10, 13]), ([4, 14], [4, 14])])
def rickyardref14_Put.B6 : List Nat := [0, 0, 2, 7, 15, 31, 31, 127, 255, 511, 1023, 31, 2079, 6175, 16383, 32767]
theorem rickyardref14_Put.tab6 : rtab .any (opsOf Try.f48 6) = rickyardref14_Put.T6 := by kernel_rfl
theorem rickyardref14_Put.bits6 : waitsOk rickyardref14_Put.T6.2 rickyardref14_Put.B6 = true := by kernel_rfl
def rickyardref14_Put.T7 : Bool × List (List Nat × List Nat) := (true, [([], []), ([], []), ([1], [1]), ([], []), ([], []), ([3, 4], [3, 4]), ([5], [5]), ([6], [6]), ([], []), ([8], [8]), ([7, 9], [7, 9]), ([2, 10], [2, 10]), ([11], [11]), ([0, 12, 10], [0, 12]), ([13, 13, 0, 1, 2, 3, 4, 5, 6, 7, 8, 9, 10, 11, 12, 13], [0, 13])])
def rickyardref14_Put.B7 : List Nat := [0, 0, 2, 0, 0, 24, 56, 120, 0, 256, 1016, 2046, 4094, 8191, 16383]
theorem rickyardref14_Put.tab7 : rtab .any (opsOf Try.f48 7) = rickyardref14_Put.T7 := by kernel_rfl
theorem rickyardref14_Put.bits7 : waitsOk rickyardref14_Put.T7.2 rickyardref14_Put.B7 = true := by kernel_rfl
theorem rickyardref14_Put.calls (k : Nat) (P0_ : Nat → Prop) (A0 : Option Addr) (c0 : Nat) (l0 : List (S51)) (P1_0_ : Nat → Prop) (A1_0 : Option Addr) (c1_0 : Nat) (l1_0 : List Int) (a1_1 : Int) (a1_2 : Bool) (a1_3 : Int) (a1_4 : Int) (a1_5 : Int) (a1_6 : Int) (r : List (S51)) (w : World) (hs0 : Kd.V k51 51 w w.heap.size (fun k_ => P0_ k_) (.slice A0 l0.length c0) l0) (hs1_0 : Kd.V (Kd.int .u8) 5 w w.heap.size (fun k_ => P1_0_ k_) (.slice A1_0 l1_0.length c1_0) l1_0) (h : rickyardref14_Put.f k l0 l1_0 a1_1 a1_2 a1_3 a1_4 a1_5 a1_6 = some r) :
  Calls Try.prog 48 #[.slice A0 l0.length c0, .agg #[.slice A1_0 l1_0.length c1_0, .int .u64 a1_1, .bool a1_2, .int .i64 a1_3, .int .u64 a1_4, .int .i64 a1_5, .int .i64 a1_6]] w fun e w' => ∃ v0_ : Value, e = .returned (v0_) ∧ Kd.N k51 51 w' w.heap.size (fun k_ => ((P0_ k_ ∨ P1_0_ k_) ∨ w.heap.size ≤ k_)) v0_ r ∧ Below w.heap.size w w' := by
 have hu51 := Try.underlying51
 have hu41 := Try.underlying41
 have HO0 := Aside0.mk (show Kd.V k51 51 w w.heap.size (fun k_ => ((P0_ k_ ∨ P1_0_ k_) ∨ w.heap.size ≤ k_)) (.slice A0 l0.length c0) l0 from Kd.V_mono hs0 (fun k_ hk => .inl (.inl hk)))
 have HO1_0 := Aside0.mk (show Kd.V (Kd.int .u8) 5 w w.heap.size (fun k_ => ((P0_ k_ ∨ P1_0_ k_) ∨ w.heap.size ≤ k_)) (.slice A1_0 l1_0.length c1_0) l1_0 from Kd.V_mono hs1_0 (fun k_ hk => .inl (.inr hk)))
 have HB := Aside0.mk (Below.refl w.heap.size w)
 have H : (rickyardref14_Put.l0 k l0 0 l1_0 a1_1 a1_2 a1_3 a1_4 a1_5 a1_6) = some r := h
 clear h
 have H' := Aside0.mk H
 clear H
 go_enter Try.func48, Try.ntmps48
 go_wp2_with (first | ((with_reducible refine gate_dst (N := 3) rfl ?_); refine boxA 3 #[.slice A1_0 l1_0.length c1_0, .int .u64 a1_1, .bool a1_2, .int .i64 a1_3, .int .u64 a1_4, .int .i64 a1_5, .int .i64 a1_6] 51 ?_; intro gb402 hg w3 hbox hb; have BK402 := Aside0.mk (hbox); have GE402 := ge1 hg (belA HB.out); replace HO0 := Aside0.mk (Kd.V_below (Kd.V_elderB (valA HO0.out) gb402 (Nat.le_of_eq hg.symm)) hb); replace HO1_0 := Aside0.mk (Kd.V_below (Kd.V_elderB (valA HO1_0.out) gb402 (Nat.le_of_eq hg.symm)) hb); replace HB := bst HB hb; clear hb hbox hg))
 go_loopg [5] k (fun kq v5 w' => ∃ (x5_1 : Int), v5 = .int .i64 x5_1 ∧ Aside0 (rickyardref14_Put.l0 kq l0 x5_1 l1_0 a1_1 a1_2 a1_3 a1_4 a1_5 a1_6 = some r) ∧ Aside0 (kq ≤ k) ∧ Aside0 (Kd.V k51 51 w' w.heap.size (fun k_ => ((P0_ k_ ∨ P1_0_ k_) ∨ w.heap.size ≤ k_) ∧ k_ ≠ gb402) (.slice A0 l0.length c0) l0) ∧ Aside0 (Kd.V (Kd.int .u8) 5 w' w.heap.size (fun k_ => ((P0_ k_ ∨ P1_0_ k_) ∨ w.heap.size ≤ k_) ∧ k_ ≠ gb402) (.slice A1_0 l1_0.length c1_0) l1_0) ∧ Aside0 (w'.heap[gb402]? = some (.cells #[(.slice A1_0 l1_0.length c1_0), .int .u64 a1_1, .bool a1_2, .int .i64 a1_3, .int .u64 a1_4, .int .i64 a1_5, .int .i64 a1_6] 51 (0, 0))) ∧ Aside0 (Below w.heap.size w w'))
 case atStart => exact ⟨(0), relA, H', ⟨Nat.le_refl _⟩, ⟨valA HO0.out⟩, ⟨valA HO1_0.out⟩, ⟨blkA BK402.out⟩, ⟨belB HB.out GE402.out⟩⟩
 case round =>
  clear H'
  try clear c1
  try clear p2
  obtain ⟨x5_1, rfl, HA, HK1, HO_0, HO_403000, BK402, HB⟩ := hrel
  cases gk with
  | zero => exact absurd HA.out (by simp [rickyardref14_Put.l0])
  | succ k1 =>
   have H := HA.out
   clear HA
   simp only [rickyardref14_Put.l0] at H
   by_cases c4 : x5_1 < (l0.length : Int)
   rotate_left
   ·rw [if_neg c4] at H
    have c4b0 := decide_eq_false c4
    clear c4
    replace H := ifN H
    obtain ⟨c59, H⟩ := H
    have c59b0 := eq_true c59
    have c59b1 := decide_eq_true c59
    clear c59
    replace H := ifN H
    obtain ⟨c60, H⟩ := H
    have c60b0 := eq_true c60
    have c60b1 := decide_eq_true c60
    clear c60
    obtain ⟨y442, hy442⟩ : ∃ y_ : List (S51), y_ = (l0.take (x5_1 : Int).toNat) := ⟨_, rfl⟩
    replace H : (if ([] : List (S51)).length + y442.length < 1954687338268 then ((some (([] : List (S51)) ++ y442 : List (S51))).bind fun y447 => (if y447.length < 1954687338268 then ((some (y447 ++ [(⟨l1_0, (⟨a1_1, a1_2, (⟨a1_3, a1_4⟩ : S39), a1_5, a1_6⟩ : S41)⟩ : S51)] : List (S51))).bind fun y450 => ((some (l0.drop (x5_1 : Int).toNat : List (S51))).bind fun y453 => (if y450.length + y453.length < 1954687338268 then (some (y450 ++ y453)) else (none)))) else (none))) else (none)) = some r := nmA hy442 H
    have Ny442 := Aside0.mk hy442
    clear hy442
    replace H := ifN H
    obtain ⟨c61, H⟩ := H
    have LMc61 := Aside0.mk c61
    clear c61
    obtain ⟨y447, hy447⟩ : ∃ y_ : List (S51), y_ = (([] : List (S51)) ++ y442) := ⟨_, rfl⟩
    replace H : (if y447.length < 1954687338268 then ((some (y447 ++ [(⟨l1_0, (⟨a1_1, a1_2, (⟨a1_3, a1_4⟩ : S39), a1_5, a1_6⟩ : S41)⟩ : S51)] : List (S51))).bind fun y450 => ((some (l0.drop (x5_1 : Int).toNat : List (S51))).bind fun y453 => (if y450.length + y453.length < 1954687338268 then (some (y450 ++ y453)) else (none)))) else (none)) = some r := nmA hy447 H
    have Ny447 := Aside0.mk hy447
    clear hy447
    replace H := ifN H
    obtain ⟨c62, H⟩ := H
    have LMc62 := Aside0.mk c62
    clear c62
    obtain ⟨y450, hy450⟩ : ∃ y_ : List (S51), y_ = (y447 ++ [(⟨l1_0, (⟨a1_1, a1_2, (⟨a1_3, a1_4⟩ : S39), a1_5, a1_6⟩ : S41)⟩ : S51)]) := ⟨_, rfl⟩
    replace H : ((some (l0.drop (x5_1 : Int).toNat : List (S51))).bind fun y453 => (if y450.length + y453.length < 1954687338268 then (some (y450 ++ y453)) else (none))) = some r := nmA hy450 H
    have Ny450 := Aside0.mk hy450
    clear hy450
    have c63b0 := eq_true (of_decide_eq_true asmA : 0 ≤ x5_1)
    have c64b0 := eq_true (of_decide_eq_true asmA : x5_1 ≤ (l0.length : Int))
    obtain ⟨y453, hy453⟩ : ∃ y_ : List (S51), y_ = (l0.drop (x5_1 : Int).toNat) := ⟨_, rfl⟩
    replace H : (if y450.length + y453.length < 1954687338268 then (some (y450 ++ y453)) else (none)) = some r := nmA hy453 H
    have Ny453 := Aside0.mk hy453
    clear hy453
    replace H := ifN H
    obtain ⟨c65, H⟩ := H
    have LMc65 := Aside0.mk c65
    clear c65
    obtain ⟨y458, hy458⟩ : ∃ y_ : List (S51), y_ = (y450 ++ y453) := ⟨_, rfl⟩
    replace H : (some y458) = some r := nmA hy458 H
    have Ny458 := Aside0.mk hy458
    clear hy458
    obtain rfl := Option.some.inj H
    try go_wp2
    replace HO_0 := Aside0.mk (Kd.V_drew HO_0.out)
    replace HO_403000 := Aside0.mk (Kd.V_drew HO_403000.out)
    replace BK402 := Aside0.mk (blk_drew BK402.out)
    replace HB := Aside0.mk (below_drew1 HB.out)
    refine start_ (n := 16) (S := fun w' => True) (ds := []) #[false, false, false, false, false, false, false, false, false, false, false, false, false, false, false, false] (by kernel_rfl) rfl rfl trivial (fun hHeld => ?_); refine with_tabW rickyardref14_Put.tab2 rickyardref14_Put.bits2 (fun HT_ HW_ => ?_)
    generalize wr.drew = w66 at HO_0 HO_403000 BK402 HB hHeld ⊢
    refine pureD 0 7 HT_ ?_
    refine pureD 1 8 HT_ ?_
    refine pureD 2 9 HT_ ?_
    refine pureD 3 10 HT_ ?_
    refine pureD 4 11 HT_ ?_
    refine pureU 5 12 HT_ ?_
    refine pureU 6 13 HT_ ?_
    refine pureU 7 14 HT_ ?_
    refine pureU 8 15 HT_ ?_
    refine pureU 9 16 HT_ ?_
    refine pureU 10 17 HT_ ?_
    refine pureU 11 18 HT_ ?_
    refine pureU 12 19 HT_ ?_
    refine pureU 13 20 HT_ ?_
    refine pureU 14 21 HT_ ?_
    refine pureD 15 22 HT_ ?_
    refine done_ (done_of HT_.out (by kernel_rfl)) ?_
    have q67 : (x5_1 : Int) ≤ ((l0.length : Int) : Int) := of_decide_eq_true asmA
    obtain ⟨i067, hi067, _, hsz67, _⟩ := info_parts info51
    have hroom67 : l0.length ≤ c0 := (Kd.V_reads' HO_0.out).2.1
    have hC67 : Kd.F k51 _ _ A0 l0.length l0 := (Kd.V_at (base := w.heap.size) HO_0.out).2.2
    have hcut67 := cut_to (P := Try.prog) 28 51 .i64 Try.underlying28 hi067 A0 l0.length c0 x5_1 (of_decide_eq_true asmA) q67 hroom67
    have hr67 := Kd.F_take (m := (x5_1 : Int).toNat) hC67 (by omega)
    have hy67 : y442.length = (x5_1 : Int).toNat := (by rw [Ny442.out, List.length_take]; omega)
    rw [← Ny442.out] at hr67
    rw [← hy67] at hcut67
    have HO446 := Aside0.mk (show Kd.V k51 51 _ w.heap.size _ (.slice A0 y442.length c0) y442 from Kd.V_mk (by omega) hr67)
    have HC446 := Aside0.mk (show y442.length ≤ c0 from by omega)
    clear hr67 hC67 hroom67 hi067 hsz67
    have KY67 := Aside0.mk hy67
    clear hy67
    replace q67 := eq_true q67
    try go_wp2_with (first | ((with_reducible refine gate_builtin (b := .append) (xs := #[.tmp 25, .tmp 28]) rfl ?_); at_builtin; refine Kd.N_append_rows k51 (w0 := w) w.heap.size rfl (.tmp 25) (.tmp 28) 28 51 (.agg #[(.slice none 0 0), (.int .u64 0), (.bool false), (.int .i64 0), (.int .u64 0), (.int .i64 0), (.int .i64 0)]) 72 rfl Try.underlying28 info51 rfl (by decide) (by omega) (.slice none 0 0) ([] : List (S51)) y442 _ _ _ (fun k_ => ((P0_ k_ ∨ P1_0_ k_) ∨ w.heap.size ≤ k_) ∧ k_ ≠ gb402) (fun k_ => ((fun k_ => ((P0_ k_ ∨ P1_0_ k_) ∨ w.heap.size ≤ k_) ∧ k_ ≠ gb402)) k_ ∧ some k_ ≠ (.slice none 0 0 : Value).ownBlock) rfl rfl ?aO ?aR (fun _ hk => hk) ?aF ?aB ?aS ?aL ?_; (case aR => exact (by skip; exact Kd.V_F (Kd.V_mono (ok' := (fun k_ => ((fun k_ => ((P0_ k_ ∨ P1_0_ k_) ∨ w.heap.size ≤ k_) ∧ k_ ≠ gb402)) k_ ∧ some k_ ≠ (.slice none 0 0 : Value).ownBlock)) (HO446.out) (fun k_ hk => ⟨⟨hk.1, hk.2⟩, (by simp [Value.ownBlock])⟩)))); (case aB => exact (belB HB.out GE402.out)); (case aF => exact (fun k_ hk => ⟨(.inr (Nat.le_trans (below_size (belB HB.out GE402.out)) hk)), frB BK402 k_ hk⟩)); (case aO => exact ((Kd.N_nil _ _ _ _ (fun k_ => ((P0_ k_ ∨ P1_0_ k_) ∨ w.heap.size ≤ k_) ∧ k_ ≠ gb402)))); (case aS => exact (below_size (belB HB.out GE402.out))); (case aL => have := LMc61.out; omega); intro v448 w68 ho hb hg hat; rw [← Ny447.out] at ho; have HO449 := Aside0.mk (ho); replace HO_0 := Aside0.mk (Kd.V_afterv (Kd.V_apart_nil (valA HO_0.out)) hg hat); replace HO_403000 := Aside0.mk (Kd.V_afterv (Kd.V_apart_nil (valA HO_403000.out)) hg hat); replace BK402 := grB BK402 hg (hne := (by simp [Value.ownBlock])); replace HO446 := Aside0.mk (Kd.V_afterv (Kd.V_apart_nil (valA HO446.out)) hg hat); replace HB := Aside0.mk (hb); clear ho hb hg hat))
    replace HO_0 := Aside0.mk (Kd.V_drew HO_0.out)
    replace HO_403000 := Aside0.mk (Kd.V_drew HO_403000.out)
    replace HO446 := Aside0.mk (Kd.V_drew HO446.out)
    replace HO449 := Aside0.mk (Kd.N_drew HO449.out)
    replace BK402 := Aside0.mk (blk_drew BK402.out)
    replace HB := Aside0.mk (below_drew1 HB.out)
    refine start_ (n := 16) (S := fun w' => True) (ds := []) #[false, false, false, false, false, false, false, false, false, false, false, false, false, false, false, false] (by kernel_rfl) rfl rfl trivial (fun hHeld => ?_); refine with_tabW rickyardref14_Put.tab6 rickyardref14_Put.bits6 (fun HT_ HW_ => ?_)
    generalize w68.drew = w69 at HO_0 HO_403000 HO446 HO449 BK402 HB hHeld ⊢
    refine pureD 0 30 HT_ ?_
    refine pureD 1 31 HT_ ?_
    refine pureD 2 32 HT_ ?_
    refine pureD 3 33 HT_ ?_
    refine pureD 4 34 HT_ ?_
    refine pureU 5 35 HT_ ?_
    refine pureU 6 36 HT_ ?_
    refine pureU 7 37 HT_ ?_
    refine pureU 8 38 HT_ ?_
    refine pureU 9 39 HT_ ?_
    refine pureU 10 40 HT_ ?_
    refine pureU 11 41 HT_ ?_
    refine pureU 12 42 HT_ ?_
    refine pureU 13 43 HT_ ?_
    refine pureU 14 44 HT_ ?_
    refine pureD 15 45 HT_ ?_
    refine done_ (done_of HT_.out (by kernel_rfl)) ?_
    obtain ⟨hcz70_0, hcz70_1, hcz70_2, hcz70_3, hcz70_4, hcz70_5, hcz70_6, hfz70_0, hfz70_1, hfz70_2, hfz70_3, hfz70_4, hfz70_5, hfz70_6⟩ := blk7 BK402
    try go_wp2_with (first | ((with_reducible refine gate_builtin (b := .append) (xs := #[.tmp 66, .tmp 68]) rfl ?_); at_builtin; refine Kd.N_append k51 (w0 := w) w.heap.size rfl (.tmp 66) (.tmp 68) 28 51 (.agg #[(.slice none 0 0), (.int .u64 0), (.bool false), (.int .i64 0), (.int .u64 0), (.int .i64 0), (.int .i64 0)]) 72 rfl Try.underlying28 info51 rfl (by decide) (by omega) v448 y447 (⟨l1_0, (⟨a1_1, a1_2, (⟨a1_3, a1_4⟩ : S39), a1_5, a1_6⟩ : S41)⟩ : S51) [.slice A1_0 l1_0.length c1_0, .int .u64 a1_1, .bool a1_2, .int .i64 a1_3, .int .u64 a1_4, .int .i64 a1_5, .int .i64 a1_6] (fun k_ => ((P0_ k_ ∨ P1_0_ k_) ∨ w.heap.size ≤ k_) ∧ k_ ≠ gb402) (fun k_ => ((fun k_ => ((P0_ k_ ∨ P1_0_ k_) ∨ w.heap.size ≤ k_) ∧ k_ ≠ gb402)) k_ ∧ some k_ ≠ (v448 : Value).ownBlock) rfl rfl ?aP (fun _ hk => hk) ?aF ?aO ?aB ?aS ?aL ?_; (case aP => exact (k51_mkF _ _ (⟨l1_0, (⟨a1_1, a1_2, (⟨a1_3, a1_4⟩ : S39), a1_5, a1_6⟩ : S41)⟩ : S51) (Kd.V_reads' (Kd.V_mono (ok' := (fun k_ => ((fun k_ => ((P0_ k_ ∨ P1_0_ k_) ∨ w.heap.size ≤ k_) ∧ k_ ≠ gb402)) k_ ∧ some k_ ≠ (v448 : Value).ownBlock)) (HO_403000.out) (fun k_ hk => by first | exact ⟨⟨hk.1.1, hk.1.2⟩, hk.2⟩ | exact hk | (simp_all; done)))).2.1 (Kd.V_F (Kd.V_mono (ok' := (fun k_ => ((fun k_ => ((P0_ k_ ∨ P1_0_ k_) ∨ w.heap.size ≤ k_) ∧ k_ ≠ gb402)) k_ ∧ some k_ ≠ (v448 : Value).ownBlock)) (HO_403000.out) (fun k_ hk => by first | exact ⟨⟨hk.1.1, hk.1.2⟩, hk.2⟩ | exact hk | (simp_all; done)))))); (case aB => exact (belB HB.out GE402.out)); (case aF => exact (fun k_ hk => ⟨(.inr (Nat.le_trans (below_size (belB HB.out GE402.out)) hk)), frB BK402 k_ hk⟩)); (case aO => exact (nilA HO449.out)); (case aS => exact (below_size (belB HB.out GE402.out))); (case aL => have := LMc62.out; omega); intro v451 w71 ho hb hg hat; rw [← Ny450.out] at ho; have HO452 := Aside0.mk (ho); replace HO_0 := Aside0.mk (Kd.V_afterv (ok := (fun k_ => ((P0_ k_ ∨ P1_0_ k_) ∨ w.heap.size ≤ k_) ∧ k_ ≠ gb402)) (valA HO_0.out) hg hat); replace HO_403000 := Aside0.mk (Kd.V_afterv (ok := (fun k_ => ((P0_ k_ ∨ P1_0_ k_) ∨ w.heap.size ≤ k_) ∧ k_ ≠ gb402)) (valA HO_403000.out) hg hat); replace BK402 := grB BK402 hg (hne := (Kd.N_away HO449.out (fun _ hk => by first | exact hk.2 | exact hk | (simp_all; done)))); replace HO446 := Aside0.mk (Kd.V_afterv (ok := (fun k_ => ((P0_ k_ ∨ P1_0_ k_) ∨ w.heap.size ≤ k_) ∧ k_ ≠ gb402)) (valA HO446.out) hg hat); replace HB := Aside0.mk (hb); clear HO449; clear ho hb hg hat; have q72 : (x5_1 : Int) ≤ ((l0.length : Int) : Int) := of_decide_eq_true asmA; obtain ⟨i072, hi072, _, hsz72, _⟩ := info_parts info51; have hroom72 : l0.length ≤ c0 := (Kd.V_reads' HO_0.out).2.1; have hC72 : Kd.F k51 _ _ A0 l0.length l0 := (Kd.V_at (base := w.heap.size) HO_0.out).2.2; have q072 : (0 : Int) ≤ (x5_1 : Int) := of_decide_eq_true asmA; have hcut72 := cut_from (P := Try.prog) 28 51 .i64 Try.underlying28 hi072 7 hsz72 A0 l0.length c0 x5_1 q072 q72; have hr72 := Kd.F_cut (m := (x5_1 : Int).toNat) (c := c0) hC72 (by omega) hroom72; obtain ⟨A72, hA72⟩ : ∃ A1, A1 = (if c0 = (x5_1 : Int).toNat then A0 else (A0 : Option Addr).map (·.add ((x5_1 : Int).toNat * 7))) := ⟨_, rfl⟩; obtain ⟨c72, hc72⟩ : ∃ c1, c1 = c0 - (x5_1 : Int).toNat := ⟨_, rfl⟩; have hy72 : y453.length = l0.length - (x5_1 : Int).toNat := (by rw [Ny453.out, List.length_drop] <;> omega); rw [show (l0).drop (x5_1 : Int).toNat = y453 from Ny453.out.symm] at hr72; replace hr72 : Kd.F k51 _ _ A72 y453.length y453 := (by rw [hA72]; exact hr72); rw [← hy72, ← hA72, ← hc72] at hcut72; have HO457 := Aside0.mk (show Kd.V k51 51 _ w.heap.size _ (.slice A72 y453.length c72) y453 from Kd.V_mk (by rw [hy72, hc72]; exact Nat.sub_le_sub_right hroom72 _) hr72); have HC457 := Aside0.mk (show y453.length ≤ c72 from by rw [hy72, hc72]; exact Nat.sub_le_sub_right hroom72 _); clear hr72 hC72 hroom72 hi072 hsz72 hc72; have KY72 := Aside0.mk hy72; have KA72 := Aside0.mk hA72; clear hy72 hA72; replace q72 := eq_true q72) | ((with_reducible refine gate_builtin (b := .append) (xs := #[.tmp 70, .tmp 73]) rfl ?_); at_builtin; refine Kd.N_append_rows k51 (w0 := w) w.heap.size rfl (.tmp 70) (.tmp 73) 28 51 (.agg #[(.slice none 0 0), (.int .u64 0), (.bool false), (.int .i64 0), (.int .u64 0), (.int .i64 0), (.int .i64 0)]) 72 rfl Try.underlying28 info51 rfl (by decide) (by omega) v451 y450 y453 _ _ _ (fun k_ => ((P0_ k_ ∨ P1_0_ k_) ∨ w.heap.size ≤ k_) ∧ k_ ≠ gb402) (fun k_ => ((fun k_ => ((P0_ k_ ∨ P1_0_ k_) ∨ w.heap.size ≤ k_) ∧ k_ ≠ gb402)) k_ ∧ some k_ ≠ (v451 : Value).ownBlock) rfl rfl ?aO ?aR (fun _ hk => hk) ?aF ?aB ?aS ?aL ?_; (case aR => exact (by skip; exact Kd.V_F (Kd.V_mono (ok' := (fun k_ => ((fun k_ => ((P0_ k_ ∨ P1_0_ k_) ∨ w.heap.size ≤ k_) ∧ k_ ≠ gb402)) k_ ∧ some k_ ≠ (v451 : Value).ownBlock)) (HO457.out) (fun k_ hk => by first | exact ⟨⟨hk.1.1, hk.1.2⟩, hk.2⟩ | exact hk | (simp_all; done))))); (case aB => exact (belB HB.out GE402.out)); (case aF => exact (fun k_ hk => ⟨(.inr (Nat.le_trans (below_size (belB HB.out GE402.out)) hk)), frB BK402 k_ hk⟩)); (case aO => exact (nilA HO452.out)); (case aS => exact (below_size (belB HB.out GE402.out))); (case aL => have := LMc65.out; omega); intro v459 w73 ho hb hg hat; rw [← Ny458.out] at ho; have HO460 := Aside0.mk (ho); replace HO_0 := Aside0.mk (Kd.V_afterv (ok := (fun k_ => ((P0_ k_ ∨ P1_0_ k_) ∨ w.heap.size ≤ k_) ∧ k_ ≠ gb402)) (valA HO_0.out) hg hat); replace HO_403000 := Aside0.mk (Kd.V_afterv (ok := (fun k_ => ((P0_ k_ ∨ P1_0_ k_) ∨ w.heap.size ≤ k_) ∧ k_ ≠ gb402)) (valA HO_403000.out) hg hat); replace BK402 := grB BK402 hg (hne := (Kd.N_away HO452.out (fun _ hk => by first | exact hk.2 | exact hk | (simp_all; done)))); replace HO446 := Aside0.mk (Kd.V_afterv (ok := (fun k_ => ((P0_ k_ ∨ P1_0_ k_) ∨ w.heap.size ≤ k_) ∧ k_ ≠ gb402)) (valA HO446.out) hg hat); replace HO457 := Aside0.mk (Kd.V_afterv (ok := (fun k_ => ((P0_ k_ ∨ P1_0_ k_) ∨ w.heap.size ≤ k_) ∧ k_ ≠ gb402)) (valA HO457.out) hg hat); replace HB := Aside0.mk (hb); clear HO452; clear ho hb hg hat))
    go_ret
    exact ⟨_, ret1, by (with_reducible repeat (first | apply Kd.N_alloc | apply Kd.N_drewN | apply Kd.N_drew)); exact Kd.N_mono HO460.out (fun _ hk => by first | exact hk.1 | exact hk | (simp_all; done)), belB HB.out GE402.out⟩
   rw [if_pos c4] at H
   have c4b0 := decide_eq_true c4
   clear c4
   replace H := ifN H
   obtain ⟨c5, H⟩ := H
   have c5b0 := decide_eq_true c5
   clear c5
   by_cases c6 : (Op.bytesLess ((strOfNums ((rd_T51 l0 x5_1).f0)).toList) ((strOfNums l1_0).toList)) = true
   ·rw [if_pos c6] at H
    have c6b0 : (Op.bytesLess ((strOfNums ((rd_T51 l0 x5_1).f0)).toList) ((strOfNums l1_0).toList)) = true := c6
    clear c6
    have H' := Aside0.mk H
    clear H
    try go_wp2
    replace HO_0 := Aside0.mk (Kd.V_drew HO_0.out)
    replace HO_403000 := Aside0.mk (Kd.V_drew HO_403000.out)
    replace BK402 := Aside0.mk (blk_drew BK402.out)
    replace HB := Aside0.mk (below_drew1 HB.out)
    have p403 : 0 ≤ (x5_1 : Int) := of_decide_eq_true asmA
    have q403 : x5_1 < (l0.length : Int) := of_decide_eq_true asmA
    obtain ⟨ad403, A403_0, c403_0, e403, hx403_0, hx403_1, hx403_2, hx403_3, hx403_4, hx403_5, hx403_6, hl403_0, hi403_0⟩ := at_T51 (Kd.V_reads' HO_0.out).2.2 x5_1 p403 q403
    cases e403
    obtain ⟨ce403, hce403, hMe403, hcc403⟩ := Kd.V_get HO_0.out z51 x5_1 p403 (by first | exact q403 | exact of_decide_eq_true asmA | (have e_ := (Kd.V_reads' HO_0.out).1; omega))
    obtain ⟨ua403_0, uc403_0, rfl, ul403_0, ge403_0⟩ := k51_openF hMe403
    have hv403_0 := hcc403 0 _ rfl
    rw [Nat.add_zero] at hv403_0
    replace hv403_0 := Option.some.inj (hv403_0.symm.trans hx403_0)
    injection hv403_0 with hva_ hvn_ hvc_
    rw [hva_] at ge403_0
    rw [hvc_] at ul403_0
    have HL403_0 := Aside0.mk (show Kd.V (Kd.int .u8) 5 _ w.heap.size _ _ ((rd_T51 l0 x5_1).f0) from Kd.V_mk ul403_0 ge403_0)
    clear hva_ hvn_ hvc_ ge403_0 ul403_0
    clear hcc403 hce403
    have HR403_0 := Aside0.mk hi403_0
    have HC403_0 := Aside0.mk hl403_0
    clear hi403_0 hl403_0
    replace p403 := eq_true p403
    replace q403 := eq_true q403
    have hcv8 := Kd.C_string (P := Try.prog) (A := A403_0) (c := c403_0) Try.underlying49 Try.underlying5 Try.underlying9 (celA HR403_0.out)
    have hcv9 := fun (n_ : Nat) => Kd.C_string (P := Try.prog) (A := A403_0) (c := c403_0) Try.underlying49 Try.underlying5 Try.underlying9 (Kd.C_drewN (celA HR403_0.out) n_)
    have hcv10 := Kd.C_string (P := Try.prog) (A := A1_0) (c := c1_0) Try.underlying49 Try.underlying5 Try.underlying9 (Kd.V_reads' HO_403000.out).2.2
    refine start_ (n := 16) (S := fun w' => w'.cell? ⟨gb402, 0, none⟩ = some (.slice A1_0 l1_0.length c1_0) ∧ w'.cell? ⟨gb402, 1, none⟩ = some (.int .u64 a1_1) ∧ w'.cell? ⟨gb402, 2, none⟩ = some (.bool a1_2) ∧ w'.cell? ⟨gb402, 3, none⟩ = some (.int .i64 a1_3) ∧ w'.cell? ⟨gb402, 4, none⟩ = some (.int .u64 a1_4) ∧ w'.cell? ⟨gb402, 5, none⟩ = some (.int .i64 a1_5) ∧ w'.cell? ⟨gb402, 6, none⟩ = some (.int .i64 a1_6) ∧ w'.cell? (ad403.add ((x5_1).toNat * 7)) = some (.slice A403_0 ((rd_T51 l0 x5_1).f0).length c403_0) ∧ w'.cell? ⟨(ad403.add ((x5_1).toNat * 7)).block, (ad403.add ((x5_1).toNat * 7)).off + 1, none⟩ = some (.int .u64 ((rd_T51 l0 x5_1).f1.f0)) ∧ w'.cell? ⟨(ad403.add ((x5_1).toNat * 7)).block, (ad403.add ((x5_1).toNat * 7)).off + 2, none⟩ = some (.bool ((rd_T51 l0 x5_1).f1.f1)) ∧ w'.cell? ⟨(ad403.add ((x5_1).toNat * 7)).block, (ad403.add ((x5_1).toNat * 7)).off + 3, none⟩ = some (.int .i64 ((rd_T51 l0 x5_1).f1.f2.f0)) ∧ w'.cell? ⟨(ad403.add ((x5_1).toNat * 7)).block, (ad403.add ((x5_1).toNat * 7)).off + 4, none⟩ = some (.int .u64 ((rd_T51 l0 x5_1).f1.f2.f1)) ∧ w'.cell? ⟨(ad403.add ((x5_1).toNat * 7)).block, (ad403.add ((x5_1).toNat * 7)).off + 5, none⟩ = some (.int .i64 ((rd_T51 l0 x5_1).f1.f3)) ∧ w'.cell? ⟨(ad403.add ((x5_1).toNat * 7)).block, (ad403.add ((x5_1).toNat * 7)).off + 6, none⟩ = some (.int .i64 ((rd_T51 l0 x5_1).f1.f4)) ∧ (convert 49 9 (.slice A403_0 ((rd_T51 l0 x5_1).f0).length c403_0)).run Try.prog w' = .ok (.string (strOfNums ((rd_T51 l0 x5_1).f0))) w' ∧ (convert 49 9 (.slice A1_0 (l1_0).length c1_0)).run Try.prog w' = .ok (.string (strOfNums (l1_0))) w') (ds := []) #[false, false, false, false, false, false, false, false, false, false, false, false, false, false, false, false] (by kernel_rfl) rfl rfl ⟨(blk_cell BK402.out 0).trans rfl, (blk_cell BK402.out 1).trans rfl, (blk_cell BK402.out 2).trans rfl, (blk_cell BK402.out 3).trans rfl, (blk_cell BK402.out 4).trans rfl, (blk_cell BK402.out 5).trans rfl, (blk_cell BK402.out 6).trans rfl, hx403_0, hx403_1, hx403_2, hx403_3, hx403_4, hx403_5, hx403_6, (Kd.C_string (P := Try.prog) (A := A403_0) (c := c403_0) Try.underlying49 Try.underlying5 Try.underlying9 (celA HR403_0.out)), (Kd.C_string (P := Try.prog) (A := A1_0) (c := c1_0) Try.underlying49 Try.underlying5 Try.underlying9 (Kd.V_reads' HO_403000.out).2.2)⟩ (fun hHeld => ?_); refine with_tabW rickyardref14_Put.tab2 rickyardref14_Put.bits2 (fun HT_ HW_ => ?_)
    generalize wr.drew = w7 at HO_0 HO_403000 BK402 HB HL403_0 HR403_0 hx403_0 hx403_1 hx403_2 hx403_3 hx403_4 hx403_5 hx403_6 hHeld ⊢
    refine pureD 0 7 HT_ ?_
    refine pureD 1 8 HT_ ?_
    refine pureD 2 9 HT_ ?_
    refine pureD 3 10 HT_ ?_
    refine pureD 4 11 HT_ ?_
    refine pureD 5 12 HT_ ?_
    refine pureD 6 13 HT_ ?_
    refine pureD 7 14 HT_ ?_
    refine pureD 8 15 HT_ ?_
    refine pureD 11 18 HT_ ?_
    refine takeD 9 16 HT_ HW_ hHeld ?_
    refine takeD 10 17 HT_ HW_ hHeld ?_
    refine takeD 12 19 HT_ HW_ hHeld ?_
    refine takeD 13 20 HT_ HW_ hHeld ?_
    refine pureD 14 21 HT_ ?_
    refine pureD 15 22 HT_ ?_
    refine done_ (done_of HT_.out (by kernel_rfl)) ?_
    try go_wp2
    go_roundg k1
    case measure => have := HK1.out; omega
    case rel => exact ⟨(wrap64 (x5_1 + 1)), relA, H', ⟨by have := HK1.out; omega⟩, ⟨valA HO_0.out⟩, ⟨valA HO_403000.out⟩, ⟨blkA BK402.out⟩, ⟨belB HB.out GE402.out⟩⟩
   rw [if_neg c6] at H
   have c6b0 : (Op.bytesLess ((strOfNums ((rd_T51 l0 x5_1).f0)).toList) ((strOfNums l1_0).toList)) = false := by simpa using c6
   clear c6
   have c12b0 := eq_true (of_decide_eq_true asmA : 0 ≤ x5_1)
   replace H := ifN H
   obtain ⟨c13, H⟩ := H
   have c13b0 := eq_true c13
   have c13b1 := decide_eq_true c13
   clear c13
   obtain ⟨y404, hy404⟩ : ∃ y_ : List (S51), y_ = (l0.take (x5_1 : Int).toNat) := ⟨_, rfl⟩
   replace H : (if ([] : List (S51)).length + y404.length < 1954687338268 then ((some (([] : List (S51)) ++ y404 : List (S51))).bind fun y409 => (if (strOfNums ((rd_T51 l0 x5_1).f0)).toList = (strOfNums l1_0).toList then ((rickyardref02_Merge.f k1 ((rd_T51 l0 x5_1).f1.f0) ((rd_T51 l0 x5_1).f1.f1) ((rd_T51 l0 x5_1).f1.f2.f0) ((rd_T51 l0 x5_1).f1.f2.f1) ((rd_T51 l0 x5_1).f1.f3) ((rd_T51 l0 x5_1).f1.f4) a1_1 a1_2 a1_3 a1_4 a1_5 a1_6).bind fun bt414 => (if y409.length < 1954687338268 then ((some (y409 ++ [(⟨l1_0, (⟨bt414.1, bt414.2.1, (⟨bt414.2.2.1, bt414.2.2.2.1⟩ : S39), bt414.2.2.2.2.1, bt414.2.2.2.2.2⟩ : S41)⟩ : S51)] : List (S51))).bind fun y420 => (if 0 ≤ (wrap64 (x5_1 + 1)) then (if (wrap64 (x5_1 + 1)) ≤ (l0.length : Int) then ((some (l0.drop ((wrap64 (x5_1 + 1)) : Int).toNat : List (S51))).bind fun y423 => (if y420.length + y423.length < 1954687338268 then (some (y420 ++ y423)) else (none))) else (none)) else (none))) else (none))) else (if y409.length < 1954687338268 then ((some (y409 ++ [(⟨l1_0, (⟨a1_1, a1_2, (⟨a1_3, a1_4⟩ : S39), a1_5, a1_6⟩ : S41)⟩ : S51)] : List (S51))).bind fun y431 => ((some (l0.drop (x5_1 : Int).toNat : List (S51))).bind fun y434 => (if y431.length + y434.length < 1954687338268 then (some (y431 ++ y434)) else (none)))) else (none)))) else (none)) = some r := nmA hy404 H
   have Ny404 := Aside0.mk hy404
   clear hy404
   replace H := ifN H
   obtain ⟨c14, H⟩ := H
   have LMc14 := Aside0.mk c14
   clear c14
   obtain ⟨y409, hy409⟩ : ∃ y_ : List (S51), y_ = (([] : List (S51)) ++ y404) := ⟨_, rfl⟩
   replace H : (if (strOfNums ((rd_T51 l0 x5_1).f0)).toList = (strOfNums l1_0).toList then ((rickyardref02_Merge.f k1 ((rd_T51 l0 x5_1).f1.f0) ((rd_T51 l0 x5_1).f1.f1) ((rd_T51 l0 x5_1).f1.f2.f0) ((rd_T51 l0 x5_1).f1.f2.f1) ((rd_T51 l0 x5_1).f1.f3) ((rd_T51 l0 x5_1).f1.f4) a1_1 a1_2 a1_3 a1_4 a1_5 a1_6).bind fun bt414 => (if y409.length < 1954687338268 then ((some (y409 ++ [(⟨l1_0, (⟨bt414.1, bt414.2.1, (⟨bt414.2.2.1, bt414.2.2.2.1⟩ : S39), bt414.2.2.2.2.1, bt414.2.2.2.2.2⟩ : S41)⟩ : S51)] : List (S51))).bind fun y420 => (if 0 ≤ (wrap64 (x5_1 + 1)) then (if (wrap64 (x5_1 + 1)) ≤ (l0.length : Int) then ((some (l0.drop ((wrap64 (x5_1 + 1)) : Int).toNat : List (S51))).bind fun y423 => (if y420.length + y423.length < 1954687338268 then (some (y420 ++ y423)) else (none))) else (none)) else (none))) else (none))) else (if y409.length < 1954687338268 then ((some (y409 ++ [(⟨l1_0, (⟨a1_1, a1_2, (⟨a1_3, a1_4⟩ : S39), a1_5, a1_6⟩ : S41)⟩ : S51)] : List (S51))).bind fun y431 => ((some (l0.drop (x5_1 : Int).toNat : List (S51))).bind fun y434 => (if y431.length + y434.length < 1954687338268 then (some (y431 ++ y434)) else (none)))) else (none))) = some r := nmA hy409 H
   have Ny409 := Aside0.mk hy409
   clear hy409
   by_cases c15 : (strOfNums ((rd_T51 l0 x5_1).f0)).toList = (strOfNums l1_0).toList
   rotate_left
   ·rw [if_neg c15] at H
    have c15b0 := beq_eq_false_iff_ne.mpr c15
    have c15b1 := bne_iff_ne.mpr c15
    replace H := ifN H
    obtain ⟨c39, H⟩ := H
    have LMc39 := Aside0.mk c39
    clear c39
    obtain ⟨y431, hy431⟩ : ∃ y_ : List (S51), y_ = (y409 ++ [(⟨l1_0, (⟨a1_1, a1_2, (⟨a1_3, a1_4⟩ : S39), a1_5, a1_6⟩ : S41)⟩ : S51)]) := ⟨_, rfl⟩
    replace H : ((some (l0.drop (x5_1 : Int).toNat : List (S51))).bind fun y434 => (if y431.length + y434.length < 1954687338268 then (some (y431 ++ y434)) else (none))) = some r := nmA hy431 H
    have Ny431 := Aside0.mk hy431
    clear hy431
    have c40b0 := eq_true (of_decide_eq_true asmA : 0 ≤ x5_1)
    have c41b0 := eq_true (of_decide_eq_true asmA : x5_1 ≤ (l0.length : Int))
    obtain ⟨y434, hy434⟩ : ∃ y_ : List (S51), y_ = (l0.drop (x5_1 : Int).toNat) := ⟨_, rfl⟩
    replace H : (if y431.length + y434.length < 1954687338268 then (some (y431 ++ y434)) else (none)) = some r := nmA hy434 H
    have Ny434 := Aside0.mk hy434
    clear hy434
    replace H := ifN H
    obtain ⟨c42, H⟩ := H
    have LMc42 := Aside0.mk c42
    clear c42
    obtain ⟨y439, hy439⟩ : ∃ y_ : List (S51), y_ = (y431 ++ y434) := ⟨_, rfl⟩
    replace H : (some y439) = some r := nmA hy439 H
    have Ny439 := Aside0.mk hy439
    clear hy439
    obtain rfl := Option.some.inj H
    try go_wp2
    replace HO_0 := Aside0.mk (Kd.V_drew HO_0.out)
    replace HO_403000 := Aside0.mk (Kd.V_drew HO_403000.out)
    replace BK402 := Aside0.mk (blk_drew BK402.out)
    replace HB := Aside0.mk (below_drew1 HB.out)
    have p403 : 0 ≤ (x5_1 : Int) := of_decide_eq_true asmA
    have q403 : x5_1 < (l0.length : Int) := of_decide_eq_true asmA
    obtain ⟨ad403, A403_0, c403_0, e403, hx403_0, hx403_1, hx403_2, hx403_3, hx403_4, hx403_5, hx403_6, hl403_0, hi403_0⟩ := at_T51 (Kd.V_reads' HO_0.out).2.2 x5_1 p403 q403
    cases e403
    obtain ⟨ce403, hce403, hMe403, hcc403⟩ := Kd.V_get HO_0.out z51 x5_1 p403 (by first | exact q403 | exact of_decide_eq_true asmA | (have e_ := (Kd.V_reads' HO_0.out).1; omega))
    obtain ⟨ua403_0, uc403_0, rfl, ul403_0, ge403_0⟩ := k51_openF hMe403
    have hv403_0 := hcc403 0 _ rfl
    rw [Nat.add_zero] at hv403_0
    replace hv403_0 := Option.some.inj (hv403_0.symm.trans hx403_0)
    injection hv403_0 with hva_ hvn_ hvc_
    rw [hva_] at ge403_0
    rw [hvc_] at ul403_0
    have HL403_0 := Aside0.mk (show Kd.V (Kd.int .u8) 5 _ w.heap.size _ _ ((rd_T51 l0 x5_1).f0) from Kd.V_mk ul403_0 ge403_0)
    clear hva_ hvn_ hvc_ ge403_0 ul403_0
    clear hcc403 hce403
    have HR403_0 := Aside0.mk hi403_0
    have HC403_0 := Aside0.mk hl403_0
    clear hi403_0 hl403_0
    replace p403 := eq_true p403
    replace q403 := eq_true q403
    have hcv44 := Kd.C_string (P := Try.prog) (A := A403_0) (c := c403_0) Try.underlying49 Try.underlying5 Try.underlying9 (celA HR403_0.out)
    have hcv45 := fun (n_ : Nat) => Kd.C_string (P := Try.prog) (A := A403_0) (c := c403_0) Try.underlying49 Try.underlying5 Try.underlying9 (Kd.C_drewN (celA HR403_0.out) n_)
    have hcv46 := Kd.C_string (P := Try.prog) (A := A1_0) (c := c1_0) Try.underlying49 Try.underlying5 Try.underlying9 (Kd.V_reads' HO_403000.out).2.2
    refine start_ (n := 16) (S := fun w' => w'.cell? ⟨gb402, 0, none⟩ = some (.slice A1_0 l1_0.length c1_0) ∧ w'.cell? ⟨gb402, 1, none⟩ = some (.int .u64 a1_1) ∧ w'.cell? ⟨gb402, 2, none⟩ = some (.bool a1_2) ∧ w'.cell? ⟨gb402, 3, none⟩ = some (.int .i64 a1_3) ∧ w'.cell? ⟨gb402, 4, none⟩ = some (.int .u64 a1_4) ∧ w'.cell? ⟨gb402, 5, none⟩ = some (.int .i64 a1_5) ∧ w'.cell? ⟨gb402, 6, none⟩ = some (.int .i64 a1_6) ∧ w'.cell? (ad403.add ((x5_1).toNat * 7)) = some (.slice A403_0 ((rd_T51 l0 x5_1).f0).length c403_0) ∧ w'.cell? ⟨(ad403.add ((x5_1).toNat * 7)).block, (ad403.add ((x5_1).toNat * 7)).off + 1, none⟩ = some (.int .u64 ((rd_T51 l0 x5_1).f1.f0)) ∧ w'.cell? ⟨(ad403.add ((x5_1).toNat * 7)).block, (ad403.add ((x5_1).toNat * 7)).off + 2, none⟩ = some (.bool ((rd_T51 l0 x5_1).f1.f1)) ∧ w'.cell? ⟨(ad403.add ((x5_1).toNat * 7)).block, (ad403.add ((x5_1).toNat * 7)).off + 3, none⟩ = some (.int .i64 ((rd_T51 l0 x5_1).f1.f2.f0)) ∧ w'.cell? ⟨(ad403.add ((x5_1).toNat * 7)).block, (ad403.add ((x5_1).toNat * 7)).off + 4, none⟩ = some (.int .u64 ((rd_T51 l0 x5_1).f1.f2.f1)) ∧ w'.cell? ⟨(ad403.add ((x5_1).toNat * 7)).block, (ad403.add ((x5_1).toNat * 7)).off + 5, none⟩ = some (.int .i64 ((rd_T51 l0 x5_1).f1.f3)) ∧ w'.cell? ⟨(ad403.add ((x5_1).toNat * 7)).block, (ad403.add ((x5_1).toNat * 7)).off + 6, none⟩ = some (.int .i64 ((rd_T51 l0 x5_1).f1.f4)) ∧ (convert 49 9 (.slice A403_0 ((rd_T51 l0 x5_1).f0).length c403_0)).run Try.prog w' = .ok (.string (strOfNums ((rd_T51 l0 x5_1).f0))) w' ∧ (convert 49 9 (.slice A1_0 (l1_0).length c1_0)).run Try.prog w' = .ok (.string (strOfNums (l1_0))) w') (ds := []) #[false, false, false, false, false, false, false, false, false, false, false, false, false, false, false, false] (by kernel_rfl) rfl rfl ⟨(blk_cell BK402.out 0).trans rfl, (blk_cell BK402.out 1).trans rfl, (blk_cell BK402.out 2).trans rfl, (blk_cell BK402.out 3).trans rfl, (blk_cell BK402.out 4).trans rfl, (blk_cell BK402.out 5).trans rfl, (blk_cell BK402.out 6).trans rfl, hx403_0, hx403_1, hx403_2, hx403_3, hx403_4, hx403_5, hx403_6, (Kd.C_string (P := Try.prog) (A := A403_0) (c := c403_0) Try.underlying49 Try.underlying5 Try.underlying9 (celA HR403_0.out)), (Kd.C_string (P := Try.prog) (A := A1_0) (c := c1_0) Try.underlying49 Try.underlying5 Try.underlying9 (Kd.V_reads' HO_403000.out).2.2)⟩ (fun hHeld => ?_); refine with_tabW rickyardref14_Put.tab2 rickyardref14_Put.bits2 (fun HT_ HW_ => ?_)
    generalize wr.drew = w43 at HO_0 HO_403000 BK402 HB HL403_0 HR403_0 hx403_0 hx403_1 hx403_2 hx403_3 hx403_4 hx403_5 hx403_6 hHeld ⊢
    refine pureD 0 7 HT_ ?_
    refine pureD 1 8 HT_ ?_
    refine pureD 2 9 HT_ ?_
    refine pureD 3 10 HT_ ?_
    refine pureD 4 11 HT_ ?_
    refine pureD 5 12 HT_ ?_
    refine pureD 6 13 HT_ ?_
    refine pureD 7 14 HT_ ?_
    refine pureD 8 15 HT_ ?_
    refine pureD 11 18 HT_ ?_
    refine takeD 9 16 HT_ HW_ hHeld ?_
    refine takeD 10 17 HT_ HW_ hHeld ?_
    refine takeD 12 19 HT_ HW_ hHeld ?_
    refine takeD 13 20 HT_ HW_ hHeld ?_
    refine pureD 14 21 HT_ ?_
    refine pureD 15 22 HT_ ?_
    refine done_ (done_of HT_.out (by kernel_rfl)) ?_
    have q48 : (x5_1 : Int) ≤ ((l0.length : Int) : Int) := of_decide_eq_true asmA
    obtain ⟨i048, hi048, _, hsz48, _⟩ := info_parts info51
    have hroom48 : l0.length ≤ c0 := (Kd.V_reads' HO_0.out).2.1
    have hC48 : Kd.F k51 _ _ (some ad403) l0.length l0 := (Kd.V_at (base := w.heap.size) HO_0.out).2.2
    have hcut48 := cut_to (P := Try.prog) 28 51 .i64 Try.underlying28 hi048 (some ad403) l0.length c0 x5_1 (of_decide_eq_true asmA) q48 hroom48
    have hr48 := Kd.F_take (m := (x5_1 : Int).toNat) hC48 (by omega)
    have hy48 : y404.length = (x5_1 : Int).toNat := (by rw [Ny404.out, List.length_take]; omega)
    rw [← Ny404.out] at hr48
    rw [← hy48] at hcut48
    have HO408 := Aside0.mk (show Kd.V k51 51 _ w.heap.size _ (.slice (some ad403) y404.length c0) y404 from Kd.V_mk (by omega) hr48)
    have HC408 := Aside0.mk (show y404.length ≤ c0 from by omega)
    clear hr48 hC48 hroom48 hi048 hsz48
    have KY48 := Aside0.mk hy48
    clear hy48
    replace q48 := eq_true q48
    try go_wp2_with (first | ((with_reducible refine gate_builtin (b := .append) (xs := #[.tmp 25, .tmp 28]) rfl ?_); at_builtin; refine Kd.N_append_rows k51 (w0 := w) w.heap.size rfl (.tmp 25) (.tmp 28) 28 51 (.agg #[(.slice none 0 0), (.int .u64 0), (.bool false), (.int .i64 0), (.int .u64 0), (.int .i64 0), (.int .i64 0)]) 72 rfl Try.underlying28 info51 rfl (by decide) (by omega) (.slice none 0 0) ([] : List (S51)) y404 _ _ _ (fun k_ => ((P0_ k_ ∨ P1_0_ k_) ∨ w.heap.size ≤ k_) ∧ k_ ≠ gb402) (fun k_ => ((fun k_ => ((P0_ k_ ∨ P1_0_ k_) ∨ w.heap.size ≤ k_) ∧ k_ ≠ gb402)) k_ ∧ some k_ ≠ (.slice none 0 0 : Value).ownBlock) rfl rfl ?aO ?aR (fun _ hk => hk) ?aF ?aB ?aS ?aL ?_; (case aR => exact (by skip; exact Kd.V_F (Kd.V_mono (ok' := (fun k_ => ((fun k_ => ((P0_ k_ ∨ P1_0_ k_) ∨ w.heap.size ≤ k_) ∧ k_ ≠ gb402)) k_ ∧ some k_ ≠ (.slice none 0 0 : Value).ownBlock)) (HO408.out) (fun k_ hk => ⟨⟨hk.1, hk.2⟩, (by simp [Value.ownBlock])⟩)))); (case aB => exact (belB HB.out GE402.out)); (case aF => exact (fun k_ hk => ⟨(.inr (Nat.le_trans (below_size (belB HB.out GE402.out)) hk)), frB BK402 k_ hk⟩)); (case aO => exact ((Kd.N_nil _ _ _ _ (fun k_ => ((P0_ k_ ∨ P1_0_ k_) ∨ w.heap.size ≤ k_) ∧ k_ ≠ gb402)))); (case aS => exact (below_size (belB HB.out GE402.out))); (case aL => have := LMc14.out; omega); intro v410 w49 ho hb hg hat; rw [← Ny409.out] at ho; have HO411 := Aside0.mk (ho); replace HO_0 := Aside0.mk (Kd.V_afterv (Kd.V_apart_nil (valA HO_0.out)) hg hat); replace HO_403000 := Aside0.mk (Kd.V_afterv (Kd.V_apart_nil (valA HO_403000.out)) hg hat); replace BK402 := grB BK402 hg (hne := (by simp [Value.ownBlock])); replace HL403_0 := Aside0.mk (Kd.V_afterv (Kd.V_apart_nil (valA HL403_0.out)) hg hat); replace HO408 := Aside0.mk (Kd.V_afterv (Kd.V_apart_nil (valA HO408.out)) hg hat); replace HB := Aside0.mk (hb); clear ho hb hg hat))
    replace HO_0 := Aside0.mk (Kd.V_drew HO_0.out)
    replace HO_403000 := Aside0.mk (Kd.V_drew HO_403000.out)
    replace HL403_0 := Aside0.mk (Kd.V_drew HL403_0.out)
    replace HO408 := Aside0.mk (Kd.V_drew HO408.out)
    replace HO411 := Aside0.mk (Kd.N_drew HO411.out)
    replace BK402 := Aside0.mk (blk_drew BK402.out)
    replace HB := Aside0.mk (below_drew1 HB.out)
    have p412 : 0 ≤ (x5_1 : Int) := of_decide_eq_true asmA
    have q412 : x5_1 < (l0.length : Int) := of_decide_eq_true asmA
    obtain ⟨ad412, A412_0, c412_0, e412, hx412_0, hx412_1, hx412_2, hx412_3, hx412_4, hx412_5, hx412_6, hl412_0, hi412_0⟩ := at_T51 (Kd.V_reads' HO_0.out).2.2 x5_1 p412 q412
    obtain rfl : ad403 = ad412 := (by injection e412)
    obtain ⟨ce412, hce412, hMe412, hcc412⟩ := Kd.V_get HO_0.out z51 x5_1 p412 (by first | exact q412 | exact of_decide_eq_true asmA | (have e_ := (Kd.V_reads' HO_0.out).1; omega))
    obtain ⟨ua412_0, uc412_0, rfl, ul412_0, ge412_0⟩ := k51_openF hMe412
    have hv412_0 := hcc412 0 _ rfl
    rw [Nat.add_zero] at hv412_0
    replace hv412_0 := Option.some.inj (hv412_0.symm.trans hx412_0)
    injection hv412_0 with hva_ hvn_ hvc_
    rw [hva_] at ge412_0
    rw [hvc_] at ul412_0
    have HL412_0 := Aside0.mk (show Kd.V (Kd.int .u8) 5 _ w.heap.size _ _ ((rd_T51 l0 x5_1).f0) from Kd.V_mk ul412_0 ge412_0)
    clear hva_ hvn_ hvc_ ge412_0 ul412_0
    clear hcc412 hce412
    have HR412_0 := Aside0.mk hi412_0
    have HC412_0 := Aside0.mk hl412_0
    clear hi412_0 hl412_0
    replace p412 := eq_true p412
    replace q412 := eq_true q412
    have hcv51 := Kd.C_string (P := Try.prog) (A := A412_0) (c := c412_0) Try.underlying49 Try.underlying5 Try.underlying9 (celA HR412_0.out)
    have hcv52 := fun (n_ : Nat) => Kd.C_string (P := Try.prog) (A := A412_0) (c := c412_0) Try.underlying49 Try.underlying5 Try.underlying9 (Kd.C_drewN (celA HR412_0.out) n_)
    have hcv53 := Kd.C_string (P := Try.prog) (A := A1_0) (c := c1_0) Try.underlying49 Try.underlying5 Try.underlying9 (Kd.V_reads' HO_403000.out).2.2
    refine start_ (n := 16) (S := fun w' => w'.cell? ⟨gb402, 0, none⟩ = some (.slice A1_0 l1_0.length c1_0) ∧ w'.cell? ⟨gb402, 1, none⟩ = some (.int .u64 a1_1) ∧ w'.cell? ⟨gb402, 2, none⟩ = some (.bool a1_2) ∧ w'.cell? ⟨gb402, 3, none⟩ = some (.int .i64 a1_3) ∧ w'.cell? ⟨gb402, 4, none⟩ = some (.int .u64 a1_4) ∧ w'.cell? ⟨gb402, 5, none⟩ = some (.int .i64 a1_5) ∧ w'.cell? ⟨gb402, 6, none⟩ = some (.int .i64 a1_6) ∧ w'.cell? (ad403.add ((x5_1).toNat * 7)) = some (.slice A412_0 ((rd_T51 l0 x5_1).f0).length c412_0) ∧ w'.cell? ⟨(ad403.add ((x5_1).toNat * 7)).block, (ad403.add ((x5_1).toNat * 7)).off + 1, none⟩ = some (.int .u64 ((rd_T51 l0 x5_1).f1.f0)) ∧ w'.cell? ⟨(ad403.add ((x5_1).toNat * 7)).block, (ad403.add ((x5_1).toNat * 7)).off + 2, none⟩ = some (.bool ((rd_T51 l0 x5_1).f1.f1)) ∧ w'.cell? ⟨(ad403.add ((x5_1).toNat * 7)).block, (ad403.add ((x5_1).toNat * 7)).off + 3, none⟩ = some (.int .i64 ((rd_T51 l0 x5_1).f1.f2.f0)) ∧ w'.cell? ⟨(ad403.add ((x5_1).toNat * 7)).block, (ad403.add ((x5_1).toNat * 7)).off + 4, none⟩ = some (.int .u64 ((rd_T51 l0 x5_1).f1.f2.f1)) ∧ w'.cell? ⟨(ad403.add ((x5_1).toNat * 7)).block, (ad403.add ((x5_1).toNat * 7)).off + 5, none⟩ = some (.int .i64 ((rd_T51 l0 x5_1).f1.f3)) ∧ w'.cell? ⟨(ad403.add ((x5_1).toNat * 7)).block, (ad403.add ((x5_1).toNat * 7)).off + 6, none⟩ = some (.int .i64 ((rd_T51 l0 x5_1).f1.f4)) ∧ (convert 49 9 (.slice A412_0 ((rd_T51 l0 x5_1).f0).length c412_0)).run Try.prog w' = .ok (.string (strOfNums ((rd_T51 l0 x5_1).f0))) w' ∧ (convert 49 9 (.slice A1_0 (l1_0).length c1_0)).run Try.prog w' = .ok (.string (strOfNums (l1_0))) w') (ds := []) #[false, false, false, false, false, false, false, false, false, false, false, false, false, false, false, false] (by kernel_rfl) rfl rfl ⟨(blk_cell BK402.out 0).trans rfl, (blk_cell BK402.out 1).trans rfl, (blk_cell BK402.out 2).trans rfl, (blk_cell BK402.out 3).trans rfl, (blk_cell BK402.out 4).trans rfl, (blk_cell BK402.out 5).trans rfl, (blk_cell BK402.out 6).trans rfl, hx412_0, hx412_1, hx412_2, hx412_3, hx412_4, hx412_5, hx412_6, (Kd.C_string (P := Try.prog) (A := A412_0) (c := c412_0) Try.underlying49 Try.underlying5 Try.underlying9 (celA HR412_0.out)), (Kd.C_string (P := Try.prog) (A := A1_0) (c := c1_0) Try.underlying49 Try.underlying5 Try.underlying9 (Kd.V_reads' HO_403000.out).2.2)⟩ (fun hHeld => ?_); refine with_tabW rickyardref14_Put.tab6 rickyardref14_Put.bits6 (fun HT_ HW_ => ?_)
    generalize w49.drew = w50 at HO_0 HO_403000 HL403_0 HO408 HO411 BK402 HB HL412_0 HR412_0 hx412_0 hx412_1 hx412_2 hx412_3 hx412_4 hx412_5 hx412_6 hHeld ⊢
    refine pureD 0 30 HT_ ?_
    refine pureD 1 31 HT_ ?_
    refine pureD 2 32 HT_ ?_
    refine pureD 3 33 HT_ ?_
    refine pureD 4 34 HT_ ?_
    refine pureD 5 35 HT_ ?_
    refine pureD 6 36 HT_ ?_
    refine pureD 7 37 HT_ ?_
    refine pureD 8 38 HT_ ?_
    refine pureD 11 41 HT_ ?_
    refine takeD 9 39 HT_ HW_ hHeld ?_
    refine takeD 10 40 HT_ HW_ hHeld ?_
    refine takeD 12 42 HT_ HW_ hHeld ?_
    refine takeD 13 43 HT_ HW_ hHeld ?_
    refine pureD 14 44 HT_ ?_
    refine pureD 15 45 HT_ ?_
    refine done_ (done_of HT_.out (by kernel_rfl)) ?_
    obtain ⟨hcz55_0, hcz55_1, hcz55_2, hcz55_3, hcz55_4, hcz55_5, hcz55_6, hfz55_0, hfz55_1, hfz55_2, hfz55_3, hfz55_4, hfz55_5, hfz55_6⟩ := blk7 BK402
    try go_wp2_with (first | ((with_reducible refine gate_builtin (b := .append) (xs := #[.tmp 66, .tmp 68]) rfl ?_); at_builtin; refine Kd.N_append k51 (w0 := w) w.heap.size rfl (.tmp 66) (.tmp 68) 28 51 (.agg #[(.slice none 0 0), (.int .u64 0), (.bool false), (.int .i64 0), (.int .u64 0), (.int .i64 0), (.int .i64 0)]) 72 rfl Try.underlying28 info51 rfl (by decide) (by omega) v410 y409 (⟨l1_0, (⟨a1_1, a1_2, (⟨a1_3, a1_4⟩ : S39), a1_5, a1_6⟩ : S41)⟩ : S51) [.slice A1_0 l1_0.length c1_0, .int .u64 a1_1, .bool a1_2, .int .i64 a1_3, .int .u64 a1_4, .int .i64 a1_5, .int .i64 a1_6] (fun k_ => ((P0_ k_ ∨ P1_0_ k_) ∨ w.heap.size ≤ k_) ∧ k_ ≠ gb402) (fun k_ => ((fun k_ => ((P0_ k_ ∨ P1_0_ k_) ∨ w.heap.size ≤ k_) ∧ k_ ≠ gb402)) k_ ∧ some k_ ≠ (v410 : Value).ownBlock) rfl rfl ?aP (fun _ hk => hk) ?aF ?aO ?aB ?aS ?aL ?_; (case aP => exact (k51_mkF _ _ (⟨l1_0, (⟨a1_1, a1_2, (⟨a1_3, a1_4⟩ : S39), a1_5, a1_6⟩ : S41)⟩ : S51) (Kd.V_reads' (Kd.V_mono (ok' := (fun k_ => ((fun k_ => ((P0_ k_ ∨ P1_0_ k_) ∨ w.heap.size ≤ k_) ∧ k_ ≠ gb402)) k_ ∧ some k_ ≠ (v410 : Value).ownBlock)) (HO_403000.out) (fun k_ hk => by first | exact ⟨⟨hk.1, hk.2.2⟩, hk.2.1⟩ | exact hk | (simp_all; done)))).2.1 (Kd.V_F (Kd.V_mono (ok' := (fun k_ => ((fun k_ => ((P0_ k_ ∨ P1_0_ k_) ∨ w.heap.size ≤ k_) ∧ k_ ≠ gb402)) k_ ∧ some k_ ≠ (v410 : Value).ownBlock)) (HO_403000.out) (fun k_ hk => by first | exact ⟨⟨hk.1, hk.2.2⟩, hk.2.1⟩ | exact hk | (simp_all; done)))))); (case aB => exact (belB HB.out GE402.out)); (case aF => exact (fun k_ hk => ⟨(.inr (Nat.le_trans (below_size (belB HB.out GE402.out)) hk)), frB BK402 k_ hk⟩)); (case aO => exact (nilA HO411.out)); (case aS => exact (below_size (belB HB.out GE402.out))); (case aL => have := LMc39.out; omega); intro v432 w56 ho hb hg hat; rw [← Ny431.out] at ho; have HO433 := Aside0.mk (ho); replace HO_0 := Aside0.mk (Kd.V_afterv (ok := (fun k_ => ((P0_ k_ ∨ P1_0_ k_) ∨ w.heap.size ≤ k_) ∧ k_ ≠ gb402)) (by (with_reducible repeat (first | apply Kd.V_alloc | apply Kd.V_drewN | apply Kd.V_drew)); exact Kd.V_mono HO_0.out (fun _ hk => by first | exact ⟨⟨hk.1, hk.2.2⟩, hk.2.1⟩ | exact hk | (simp_all; done))) hg hat); replace HO_403000 := Aside0.mk (Kd.V_afterv (ok := (fun k_ => ((P0_ k_ ∨ P1_0_ k_) ∨ w.heap.size ≤ k_) ∧ k_ ≠ gb402)) (by (with_reducible repeat (first | apply Kd.V_alloc | apply Kd.V_drewN | apply Kd.V_drew)); exact Kd.V_mono HO_403000.out (fun _ hk => by first | exact ⟨⟨hk.1, hk.2.2⟩, hk.2.1⟩ | exact hk | (simp_all; done))) hg hat); replace BK402 := grB BK402 hg (hne := (Kd.N_away HO411.out (fun _ hk => by first | exact hk.2 | exact hk | (simp_all; done)))); replace HL403_0 := Aside0.mk (Kd.V_afterv (ok := (fun k_ => ((P0_ k_ ∨ P1_0_ k_) ∨ w.heap.size ≤ k_) ∧ k_ ≠ gb402)) (by (with_reducible repeat (first | apply Kd.V_alloc | apply Kd.V_drewN | apply Kd.V_drew)); exact Kd.V_mono HL403_0.out (fun _ hk => by first | exact ⟨⟨hk.1, hk.2.2⟩, hk.2.1⟩ | exact hk | (simp_all; done))) hg hat); replace HO408 := Aside0.mk (Kd.V_afterv (ok := (fun k_ => ((P0_ k_ ∨ P1_0_ k_) ∨ w.heap.size ≤ k_) ∧ k_ ≠ gb402)) (by (with_reducible repeat (first | apply Kd.V_alloc | apply Kd.V_drewN | apply Kd.V_drew)); exact Kd.V_mono HO408.out (fun _ hk => by first | exact ⟨⟨hk.1, hk.2.2⟩, hk.2.1⟩ | exact hk | (simp_all; done))) hg hat); replace HL412_0 := Aside0.mk (Kd.V_afterv (ok := (fun k_ => ((P0_ k_ ∨ P1_0_ k_) ∨ w.heap.size ≤ k_) ∧ k_ ≠ gb402)) (by (with_reducible repeat (first | apply Kd.V_alloc | apply Kd.V_drewN | apply Kd.V_drew)); exact Kd.V_mono HL412_0.out (fun _ hk => by first | exact ⟨⟨hk.1, hk.2.2⟩, hk.2.1⟩ | exact hk | (simp_all; done))) hg hat); replace HB := Aside0.mk (hb); clear HO411; clear ho hb hg hat; have q57 : (x5_1 : Int) ≤ ((l0.length : Int) : Int) := of_decide_eq_true asmA; obtain ⟨i057, hi057, _, hsz57, _⟩ := info_parts info51; have hroom57 : l0.length ≤ c0 := (Kd.V_reads' HO_0.out).2.1; have hC57 : Kd.F k51 _ _ (some ad403) l0.length l0 := (Kd.V_at (base := w.heap.size) HO_0.out).2.2; have q057 : (0 : Int) ≤ (x5_1 : Int) := of_decide_eq_true asmA; have hcut57 := cut_from (P := Try.prog) 28 51 .i64 Try.underlying28 hi057 7 hsz57 (some ad403) l0.length c0 x5_1 q057 q57; have hr57 := Kd.F_cut (m := (x5_1 : Int).toNat) (c := c0) hC57 (by omega) hroom57; obtain ⟨A57, hA57⟩ : ∃ A1, A1 = (if c0 = (x5_1 : Int).toNat then (some ad403) else ((some ad403) : Option Addr).map (·.add ((x5_1 : Int).toNat * 7))) := ⟨_, rfl⟩; obtain ⟨c57, hc57⟩ : ∃ c1, c1 = c0 - (x5_1 : Int).toNat := ⟨_, rfl⟩; have hy57 : y434.length = l0.length - (x5_1 : Int).toNat := (by rw [Ny434.out, List.length_drop] <;> omega); rw [show (l0).drop (x5_1 : Int).toNat = y434 from Ny434.out.symm] at hr57; replace hr57 : Kd.F k51 _ _ A57 y434.length y434 := (by rw [hA57]; exact hr57); rw [← hy57, ← hA57, ← hc57] at hcut57; have HO438 := Aside0.mk (show Kd.V k51 51 _ w.heap.size _ (.slice A57 y434.length c57) y434 from Kd.V_mk (by rw [hy57, hc57]; exact Nat.sub_le_sub_right hroom57 _) hr57); have HC438 := Aside0.mk (show y434.length ≤ c57 from by rw [hy57, hc57]; exact Nat.sub_le_sub_right hroom57 _); clear hr57 hC57 hroom57 hi057 hsz57 hc57; have KY57 := Aside0.mk hy57; have KA57 := Aside0.mk hA57; clear hy57 hA57; replace q57 := eq_true q57) | ((with_reducible refine gate_builtin (b := .append) (xs := #[.tmp 70, .tmp 73]) rfl ?_); at_builtin; refine Kd.N_append_rows k51 (w0 := w) w.heap.size rfl (.tmp 70) (.tmp 73) 28 51 (.agg #[(.slice none 0 0), (.int .u64 0), (.bool false), (.int .i64 0), (.int .u64 0), (.int .i64 0), (.int .i64 0)]) 72 rfl Try.underlying28 info51 rfl (by decide) (by omega) v432 y431 y434 _ _ _ (fun k_ => ((P0_ k_ ∨ P1_0_ k_) ∨ w.heap.size ≤ k_) ∧ k_ ≠ gb402) (fun k_ => ((fun k_ => ((P0_ k_ ∨ P1_0_ k_) ∨ w.heap.size ≤ k_) ∧ k_ ≠ gb402)) k_ ∧ some k_ ≠ (v432 : Value).ownBlock) rfl rfl ?aO ?aR (fun _ hk => hk) ?aF ?aB ?aS ?aL ?_; (case aR => exact (by skip; exact Kd.V_F (Kd.V_mono (ok' := (fun k_ => ((fun k_ => ((P0_ k_ ∨ P1_0_ k_) ∨ w.heap.size ≤ k_) ∧ k_ ≠ gb402)) k_ ∧ some k_ ≠ (v432 : Value).ownBlock)) (HO438.out) (fun k_ hk => by first | exact ⟨⟨hk.1.1, hk.1.2⟩, hk.2⟩ | exact hk | (simp_all; done))))); (case aB => exact (belB HB.out GE402.out)); (case aF => exact (fun k_ hk => ⟨(.inr (Nat.le_trans (below_size (belB HB.out GE402.out)) hk)), frB BK402 k_ hk⟩)); (case aO => exact (nilA HO433.out)); (case aS => exact (below_size (belB HB.out GE402.out))); (case aL => have := LMc42.out; omega); intro v440 w58 ho hb hg hat; rw [← Ny439.out] at ho; have HO441 := Aside0.mk (ho); replace HO_0 := Aside0.mk (Kd.V_afterv (ok := (fun k_ => ((P0_ k_ ∨ P1_0_ k_) ∨ w.heap.size ≤ k_) ∧ k_ ≠ gb402)) (valA HO_0.out) hg hat); replace HO_403000 := Aside0.mk (Kd.V_afterv (ok := (fun k_ => ((P0_ k_ ∨ P1_0_ k_) ∨ w.heap.size ≤ k_) ∧ k_ ≠ gb402)) (valA HO_403000.out) hg hat); replace BK402 := grB BK402 hg (hne := (Kd.N_away HO433.out (fun _ hk => by first | exact hk.2 | exact hk | (simp_all; done)))); replace HL403_0 := Aside0.mk (Kd.V_afterv (ok := (fun k_ => ((P0_ k_ ∨ P1_0_ k_) ∨ w.heap.size ≤ k_) ∧ k_ ≠ gb402)) (valA HL403_0.out) hg hat); replace HO408 := Aside0.mk (Kd.V_afterv (ok := (fun k_ => ((P0_ k_ ∨ P1_0_ k_) ∨ w.heap.size ≤ k_) ∧ k_ ≠ gb402)) (valA HO408.out) hg hat); replace HL412_0 := Aside0.mk (Kd.V_afterv (ok := (fun k_ => ((P0_ k_ ∨ P1_0_ k_) ∨ w.heap.size ≤ k_) ∧ k_ ≠ gb402)) (valA HL412_0.out) hg hat); replace HO438 := Aside0.mk (Kd.V_afterv (ok := (fun k_ => ((P0_ k_ ∨ P1_0_ k_) ∨ w.heap.size ≤ k_) ∧ k_ ≠ gb402)) (valA HO438.out) hg hat); replace HB := Aside0.mk (hb); clear HO433; clear ho hb hg hat))
    go_ret
    exact ⟨_, ret1, by (with_reducible repeat (first | apply Kd.N_alloc | apply Kd.N_drewN | apply Kd.N_drew)); exact Kd.N_mono HO441.out (fun _ hk => by first | exact hk.1 | exact hk | (simp_all; done)), belB HB.out GE402.out⟩
   rw [if_pos c15] at H
   have c15b0 := beq_iff_eq.mpr c15
   have c15b1 := bne_eq_false_iff_eq.mpr c15
   clear c15
   replace H := bnA H
   obtain ⟨⟨t414, t415, t416, t417, t418, t419⟩, A16, H⟩ := H
   replace H : (if y409.length < 1954687338268 then ((some (y409 ++ [(⟨l1_0, (⟨t414, t415, (⟨t416, t417⟩ : S39), t418, t419⟩ : S41)⟩ : S51)] : List (S51))).bind fun y420 => (if 0 ≤ (wrap64 (x5_1 + 1)) then (if (wrap64 (x5_1 + 1)) ≤ (l0.length : Int) then ((some (l0.drop ((wrap64 (x5_1 + 1)) : Int).toNat : List (S51))).bind fun y423 => (if y420.length + y423.length < 1954687338268 then (some (y420 ++ y423)) else (none))) else (none)) else (none))) else (none)) = some r := H
   replace H := ifN H
   obtain ⟨c17, H⟩ := H
   have LMc17 := Aside0.mk c17
   clear c17
   obtain ⟨y420, hy420⟩ : ∃ y_ : List (S51), y_ = (y409 ++ [(⟨l1_0, (⟨t414, t415, (⟨t416, t417⟩ : S39), t418, t419⟩ : S41)⟩ : S51)]) := ⟨_, rfl⟩
   replace H : (if 0 ≤ (wrap64 (x5_1 + 1)) then (if (wrap64 (x5_1 + 1)) ≤ (l0.length : Int) then ((some (l0.drop ((wrap64 (x5_1 + 1)) : Int).toNat : List (S51))).bind fun y423 => (if y420.length + y423.length < 1954687338268 then (some (y420 ++ y423)) else (none))) else (none)) else (none)) = some r := nmA hy420 H
   have Ny420 := Aside0.mk hy420
   clear hy420
   obtain ⟨ji18, hji18⟩ : ∃ j_ : Int, (wrap64 (x5_1 + 1)) = j_ := ⟨_, rfl⟩
   replace H : (if 0 ≤ (ji18) then (if (ji18) ≤ (l0.length : Int) then ((some (l0.drop ((ji18) : Int).toNat : List (S51))).bind fun y423 => (if y420.length + y423.length < 1954687338268 then (some (y420 ++ y423)) else (none))) else (none)) else (none)) = some r := by first | (rw [hji18] at H; exact H) | (simp only [hji18] at H ⊢; exact H)
   (try rw [hji18] at A16)
   have hji18w : (IntKind.i64.wrap (x5_1 + 1)) = ji18 := (i64_w _).trans hji18
   replace H := ifN H
   obtain ⟨c19, H⟩ := H
   have c19b0 := eq_true c19
   have c19b1 := decide_eq_true c19
   clear c19
   replace H := ifN H
   obtain ⟨c20, H⟩ := H
   have c20b0 := eq_true c20
   have c20b1 := decide_eq_true c20
   clear c20
   obtain ⟨y423, hy423⟩ : ∃ y_ : List (S51), y_ = (l0.drop ((ji18) : Int).toNat) := ⟨_, rfl⟩
   replace H : (if y420.length + y423.length < 1954687338268 then (some (y420 ++ y423)) else (none)) = some r := nmA hy423 H
   have Ny423 := Aside0.mk hy423
   clear hy423
   replace H := ifN H
   obtain ⟨c21, H⟩ := H
   have LMc21 := Aside0.mk c21
   clear c21
   obtain ⟨y428, hy428⟩ : ∃ y_ : List (S51), y_ = (y420 ++ y423) := ⟨_, rfl⟩
   replace H : (some y428) = some r := nmA hy428 H
   have Ny428 := Aside0.mk hy428
   clear hy428
   obtain rfl := Option.some.inj H
   try go_wp2
   replace HO_0 := Aside0.mk (Kd.V_drew HO_0.out)
   replace HO_403000 := Aside0.mk (Kd.V_drew HO_403000.out)
   replace BK402 := Aside0.mk (blk_drew BK402.out)
   replace HB := Aside0.mk (below_drew1 HB.out)
   have p403 : 0 ≤ (x5_1 : Int) := of_decide_eq_true asmA
   have q403 : x5_1 < (l0.length : Int) := of_decide_eq_true asmA
   obtain ⟨ad403, A403_0, c403_0, e403, hx403_0, hx403_1, hx403_2, hx403_3, hx403_4, hx403_5, hx403_6, hl403_0, hi403_0⟩ := at_T51 (Kd.V_reads' HO_0.out).2.2 x5_1 p403 q403
   cases e403
   obtain ⟨ce403, hce403, hMe403, hcc403⟩ := Kd.V_get HO_0.out z51 x5_1 p403 (by first | exact q403 | exact of_decide_eq_true asmA | (have e_ := (Kd.V_reads' HO_0.out).1; omega))
   obtain ⟨ua403_0, uc403_0, rfl, ul403_0, ge403_0⟩ := k51_openF hMe403
   have hv403_0 := hcc403 0 _ rfl
   rw [Nat.add_zero] at hv403_0
   replace hv403_0 := Option.some.inj (hv403_0.symm.trans hx403_0)
   injection hv403_0 with hva_ hvn_ hvc_
   rw [hva_] at ge403_0
   rw [hvc_] at ul403_0
   have HL403_0 := Aside0.mk (show Kd.V (Kd.int .u8) 5 _ w.heap.size _ _ ((rd_T51 l0 x5_1).f0) from Kd.V_mk ul403_0 ge403_0)
   clear hva_ hvn_ hvc_ ge403_0 ul403_0
   clear hcc403 hce403
   have HR403_0 := Aside0.mk hi403_0
   have HC403_0 := Aside0.mk hl403_0
   clear hi403_0 hl403_0
   replace p403 := eq_true p403
   replace q403 := eq_true q403
   have hcv23 := Kd.C_string (P := Try.prog) (A := A403_0) (c := c403_0) Try.underlying49 Try.underlying5 Try.underlying9 (celA HR403_0.out)
   have hcv24 := fun (n_ : Nat) => Kd.C_string (P := Try.prog) (A := A403_0) (c := c403_0) Try.underlying49 Try.underlying5 Try.underlying9 (Kd.C_drewN (celA HR403_0.out) n_)
   have hcv25 := Kd.C_string (P := Try.prog) (A := A1_0) (c := c1_0) Try.underlying49 Try.underlying5 Try.underlying9 (Kd.V_reads' HO_403000.out).2.2
   refine start_ (n := 16) (S := fun w' => w'.cell? ⟨gb402, 0, none⟩ = some (.slice A1_0 l1_0.length c1_0) ∧ w'.cell? ⟨gb402, 1, none⟩ = some (.int .u64 a1_1) ∧ w'.cell? ⟨gb402, 2, none⟩ = some (.bool a1_2) ∧ w'.cell? ⟨gb402, 3, none⟩ = some (.int .i64 a1_3) ∧ w'.cell? ⟨gb402, 4, none⟩ = some (.int .u64 a1_4) ∧ w'.cell? ⟨gb402, 5, none⟩ = some (.int .i64 a1_5) ∧ w'.cell? ⟨gb402, 6, none⟩ = some (.int .i64 a1_6) ∧ w'.cell? (ad403.add ((x5_1).toNat * 7)) = some (.slice A403_0 ((rd_T51 l0 x5_1).f0).length c403_0) ∧ w'.cell? ⟨(ad403.add ((x5_1).toNat * 7)).block, (ad403.add ((x5_1).toNat * 7)).off + 1, none⟩ = some (.int .u64 ((rd_T51 l0 x5_1).f1.f0)) ∧ w'.cell? ⟨(ad403.add ((x5_1).toNat * 7)).block, (ad403.add ((x5_1).toNat * 7)).off + 2, none⟩ = some (.bool ((rd_T51 l0 x5_1).f1.f1)) ∧ w'.cell? ⟨(ad403.add ((x5_1).toNat * 7)).block, (ad403.add ((x5_1).toNat * 7)).off + 3, none⟩ = some (.int .i64 ((rd_T51 l0 x5_1).f1.f2.f0)) ∧ w'.cell? ⟨(ad403.add ((x5_1).toNat * 7)).block, (ad403.add ((x5_1).toNat * 7)).off + 4, none⟩ = some (.int .u64 ((rd_T51 l0 x5_1).f1.f2.f1)) ∧ w'.cell? ⟨(ad403.add ((x5_1).toNat * 7)).block, (ad403.add ((x5_1).toNat * 7)).off + 5, none⟩ = some (.int .i64 ((rd_T51 l0 x5_1).f1.f3)) ∧ w'.cell? ⟨(ad403.add ((x5_1).toNat * 7)).block, (ad403.add ((x5_1).toNat * 7)).off + 6, none⟩ = some (.int .i64 ((rd_T51 l0 x5_1).f1.f4)) ∧ (convert 49 9 (.slice A403_0 ((rd_T51 l0 x5_1).f0).length c403_0)).run Try.prog w' = .ok (.string (strOfNums ((rd_T51 l0 x5_1).f0))) w' ∧ (convert 49 9 (.slice A1_0 (l1_0).length c1_0)).run Try.prog w' = .ok (.string (strOfNums (l1_0))) w') (ds := []) #[false, false, false, false, false, false, false, false, false, false, false, false, false, false, false, false] (by kernel_rfl) rfl rfl ⟨(blk_cell BK402.out 0).trans rfl, (blk_cell BK402.out 1).trans rfl, (blk_cell BK402.out 2).trans rfl, (blk_cell BK402.out 3).trans rfl, (blk_cell BK402.out 4).trans rfl, (blk_cell BK402.out 5).trans rfl, (blk_cell BK402.out 6).trans rfl, hx403_0, hx403_1, hx403_2, hx403_3, hx403_4, hx403_5, hx403_6, (Kd.C_string (P := Try.prog) (A := A403_0) (c := c403_0) Try.underlying49 Try.underlying5 Try.underlying9 (celA HR403_0.out)), (Kd.C_string (P := Try.prog) (A := A1_0) (c := c1_0) Try.underlying49 Try.underlying5 Try.underlying9 (Kd.V_reads' HO_403000.out).2.2)⟩ (fun hHeld => ?_); refine with_tabW rickyardref14_Put.tab2 rickyardref14_Put.bits2 (fun HT_ HW_ => ?_)
   generalize wr.drew = w22 at HO_0 HO_403000 BK402 HB HL403_0 HR403_0 hx403_0 hx403_1 hx403_2 hx403_3 hx403_4 hx403_5 hx403_6 hHeld ⊢
   refine pureD 0 7 HT_ ?_
   refine pureD 1 8 HT_ ?_
   refine pureD 2 9 HT_ ?_
   refine pureD 3 10 HT_ ?_
   refine pureD 4 11 HT_ ?_
   refine pureD 5 12 HT_ ?_
   refine pureD 6 13 HT_ ?_
   refine pureD 7 14 HT_ ?_
   refine pureD 8 15 HT_ ?_
   refine pureD 11 18 HT_ ?_
   refine takeD 9 16 HT_ HW_ hHeld ?_
   refine takeD 10 17 HT_ HW_ hHeld ?_
   refine takeD 12 19 HT_ HW_ hHeld ?_
   refine takeD 13 20 HT_ HW_ hHeld ?_
   refine pureD 14 21 HT_ ?_
   refine pureD 15 22 HT_ ?_
   refine done_ (done_of HT_.out (by kernel_rfl)) ?_
   have q27 : (x5_1 : Int) ≤ ((l0.length : Int) : Int) := of_decide_eq_true asmA
   obtain ⟨i027, hi027, _, hsz27, _⟩ := info_parts info51
   have hroom27 : l0.length ≤ c0 := (Kd.V_reads' HO_0.out).2.1
   have hC27 : Kd.F k51 _ _ (some ad403) l0.length l0 := (Kd.V_at (base := w.heap.size) HO_0.out).2.2
   have hcut27 := cut_to (P := Try.prog) 28 51 .i64 Try.underlying28 hi027 (some ad403) l0.length c0 x5_1 (of_decide_eq_true asmA) q27 hroom27
   have hr27 := Kd.F_take (m := (x5_1 : Int).toNat) hC27 (by omega)
   have hy27 : y404.length = (x5_1 : Int).toNat := (by rw [Ny404.out, List.length_take]; omega)
   rw [← Ny404.out] at hr27
   rw [← hy27] at hcut27
   have HO408 := Aside0.mk (show Kd.V k51 51 _ w.heap.size _ (.slice (some ad403) y404.length c0) y404 from Kd.V_mk (by omega) hr27)
   have HC408 := Aside0.mk (show y404.length ≤ c0 from by omega)
   clear hr27 hC27 hroom27 hi027 hsz27
   have KY27 := Aside0.mk hy27
   clear hy27
   replace q27 := eq_true q27
   try go_wp2_with (first | ((with_reducible refine gate_builtin (b := .append) (xs := #[.tmp 25, .tmp 28]) rfl ?_); at_builtin; refine Kd.N_append_rows k51 (w0 := w) w.heap.size rfl (.tmp 25) (.tmp 28) 28 51 (.agg #[(.slice none 0 0), (.int .u64 0), (.bool false), (.int .i64 0), (.int .u64 0), (.int .i64 0), (.int .i64 0)]) 72 rfl Try.underlying28 info51 rfl (by decide) (by omega) (.slice none 0 0) ([] : List (S51)) y404 _ _ _ (fun k_ => ((P0_ k_ ∨ P1_0_ k_) ∨ w.heap.size ≤ k_) ∧ k_ ≠ gb402) (fun k_ => ((fun k_ => ((P0_ k_ ∨ P1_0_ k_) ∨ w.heap.size ≤ k_) ∧ k_ ≠ gb402)) k_ ∧ some k_ ≠ (.slice none 0 0 : Value).ownBlock) rfl rfl ?aO ?aR (fun _ hk => hk) ?aF ?aB ?aS ?aL ?_; (case aR => exact (by skip; exact Kd.V_F (Kd.V_mono (ok' := (fun k_ => ((fun k_ => ((P0_ k_ ∨ P1_0_ k_) ∨ w.heap.size ≤ k_) ∧ k_ ≠ gb402)) k_ ∧ some k_ ≠ (.slice none 0 0 : Value).ownBlock)) (HO408.out) (fun k_ hk => ⟨⟨hk.1, hk.2⟩, (by simp [Value.ownBlock])⟩)))); (case aB => exact (belB HB.out GE402.out)); (case aF => exact (fun k_ hk => ⟨(.inr (Nat.le_trans (below_size (belB HB.out GE402.out)) hk)), frB BK402 k_ hk⟩)); (case aO => exact ((Kd.N_nil _ _ _ _ (fun k_ => ((P0_ k_ ∨ P1_0_ k_) ∨ w.heap.size ≤ k_) ∧ k_ ≠ gb402)))); (case aS => exact (below_size (belB HB.out GE402.out))); (case aL => have := LMc14.out; omega); intro v410 w28 ho hb hg hat; rw [← Ny409.out] at ho; have HO411 := Aside0.mk (ho); replace HO_0 := Aside0.mk (Kd.V_afterv (Kd.V_apart_nil (valA HO_0.out)) hg hat); replace HO_403000 := Aside0.mk (Kd.V_afterv (Kd.V_apart_nil (valA HO_403000.out)) hg hat); replace BK402 := grB BK402 hg (hne := (by simp [Value.ownBlock])); replace HL403_0 := Aside0.mk (Kd.V_afterv (Kd.V_apart_nil (valA HL403_0.out)) hg hat); replace HO408 := Aside0.mk (Kd.V_afterv (Kd.V_apart_nil (valA HO408.out)) hg hat); replace HB := Aside0.mk (hb); clear ho hb hg hat))
   replace HO_0 := Aside0.mk (Kd.V_drew HO_0.out)
   replace HO_403000 := Aside0.mk (Kd.V_drew HO_403000.out)
   replace HL403_0 := Aside0.mk (Kd.V_drew HL403_0.out)
   replace HO408 := Aside0.mk (Kd.V_drew HO408.out)
   replace HO411 := Aside0.mk (Kd.N_drew HO411.out)
   replace BK402 := Aside0.mk (blk_drew BK402.out)
   replace HB := Aside0.mk (below_drew1 HB.out)
   have p412 : 0 ≤ (x5_1 : Int) := of_decide_eq_true asmA
   have q412 : x5_1 < (l0.length : Int) := of_decide_eq_true asmA
   obtain ⟨ad412, A412_0, c412_0, e412, hx412_0, hx412_1, hx412_2, hx412_3, hx412_4, hx412_5, hx412_6, hl412_0, hi412_0⟩ := at_T51 (Kd.V_reads' HO_0.out).2.2 x5_1 p412 q412
   obtain rfl : ad403 = ad412 := (by injection e412)
   obtain ⟨ce412, hce412, hMe412, hcc412⟩ := Kd.V_get HO_0.out z51 x5_1 p412 (by first | exact q412 | exact of_decide_eq_true asmA | (have e_ := (Kd.V_reads' HO_0.out).1; omega))
   obtain ⟨ua412_0, uc412_0, rfl, ul412_0, ge412_0⟩ := k51_openF hMe412
   have hv412_0 := hcc412 0 _ rfl
   rw [Nat.add_zero] at hv412_0
   replace hv412_0 := Option.some.inj (hv412_0.symm.trans hx412_0)
   injection hv412_0 with hva_ hvn_ hvc_
   rw [hva_] at ge412_0
   rw [hvc_] at ul412_0
   have HL412_0 := Aside0.mk (show Kd.V (Kd.int .u8) 5 _ w.heap.size _ _ ((rd_T51 l0 x5_1).f0) from Kd.V_mk ul412_0 ge412_0)
   clear hva_ hvn_ hvc_ ge412_0 ul412_0
   clear hcc412 hce412
   have HR412_0 := Aside0.mk hi412_0
   have HC412_0 := Aside0.mk hl412_0
   clear hi412_0 hl412_0
   replace p412 := eq_true p412
   replace q412 := eq_true q412
   have hcv30 := Kd.C_string (P := Try.prog) (A := A412_0) (c := c412_0) Try.underlying49 Try.underlying5 Try.underlying9 (celA HR412_0.out)
   have hcv31 := fun (n_ : Nat) => Kd.C_string (P := Try.prog) (A := A412_0) (c := c412_0) Try.underlying49 Try.underlying5 Try.underlying9 (Kd.C_drewN (celA HR412_0.out) n_)
   have hcv32 := Kd.C_string (P := Try.prog) (A := A1_0) (c := c1_0) Try.underlying49 Try.underlying5 Try.underlying9 (Kd.V_reads' HO_403000.out).2.2
   refine start_ (n := 16) (S := fun w' => w'.cell? ⟨gb402, 0, none⟩ = some (.slice A1_0 l1_0.length c1_0) ∧ w'.cell? ⟨gb402, 1, none⟩ = some (.int .u64 a1_1) ∧ w'.cell? ⟨gb402, 2, none⟩ = some (.bool a1_2) ∧ w'.cell? ⟨gb402, 3, none⟩ = some (.int .i64 a1_3) ∧ w'.cell? ⟨gb402, 4, none⟩ = some (.int .u64 a1_4) ∧ w'.cell? ⟨gb402, 5, none⟩ = some (.int .i64 a1_5) ∧ w'.cell? ⟨gb402, 6, none⟩ = some (.int .i64 a1_6) ∧ w'.cell? (ad403.add ((x5_1).toNat * 7)) = some (.slice A412_0 ((rd_T51 l0 x5_1).f0).length c412_0) ∧ w'.cell? ⟨(ad403.add ((x5_1).toNat * 7)).block, (ad403.add ((x5_1).toNat * 7)).off + 1, none⟩ = some (.int .u64 ((rd_T51 l0 x5_1).f1.f0)) ∧ w'.cell? ⟨(ad403.add ((x5_1).toNat * 7)).block, (ad403.add ((x5_1).toNat * 7)).off + 2, none⟩ = some (.bool ((rd_T51 l0 x5_1).f1.f1)) ∧ w'.cell? ⟨(ad403.add ((x5_1).toNat * 7)).block, (ad403.add ((x5_1).toNat * 7)).off + 3, none⟩ = some (.int .i64 ((rd_T51 l0 x5_1).f1.f2.f0)) ∧ w'.cell? ⟨(ad403.add ((x5_1).toNat * 7)).block, (ad403.add ((x5_1).toNat * 7)).off + 4, none⟩ = some (.int .u64 ((rd_T51 l0 x5_1).f1.f2.f1)) ∧ w'.cell? ⟨(ad403.add ((x5_1).toNat * 7)).block, (ad403.add ((x5_1).toNat * 7)).off + 5, none⟩ = some (.int .i64 ((rd_T51 l0 x5_1).f1.f3)) ∧ w'.cell? ⟨(ad403.add ((x5_1).toNat * 7)).block, (ad403.add ((x5_1).toNat * 7)).off + 6, none⟩ = some (.int .i64 ((rd_T51 l0 x5_1).f1.f4)) ∧ (convert 49 9 (.slice A412_0 ((rd_T51 l0 x5_1).f0).length c412_0)).run Try.prog w' = .ok (.string (strOfNums ((rd_T51 l0 x5_1).f0))) w' ∧ (convert 49 9 (.slice A1_0 (l1_0).length c1_0)).run Try.prog w' = .ok (.string (strOfNums (l1_0))) w') (ds := []) #[false, false, false, false, false, false, false, false, false, false, false, false, false, false, false, false] (by kernel_rfl) rfl rfl ⟨(blk_cell BK402.out 0).trans rfl, (blk_cell BK402.out 1).trans rfl, (blk_cell BK402.out 2).trans rfl, (blk_cell BK402.out 3).trans rfl, (blk_cell BK402.out 4).trans rfl, (blk_cell BK402.out 5).trans rfl, (blk_cell BK402.out 6).trans rfl, hx412_0, hx412_1, hx412_2, hx412_3, hx412_4, hx412_5, hx412_6, (Kd.C_string (P := Try.prog) (A := A412_0) (c := c412_0) Try.underlying49 Try.underlying5 Try.underlying9 (celA HR412_0.out)), (Kd.C_string (P := Try.prog) (A := A1_0) (c := c1_0) Try.underlying49 Try.underlying5 Try.underlying9 (Kd.V_reads' HO_403000.out).2.2)⟩ (fun hHeld => ?_); refine with_tabW rickyardref14_Put.tab6 rickyardref14_Put.bits6 (fun HT_ HW_ => ?_)
   generalize w28.drew = w29 at HO_0 HO_403000 HL403_0 HO408 HO411 BK402 HB HL412_0 HR412_0 hx412_0 hx412_1 hx412_2 hx412_3 hx412_4 hx412_5 hx412_6 hHeld ⊢
   refine pureD 0 30 HT_ ?_
   refine pureD 1 31 HT_ ?_
   refine pureD 2 32 HT_ ?_
   refine pureD 3 33 HT_ ?_
   refine pureD 4 34 HT_ ?_
   refine pureD 5 35 HT_ ?_
   refine pureD 6 36 HT_ ?_
   refine pureD 7 37 HT_ ?_
   refine pureD 8 38 HT_ ?_
   refine pureD 11 41 HT_ ?_
   refine takeD 9 39 HT_ HW_ hHeld ?_
   refine takeD 10 40 HT_ HW_ hHeld ?_
   refine takeD 12 42 HT_ HW_ hHeld ?_
   refine takeD 13 43 HT_ HW_ hHeld ?_
   refine pureD 14 44 HT_ ?_
   refine pureD 15 45 HT_ ?_
   refine done_ (done_of HT_.out (by kernel_rfl)) ?_
   try go_wp2
   replace HO_0 := Aside0.mk (Kd.V_drew HO_0.out)
   replace HO_403000 := Aside0.mk (Kd.V_drew HO_403000.out)
   replace HL403_0 := Aside0.mk (Kd.V_drew HL403_0.out)
   replace HO408 := Aside0.mk (Kd.V_drew HO408.out)
   replace HO411 := Aside0.mk (Kd.N_drew HO411.out)
   replace HL412_0 := Aside0.mk (Kd.V_drew HL412_0.out)
   replace BK402 := Aside0.mk (blk_drew BK402.out)
   replace HB := Aside0.mk (below_drew1 HB.out)
   have p413 : 0 ≤ (x5_1 : Int) := of_decide_eq_true asmA
   have q413 : x5_1 < (l0.length : Int) := of_decide_eq_true asmA
   obtain ⟨ad413, A413_0, c413_0, e413, hx413_0, hx413_1, hx413_2, hx413_3, hx413_4, hx413_5, hx413_6, hl413_0, hi413_0⟩ := at_T51 (Kd.V_reads' HO_0.out).2.2 x5_1 p413 q413
   obtain rfl : ad403 = ad413 := (by injection e413)
   obtain ⟨ce413, hce413, hMe413, hcc413⟩ := Kd.V_get HO_0.out z51 x5_1 p413 (by first | exact q413 | exact of_decide_eq_true asmA | (have e_ := (Kd.V_reads' HO_0.out).1; omega))
   obtain ⟨ua413_0, uc413_0, rfl, ul413_0, ge413_0⟩ := k51_openF hMe413
   have hv413_0 := hcc413 0 _ rfl
   rw [Nat.add_zero] at hv413_0
   replace hv413_0 := Option.some.inj (hv413_0.symm.trans hx413_0)
   injection hv413_0 with hva_ hvn_ hvc_
   rw [hva_] at ge413_0
   rw [hvc_] at ul413_0
   have HL413_0 := Aside0.mk (show Kd.V (Kd.int .u8) 5 _ w.heap.size _ _ ((rd_T51 l0 x5_1).f0) from Kd.V_mk ul413_0 ge413_0)
   clear hva_ hvn_ hvc_ ge413_0 ul413_0
   clear hcc413 hce413
   have HR413_0 := Aside0.mk hi413_0
   have HC413_0 := Aside0.mk hl413_0
   clear hi413_0 hl413_0
   replace p413 := eq_true p413
   replace q413 := eq_true q413
   refine start_ (n := 15) (S := fun w' => w'.cell? ⟨gb402, 0, none⟩ = some (.slice A1_0 l1_0.length c1_0) ∧ w'.cell? ⟨gb402, 1, none⟩ = some (.int .u64 a1_1) ∧ w'.cell? ⟨gb402, 2, none⟩ = some (.bool a1_2) ∧ w'.cell? ⟨gb402, 3, none⟩ = some (.int .i64 a1_3) ∧ w'.cell? ⟨gb402, 4, none⟩ = some (.int .u64 a1_4) ∧ w'.cell? ⟨gb402, 5, none⟩ = some (.int .i64 a1_5) ∧ w'.cell? ⟨gb402, 6, none⟩ = some (.int .i64 a1_6) ∧ w'.cell? (ad403.add ((x5_1).toNat * 7)) = some (.slice A413_0 ((rd_T51 l0 x5_1).f0).length c413_0) ∧ w'.cell? ⟨(ad403.add ((x5_1).toNat * 7)).block, (ad403.add ((x5_1).toNat * 7)).off + 1, none⟩ = some (.int .u64 ((rd_T51 l0 x5_1).f1.f0)) ∧ w'.cell? ⟨(ad403.add ((x5_1).toNat * 7)).block, (ad403.add ((x5_1).toNat * 7)).off + 2, none⟩ = some (.bool ((rd_T51 l0 x5_1).f1.f1)) ∧ w'.cell? ⟨(ad403.add ((x5_1).toNat * 7)).block, (ad403.add ((x5_1).toNat * 7)).off + 3, none⟩ = some (.int .i64 ((rd_T51 l0 x5_1).f1.f2.f0)) ∧ w'.cell? ⟨(ad403.add ((x5_1).toNat * 7)).block, (ad403.add ((x5_1).toNat * 7)).off + 4, none⟩ = some (.int .u64 ((rd_T51 l0 x5_1).f1.f2.f1)) ∧ w'.cell? ⟨(ad403.add ((x5_1).toNat * 7)).block, (ad403.add ((x5_1).toNat * 7)).off + 5, none⟩ = some (.int .i64 ((rd_T51 l0 x5_1).f1.f3)) ∧ w'.cell? ⟨(ad403.add ((x5_1).toNat * 7)).block, (ad403.add ((x5_1).toNat * 7)).off + 6, none⟩ = some (.int .i64 ((rd_T51 l0 x5_1).f1.f4))) (ds := [12, 13]) #[false, false, false, false, false, false, false, false, false, false, false, false, false, false, false] (by kernel_rfl) rfl rfl ⟨(blk_cell BK402.out 0).trans rfl, (blk_cell BK402.out 1).trans rfl, (blk_cell BK402.out 2).trans rfl, (blk_cell BK402.out 3).trans rfl, (blk_cell BK402.out 4).trans rfl, (blk_cell BK402.out 5).trans rfl, (blk_cell BK402.out 6).trans rfl, hx413_0, hx413_1, hx413_2, hx413_3, hx413_4, hx413_5, hx413_6⟩ (fun hHeld => ?_); refine with_tabW rickyardref14_Put.tab7 rickyardref14_Put.bits7 (fun HT_ HW_ => ?_)
   generalize w29.drew = w34 at HO_0 HO_403000 HL403_0 HO408 HO411 HL412_0 BK402 HB HL413_0 HR413_0 hx413_0 hx413_1 hx413_2 hx413_3 hx413_4 hx413_5 hx413_6 hHeld ⊢
   refine pureD 0 46 HT_ ?_
   refine pureD 1 47 HT_ ?_
   refine pureD 3 49 HT_ ?_
   refine pureD 4 50 HT_ ?_
   refine pureD 5 51 HT_ ?_
   refine pureD 6 52 HT_ ?_
   refine pureD 8 54 HT_ ?_
   refine takeD 2 48 HT_ HW_ hHeld ?_
   refine takeD 7 53 HT_ HW_ hHeld ?_
   refine takeD 9 55 HT_ HW_ hHeld ?_
   refine one_ (i := 10) (N := some 56) #[true, true, true, true, true, true, true, true, true, true, true, false, false, false, false] rfl rfl (one_of HT_.out (by kernel_rfl)) (by decide) (fun K hK => ?_)
   refine goes_ Try.func77 (by kernel_rfl) rfl #[.agg #[.int .u64 ((rd_T51 l0 x5_1).f1.f0), .bool ((rd_T51 l0 x5_1).f1.f1), .int .i64 ((rd_T51 l0 x5_1).f1.f2.f0), .int .u64 ((rd_T51 l0 x5_1).f1.f2.f1), .int .i64 ((rd_T51 l0 x5_1).f1.f3), .int .i64 ((rd_T51 l0 x5_1).f1.f4)], .agg #[.int .u64 a1_1, .bool a1_2, .int .i64 a1_3, .int .u64 a1_4, .int .i64 a1_5, .int .i64 a1_6]] (by rfl) rfl rfl argA ?_
   with_reducible refine (rickyardref02_Merge.calls k1 ((rd_T51 l0 x5_1).f1.f0) ((rd_T51 l0 x5_1).f1.f1) ((rd_T51 l0 x5_1).f1.f2.f0) ((rd_T51 l0 x5_1).f1.f2.f1) ((rd_T51 l0 x5_1).f1.f3) ((rd_T51 l0 x5_1).f1.f4) a1_1 a1_2 a1_3 a1_4 a1_5 a1_6 t414 t415 t416 t417 t418 t419 _ A16.out).mono ?_
   rintro e w35 ⟨rfl, hb⟩
   have HS7_ := (hb.cell (World.block_lt_of_cell? _ _ (hHeld.2.2.2.2.2.2.2.1))).trans (hHeld.2.2.2.2.2.2.2.1)
   have HS8_ := (hb.cell (World.block_lt_of_cell? _ _ (hHeld.2.2.2.2.2.2.2.2.1))).trans (hHeld.2.2.2.2.2.2.2.2.1)
   have HS9_ := (hb.cell (World.block_lt_of_cell? _ _ (hHeld.2.2.2.2.2.2.2.2.2.1))).trans (hHeld.2.2.2.2.2.2.2.2.2.1)
   have HS10_ := (hb.cell (World.block_lt_of_cell? _ _ (hHeld.2.2.2.2.2.2.2.2.2.2.1))).trans (hHeld.2.2.2.2.2.2.2.2.2.2.1)
   have HS11_ := (hb.cell (World.block_lt_of_cell? _ _ (hHeld.2.2.2.2.2.2.2.2.2.2.2.1))).trans (hHeld.2.2.2.2.2.2.2.2.2.2.2.1)
   have HS12_ := (hb.cell (World.block_lt_of_cell? _ _ (hHeld.2.2.2.2.2.2.2.2.2.2.2.2.1))).trans (hHeld.2.2.2.2.2.2.2.2.2.2.2.2.1)
   have HS13_ := (hb.cell (World.block_lt_of_cell? _ _ (hHeld.2.2.2.2.2.2.2.2.2.2.2.2.2))).trans (hHeld.2.2.2.2.2.2.2.2.2.2.2.2.2)
   refine ⟨_, rfl, ?_⟩
   replace HO_0 := Aside0.mk (Kd.V_below (valA HO_0.out) hb)
   replace HO_403000 := Aside0.mk (Kd.V_below (valA HO_403000.out) hb)
   replace HL403_0 := Aside0.mk (Kd.V_below (valA HL403_0.out) hb)
   replace HO408 := Aside0.mk (Kd.V_below (valA HO408.out) hb)
   replace HO411 := Aside0.mk (Kd.N_below (nilA HO411.out) hb)
   replace HL412_0 := Aside0.mk (Kd.V_below (valA HL412_0.out) hb)
   replace HL413_0 := Aside0.mk (Kd.V_below (valA HL413_0.out) hb)
   replace BK402 := blkB BK402 hb
   replace HR413_0 := Aside0.mk (Kd.C_below (celA HR413_0.out) hb)
   replace HB := bs2 HB GE402 hb
   (try clear hb)
   refine hK.out _ _ ⟨(blk_cell BK402.out 0).trans rfl, (blk_cell BK402.out 1).trans rfl, (blk_cell BK402.out 2).trans rfl, (blk_cell BK402.out 3).trans rfl, (blk_cell BK402.out 4).trans rfl, (blk_cell BK402.out 5).trans rfl, (blk_cell BK402.out 6).trans rfl, HS7_, HS8_, HS9_, HS10_, HS11_, HS12_, HS13_⟩ (fun hHeld => ?_)
   clear hK K
   refine norm_ (a' := ?_) ?_ ?_
   rotate_left
   ·show Act.put _ (some 56) _ = _
    simp only [Act.put, List.setIfInBounds_toArray, List.set_cons_zero, List.set_cons_succ, i64_w, i32_w]
    rfl
   refine pureD 11 57 HT_ ?_
   refine last_ (i := 12) (N := some 58) #[true, true, true, true, true, true, true, true, true, true, true, true, true, false, false] rfl rfl (one_of HT_.out (by kernel_rfl)) (by decide) (fun K hK => ?_)
   refine value_ (w1 := ?_) (v := ?_) (by rfl) rfl ?_ ?_
   rotate_left 2
   ·go_simp
    constructor
    ·rfl
    ·rfl
   refine hK.out _ _ ?_
   clear hK K
   refine norm_ (a' := ?_) ?_ ?_
   rotate_left
   ·show Act.put _ (some 58) _ = _
    simp only [Act.put, List.setIfInBounds_toArray, List.set_cons_zero, List.set_cons_succ, i64_w, i32_w]
    rfl
   refine last_ (i := 13) (N := some 59) #[true, true, true, true, true, true, true, true, true, true, true, true, true, true, false] rfl rfl (one_of HT_.out (by kernel_rfl)) (by decide) (fun K hK => ?_)
   refine Kd.N_append_step k51 (w0 := w) w.heap.size (by rfl) (.tmp 46) (.tmp 58) 28 51 (.agg #[(.slice none 0 0), (.int .u64 0), (.bool false), (.int .i64 0), (.int .u64 0), (.int .i64 0), (.int .i64 0)]) 72 rfl Try.underlying28 info51 rfl (by decide) (by omega) v410 y409 (⟨l1_0, (⟨t414, t415, (⟨t416, t417⟩ : S39), t418, t419⟩ : S41)⟩ : S51) [.slice A1_0 l1_0.length c1_0, .int .u64 t414, .bool t415, .int .i64 t416, .int .u64 t417, .int .i64 t418, .int .i64 t419] (fun k_ => ((P0_ k_ ∨ P1_0_ k_) ∨ w.heap.size ≤ k_) ∧ k_ ≠ gb402) (fun k_ => ((fun k_ => ((P0_ k_ ∨ P1_0_ k_) ∨ w.heap.size ≤ k_) ∧ k_ ≠ gb402)) k_ ∧ some k_ ≠ (v410 : Value).ownBlock) rfl rfl ?aP (fun _ hk => hk) ?aF ?aO ?aB ?aS ?aL ?_
   (case aP => exact (k51_mkF _ _ (⟨l1_0, (⟨t414, t415, (⟨t416, t417⟩ : S39), t418, t419⟩ : S41)⟩ : S51) (Kd.V_reads' (Kd.V_mono (ok' := (fun k_ => ((fun k_ => ((P0_ k_ ∨ P1_0_ k_) ∨ w.heap.size ≤ k_) ∧ k_ ≠ gb402)) k_ ∧ some k_ ≠ (v410 : Value).ownBlock)) (HO_403000.out) (fun k_ hk => by first | exact ⟨⟨hk.1, hk.2.2⟩, hk.2.1⟩ | exact hk | (simp_all; done)))).2.1 (Kd.V_F (Kd.V_mono (ok' := (fun k_ => ((fun k_ => ((P0_ k_ ∨ P1_0_ k_) ∨ w.heap.size ≤ k_) ∧ k_ ≠ gb402)) k_ ∧ some k_ ≠ (v410 : Value).ownBlock)) (HO_403000.out) (fun k_ hk => by first | exact ⟨⟨hk.1, hk.2.2⟩, hk.2.1⟩ | exact hk | (simp_all; done))))))
   (case aB => exact (belB HB.out GE402.out))
   (case aF => exact (fun k_ hk => ⟨(.inr (Nat.le_trans (below_size (belB HB.out GE402.out)) hk)), frB BK402 k_ hk⟩))
   (case aO => exact (nilA HO411.out))
   (case aS => exact (below_size (belB HB.out GE402.out)))
   (case aL => have := LMc17.out; omega)
   intro v421 w36 ho hb hg hat
   rw [← Ny420.out] at ho
   have HO422 := Aside0.mk (ho)
   replace HO_0 := Aside0.mk (Kd.V_afterv (ok := (fun k_ => ((P0_ k_ ∨ P1_0_ k_) ∨ w.heap.size ≤ k_) ∧ k_ ≠ gb402)) (by (with_reducible repeat (first | apply Kd.V_alloc | apply Kd.V_drewN | apply Kd.V_drew)); exact Kd.V_mono HO_0.out (fun _ hk => by first | exact ⟨⟨hk.1, hk.2.2⟩, hk.2.1⟩ | exact hk | (simp_all; done))) hg hat)
   replace HO_403000 := Aside0.mk (Kd.V_afterv (ok := (fun k_ => ((P0_ k_ ∨ P1_0_ k_) ∨ w.heap.size ≤ k_) ∧ k_ ≠ gb402)) (by (with_reducible repeat (first | apply Kd.V_alloc | apply Kd.V_drewN | apply Kd.V_drew)); exact Kd.V_mono HO_403000.out (fun _ hk => by first | exact ⟨⟨hk.1, hk.2.2⟩, hk.2.1⟩ | exact hk | (simp_all; done))) hg hat)
   replace BK402 := grB BK402 hg (hne := (Kd.N_away HO411.out (fun _ hk => by first | exact hk.2 | exact hk | (simp_all; done))))
   replace HL403_0 := Aside0.mk (Kd.V_afterv (ok := (fun k_ => ((P0_ k_ ∨ P1_0_ k_) ∨ w.heap.size ≤ k_) ∧ k_ ≠ gb402)) (by (with_reducible repeat (first | apply Kd.V_alloc | apply Kd.V_drewN | apply Kd.V_drew)); exact Kd.V_mono HL403_0.out (fun _ hk => by first | exact ⟨⟨hk.1, hk.2.2⟩, hk.2.1⟩ | exact hk | (simp_all; done))) hg hat)
   replace HO408 := Aside0.mk (Kd.V_afterv (ok := (fun k_ => ((P0_ k_ ∨ P1_0_ k_) ∨ w.heap.size ≤ k_) ∧ k_ ≠ gb402)) (by (with_reducible repeat (first | apply Kd.V_alloc | apply Kd.V_drewN | apply Kd.V_drew)); exact Kd.V_mono HO408.out (fun _ hk => by first | exact ⟨⟨hk.1, hk.2.2⟩, hk.2.1⟩ | exact hk | (simp_all; done))) hg hat)
   replace HL412_0 := Aside0.mk (Kd.V_afterv (ok := (fun k_ => ((P0_ k_ ∨ P1_0_ k_) ∨ w.heap.size ≤ k_) ∧ k_ ≠ gb402)) (by (with_reducible repeat (first | apply Kd.V_alloc | apply Kd.V_drewN | apply Kd.V_drew)); exact Kd.V_mono HL412_0.out (fun _ hk => by first | exact ⟨⟨hk.1, hk.2.2⟩, hk.2.1⟩ | exact hk | (simp_all; done))) hg hat)
   replace HL413_0 := Aside0.mk (Kd.V_afterv (ok := (fun k_ => ((P0_ k_ ∨ P1_0_ k_) ∨ w.heap.size ≤ k_) ∧ k_ ≠ gb402)) (by (with_reducible repeat (first | apply Kd.V_alloc | apply Kd.V_drewN | apply Kd.V_drew)); exact Kd.V_mono HL413_0.out (fun _ hk => by first | exact ⟨⟨hk.1, hk.2.2⟩, hk.2.1⟩ | exact hk | (simp_all; done))) hg hat)
   replace HB := Aside0.mk (hb)
   clear HO411
   clear ho hb hg hat
   refine hK.out _ _ ?_
   clear hK K
   refine norm_ (a' := ?_) ?_ ?_
   rotate_left
   ·show Act.put _ (some 59) _ = _
    simp only [Act.put, List.setIfInBounds_toArray, List.set_cons_zero, List.set_cons_succ, i64_w, i32_w]
    rfl
   refine pureD 14 6 HT_ ?_
   refine done_ (done_of HT_.out (by kernel_rfl)) ?_
   have q37 : ((ji18) : Int) ≤ ((l0.length : Int) : Int) := of_decide_eq_true asmA
   obtain ⟨i037, hi037, _, hsz37, _⟩ := info_parts info51
   have hroom37 : l0.length ≤ c0 := (Kd.V_reads' HO_0.out).2.1
   have hC37 : Kd.F k51 _ _ (some ad403) l0.length l0 := (Kd.V_at (base := w.heap.size) HO_0.out).2.2
   have q037 : (0 : Int) ≤ ((ji18) : Int) := of_decide_eq_true asmA
   have hcut37 := cut_from (P := Try.prog) 28 51 .i64 Try.underlying28 hi037 7 hsz37 (some ad403) l0.length c0 (ji18) q037 q37
   have hr37 := Kd.F_cut (m := ((ji18) : Int).toNat) (c := c0) hC37 (by omega) hroom37
   obtain ⟨A37, hA37⟩ : ∃ A1, A1 = (if c0 = ((ji18) : Int).toNat then (some ad403) else ((some ad403) : Option Addr).map (·.add (((ji18) : Int).toNat * 7))) := ⟨_, rfl⟩
   obtain ⟨c37, hc37⟩ : ∃ c1, c1 = c0 - ((ji18) : Int).toNat := ⟨_, rfl⟩
   have hy37 : y423.length = l0.length - ((ji18) : Int).toNat := (by rw [Ny423.out, List.length_drop] <;> omega)
   rw [show (l0).drop ((ji18) : Int).toNat = y423 from Ny423.out.symm] at hr37
   replace hr37 : Kd.F k51 _ _ A37 y423.length y423 := (by rw [hA37]; exact hr37)
   rw [← hy37, ← hA37, ← hc37] at hcut37
   have HO427 := Aside0.mk (show Kd.V k51 51 _ w.heap.size _ (.slice A37 y423.length c37) y423 from Kd.V_mk (by rw [hy37, hc37]; exact Nat.sub_le_sub_right hroom37 _) hr37)
   have HC427 := Aside0.mk (show y423.length ≤ c37 from by rw [hy37, hc37]; exact Nat.sub_le_sub_right hroom37 _)
   clear hr37 hC37 hroom37 hi037 hsz37 hc37
   have KY37 := Aside0.mk hy37
   have KA37 := Aside0.mk hA37
   clear hy37 hA37
   replace q37 := eq_true q37
   try go_wp2_with (first | ((with_reducible refine gate_builtin (b := .append) (xs := #[.tmp 60, .tmp 64]) rfl ?_); at_builtin; refine Kd.N_append_rows k51 (w0 := w) w.heap.size rfl (.tmp 60) (.tmp 64) 28 51 (.agg #[(.slice none 0 0), (.int .u64 0), (.bool false), (.int .i64 0), (.int .u64 0), (.int .i64 0), (.int .i64 0)]) 72 rfl Try.underlying28 info51 rfl (by decide) (by omega) v421 y420 y423 _ _ _ (fun k_ => ((P0_ k_ ∨ P1_0_ k_) ∨ w.heap.size ≤ k_) ∧ k_ ≠ gb402) (fun k_ => ((fun k_ => ((P0_ k_ ∨ P1_0_ k_) ∨ w.heap.size ≤ k_) ∧ k_ ≠ gb402)) k_ ∧ some k_ ≠ (v421 : Value).ownBlock) rfl rfl ?aO ?aR (fun _ hk => hk) ?aF ?aB ?aS ?aL ?_; (case aR => exact (by skip; exact Kd.V_F (Kd.V_mono (ok' := (fun k_ => ((fun k_ => ((P0_ k_ ∨ P1_0_ k_) ∨ w.heap.size ≤ k_) ∧ k_ ≠ gb402)) k_ ∧ some k_ ≠ (v421 : Value).ownBlock)) (HO427.out) (fun k_ hk => by first | exact ⟨⟨hk.1.1, hk.1.2⟩, hk.2⟩ | exact hk | (simp_all; done))))); (case aB => exact (belB HB.out GE402.out)); (case aF => exact (fun k_ hk => ⟨(.inr (Nat.le_trans (below_size (belB HB.out GE402.out)) hk)), frB BK402 k_ hk⟩)); (case aO => exact (nilA HO422.out)); (case aS => exact (below_size (belB HB.out GE402.out))); (case aL => have := LMc21.out; omega); intro v429 w38 ho hb hg hat; rw [← Ny428.out] at ho; have HO430 := Aside0.mk (ho); replace HO_0 := Aside0.mk (Kd.V_afterv (ok := (fun k_ => ((P0_ k_ ∨ P1_0_ k_) ∨ w.heap.size ≤ k_) ∧ k_ ≠ gb402)) (valA HO_0.out) hg hat); replace HO_403000 := Aside0.mk (Kd.V_afterv (ok := (fun k_ => ((P0_ k_ ∨ P1_0_ k_) ∨ w.heap.size ≤ k_) ∧ k_ ≠ gb402)) (valA HO_403000.out) hg hat); replace BK402 := grB BK402 hg (hne := (Kd.N_away HO422.out (fun _ hk => by first | exact hk.2 | exact hk | (simp_all; done)))); replace HL403_0 := Aside0.mk (Kd.V_afterv (ok := (fun k_ => ((P0_ k_ ∨ P1_0_ k_) ∨ w.heap.size ≤ k_) ∧ k_ ≠ gb402)) (valA HL403_0.out) hg hat); replace HO408 := Aside0.mk (Kd.V_afterv (ok := (fun k_ => ((P0_ k_ ∨ P1_0_ k_) ∨ w.heap.size ≤ k_) ∧ k_ ≠ gb402)) (valA HO408.out) hg hat); replace HL412_0 := Aside0.mk (Kd.V_afterv (ok := (fun k_ => ((P0_ k_ ∨ P1_0_ k_) ∨ w.heap.size ≤ k_) ∧ k_ ≠ gb402)) (valA HL412_0.out) hg hat); replace HL413_0 := Aside0.mk (Kd.V_afterv (ok := (fun k_ => ((P0_ k_ ∨ P1_0_ k_) ∨ w.heap.size ≤ k_) ∧ k_ ≠ gb402)) (valA HL413_0.out) hg hat); replace HO427 := Aside0.mk (Kd.V_afterv (ok := (fun k_ => ((P0_ k_ ∨ P1_0_ k_) ∨ w.heap.size ≤ k_) ∧ k_ ≠ gb402)) (valA HO427.out) hg hat); replace HB := Aside0.mk (hb); clear HO422; clear ho hb hg hat))
   go_ret
   exact ⟨_, by first | rfl | (simp [errW_none, errW_some] <;> rfl) | (simp only [← hji18]; first | rfl | (simp [errW_none, errW_some] <;> rfl)) | (simp [*, errW_none, errW_some] <;> rfl) | (exfalso; simp_all; done), by (with_reducible repeat (first | apply Kd.N_alloc | apply Kd.N_drewN | apply Kd.N_drew)); exact Kd.N_mono HO430.out (fun _ hk => by first | exact hk.1 | exact hk | (simp_all; done)), belB HB.out GE402.out⟩
end Go.Proofs.Ytjemmmemenljbaa.PFold
end
