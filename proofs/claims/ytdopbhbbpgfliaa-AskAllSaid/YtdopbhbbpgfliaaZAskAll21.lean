import Derived.Test.YtdopbhbbpgfliaaZAskAll20
section
namespace Go.Proofs.Ytdopbhbbpgfliaa.PAsk
open Go.RowKit Go.Proofs.YtdopbhbbpgfliaaW.PrintWords Go.Proofs.YtdopbhbbpgfliaaW.PrintLast Go.Proofs.YtdopbhbbpgfliaaW.PrintMore
attribute [local go_sem] max2_int min2_int max_two min_two max_three min_three max_four min_four   -- for this text's walks alone
set_option linter.unusedVariables false
set_option linter.unusedSimpArgs false
set_option maxHeartbeats 8000000
set_option maxRecDepth 100000
def rickyardref14_Put.l0 : Nat → List (S60) → Int → List Int → Int → Bool → Int → Int → Int → Int → Option ((List (S60)))
 | 0, _, _, _, _, _, _, _, _, _ => none
 | k + 1, x0, x5, x445000, x445001, x445002, x445003, x445004, x445005, x445006 => if x5 < (x0.length : Int) then (if 0 ≤ x5 then (if (Op.bytesLess ((strOfNums ((rd_T60 x0 x5).f0)).toList) ((strOfNums x445000).toList)) = true then (rickyardref14_Put.l0 k x0 (wrap64 (x5 + 1)) x445000 x445001 x445002 x445003 x445004 x445005 x445006) else (if x5 ≤ (x0.length : Int) then ((some (x0.take (x5 : Int).toNat : List (S60))).bind fun y446 => (if ([] : List (S60)).length + y446.length < 1954687338268 then ((some (([] : List (S60)) ++ y446 : List (S60))).bind fun y451 => (if (strOfNums ((rd_T60 x0 x5).f0)).toList = (strOfNums x445000).toList then ((rickyardref02_Merge.f k ((rd_T60 x0 x5).f1.f0) ((rd_T60 x0 x5).f1.f1) ((rd_T60 x0 x5).f1.f2.f0) ((rd_T60 x0 x5).f1.f2.f1) ((rd_T60 x0 x5).f1.f3) ((rd_T60 x0 x5).f1.f4) x445001 x445002 x445003 x445004 x445005 x445006).bind fun bt456 => (if y451.length < 1954687338268 then ((some (y451 ++ [(⟨x445000, (⟨bt456.1, bt456.2.1, (⟨bt456.2.2.1, bt456.2.2.2.1⟩ : S40), bt456.2.2.2.2.1, bt456.2.2.2.2.2⟩ : S42)⟩ : S60)] : List (S60))).bind fun y462 => (if 0 ≤ (wrap64 (x5 + 1)) then (if (wrap64 (x5 + 1)) ≤ (x0.length : Int) then ((some (x0.drop ((wrap64 (x5 + 1)) : Int).toNat : List (S60))).bind fun y465 => (if y462.length + y465.length < 1954687338268 then (some (y462 ++ y465)) else (none))) else (none)) else (none))) else (none))) else (if y451.length < 1954687338268 then ((some (y451 ++ [(⟨x445000, (⟨x445001, x445002, (⟨x445003, x445004⟩ : S40), x445005, x445006⟩ : S42)⟩ : S60)] : List (S60))).bind fun y473 => ((some (x0.drop (x5 : Int).toNat : List (S60))).bind fun y476 => (if y473.length + y476.length < 1954687338268 then (some (y473 ++ y476)) else (none)))) else (none)))) else (none))) else (none))) else (none)) else (if 0 ≤ x5 then (if x5 ≤ (x0.length : Int) then ((some (x0.take (x5 : Int).toNat : List (S60))).bind fun y484 => (if ([] : List (S60)).length + y484.length < 1954687338268 then ((some (([] : List (S60)) ++ y484 : List (S60))).bind fun y489 => (if y489.length < 1954687338268 then ((some (y489 ++ [(⟨x445000, (⟨x445001, x445002, (⟨x445003, x445004⟩ : S40), x445005, x445006⟩ : S42)⟩ : S60)] : List (S60))).bind fun y492 => ((some (x0.drop (x5 : Int).toNat : List (S60))).bind fun y495 => (if y492.length + y495.length < 1954687338268 then (some (y492 ++ y495)) else (none)))) else (none))) else (none))) else (none)) else (none))
def rickyardref14_Put.f (k : Nat) (l0 : List (S60)) (l1_0 : List Int) (a1_1 : Int) (a1_2 : Bool) (a1_3 : Int) (a1_4 : Int) (a1_5 : Int) (a1_6 : Int) : Option ((List (S60))) := rickyardref14_Put.l0 k l0 0 l1_0 a1_1 a1_2 a1_3 a1_4 a1_5 a1_6
def rickyardref14_Put.T2 : Bool × List (List Nat × List Nat) := (true, [([], []), ([], []), ([1], [1]), ([0, 2], [0, 2]), ([3], [3]), ([4], [4]), ([4], [4]), ([5, 6, 4], [4, 5, 6]), ([7, 4], [4, 7]), ([8, 4], [4, 8]), ([9, 4], [4, 9]), ([4], [4]), ([11, 4], [4, 11]), ([12, 4], [4, 12]), ([10, 13, 4], [4, 10, 13]), ([4, 14], [4, 14])])
def rickyardref14_Put.B2 : List Nat := [0, 0, 2, 7, 15, 31, 31, 127, 255, 511, 1023, 31, 2079, 6175, 16383, 32767]
theorem rickyardref14_Put.tab2 : rtab .any (opsOf Try.f37 2) = rickyardref14_Put.T2 := by kernel_rfl
theorem rickyardref14_Put.bits2 : waitsOk rickyardref14_Put.T2.2 rickyardref14_Put.B2 = true := by kernel_rfl
def rickyardref14_Put.T6 : Bool × List (List Nat × List Nat) := (true, [([], []), ([], []), ([1], [1]), ([0, 2], [0, 2]), ([3], [3]), ([4], [4]), ([4], [4]), ([5, 6, 4], [4, 5, 6]), ([7, 4], [4, 7]), ([8, 4], [4, 8]), ([9, 4], [4, 9]), ([4], [4]), ([11, 4], [4, 11]), ([12, 4], [4, 12]), ([10, 13, 4], [4, 10, 13]), ([4, 14], [4, 14])])
def rickyardref14_Put.B6 : List Nat := [0, 0, 2, 7, 15, 31, 31, 127, 255, 511, 1023, 31, 2079, 6175, 16383, 32767]
theorem rickyardref14_Put.tab6 : rtab .any (opsOf Try.f37 6) = rickyardref14_Put.T6 := by kernel_rfl
theorem rickyardref14_Put.bits6 : waitsOk rickyardref14_Put.T6.2 rickyardref14_Put.B6 = true := by kernel_rfl
def rickyardref14_Put.T7 : Bool × List (List Nat × List Nat) := (true, [([], []), ([], []), ([1], [1]), ([], []), ([], []), ([3, 4], [3, 4]), ([5], [5]), ([6], [6]), ([], []), ([8], [8]), ([7, 9], [7, 9]), ([2, 10], [2, 10]), ([11], [11]), ([0, 12, 10], [0, 12]), ([13, 13, 0, 1, 2, 3, 4, 5, 6, 7, 8, 9, 10, 11, 12, 13], [0, 13])])
def rickyardref14_Put.B7 : List Nat := [0, 0, 2, 0, 0, 24, 56, 120, 0, 256, 1016, 2046, 4094, 8191, 16383]
theorem rickyardref14_Put.tab7 : rtab .any (opsOf Try.f37 7) = rickyardref14_Put.T7 := by kernel_rfl
theorem rickyardref14_Put.bits7 : waitsOk rickyardref14_Put.T7.2 rickyardref14_Put.B7 = true := by kernel_rfl
theorem rickyardref14_Put.calls (k : Nat) (P0_ : Nat → Prop) (A0 : Option Addr) (c0 : Nat) (l0 : List (S60)) (P1_0_ : Nat → Prop) (A1_0 : Option Addr) (c1_0 : Nat) (l1_0 : List Int) (a1_1 : Int) (a1_2 : Bool) (a1_3 : Int) (a1_4 : Int) (a1_5 : Int) (a1_6 : Int) (r : List (S60)) (w : World) (hs0 : Kd.V k60 60 w w.heap.size (fun k_ => P0_ k_) (.slice A0 l0.length c0) l0) (hs1_0 : Kd.V (Kd.int .u8) 5 w w.heap.size (fun k_ => P1_0_ k_) (.slice A1_0 l1_0.length c1_0) l1_0) (h : rickyardref14_Put.f k l0 l1_0 a1_1 a1_2 a1_3 a1_4 a1_5 a1_6 = some r) :
  Calls Try.prog 37 #[.slice A0 l0.length c0, .agg #[.slice A1_0 l1_0.length c1_0, .int .u64 a1_1, .bool a1_2, .int .i64 a1_3, .int .u64 a1_4, .int .i64 a1_5, .int .i64 a1_6]] w fun e w' => ∃ v0_ : Value, e = .returned (v0_) ∧ Kd.N k60 60 w' w.heap.size (fun k_ => ((P0_ k_ ∨ P1_0_ k_) ∨ w.heap.size ≤ k_)) v0_ r ∧ Below w.heap.size w w' := by
 have hu60 := Try.underlying60
 have hu42 := Try.underlying42
 have HO0 := Aside0.mk (show Kd.V k60 60 w w.heap.size (fun k_ => ((P0_ k_ ∨ P1_0_ k_) ∨ w.heap.size ≤ k_)) (.slice A0 l0.length c0) l0 from Kd.V_mono hs0 (fun k_ hk => .inl (.inl hk)))
 have HO1_0 := Aside0.mk (show Kd.V (Kd.int .u8) 5 w w.heap.size (fun k_ => ((P0_ k_ ∨ P1_0_ k_) ∨ w.heap.size ≤ k_)) (.slice A1_0 l1_0.length c1_0) l1_0 from Kd.V_mono hs1_0 (fun k_ hk => .inl (.inr hk)))
 have HB := Aside0.mk (Below.refl w.heap.size w)
 have H : (rickyardref14_Put.l0 k l0 0 l1_0 a1_1 a1_2 a1_3 a1_4 a1_5 a1_6) = some r := h
 clear h
 have H' := Aside0.mk H
 clear H
 go_enter Try.func37, Try.ntmps37
 go_wp2_with (first | ((with_reducible refine gate_dst (N := 3) rfl ?_); refine boxA 3 #[.slice A1_0 l1_0.length c1_0, .int .u64 a1_1, .bool a1_2, .int .i64 a1_3, .int .u64 a1_4, .int .i64 a1_5, .int .i64 a1_6] 60 ?_; intro gb444 hg w3 hbox hb; have BK444 := Aside0.mk (hbox); have GE444 := ge1 hg (belA HB.out); replace HO0 := Aside0.mk (Kd.V_below (Kd.V_elderB (valA HO0.out) gb444 (Nat.le_of_eq hg.symm)) hb); replace HO1_0 := Aside0.mk (Kd.V_below (Kd.V_elderB (valA HO1_0.out) gb444 (Nat.le_of_eq hg.symm)) hb); replace HB := bst HB hb; clear hb hbox hg))
 go_loopg [5] k (fun kq v5 w' => ∃ (x5_1 : Int), v5 = .int .i64 x5_1 ∧ Aside0 (rickyardref14_Put.l0 kq l0 x5_1 l1_0 a1_1 a1_2 a1_3 a1_4 a1_5 a1_6 = some r) ∧ Aside0 (kq ≤ k) ∧ Aside0 (Kd.V k60 60 w' w.heap.size (fun k_ => ((P0_ k_ ∨ P1_0_ k_) ∨ w.heap.size ≤ k_) ∧ k_ ≠ gb444) (.slice A0 l0.length c0) l0) ∧ Aside0 (Kd.V (Kd.int .u8) 5 w' w.heap.size (fun k_ => ((P0_ k_ ∨ P1_0_ k_) ∨ w.heap.size ≤ k_) ∧ k_ ≠ gb444) (.slice A1_0 l1_0.length c1_0) l1_0) ∧ Aside0 (w'.heap[gb444]? = some (.cells #[(.slice A1_0 l1_0.length c1_0), .int .u64 a1_1, .bool a1_2, .int .i64 a1_3, .int .u64 a1_4, .int .i64 a1_5, .int .i64 a1_6] 60 (0, 0))) ∧ Aside0 (Below w.heap.size w w'))
 case atStart => exact ⟨(0), relA, H', ⟨Nat.le_refl _⟩, ⟨valA HO0.out⟩, ⟨valA HO1_0.out⟩, ⟨blkA BK444.out⟩, ⟨belB HB.out GE444.out⟩⟩
 case round =>
  clear H'
  try clear c1
  try clear p2
  try clear c3
  obtain ⟨x5_1, rfl, HA, HK1, HO_0, HO_445000, BK444, HB⟩ := hrel
  cases gk with
  | zero => exact absurd HA.out (by simp [rickyardref14_Put.l0])
  | succ k1 =>
   have H := HA.out
   clear HA
   simp only [rickyardref14_Put.l0] at H
   by_cases c4 : x5_1 < (l0.length : Int)
   rotate_left
   ·rw [if_neg c4] at H
    have c4b0 := decide_eq_false c4
    clear c4
    replace H := ifN H
    obtain ⟨c59, H⟩ := H
    have c59b0 := eq_true c59
    have c59b1 := decide_eq_true c59
    clear c59
    replace H := ifN H
    obtain ⟨c60, H⟩ := H
    have c60b0 := eq_true c60
    have c60b1 := decide_eq_true c60
    clear c60
    obtain ⟨y484, hy484⟩ : ∃ y_ : List (S60), y_ = (l0.take (x5_1 : Int).toNat) := ⟨_, rfl⟩
    replace H : (if ([] : List (S60)).length + y484.length < 1954687338268 then ((some (([] : List (S60)) ++ y484 : List (S60))).bind fun y489 => (if y489.length < 1954687338268 then ((some (y489 ++ [(⟨l1_0, (⟨a1_1, a1_2, (⟨a1_3, a1_4⟩ : S40), a1_5, a1_6⟩ : S42)⟩ : S60)] : List (S60))).bind fun y492 => ((some (l0.drop (x5_1 : Int).toNat : List (S60))).bind fun y495 => (if y492.length + y495.length < 1954687338268 then (some (y492 ++ y495)) else (none)))) else (none))) else (none)) = some r := nmA hy484 H
    have Ny484 := Aside0.mk hy484
    clear hy484
    replace H := ifN H
    obtain ⟨c61, H⟩ := H
    have LMc61 := Aside0.mk c61
    clear c61
    obtain ⟨y489, hy489⟩ : ∃ y_ : List (S60), y_ = (([] : List (S60)) ++ y484) := ⟨_, rfl⟩
    replace H : (if y489.length < 1954687338268 then ((some (y489 ++ [(⟨l1_0, (⟨a1_1, a1_2, (⟨a1_3, a1_4⟩ : S40), a1_5, a1_6⟩ : S42)⟩ : S60)] : List (S60))).bind fun y492 => ((some (l0.drop (x5_1 : Int).toNat : List (S60))).bind fun y495 => (if y492.length + y495.length < 1954687338268 then (some (y492 ++ y495)) else (none)))) else (none)) = some r := nmA hy489 H
    have Ny489 := Aside0.mk hy489
    clear hy489
    replace H := ifN H
    obtain ⟨c62, H⟩ := H
    have LMc62 := Aside0.mk c62
    clear c62
    obtain ⟨y492, hy492⟩ : ∃ y_ : List (S60), y_ = (y489 ++ [(⟨l1_0, (⟨a1_1, a1_2, (⟨a1_3, a1_4⟩ : S40), a1_5, a1_6⟩ : S42)⟩ : S60)]) := ⟨_, rfl⟩
    replace H : ((some (l0.drop (x5_1 : Int).toNat : List (S60))).bind fun y495 => (if y492.length + y495.length < 1954687338268 then (some (y492 ++ y495)) else (none))) = some r := nmA hy492 H
    have Ny492 := Aside0.mk hy492
    clear hy492
    have c63b0 := eq_true (of_decide_eq_true asmA : 0 ≤ x5_1)
    have c64b0 := eq_true (of_decide_eq_true asmA : x5_1 ≤ (l0.length : Int))
    obtain ⟨y495, hy495⟩ : ∃ y_ : List (S60), y_ = (l0.drop (x5_1 : Int).toNat) := ⟨_, rfl⟩
    replace H : (if y492.length + y495.length < 1954687338268 then (some (y492 ++ y495)) else (none)) = some r := nmA hy495 H
    have Ny495 := Aside0.mk hy495
    clear hy495
    replace H := ifN H
    obtain ⟨c65, H⟩ := H
    have LMc65 := Aside0.mk c65
    clear c65
    obtain ⟨y500, hy500⟩ : ∃ y_ : List (S60), y_ = (y492 ++ y495) := ⟨_, rfl⟩
    replace H : (some y500) = some r := nmA hy500 H
    have Ny500 := Aside0.mk hy500
    clear hy500
    obtain rfl := Option.some.inj H
    try go_wp2
    replace HO_0 := Aside0.mk (Kd.V_drew HO_0.out)
    replace HO_445000 := Aside0.mk (Kd.V_drew HO_445000.out)
    replace BK444 := Aside0.mk (blk_drew BK444.out)
    replace HB := Aside0.mk (below_drew1 HB.out)
    refine start_ (n := 16) (S := fun w' => True) (ds := []) #[false, false, false, false, false, false, false, false, false, false, false, false, false, false, false, false] (by kernel_rfl) rfl rfl trivial (fun hHeld => ?_); refine with_tabW rickyardref14_Put.tab2 rickyardref14_Put.bits2 (fun HT_ HW_ => ?_)
    generalize wr.drew = w66 at HO_0 HO_445000 BK444 HB hHeld ⊢
    refine pureD 0 7 HT_ ?_
    refine pureD 1 8 HT_ ?_
    refine pureD 2 9 HT_ ?_
    refine pureD 3 10 HT_ ?_
    refine pureD 4 11 HT_ ?_
    refine pureU 5 12 HT_ ?_
    refine pureU 6 13 HT_ ?_
    refine pureU 7 14 HT_ ?_
    refine pureU 8 15 HT_ ?_
    refine pureU 9 16 HT_ ?_
    refine pureU 10 17 HT_ ?_
    refine pureU 11 18 HT_ ?_
    refine pureU 12 19 HT_ ?_
    refine pureU 13 20 HT_ ?_
    refine pureU 14 21 HT_ ?_
    refine pureD 15 22 HT_ ?_
    refine done_ (done_of HT_.out (by kernel_rfl)) ?_
    have q67 : (x5_1 : Int) ≤ ((l0.length : Int) : Int) := of_decide_eq_true asmA
    obtain ⟨i067, hi067, _, hsz67, _⟩ := info_parts info60
    have hroom67 : l0.length ≤ c0 := (Kd.V_reads' HO_0.out).2.1
    have hC67 : Kd.F k60 _ _ A0 l0.length l0 := (Kd.V_at (base := w.heap.size) HO_0.out).2.2
    have hcut67 := cut_to (P := Try.prog) 25 60 .i64 Try.underlying25 hi067 A0 l0.length c0 x5_1 (of_decide_eq_true asmA) q67 hroom67
    have hr67 := Kd.F_take (m := (x5_1 : Int).toNat) hC67 (by omega)
    have hy67 : y484.length = (x5_1 : Int).toNat := (by rw [Ny484.out, List.length_take]; omega)
    rw [← Ny484.out] at hr67
    rw [← hy67] at hcut67
    have HO488 := Aside0.mk (show Kd.V k60 60 _ w.heap.size _ (.slice A0 y484.length c0) y484 from Kd.V_mk (by omega) hr67)
    have HC488 := Aside0.mk (show y484.length ≤ c0 from by omega)
    clear hr67 hC67 hroom67 hi067 hsz67
    have KY67 := Aside0.mk hy67
    clear hy67
    replace q67 := eq_true q67
    try go_wp2_with (first | ((with_reducible refine gate_builtin (b := .append) (xs := #[.tmp 25, .tmp 28]) rfl ?_); at_builtin; refine Kd.N_append_rows k60 (w0 := w) w.heap.size rfl (.tmp 25) (.tmp 28) 25 60 (.agg #[(.slice none 0 0), (.int .u64 0), (.bool false), (.int .i64 0), (.int .u64 0), (.int .i64 0), (.int .i64 0)]) 72 rfl Try.underlying25 info60 rfl (by decide) (by omega) (.slice none 0 0) ([] : List (S60)) y484 _ _ _ (fun k_ => ((P0_ k_ ∨ P1_0_ k_) ∨ w.heap.size ≤ k_) ∧ k_ ≠ gb444) (fun k_ => ((fun k_ => ((P0_ k_ ∨ P1_0_ k_) ∨ w.heap.size ≤ k_) ∧ k_ ≠ gb444)) k_ ∧ some k_ ≠ (.slice none 0 0 : Value).ownBlock) rfl rfl ?aO ?aR (fun _ hk => hk) ?aF ?aB ?aS ?aL ?_; (case aR => exact (by skip; exact Kd.V_F (Kd.V_mono (ok' := (fun k_ => ((fun k_ => ((P0_ k_ ∨ P1_0_ k_) ∨ w.heap.size ≤ k_) ∧ k_ ≠ gb444)) k_ ∧ some k_ ≠ (.slice none 0 0 : Value).ownBlock)) (HO488.out) (fun k_ hk => ⟨⟨hk.1, hk.2⟩, (by simp [Value.ownBlock])⟩)))); (case aB => exact (belB HB.out GE444.out)); (case aF => exact (fun k_ hk => ⟨(.inr (Nat.le_trans (below_size (belB HB.out GE444.out)) hk)), frB BK444 k_ hk⟩)); (case aO => exact ((Kd.N_nil _ _ _ _ (fun k_ => ((P0_ k_ ∨ P1_0_ k_) ∨ w.heap.size ≤ k_) ∧ k_ ≠ gb444)))); (case aS => exact (below_size (belB HB.out GE444.out))); (case aL => have := LMc61.out; omega); intro v490 w68 ho hb hg hat; rw [← Ny489.out] at ho; have HO491 := Aside0.mk (ho); replace HO_0 := Aside0.mk (Kd.V_afterv (Kd.V_apart_nil (valA HO_0.out)) hg hat); replace HO_445000 := Aside0.mk (Kd.V_afterv (Kd.V_apart_nil (valA HO_445000.out)) hg hat); replace BK444 := grB BK444 hg (hne := (by simp [Value.ownBlock])); replace HO488 := Aside0.mk (Kd.V_afterv (Kd.V_apart_nil (valA HO488.out)) hg hat); replace HB := Aside0.mk (hb); clear ho hb hg hat))
    replace HO_0 := Aside0.mk (Kd.V_drew HO_0.out)
    replace HO_445000 := Aside0.mk (Kd.V_drew HO_445000.out)
    replace HO488 := Aside0.mk (Kd.V_drew HO488.out)
    replace HO491 := Aside0.mk (Kd.N_drew HO491.out)
    replace BK444 := Aside0.mk (blk_drew BK444.out)
    replace HB := Aside0.mk (below_drew1 HB.out)
    refine start_ (n := 16) (S := fun w' => True) (ds := []) #[false, false, false, false, false, false, false, false, false, false, false, false, false, false, false, false] (by kernel_rfl) rfl rfl trivial (fun hHeld => ?_); refine with_tabW rickyardref14_Put.tab6 rickyardref14_Put.bits6 (fun HT_ HW_ => ?_)
    generalize w68.drew = w69 at HO_0 HO_445000 HO488 HO491 BK444 HB hHeld ⊢
    refine pureD 0 30 HT_ ?_
    refine pureD 1 31 HT_ ?_
    refine pureD 2 32 HT_ ?_
    refine pureD 3 33 HT_ ?_
    refine pureD 4 34 HT_ ?_
    refine pureU 5 35 HT_ ?_
    refine pureU 6 36 HT_ ?_
    refine pureU 7 37 HT_ ?_
    refine pureU 8 38 HT_ ?_
    refine pureU 9 39 HT_ ?_
    refine pureU 10 40 HT_ ?_
    refine pureU 11 41 HT_ ?_
    refine pureU 12 42 HT_ ?_
    refine pureU 13 43 HT_ ?_
    refine pureU 14 44 HT_ ?_
    refine pureD 15 45 HT_ ?_
    refine done_ (done_of HT_.out (by kernel_rfl)) ?_
    obtain ⟨hcz70_0, hcz70_1, hcz70_2, hcz70_3, hcz70_4, hcz70_5, hcz70_6, hfz70_0, hfz70_1, hfz70_2, hfz70_3, hfz70_4, hfz70_5, hfz70_6⟩ := blk7 BK444
    try go_wp2_with (first | ((with_reducible refine gate_builtin (b := .append) (xs := #[.tmp 66, .tmp 68]) rfl ?_); at_builtin; refine Kd.N_append k60 (w0 := w) w.heap.size rfl (.tmp 66) (.tmp 68) 25 60 (.agg #[(.slice none 0 0), (.int .u64 0), (.bool false), (.int .i64 0), (.int .u64 0), (.int .i64 0), (.int .i64 0)]) 72 rfl Try.underlying25 info60 rfl (by decide) (by omega) v490 y489 (⟨l1_0, (⟨a1_1, a1_2, (⟨a1_3, a1_4⟩ : S40), a1_5, a1_6⟩ : S42)⟩ : S60) [.slice A1_0 l1_0.length c1_0, .int .u64 a1_1, .bool a1_2, .int .i64 a1_3, .int .u64 a1_4, .int .i64 a1_5, .int .i64 a1_6] (fun k_ => ((P0_ k_ ∨ P1_0_ k_) ∨ w.heap.size ≤ k_) ∧ k_ ≠ gb444) (fun k_ => ((fun k_ => ((P0_ k_ ∨ P1_0_ k_) ∨ w.heap.size ≤ k_) ∧ k_ ≠ gb444)) k_ ∧ some k_ ≠ (v490 : Value).ownBlock) rfl rfl ?aP (fun _ hk => hk) ?aF ?aO ?aB ?aS ?aL ?_; (case aP => exact (k60_mkF _ _ (⟨l1_0, (⟨a1_1, a1_2, (⟨a1_3, a1_4⟩ : S40), a1_5, a1_6⟩ : S42)⟩ : S60) (Kd.V_reads' (Kd.V_mono (ok' := (fun k_ => ((fun k_ => ((P0_ k_ ∨ P1_0_ k_) ∨ w.heap.size ≤ k_) ∧ k_ ≠ gb444)) k_ ∧ some k_ ≠ (v490 : Value).ownBlock)) (HO_445000.out) (fun k_ hk => by first | exact ⟨⟨hk.1.1, hk.1.2⟩, hk.2⟩ | exact hk | (simp_all; done)))).2.1 (Kd.V_F (Kd.V_mono (ok' := (fun k_ => ((fun k_ => ((P0_ k_ ∨ P1_0_ k_) ∨ w.heap.size ≤ k_) ∧ k_ ≠ gb444)) k_ ∧ some k_ ≠ (v490 : Value).ownBlock)) (HO_445000.out) (fun k_ hk => by first | exact ⟨⟨hk.1.1, hk.1.2⟩, hk.2⟩ | exact hk | (simp_all; done)))))); (case aB => exact (belB HB.out GE444.out)); (case aF => exact (fun k_ hk => ⟨(.inr (Nat.le_trans (below_size (belB HB.out GE444.out)) hk)), frB BK444 k_ hk⟩)); (case aO => exact (nilA HO491.out)); (case aS => exact (below_size (belB HB.out GE444.out))); (case aL => have := LMc62.out; omega); intro v493 w71 ho hb hg hat; rw [← Ny492.out] at ho; have HO494 := Aside0.mk (ho); replace HO_0 := Aside0.mk (Kd.V_afterv (ok := (fun k_ => ((P0_ k_ ∨ P1_0_ k_) ∨ w.heap.size ≤ k_) ∧ k_ ≠ gb444)) (valA HO_0.out) hg hat); replace HO_445000 := Aside0.mk (Kd.V_afterv (ok := (fun k_ => ((P0_ k_ ∨ P1_0_ k_) ∨ w.heap.size ≤ k_) ∧ k_ ≠ gb444)) (valA HO_445000.out) hg hat); replace BK444 := grB BK444 hg (hne := (Kd.N_away HO491.out (fun _ hk => by first | exact hk.2 | exact hk | (simp_all; done)))); replace HO488 := Aside0.mk (Kd.V_afterv (ok := (fun k_ => ((P0_ k_ ∨ P1_0_ k_) ∨ w.heap.size ≤ k_) ∧ k_ ≠ gb444)) (valA HO488.out) hg hat); replace HB := Aside0.mk (hb); clear HO491; clear ho hb hg hat; have q72 : (x5_1 : Int) ≤ ((l0.length : Int) : Int) := of_decide_eq_true asmA; obtain ⟨i072, hi072, _, hsz72, _⟩ := info_parts info60; have hroom72 : l0.length ≤ c0 := (Kd.V_reads' HO_0.out).2.1; have hC72 : Kd.F k60 _ _ A0 l0.length l0 := (Kd.V_at (base := w.heap.size) HO_0.out).2.2; have q072 : (0 : Int) ≤ (x5_1 : Int) := of_decide_eq_true asmA; have hcut72 := cut_from (P := Try.prog) 25 60 .i64 Try.underlying25 hi072 7 hsz72 A0 l0.length c0 x5_1 q072 q72; have hr72 := Kd.F_cut (m := (x5_1 : Int).toNat) (c := c0) hC72 (by omega) hroom72; obtain ⟨A72, hA72⟩ : ∃ A1, A1 = (if c0 = (x5_1 : Int).toNat then A0 else (A0 : Option Addr).map (·.add ((x5_1 : Int).toNat * 7))) := ⟨_, rfl⟩; obtain ⟨c72, hc72⟩ : ∃ c1, c1 = c0 - (x5_1 : Int).toNat := ⟨_, rfl⟩; have hy72 : y495.length = l0.length - (x5_1 : Int).toNat := (by rw [Ny495.out, List.length_drop] <;> omega); rw [show (l0).drop (x5_1 : Int).toNat = y495 from Ny495.out.symm] at hr72; replace hr72 : Kd.F k60 _ _ A72 y495.length y495 := (by rw [hA72]; exact hr72); rw [← hy72, ← hA72, ← hc72] at hcut72; have HO499 := Aside0.mk (show Kd.V k60 60 _ w.heap.size _ (.slice A72 y495.length c72) y495 from Kd.V_mk (by rw [hy72, hc72]; exact Nat.sub_le_sub_right hroom72 _) hr72); have HC499 := Aside0.mk (show y495.length ≤ c72 from by rw [hy72, hc72]; exact Nat.sub_le_sub_right hroom72 _); clear hr72 hC72 hroom72 hi072 hsz72 hc72; have KY72 := Aside0.mk hy72; have KA72 := Aside0.mk hA72; clear hy72 hA72; replace q72 := eq_true q72) | ((with_reducible refine gate_builtin (b := .append) (xs := #[.tmp 70, .tmp 73]) rfl ?_); at_builtin; refine Kd.N_append_rows k60 (w0 := w) w.heap.size rfl (.tmp 70) (.tmp 73) 25 60 (.agg #[(.slice none 0 0), (.int .u64 0), (.bool false), (.int .i64 0), (.int .u64 0), (.int .i64 0), (.int .i64 0)]) 72 rfl Try.underlying25 info60 rfl (by decide) (by omega) v493 y492 y495 _ _ _ (fun k_ => ((P0_ k_ ∨ P1_0_ k_) ∨ w.heap.size ≤ k_) ∧ k_ ≠ gb444) (fun k_ => ((fun k_ => ((P0_ k_ ∨ P1_0_ k_) ∨ w.heap.size ≤ k_) ∧ k_ ≠ gb444)) k_ ∧ some k_ ≠ (v493 : Value).ownBlock) rfl rfl ?aO ?aR (fun _ hk => hk) ?aF ?aB ?aS ?aL ?_; (case aR => exact (by skip; exact Kd.V_F (Kd.V_mono (ok' := (fun k_ => ((fun k_ => ((P0_ k_ ∨ P1_0_ k_) ∨ w.heap.size ≤ k_) ∧ k_ ≠ gb444)) k_ ∧ some k_ ≠ (v493 : Value).ownBlock)) (HO499.out) (fun k_ hk => by first | exact ⟨⟨hk.1.1, hk.1.2⟩, hk.2⟩ | exact hk | (simp_all; done))))); (case aB => exact (belB HB.out GE444.out)); (case aF => exact (fun k_ hk => ⟨(.inr (Nat.le_trans (below_size (belB HB.out GE444.out)) hk)), frB BK444 k_ hk⟩)); (case aO => exact (nilA HO494.out)); (case aS => exact (below_size (belB HB.out GE444.out))); (case aL => have := LMc65.out; omega); intro v501 w73 ho hb hg hat; rw [← Ny500.out] at ho; have HO502 := Aside0.mk (ho); replace HO_0 := Aside0.mk (Kd.V_afterv (ok := (fun k_ => ((P0_ k_ ∨ P1_0_ k_) ∨ w.heap.size ≤ k_) ∧ k_ ≠ gb444)) (valA HO_0.out) hg hat); replace HO_445000 := Aside0.mk (Kd.V_afterv (ok := (fun k_ => ((P0_ k_ ∨ P1_0_ k_) ∨ w.heap.size ≤ k_) ∧ k_ ≠ gb444)) (valA HO_445000.out) hg hat); replace BK444 := grB BK444 hg (hne := (Kd.N_away HO494.out (fun _ hk => by first | exact hk.2 | exact hk | (simp_all; done)))); replace HO488 := Aside0.mk (Kd.V_afterv (ok := (fun k_ => ((P0_ k_ ∨ P1_0_ k_) ∨ w.heap.size ≤ k_) ∧ k_ ≠ gb444)) (valA HO488.out) hg hat); replace HO499 := Aside0.mk (Kd.V_afterv (ok := (fun k_ => ((P0_ k_ ∨ P1_0_ k_) ∨ w.heap.size ≤ k_) ∧ k_ ≠ gb444)) (valA HO499.out) hg hat); replace HB := Aside0.mk (hb); clear HO494; clear ho hb hg hat))
    go_ret
    exact ⟨_, ret1, by (with_reducible repeat (first | apply Kd.N_alloc | apply Kd.N_drewN | apply Kd.N_drew)); exact Kd.N_mono HO502.out (fun _ hk => by first | exact hk.1 | exact hk | (simp_all; done)), belB HB.out GE444.out⟩
   rw [if_pos c4] at H
   have c4b0 := decide_eq_true c4
   clear c4
   replace H := ifN H
   obtain ⟨c5, H⟩ := H
   have c5b0 := decide_eq_true c5
   clear c5
   by_cases c6 : (Op.bytesLess ((strOfNums ((rd_T60 l0 x5_1).f0)).toList) ((strOfNums l1_0).toList)) = true
   ·rw [if_pos c6] at H
    have c6b0 : (Op.bytesLess ((strOfNums ((rd_T60 l0 x5_1).f0)).toList) ((strOfNums l1_0).toList)) = true := c6
    clear c6
    have H' := Aside0.mk H
    clear H
    try go_wp2
    replace HO_0 := Aside0.mk (Kd.V_drew HO_0.out)
    replace HO_445000 := Aside0.mk (Kd.V_drew HO_445000.out)
    replace BK444 := Aside0.mk (blk_drew BK444.out)
    replace HB := Aside0.mk (below_drew1 HB.out)
    have p445 : 0 ≤ (x5_1 : Int) := of_decide_eq_true asmA
    have q445 : x5_1 < (l0.length : Int) := of_decide_eq_true asmA
    obtain ⟨ad445, A445_0, c445_0, e445, hx445_0, hx445_1, hx445_2, hx445_3, hx445_4, hx445_5, hx445_6, hl445_0, hi445_0⟩ := at_T60 (Kd.V_reads' HO_0.out).2.2 x5_1 p445 q445
    cases e445
    obtain ⟨ce445, hce445, hMe445, hcc445⟩ := Kd.V_get HO_0.out z60 x5_1 p445 (by first | exact q445 | exact of_decide_eq_true asmA | (have e_ := (Kd.V_reads' HO_0.out).1; omega))
    obtain ⟨ua445_0, uc445_0, rfl, ul445_0, ge445_0⟩ := k60_openF hMe445
    have hv445_0 := hcc445 0 _ rfl
    rw [Nat.add_zero] at hv445_0
    replace hv445_0 := Option.some.inj (hv445_0.symm.trans hx445_0)
    injection hv445_0 with hva_ hvn_ hvc_
    rw [hva_] at ge445_0
    rw [hvc_] at ul445_0
    have HL445_0 := Aside0.mk (show Kd.V (Kd.int .u8) 5 _ w.heap.size _ _ ((rd_T60 l0 x5_1).f0) from Kd.V_mk ul445_0 ge445_0)
    clear hva_ hvn_ hvc_ ge445_0 ul445_0
    clear hcc445 hce445
    have HR445_0 := Aside0.mk hi445_0
    have HC445_0 := Aside0.mk hl445_0
    clear hi445_0 hl445_0
    replace p445 := eq_true p445
    replace q445 := eq_true q445
    have hcv8 := Kd.C_string (P := Try.prog) (A := A445_0) (c := c445_0) Try.underlying58 Try.underlying5 Try.underlying9 (celA HR445_0.out)
    have hcv9 := fun (n_ : Nat) => Kd.C_string (P := Try.prog) (A := A445_0) (c := c445_0) Try.underlying58 Try.underlying5 Try.underlying9 (Kd.C_drewN (celA HR445_0.out) n_)
    have hcv10 := Kd.C_string (P := Try.prog) (A := A1_0) (c := c1_0) Try.underlying58 Try.underlying5 Try.underlying9 (Kd.V_reads' HO_445000.out).2.2
    refine start_ (n := 16) (S := fun w' => w'.cell? ⟨gb444, 0, none⟩ = some (.slice A1_0 l1_0.length c1_0) ∧ w'.cell? ⟨gb444, 1, none⟩ = some (.int .u64 a1_1) ∧ w'.cell? ⟨gb444, 2, none⟩ = some (.bool a1_2) ∧ w'.cell? ⟨gb444, 3, none⟩ = some (.int .i64 a1_3) ∧ w'.cell? ⟨gb444, 4, none⟩ = some (.int .u64 a1_4) ∧ w'.cell? ⟨gb444, 5, none⟩ = some (.int .i64 a1_5) ∧ w'.cell? ⟨gb444, 6, none⟩ = some (.int .i64 a1_6) ∧ w'.cell? (ad445.add ((x5_1).toNat * 7)) = some (.slice A445_0 ((rd_T60 l0 x5_1).f0).length c445_0) ∧ w'.cell? ⟨(ad445.add ((x5_1).toNat * 7)).block, (ad445.add ((x5_1).toNat * 7)).off + 1, none⟩ = some (.int .u64 ((rd_T60 l0 x5_1).f1.f0)) ∧ w'.cell? ⟨(ad445.add ((x5_1).toNat * 7)).block, (ad445.add ((x5_1).toNat * 7)).off + 2, none⟩ = some (.bool ((rd_T60 l0 x5_1).f1.f1)) ∧ w'.cell? ⟨(ad445.add ((x5_1).toNat * 7)).block, (ad445.add ((x5_1).toNat * 7)).off + 3, none⟩ = some (.int .i64 ((rd_T60 l0 x5_1).f1.f2.f0)) ∧ w'.cell? ⟨(ad445.add ((x5_1).toNat * 7)).block, (ad445.add ((x5_1).toNat * 7)).off + 4, none⟩ = some (.int .u64 ((rd_T60 l0 x5_1).f1.f2.f1)) ∧ w'.cell? ⟨(ad445.add ((x5_1).toNat * 7)).block, (ad445.add ((x5_1).toNat * 7)).off + 5, none⟩ = some (.int .i64 ((rd_T60 l0 x5_1).f1.f3)) ∧ w'.cell? ⟨(ad445.add ((x5_1).toNat * 7)).block, (ad445.add ((x5_1).toNat * 7)).off + 6, none⟩ = some (.int .i64 ((rd_T60 l0 x5_1).f1.f4)) ∧ (convert 58 9 (.slice A445_0 ((rd_T60 l0 x5_1).f0).length c445_0)).run Try.prog w' = .ok (.string (strOfNums ((rd_T60 l0 x5_1).f0))) w' ∧ (convert 58 9 (.slice A1_0 (l1_0).length c1_0)).run Try.prog w' = .ok (.string (strOfNums (l1_0))) w') (ds := []) #[false, false, false, false, false, false, false, false, false, false, false, false, false, false, false, false] (by kernel_rfl) rfl rfl ⟨(blk_cell BK444.out 0).trans rfl, (blk_cell BK444.out 1).trans rfl, (blk_cell BK444.out 2).trans rfl, (blk_cell BK444.out 3).trans rfl, (blk_cell BK444.out 4).trans rfl, (blk_cell BK444.out 5).trans rfl, (blk_cell BK444.out 6).trans rfl, hx445_0, hx445_1, hx445_2, hx445_3, hx445_4, hx445_5, hx445_6, (Kd.C_string (P := Try.prog) (A := A445_0) (c := c445_0) Try.underlying58 Try.underlying5 Try.underlying9 (celA HR445_0.out)), (Kd.C_string (P := Try.prog) (A := A1_0) (c := c1_0) Try.underlying58 Try.underlying5 Try.underlying9 (Kd.V_reads' HO_445000.out).2.2)⟩ (fun hHeld => ?_); refine with_tabW rickyardref14_Put.tab2 rickyardref14_Put.bits2 (fun HT_ HW_ => ?_)
    generalize wr.drew = w7 at HO_0 HO_445000 BK444 HB HL445_0 HR445_0 hx445_0 hx445_1 hx445_2 hx445_3 hx445_4 hx445_5 hx445_6 hHeld ⊢
    refine pureD 0 7 HT_ ?_
    refine pureD 1 8 HT_ ?_
    refine pureD 2 9 HT_ ?_
    refine pureD 3 10 HT_ ?_
    refine pureD 4 11 HT_ ?_
    refine pureD 5 12 HT_ ?_
    refine pureD 6 13 HT_ ?_
    refine pureD 7 14 HT_ ?_
    refine pureD 8 15 HT_ ?_
    refine pureD 11 18 HT_ ?_
    refine takeD 9 16 HT_ HW_ hHeld ?_
    refine takeD 10 17 HT_ HW_ hHeld ?_
    refine takeD 12 19 HT_ HW_ hHeld ?_
    refine takeD 13 20 HT_ HW_ hHeld ?_
    refine pureD 14 21 HT_ ?_
    refine pureD 15 22 HT_ ?_
    refine done_ (done_of HT_.out (by kernel_rfl)) ?_
    try go_wp2
    go_roundg k1
    case measure => have := HK1.out; omega
    case rel => exact ⟨(wrap64 (x5_1 + 1)), relA, H', ⟨by have := HK1.out; omega⟩, ⟨valA HO_0.out⟩, ⟨valA HO_445000.out⟩, ⟨blkA BK444.out⟩, ⟨belB HB.out GE444.out⟩⟩
   rw [if_neg c6] at H
   have c6b0 : (Op.bytesLess ((strOfNums ((rd_T60 l0 x5_1).f0)).toList) ((strOfNums l1_0).toList)) = false := by simpa using c6
   clear c6
   have c12b0 := eq_true (of_decide_eq_true asmA : 0 ≤ x5_1)
   replace H := ifN H
   obtain ⟨c13, H⟩ := H
   have c13b0 := eq_true c13
   have c13b1 := decide_eq_true c13
   clear c13
   obtain ⟨y446, hy446⟩ : ∃ y_ : List (S60), y_ = (l0.take (x5_1 : Int).toNat) := ⟨_, rfl⟩
   replace H : (if ([] : List (S60)).length + y446.length < 1954687338268 then ((some (([] : List (S60)) ++ y446 : List (S60))).bind fun y451 => (if (strOfNums ((rd_T60 l0 x5_1).f0)).toList = (strOfNums l1_0).toList then ((rickyardref02_Merge.f k1 ((rd_T60 l0 x5_1).f1.f0) ((rd_T60 l0 x5_1).f1.f1) ((rd_T60 l0 x5_1).f1.f2.f0) ((rd_T60 l0 x5_1).f1.f2.f1) ((rd_T60 l0 x5_1).f1.f3) ((rd_T60 l0 x5_1).f1.f4) a1_1 a1_2 a1_3 a1_4 a1_5 a1_6).bind fun bt456 => (if y451.length < 1954687338268 then ((some (y451 ++ [(⟨l1_0, (⟨bt456.1, bt456.2.1, (⟨bt456.2.2.1, bt456.2.2.2.1⟩ : S40), bt456.2.2.2.2.1, bt456.2.2.2.2.2⟩ : S42)⟩ : S60)] : List (S60))).bind fun y462 => (if 0 ≤ (wrap64 (x5_1 + 1)) then (if (wrap64 (x5_1 + 1)) ≤ (l0.length : Int) then ((some (l0.drop ((wrap64 (x5_1 + 1)) : Int).toNat : List (S60))).bind fun y465 => (if y462.length + y465.length < 1954687338268 then (some (y462 ++ y465)) else (none))) else (none)) else (none))) else (none))) else (if y451.length < 1954687338268 then ((some (y451 ++ [(⟨l1_0, (⟨a1_1, a1_2, (⟨a1_3, a1_4⟩ : S40), a1_5, a1_6⟩ : S42)⟩ : S60)] : List (S60))).bind fun y473 => ((some (l0.drop (x5_1 : Int).toNat : List (S60))).bind fun y476 => (if y473.length + y476.length < 1954687338268 then (some (y473 ++ y476)) else (none)))) else (none)))) else (none)) = some r := nmA hy446 H
   have Ny446 := Aside0.mk hy446
   clear hy446
   replace H := ifN H
   obtain ⟨c14, H⟩ := H
   have LMc14 := Aside0.mk c14
   clear c14
   obtain ⟨y451, hy451⟩ : ∃ y_ : List (S60), y_ = (([] : List (S60)) ++ y446) := ⟨_, rfl⟩
   replace H : (if (strOfNums ((rd_T60 l0 x5_1).f0)).toList = (strOfNums l1_0).toList then ((rickyardref02_Merge.f k1 ((rd_T60 l0 x5_1).f1.f0) ((rd_T60 l0 x5_1).f1.f1) ((rd_T60 l0 x5_1).f1.f2.f0) ((rd_T60 l0 x5_1).f1.f2.f1) ((rd_T60 l0 x5_1).f1.f3) ((rd_T60 l0 x5_1).f1.f4) a1_1 a1_2 a1_3 a1_4 a1_5 a1_6).bind fun bt456 => (if y451.length < 1954687338268 then ((some (y451 ++ [(⟨l1_0, (⟨bt456.1, bt456.2.1, (⟨bt456.2.2.1, bt456.2.2.2.1⟩ : S40), bt456.2.2.2.2.1, bt456.2.2.2.2.2⟩ : S42)⟩ : S60)] : List (S60))).bind fun y462 => (if 0 ≤ (wrap64 (x5_1 + 1)) then (if (wrap64 (x5_1 + 1)) ≤ (l0.length : Int) then ((some (l0.drop ((wrap64 (x5_1 + 1)) : Int).toNat : List (S60))).bind fun y465 => (if y462.length + y465.length < 1954687338268 then (some (y462 ++ y465)) else (none))) else (none)) else (none))) else (none))) else (if y451.length < 1954687338268 then ((some (y451 ++ [(⟨l1_0, (⟨a1_1, a1_2, (⟨a1_3, a1_4⟩ : S40), a1_5, a1_6⟩ : S42)⟩ : S60)] : List (S60))).bind fun y473 => ((some (l0.drop (x5_1 : Int).toNat : List (S60))).bind fun y476 => (if y473.length + y476.length < 1954687338268 then (some (y473 ++ y476)) else (none)))) else (none))) = some r := nmA hy451 H
   have Ny451 := Aside0.mk hy451
   clear hy451
   by_cases c15 : (strOfNums ((rd_T60 l0 x5_1).f0)).toList = (strOfNums l1_0).toList
   rotate_left
   ·rw [if_neg c15] at H
    have c15b0 := beq_eq_false_iff_ne.mpr c15
    have c15b1 := bne_iff_ne.mpr c15
    replace H := ifN H
    obtain ⟨c39, H⟩ := H
    have LMc39 := Aside0.mk c39
    clear c39
    obtain ⟨y473, hy473⟩ : ∃ y_ : List (S60), y_ = (y451 ++ [(⟨l1_0, (⟨a1_1, a1_2, (⟨a1_3, a1_4⟩ : S40), a1_5, a1_6⟩ : S42)⟩ : S60)]) := ⟨_, rfl⟩
    replace H : ((some (l0.drop (x5_1 : Int).toNat : List (S60))).bind fun y476 => (if y473.length + y476.length < 1954687338268 then (some (y473 ++ y476)) else (none))) = some r := nmA hy473 H
    have Ny473 := Aside0.mk hy473
    clear hy473
    have c40b0 := eq_true (of_decide_eq_true asmA : 0 ≤ x5_1)
    have c41b0 := eq_true (of_decide_eq_true asmA : x5_1 ≤ (l0.length : Int))
    obtain ⟨y476, hy476⟩ : ∃ y_ : List (S60), y_ = (l0.drop (x5_1 : Int).toNat) := ⟨_, rfl⟩
    replace H : (if y473.length + y476.length < 1954687338268 then (some (y473 ++ y476)) else (none)) = some r := nmA hy476 H
    have Ny476 := Aside0.mk hy476
    clear hy476
    replace H := ifN H
    obtain ⟨c42, H⟩ := H
    have LMc42 := Aside0.mk c42
    clear c42
    obtain ⟨y481, hy481⟩ : ∃ y_ : List (S60), y_ = (y473 ++ y476) := ⟨_, rfl⟩
    replace H : (some y481) = some r := nmA hy481 H
    have Ny481 := Aside0.mk hy481
    clear hy481
    obtain rfl := Option.some.inj H
    try go_wp2
    replace HO_0 := Aside0.mk (Kd.V_drew HO_0.out)
    replace HO_445000 := Aside0.mk (Kd.V_drew HO_445000.out)
    replace BK444 := Aside0.mk (blk_drew BK444.out)
    replace HB := Aside0.mk (below_drew1 HB.out)
    have p445 : 0 ≤ (x5_1 : Int) := of_decide_eq_true asmA
    have q445 : x5_1 < (l0.length : Int) := of_decide_eq_true asmA
    obtain ⟨ad445, A445_0, c445_0, e445, hx445_0, hx445_1, hx445_2, hx445_3, hx445_4, hx445_5, hx445_6, hl445_0, hi445_0⟩ := at_T60 (Kd.V_reads' HO_0.out).2.2 x5_1 p445 q445
    cases e445
    obtain ⟨ce445, hce445, hMe445, hcc445⟩ := Kd.V_get HO_0.out z60 x5_1 p445 (by first | exact q445 | exact of_decide_eq_true asmA | (have e_ := (Kd.V_reads' HO_0.out).1; omega))
    obtain ⟨ua445_0, uc445_0, rfl, ul445_0, ge445_0⟩ := k60_openF hMe445
    have hv445_0 := hcc445 0 _ rfl
    rw [Nat.add_zero] at hv445_0
    replace hv445_0 := Option.some.inj (hv445_0.symm.trans hx445_0)
    injection hv445_0 with hva_ hvn_ hvc_
    rw [hva_] at ge445_0
    rw [hvc_] at ul445_0
    have HL445_0 := Aside0.mk (show Kd.V (Kd.int .u8) 5 _ w.heap.size _ _ ((rd_T60 l0 x5_1).f0) from Kd.V_mk ul445_0 ge445_0)
    clear hva_ hvn_ hvc_ ge445_0 ul445_0
    clear hcc445 hce445
    have HR445_0 := Aside0.mk hi445_0
    have HC445_0 := Aside0.mk hl445_0
    clear hi445_0 hl445_0
    replace p445 := eq_true p445
    replace q445 := eq_true q445
    have hcv44 := Kd.C_string (P := Try.prog) (A := A445_0) (c := c445_0) Try.underlying58 Try.underlying5 Try.underlying9 (celA HR445_0.out)
    have hcv45 := fun (n_ : Nat) => Kd.C_string (P := Try.prog) (A := A445_0) (c := c445_0) Try.underlying58 Try.underlying5 Try.underlying9 (Kd.C_drewN (celA HR445_0.out) n_)
    have hcv46 := Kd.C_string (P := Try.prog) (A := A1_0) (c := c1_0) Try.underlying58 Try.underlying5 Try.underlying9 (Kd.V_reads' HO_445000.out).2.2
    refine start_ (n := 16) (S := fun w' => w'.cell? ⟨gb444, 0, none⟩ = some (.slice A1_0 l1_0.length c1_0) ∧ w'.cell? ⟨gb444, 1, none⟩ = some (.int .u64 a1_1) ∧ w'.cell? ⟨gb444, 2, none⟩ = some (.bool a1_2) ∧ w'.cell? ⟨gb444, 3, none⟩ = some (.int .i64 a1_3) ∧ w'.cell? ⟨gb444, 4, none⟩ = some (.int .u64 a1_4) ∧ w'.cell? ⟨gb444, 5, none⟩ = some (.int .i64 a1_5) ∧ w'.cell? ⟨gb444, 6, none⟩ = some (.int .i64 a1_6) ∧ w'.cell? (ad445.add ((x5_1).toNat * 7)) = some (.slice A445_0 ((rd_T60 l0 x5_1).f0).length c445_0) ∧ w'.cell? ⟨(ad445.add ((x5_1).toNat * 7)).block, (ad445.add ((x5_1).toNat * 7)).off + 1, none⟩ = some (.int .u64 ((rd_T60 l0 x5_1).f1.f0)) ∧ w'.cell? ⟨(ad445.add ((x5_1).toNat * 7)).block, (ad445.add ((x5_1).toNat * 7)).off + 2, none⟩ = some (.bool ((rd_T60 l0 x5_1).f1.f1)) ∧ w'.cell? ⟨(ad445.add ((x5_1).toNat * 7)).block, (ad445.add ((x5_1).toNat * 7)).off + 3, none⟩ = some (.int .i64 ((rd_T60 l0 x5_1).f1.f2.f0)) ∧ w'.cell? ⟨(ad445.add ((x5_1).toNat * 7)).block, (ad445.add ((x5_1).toNat * 7)).off + 4, none⟩ = some (.int .u64 ((rd_T60 l0 x5_1).f1.f2.f1)) ∧ w'.cell? ⟨(ad445.add ((x5_1).toNat * 7)).block, (ad445.add ((x5_1).toNat * 7)).off + 5, none⟩ = some (.int .i64 ((rd_T60 l0 x5_1).f1.f3)) ∧ w'.cell? ⟨(ad445.add ((x5_1).toNat * 7)).block, (ad445.add ((x5_1).toNat * 7)).off + 6, none⟩ = some (.int .i64 ((rd_T60 l0 x5_1).f1.f4)) ∧ (convert 58 9 (.slice A445_0 ((rd_T60 l0 x5_1).f0).length c445_0)).run Try.prog w' = .ok (.string (strOfNums ((rd_T60 l0 x5_1).f0))) w' ∧ (convert 58 9 (.slice A1_0 (l1_0).length c1_0)).run Try.prog w' = .ok (.string (strOfNums (l1_0))) w') (ds := []) #[false, false, false, false, false, false, false, false, false, false, false, false, false, false, false, false] (by kernel_rfl) rfl rfl ⟨(blk_cell BK444.out 0).trans rfl, (blk_cell BK444.out 1).trans rfl, (blk_cell BK444.out 2).trans rfl, (blk_cell BK444.out 3).trans rfl, (blk_cell BK444.out 4).trans rfl, (blk_cell BK444.out 5).trans rfl, (blk_cell BK444.out 6).trans rfl, hx445_0, hx445_1, hx445_2, hx445_3, hx445_4, hx445_5, hx445_6, (Kd.C_string (P := Try.prog) (A := A445_0) (c := c445_0) Try.underlying58 Try.underlying5 Try.underlying9 (celA HR445_0.out)), (Kd.C_string (P := Try.prog) (A := A1_0) (c := c1_0) Try.underlying58 Try.underlying5 Try.underlying9 (Kd.V_reads' HO_445000.out).2.2)⟩ (fun hHeld => ?_); refine with_tabW rickyardref14_Put.tab2 rickyardref14_Put.bits2 (fun HT_ HW_ => ?_)
    generalize wr.drew = w43 at HO_0 HO_445000 BK444 HB HL445_0 HR445_0 hx445_0 hx445_1 hx445_2 hx445_3 hx445_4 hx445_5 hx445_6 hHeld ⊢
    refine pureD 0 7 HT_ ?_
    refine pureD 1 8 HT_ ?_
    refine pureD 2 9 HT_ ?_
    refine pureD 3 10 HT_ ?_
    refine pureD 4 11 HT_ ?_
    refine pureD 5 12 HT_ ?_
    refine pureD 6 13 HT_ ?_
    refine pureD 7 14 HT_ ?_
    refine pureD 8 15 HT_ ?_
    refine pureD 11 18 HT_ ?_
    refine takeD 9 16 HT_ HW_ hHeld ?_
    refine takeD 10 17 HT_ HW_ hHeld ?_
    refine takeD 12 19 HT_ HW_ hHeld ?_
    refine takeD 13 20 HT_ HW_ hHeld ?_
    refine pureD 14 21 HT_ ?_
    refine pureD 15 22 HT_ ?_
    refine done_ (done_of HT_.out (by kernel_rfl)) ?_
    have q48 : (x5_1 : Int) ≤ ((l0.length : Int) : Int) := of_decide_eq_true asmA
    obtain ⟨i048, hi048, _, hsz48, _⟩ := info_parts info60
    have hroom48 : l0.length ≤ c0 := (Kd.V_reads' HO_0.out).2.1
    have hC48 : Kd.F k60 _ _ (some ad445) l0.length l0 := (Kd.V_at (base := w.heap.size) HO_0.out).2.2
    have hcut48 := cut_to (P := Try.prog) 25 60 .i64 Try.underlying25 hi048 (some ad445) l0.length c0 x5_1 (of_decide_eq_true asmA) q48 hroom48
    have hr48 := Kd.F_take (m := (x5_1 : Int).toNat) hC48 (by omega)
    have hy48 : y446.length = (x5_1 : Int).toNat := (by rw [Ny446.out, List.length_take]; omega)
    rw [← Ny446.out] at hr48
    rw [← hy48] at hcut48
    have HO450 := Aside0.mk (show Kd.V k60 60 _ w.heap.size _ (.slice (some ad445) y446.length c0) y446 from Kd.V_mk (by omega) hr48)
    have HC450 := Aside0.mk (show y446.length ≤ c0 from by omega)
    clear hr48 hC48 hroom48 hi048 hsz48
    have KY48 := Aside0.mk hy48
    clear hy48
    replace q48 := eq_true q48
    try go_wp2_with (first | ((with_reducible refine gate_builtin (b := .append) (xs := #[.tmp 25, .tmp 28]) rfl ?_); at_builtin; refine Kd.N_append_rows k60 (w0 := w) w.heap.size rfl (.tmp 25) (.tmp 28) 25 60 (.agg #[(.slice none 0 0), (.int .u64 0), (.bool false), (.int .i64 0), (.int .u64 0), (.int .i64 0), (.int .i64 0)]) 72 rfl Try.underlying25 info60 rfl (by decide) (by omega) (.slice none 0 0) ([] : List (S60)) y446 _ _ _ (fun k_ => ((P0_ k_ ∨ P1_0_ k_) ∨ w.heap.size ≤ k_) ∧ k_ ≠ gb444) (fun k_ => ((fun k_ => ((P0_ k_ ∨ P1_0_ k_) ∨ w.heap.size ≤ k_) ∧ k_ ≠ gb444)) k_ ∧ some k_ ≠ (.slice none 0 0 : Value).ownBlock) rfl rfl ?aO ?aR (fun _ hk => hk) ?aF ?aB ?aS ?aL ?_; (case aR => exact (by skip; exact Kd.V_F (Kd.V_mono (ok' := (fun k_ => ((fun k_ => ((P0_ k_ ∨ P1_0_ k_) ∨ w.heap.size ≤ k_) ∧ k_ ≠ gb444)) k_ ∧ some k_ ≠ (.slice none 0 0 : Value).ownBlock)) (HO450.out) (fun k_ hk => ⟨⟨hk.1, hk.2⟩, (by simp [Value.ownBlock])⟩)))); (case aB => exact (belB HB.out GE444.out)); (case aF => exact (fun k_ hk => ⟨(.inr (Nat.le_trans (below_size (belB HB.out GE444.out)) hk)), frB BK444 k_ hk⟩)); (case aO => exact ((Kd.N_nil _ _ _ _ (fun k_ => ((P0_ k_ ∨ P1_0_ k_) ∨ w.heap.size ≤ k_) ∧ k_ ≠ gb444)))); (case aS => exact (below_size (belB HB.out GE444.out))); (case aL => have := LMc14.out; omega); intro v452 w49 ho hb hg hat; rw [← Ny451.out] at ho; have HO453 := Aside0.mk (ho); replace HO_0 := Aside0.mk (Kd.V_afterv (Kd.V_apart_nil (valA HO_0.out)) hg hat); replace HO_445000 := Aside0.mk (Kd.V_afterv (Kd.V_apart_nil (valA HO_445000.out)) hg hat); replace BK444 := grB BK444 hg (hne := (by simp [Value.ownBlock])); replace HL445_0 := Aside0.mk (Kd.V_afterv (Kd.V_apart_nil (valA HL445_0.out)) hg hat); replace HO450 := Aside0.mk (Kd.V_afterv (Kd.V_apart_nil (valA HO450.out)) hg hat); replace HB := Aside0.mk (hb); clear ho hb hg hat))
    replace HO_0 := Aside0.mk (Kd.V_drew HO_0.out)
    replace HO_445000 := Aside0.mk (Kd.V_drew HO_445000.out)
    replace HL445_0 := Aside0.mk (Kd.V_drew HL445_0.out)
    replace HO450 := Aside0.mk (Kd.V_drew HO450.out)
    replace HO453 := Aside0.mk (Kd.N_drew HO453.out)
    replace BK444 := Aside0.mk (blk_drew BK444.out)
    replace HB := Aside0.mk (below_drew1 HB.out)
    have p454 : 0 ≤ (x5_1 : Int) := of_decide_eq_true asmA
    have q454 : x5_1 < (l0.length : Int) := of_decide_eq_true asmA
    obtain ⟨ad454, A454_0, c454_0, e454, hx454_0, hx454_1, hx454_2, hx454_3, hx454_4, hx454_5, hx454_6, hl454_0, hi454_0⟩ := at_T60 (Kd.V_reads' HO_0.out).2.2 x5_1 p454 q454
    obtain rfl : ad445 = ad454 := (by injection e454)
    obtain ⟨ce454, hce454, hMe454, hcc454⟩ := Kd.V_get HO_0.out z60 x5_1 p454 (by first | exact q454 | exact of_decide_eq_true asmA | (have e_ := (Kd.V_reads' HO_0.out).1; omega))
    obtain ⟨ua454_0, uc454_0, rfl, ul454_0, ge454_0⟩ := k60_openF hMe454
    have hv454_0 := hcc454 0 _ rfl
    rw [Nat.add_zero] at hv454_0
    replace hv454_0 := Option.some.inj (hv454_0.symm.trans hx454_0)
    injection hv454_0 with hva_ hvn_ hvc_
    rw [hva_] at ge454_0
    rw [hvc_] at ul454_0
    have HL454_0 := Aside0.mk (show Kd.V (Kd.int .u8) 5 _ w.heap.size _ _ ((rd_T60 l0 x5_1).f0) from Kd.V_mk ul454_0 ge454_0)
    clear hva_ hvn_ hvc_ ge454_0 ul454_0
    clear hcc454 hce454
    have HR454_0 := Aside0.mk hi454_0
    have HC454_0 := Aside0.mk hl454_0
    clear hi454_0 hl454_0
    replace p454 := eq_true p454
    replace q454 := eq_true q454
    have hcv51 := Kd.C_string (P := Try.prog) (A := A454_0) (c := c454_0) Try.underlying58 Try.underlying5 Try.underlying9 (celA HR454_0.out)
    have hcv52 := fun (n_ : Nat) => Kd.C_string (P := Try.prog) (A := A454_0) (c := c454_0) Try.underlying58 Try.underlying5 Try.underlying9 (Kd.C_drewN (celA HR454_0.out) n_)
    have hcv53 := Kd.C_string (P := Try.prog) (A := A1_0) (c := c1_0) Try.underlying58 Try.underlying5 Try.underlying9 (Kd.V_reads' HO_445000.out).2.2
    refine start_ (n := 16) (S := fun w' => w'.cell? ⟨gb444, 0, none⟩ = some (.slice A1_0 l1_0.length c1_0) ∧ w'.cell? ⟨gb444, 1, none⟩ = some (.int .u64 a1_1) ∧ w'.cell? ⟨gb444, 2, none⟩ = some (.bool a1_2) ∧ w'.cell? ⟨gb444, 3, none⟩ = some (.int .i64 a1_3) ∧ w'.cell? ⟨gb444, 4, none⟩ = some (.int .u64 a1_4) ∧ w'.cell? ⟨gb444, 5, none⟩ = some (.int .i64 a1_5) ∧ w'.cell? ⟨gb444, 6, none⟩ = some (.int .i64 a1_6) ∧ w'.cell? (ad445.add ((x5_1).toNat * 7)) = some (.slice A454_0 ((rd_T60 l0 x5_1).f0).length c454_0) ∧ w'.cell? ⟨(ad445.add ((x5_1).toNat * 7)).block, (ad445.add ((x5_1).toNat * 7)).off + 1, none⟩ = some (.int .u64 ((rd_T60 l0 x5_1).f1.f0)) ∧ w'.cell? ⟨(ad445.add ((x5_1).toNat * 7)).block, (ad445.add ((x5_1).toNat * 7)).off + 2, none⟩ = some (.bool ((rd_T60 l0 x5_1).f1.f1)) ∧ w'.cell? ⟨(ad445.add ((x5_1).toNat * 7)).block, (ad445.add ((x5_1).toNat * 7)).off + 3, none⟩ = some (.int .i64 ((rd_T60 l0 x5_1).f1.f2.f0)) ∧ w'.cell? ⟨(ad445.add ((x5_1).toNat * 7)).block, (ad445.add ((x5_1).toNat * 7)).off + 4, none⟩ = some (.int .u64 ((rd_T60 l0 x5_1).f1.f2.f1)) ∧ w'.cell? ⟨(ad445.add ((x5_1).toNat * 7)).block, (ad445.add ((x5_1).toNat * 7)).off + 5, none⟩ = some (.int .i64 ((rd_T60 l0 x5_1).f1.f3)) ∧ w'.cell? ⟨(ad445.add ((x5_1).toNat * 7)).block, (ad445.add ((x5_1).toNat * 7)).off + 6, none⟩ = some (.int .i64 ((rd_T60 l0 x5_1).f1.f4)) ∧ (convert 58 9 (.slice A454_0 ((rd_T60 l0 x5_1).f0).length c454_0)).run Try.prog w' = .ok (.string (strOfNums ((rd_T60 l0 x5_1).f0))) w' ∧ (convert 58 9 (.slice A1_0 (l1_0).length c1_0)).run Try.prog w' = .ok (.string (strOfNums (l1_0))) w') (ds := []) #[false, false, false, false, false, false, false, false, false, false, false, false, false, false, false, false] (by kernel_rfl) rfl rfl ⟨(blk_cell BK444.out 0).trans rfl, (blk_cell BK444.out 1).trans rfl, (blk_cell BK444.out 2).trans rfl, (blk_cell BK444.out 3).trans rfl, (blk_cell BK444.out 4).trans rfl, (blk_cell BK444.out 5).trans rfl, (blk_cell BK444.out 6).trans rfl, hx454_0, hx454_1, hx454_2, hx454_3, hx454_4, hx454_5, hx454_6, (Kd.C_string (P := Try.prog) (A := A454_0) (c := c454_0) Try.underlying58 Try.underlying5 Try.underlying9 (celA HR454_0.out)), (Kd.C_string (P := Try.prog) (A := A1_0) (c := c1_0) Try.underlying58 Try.underlying5 Try.underlying9 (Kd.V_reads' HO_445000.out).2.2)⟩ (fun hHeld => ?_); refine with_tabW rickyardref14_Put.tab6 rickyardref14_Put.bits6 (fun HT_ HW_ => ?_)
    generalize w49.drew = w50 at HO_0 HO_445000 HL445_0 HO450 HO453 BK444 HB HL454_0 HR454_0 hx454_0 hx454_1 hx454_2 hx454_3 hx454_4 hx454_5 hx454_6 hHeld ⊢
    refine pureD 0 30 HT_ ?_
    refine pureD 1 31 HT_ ?_
    refine pureD 2 32 HT_ ?_
    refine pureD 3 33 HT_ ?_
    refine pureD 4 34 HT_ ?_
    refine pureD 5 35 HT_ ?_
    refine pureD 6 36 HT_ ?_
    refine pureD 7 37 HT_ ?_
    refine pureD 8 38 HT_ ?_
    refine pureD 11 41 HT_ ?_
    refine takeD 9 39 HT_ HW_ hHeld ?_
    refine takeD 10 40 HT_ HW_ hHeld ?_
    refine takeD 12 42 HT_ HW_ hHeld ?_
    refine takeD 13 43 HT_ HW_ hHeld ?_
    refine pureD 14 44 HT_ ?_
    refine pureD 15 45 HT_ ?_
    refine done_ (done_of HT_.out (by kernel_rfl)) ?_
    obtain ⟨hcz55_0, hcz55_1, hcz55_2, hcz55_3, hcz55_4, hcz55_5, hcz55_6, hfz55_0, hfz55_1, hfz55_2, hfz55_3, hfz55_4, hfz55_5, hfz55_6⟩ := blk7 BK444
    try go_wp2_with (first | ((with_reducible refine gate_builtin (b := .append) (xs := #[.tmp 66, .tmp 68]) rfl ?_); at_builtin; refine Kd.N_append k60 (w0 := w) w.heap.size rfl (.tmp 66) (.tmp 68) 25 60 (.agg #[(.slice none 0 0), (.int .u64 0), (.bool false), (.int .i64 0), (.int .u64 0), (.int .i64 0), (.int .i64 0)]) 72 rfl Try.underlying25 info60 rfl (by decide) (by omega) v452 y451 (⟨l1_0, (⟨a1_1, a1_2, (⟨a1_3, a1_4⟩ : S40), a1_5, a1_6⟩ : S42)⟩ : S60) [.slice A1_0 l1_0.length c1_0, .int .u64 a1_1, .bool a1_2, .int .i64 a1_3, .int .u64 a1_4, .int .i64 a1_5, .int .i64 a1_6] (fun k_ => ((P0_ k_ ∨ P1_0_ k_) ∨ w.heap.size ≤ k_) ∧ k_ ≠ gb444) (fun k_ => ((fun k_ => ((P0_ k_ ∨ P1_0_ k_) ∨ w.heap.size ≤ k_) ∧ k_ ≠ gb444)) k_ ∧ some k_ ≠ (v452 : Value).ownBlock) rfl rfl ?aP (fun _ hk => hk) ?aF ?aO ?aB ?aS ?aL ?_; (case aP => exact (k60_mkF _ _ (⟨l1_0, (⟨a1_1, a1_2, (⟨a1_3, a1_4⟩ : S40), a1_5, a1_6⟩ : S42)⟩ : S60) (Kd.V_reads' (Kd.V_mono (ok' := (fun k_ => ((fun k_ => ((P0_ k_ ∨ P1_0_ k_) ∨ w.heap.size ≤ k_) ∧ k_ ≠ gb444)) k_ ∧ some k_ ≠ (v452 : Value).ownBlock)) (HO_445000.out) (fun k_ hk => by first | exact ⟨⟨hk.1, hk.2.2⟩, hk.2.1⟩ | exact hk | (simp_all; done)))).2.1 (Kd.V_F (Kd.V_mono (ok' := (fun k_ => ((fun k_ => ((P0_ k_ ∨ P1_0_ k_) ∨ w.heap.size ≤ k_) ∧ k_ ≠ gb444)) k_ ∧ some k_ ≠ (v452 : Value).ownBlock)) (HO_445000.out) (fun k_ hk => by first | exact ⟨⟨hk.1, hk.2.2⟩, hk.2.1⟩ | exact hk | (simp_all; done)))))); (case aB => exact (belB HB.out GE444.out)); (case aF => exact (fun k_ hk => ⟨(.inr (Nat.le_trans (below_size (belB HB.out GE444.out)) hk)), frB BK444 k_ hk⟩)); (case aO => exact (nilA HO453.out)); (case aS => exact (below_size (belB HB.out GE444.out))); (case aL => have := LMc39.out; omega); intro v474 w56 ho hb hg hat; rw [← Ny473.out] at ho; have HO475 := Aside0.mk (ho); replace HO_0 := Aside0.mk (Kd.V_afterv (ok := (fun k_ => ((P0_ k_ ∨ P1_0_ k_) ∨ w.heap.size ≤ k_) ∧ k_ ≠ gb444)) (by (with_reducible repeat (first | apply Kd.V_alloc | apply Kd.V_drewN | apply Kd.V_drew)); exact Kd.V_mono HO_0.out (fun _ hk => by first | exact ⟨⟨hk.1, hk.2.2⟩, hk.2.1⟩ | exact hk | (simp_all; done))) hg hat); replace HO_445000 := Aside0.mk (Kd.V_afterv (ok := (fun k_ => ((P0_ k_ ∨ P1_0_ k_) ∨ w.heap.size ≤ k_) ∧ k_ ≠ gb444)) (by (with_reducible repeat (first | apply Kd.V_alloc | apply Kd.V_drewN | apply Kd.V_drew)); exact Kd.V_mono HO_445000.out (fun _ hk => by first | exact ⟨⟨hk.1, hk.2.2⟩, hk.2.1⟩ | exact hk | (simp_all; done))) hg hat); replace BK444 := grB BK444 hg (hne := (Kd.N_away HO453.out (fun _ hk => by first | exact hk.2 | exact hk | (simp_all; done)))); replace HL445_0 := Aside0.mk (Kd.V_afterv (ok := (fun k_ => ((P0_ k_ ∨ P1_0_ k_) ∨ w.heap.size ≤ k_) ∧ k_ ≠ gb444)) (by (with_reducible repeat (first | apply Kd.V_alloc | apply Kd.V_drewN | apply Kd.V_drew)); exact Kd.V_mono HL445_0.out (fun _ hk => by first | exact ⟨⟨hk.1, hk.2.2⟩, hk.2.1⟩ | exact hk | (simp_all; done))) hg hat); replace HO450 := Aside0.mk (Kd.V_afterv (ok := (fun k_ => ((P0_ k_ ∨ P1_0_ k_) ∨ w.heap.size ≤ k_) ∧ k_ ≠ gb444)) (by (with_reducible repeat (first | apply Kd.V_alloc | apply Kd.V_drewN | apply Kd.V_drew)); exact Kd.V_mono HO450.out (fun _ hk => by first | exact ⟨⟨hk.1, hk.2.2⟩, hk.2.1⟩ | exact hk | (simp_all; done))) hg hat); replace HL454_0 := Aside0.mk (Kd.V_afterv (ok := (fun k_ => ((P0_ k_ ∨ P1_0_ k_) ∨ w.heap.size ≤ k_) ∧ k_ ≠ gb444)) (by (with_reducible repeat (first | apply Kd.V_alloc | apply Kd.V_drewN | apply Kd.V_drew)); exact Kd.V_mono HL454_0.out (fun _ hk => by first | exact ⟨⟨hk.1, hk.2.2⟩, hk.2.1⟩ | exact hk | (simp_all; done))) hg hat); replace HB := Aside0.mk (hb); clear HO453; clear ho hb hg hat; have q57 : (x5_1 : Int) ≤ ((l0.length : Int) : Int) := of_decide_eq_true asmA; obtain ⟨i057, hi057, _, hsz57, _⟩ := info_parts info60; have hroom57 : l0.length ≤ c0 := (Kd.V_reads' HO_0.out).2.1; have hC57 : Kd.F k60 _ _ (some ad445) l0.length l0 := (Kd.V_at (base := w.heap.size) HO_0.out).2.2; have q057 : (0 : Int) ≤ (x5_1 : Int) := of_decide_eq_true asmA; have hcut57 := cut_from (P := Try.prog) 25 60 .i64 Try.underlying25 hi057 7 hsz57 (some ad445) l0.length c0 x5_1 q057 q57; have hr57 := Kd.F_cut (m := (x5_1 : Int).toNat) (c := c0) hC57 (by omega) hroom57; obtain ⟨A57, hA57⟩ : ∃ A1, A1 = (if c0 = (x5_1 : Int).toNat then (some ad445) else ((some ad445) : Option Addr).map (·.add ((x5_1 : Int).toNat * 7))) := ⟨_, rfl⟩; obtain ⟨c57, hc57⟩ : ∃ c1, c1 = c0 - (x5_1 : Int).toNat := ⟨_, rfl⟩; have hy57 : y476.length = l0.length - (x5_1 : Int).toNat := (by rw [Ny476.out, List.length_drop] <;> omega); rw [show (l0).drop (x5_1 : Int).toNat = y476 from Ny476.out.symm] at hr57; replace hr57 : Kd.F k60 _ _ A57 y476.length y476 := (by rw [hA57]; exact hr57); rw [← hy57, ← hA57, ← hc57] at hcut57; have HO480 := Aside0.mk (show Kd.V k60 60 _ w.heap.size _ (.slice A57 y476.length c57) y476 from Kd.V_mk (by rw [hy57, hc57]; exact Nat.sub_le_sub_right hroom57 _) hr57); have HC480 := Aside0.mk (show y476.length ≤ c57 from by rw [hy57, hc57]; exact Nat.sub_le_sub_right hroom57 _); clear hr57 hC57 hroom57 hi057 hsz57 hc57; have KY57 := Aside0.mk hy57; have KA57 := Aside0.mk hA57; clear hy57 hA57; replace q57 := eq_true q57) | ((with_reducible refine gate_builtin (b := .append) (xs := #[.tmp 70, .tmp 73]) rfl ?_); at_builtin; refine Kd.N_append_rows k60 (w0 := w) w.heap.size rfl (.tmp 70) (.tmp 73) 25 60 (.agg #[(.slice none 0 0), (.int .u64 0), (.bool false), (.int .i64 0), (.int .u64 0), (.int .i64 0), (.int .i64 0)]) 72 rfl Try.underlying25 info60 rfl (by decide) (by omega) v474 y473 y476 _ _ _ (fun k_ => ((P0_ k_ ∨ P1_0_ k_) ∨ w.heap.size ≤ k_) ∧ k_ ≠ gb444) (fun k_ => ((fun k_ => ((P0_ k_ ∨ P1_0_ k_) ∨ w.heap.size ≤ k_) ∧ k_ ≠ gb444)) k_ ∧ some k_ ≠ (v474 : Value).ownBlock) rfl rfl ?aO ?aR (fun _ hk => hk) ?aF ?aB ?aS ?aL ?_; (case aR => exact (by skip; exact Kd.V_F (Kd.V_mono (ok' := (fun k_ => ((fun k_ => ((P0_ k_ ∨ P1_0_ k_) ∨ w.heap.size ≤ k_) ∧ k_ ≠ gb444)) k_ ∧ some k_ ≠ (v474 : Value).ownBlock)) (HO480.out) (fun k_ hk => by first | exact ⟨⟨hk.1.1, hk.1.2⟩, hk.2⟩ | exact hk | (simp_all; done))))); (case aB => exact (belB HB.out GE444.out)); (case aF => exact (fun k_ hk => ⟨(.inr (Nat.le_trans (below_size (belB HB.out GE444.out)) hk)), frB BK444 k_ hk⟩)); (case aO => exact (nilA HO475.out)); (case aS => exact (below_size (belB HB.out GE444.out))); (case aL => have := LMc42.out; omega); intro v482 w58 ho hb hg hat; rw [← Ny481.out] at ho; have HO483 := Aside0.mk (ho); replace HO_0 := Aside0.mk (Kd.V_afterv (ok := (fun k_ => ((P0_ k_ ∨ P1_0_ k_) ∨ w.heap.size ≤ k_) ∧ k_ ≠ gb444)) (valA HO_0.out) hg hat); replace HO_445000 := Aside0.mk (Kd.V_afterv (ok := (fun k_ => ((P0_ k_ ∨ P1_0_ k_) ∨ w.heap.size ≤ k_) ∧ k_ ≠ gb444)) (valA HO_445000.out) hg hat); replace BK444 := grB BK444 hg (hne := (Kd.N_away HO475.out (fun _ hk => by first | exact hk.2 | exact hk | (simp_all; done)))); replace HL445_0 := Aside0.mk (Kd.V_afterv (ok := (fun k_ => ((P0_ k_ ∨ P1_0_ k_) ∨ w.heap.size ≤ k_) ∧ k_ ≠ gb444)) (valA HL445_0.out) hg hat); replace HO450 := Aside0.mk (Kd.V_afterv (ok := (fun k_ => ((P0_ k_ ∨ P1_0_ k_) ∨ w.heap.size ≤ k_) ∧ k_ ≠ gb444)) (valA HO450.out) hg hat); replace HL454_0 := Aside0.mk (Kd.V_afterv (ok := (fun k_ => ((P0_ k_ ∨ P1_0_ k_) ∨ w.heap.size ≤ k_) ∧ k_ ≠ gb444)) (valA HL454_0.out) hg hat); replace HO480 := Aside0.mk (Kd.V_afterv (ok := (fun k_ => ((P0_ k_ ∨ P1_0_ k_) ∨ w.heap.size ≤ k_) ∧ k_ ≠ gb444)) (valA HO480.out) hg hat); replace HB := Aside0.mk (hb); clear HO475; clear ho hb hg hat))
    go_ret
    exact ⟨_, ret1, by (with_reducible repeat (first | apply Kd.N_alloc | apply Kd.N_drewN | apply Kd.N_drew)); exact Kd.N_mono HO483.out (fun _ hk => by first | exact hk.1 | exact hk | (simp_all; done)), belB HB.out GE444.out⟩
   rw [if_pos c15] at H
   have c15b0 := beq_iff_eq.mpr c15
   have c15b1 := bne_eq_false_iff_eq.mpr c15
   clear c15
   replace H := bnA H
   obtain ⟨⟨t456, t457, t458, t459, t460, t461⟩, A16, H⟩ := H
   replace H : (if y451.length < 1954687338268 then ((some (y451 ++ [(⟨l1_0, (⟨t456, t457, (⟨t458, t459⟩ : S40), t460, t461⟩ : S42)⟩ : S60)] : List (S60))).bind fun y462 => (if 0 ≤ (wrap64 (x5_1 + 1)) then (if (wrap64 (x5_1 + 1)) ≤ (l0.length : Int) then ((some (l0.drop ((wrap64 (x5_1 + 1)) : Int).toNat : List (S60))).bind fun y465 => (if y462.length + y465.length < 1954687338268 then (some (y462 ++ y465)) else (none))) else (none)) else (none))) else (none)) = some r := H
   replace H := ifN H
   obtain ⟨c17, H⟩ := H
   have LMc17 := Aside0.mk c17
   clear c17
   obtain ⟨y462, hy462⟩ : ∃ y_ : List (S60), y_ = (y451 ++ [(⟨l1_0, (⟨t456, t457, (⟨t458, t459⟩ : S40), t460, t461⟩ : S42)⟩ : S60)]) := ⟨_, rfl⟩
   replace H : (if 0 ≤ (wrap64 (x5_1 + 1)) then (if (wrap64 (x5_1 + 1)) ≤ (l0.length : Int) then ((some (l0.drop ((wrap64 (x5_1 + 1)) : Int).toNat : List (S60))).bind fun y465 => (if y462.length + y465.length < 1954687338268 then (some (y462 ++ y465)) else (none))) else (none)) else (none)) = some r := nmA hy462 H
   have Ny462 := Aside0.mk hy462
   clear hy462
   obtain ⟨ji18, hji18⟩ : ∃ j_ : Int, (wrap64 (x5_1 + 1)) = j_ := ⟨_, rfl⟩
   replace H : (if 0 ≤ (ji18) then (if (ji18) ≤ (l0.length : Int) then ((some (l0.drop ((ji18) : Int).toNat : List (S60))).bind fun y465 => (if y462.length + y465.length < 1954687338268 then (some (y462 ++ y465)) else (none))) else (none)) else (none)) = some r := by first | (rw [hji18] at H; exact H) | (simp only [hji18] at H ⊢; exact H)
   (try rw [hji18] at A16)
   have hji18w : (IntKind.i64.wrap (x5_1 + 1)) = ji18 := (i64_w _).trans hji18
   replace H := ifN H
   obtain ⟨c19, H⟩ := H
   have c19b0 := eq_true c19
   have c19b1 := decide_eq_true c19
   clear c19
   replace H := ifN H
   obtain ⟨c20, H⟩ := H
   have c20b0 := eq_true c20
   have c20b1 := decide_eq_true c20
   clear c20
   obtain ⟨y465, hy465⟩ : ∃ y_ : List (S60), y_ = (l0.drop ((ji18) : Int).toNat) := ⟨_, rfl⟩
   replace H : (if y462.length + y465.length < 1954687338268 then (some (y462 ++ y465)) else (none)) = some r := nmA hy465 H
   have Ny465 := Aside0.mk hy465
   clear hy465
   replace H := ifN H
   obtain ⟨c21, H⟩ := H
   have LMc21 := Aside0.mk c21
   clear c21
   obtain ⟨y470, hy470⟩ : ∃ y_ : List (S60), y_ = (y462 ++ y465) := ⟨_, rfl⟩
   replace H : (some y470) = some r := nmA hy470 H
   have Ny470 := Aside0.mk hy470
   clear hy470
   obtain rfl := Option.some.inj H
   try go_wp2
   replace HO_0 := Aside0.mk (Kd.V_drew HO_0.out)
   replace HO_445000 := Aside0.mk (Kd.V_drew HO_445000.out)
   replace BK444 := Aside0.mk (blk_drew BK444.out)
   replace HB := Aside0.mk (below_drew1 HB.out)
   have p445 : 0 ≤ (x5_1 : Int) := of_decide_eq_true asmA
   have q445 : x5_1 < (l0.length : Int) := of_decide_eq_true asmA
   obtain ⟨ad445, A445_0, c445_0, e445, hx445_0, hx445_1, hx445_2, hx445_3, hx445_4, hx445_5, hx445_6, hl445_0, hi445_0⟩ := at_T60 (Kd.V_reads' HO_0.out).2.2 x5_1 p445 q445
   cases e445
   obtain ⟨ce445, hce445, hMe445, hcc445⟩ := Kd.V_get HO_0.out z60 x5_1 p445 (by first | exact q445 | exact of_decide_eq_true asmA | (have e_ := (Kd.V_reads' HO_0.out).1; omega))
   obtain ⟨ua445_0, uc445_0, rfl, ul445_0, ge445_0⟩ := k60_openF hMe445
   have hv445_0 := hcc445 0 _ rfl
   rw [Nat.add_zero] at hv445_0
   replace hv445_0 := Option.some.inj (hv445_0.symm.trans hx445_0)
   injection hv445_0 with hva_ hvn_ hvc_
   rw [hva_] at ge445_0
   rw [hvc_] at ul445_0
   have HL445_0 := Aside0.mk (show Kd.V (Kd.int .u8) 5 _ w.heap.size _ _ ((rd_T60 l0 x5_1).f0) from Kd.V_mk ul445_0 ge445_0)
   clear hva_ hvn_ hvc_ ge445_0 ul445_0
   clear hcc445 hce445
   have HR445_0 := Aside0.mk hi445_0
   have HC445_0 := Aside0.mk hl445_0
   clear hi445_0 hl445_0
   replace p445 := eq_true p445
   replace q445 := eq_true q445
   have hcv23 := Kd.C_string (P := Try.prog) (A := A445_0) (c := c445_0) Try.underlying58 Try.underlying5 Try.underlying9 (celA HR445_0.out)
   have hcv24 := fun (n_ : Nat) => Kd.C_string (P := Try.prog) (A := A445_0) (c := c445_0) Try.underlying58 Try.underlying5 Try.underlying9 (Kd.C_drewN (celA HR445_0.out) n_)
   have hcv25 := Kd.C_string (P := Try.prog) (A := A1_0) (c := c1_0) Try.underlying58 Try.underlying5 Try.underlying9 (Kd.V_reads' HO_445000.out).2.2
   refine start_ (n := 16) (S := fun w' => w'.cell? ⟨gb444, 0, none⟩ = some (.slice A1_0 l1_0.length c1_0) ∧ w'.cell? ⟨gb444, 1, none⟩ = some (.int .u64 a1_1) ∧ w'.cell? ⟨gb444, 2, none⟩ = some (.bool a1_2) ∧ w'.cell? ⟨gb444, 3, none⟩ = some (.int .i64 a1_3) ∧ w'.cell? ⟨gb444, 4, none⟩ = some (.int .u64 a1_4) ∧ w'.cell? ⟨gb444, 5, none⟩ = some (.int .i64 a1_5) ∧ w'.cell? ⟨gb444, 6, none⟩ = some (.int .i64 a1_6) ∧ w'.cell? (ad445.add ((x5_1).toNat * 7)) = some (.slice A445_0 ((rd_T60 l0 x5_1).f0).length c445_0) ∧ w'.cell? ⟨(ad445.add ((x5_1).toNat * 7)).block, (ad445.add ((x5_1).toNat * 7)).off + 1, none⟩ = some (.int .u64 ((rd_T60 l0 x5_1).f1.f0)) ∧ w'.cell? ⟨(ad445.add ((x5_1).toNat * 7)).block, (ad445.add ((x5_1).toNat * 7)).off + 2, none⟩ = some (.bool ((rd_T60 l0 x5_1).f1.f1)) ∧ w'.cell? ⟨(ad445.add ((x5_1).toNat * 7)).block, (ad445.add ((x5_1).toNat * 7)).off + 3, none⟩ = some (.int .i64 ((rd_T60 l0 x5_1).f1.f2.f0)) ∧ w'.cell? ⟨(ad445.add ((x5_1).toNat * 7)).block, (ad445.add ((x5_1).toNat * 7)).off + 4, none⟩ = some (.int .u64 ((rd_T60 l0 x5_1).f1.f2.f1)) ∧ w'.cell? ⟨(ad445.add ((x5_1).toNat * 7)).block, (ad445.add ((x5_1).toNat * 7)).off + 5, none⟩ = some (.int .i64 ((rd_T60 l0 x5_1).f1.f3)) ∧ w'.cell? ⟨(ad445.add ((x5_1).toNat * 7)).block, (ad445.add ((x5_1).toNat * 7)).off + 6, none⟩ = some (.int .i64 ((rd_T60 l0 x5_1).f1.f4)) ∧ (convert 58 9 (.slice A445_0 ((rd_T60 l0 x5_1).f0).length c445_0)).run Try.prog w' = .ok (.string (strOfNums ((rd_T60 l0 x5_1).f0))) w' ∧ (convert 58 9 (.slice A1_0 (l1_0).length c1_0)).run Try.prog w' = .ok (.string (strOfNums (l1_0))) w') (ds := []) #[false, false, false, false, false, false, false, false, false, false, false, false, false, false, false, false] (by kernel_rfl) rfl rfl ⟨(blk_cell BK444.out 0).trans rfl, (blk_cell BK444.out 1).trans rfl, (blk_cell BK444.out 2).trans rfl, (blk_cell BK444.out 3).trans rfl, (blk_cell BK444.out 4).trans rfl, (blk_cell BK444.out 5).trans rfl, (blk_cell BK444.out 6).trans rfl, hx445_0, hx445_1, hx445_2, hx445_3, hx445_4, hx445_5, hx445_6, (Kd.C_string (P := Try.prog) (A := A445_0) (c := c445_0) Try.underlying58 Try.underlying5 Try.underlying9 (celA HR445_0.out)), (Kd.C_string (P := Try.prog) (A := A1_0) (c := c1_0) Try.underlying58 Try.underlying5 Try.underlying9 (Kd.V_reads' HO_445000.out).2.2)⟩ (fun hHeld => ?_); refine with_tabW rickyardref14_Put.tab2 rickyardref14_Put.bits2 (fun HT_ HW_ => ?_)
   generalize wr.drew = w22 at HO_0 HO_445000 BK444 HB HL445_0 HR445_0 hx445_0 hx445_1 hx445_2 hx445_3 hx445_4 hx445_5 hx445_6 hHeld ⊢
   refine pureD 0 7 HT_ ?_
   refine pureD 1 8 HT_ ?_
   refine pureD 2 9 HT_ ?_
   refine pureD 3 10 HT_ ?_
   refine pureD 4 11 HT_ ?_
   refine pureD 5 12 HT_ ?_
   refine pureD 6 13 HT_ ?_
   refine pureD 7 14 HT_ ?_
   refine pureD 8 15 HT_ ?_
   refine pureD 11 18 HT_ ?_
   refine takeD 9 16 HT_ HW_ hHeld ?_
   refine takeD 10 17 HT_ HW_ hHeld ?_
   refine takeD 12 19 HT_ HW_ hHeld ?_
   refine takeD 13 20 HT_ HW_ hHeld ?_
   refine pureD 14 21 HT_ ?_
   refine pureD 15 22 HT_ ?_
   refine done_ (done_of HT_.out (by kernel_rfl)) ?_
   have q27 : (x5_1 : Int) ≤ ((l0.length : Int) : Int) := of_decide_eq_true asmA
   obtain ⟨i027, hi027, _, hsz27, _⟩ := info_parts info60
   have hroom27 : l0.length ≤ c0 := (Kd.V_reads' HO_0.out).2.1
   have hC27 : Kd.F k60 _ _ (some ad445) l0.length l0 := (Kd.V_at (base := w.heap.size) HO_0.out).2.2
   have hcut27 := cut_to (P := Try.prog) 25 60 .i64 Try.underlying25 hi027 (some ad445) l0.length c0 x5_1 (of_decide_eq_true asmA) q27 hroom27
   have hr27 := Kd.F_take (m := (x5_1 : Int).toNat) hC27 (by omega)
   have hy27 : y446.length = (x5_1 : Int).toNat := (by rw [Ny446.out, List.length_take]; omega)
   rw [← Ny446.out] at hr27
   rw [← hy27] at hcut27
   have HO450 := Aside0.mk (show Kd.V k60 60 _ w.heap.size _ (.slice (some ad445) y446.length c0) y446 from Kd.V_mk (by omega) hr27)
   have HC450 := Aside0.mk (show y446.length ≤ c0 from by omega)
   clear hr27 hC27 hroom27 hi027 hsz27
   have KY27 := Aside0.mk hy27
   clear hy27
   replace q27 := eq_true q27
   try go_wp2_with (first | ((with_reducible refine gate_builtin (b := .append) (xs := #[.tmp 25, .tmp 28]) rfl ?_); at_builtin; refine Kd.N_append_rows k60 (w0 := w) w.heap.size rfl (.tmp 25) (.tmp 28) 25 60 (.agg #[(.slice none 0 0), (.int .u64 0), (.bool false), (.int .i64 0), (.int .u64 0), (.int .i64 0), (.int .i64 0)]) 72 rfl Try.underlying25 info60 rfl (by decide) (by omega) (.slice none 0 0) ([] : List (S60)) y446 _ _ _ (fun k_ => ((P0_ k_ ∨ P1_0_ k_) ∨ w.heap.size ≤ k_) ∧ k_ ≠ gb444) (fun k_ => ((fun k_ => ((P0_ k_ ∨ P1_0_ k_) ∨ w.heap.size ≤ k_) ∧ k_ ≠ gb444)) k_ ∧ some k_ ≠ (.slice none 0 0 : Value).ownBlock) rfl rfl ?aO ?aR (fun _ hk => hk) ?aF ?aB ?aS ?aL ?_; (case aR => exact (by skip; exact Kd.V_F (Kd.V_mono (ok' := (fun k_ => ((fun k_ => ((P0_ k_ ∨ P1_0_ k_) ∨ w.heap.size ≤ k_) ∧ k_ ≠ gb444)) k_ ∧ some k_ ≠ (.slice none 0 0 : Value).ownBlock)) (HO450.out) (fun k_ hk => ⟨⟨hk.1, hk.2⟩, (by simp [Value.ownBlock])⟩)))); (case aB => exact (belB HB.out GE444.out)); (case aF => exact (fun k_ hk => ⟨(.inr (Nat.le_trans (below_size (belB HB.out GE444.out)) hk)), frB BK444 k_ hk⟩)); (case aO => exact ((Kd.N_nil _ _ _ _ (fun k_ => ((P0_ k_ ∨ P1_0_ k_) ∨ w.heap.size ≤ k_) ∧ k_ ≠ gb444)))); (case aS => exact (below_size (belB HB.out GE444.out))); (case aL => have := LMc14.out; omega); intro v452 w28 ho hb hg hat; rw [← Ny451.out] at ho; have HO453 := Aside0.mk (ho); replace HO_0 := Aside0.mk (Kd.V_afterv (Kd.V_apart_nil (valA HO_0.out)) hg hat); replace HO_445000 := Aside0.mk (Kd.V_afterv (Kd.V_apart_nil (valA HO_445000.out)) hg hat); replace BK444 := grB BK444 hg (hne := (by simp [Value.ownBlock])); replace HL445_0 := Aside0.mk (Kd.V_afterv (Kd.V_apart_nil (valA HL445_0.out)) hg hat); replace HO450 := Aside0.mk (Kd.V_afterv (Kd.V_apart_nil (valA HO450.out)) hg hat); replace HB := Aside0.mk (hb); clear ho hb hg hat))
   replace HO_0 := Aside0.mk (Kd.V_drew HO_0.out)
   replace HO_445000 := Aside0.mk (Kd.V_drew HO_445000.out)
   replace HL445_0 := Aside0.mk (Kd.V_drew HL445_0.out)
   replace HO450 := Aside0.mk (Kd.V_drew HO450.out)
   replace HO453 := Aside0.mk (Kd.N_drew HO453.out)
   replace BK444 := Aside0.mk (blk_drew BK444.out)
   replace HB := Aside0.mk (below_drew1 HB.out)
   have p454 : 0 ≤ (x5_1 : Int) := of_decide_eq_true asmA
   have q454 : x5_1 < (l0.length : Int) := of_decide_eq_true asmA
   obtain ⟨ad454, A454_0, c454_0, e454, hx454_0, hx454_1, hx454_2, hx454_3, hx454_4, hx454_5, hx454_6, hl454_0, hi454_0⟩ := at_T60 (Kd.V_reads' HO_0.out).2.2 x5_1 p454 q454
   obtain rfl : ad445 = ad454 := (by injection e454)
   obtain ⟨ce454, hce454, hMe454, hcc454⟩ := Kd.V_get HO_0.out z60 x5_1 p454 (by first | exact q454 | exact of_decide_eq_true asmA | (have e_ := (Kd.V_reads' HO_0.out).1; omega))
   obtain ⟨ua454_0, uc454_0, rfl, ul454_0, ge454_0⟩ := k60_openF hMe454
   have hv454_0 := hcc454 0 _ rfl
   rw [Nat.add_zero] at hv454_0
   replace hv454_0 := Option.some.inj (hv454_0.symm.trans hx454_0)
   injection hv454_0 with hva_ hvn_ hvc_
   rw [hva_] at ge454_0
   rw [hvc_] at ul454_0
   have HL454_0 := Aside0.mk (show Kd.V (Kd.int .u8) 5 _ w.heap.size _ _ ((rd_T60 l0 x5_1).f0) from Kd.V_mk ul454_0 ge454_0)
   clear hva_ hvn_ hvc_ ge454_0 ul454_0
   clear hcc454 hce454
   have HR454_0 := Aside0.mk hi454_0
   have HC454_0 := Aside0.mk hl454_0
   clear hi454_0 hl454_0
   replace p454 := eq_true p454
   replace q454 := eq_true q454
   have hcv30 := Kd.C_string (P := Try.prog) (A := A454_0) (c := c454_0) Try.underlying58 Try.underlying5 Try.underlying9 (celA HR454_0.out)
   have hcv31 := fun (n_ : Nat) => Kd.C_string (P := Try.prog) (A := A454_0) (c := c454_0) Try.underlying58 Try.underlying5 Try.underlying9 (Kd.C_drewN (celA HR454_0.out) n_)
   have hcv32 := Kd.C_string (P := Try.prog) (A := A1_0) (c := c1_0) Try.underlying58 Try.underlying5 Try.underlying9 (Kd.V_reads' HO_445000.out).2.2
   refine start_ (n := 16) (S := fun w' => w'.cell? ⟨gb444, 0, none⟩ = some (.slice A1_0 l1_0.length c1_0) ∧ w'.cell? ⟨gb444, 1, none⟩ = some (.int .u64 a1_1) ∧ w'.cell? ⟨gb444, 2, none⟩ = some (.bool a1_2) ∧ w'.cell? ⟨gb444, 3, none⟩ = some (.int .i64 a1_3) ∧ w'.cell? ⟨gb444, 4, none⟩ = some (.int .u64 a1_4) ∧ w'.cell? ⟨gb444, 5, none⟩ = some (.int .i64 a1_5) ∧ w'.cell? ⟨gb444, 6, none⟩ = some (.int .i64 a1_6) ∧ w'.cell? (ad445.add ((x5_1).toNat * 7)) = some (.slice A454_0 ((rd_T60 l0 x5_1).f0).length c454_0) ∧ w'.cell? ⟨(ad445.add ((x5_1).toNat * 7)).block, (ad445.add ((x5_1).toNat * 7)).off + 1, none⟩ = some (.int .u64 ((rd_T60 l0 x5_1).f1.f0)) ∧ w'.cell? ⟨(ad445.add ((x5_1).toNat * 7)).block, (ad445.add ((x5_1).toNat * 7)).off + 2, none⟩ = some (.bool ((rd_T60 l0 x5_1).f1.f1)) ∧ w'.cell? ⟨(ad445.add ((x5_1).toNat * 7)).block, (ad445.add ((x5_1).toNat * 7)).off + 3, none⟩ = some (.int .i64 ((rd_T60 l0 x5_1).f1.f2.f0)) ∧ w'.cell? ⟨(ad445.add ((x5_1).toNat * 7)).block, (ad445.add ((x5_1).toNat * 7)).off + 4, none⟩ = some (.int .u64 ((rd_T60 l0 x5_1).f1.f2.f1)) ∧ w'.cell? ⟨(ad445.add ((x5_1).toNat * 7)).block, (ad445.add ((x5_1).toNat * 7)).off + 5, none⟩ = some (.int .i64 ((rd_T60 l0 x5_1).f1.f3)) ∧ w'.cell? ⟨(ad445.add ((x5_1).toNat * 7)).block, (ad445.add ((x5_1).toNat * 7)).off + 6, none⟩ = some (.int .i64 ((rd_T60 l0 x5_1).f1.f4)) ∧ (convert 58 9 (.slice A454_0 ((rd_T60 l0 x5_1).f0).length c454_0)).run Try.prog w' = .ok (.string (strOfNums ((rd_T60 l0 x5_1).f0))) w' ∧ (convert 58 9 (.slice A1_0 (l1_0).length c1_0)).run Try.prog w' = .ok (.string (strOfNums (l1_0))) w') (ds := []) #[false, false, false, false, false, false, false, false, false, false, false, false, false, false, false, false] (by kernel_rfl) rfl rfl ⟨(blk_cell BK444.out 0).trans rfl, (blk_cell BK444.out 1).trans rfl, (blk_cell BK444.out 2).trans rfl, (blk_cell BK444.out 3).trans rfl, (blk_cell BK444.out 4).trans rfl, (blk_cell BK444.out 5).trans rfl, (blk_cell BK444.out 6).trans rfl, hx454_0, hx454_1, hx454_2, hx454_3, hx454_4, hx454_5, hx454_6, (Kd.C_string (P := Try.prog) (A := A454_0) (c := c454_0) Try.underlying58 Try.underlying5 Try.underlying9 (celA HR454_0.out)), (Kd.C_string (P := Try.prog) (A := A1_0) (c := c1_0) Try.underlying58 Try.underlying5 Try.underlying9 (Kd.V_reads' HO_445000.out).2.2)⟩ (fun hHeld => ?_); refine with_tabW rickyardref14_Put.tab6 rickyardref14_Put.bits6 (fun HT_ HW_ => ?_)
   generalize w28.drew = w29 at HO_0 HO_445000 HL445_0 HO450 HO453 BK444 HB HL454_0 HR454_0 hx454_0 hx454_1 hx454_2 hx454_3 hx454_4 hx454_5 hx454_6 hHeld ⊢
   refine pureD 0 30 HT_ ?_
   refine pureD 1 31 HT_ ?_
   refine pureD 2 32 HT_ ?_
   refine pureD 3 33 HT_ ?_
   refine pureD 4 34 HT_ ?_
   refine pureD 5 35 HT_ ?_
   refine pureD 6 36 HT_ ?_
   refine pureD 7 37 HT_ ?_
   refine pureD 8 38 HT_ ?_
   refine pureD 11 41 HT_ ?_
   refine takeD 9 39 HT_ HW_ hHeld ?_
   refine takeD 10 40 HT_ HW_ hHeld ?_
   refine takeD 12 42 HT_ HW_ hHeld ?_
   refine takeD 13 43 HT_ HW_ hHeld ?_
   refine pureD 14 44 HT_ ?_
   refine pureD 15 45 HT_ ?_
   refine done_ (done_of HT_.out (by kernel_rfl)) ?_
   try go_wp2
   replace HO_0 := Aside0.mk (Kd.V_drew HO_0.out)
   replace HO_445000 := Aside0.mk (Kd.V_drew HO_445000.out)
   replace HL445_0 := Aside0.mk (Kd.V_drew HL445_0.out)
   replace HO450 := Aside0.mk (Kd.V_drew HO450.out)
   replace HO453 := Aside0.mk (Kd.N_drew HO453.out)
   replace HL454_0 := Aside0.mk (Kd.V_drew HL454_0.out)
   replace BK444 := Aside0.mk (blk_drew BK444.out)
   replace HB := Aside0.mk (below_drew1 HB.out)
   have p455 : 0 ≤ (x5_1 : Int) := of_decide_eq_true asmA
   have q455 : x5_1 < (l0.length : Int) := of_decide_eq_true asmA
   obtain ⟨ad455, A455_0, c455_0, e455, hx455_0, hx455_1, hx455_2, hx455_3, hx455_4, hx455_5, hx455_6, hl455_0, hi455_0⟩ := at_T60 (Kd.V_reads' HO_0.out).2.2 x5_1 p455 q455
   obtain rfl : ad445 = ad455 := (by injection e455)
   obtain ⟨ce455, hce455, hMe455, hcc455⟩ := Kd.V_get HO_0.out z60 x5_1 p455 (by first | exact q455 | exact of_decide_eq_true asmA | (have e_ := (Kd.V_reads' HO_0.out).1; omega))
   obtain ⟨ua455_0, uc455_0, rfl, ul455_0, ge455_0⟩ := k60_openF hMe455
   have hv455_0 := hcc455 0 _ rfl
   rw [Nat.add_zero] at hv455_0
   replace hv455_0 := Option.some.inj (hv455_0.symm.trans hx455_0)
   injection hv455_0 with hva_ hvn_ hvc_
   rw [hva_] at ge455_0
   rw [hvc_] at ul455_0
   have HL455_0 := Aside0.mk (show Kd.V (Kd.int .u8) 5 _ w.heap.size _ _ ((rd_T60 l0 x5_1).f0) from Kd.V_mk ul455_0 ge455_0)
   clear hva_ hvn_ hvc_ ge455_0 ul455_0
   clear hcc455 hce455
   have HR455_0 := Aside0.mk hi455_0
   have HC455_0 := Aside0.mk hl455_0
   clear hi455_0 hl455_0
   replace p455 := eq_true p455
   replace q455 := eq_true q455
   refine start_ (n := 15) (S := fun w' => w'.cell? ⟨gb444, 0, none⟩ = some (.slice A1_0 l1_0.length c1_0) ∧ w'.cell? ⟨gb444, 1, none⟩ = some (.int .u64 a1_1) ∧ w'.cell? ⟨gb444, 2, none⟩ = some (.bool a1_2) ∧ w'.cell? ⟨gb444, 3, none⟩ = some (.int .i64 a1_3) ∧ w'.cell? ⟨gb444, 4, none⟩ = some (.int .u64 a1_4) ∧ w'.cell? ⟨gb444, 5, none⟩ = some (.int .i64 a1_5) ∧ w'.cell? ⟨gb444, 6, none⟩ = some (.int .i64 a1_6) ∧ w'.cell? (ad445.add ((x5_1).toNat * 7)) = some (.slice A455_0 ((rd_T60 l0 x5_1).f0).length c455_0) ∧ w'.cell? ⟨(ad445.add ((x5_1).toNat * 7)).block, (ad445.add ((x5_1).toNat * 7)).off + 1, none⟩ = some (.int .u64 ((rd_T60 l0 x5_1).f1.f0)) ∧ w'.cell? ⟨(ad445.add ((x5_1).toNat * 7)).block, (ad445.add ((x5_1).toNat * 7)).off + 2, none⟩ = some (.bool ((rd_T60 l0 x5_1).f1.f1)) ∧ w'.cell? ⟨(ad445.add ((x5_1).toNat * 7)).block, (ad445.add ((x5_1).toNat * 7)).off + 3, none⟩ = some (.int .i64 ((rd_T60 l0 x5_1).f1.f2.f0)) ∧ w'.cell? ⟨(ad445.add ((x5_1).toNat * 7)).block, (ad445.add ((x5_1).toNat * 7)).off + 4, none⟩ = some (.int .u64 ((rd_T60 l0 x5_1).f1.f2.f1)) ∧ w'.cell? ⟨(ad445.add ((x5_1).toNat * 7)).block, (ad445.add ((x5_1).toNat * 7)).off + 5, none⟩ = some (.int .i64 ((rd_T60 l0 x5_1).f1.f3)) ∧ w'.cell? ⟨(ad445.add ((x5_1).toNat * 7)).block, (ad445.add ((x5_1).toNat * 7)).off + 6, none⟩ = some (.int .i64 ((rd_T60 l0 x5_1).f1.f4))) (ds := [12, 13]) #[false, false, false, false, false, false, false, false, false, false, false, false, false, false, false] (by kernel_rfl) rfl rfl ⟨(blk_cell BK444.out 0).trans rfl, (blk_cell BK444.out 1).trans rfl, (blk_cell BK444.out 2).trans rfl, (blk_cell BK444.out 3).trans rfl, (blk_cell BK444.out 4).trans rfl, (blk_cell BK444.out 5).trans rfl, (blk_cell BK444.out 6).trans rfl, hx455_0, hx455_1, hx455_2, hx455_3, hx455_4, hx455_5, hx455_6⟩ (fun hHeld => ?_); refine with_tabW rickyardref14_Put.tab7 rickyardref14_Put.bits7 (fun HT_ HW_ => ?_)
   generalize w29.drew = w34 at HO_0 HO_445000 HL445_0 HO450 HO453 HL454_0 BK444 HB HL455_0 HR455_0 hx455_0 hx455_1 hx455_2 hx455_3 hx455_4 hx455_5 hx455_6 hHeld ⊢
   refine pureD 0 46 HT_ ?_
   refine pureD 1 47 HT_ ?_
   refine pureD 3 49 HT_ ?_
   refine pureD 4 50 HT_ ?_
   refine pureD 5 51 HT_ ?_
   refine pureD 6 52 HT_ ?_
   refine pureD 8 54 HT_ ?_
   refine takeD 2 48 HT_ HW_ hHeld ?_
   refine takeD 7 53 HT_ HW_ hHeld ?_
   refine takeD 9 55 HT_ HW_ hHeld ?_
   refine one_ (i := 10) (N := some 56) #[true, true, true, true, true, true, true, true, true, true, true, false, false, false, false] rfl rfl (one_of HT_.out (by kernel_rfl)) (by decide) (fun K hK => ?_)
   refine goes_ Try.func53 (by kernel_rfl) rfl #[.agg #[.int .u64 ((rd_T60 l0 x5_1).f1.f0), .bool ((rd_T60 l0 x5_1).f1.f1), .int .i64 ((rd_T60 l0 x5_1).f1.f2.f0), .int .u64 ((rd_T60 l0 x5_1).f1.f2.f1), .int .i64 ((rd_T60 l0 x5_1).f1.f3), .int .i64 ((rd_T60 l0 x5_1).f1.f4)], .agg #[.int .u64 a1_1, .bool a1_2, .int .i64 a1_3, .int .u64 a1_4, .int .i64 a1_5, .int .i64 a1_6]] (by rfl) rfl rfl argA ?_
   with_reducible refine (rickyardref02_Merge.calls k1 ((rd_T60 l0 x5_1).f1.f0) ((rd_T60 l0 x5_1).f1.f1) ((rd_T60 l0 x5_1).f1.f2.f0) ((rd_T60 l0 x5_1).f1.f2.f1) ((rd_T60 l0 x5_1).f1.f3) ((rd_T60 l0 x5_1).f1.f4) a1_1 a1_2 a1_3 a1_4 a1_5 a1_6 t456 t457 t458 t459 t460 t461 _ A16.out).mono ?_
   rintro e w35 ⟨rfl, hb⟩
   have HS7_ := (hb.cell (World.block_lt_of_cell? _ _ (hHeld.2.2.2.2.2.2.2.1))).trans (hHeld.2.2.2.2.2.2.2.1)
   have HS8_ := (hb.cell (World.block_lt_of_cell? _ _ (hHeld.2.2.2.2.2.2.2.2.1))).trans (hHeld.2.2.2.2.2.2.2.2.1)
   have HS9_ := (hb.cell (World.block_lt_of_cell? _ _ (hHeld.2.2.2.2.2.2.2.2.2.1))).trans (hHeld.2.2.2.2.2.2.2.2.2.1)
   have HS10_ := (hb.cell (World.block_lt_of_cell? _ _ (hHeld.2.2.2.2.2.2.2.2.2.2.1))).trans (hHeld.2.2.2.2.2.2.2.2.2.2.1)
   have HS11_ := (hb.cell (World.block_lt_of_cell? _ _ (hHeld.2.2.2.2.2.2.2.2.2.2.2.1))).trans (hHeld.2.2.2.2.2.2.2.2.2.2.2.1)
   have HS12_ := (hb.cell (World.block_lt_of_cell? _ _ (hHeld.2.2.2.2.2.2.2.2.2.2.2.2.1))).trans (hHeld.2.2.2.2.2.2.2.2.2.2.2.2.1)
   have HS13_ := (hb.cell (World.block_lt_of_cell? _ _ (hHeld.2.2.2.2.2.2.2.2.2.2.2.2.2))).trans (hHeld.2.2.2.2.2.2.2.2.2.2.2.2.2)
   refine ⟨_, rfl, ?_⟩
   replace HO_0 := Aside0.mk (Kd.V_below (valA HO_0.out) hb)
   replace HO_445000 := Aside0.mk (Kd.V_below (valA HO_445000.out) hb)
   replace HL445_0 := Aside0.mk (Kd.V_below (valA HL445_0.out) hb)
   replace HO450 := Aside0.mk (Kd.V_below (valA HO450.out) hb)
   replace HO453 := Aside0.mk (Kd.N_below (nilA HO453.out) hb)
   replace HL454_0 := Aside0.mk (Kd.V_below (valA HL454_0.out) hb)
   replace HL455_0 := Aside0.mk (Kd.V_below (valA HL455_0.out) hb)
   replace BK444 := blkB BK444 hb
   replace HR455_0 := Aside0.mk (Kd.C_below (celA HR455_0.out) hb)
   replace HB := bs2 HB GE444 hb
   (try clear hb)
   refine hK.out _ _ ⟨(blk_cell BK444.out 0).trans rfl, (blk_cell BK444.out 1).trans rfl, (blk_cell BK444.out 2).trans rfl, (blk_cell BK444.out 3).trans rfl, (blk_cell BK444.out 4).trans rfl, (blk_cell BK444.out 5).trans rfl, (blk_cell BK444.out 6).trans rfl, HS7_, HS8_, HS9_, HS10_, HS11_, HS12_, HS13_⟩ (fun hHeld => ?_)
   clear hK K
   refine norm_ (a' := ?_) ?_ ?_
   rotate_left
   ·show Act.put _ (some 56) _ = _
    simp only [Act.put, List.setIfInBounds_toArray, List.set_cons_zero, List.set_cons_succ, i64_w, i32_w]
    rfl
   refine pureD 11 57 HT_ ?_
   refine last_ (i := 12) (N := some 58) #[true, true, true, true, true, true, true, true, true, true, true, true, true, false, false] rfl rfl (one_of HT_.out (by kernel_rfl)) (by decide) (fun K hK => ?_)
   refine value_ (w1 := ?_) (v := ?_) (by rfl) rfl ?_ ?_
   rotate_left 2
   ·go_simp
    constructor
    ·rfl
    ·rfl
   refine hK.out _ _ ?_
   clear hK K
   refine norm_ (a' := ?_) ?_ ?_
   rotate_left
   ·show Act.put _ (some 58) _ = _
    simp only [Act.put, List.setIfInBounds_toArray, List.set_cons_zero, List.set_cons_succ, i64_w, i32_w]
    rfl
   refine last_ (i := 13) (N := some 59) #[true, true, true, true, true, true, true, true, true, true, true, true, true, true, false] rfl rfl (one_of HT_.out (by kernel_rfl)) (by decide) (fun K hK => ?_)
   refine Kd.N_append_step k60 (w0 := w) w.heap.size (by rfl) (.tmp 46) (.tmp 58) 25 60 (.agg #[(.slice none 0 0), (.int .u64 0), (.bool false), (.int .i64 0), (.int .u64 0), (.int .i64 0), (.int .i64 0)]) 72 rfl Try.underlying25 info60 rfl (by decide) (by omega) v452 y451 (⟨l1_0, (⟨t456, t457, (⟨t458, t459⟩ : S40), t460, t461⟩ : S42)⟩ : S60) [.slice A1_0 l1_0.length c1_0, .int .u64 t456, .bool t457, .int .i64 t458, .int .u64 t459, .int .i64 t460, .int .i64 t461] (fun k_ => ((P0_ k_ ∨ P1_0_ k_) ∨ w.heap.size ≤ k_) ∧ k_ ≠ gb444) (fun k_ => ((fun k_ => ((P0_ k_ ∨ P1_0_ k_) ∨ w.heap.size ≤ k_) ∧ k_ ≠ gb444)) k_ ∧ some k_ ≠ (v452 : Value).ownBlock) rfl rfl ?aP (fun _ hk => hk) ?aF ?aO ?aB ?aS ?aL ?_
   (case aP => exact (k60_mkF _ _ (⟨l1_0, (⟨t456, t457, (⟨t458, t459⟩ : S40), t460, t461⟩ : S42)⟩ : S60) (Kd.V_reads' (Kd.V_mono (ok' := (fun k_ => ((fun k_ => ((P0_ k_ ∨ P1_0_ k_) ∨ w.heap.size ≤ k_) ∧ k_ ≠ gb444)) k_ ∧ some k_ ≠ (v452 : Value).ownBlock)) (HO_445000.out) (fun k_ hk => by first | exact ⟨⟨hk.1, hk.2.2⟩, hk.2.1⟩ | exact hk | (simp_all; done)))).2.1 (Kd.V_F (Kd.V_mono (ok' := (fun k_ => ((fun k_ => ((P0_ k_ ∨ P1_0_ k_) ∨ w.heap.size ≤ k_) ∧ k_ ≠ gb444)) k_ ∧ some k_ ≠ (v452 : Value).ownBlock)) (HO_445000.out) (fun k_ hk => by first | exact ⟨⟨hk.1, hk.2.2⟩, hk.2.1⟩ | exact hk | (simp_all; done))))))
   (case aB => exact (belB HB.out GE444.out))
   (case aF => exact (fun k_ hk => ⟨(.inr (Nat.le_trans (below_size (belB HB.out GE444.out)) hk)), frB BK444 k_ hk⟩))
   (case aO => exact (nilA HO453.out))
   (case aS => exact (below_size (belB HB.out GE444.out)))
   (case aL => have := LMc17.out; omega)
   intro v463 w36 ho hb hg hat
   rw [← Ny462.out] at ho
   have HO464 := Aside0.mk (ho)
   replace HO_0 := Aside0.mk (Kd.V_afterv (ok := (fun k_ => ((P0_ k_ ∨ P1_0_ k_) ∨ w.heap.size ≤ k_) ∧ k_ ≠ gb444)) (by (with_reducible repeat (first | apply Kd.V_alloc | apply Kd.V_drewN | apply Kd.V_drew)); exact Kd.V_mono HO_0.out (fun _ hk => by first | exact ⟨⟨hk.1, hk.2.2⟩, hk.2.1⟩ | exact hk | (simp_all; done))) hg hat)
   replace HO_445000 := Aside0.mk (Kd.V_afterv (ok := (fun k_ => ((P0_ k_ ∨ P1_0_ k_) ∨ w.heap.size ≤ k_) ∧ k_ ≠ gb444)) (by (with_reducible repeat (first | apply Kd.V_alloc | apply Kd.V_drewN | apply Kd.V_drew)); exact Kd.V_mono HO_445000.out (fun _ hk => by first | exact ⟨⟨hk.1, hk.2.2⟩, hk.2.1⟩ | exact hk | (simp_all; done))) hg hat)
   replace BK444 := grB BK444 hg (hne := (Kd.N_away HO453.out (fun _ hk => by first | exact hk.2 | exact hk | (simp_all; done))))
   replace HL445_0 := Aside0.mk (Kd.V_afterv (ok := (fun k_ => ((P0_ k_ ∨ P1_0_ k_) ∨ w.heap.size ≤ k_) ∧ k_ ≠ gb444)) (by (with_reducible repeat (first | apply Kd.V_alloc | apply Kd.V_drewN | apply Kd.V_drew)); exact Kd.V_mono HL445_0.out (fun _ hk => by first | exact ⟨⟨hk.1, hk.2.2⟩, hk.2.1⟩ | exact hk | (simp_all; done))) hg hat)
   replace HO450 := Aside0.mk (Kd.V_afterv (ok := (fun k_ => ((P0_ k_ ∨ P1_0_ k_) ∨ w.heap.size ≤ k_) ∧ k_ ≠ gb444)) (by (with_reducible repeat (first | apply Kd.V_alloc | apply Kd.V_drewN | apply Kd.V_drew)); exact Kd.V_mono HO450.out (fun _ hk => by first | exact ⟨⟨hk.1, hk.2.2⟩, hk.2.1⟩ | exact hk | (simp_all; done))) hg hat)
   replace HL454_0 := Aside0.mk (Kd.V_afterv (ok := (fun k_ => ((P0_ k_ ∨ P1_0_ k_) ∨ w.heap.size ≤ k_) ∧ k_ ≠ gb444)) (by (with_reducible repeat (first | apply Kd.V_alloc | apply Kd.V_drewN | apply Kd.V_drew)); exact Kd.V_mono HL454_0.out (fun _ hk => by first | exact ⟨⟨hk.1, hk.2.2⟩, hk.2.1⟩ | exact hk | (simp_all; done))) hg hat)
   replace HL455_0 := Aside0.mk (Kd.V_afterv (ok := (fun k_ => ((P0_ k_ ∨ P1_0_ k_) ∨ w.heap.size ≤ k_) ∧ k_ ≠ gb444)) (by (with_reducible repeat (first | apply Kd.V_alloc | apply Kd.V_drewN | apply Kd.V_drew)); exact Kd.V_mono HL455_0.out (fun _ hk => by first | exact ⟨⟨hk.1, hk.2.2⟩, hk.2.1⟩ | exact hk | (simp_all; done))) hg hat)
   replace HB := Aside0.mk (hb)
   clear HO453
   clear ho hb hg hat
   refine hK.out _ _ ?_
   clear hK K
   refine norm_ (a' := ?_) ?_ ?_
   rotate_left
   ·show Act.put _ (some 59) _ = _
    simp only [Act.put, List.setIfInBounds_toArray, List.set_cons_zero, List.set_cons_succ, i64_w, i32_w]
    rfl
   refine pureD 14 6 HT_ ?_
   refine done_ (done_of HT_.out (by kernel_rfl)) ?_
   have q37 : ((ji18) : Int) ≤ ((l0.length : Int) : Int) := of_decide_eq_true asmA
   obtain ⟨i037, hi037, _, hsz37, _⟩ := info_parts info60
   have hroom37 : l0.length ≤ c0 := (Kd.V_reads' HO_0.out).2.1
   have hC37 : Kd.F k60 _ _ (some ad445) l0.length l0 := (Kd.V_at (base := w.heap.size) HO_0.out).2.2
   have q037 : (0 : Int) ≤ ((ji18) : Int) := of_decide_eq_true asmA
   have hcut37 := cut_from (P := Try.prog) 25 60 .i64 Try.underlying25 hi037 7 hsz37 (some ad445) l0.length c0 (ji18) q037 q37
   have hr37 := Kd.F_cut (m := ((ji18) : Int).toNat) (c := c0) hC37 (by omega) hroom37
   obtain ⟨A37, hA37⟩ : ∃ A1, A1 = (if c0 = ((ji18) : Int).toNat then (some ad445) else ((some ad445) : Option Addr).map (·.add (((ji18) : Int).toNat * 7))) := ⟨_, rfl⟩
   obtain ⟨c37, hc37⟩ : ∃ c1, c1 = c0 - ((ji18) : Int).toNat := ⟨_, rfl⟩
   have hy37 : y465.length = l0.length - ((ji18) : Int).toNat := (by rw [Ny465.out, List.length_drop] <;> omega)
   rw [show (l0).drop ((ji18) : Int).toNat = y465 from Ny465.out.symm] at hr37
   replace hr37 : Kd.F k60 _ _ A37 y465.length y465 := (by rw [hA37]; exact hr37)
   rw [← hy37, ← hA37, ← hc37] at hcut37
   have HO469 := Aside0.mk (show Kd.V k60 60 _ w.heap.size _ (.slice A37 y465.length c37) y465 from Kd.V_mk (by rw [hy37, hc37]; exact Nat.sub_le_sub_right hroom37 _) hr37)
   have HC469 := Aside0.mk (show y465.length ≤ c37 from by rw [hy37, hc37]; exact Nat.sub_le_sub_right hroom37 _)
   clear hr37 hC37 hroom37 hi037 hsz37 hc37
   have KY37 := Aside0.mk hy37
   have KA37 := Aside0.mk hA37
   clear hy37 hA37
   replace q37 := eq_true q37
   try go_wp2_with (first | ((with_reducible refine gate_builtin (b := .append) (xs := #[.tmp 60, .tmp 64]) rfl ?_); at_builtin; refine Kd.N_append_rows k60 (w0 := w) w.heap.size rfl (.tmp 60) (.tmp 64) 25 60 (.agg #[(.slice none 0 0), (.int .u64 0), (.bool false), (.int .i64 0), (.int .u64 0), (.int .i64 0), (.int .i64 0)]) 72 rfl Try.underlying25 info60 rfl (by decide) (by omega) v463 y462 y465 _ _ _ (fun k_ => ((P0_ k_ ∨ P1_0_ k_) ∨ w.heap.size ≤ k_) ∧ k_ ≠ gb444) (fun k_ => ((fun k_ => ((P0_ k_ ∨ P1_0_ k_) ∨ w.heap.size ≤ k_) ∧ k_ ≠ gb444)) k_ ∧ some k_ ≠ (v463 : Value).ownBlock) rfl rfl ?aO ?aR (fun _ hk => hk) ?aF ?aB ?aS ?aL ?_; (case aR => exact (by skip; exact Kd.V_F (Kd.V_mono (ok' := (fun k_ => ((fun k_ => ((P0_ k_ ∨ P1_0_ k_) ∨ w.heap.size ≤ k_) ∧ k_ ≠ gb444)) k_ ∧ some k_ ≠ (v463 : Value).ownBlock)) (HO469.out) (fun k_ hk => by first | exact ⟨⟨hk.1.1, hk.1.2⟩, hk.2⟩ | exact hk | (simp_all; done))))); (case aB => exact (belB HB.out GE444.out)); (case aF => exact (fun k_ hk => ⟨(.inr (Nat.le_trans (below_size (belB HB.out GE444.out)) hk)), frB BK444 k_ hk⟩)); (case aO => exact (nilA HO464.out)); (case aS => exact (below_size (belB HB.out GE444.out))); (case aL => have := LMc21.out; omega); intro v471 w38 ho hb hg hat; rw [← Ny470.out] at ho; have HO472 := Aside0.mk (ho); replace HO_0 := Aside0.mk (Kd.V_afterv (ok := (fun k_ => ((P0_ k_ ∨ P1_0_ k_) ∨ w.heap.size ≤ k_) ∧ k_ ≠ gb444)) (valA HO_0.out) hg hat); replace HO_445000 := Aside0.mk (Kd.V_afterv (ok := (fun k_ => ((P0_ k_ ∨ P1_0_ k_) ∨ w.heap.size ≤ k_) ∧ k_ ≠ gb444)) (valA HO_445000.out) hg hat); replace BK444 := grB BK444 hg (hne := (Kd.N_away HO464.out (fun _ hk => by first | exact hk.2 | exact hk | (simp_all; done)))); replace HL445_0 := Aside0.mk (Kd.V_afterv (ok := (fun k_ => ((P0_ k_ ∨ P1_0_ k_) ∨ w.heap.size ≤ k_) ∧ k_ ≠ gb444)) (valA HL445_0.out) hg hat); replace HO450 := Aside0.mk (Kd.V_afterv (ok := (fun k_ => ((P0_ k_ ∨ P1_0_ k_) ∨ w.heap.size ≤ k_) ∧ k_ ≠ gb444)) (valA HO450.out) hg hat); replace HL454_0 := Aside0.mk (Kd.V_afterv (ok := (fun k_ => ((P0_ k_ ∨ P1_0_ k_) ∨ w.heap.size ≤ k_) ∧ k_ ≠ gb444)) (valA HL454_0.out) hg hat); replace HL455_0 := Aside0.mk (Kd.V_afterv (ok := (fun k_ => ((P0_ k_ ∨ P1_0_ k_) ∨ w.heap.size ≤ k_) ∧ k_ ≠ gb444)) (valA HL455_0.out) hg hat); replace HO469 := Aside0.mk (Kd.V_afterv (ok := (fun k_ => ((P0_ k_ ∨ P1_0_ k_) ∨ w.heap.size ≤ k_) ∧ k_ ≠ gb444)) (valA HO469.out) hg hat); replace HB := Aside0.mk (hb); clear HO464; clear ho hb hg hat))
   go_ret
   exact ⟨_, by first | rfl | (simp [errW_none, errW_some] <;> rfl) | (simp only [← hji18]; first | rfl | (simp [errW_none, errW_some] <;> rfl)) | (simp [*, errW_none, errW_some] <;> rfl) | (exfalso; simp_all; done), by (with_reducible repeat (first | apply Kd.N_alloc | apply Kd.N_drewN | apply Kd.N_drew)); exact Kd.N_mono HO472.out (fun _ hk => by first | exact hk.1 | exact hk | (simp_all; done)), belB HB.out GE444.out⟩
end Go.Proofs.Ytdopbhbbpgfliaa.PAsk
end
