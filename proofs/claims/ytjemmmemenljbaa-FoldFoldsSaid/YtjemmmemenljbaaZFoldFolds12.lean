import Derived.Test.YtjemmmemenljbaaZFoldFolds07
import Derived.Test.YtjemmmemenljbaaZFoldFolds11
section
namespace Go.Proofs.Ytjemmmemenljbaa.PFold
open Go.RowKit Go.Proofs.YtjemmmemenljbaaW.PrintWords Go.Proofs.YtjemmmemenljbaaW.PrintLast Go.Proofs.YtjemmmemenljbaaW.PrintMore
attribute [local go_sem] max2_int min2_int max_two min_two max_three min_three max_four min_four   -- for this text's walks alone
set_option linter.unusedVariables false
set_option linter.unusedSimpArgs false
set_option maxHeartbeats 8000000
set_option maxRecDepth 100000
def rickyardref15_Fold.l0 : Nat → Int → List (S51) → Int → List (S51) → Int → List (S67) → Int → Option ((List (S51)) × Int)
 | 0, _, _, _, _, _, _, _ => none
 | k + 1, x1, x2, x8, x9, x10, x454000, x454001 => if x10 < (x2.length : Int) then (if 0 ≤ x10 then ((rickyardref15_Key.f k x454000 x454001 x1 ((rd_T51 x2 x10).f0)).bind fun bt456 => (if bt456.2 = true then ((rickyardref14_Put.f k x9 bt456.1 ((rd_T51 x2 x10).f1.f0) ((rd_T51 x2 x10).f1.f1) ((rd_T51 x2 x10).f1.f2.f0) ((rd_T51 x2 x10).f1.f2.f1) ((rd_T51 x2 x10).f1.f3) ((rd_T51 x2 x10).f1.f4)).bind fun t461 => (rickyardref15_Fold.l0 k x1 x2 x8 t461 (wrap64 (x10 + 1)) x454000 x454001)) else (rickyardref15_Fold.l0 k x1 x2 x8 x9 (wrap64 (x10 + 1)) x454000 x454001))) else (none)) else (some (x9, x8))
def rickyardref15_Fold.f (k : Nat) (l0_0 : List (S67)) (a0_1 : Int) (a1 : Int) (l2 : List (S51)) : Option ((List (S51)) × Int) := (rickyardref15_Check.f k l0_0 a0_1 a1 l2).bind fun t454 => (if t454 = 0 then (rickyardref15_Fold.l0 k a1 l2 t454 ([] : List (S51)) 0 l0_0 a0_1) else (some (([] : List (S51)), t454)))
def rickyardref15_Fold.T8 : Bool × List (List Nat × List Nat) := (true, [([], []), ([], []), ([], []), ([], []), ([2, 3], [2, 3]), ([4], [4]), ([5], [5]), ([0, 1, 6], [0, 1, 6]), ([7], [7]), ([8], [8]), ([8], [8]), ([9, 7, 0, 1, 2, 3, 4, 5, 6, 7, 8, 9], [9]), ([10, 11, 0, 1, 2, 3, 4, 5, 6, 7, 8, 9, 10, 11], [10])])
def rickyardref15_Fold.B8 : List Nat := [0, 0, 0, 0, 12, 28, 60, 127, 255, 511, 511, 1023, 4095]
theorem rickyardref15_Fold.tab8 : rtab .any (opsOf Try.f20 8) = rickyardref15_Fold.T8 := by kernel_rfl
theorem rickyardref15_Fold.bits8 : waitsOk rickyardref15_Fold.T8.2 rickyardref15_Fold.B8 = true := by kernel_rfl
theorem rickyardref15_Fold.calls (k : Nat) (A0_0 : Option Addr) (c0_0 : Nat) (l0_0 : List (S67)) (a0_1 : Int) (a1 : Int) (A2 : Option Addr) (c2 : Nat) (l2 : List (S51)) (r1 : List (S51)) (r2 : Int) (w : World) (hr0_0 : Kd.C k67 w A0_0 l0_0.length l0_0) (hc0_0 : l0_0.length ≤ c0_0) (hr2 : Kd.C k51 w A2 l2.length l2) (hc2 : l2.length ≤ c2) (h : rickyardref15_Fold.f k l0_0 a0_1 a1 l2 = some (r1, r2)) :
  Calls Try.prog 20 #[.agg #[.slice A0_0 l0_0.length c0_0, .int .i64 a0_1], .int .i64 a1, .slice A2 l2.length c2] w fun e w' => ∃ v0_ : Value, e = .returned (.tuple #[v0_, .int .i64 r2]) ∧ Kd.N k51 51 w' w.heap.size (fun k_ => (w.heap.size ≤ k_)) v0_ r1 ∧ Below w.heap.size w w' := by
 have hu24 := Try.underlying24
 have hu41 := Try.underlying41
 have hu51 := Try.underlying51
 have HR0_0 := Aside0.mk hr0_0
 have HC0_0 := Aside0.mk hc0_0
 clear hr0_0 hc0_0
 have HR2 := Aside0.mk hr2
 have HC2 := Aside0.mk hc2
 clear hr2 hc2
 have HB := Aside0.mk (Below.refl w.heap.size w)
 have H : ((rickyardref15_Check.f k l0_0 a0_1 a1 l2).bind fun t454 => (if t454 = 0 then (rickyardref15_Fold.l0 k a1 l2 t454 ([] : List (S51)) 0 l0_0 a0_1) else (some (([] : List (S51)), t454)))) = some (r1, r2) := h
 clear h
 replace H := bnA H
 obtain ⟨t454, A4, H⟩ := H
 by_cases c5 : t454 = 0
 rotate_left
 ·rw [if_neg c5] at H
  have c5b0 := beq_eq_false_iff_ne.mpr c5
  have c5b1 := bne_iff_ne.mpr c5
  simp only [Option.some.injEq, Prod.mk.injEq] at H
  obtain ⟨rfl, rfl⟩ := H
  go_enter Try.func20, Try.ntmps20
  go_wp2_with (first | ((with_reducible refine gate_dst (N := 3) rfl ?_); refine boxA 3 #[.slice A0_0 l0_0.length c0_0, .int .i64 a0_1] 24 ?_; intro gb453 hg w21 hbox hb; have BK453 := Aside0.mk (hbox); have GE453 := ge1 hg (belA HB.out); replace HB := bst HB hb; clear hb hbox hg; obtain ⟨hcz22_0, hcz22_1, hfz22_0, hfz22_1⟩ := blk2 BK453) | ((with_reducible refine gate_callee (f := 35) rfl ?_); refine goesL_ (some 16) rfl rfl Try.func35 (by kernel_rfl) rfl #[.agg #[.slice A0_0 l0_0.length c0_0, .int .i64 a0_1], .int .i64 a1, .slice A2 l2.length c2] rfl argA ?_; (with_reducible refine (rickyardref15_Check.calls k _ _ l0_0 a0_1 a1 _ _ l2 t454 _ ?side1 ?side2 ?side3 ?side4 A4.out).mono ?_); (case side1 => exact cb1 HR0_0 HB); (case side2 => exact HC0_0.out); (case side3 => exact cb1 HR2 HB); (case side4 => exact HC2.out); rintro e w23 ⟨rfl, hb⟩; refine ⟨_, rfl, ?_⟩; replace BK453 := blkB BK453 hb; replace HB := bs2 HB GE453 hb; (try clear hb)))
  go_ret2
  exact ⟨_, ret1, by first | exact Kd.R_nil _ _ _ _ _ | exact Kd.N_nil _ _ _ _ _ | exact Kd.V_nil _ _ _ _ _ | exact Kd.Q_nil _ _ _ _ _ | exact Kd.S_nil _ _ _ _ _, belB HB.out GE453.out⟩
 rw [if_pos c5] at H
 have c5b0 := beq_iff_eq.mpr c5
 have c5b1 := bne_eq_false_iff_eq.mpr c5
 clear c5
 have H' := Aside0.mk H
 clear H
 go_enter Try.func20, Try.ntmps20
 go_wp2_with (first | ((with_reducible refine gate_dst (N := 3) rfl ?_); refine boxA 3 #[.slice A0_0 l0_0.length c0_0, .int .i64 a0_1] 24 ?_; intro gb453 hg w6 hbox hb; have BK453 := Aside0.mk (hbox); have GE453 := ge1 hg (belA HB.out); replace HB := bst HB hb; clear hb hbox hg; obtain ⟨hcz7_0, hcz7_1, hfz7_0, hfz7_1⟩ := blk2 BK453) | ((with_reducible refine gate_callee (f := 35) rfl ?_); refine goesL_ (some 16) rfl rfl Try.func35 (by kernel_rfl) rfl #[.agg #[.slice A0_0 l0_0.length c0_0, .int .i64 a0_1], .int .i64 a1, .slice A2 l2.length c2] rfl argA ?_; (with_reducible refine (rickyardref15_Check.calls k _ _ l0_0 a0_1 a1 _ _ l2 t454 _ ?side1 ?side2 ?side3 ?side4 A4.out).mono ?_); (case side1 => exact cb1 HR0_0 HB); (case side2 => exact HC0_0.out); (case side3 => exact cb1 HR2 HB); (case side4 => exact HC2.out); rintro e w8 ⟨rfl, hb⟩; refine ⟨_, rfl, ?_⟩; replace BK453 := blkB BK453 hb; replace HB := bs2 HB GE453 hb; (try clear hb)))
 go_loopg [9, 10] k (fun kq v9 v10 w' => ∃ (x9_1 : List (S51)) (x10_1 : Int), v10 = .int .i64 x10_1 ∧ Aside0 (rickyardref15_Fold.l0 kq a1 l2 t454 x9_1 x10_1 l0_0 a0_1 = some (r1, r2)) ∧ Aside0 (kq ≤ k) ∧ Aside0 (Kd.N k51 51 w' w.heap.size (fun k_ => (w.heap.size ≤ k_) ∧ k_ ≠ gb453) v9 x9_1) ∧ Aside0 (w'.heap[gb453]? = some (.cells #[(.slice A0_0 l0_0.length c0_0), .int .i64 a0_1] 24 (0, 0))) ∧ Aside0 (Below w.heap.size w w'))
 case atStart => exact ⟨(([] : List (S51))), (0), relA, H', ⟨Nat.le_refl _⟩, ⟨by first | exact Kd.R_nil _ _ _ _ _ | exact Kd.N_nil _ _ _ _ _ | exact Kd.V_nil _ _ _ _ _ | exact Kd.Q_nil _ _ _ _ _ | exact Kd.S_nil _ _ _ _ _⟩, ⟨blkA BK453.out⟩, ⟨belB HB.out GE453.out⟩⟩
 case round =>
  clear H'
  try clear c2
  try clear p2
  try clear c3
  try clear c5
  try clear c5b0
  try clear c5b1
  try clear hcz7_0 hcz7_1 hfz7_0 hfz7_1
  obtain ⟨x9_1, x10_1, rfl, HA, HK1, HO_9, BK453, HB⟩ := hrel
  cases gk with
  | zero => exact absurd HA.out (by simp [rickyardref15_Fold.l0])
  | succ k1 =>
   have H := HA.out
   clear HA
   simp only [rickyardref15_Fold.l0] at H
   by_cases c9 : x10_1 < (l2.length : Int)
   ·rw [if_pos c9] at H
    have c9b0 := decide_eq_true c9
    clear c9
    by_cases c10 : 0 ≤ x10_1
    ·rw [if_pos c10] at H
     have c10b0 := decide_eq_true c10
     clear c10
     replace H := bnA H
     obtain ⟨⟨t456, t459⟩, A11, H⟩ := H
     replace H : (if t459 = true then ((rickyardref14_Put.f k1 x9_1 t456 ((rd_T51 l2 x10_1).f1.f0) ((rd_T51 l2 x10_1).f1.f1) ((rd_T51 l2 x10_1).f1.f2.f0) ((rd_T51 l2 x10_1).f1.f2.f1) ((rd_T51 l2 x10_1).f1.f3) ((rd_T51 l2 x10_1).f1.f4)).bind fun t461 => (rickyardref15_Fold.l0 k1 a1 l2 t454 t461 (wrap64 (x10_1 + 1)) l0_0 a0_1)) else (rickyardref15_Fold.l0 k1 a1 l2 t454 x9_1 (wrap64 (x10_1 + 1)) l0_0 a0_1)) = some (r1, r2) := H
     by_cases c12 : t459 = true
     ·subst c12
      have H1 : ((rickyardref14_Put.f k1 x9_1 t456 ((rd_T51 l2 x10_1).f1.f0) ((rd_T51 l2 x10_1).f1.f1) ((rd_T51 l2 x10_1).f1.f2.f0) ((rd_T51 l2 x10_1).f1.f2.f1) ((rd_T51 l2 x10_1).f1.f3) ((rd_T51 l2 x10_1).f1.f4)).bind fun t461 => (rickyardref15_Fold.l0 k1 a1 l2 t454 t461 (wrap64 (x10_1 + 1)) l0_0 a0_1)) = some (r1, r2) := by rw [if_pos rfl] at H; exact H
      clear H
      have H := H1
      clear H1
      replace H := bnA H
      obtain ⟨t461, A13, H⟩ := H
      have H' := Aside0.mk H
      clear H
      try go_wp2
      replace HO_9 := Aside0.mk (Kd.N_drew HO_9.out)
      replace BK453 := Aside0.mk (blk_drew BK453.out)
      replace HB := Aside0.mk (below_drew1 HB.out)
      have p455 : 0 ≤ (x10_1 : Int) := of_decide_eq_true asmA
      have q455 : x10_1 < (l2.length : Int) := of_decide_eq_true asmA
      obtain ⟨ad455, A455_0, c455_0, e455, hx455_0, hx455_1, hx455_2, hx455_3, hx455_4, hx455_5, hx455_6, hl455_0, hi455_0⟩ := at_T51 HR2.out x10_1 p455 q455
      have hw455_6 := hx455_6
      have hw455_5 := hx455_5
      have hw455_4 := hx455_4
      have hw455_3 := hx455_3
      have hw455_2 := hx455_2
      have hw455_1 := hx455_1
      have hw455_0 := hx455_0
      cases e455
      replace hx455_0 := cbx HB hx455_0
      replace hx455_1 := cbx HB hx455_1
      replace hx455_2 := cbx HB hx455_2
      replace hx455_3 := cbx HB hx455_3
      replace hx455_4 := cbx HB hx455_4
      replace hx455_5 := cbx HB hx455_5
      replace hx455_6 := cbx HB hx455_6
      have HR455_0 := Aside0.mk hi455_0
      have HC455_0 := Aside0.mk hl455_0
      clear hi455_0 hl455_0
      replace p455 := eq_true p455
      replace q455 := eq_true q455
      refine start_ (n := 13) (S := fun w' => w'.cell? ⟨gb453, 0, none⟩ = some (.slice A0_0 l0_0.length c0_0) ∧ w'.cell? ⟨gb453, 1, none⟩ = some (.int .i64 a0_1) ∧ w'.cell? (ad455.add ((x10_1).toNat * 7)) = some (.slice A455_0 ((rd_T51 l2 x10_1).f0).length c455_0) ∧ w'.cell? ⟨(ad455.add ((x10_1).toNat * 7)).block, (ad455.add ((x10_1).toNat * 7)).off + 1, none⟩ = some (.int .u64 ((rd_T51 l2 x10_1).f1.f0)) ∧ w'.cell? ⟨(ad455.add ((x10_1).toNat * 7)).block, (ad455.add ((x10_1).toNat * 7)).off + 2, none⟩ = some (.bool ((rd_T51 l2 x10_1).f1.f1)) ∧ w'.cell? ⟨(ad455.add ((x10_1).toNat * 7)).block, (ad455.add ((x10_1).toNat * 7)).off + 3, none⟩ = some (.int .i64 ((rd_T51 l2 x10_1).f1.f2.f0)) ∧ w'.cell? ⟨(ad455.add ((x10_1).toNat * 7)).block, (ad455.add ((x10_1).toNat * 7)).off + 4, none⟩ = some (.int .u64 ((rd_T51 l2 x10_1).f1.f2.f1)) ∧ w'.cell? ⟨(ad455.add ((x10_1).toNat * 7)).block, (ad455.add ((x10_1).toNat * 7)).off + 5, none⟩ = some (.int .i64 ((rd_T51 l2 x10_1).f1.f3)) ∧ w'.cell? ⟨(ad455.add ((x10_1).toNat * 7)).block, (ad455.add ((x10_1).toNat * 7)).off + 6, none⟩ = some (.int .i64 ((rd_T51 l2 x10_1).f1.f4))) (ds := []) #[false, false, false, false, false, false, false, false, false, false, false, false, false] (by kernel_rfl) rfl rfl ⟨(blk_cell BK453.out 0).trans rfl, (blk_cell BK453.out 1).trans rfl, ((HB.out.cell (World.block_lt_of_cell? w _ hw455_0)).trans hw455_0), ((HB.out.cell (World.block_lt_of_cell? w _ hw455_1)).trans hw455_1), ((HB.out.cell (World.block_lt_of_cell? w _ hw455_2)).trans hw455_2), ((HB.out.cell (World.block_lt_of_cell? w _ hw455_3)).trans hw455_3), ((HB.out.cell (World.block_lt_of_cell? w _ hw455_4)).trans hw455_4), ((HB.out.cell (World.block_lt_of_cell? w _ hw455_5)).trans hw455_5), ((HB.out.cell (World.block_lt_of_cell? w _ hw455_6)).trans hw455_6)⟩ (fun hHeld => ?_); refine with_tabW rickyardref15_Fold.tab8 rickyardref15_Fold.bits8 (fun HT_ HW_ => ?_)
      generalize wr.drew = w14 at HO_9 BK453 HB HR455_0 hx455_0 hx455_1 hx455_2 hx455_3 hx455_4 hx455_5 hx455_6 hHeld ⊢
      refine pureD 1 28 HT_ ?_
      refine pureD 2 29 HT_ ?_
      refine pureD 3 30 HT_ ?_
      refine pureD 4 31 HT_ ?_
      refine pureD 5 32 HT_ ?_
      refine takeD 0 27 HT_ HW_ hHeld ?_
      refine takeD 6 33 HT_ HW_ hHeld ?_
      refine one_ (i := 7) (N := some 34) #[true, true, true, true, true, true, true, true, false, false, false, false, false] rfl rfl (one_of HT_.out (by kernel_rfl)) (by decide) (fun K hK => ?_)
      refine goes_ Try.func47 (by kernel_rfl) rfl #[.agg #[.slice A0_0 l0_0.length c0_0, .int .i64 a0_1], .int .i64 a1, .slice A455_0 ((rd_T51 l2 x10_1).f0).length c455_0] (by rfl) rfl rfl argA ?_
      with_reducible refine (rickyardref15_Key.calls k1 _ _ l0_0 a0_1 a1 _ _ ((rd_T51 l2 x10_1).f0) t456 true _ ?side1 ?side2 ?side3 ?side4 A11.out).mono ?_
      (case side1 => exact cb1 HR0_0 HB)
      (case side2 => exact HC0_0.out)
      (case side3 => exact cb1 HR455_0 HB)
      (case side4 => exact HC455_0.out)
      rintro e w15 ⟨v457, rfl, ho0, hb⟩
      refine ⟨_, rfl, ?_⟩
      have HO458 := Aside0.mk (Kd.R_lower (Kd.R_newM (M := fun k_ => (w.heap.size ≤ k_)) ho0 (below_size (belB HB.out GE453.out)) (fun k_ h_ => h_)) (below_size (belB HB.out GE453.out)))
      replace HO_9 := Aside0.mk (Kd.N_elder' (nilA HO_9.out) (Kd.R_base ho0) hb)
      replace BK453 := blkB BK453 hb
      replace HB := bs2 HB GE453 hb
      (try clear hb)
      (try clear ho0)
      refine hK.out _ _ ⟨(blk_cell BK453.out 0).trans rfl, (blk_cell BK453.out 1).trans rfl, ((HB.out.cell (World.block_lt_of_cell? w _ hw455_0)).trans hw455_0), ((HB.out.cell (World.block_lt_of_cell? w _ hw455_1)).trans hw455_1), ((HB.out.cell (World.block_lt_of_cell? w _ hw455_2)).trans hw455_2), ((HB.out.cell (World.block_lt_of_cell? w _ hw455_3)).trans hw455_3), ((HB.out.cell (World.block_lt_of_cell? w _ hw455_4)).trans hw455_4), ((HB.out.cell (World.block_lt_of_cell? w _ hw455_5)).trans hw455_5), ((HB.out.cell (World.block_lt_of_cell? w _ hw455_6)).trans hw455_6)⟩ (fun hHeld => ?_)
      clear hK K
      refine norm_ (a' := ?_) ?_ ?_
      rotate_left
      ·show Act.put _ (some 34) _ = _
       simp only [Act.put, List.setIfInBounds_toArray, List.set_cons_zero, List.set_cons_succ, i64_w, i32_w]
       rfl
      refine pureD 8 26 HT_ ?_
      refine pureD 9 35 HT_ ?_
      refine pureD 10 36 HT_ ?_
      refine pureD 11 11 HT_ ?_
      refine pureD 12 12 HT_ ?_
      refine done_ (done_of HT_.out (by kernel_rfl)) ?_
      have p460 : 0 ≤ (x10_1 : Int) := of_decide_eq_true asmA
      have q460 : x10_1 < (l2.length : Int) := of_decide_eq_true asmA
      obtain ⟨ad460, A460_0, c460_0, e460, hx460_0, hx460_1, hx460_2, hx460_3, hx460_4, hx460_5, hx460_6, hl460_0, hi460_0⟩ := at_T51 HR2.out x10_1 p460 q460
      obtain rfl : ad455 = ad460 := (by injection e460)
      replace hx460_0 := cbx HB hx460_0
      replace hx460_1 := cbx HB hx460_1
      replace hx460_2 := cbx HB hx460_2
      replace hx460_3 := cbx HB hx460_3
      replace hx460_4 := cbx HB hx460_4
      replace hx460_5 := cbx HB hx460_5
      replace hx460_6 := cbx HB hx460_6
      have HR460_0 := Aside0.mk hi460_0
      have HC460_0 := Aside0.mk hl460_0
      clear hi460_0 hl460_0
      replace p460 := eq_true p460
      replace q460 := eq_true q460
      obtain ⟨Ao16, co16, eo16⟩ := Kd.R_slice HO458.out
      subst eo16
      obtain ⟨Ao17, co17, eo17⟩ := Kd.N_slice HO_9.out
      subst eo17
      try go_wp2_with (first | ((with_reducible refine gate_callee (f := 48) rfl ?_); refine goesL_ (some 46) rfl rfl Try.func48 (by kernel_rfl) rfl #[.slice Ao17 x9_1.length co17, .agg #[.slice Ao16 t456.length co16, .int .u64 ((rd_T51 l2 x10_1).f1.f0), .bool ((rd_T51 l2 x10_1).f1.f1), .int .i64 ((rd_T51 l2 x10_1).f1.f2.f0), .int .u64 ((rd_T51 l2 x10_1).f1.f2.f1), .int .i64 ((rd_T51 l2 x10_1).f1.f3), .int .i64 ((rd_T51 l2 x10_1).f1.f4)]] rfl argA ?_; (with_reducible refine (rickyardref14_Put.calls k1 (fun k_ => (((w.heap.size ≤ k_) ∧ k_ ≠ gb453) ∧ some k_ ≠ (.slice Ao16 t456.length co16 : Value).ownBlock)) _ _ x9_1 (fun k_ => some k_ = (.slice Ao16 t456.length co16 : Value).ownBlock) _ _ t456 ((rd_T51 l2 x10_1).f1.f0) ((rd_T51 l2 x10_1).f1.f1) ((rd_T51 l2 x10_1).f1.f2.f0) ((rd_T51 l2 x10_1).f1.f2.f1) ((rd_T51 l2 x10_1).f1.f3) ((rd_T51 l2 x10_1).f1.f4) t461 _ ?side1 ?side2 A13.out).mono ?_); (case side1 => exact Kd.N_V (HO_9.out)); (case side2 => exact Kd.R_V (Kd.R_tight rfl (Kd.R_types (Kd.R_apart' (HO458.out) (Kd.N_typed HO_9.out) (by decide)) BK453.out (by decide)))); rintro e w18 ⟨v462, rfl, ho0, hb⟩; refine ⟨_, rfl, ?_⟩; have HO463 := Aside0.mk (Kd.N_lower (Kd.N_mono (ok' := fun k_ => (w.heap.size ≤ k_) ∧ k_ ≠ gb453) ho0 (fun k_ hk_ => ⟨Or.elim hk_ (fun hs_ => Or.elim hs_ (fun hs_ => hs_.1.1) (fun hs_ => ((Kd.R_types (Kd.R_apart' (HO458.out) (Kd.N_typed HO_9.out) (by decide)) BK453.out (by decide)).1 k_ hs_.symm).1.1.1)) (fun hn_ => (Nat.le_trans (below_size (belB HB.out GE453.out)) hn_)), Or.elim hk_ (fun hs_ => Or.elim hs_ (fun hs_ => hs_.1.2) (fun hs_ => ((Kd.R_types (Kd.R_apart' (HO458.out) (Kd.N_typed HO_9.out) (by decide)) BK453.out (by decide)).1 k_ hs_.symm).2)) (fun hn_ => (Kd.freshB (g := gb453) (o := .cells #[.slice A0_0 l0_0.length c0_0, .int .i64 a0_1] 24 (0, 0)) (blkA BK453.out) k_ hn_))⟩)) (below_size (belB HB.out GE453.out))); replace HO_9 := Aside0.mk (Kd.N_elder' (nilA HO_9.out) (Kd.N_base ho0) hb); replace HO458 := Aside0.mk (Kd.R_below (rowA HO458.out) hb); replace BK453 := blkB BK453 hb; replace HB := bs2 HB GE453 hb; (try clear hb); (try clear ho0)))
      go_roundg k1
      case measure => have := HK1.out; omega
      case rel => exact ⟨(t461), (wrap64 (x10_1 + 1)), relA, H', ⟨by have := HK1.out; omega⟩, ⟨nilA HO463.out⟩, ⟨blkA BK453.out⟩, ⟨belB HB.out GE453.out⟩⟩
     ·replace c12 := Bool.eq_false_iff.mpr c12
      subst c12
      have H1 : (rickyardref15_Fold.l0 k1 a1 l2 t454 x9_1 (wrap64 (x10_1 + 1)) l0_0 a0_1) = some (r1, r2) := by rw [if_neg (show ¬ (false = true) by decide)] at H; exact H
      clear H
      have H := H1
      clear H1
      have H' := Aside0.mk H
      clear H
      try go_wp2
      replace HO_9 := Aside0.mk (Kd.N_drew HO_9.out)
      replace BK453 := Aside0.mk (blk_drew BK453.out)
      replace HB := Aside0.mk (below_drew1 HB.out)
      have p455 : 0 ≤ (x10_1 : Int) := of_decide_eq_true asmA
      have q455 : x10_1 < (l2.length : Int) := of_decide_eq_true asmA
      obtain ⟨ad455, A455_0, c455_0, e455, hx455_0, hx455_1, hx455_2, hx455_3, hx455_4, hx455_5, hx455_6, hl455_0, hi455_0⟩ := at_T51 HR2.out x10_1 p455 q455
      have hw455_6 := hx455_6
      have hw455_5 := hx455_5
      have hw455_4 := hx455_4
      have hw455_3 := hx455_3
      have hw455_2 := hx455_2
      have hw455_1 := hx455_1
      have hw455_0 := hx455_0
      cases e455
      replace hx455_0 := cbx HB hx455_0
      replace hx455_1 := cbx HB hx455_1
      replace hx455_2 := cbx HB hx455_2
      replace hx455_3 := cbx HB hx455_3
      replace hx455_4 := cbx HB hx455_4
      replace hx455_5 := cbx HB hx455_5
      replace hx455_6 := cbx HB hx455_6
      have HR455_0 := Aside0.mk hi455_0
      have HC455_0 := Aside0.mk hl455_0
      clear hi455_0 hl455_0
      replace p455 := eq_true p455
      replace q455 := eq_true q455
      refine start_ (n := 13) (S := fun w' => w'.cell? ⟨gb453, 0, none⟩ = some (.slice A0_0 l0_0.length c0_0) ∧ w'.cell? ⟨gb453, 1, none⟩ = some (.int .i64 a0_1) ∧ w'.cell? (ad455.add ((x10_1).toNat * 7)) = some (.slice A455_0 ((rd_T51 l2 x10_1).f0).length c455_0) ∧ w'.cell? ⟨(ad455.add ((x10_1).toNat * 7)).block, (ad455.add ((x10_1).toNat * 7)).off + 1, none⟩ = some (.int .u64 ((rd_T51 l2 x10_1).f1.f0)) ∧ w'.cell? ⟨(ad455.add ((x10_1).toNat * 7)).block, (ad455.add ((x10_1).toNat * 7)).off + 2, none⟩ = some (.bool ((rd_T51 l2 x10_1).f1.f1)) ∧ w'.cell? ⟨(ad455.add ((x10_1).toNat * 7)).block, (ad455.add ((x10_1).toNat * 7)).off + 3, none⟩ = some (.int .i64 ((rd_T51 l2 x10_1).f1.f2.f0)) ∧ w'.cell? ⟨(ad455.add ((x10_1).toNat * 7)).block, (ad455.add ((x10_1).toNat * 7)).off + 4, none⟩ = some (.int .u64 ((rd_T51 l2 x10_1).f1.f2.f1)) ∧ w'.cell? ⟨(ad455.add ((x10_1).toNat * 7)).block, (ad455.add ((x10_1).toNat * 7)).off + 5, none⟩ = some (.int .i64 ((rd_T51 l2 x10_1).f1.f3)) ∧ w'.cell? ⟨(ad455.add ((x10_1).toNat * 7)).block, (ad455.add ((x10_1).toNat * 7)).off + 6, none⟩ = some (.int .i64 ((rd_T51 l2 x10_1).f1.f4))) (ds := []) #[false, false, false, false, false, false, false, false, false, false, false, false, false] (by kernel_rfl) rfl rfl ⟨(blk_cell BK453.out 0).trans rfl, (blk_cell BK453.out 1).trans rfl, ((HB.out.cell (World.block_lt_of_cell? w _ hw455_0)).trans hw455_0), ((HB.out.cell (World.block_lt_of_cell? w _ hw455_1)).trans hw455_1), ((HB.out.cell (World.block_lt_of_cell? w _ hw455_2)).trans hw455_2), ((HB.out.cell (World.block_lt_of_cell? w _ hw455_3)).trans hw455_3), ((HB.out.cell (World.block_lt_of_cell? w _ hw455_4)).trans hw455_4), ((HB.out.cell (World.block_lt_of_cell? w _ hw455_5)).trans hw455_5), ((HB.out.cell (World.block_lt_of_cell? w _ hw455_6)).trans hw455_6)⟩ (fun hHeld => ?_); refine with_tabW rickyardref15_Fold.tab8 rickyardref15_Fold.bits8 (fun HT_ HW_ => ?_)
      generalize wr.drew = w19 at HO_9 BK453 HB HR455_0 hx455_0 hx455_1 hx455_2 hx455_3 hx455_4 hx455_5 hx455_6 hHeld ⊢
      refine pureD 1 28 HT_ ?_
      refine pureD 2 29 HT_ ?_
      refine pureD 3 30 HT_ ?_
      refine pureD 4 31 HT_ ?_
      refine pureD 5 32 HT_ ?_
      refine takeD 0 27 HT_ HW_ hHeld ?_
      refine takeD 6 33 HT_ HW_ hHeld ?_
      refine one_ (i := 7) (N := some 34) #[true, true, true, true, true, true, true, true, false, false, false, false, false] rfl rfl (one_of HT_.out (by kernel_rfl)) (by decide) (fun K hK => ?_)
      refine goes_ Try.func47 (by kernel_rfl) rfl #[.agg #[.slice A0_0 l0_0.length c0_0, .int .i64 a0_1], .int .i64 a1, .slice A455_0 ((rd_T51 l2 x10_1).f0).length c455_0] (by rfl) rfl rfl argA ?_
      with_reducible refine (rickyardref15_Key.calls k1 _ _ l0_0 a0_1 a1 _ _ ((rd_T51 l2 x10_1).f0) t456 false _ ?side1 ?side2 ?side3 ?side4 A11.out).mono ?_
      (case side1 => exact cb1 HR0_0 HB)
      (case side2 => exact HC0_0.out)
      (case side3 => exact cb1 HR455_0 HB)
      (case side4 => exact HC455_0.out)
      rintro e w20 ⟨v457, rfl, ho0, hb⟩
      refine ⟨_, rfl, ?_⟩
      have HO458 := Aside0.mk (Kd.R_lower (Kd.R_newM (M := fun k_ => (w.heap.size ≤ k_)) ho0 (below_size (belB HB.out GE453.out)) (fun k_ h_ => h_)) (below_size (belB HB.out GE453.out)))
      replace HO_9 := Aside0.mk (Kd.N_elder' (nilA HO_9.out) (Kd.R_base ho0) hb)
      replace BK453 := blkB BK453 hb
      replace HB := bs2 HB GE453 hb
      (try clear hb)
      (try clear ho0)
      refine hK.out _ _ ⟨(blk_cell BK453.out 0).trans rfl, (blk_cell BK453.out 1).trans rfl, ((HB.out.cell (World.block_lt_of_cell? w _ hw455_0)).trans hw455_0), ((HB.out.cell (World.block_lt_of_cell? w _ hw455_1)).trans hw455_1), ((HB.out.cell (World.block_lt_of_cell? w _ hw455_2)).trans hw455_2), ((HB.out.cell (World.block_lt_of_cell? w _ hw455_3)).trans hw455_3), ((HB.out.cell (World.block_lt_of_cell? w _ hw455_4)).trans hw455_4), ((HB.out.cell (World.block_lt_of_cell? w _ hw455_5)).trans hw455_5), ((HB.out.cell (World.block_lt_of_cell? w _ hw455_6)).trans hw455_6)⟩ (fun hHeld => ?_)
      clear hK K
      refine norm_ (a' := ?_) ?_ ?_
      rotate_left
      ·show Act.put _ (some 34) _ = _
       simp only [Act.put, List.setIfInBounds_toArray, List.set_cons_zero, List.set_cons_succ, i64_w, i32_w]
       rfl
      refine pureD 8 26 HT_ ?_
      refine pureD 9 35 HT_ ?_
      refine pureD 10 36 HT_ ?_
      refine pureD 11 11 HT_ ?_
      refine pureD 12 12 HT_ ?_
      refine done_ (done_of HT_.out (by kernel_rfl)) ?_
      try go_wp2
      go_roundg k1
      case measure => have := HK1.out; omega
      case rel => exact ⟨(x9_1), (wrap64 (x10_1 + 1)), relA, H', ⟨by have := HK1.out; omega⟩, ⟨by (with_reducible repeat (first | apply Kd.N_alloc | apply Kd.N_drewN | apply Kd.N_drew)); exact Kd.N_mono HO_9.out (fun _ hk => ⟨hk.1.1, hk.1.2⟩)⟩, ⟨blkA BK453.out⟩, ⟨belB HB.out GE453.out⟩⟩
    ·rw [if_neg c10] at H
     exact absurd H (by simp)
   ·rw [if_neg c9] at H
    have c9b0 := decide_eq_false c9
    clear c9
    simp only [Option.some.injEq, Prod.mk.injEq] at H
    obtain ⟨rfl, rfl⟩ := H
    go_wp2
    go_ret2
    exact ⟨_, ret1, by (with_reducible repeat (first | apply Kd.N_alloc | apply Kd.N_drewN | apply Kd.N_drew)); exact Kd.N_mono HO_9.out (fun _ hk => hk.1), belB HB.out GE453.out⟩
theorem eqA39 (d : Nat) (w : World) (x0 y0 : Int) (x1 y1 : Int) :
    (Op.equalIn (d + 2) 39 (.agg #[.int .i64 x0, .int .u64 x1]) (.agg #[.int .i64 y0, .int .u64 y1])).run Try.prog w = .ok (x0 == y0 && (x1 == y1)) w := by
  refine eqA_of Try.underlying39 (by kernel_rfl) ?_
  refine eqf_cons (by rfl) (by go_simp; rfl) (by go_simp; rfl) (by go_simp) ?_
  exact eqf_last (by rfl) (by go_simp; rfl) (by go_simp; rfl) (by go_simp)
theorem eqA41 (d : Nat) (w : World) (x0 y0 : Int) (x1 y1 : Bool) (x2 y2 : Int) (x3 y3 : Int) (x4 y4 : Int) (x5 y5 : Int) :
    (Op.equalIn (d + 3) 41 (.agg #[.int .u64 x0, .bool x1, .int .i64 x2, .int .u64 x3, .int .i64 x4, .int .i64 x5]) (.agg #[.int .u64 y0, .bool y1, .int .i64 y2, .int .u64 y3, .int .i64 y4, .int .i64 y5])).run Try.prog w = .ok (x0 == y0 && (x1 == y1 && ((x2 == y2 && (x3 == y3)) && (x4 == y4 && (x5 == y5))))) w := by
  refine eqA_of Try.underlying41 (by kernel_rfl) ?_
  refine eqf_cons (by rfl) (by go_simp; rfl) (by go_simp; rfl) (by go_simp) ?_
  refine eqf_cons (by rfl) (by go_simp; rfl) (by go_simp; rfl) (by go_simp) ?_
  refine eqf_cons (by rfl) (by go_simp) (by go_simp) (eqA39 (d + 0) w _ _ _ _) ?_
  refine eqf_cons (by rfl) (by go_simp; rfl) (by go_simp; rfl) (by go_simp) ?_
  exact eqf_last (by rfl) (by go_simp; rfl) (by go_simp; rfl) (by go_simp)
end Go.Proofs.Ytjemmmemenljbaa.PFold
end
section
namespace Go.Proofs.Ytjemmmemenljbaa.PFold
open Go.RowKit Go.Proofs.YtjemmmemenljbaaW.PrintWords Go.Proofs.YtjemmmemenljbaaW.PrintLast Go.Proofs.YtjemmmemenljbaaW.PrintMore
attribute [local go_sem] max2_int min2_int max_two min_two max_three min_three max_four min_four   -- for this text's walks alone
set_option linter.unusedVariables false
set_option linter.unusedSimpArgs false
attribute [local go_sem high] eqA41
set_option maxHeartbeats 8000000
set_option maxRecDepth 100000
def rickyardref08_Same.l0 : Nat → List (S51) → List (S51) → Int → Option (Bool)
 | 0, _, _, _ => none
 | k + 1, x0, x1, x5 => if x5 < (x0.length : Int) then (if 0 ≤ x5 then (if x5 < (x1.length : Int) then (if (strOfNums ((rd_T51 x0 x5).f0)).toList = (strOfNums ((rd_T51 x1 x5).f0)).toList then (if (!(((rd_T51 x0 x5).f1.f0) == ((rd_T51 x1 x5).f1.f0)) || (!(((rd_T51 x0 x5).f1.f1) == ((rd_T51 x1 x5).f1.f1)) || ((!(((rd_T51 x0 x5).f1.f2.f0) == ((rd_T51 x1 x5).f1.f2.f0)) || (!(((rd_T51 x0 x5).f1.f2.f1) == ((rd_T51 x1 x5).f1.f2.f1)))) || (!(((rd_T51 x0 x5).f1.f3) == ((rd_T51 x1 x5).f1.f3)) || (!(((rd_T51 x0 x5).f1.f4) == ((rd_T51 x1 x5).f1.f4))))))) = true then (some false) else (rickyardref08_Same.l0 k x0 x1 (wrap64 (x5 + 1)))) else (some false)) else (none)) else (none)) else (some true)
def rickyardref08_Same.f (k : Nat) (l0 : List (S51)) (l1 : List (S51)) : Option (Bool) := if (l0.length : Int) = (l1.length : Int) then (rickyardref08_Same.l0 k l0 l1 0) else (some false)
theorem rickyardref08_Same.calls (k : Nat) (A0 : Option Addr) (c0 : Nat) (l0 : List (S51)) (A1 : Option Addr) (c1 : Nat) (l1 : List (S51)) (r : Bool) (w : World) (hr0 : Kd.C k51 w A0 l0.length l0) (hc0 : l0.length ≤ c0) (hr1 : Kd.C k51 w A1 l1.length l1) (hc1 : l1.length ≤ c1) (h : rickyardref08_Same.f k l0 l1 = some r) :
  Calls Try.prog 14 #[.slice A0 l0.length c0, .slice A1 l1.length c1] w fun e w' => e = .returned (.bool r) ∧ Drawn0 w w' := by
 have hu41 := Try.underlying41
 have HR0 := Aside0.mk hr0
 have HC0 := Aside0.mk hc0
 clear hr0 hc0
 have HR1 := Aside0.mk hr1
 have HC1 := Aside0.mk hc1
 clear hr1 hc1
 have H : (if (l0.length : Int) = (l1.length : Int) then (rickyardref08_Same.l0 k l0 l1 0) else (some false)) = some r := h
 clear h
 by_cases c3 : (l0.length : Int) = (l1.length : Int)
 rotate_left
 ·rw [if_neg c3] at H
  have c3b0 := beq_eq_false_iff_ne.mpr c3
  have c3b1 := bne_iff_ne.mpr c3
  have c3b2 : (l0.length == l1.length) = false := by first | simpa using c3 | (simp at c3 ⊢; omega)
  obtain rfl := Option.some.inj H
  go_enter Try.func14, Try.ntmps14
  go_wp2
  repeat (go_quiet (fail); try go_wp2)
  go_ret
  exact ⟨by first | rfl | (simp; done) | (simp [*]; done), by repeat (first | exact Drawn0.refl _ | apply Drawn0.step)⟩
 rw [if_pos c3] at H
 have c3b0 := beq_iff_eq.mpr c3
 have c3b1 := bne_eq_false_iff_eq.mpr c3
 have c3b2 : (l0.length == l1.length) = true := by first | simpa using c3 | (simp at c3 ⊢; omega)
 clear c3
 have H' := Aside0.mk H
 clear H
 go_enter Try.func14, Try.ntmps14
 go_wp2
 repeat (go_quiet (fail); try go_wp2)
 go_loopg [5] k (fun kq v5 w' => ∃ (x5_1 : Int), v5 = .int .i64 x5_1 ∧ Aside0 (rickyardref08_Same.l0 kq l0 l1 x5_1 = some r) ∧ Aside0 (kq ≤ k) ∧ Drawn0 w w')
 case atStart => exact ⟨(0), relA, H', ⟨Nat.le_refl _⟩, by repeat (first | exact Drawn0.refl _ | apply Drawn0.step)⟩
 case round =>
  clear H'
  try clear c1
  try clear p2
  try clear c3
  try clear c3b0
  try clear c3b1
  try clear c3b2
  obtain ⟨x5_1, rfl, HA, HK1, ⟨m1, rfl⟩⟩ := hrel
  cases gk with
  | zero => exact absurd HA.out (by simp [rickyardref08_Same.l0])
  | succ k1 =>
   have H := HA.out
   clear HA
   simp only [rickyardref08_Same.l0] at H
   by_cases c4 : x5_1 < (l0.length : Int)
   ·rw [if_pos c4] at H
    have c4b0 := decide_eq_true c4
    clear c4
    by_cases c5 : 0 ≤ x5_1
    ·rw [if_pos c5] at H
     have c5b0 := decide_eq_true c5
     clear c5
     by_cases c6 : x5_1 < (l1.length : Int)
     ·rw [if_pos c6] at H
      have c6b0 := decide_eq_true c6
      clear c6
      by_cases c7 : (strOfNums ((rd_T51 l0 x5_1).f0)).toList = (strOfNums ((rd_T51 l1 x5_1).f0)).toList
      ·rw [if_pos c7] at H
       have c7b0 := beq_iff_eq.mpr c7
       have c7b1 := bne_eq_false_iff_eq.mpr c7
       clear c7
       by_cases c8 : (!(((rd_T51 l0 x5_1).f1.f0) == ((rd_T51 l1 x5_1).f1.f0)) || (!(((rd_T51 l0 x5_1).f1.f1) == ((rd_T51 l1 x5_1).f1.f1)) || ((!(((rd_T51 l0 x5_1).f1.f2.f0) == ((rd_T51 l1 x5_1).f1.f2.f0)) || (!(((rd_T51 l0 x5_1).f1.f2.f1) == ((rd_T51 l1 x5_1).f1.f2.f1)))) || (!(((rd_T51 l0 x5_1).f1.f3) == ((rd_T51 l1 x5_1).f1.f3)) || (!(((rd_T51 l0 x5_1).f1.f4) == ((rd_T51 l1 x5_1).f1.f4))))))) = true
       ·rw [if_pos c8] at H
        have c8b0 : (!(((rd_T51 l0 x5_1).f1.f0) == ((rd_T51 l1 x5_1).f1.f0)) || (!(((rd_T51 l0 x5_1).f1.f1) == ((rd_T51 l1 x5_1).f1.f1)) || ((!(((rd_T51 l0 x5_1).f1.f2.f0) == ((rd_T51 l1 x5_1).f1.f2.f0)) || (!(((rd_T51 l0 x5_1).f1.f2.f1) == ((rd_T51 l1 x5_1).f1.f2.f1)))) || (!(((rd_T51 l0 x5_1).f1.f3) == ((rd_T51 l1 x5_1).f1.f3)) || (!(((rd_T51 l0 x5_1).f1.f4) == ((rd_T51 l1 x5_1).f1.f4))))))) = true := c8
        clear c8
        obtain rfl := Option.some.inj H
        have p503 : 0 ≤ (x5_1 : Int) := of_decide_eq_true asmA
        have q503 : x5_1 < (l0.length : Int) := of_decide_eq_true asmA
        obtain ⟨ad503, A503_0, c503_0, e503, hx503_0, hx503_1, hx503_2, hx503_3, hx503_4, hx503_5, hx503_6, hl503_0, hi503_0⟩ := at_T51 HR0.out x5_1 p503 q503
        cases e503
        have HR503_0 := Aside0.mk hi503_0
        have HC503_0 := Aside0.mk hl503_0
        clear hi503_0 hl503_0
        replace p503 := eq_true p503
        replace q503 := eq_true q503
        have hcv9 := Kd.C_string (P := Try.prog) (A := A503_0) (c := c503_0) Try.underlying49 Try.underlying5 Try.underlying9 HR503_0.out
        have hcv10 := fun (n_ : Nat) => Kd.C_string (P := Try.prog) (A := A503_0) (c := c503_0) Try.underlying49 Try.underlying5 Try.underlying9 (Kd.C_drewN HR503_0.out n_)
        have p504 : 0 ≤ (x5_1 : Int) := of_decide_eq_true asmA
        have q504 : x5_1 < (l1.length : Int) := of_decide_eq_true asmA
        obtain ⟨ad504, A504_0, c504_0, e504, hx504_0, hx504_1, hx504_2, hx504_3, hx504_4, hx504_5, hx504_6, hl504_0, hi504_0⟩ := at_T51 HR1.out x5_1 p504 q504
        cases e504
        have HR504_0 := Aside0.mk hi504_0
        have HC504_0 := Aside0.mk hl504_0
        clear hi504_0 hl504_0
        replace p504 := eq_true p504
        replace q504 := eq_true q504
        have hcv11 := Kd.C_string (P := Try.prog) (A := A504_0) (c := c504_0) Try.underlying49 Try.underlying5 Try.underlying9 HR504_0.out
        have hcv12 := fun (n_ : Nat) => Kd.C_string (P := Try.prog) (A := A504_0) (c := c504_0) Try.underlying49 Try.underlying5 Try.underlying9 (Kd.C_drewN HR504_0.out n_)
        have p505 : 0 ≤ (x5_1 : Int) := of_decide_eq_true asmA
        have q505 : x5_1 < (l0.length : Int) := of_decide_eq_true asmA
        obtain ⟨ad505, A505_0, c505_0, e505, hx505_0, hx505_1, hx505_2, hx505_3, hx505_4, hx505_5, hx505_6, hl505_0, hi505_0⟩ := at_T51 HR0.out x5_1 p505 q505
        obtain rfl : ad503 = ad505 := (by injection e505)
        have HR505_0 := Aside0.mk hi505_0
        have HC505_0 := Aside0.mk hl505_0
        clear hi505_0 hl505_0
        replace p505 := eq_true p505
        replace q505 := eq_true q505
        have ea_ := Option.some.inj (hx503_0.symm.trans hx505_0)
        injection ea_ with ea_ en_ ec_
        subst ea_
        subst ec_
        clear en_
        have p506 : 0 ≤ (x5_1 : Int) := of_decide_eq_true asmA
        have q506 : x5_1 < (l1.length : Int) := of_decide_eq_true asmA
        obtain ⟨ad506, A506_0, c506_0, e506, hx506_0, hx506_1, hx506_2, hx506_3, hx506_4, hx506_5, hx506_6, hl506_0, hi506_0⟩ := at_T51 HR1.out x5_1 p506 q506
        obtain rfl : ad504 = ad506 := (by injection e506)
        have HR506_0 := Aside0.mk hi506_0
        have HC506_0 := Aside0.mk hl506_0
        clear hi506_0 hl506_0
        replace p506 := eq_true p506
        replace q506 := eq_true q506
        have ea_ := Option.some.inj (hx504_0.symm.trans hx506_0)
        injection ea_ with ea_ en_ ec_
        subst ea_
        subst ec_
        clear en_
        go_wp2
        repeat (go_quiet (fail); try go_wp2)
        go_ret
        exact ⟨by first | rfl | (simp; done) | (simp [*]; done), by repeat (first | exact Drawn0.refl _ | apply Drawn0.step)⟩
       ·rw [if_neg c8] at H
        have c8b0 : (!(((rd_T51 l0 x5_1).f1.f0) == ((rd_T51 l1 x5_1).f1.f0)) || (!(((rd_T51 l0 x5_1).f1.f1) == ((rd_T51 l1 x5_1).f1.f1)) || ((!(((rd_T51 l0 x5_1).f1.f2.f0) == ((rd_T51 l1 x5_1).f1.f2.f0)) || (!(((rd_T51 l0 x5_1).f1.f2.f1) == ((rd_T51 l1 x5_1).f1.f2.f1)))) || (!(((rd_T51 l0 x5_1).f1.f3) == ((rd_T51 l1 x5_1).f1.f3)) || (!(((rd_T51 l0 x5_1).f1.f4) == ((rd_T51 l1 x5_1).f1.f4))))))) = false := by simpa using c8
        clear c8
        have H' := Aside0.mk H
        clear H
        have p503 : 0 ≤ (x5_1 : Int) := of_decide_eq_true asmA
        have q503 : x5_1 < (l0.length : Int) := of_decide_eq_true asmA
        obtain ⟨ad503, A503_0, c503_0, e503, hx503_0, hx503_1, hx503_2, hx503_3, hx503_4, hx503_5, hx503_6, hl503_0, hi503_0⟩ := at_T51 HR0.out x5_1 p503 q503
        cases e503
        have HR503_0 := Aside0.mk hi503_0
        have HC503_0 := Aside0.mk hl503_0
        clear hi503_0 hl503_0
        replace p503 := eq_true p503
        replace q503 := eq_true q503
        have hcv13 := Kd.C_string (P := Try.prog) (A := A503_0) (c := c503_0) Try.underlying49 Try.underlying5 Try.underlying9 HR503_0.out
        have hcv14 := fun (n_ : Nat) => Kd.C_string (P := Try.prog) (A := A503_0) (c := c503_0) Try.underlying49 Try.underlying5 Try.underlying9 (Kd.C_drewN HR503_0.out n_)
        have p504 : 0 ≤ (x5_1 : Int) := of_decide_eq_true asmA
        have q504 : x5_1 < (l1.length : Int) := of_decide_eq_true asmA
        obtain ⟨ad504, A504_0, c504_0, e504, hx504_0, hx504_1, hx504_2, hx504_3, hx504_4, hx504_5, hx504_6, hl504_0, hi504_0⟩ := at_T51 HR1.out x5_1 p504 q504
        cases e504
        have HR504_0 := Aside0.mk hi504_0
        have HC504_0 := Aside0.mk hl504_0
        clear hi504_0 hl504_0
        replace p504 := eq_true p504
        replace q504 := eq_true q504
        have hcv15 := Kd.C_string (P := Try.prog) (A := A504_0) (c := c504_0) Try.underlying49 Try.underlying5 Try.underlying9 HR504_0.out
        have hcv16 := fun (n_ : Nat) => Kd.C_string (P := Try.prog) (A := A504_0) (c := c504_0) Try.underlying49 Try.underlying5 Try.underlying9 (Kd.C_drewN HR504_0.out n_)
        have p505 : 0 ≤ (x5_1 : Int) := of_decide_eq_true asmA
        have q505 : x5_1 < (l0.length : Int) := of_decide_eq_true asmA
        obtain ⟨ad505, A505_0, c505_0, e505, hx505_0, hx505_1, hx505_2, hx505_3, hx505_4, hx505_5, hx505_6, hl505_0, hi505_0⟩ := at_T51 HR0.out x5_1 p505 q505
        obtain rfl : ad503 = ad505 := (by injection e505)
        have HR505_0 := Aside0.mk hi505_0
        have HC505_0 := Aside0.mk hl505_0
        clear hi505_0 hl505_0
        replace p505 := eq_true p505
        replace q505 := eq_true q505
        have ea_ := Option.some.inj (hx503_0.symm.trans hx505_0)
        injection ea_ with ea_ en_ ec_
        subst ea_
        subst ec_
        clear en_
        have p506 : 0 ≤ (x5_1 : Int) := of_decide_eq_true asmA
        have q506 : x5_1 < (l1.length : Int) := of_decide_eq_true asmA
        obtain ⟨ad506, A506_0, c506_0, e506, hx506_0, hx506_1, hx506_2, hx506_3, hx506_4, hx506_5, hx506_6, hl506_0, hi506_0⟩ := at_T51 HR1.out x5_1 p506 q506
        obtain rfl : ad504 = ad506 := (by injection e506)
        have HR506_0 := Aside0.mk hi506_0
        have HC506_0 := Aside0.mk hl506_0
        clear hi506_0 hl506_0
        replace p506 := eq_true p506
        replace q506 := eq_true q506
        have ea_ := Option.some.inj (hx504_0.symm.trans hx506_0)
        injection ea_ with ea_ en_ ec_
        subst ea_
        subst ec_
        clear en_
        go_wp2
        repeat (go_quiet (fail); try go_wp2)
        go_roundg k1
        case measure => have := HK1.out; omega
        case rel => exact ⟨(wrap64 (x5_1 + 1)), relA, H', ⟨by have := HK1.out; omega⟩, by repeat (first | exact Drawn0.refl _ | apply Drawn0.step)⟩
      ·rw [if_neg c7] at H
       have c7b0 := beq_eq_false_iff_ne.mpr c7
       have c7b1 := bne_iff_ne.mpr c7
       obtain rfl := Option.some.inj H
       have p503 : 0 ≤ (x5_1 : Int) := of_decide_eq_true asmA
       have q503 : x5_1 < (l0.length : Int) := of_decide_eq_true asmA
       obtain ⟨ad503, A503_0, c503_0, e503, hx503_0, hx503_1, hx503_2, hx503_3, hx503_4, hx503_5, hx503_6, hl503_0, hi503_0⟩ := at_T51 HR0.out x5_1 p503 q503
       cases e503
       have HR503_0 := Aside0.mk hi503_0
       have HC503_0 := Aside0.mk hl503_0
       clear hi503_0 hl503_0
       replace p503 := eq_true p503
       replace q503 := eq_true q503
       have hcv17 := Kd.C_string (P := Try.prog) (A := A503_0) (c := c503_0) Try.underlying49 Try.underlying5 Try.underlying9 HR503_0.out
       have hcv18 := fun (n_ : Nat) => Kd.C_string (P := Try.prog) (A := A503_0) (c := c503_0) Try.underlying49 Try.underlying5 Try.underlying9 (Kd.C_drewN HR503_0.out n_)
       have p504 : 0 ≤ (x5_1 : Int) := of_decide_eq_true asmA
       have q504 : x5_1 < (l1.length : Int) := of_decide_eq_true asmA
       obtain ⟨ad504, A504_0, c504_0, e504, hx504_0, hx504_1, hx504_2, hx504_3, hx504_4, hx504_5, hx504_6, hl504_0, hi504_0⟩ := at_T51 HR1.out x5_1 p504 q504
       cases e504
       have HR504_0 := Aside0.mk hi504_0
       have HC504_0 := Aside0.mk hl504_0
       clear hi504_0 hl504_0
       replace p504 := eq_true p504
       replace q504 := eq_true q504
       have hcv19 := Kd.C_string (P := Try.prog) (A := A504_0) (c := c504_0) Try.underlying49 Try.underlying5 Try.underlying9 HR504_0.out
       have hcv20 := fun (n_ : Nat) => Kd.C_string (P := Try.prog) (A := A504_0) (c := c504_0) Try.underlying49 Try.underlying5 Try.underlying9 (Kd.C_drewN HR504_0.out n_)
       go_wp2
       repeat (go_quiet (fail); try go_wp2)
       go_ret
       exact ⟨by first | rfl | (simp; done) | (simp [*]; done), by repeat (first | exact Drawn0.refl _ | apply Drawn0.step)⟩
     ·rw [if_neg c6] at H
      exact absurd H (by simp)
    ·rw [if_neg c5] at H
     exact absurd H (by simp)
   ·rw [if_neg c4] at H
    have c4b0 := decide_eq_false c4
    clear c4
    obtain rfl := Option.some.inj H
    go_wp2
    repeat (go_quiet (fail); try go_wp2)
    go_ret
    exact ⟨by first | rfl | (simp; done) | (simp [*]; done), by repeat (first | exact Drawn0.refl _ | apply Drawn0.step)⟩
end Go.Proofs.Ytjemmmemenljbaa.PFold
end
section
namespace Go.Proofs.Ytjemmmemenljbaa.PFold
open Go.RowKit Go.Proofs.YtjemmmemenljbaaW.PrintWords Go.Proofs.YtjemmmemenljbaaW.PrintLast Go.Proofs.YtjemmmemenljbaaW.PrintMore
attribute [local go_sem] max2_int min2_int max_two min_two max_three min_three max_four min_four   -- for this text's walks alone
set_option linter.unusedVariables false
set_option linter.unusedSimpArgs false
set_option maxHeartbeats 8000000
set_option maxRecDepth 100000
def rickyardlaw15_Great.l0 : Nat → List (S51) → Int → Option (Bool)
 | 0, _, _ => none
 | k + 1, x0, x3 => if x3 < (x0.length : Int) then (if 0 ≤ x3 then (if (((rd_T51 x0 x3).f0).length : Int) > 300 then (some true) else (rickyardlaw15_Great.l0 k x0 (wrap64 (x3 + 1)))) else (none)) else (some false)
def rickyardlaw15_Great.f (k : Nat) (l0 : List (S51)) : Option (Bool) := if (l0.length : Int) > 60 then (some true) else (rickyardlaw15_Great.l0 k l0 0)
theorem rickyardlaw15_Great.calls (k : Nat) (A0 : Option Addr) (c0 : Nat) (l0 : List (S51)) (r : Bool) (w : World) (hr0 : Kd.C k51 w A0 l0.length l0) (hc0 : l0.length ≤ c0) (h : rickyardlaw15_Great.f k l0 = some r) :
  Calls Try.prog 15 #[.slice A0 l0.length c0] w fun e w' => e = .returned (.bool r) ∧ Drawn0 w w' := by
 have HR0 := Aside0.mk hr0
 have HC0 := Aside0.mk hc0
 clear hr0 hc0
 have H : (if (l0.length : Int) > 60 then (some true) else (rickyardlaw15_Great.l0 k l0 0)) = some r := h
 clear h
 by_cases c2 : (l0.length : Int) > 60
 ·rw [if_pos c2] at H
  have c2b0 := decide_eq_true c2
  have c2b1 : decide (60 < l0.length) = true := decide_eq_true (by omega)
  clear c2
  obtain rfl := Option.some.inj H
  go_enter Try.func15, Try.ntmps15
  go_wp2
  go_ret
  exact ⟨by first | rfl | (simp; done) | (simp [*]; done), by repeat (first | exact Drawn0.refl _ | apply Drawn0.step)⟩
 rw [if_neg c2] at H
 have c2b0 := decide_eq_false c2
 have c2b1 : decide (60 < l0.length) = false := decide_eq_false (by omega)
 clear c2
 have H' := Aside0.mk H
 clear H
 go_enter Try.func15, Try.ntmps15
 go_wp2
 go_loopg [3] k (fun kq v3 w' => ∃ (x3_1 : Int), v3 = .int .i64 x3_1 ∧ Aside0 (rickyardlaw15_Great.l0 kq l0 x3_1 = some r) ∧ Aside0 (kq ≤ k) ∧ Drawn0 w w')
 case atStart => exact ⟨(0), relA, H', ⟨Nat.le_refl _⟩, by repeat (first | exact Drawn0.refl _ | apply Drawn0.step)⟩
 case round =>
  clear H'
  try clear c1
  try clear c2
  try clear c2b0
  try clear c2b1
  try clear p2
  obtain ⟨x3_1, rfl, HA, HK1, ⟨m1, rfl⟩⟩ := hrel
  cases gk with
  | zero => exact absurd HA.out (by simp [rickyardlaw15_Great.l0])
  | succ k1 =>
   have H := HA.out
   clear HA
   simp only [rickyardlaw15_Great.l0] at H
   by_cases c3 : x3_1 < (l0.length : Int)
   ·rw [if_pos c3] at H
    have c3b0 := decide_eq_true c3
    clear c3
    by_cases c4 : 0 ≤ x3_1
    ·rw [if_pos c4] at H
     have c4b0 := decide_eq_true c4
     clear c4
     by_cases c5 : (((rd_T51 l0 x3_1).f0).length : Int) > 300
     ·rw [if_pos c5] at H
      have c5b0 := decide_eq_true c5
      have c5b1 : decide (300 < ((rd_T51 l0 x3_1).f0).length) = true := decide_eq_true (by omega)
      clear c5
      obtain rfl := Option.some.inj H
      have p520 : 0 ≤ (x3_1 : Int) := of_decide_eq_true asmA
      have q520 : x3_1 < (l0.length : Int) := of_decide_eq_true asmA
      obtain ⟨ad520, A520_0, c520_0, e520, hx520_0, hx520_1, hx520_2, hx520_3, hx520_4, hx520_5, hx520_6, hl520_0, hi520_0⟩ := at_T51 HR0.out x3_1 p520 q520
      cases e520
      have HR520_0 := Aside0.mk hi520_0
      have HC520_0 := Aside0.mk hl520_0
      clear hi520_0 hl520_0
      replace p520 := eq_true p520
      replace q520 := eq_true q520
      go_wp2
      go_ret
      exact ⟨by first | rfl | (simp; done) | (simp [*]; done), by repeat (first | exact Drawn0.refl _ | apply Drawn0.step)⟩
     ·rw [if_neg c5] at H
      have c5b0 := decide_eq_false c5
      have c5b1 : decide (300 < ((rd_T51 l0 x3_1).f0).length) = false := decide_eq_false (by omega)
      clear c5
      have H' := Aside0.mk H
      clear H
      have p520 : 0 ≤ (x3_1 : Int) := of_decide_eq_true asmA
      have q520 : x3_1 < (l0.length : Int) := of_decide_eq_true asmA
      obtain ⟨ad520, A520_0, c520_0, e520, hx520_0, hx520_1, hx520_2, hx520_3, hx520_4, hx520_5, hx520_6, hl520_0, hi520_0⟩ := at_T51 HR0.out x3_1 p520 q520
      cases e520
      have HR520_0 := Aside0.mk hi520_0
      have HC520_0 := Aside0.mk hl520_0
      clear hi520_0 hl520_0
      replace p520 := eq_true p520
      replace q520 := eq_true q520
      go_wp2
      go_roundg k1
      case measure => have := HK1.out; omega
      case rel => exact ⟨(wrap64 (x3_1 + 1)), relA, H', ⟨by have := HK1.out; omega⟩, by repeat (first | exact Drawn0.refl _ | apply Drawn0.step)⟩
    ·rw [if_neg c4] at H
     exact absurd H (by simp)
   ·rw [if_neg c3] at H
    have c3b0 := decide_eq_false c3
    clear c3
    obtain rfl := Option.some.inj H
    go_wp2
    go_ret
    exact ⟨by first | rfl | (simp; done) | (simp [*]; done), by repeat (first | exact Drawn0.refl _ | apply Drawn0.step)⟩
end Go.Proofs.Ytjemmmemenljbaa.PFold
end
