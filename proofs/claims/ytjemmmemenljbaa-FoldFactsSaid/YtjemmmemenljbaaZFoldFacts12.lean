import Derived.Test.YtjemmmemenljbaaZFoldFacts07
import Derived.Test.YtjemmmemenljbaaZFoldFacts11
section
namespace Go.Proofs.Ytjemmmemenljbaa.PFold
open Go.RowKit Go.Proofs.YtjemmmemenljbaaW.PrintWords Go.Proofs.YtjemmmemenljbaaW.PrintLast Go.Proofs.YtjemmmemenljbaaW.PrintMore
attribute [local go_sem] max2_int min2_int max_two min_two max_three min_three max_four min_four   -- for this text's walks alone
set_option linter.unusedVariables false
set_option linter.unusedSimpArgs false
set_option maxHeartbeats 8000000
set_option maxRecDepth 100000
def rickyardref15_Fold.l0 : Nat → Int → List (S51) → Int → List (S51) → Int → List (S67) → Int → Option ((List (S51)) × Int)
 | 0, _, _, _, _, _, _, _ => none
 | k + 1, x1, x2, x8, x9, x10, x454000, x454001 => if x10 < (x2.length : Int) then (if 0 ≤ x10 then ((rickyardref15_Key.f k x454000 x454001 x1 ((rd_T51 x2 x10).f0)).bind fun bt456 => (if bt456.2 = true then ((rickyardref14_Put.f k x9 bt456.1 ((rd_T51 x2 x10).f1.f0) ((rd_T51 x2 x10).f1.f1) ((rd_T51 x2 x10).f1.f2.f0) ((rd_T51 x2 x10).f1.f2.f1) ((rd_T51 x2 x10).f1.f3) ((rd_T51 x2 x10).f1.f4)).bind fun t461 => (rickyardref15_Fold.l0 k x1 x2 x8 t461 (wrap64 (x10 + 1)) x454000 x454001)) else (rickyardref15_Fold.l0 k x1 x2 x8 x9 (wrap64 (x10 + 1)) x454000 x454001))) else (none)) else (some (x9, x8))
def rickyardref15_Fold.f (k : Nat) (l0_0 : List (S67)) (a0_1 : Int) (a1 : Int) (l2 : List (S51)) : Option ((List (S51)) × Int) := (rickyardref15_Check.f k l0_0 a0_1 a1 l2).bind fun t454 => (if t454 = 0 then (rickyardref15_Fold.l0 k a1 l2 t454 ([] : List (S51)) 0 l0_0 a0_1) else (some (([] : List (S51)), t454)))
def rickyardref15_Fold.T8 : Bool × List (List Nat × List Nat) := (true, [([], []), ([], []), ([], []), ([], []), ([2, 3], [2, 3]), ([4], [4]), ([5], [5]), ([0, 1, 6], [0, 1, 6]), ([7], [7]), ([8], [8]), ([8], [8]), ([9, 7, 0, 1, 2, 3, 4, 5, 6, 7, 8, 9], [9]), ([10, 11, 0, 1, 2, 3, 4, 5, 6, 7, 8, 9, 10, 11], [10])])
def rickyardref15_Fold.B8 : List Nat := [0, 0, 0, 0, 12, 28, 60, 127, 255, 511, 511, 1023, 4095]
theorem rickyardref15_Fold.tab8 : rtab .any (opsOf Try.f20 8) = rickyardref15_Fold.T8 := by kernel_rfl
theorem rickyardref15_Fold.bits8 : waitsOk rickyardref15_Fold.T8.2 rickyardref15_Fold.B8 = true := by kernel_rfl
theorem rickyardref15_Fold.calls (k : Nat) (A0_0 : Option Addr) (c0_0 : Nat) (l0_0 : List (S67)) (a0_1 : Int) (a1 : Int) (A2 : Option Addr) (c2 : Nat) (l2 : List (S51)) (r1 : List (S51)) (r2 : Int) (w : World) (hr0_0 : Kd.C k67 w A0_0 l0_0.length l0_0) (hc0_0 : l0_0.length ≤ c0_0) (hr2 : Kd.C k51 w A2 l2.length l2) (hc2 : l2.length ≤ c2) (h : rickyardref15_Fold.f k l0_0 a0_1 a1 l2 = some (r1, r2)) :
  Calls Try.prog 20 #[.agg #[.slice A0_0 l0_0.length c0_0, .int .i64 a0_1], .int .i64 a1, .slice A2 l2.length c2] w fun e w' => ∃ v0_ : Value, e = .returned (.tuple #[v0_, .int .i64 r2]) ∧ Kd.N k51 51 w' w.heap.size (fun k_ => (w.heap.size ≤ k_)) v0_ r1 ∧ Below w.heap.size w w' := by
 have hu24 := Try.underlying24
 have hu41 := Try.underlying41
 have hu51 := Try.underlying51
 have HR0_0 := Aside0.mk hr0_0
 have HC0_0 := Aside0.mk hc0_0
 clear hr0_0 hc0_0
 have HR2 := Aside0.mk hr2
 have HC2 := Aside0.mk hc2
 clear hr2 hc2
 have HB := Aside0.mk (Below.refl w.heap.size w)
 have H : ((rickyardref15_Check.f k l0_0 a0_1 a1 l2).bind fun t454 => (if t454 = 0 then (rickyardref15_Fold.l0 k a1 l2 t454 ([] : List (S51)) 0 l0_0 a0_1) else (some (([] : List (S51)), t454)))) = some (r1, r2) := h
 clear h
 replace H := bnA H
 obtain ⟨t454, A4, H⟩ := H
 by_cases c5 : t454 = 0
 rotate_left
 ·rw [if_neg c5] at H
  have c5b0 := beq_eq_false_iff_ne.mpr c5
  have c5b1 := bne_iff_ne.mpr c5
  simp only [Option.some.injEq, Prod.mk.injEq] at H
  obtain ⟨rfl, rfl⟩ := H
  go_enter Try.func20, Try.ntmps20
  go_wp2_with (first | ((with_reducible refine gate_dst (N := 3) rfl ?_); refine boxA 3 #[.slice A0_0 l0_0.length c0_0, .int .i64 a0_1] 24 ?_; intro gb453 hg w21 hbox hb; have BK453 := Aside0.mk (hbox); have GE453 := ge1 hg (belA HB.out); replace HB := bst HB hb; clear hb hbox hg; obtain ⟨hcz22_0, hcz22_1, hfz22_0, hfz22_1⟩ := blk2 BK453) | ((with_reducible refine gate_callee (f := 35) rfl ?_); refine goesL_ (some 16) rfl rfl Try.func35 (by kernel_rfl) rfl #[.agg #[.slice A0_0 l0_0.length c0_0, .int .i64 a0_1], .int .i64 a1, .slice A2 l2.length c2] rfl argA ?_; (with_reducible refine (rickyardref15_Check.calls k _ _ l0_0 a0_1 a1 _ _ l2 t454 _ ?side1 ?side2 ?side3 ?side4 A4.out).mono ?_); (case side1 => exact cb1 HR0_0 HB); (case side2 => exact HC0_0.out); (case side3 => exact cb1 HR2 HB); (case side4 => exact HC2.out); rintro e w23 ⟨rfl, hb⟩; refine ⟨_, rfl, ?_⟩; replace BK453 := blkB BK453 hb; replace HB := bs2 HB GE453 hb; (try clear hb)))
  go_ret2
  exact ⟨_, ret1, by first | exact Kd.R_nil _ _ _ _ _ | exact Kd.N_nil _ _ _ _ _ | exact Kd.V_nil _ _ _ _ _ | exact Kd.Q_nil _ _ _ _ _ | exact Kd.S_nil _ _ _ _ _, belB HB.out GE453.out⟩
 rw [if_pos c5] at H
 have c5b0 := beq_iff_eq.mpr c5
 have c5b1 := bne_eq_false_iff_eq.mpr c5
 clear c5
 have H' := Aside0.mk H
 clear H
 go_enter Try.func20, Try.ntmps20
 go_wp2_with (first | ((with_reducible refine gate_dst (N := 3) rfl ?_); refine boxA 3 #[.slice A0_0 l0_0.length c0_0, .int .i64 a0_1] 24 ?_; intro gb453 hg w6 hbox hb; have BK453 := Aside0.mk (hbox); have GE453 := ge1 hg (belA HB.out); replace HB := bst HB hb; clear hb hbox hg; obtain ⟨hcz7_0, hcz7_1, hfz7_0, hfz7_1⟩ := blk2 BK453) | ((with_reducible refine gate_callee (f := 35) rfl ?_); refine goesL_ (some 16) rfl rfl Try.func35 (by kernel_rfl) rfl #[.agg #[.slice A0_0 l0_0.length c0_0, .int .i64 a0_1], .int .i64 a1, .slice A2 l2.length c2] rfl argA ?_; (with_reducible refine (rickyardref15_Check.calls k _ _ l0_0 a0_1 a1 _ _ l2 t454 _ ?side1 ?side2 ?side3 ?side4 A4.out).mono ?_); (case side1 => exact cb1 HR0_0 HB); (case side2 => exact HC0_0.out); (case side3 => exact cb1 HR2 HB); (case side4 => exact HC2.out); rintro e w8 ⟨rfl, hb⟩; refine ⟨_, rfl, ?_⟩; replace BK453 := blkB BK453 hb; replace HB := bs2 HB GE453 hb; (try clear hb)))
 go_loopg [9, 10] k (fun kq v9 v10 w' => ∃ (x9_1 : List (S51)) (x10_1 : Int), v10 = .int .i64 x10_1 ∧ Aside0 (rickyardref15_Fold.l0 kq a1 l2 t454 x9_1 x10_1 l0_0 a0_1 = some (r1, r2)) ∧ Aside0 (kq ≤ k) ∧ Aside0 (Kd.N k51 51 w' w.heap.size (fun k_ => (w.heap.size ≤ k_) ∧ k_ ≠ gb453) v9 x9_1) ∧ Aside0 (w'.heap[gb453]? = some (.cells #[(.slice A0_0 l0_0.length c0_0), .int .i64 a0_1] 24 (0, 0))) ∧ Aside0 (Below w.heap.size w w'))
 case atStart => exact ⟨(([] : List (S51))), (0), relA, H', ⟨Nat.le_refl _⟩, ⟨by first | exact Kd.R_nil _ _ _ _ _ | exact Kd.N_nil _ _ _ _ _ | exact Kd.V_nil _ _ _ _ _ | exact Kd.Q_nil _ _ _ _ _ | exact Kd.S_nil _ _ _ _ _⟩, ⟨blkA BK453.out⟩, ⟨belB HB.out GE453.out⟩⟩
 case round =>
  clear H'
  try clear c2
  try clear p2
  try clear c3
  try clear c5
  try clear c5b0
  try clear c5b1
  try clear hcz7_0 hcz7_1 hfz7_0 hfz7_1
  obtain ⟨x9_1, x10_1, rfl, HA, HK1, HO_9, BK453, HB⟩ := hrel
  cases gk with
  | zero => exact absurd HA.out (by simp [rickyardref15_Fold.l0])
  | succ k1 =>
   have H := HA.out
   clear HA
   simp only [rickyardref15_Fold.l0] at H
   by_cases c9 : x10_1 < (l2.length : Int)
   ·rw [if_pos c9] at H
    have c9b0 := decide_eq_true c9
    clear c9
    by_cases c10 : 0 ≤ x10_1
    ·rw [if_pos c10] at H
     have c10b0 := decide_eq_true c10
     clear c10
     replace H := bnA H
     obtain ⟨⟨t456, t459⟩, A11, H⟩ := H
     replace H : (if t459 = true then ((rickyardref14_Put.f k1 x9_1 t456 ((rd_T51 l2 x10_1).f1.f0) ((rd_T51 l2 x10_1).f1.f1) ((rd_T51 l2 x10_1).f1.f2.f0) ((rd_T51 l2 x10_1).f1.f2.f1) ((rd_T51 l2 x10_1).f1.f3) ((rd_T51 l2 x10_1).f1.f4)).bind fun t461 => (rickyardref15_Fold.l0 k1 a1 l2 t454 t461 (wrap64 (x10_1 + 1)) l0_0 a0_1)) else (rickyardref15_Fold.l0 k1 a1 l2 t454 x9_1 (wrap64 (x10_1 + 1)) l0_0 a0_1)) = some (r1, r2) := H
     by_cases c12 : t459 = true
     ·subst c12
      have H1 : ((rickyardref14_Put.f k1 x9_1 t456 ((rd_T51 l2 x10_1).f1.f0) ((rd_T51 l2 x10_1).f1.f1) ((rd_T51 l2 x10_1).f1.f2.f0) ((rd_T51 l2 x10_1).f1.f2.f1) ((rd_T51 l2 x10_1).f1.f3) ((rd_T51 l2 x10_1).f1.f4)).bind fun t461 => (rickyardref15_Fold.l0 k1 a1 l2 t454 t461 (wrap64 (x10_1 + 1)) l0_0 a0_1)) = some (r1, r2) := by rw [if_pos rfl] at H; exact H
      clear H
      have H := H1
      clear H1
      replace H := bnA H
      obtain ⟨t461, A13, H⟩ := H
      have H' := Aside0.mk H
      clear H
      try go_wp2
      replace HO_9 := Aside0.mk (Kd.N_drew HO_9.out)
      replace BK453 := Aside0.mk (blk_drew BK453.out)
      replace HB := Aside0.mk (below_drew1 HB.out)
      have p455 : 0 ≤ (x10_1 : Int) := of_decide_eq_true asmA
      have q455 : x10_1 < (l2.length : Int) := of_decide_eq_true asmA
      obtain ⟨ad455, A455_0, c455_0, e455, hx455_0, hx455_1, hx455_2, hx455_3, hx455_4, hx455_5, hx455_6, hl455_0, hi455_0⟩ := at_T51 HR2.out x10_1 p455 q455
      have hw455_6 := hx455_6
      have hw455_5 := hx455_5
      have hw455_4 := hx455_4
      have hw455_3 := hx455_3
      have hw455_2 := hx455_2
      have hw455_1 := hx455_1
      have hw455_0 := hx455_0
      cases e455
      replace hx455_0 := cbx HB hx455_0
      replace hx455_1 := cbx HB hx455_1
      replace hx455_2 := cbx HB hx455_2
      replace hx455_3 := cbx HB hx455_3
      replace hx455_4 := cbx HB hx455_4
      replace hx455_5 := cbx HB hx455_5
      replace hx455_6 := cbx HB hx455_6
      have HR455_0 := Aside0.mk hi455_0
      have HC455_0 := Aside0.mk hl455_0
      clear hi455_0 hl455_0
      replace p455 := eq_true p455
      replace q455 := eq_true q455
      refine start_ (n := 13) (S := fun w' => w'.cell? ⟨gb453, 0, none⟩ = some (.slice A0_0 l0_0.length c0_0) ∧ w'.cell? ⟨gb453, 1, none⟩ = some (.int .i64 a0_1) ∧ w'.cell? (ad455.add ((x10_1).toNat * 7)) = some (.slice A455_0 ((rd_T51 l2 x10_1).f0).length c455_0) ∧ w'.cell? ⟨(ad455.add ((x10_1).toNat * 7)).block, (ad455.add ((x10_1).toNat * 7)).off + 1, none⟩ = some (.int .u64 ((rd_T51 l2 x10_1).f1.f0)) ∧ w'.cell? ⟨(ad455.add ((x10_1).toNat * 7)).block, (ad455.add ((x10_1).toNat * 7)).off + 2, none⟩ = some (.bool ((rd_T51 l2 x10_1).f1.f1)) ∧ w'.cell? ⟨(ad455.add ((x10_1).toNat * 7)).block, (ad455.add ((x10_1).toNat * 7)).off + 3, none⟩ = some (.int .i64 ((rd_T51 l2 x10_1).f1.f2.f0)) ∧ w'.cell? ⟨(ad455.add ((x10_1).toNat * 7)).block, (ad455.add ((x10_1).toNat * 7)).off + 4, none⟩ = some (.int .u64 ((rd_T51 l2 x10_1).f1.f2.f1)) ∧ w'.cell? ⟨(ad455.add ((x10_1).toNat * 7)).block, (ad455.add ((x10_1).toNat * 7)).off + 5, none⟩ = some (.int .i64 ((rd_T51 l2 x10_1).f1.f3)) ∧ w'.cell? ⟨(ad455.add ((x10_1).toNat * 7)).block, (ad455.add ((x10_1).toNat * 7)).off + 6, none⟩ = some (.int .i64 ((rd_T51 l2 x10_1).f1.f4))) (ds := []) #[false, false, false, false, false, false, false, false, false, false, false, false, false] (by kernel_rfl) rfl rfl ⟨(blk_cell BK453.out 0).trans rfl, (blk_cell BK453.out 1).trans rfl, ((HB.out.cell (World.block_lt_of_cell? w _ hw455_0)).trans hw455_0), ((HB.out.cell (World.block_lt_of_cell? w _ hw455_1)).trans hw455_1), ((HB.out.cell (World.block_lt_of_cell? w _ hw455_2)).trans hw455_2), ((HB.out.cell (World.block_lt_of_cell? w _ hw455_3)).trans hw455_3), ((HB.out.cell (World.block_lt_of_cell? w _ hw455_4)).trans hw455_4), ((HB.out.cell (World.block_lt_of_cell? w _ hw455_5)).trans hw455_5), ((HB.out.cell (World.block_lt_of_cell? w _ hw455_6)).trans hw455_6)⟩ (fun hHeld => ?_); refine with_tabW rickyardref15_Fold.tab8 rickyardref15_Fold.bits8 (fun HT_ HW_ => ?_)
      generalize wr.drew = w14 at HO_9 BK453 HB HR455_0 hx455_0 hx455_1 hx455_2 hx455_3 hx455_4 hx455_5 hx455_6 hHeld ⊢
      refine pureD 1 28 HT_ ?_
      refine pureD 2 29 HT_ ?_
      refine pureD 3 30 HT_ ?_
      refine pureD 4 31 HT_ ?_
      refine pureD 5 32 HT_ ?_
      refine takeD 0 27 HT_ HW_ hHeld ?_
      refine takeD 6 33 HT_ HW_ hHeld ?_
      refine one_ (i := 7) (N := some 34) #[true, true, true, true, true, true, true, true, false, false, false, false, false] rfl rfl (one_of HT_.out (by kernel_rfl)) (by decide) (fun K hK => ?_)
      refine goes_ Try.func47 (by kernel_rfl) rfl #[.agg #[.slice A0_0 l0_0.length c0_0, .int .i64 a0_1], .int .i64 a1, .slice A455_0 ((rd_T51 l2 x10_1).f0).length c455_0] (by rfl) rfl rfl argA ?_
      with_reducible refine (rickyardref15_Key.calls k1 _ _ l0_0 a0_1 a1 _ _ ((rd_T51 l2 x10_1).f0) t456 true _ ?side1 ?side2 ?side3 ?side4 A11.out).mono ?_
      (case side1 => exact cb1 HR0_0 HB)
      (case side2 => exact HC0_0.out)
      (case side3 => exact cb1 HR455_0 HB)
      (case side4 => exact HC455_0.out)
      rintro e w15 ⟨v457, rfl, ho0, hb⟩
      refine ⟨_, rfl, ?_⟩
      have HO458 := Aside0.mk (Kd.R_lower (Kd.R_newM (M := fun k_ => (w.heap.size ≤ k_)) ho0 (below_size (belB HB.out GE453.out)) (fun k_ h_ => h_)) (below_size (belB HB.out GE453.out)))
      replace HO_9 := Aside0.mk (Kd.N_elder' (nilA HO_9.out) (Kd.R_base ho0) hb)
      replace BK453 := blkB BK453 hb
      replace HB := bs2 HB GE453 hb
      (try clear hb)
      (try clear ho0)
      refine hK.out _ _ ⟨(blk_cell BK453.out 0).trans rfl, (blk_cell BK453.out 1).trans rfl, ((HB.out.cell (World.block_lt_of_cell? w _ hw455_0)).trans hw455_0), ((HB.out.cell (World.block_lt_of_cell? w _ hw455_1)).trans hw455_1), ((HB.out.cell (World.block_lt_of_cell? w _ hw455_2)).trans hw455_2), ((HB.out.cell (World.block_lt_of_cell? w _ hw455_3)).trans hw455_3), ((HB.out.cell (World.block_lt_of_cell? w _ hw455_4)).trans hw455_4), ((HB.out.cell (World.block_lt_of_cell? w _ hw455_5)).trans hw455_5), ((HB.out.cell (World.block_lt_of_cell? w _ hw455_6)).trans hw455_6)⟩ (fun hHeld => ?_)
      clear hK K
      refine norm_ (a' := ?_) ?_ ?_
      rotate_left
      ·show Act.put _ (some 34) _ = _
       simp only [Act.put, List.setIfInBounds_toArray, List.set_cons_zero, List.set_cons_succ, i64_w, i32_w]
       rfl
      refine pureD 8 26 HT_ ?_
      refine pureD 9 35 HT_ ?_
      refine pureD 10 36 HT_ ?_
      refine pureD 11 11 HT_ ?_
      refine pureD 12 12 HT_ ?_
      refine done_ (done_of HT_.out (by kernel_rfl)) ?_
      have p460 : 0 ≤ (x10_1 : Int) := of_decide_eq_true asmA
      have q460 : x10_1 < (l2.length : Int) := of_decide_eq_true asmA
      obtain ⟨ad460, A460_0, c460_0, e460, hx460_0, hx460_1, hx460_2, hx460_3, hx460_4, hx460_5, hx460_6, hl460_0, hi460_0⟩ := at_T51 HR2.out x10_1 p460 q460
      obtain rfl : ad455 = ad460 := (by injection e460)
      replace hx460_0 := cbx HB hx460_0
      replace hx460_1 := cbx HB hx460_1
      replace hx460_2 := cbx HB hx460_2
      replace hx460_3 := cbx HB hx460_3
      replace hx460_4 := cbx HB hx460_4
      replace hx460_5 := cbx HB hx460_5
      replace hx460_6 := cbx HB hx460_6
      have HR460_0 := Aside0.mk hi460_0
      have HC460_0 := Aside0.mk hl460_0
      clear hi460_0 hl460_0
      replace p460 := eq_true p460
      replace q460 := eq_true q460
      obtain ⟨Ao16, co16, eo16⟩ := Kd.R_slice HO458.out
      subst eo16
      obtain ⟨Ao17, co17, eo17⟩ := Kd.N_slice HO_9.out
      subst eo17
      try go_wp2_with (first | ((with_reducible refine gate_callee (f := 48) rfl ?_); refine goesL_ (some 46) rfl rfl Try.func48 (by kernel_rfl) rfl #[.slice Ao17 x9_1.length co17, .agg #[.slice Ao16 t456.length co16, .int .u64 ((rd_T51 l2 x10_1).f1.f0), .bool ((rd_T51 l2 x10_1).f1.f1), .int .i64 ((rd_T51 l2 x10_1).f1.f2.f0), .int .u64 ((rd_T51 l2 x10_1).f1.f2.f1), .int .i64 ((rd_T51 l2 x10_1).f1.f3), .int .i64 ((rd_T51 l2 x10_1).f1.f4)]] rfl argA ?_; (with_reducible refine (rickyardref14_Put.calls k1 (fun k_ => (((w.heap.size ≤ k_) ∧ k_ ≠ gb453) ∧ some k_ ≠ (.slice Ao16 t456.length co16 : Value).ownBlock)) _ _ x9_1 (fun k_ => some k_ = (.slice Ao16 t456.length co16 : Value).ownBlock) _ _ t456 ((rd_T51 l2 x10_1).f1.f0) ((rd_T51 l2 x10_1).f1.f1) ((rd_T51 l2 x10_1).f1.f2.f0) ((rd_T51 l2 x10_1).f1.f2.f1) ((rd_T51 l2 x10_1).f1.f3) ((rd_T51 l2 x10_1).f1.f4) t461 _ ?side1 ?side2 A13.out).mono ?_); (case side1 => exact Kd.N_V (HO_9.out)); (case side2 => exact Kd.R_V (Kd.R_tight rfl (Kd.R_types (Kd.R_apart' (HO458.out) (Kd.N_typed HO_9.out) (by decide)) BK453.out (by decide)))); rintro e w18 ⟨v462, rfl, ho0, hb⟩; refine ⟨_, rfl, ?_⟩; have HO463 := Aside0.mk (Kd.N_lower (Kd.N_mono (ok' := fun k_ => (w.heap.size ≤ k_) ∧ k_ ≠ gb453) ho0 (fun k_ hk_ => ⟨Or.elim hk_ (fun hs_ => Or.elim hs_ (fun hs_ => hs_.1.1) (fun hs_ => ((Kd.R_types (Kd.R_apart' (HO458.out) (Kd.N_typed HO_9.out) (by decide)) BK453.out (by decide)).1 k_ hs_.symm).1.1.1)) (fun hn_ => (Nat.le_trans (below_size (belB HB.out GE453.out)) hn_)), Or.elim hk_ (fun hs_ => Or.elim hs_ (fun hs_ => hs_.1.2) (fun hs_ => ((Kd.R_types (Kd.R_apart' (HO458.out) (Kd.N_typed HO_9.out) (by decide)) BK453.out (by decide)).1 k_ hs_.symm).2)) (fun hn_ => (Kd.freshB (g := gb453) (o := .cells #[.slice A0_0 l0_0.length c0_0, .int .i64 a0_1] 24 (0, 0)) (blkA BK453.out) k_ hn_))⟩)) (below_size (belB HB.out GE453.out))); replace HO_9 := Aside0.mk (Kd.N_elder' (nilA HO_9.out) (Kd.N_base ho0) hb); replace HO458 := Aside0.mk (Kd.R_below (rowA HO458.out) hb); replace BK453 := blkB BK453 hb; replace HB := bs2 HB GE453 hb; (try clear hb); (try clear ho0)))
      go_roundg k1
      case measure => have := HK1.out; omega
      case rel => exact ⟨(t461), (wrap64 (x10_1 + 1)), relA, H', ⟨by have := HK1.out; omega⟩, ⟨nilA HO463.out⟩, ⟨blkA BK453.out⟩, ⟨belB HB.out GE453.out⟩⟩
     ·replace c12 := Bool.eq_false_iff.mpr c12
      subst c12
      have H1 : (rickyardref15_Fold.l0 k1 a1 l2 t454 x9_1 (wrap64 (x10_1 + 1)) l0_0 a0_1) = some (r1, r2) := by rw [if_neg (show ¬ (false = true) by decide)] at H; exact H
      clear H
      have H := H1
      clear H1
      have H' := Aside0.mk H
      clear H
      try go_wp2
      replace HO_9 := Aside0.mk (Kd.N_drew HO_9.out)
      replace BK453 := Aside0.mk (blk_drew BK453.out)
      replace HB := Aside0.mk (below_drew1 HB.out)
      have p455 : 0 ≤ (x10_1 : Int) := of_decide_eq_true asmA
      have q455 : x10_1 < (l2.length : Int) := of_decide_eq_true asmA
      obtain ⟨ad455, A455_0, c455_0, e455, hx455_0, hx455_1, hx455_2, hx455_3, hx455_4, hx455_5, hx455_6, hl455_0, hi455_0⟩ := at_T51 HR2.out x10_1 p455 q455
      have hw455_6 := hx455_6
      have hw455_5 := hx455_5
      have hw455_4 := hx455_4
      have hw455_3 := hx455_3
      have hw455_2 := hx455_2
      have hw455_1 := hx455_1
      have hw455_0 := hx455_0
      cases e455
      replace hx455_0 := cbx HB hx455_0
      replace hx455_1 := cbx HB hx455_1
      replace hx455_2 := cbx HB hx455_2
      replace hx455_3 := cbx HB hx455_3
      replace hx455_4 := cbx HB hx455_4
      replace hx455_5 := cbx HB hx455_5
      replace hx455_6 := cbx HB hx455_6
      have HR455_0 := Aside0.mk hi455_0
      have HC455_0 := Aside0.mk hl455_0
      clear hi455_0 hl455_0
      replace p455 := eq_true p455
      replace q455 := eq_true q455
      refine start_ (n := 13) (S := fun w' => w'.cell? ⟨gb453, 0, none⟩ = some (.slice A0_0 l0_0.length c0_0) ∧ w'.cell? ⟨gb453, 1, none⟩ = some (.int .i64 a0_1) ∧ w'.cell? (ad455.add ((x10_1).toNat * 7)) = some (.slice A455_0 ((rd_T51 l2 x10_1).f0).length c455_0) ∧ w'.cell? ⟨(ad455.add ((x10_1).toNat * 7)).block, (ad455.add ((x10_1).toNat * 7)).off + 1, none⟩ = some (.int .u64 ((rd_T51 l2 x10_1).f1.f0)) ∧ w'.cell? ⟨(ad455.add ((x10_1).toNat * 7)).block, (ad455.add ((x10_1).toNat * 7)).off + 2, none⟩ = some (.bool ((rd_T51 l2 x10_1).f1.f1)) ∧ w'.cell? ⟨(ad455.add ((x10_1).toNat * 7)).block, (ad455.add ((x10_1).toNat * 7)).off + 3, none⟩ = some (.int .i64 ((rd_T51 l2 x10_1).f1.f2.f0)) ∧ w'.cell? ⟨(ad455.add ((x10_1).toNat * 7)).block, (ad455.add ((x10_1).toNat * 7)).off + 4, none⟩ = some (.int .u64 ((rd_T51 l2 x10_1).f1.f2.f1)) ∧ w'.cell? ⟨(ad455.add ((x10_1).toNat * 7)).block, (ad455.add ((x10_1).toNat * 7)).off + 5, none⟩ = some (.int .i64 ((rd_T51 l2 x10_1).f1.f3)) ∧ w'.cell? ⟨(ad455.add ((x10_1).toNat * 7)).block, (ad455.add ((x10_1).toNat * 7)).off + 6, none⟩ = some (.int .i64 ((rd_T51 l2 x10_1).f1.f4))) (ds := []) #[false, false, false, false, false, false, false, false, false, false, false, false, false] (by kernel_rfl) rfl rfl ⟨(blk_cell BK453.out 0).trans rfl, (blk_cell BK453.out 1).trans rfl, ((HB.out.cell (World.block_lt_of_cell? w _ hw455_0)).trans hw455_0), ((HB.out.cell (World.block_lt_of_cell? w _ hw455_1)).trans hw455_1), ((HB.out.cell (World.block_lt_of_cell? w _ hw455_2)).trans hw455_2), ((HB.out.cell (World.block_lt_of_cell? w _ hw455_3)).trans hw455_3), ((HB.out.cell (World.block_lt_of_cell? w _ hw455_4)).trans hw455_4), ((HB.out.cell (World.block_lt_of_cell? w _ hw455_5)).trans hw455_5), ((HB.out.cell (World.block_lt_of_cell? w _ hw455_6)).trans hw455_6)⟩ (fun hHeld => ?_); refine with_tabW rickyardref15_Fold.tab8 rickyardref15_Fold.bits8 (fun HT_ HW_ => ?_)
      generalize wr.drew = w19 at HO_9 BK453 HB HR455_0 hx455_0 hx455_1 hx455_2 hx455_3 hx455_4 hx455_5 hx455_6 hHeld ⊢
      refine pureD 1 28 HT_ ?_
      refine pureD 2 29 HT_ ?_
      refine pureD 3 30 HT_ ?_
      refine pureD 4 31 HT_ ?_
      refine pureD 5 32 HT_ ?_
      refine takeD 0 27 HT_ HW_ hHeld ?_
      refine takeD 6 33 HT_ HW_ hHeld ?_
      refine one_ (i := 7) (N := some 34) #[true, true, true, true, true, true, true, true, false, false, false, false, false] rfl rfl (one_of HT_.out (by kernel_rfl)) (by decide) (fun K hK => ?_)
      refine goes_ Try.func47 (by kernel_rfl) rfl #[.agg #[.slice A0_0 l0_0.length c0_0, .int .i64 a0_1], .int .i64 a1, .slice A455_0 ((rd_T51 l2 x10_1).f0).length c455_0] (by rfl) rfl rfl argA ?_
      with_reducible refine (rickyardref15_Key.calls k1 _ _ l0_0 a0_1 a1 _ _ ((rd_T51 l2 x10_1).f0) t456 false _ ?side1 ?side2 ?side3 ?side4 A11.out).mono ?_
      (case side1 => exact cb1 HR0_0 HB)
      (case side2 => exact HC0_0.out)
      (case side3 => exact cb1 HR455_0 HB)
      (case side4 => exact HC455_0.out)
      rintro e w20 ⟨v457, rfl, ho0, hb⟩
      refine ⟨_, rfl, ?_⟩
      have HO458 := Aside0.mk (Kd.R_lower (Kd.R_newM (M := fun k_ => (w.heap.size ≤ k_)) ho0 (below_size (belB HB.out GE453.out)) (fun k_ h_ => h_)) (below_size (belB HB.out GE453.out)))
      replace HO_9 := Aside0.mk (Kd.N_elder' (nilA HO_9.out) (Kd.R_base ho0) hb)
      replace BK453 := blkB BK453 hb
      replace HB := bs2 HB GE453 hb
      (try clear hb)
      (try clear ho0)
      refine hK.out _ _ ⟨(blk_cell BK453.out 0).trans rfl, (blk_cell BK453.out 1).trans rfl, ((HB.out.cell (World.block_lt_of_cell? w _ hw455_0)).trans hw455_0), ((HB.out.cell (World.block_lt_of_cell? w _ hw455_1)).trans hw455_1), ((HB.out.cell (World.block_lt_of_cell? w _ hw455_2)).trans hw455_2), ((HB.out.cell (World.block_lt_of_cell? w _ hw455_3)).trans hw455_3), ((HB.out.cell (World.block_lt_of_cell? w _ hw455_4)).trans hw455_4), ((HB.out.cell (World.block_lt_of_cell? w _ hw455_5)).trans hw455_5), ((HB.out.cell (World.block_lt_of_cell? w _ hw455_6)).trans hw455_6)⟩ (fun hHeld => ?_)
      clear hK K
      refine norm_ (a' := ?_) ?_ ?_
      rotate_left
      ·show Act.put _ (some 34) _ = _
       simp only [Act.put, List.setIfInBounds_toArray, List.set_cons_zero, List.set_cons_succ, i64_w, i32_w]
       rfl
      refine pureD 8 26 HT_ ?_
      refine pureD 9 35 HT_ ?_
      refine pureD 10 36 HT_ ?_
      refine pureD 11 11 HT_ ?_
      refine pureD 12 12 HT_ ?_
      refine done_ (done_of HT_.out (by kernel_rfl)) ?_
      try go_wp2
      go_roundg k1
      case measure => have := HK1.out; omega
      case rel => exact ⟨(x9_1), (wrap64 (x10_1 + 1)), relA, H', ⟨by have := HK1.out; omega⟩, ⟨by (with_reducible repeat (first | apply Kd.N_alloc | apply Kd.N_drewN | apply Kd.N_drew)); exact Kd.N_mono HO_9.out (fun _ hk => ⟨hk.1.1, hk.1.2⟩)⟩, ⟨blkA BK453.out⟩, ⟨belB HB.out GE453.out⟩⟩
    ·rw [if_neg c10] at H
     exact absurd H (by simp)
   ·rw [if_neg c9] at H
    have c9b0 := decide_eq_false c9
    clear c9
    simp only [Option.some.injEq, Prod.mk.injEq] at H
    obtain ⟨rfl, rfl⟩ := H
    go_wp2
    go_ret2
    exact ⟨_, ret1, by (with_reducible repeat (first | apply Kd.N_alloc | apply Kd.N_drewN | apply Kd.N_drew)); exact Kd.N_mono HO_9.out (fun _ hk => hk.1), belB HB.out GE453.out⟩
def rickyardref12_May.f (k : Nat) (l0_0 : List ByteArray) (a0_1 : Int) (a0_2 : Int) : Option (Bool) := (rickyardref06_Fits.f k l0_0).bind fun t465 => (if t465 = true then ((rickyardref03_Time.f a0_1).bind fun t466 => (some t466)) else (some false))
theorem rickyardref12_May.calls (k : Nat) (A0_0 : Option Addr) (c0_0 : Nat) (l0_0 : List ByteArray) (a0_1 : Int) (a0_2 : Int) (r : Bool) (w : World) (hr0_0 : Kd.C Kd.string w A0_0 l0_0.length l0_0) (hc0_0 : l0_0.length ≤ c0_0) (h : rickyardref12_May.f k l0_0 a0_1 a0_2 = some r) :
  Calls Try.prog 36 #[.agg #[.slice A0_0 l0_0.length c0_0, .int .i64 a0_1, .int .i64 a0_2]] w fun e w' => e = .returned (.bool r) ∧ Below w.heap.size w w' := by
 have hu46 := Try.underlying46
 have HR0_0 := Aside0.mk hr0_0
 have HC0_0 := Aside0.mk hc0_0
 clear hr0_0 hc0_0
 have HB := Aside0.mk (Below.refl w.heap.size w)
 have H : ((rickyardref06_Fits.f k l0_0).bind fun t465 => (if t465 = true then ((rickyardref03_Time.f a0_1).bind fun t466 => (some t466)) else (some false))) = some r := h
 clear h
 replace H := bnA H
 obtain ⟨t465, A2, H⟩ := H
 by_cases c3 : t465 = true
 rotate_left
 ·replace c3 := Bool.eq_false_iff.mpr c3
  subst c3
  have H1 : (some false) = some r := by rw [if_neg (show ¬ (false = true) by decide)] at H; exact H
  clear H
  have H := H1
  clear H1
  obtain rfl := Option.some.inj H
  go_enter Try.func36, Try.ntmps36
  go_wp2_with (first | ((with_reducible refine gate_dst (N := 1) rfl ?_); refine boxA 1 #[.slice A0_0 l0_0.length c0_0, .int .i64 a0_1, .int .i64 a0_2] 46 ?_; intro gb464 hg w7 hbox hb; have BK464 := Aside0.mk (hbox); have GE464 := ge1 hg (belA HB.out); replace HB := bst HB hb; clear hb hbox hg; obtain ⟨hcz8_0, hcz8_1, hcz8_2, hfz8_0, hfz8_1, hfz8_2⟩ := blk3 BK464) | ((with_reducible refine gate_callee (f := 69) rfl ?_); refine goesL_ (some 5) rfl rfl Try.func69 (by kernel_rfl) rfl #[.slice A0_0 l0_0.length c0_0] rfl argA ?_; (with_reducible refine (rickyardref06_Fits.calls k _ _ l0_0 false _ ?side1 ?side2 A2.out).mono ?_); (case side1 => exact cb1 HR0_0 HB); (case side2 => exact HC0_0.out); rintro e w' ⟨rfl, ⟨nd, rfl⟩⟩; refine ⟨_, rfl, ?_⟩))
  go_ret
  exact ⟨ret1, belB HB.out GE464.out⟩
 subst c3
 have H1 : ((rickyardref03_Time.f a0_1).bind fun t466 => (some t466)) = some r := by rw [if_pos rfl] at H; exact H
 clear H
 have H := H1
 clear H1
 replace H := bnA H
 obtain ⟨t466, A4, H⟩ := H
 obtain rfl := Option.some.inj H
 go_enter Try.func36, Try.ntmps36
 go_wp2_with (first | ((with_reducible refine gate_dst (N := 1) rfl ?_); refine boxA 1 #[.slice A0_0 l0_0.length c0_0, .int .i64 a0_1, .int .i64 a0_2] 46 ?_; intro gb464 hg w5 hbox hb; have BK464 := Aside0.mk (hbox); have GE464 := ge1 hg (belA HB.out); replace HB := bst HB hb; clear hb hbox hg; obtain ⟨hcz6_0, hcz6_1, hcz6_2, hfz6_0, hfz6_1, hfz6_2⟩ := blk3 BK464) | ((with_reducible refine gate_callee (f := 69) rfl ?_); refine goesL_ (some 5) rfl rfl Try.func69 (by kernel_rfl) rfl #[.slice A0_0 l0_0.length c0_0] rfl argA ?_; (with_reducible refine (rickyardref06_Fits.calls k _ _ l0_0 true _ ?side1 ?side2 A2.out).mono ?_); (case side1 => exact cb1 HR0_0 HB); (case side2 => exact HC0_0.out); rintro e w' ⟨rfl, ⟨nd, rfl⟩⟩; refine ⟨_, rfl, ?_⟩) | (go_at_call 68; (with_reducible refine (rickyardref03_Time.calls a0_1 t466 _ A4.out).mono ?_); rintro e w' ⟨rfl, ⟨nd, rfl⟩⟩))
 go_ret
 exact ⟨ret1, belB HB.out GE464.out⟩
def rickyardref01_Of.f (a0 : Int) : Option (Int × Int) := if a0 < 0 then (some ((-1), IntKind.u64.wrap (a0))) else (some (0, IntKind.u64.wrap (a0)))
theorem rickyardref01_Of.calls (a0 : Int) (r1 : Int) (r2 : Int) (w : World) (h : rickyardref01_Of.f a0 = some (r1, r2)) :
  Calls Try.prog 92 #[.int .i64 a0] w fun e w' => e = .returned (.agg #[.int .i64 r1, .int .u64 r2]) ∧ Below w.heap.size w w' := by
 have hu39 := Try.underlying39
 have HB := Aside0.mk (Below.refl w.heap.size w)
 have H : (if a0 < 0 then (some ((-1), IntKind.u64.wrap (a0))) else (some (0, IntKind.u64.wrap (a0)))) = some (r1, r2) := h
 clear h
 by_cases c2 : a0 < 0
 rotate_left
 ·rw [if_neg c2] at H
  have c2b0 := decide_eq_false c2
  clear c2
  simp only [Option.some.injEq, Prod.mk.injEq] at H
  obtain ⟨rfl, rfl⟩ := H
  go_enter Try.func92, Try.ntmps92
  go_wp2_with (first | ((with_reducible refine gate_dst (N := 2) rfl ?_); refine boxA 2 #[.int .i64 0, .int .u64 0] 39 ?_; intro gb467 hg w8 hbox hb; have BK467 := Aside0.mk (hbox); have GE467 := ge1 hg (belA HB.out); replace HB := bst HB hb; clear hb hbox hg) | ((with_reducible refine gate_dst (N := 3) rfl ?_); refine boxA 3 #[.int .i64 0, .int .u64 0] 39 ?_; intro gb468 hg w9 hbox hb; have BK468 := Aside0.mk (hbox); have GW468 := ge1 hg (belB HB.out GE467.out); have GE468 := GW468; have NB467_468 := neL hg BK467; have NB468_467 := neR hg BK467; replace BK467 := blkB BK467 hb; replace HB := bs2 HB GE467 hb; clear hb hbox hg; have hnb10 := NB468_467.out; have hnc10 := NB467_468.out; obtain ⟨hcz11_0, hcz11_1, hfz11_0, hfz11_1⟩ := blk2 BK468; obtain ⟨hcz12_0, hcz12_1, hfz12_0, hfz12_1⟩ := blk2 BK467))
  refine bodyPost_ret (results_cell_row rfl _ _ gb467 39 #[.int .i64 0, .int .u64 (IntKind.u64.wrap (a0))] (0, 0) _ rfl (putB BK467.out NB467_468.out) Try.underlying39 rfl (by kernel_rfl)) rfl ?_
  exact ⟨ret1, belC HB.out GE467.out GE468.out⟩
 rw [if_pos c2] at H
 have c2b0 := decide_eq_true c2
 clear c2
 simp only [Option.some.injEq, Prod.mk.injEq] at H
 obtain ⟨rfl, rfl⟩ := H
 go_enter Try.func92, Try.ntmps92
 go_wp2_with (first | ((with_reducible refine gate_dst (N := 2) rfl ?_); refine boxA 2 #[.int .i64 0, .int .u64 0] 39 ?_; intro gb467 hg w3 hbox hb; have BK467 := Aside0.mk (hbox); have GE467 := ge1 hg (belA HB.out); replace HB := bst HB hb; clear hb hbox hg) | ((with_reducible refine gate_dst (N := 3) rfl ?_); refine boxA 3 #[.int .i64 0, .int .u64 0] 39 ?_; intro gb468 hg w4 hbox hb; have BK468 := Aside0.mk (hbox); have GW468 := ge1 hg (belB HB.out GE467.out); have GE468 := GW468; have NB467_468 := neL hg BK467; have NB468_467 := neR hg BK467; replace BK467 := blkB BK467 hb; replace HB := bs2 HB GE467 hb; clear hb hbox hg; have hnb5 := NB468_467.out; have hnc5 := NB467_468.out; obtain ⟨hcz6_0, hcz6_1, hfz6_0, hfz6_1⟩ := blk2 BK468; obtain ⟨hcz7_0, hcz7_1, hfz7_0, hfz7_1⟩ := blk2 BK467))
 refine bodyPost_ret (results_cell_row rfl _ _ gb467 39 #[.int .i64 (-1), .int .u64 (IntKind.u64.wrap (a0))] (0, 0) _ rfl (putB BK467.out NB467_468.out) Try.underlying39 rfl (by kernel_rfl)) rfl ?_
 exact ⟨ret1, belC HB.out GE467.out GE468.out⟩
def rickyardref02_One.f (a0 : Int) : Option (Int × Bool × Int × Int × Int × Int) := (rickyardref01_Of.f a0).bind fun bt470 => (some (1, false, bt470.1, bt470.2, a0, a0))
theorem rickyardref02_One.calls (a0 : Int) (r1 : Int) (r2 : Bool) (r3 : Int) (r4 : Int) (r5 : Int) (r6 : Int) (w : World) (h : rickyardref02_One.f a0 = some (r1, r2, r3, r4, r5, r6)) :
  Calls Try.prog 71 #[.int .i64 a0] w fun e w' => e = .returned (.agg #[.int .u64 r1, .bool r2, .int .i64 r3, .int .u64 r4, .int .i64 r5, .int .i64 r6]) ∧ Below w.heap.size w w' := by
 have hu41 := Try.underlying41
 have HB := Aside0.mk (Below.refl w.heap.size w)
 have H : ((rickyardref01_Of.f a0).bind fun bt470 => (some (1, false, bt470.1, bt470.2, a0, a0))) = some (r1, r2, r3, r4, r5, r6) := h
 clear h
 replace H := bnA H
 obtain ⟨⟨t470, t471⟩, A2, H⟩ := H
 replace H : (some (1, false, t470, t471, a0, a0)) = some (r1, r2, r3, r4, r5, r6) := H
 simp only [Option.some.injEq, Prod.mk.injEq] at H
 obtain ⟨rfl, rfl, rfl, rfl, rfl, rfl⟩ := H
 go_enter Try.func71, Try.ntmps71
 go_wp2_with (first | ((with_reducible refine gate_dst (N := 2) rfl ?_); refine boxA 2 #[.int .u64 0, .bool false, .int .i64 0, .int .u64 0, .int .i64 0, .int .i64 0] 41 ?_; intro gb469 hg w3 hbox hb; have BK469 := Aside0.mk (hbox); have GE469 := ge1 hg (belA HB.out); replace HB := bst HB hb; clear hb hbox hg) | ((with_reducible refine gate_callee (f := 92) rfl ?_); refine goesL_ (some 4) rfl rfl Try.func92 (by kernel_rfl) rfl #[.int .i64 a0] rfl argA ?_; (with_reducible refine (rickyardref01_Of.calls a0 t470 t471 _ A2.out).mono ?_); rintro e w4 ⟨rfl, hb⟩; refine ⟨_, rfl, ?_⟩; replace BK469 := blkB BK469 hb; replace HB := bs2 HB GE469 hb; (try clear hb); obtain ⟨hcz5_0, hcz5_1, hcz5_2, hcz5_3, hcz5_4, hcz5_5, hfz5_0, hfz5_1, hfz5_2, hfz5_3, hfz5_4, hfz5_5⟩ := blk6 BK469))
 refine bodyPost_ret (results_cell_row rfl _ _ gb469 41 #[.int .u64 1, .bool false, .int .i64 t470, .int .u64 t471, .int .i64 a0, .int .i64 a0] (0, 0) _ rfl (putA BK469.out) Try.underlying41 rfl (by kernel_rfl)) rfl ?_
 exact ⟨ret1, belB HB.out GE469.out⟩
def rickyardref15_Entries.l0 : Nat → List (S46) → List (S51) → Int → List (S67) → Int → Option ((List (S51)))
 | 0, _, _, _, _, _ => none
 | k + 1, x1, x5, x6, x473000, x473001 => if x6 < (x1.length : Int) then (if 0 ≤ x6 then (if 0 < (x473000.length : Int) then ((rickyardref03_Floor.f ((rd_T46 x1 x6).f1) ((rd_T67 x473000 0).f0)).bind fun bt475 => ((rickyardref06_Write.f k ((rd_T46 x1 x6).f0) bt475.1 0).bind fun bt478 => ((rickyardref02_One.f ((rd_T46 x1 x6).f2)).bind fun bt483 => ((rickyardref14_Put.f k x5 bt478.1 bt483.1 bt483.2.1 bt483.2.2.1 bt483.2.2.2.1 bt483.2.2.2.2.1 bt483.2.2.2.2.2).bind fun t489 => (rickyardref15_Entries.l0 k x1 t489 (wrap64 (x6 + 1)) x473000 x473001))))) else (none)) else (none)) else (some x5)
def rickyardref15_Entries.f (k : Nat) (l0_0 : List (S67)) (a0_1 : Int) (l1 : List (S46)) : Option ((List (S51))) := rickyardref15_Entries.l0 k l1 ([] : List (S51)) 0 l0_0 a0_1
theorem rickyardref15_Entries.calls (k : Nat) (A0_0 : Option Addr) (c0_0 : Nat) (l0_0 : List (S67)) (a0_1 : Int) (A1 : Option Addr) (c1 : Nat) (l1 : List (S46)) (r : List (S51)) (w : World) (hr0_0 : Kd.C k67 w A0_0 l0_0.length l0_0) (hc0_0 : l0_0.length ≤ c0_0) (hr1 : Kd.C k46 w A1 l1.length l1) (hc1 : l1.length ≤ c1) (h : rickyardref15_Entries.f k l0_0 a0_1 l1 = some r) :
  Calls Try.prog 37 #[.agg #[.slice A0_0 l0_0.length c0_0, .int .i64 a0_1], .slice A1 l1.length c1] w fun e w' => ∃ v0_ : Value, e = .returned (v0_) ∧ Kd.N k51 51 w' w.heap.size (fun k_ => (w.heap.size ≤ k_)) v0_ r ∧ Below w.heap.size w w' := by
 have hu24 := Try.underlying24
 have hu62 := Try.underlying62
 have hu51 := Try.underlying51
 have HR0_0 := Aside0.mk hr0_0
 have HC0_0 := Aside0.mk hc0_0
 clear hr0_0 hc0_0
 have HR1 := Aside0.mk hr1
 have HC1 := Aside0.mk hc1
 clear hr1 hc1
 have HB := Aside0.mk (Below.refl w.heap.size w)
 have H : (rickyardref15_Entries.l0 k l1 ([] : List (S51)) 0 l0_0 a0_1) = some r := h
 clear h
 have H' := Aside0.mk H
 clear H
 go_enter Try.func37, Try.ntmps37
 go_wp2_with (first | ((with_reducible refine gate_dst (N := 2) rfl ?_); refine boxA 2 #[.slice A0_0 l0_0.length c0_0, .int .i64 a0_1] 24 ?_; intro gb472 hg w3 hbox hb; have BK472 := Aside0.mk (hbox); have GE472 := ge1 hg (belA HB.out); replace HB := bst HB hb; clear hb hbox hg))
 repeat (go_quiet (fail); try go_wp2_with (first | ((with_reducible refine gate_dst (N := 2) rfl ?_); refine boxA 2 #[.slice A0_0 l0_0.length c0_0, .int .i64 a0_1] 24 ?_; intro gb472 hg w3 hbox hb; have BK472 := Aside0.mk (hbox); have GE472 := ge1 hg (belA HB.out); replace HB := bst HB hb; clear hb hbox hg)))
 go_loopg [5, 6] k (fun kq v5 v6 w' => ∃ (x5_1 : List (S51)) (x6_1 : Int), v6 = .int .i64 x6_1 ∧ Aside0 (rickyardref15_Entries.l0 kq l1 x5_1 x6_1 l0_0 a0_1 = some r) ∧ Aside0 (kq ≤ k) ∧ Aside0 (Kd.N k51 51 w' w.heap.size (fun k_ => (w.heap.size ≤ k_) ∧ k_ ≠ gb472) v5 x5_1) ∧ Aside0 (w'.heap[gb472]? = some (.cells #[(.slice A0_0 l0_0.length c0_0), .int .i64 a0_1] 24 (0, 0))) ∧ Aside0 (Below w.heap.size w w'))
 case atStart => exact ⟨(([] : List (S51))), (0), relA, H', ⟨Nat.le_refl _⟩, ⟨by first | exact Kd.R_nil _ _ _ _ _ | exact Kd.N_nil _ _ _ _ _ | exact Kd.V_nil _ _ _ _ _ | exact Kd.Q_nil _ _ _ _ _ | exact Kd.S_nil _ _ _ _ _⟩, ⟨blkA BK472.out⟩, ⟨belB HB.out GE472.out⟩⟩
 case round =>
  clear H'
  try clear c1
  try clear p2
  try clear c3
  obtain ⟨x5_1, x6_1, rfl, HA, HK1, HO_5, BK472, HB⟩ := hrel
  cases gk with
  | zero => exact absurd HA.out (by simp [rickyardref15_Entries.l0])
  | succ k1 =>
   have H := HA.out
   clear HA
   simp only [rickyardref15_Entries.l0] at H
   by_cases c4 : x6_1 < (l1.length : Int)
   rotate_left
   ·rw [if_neg c4] at H
    have c4b0 := decide_eq_false c4
    clear c4
    obtain rfl := Option.some.inj H
    go_wp2
    repeat (go_quiet (fail); try go_wp2)
    go_ret
    exact ⟨_, ret1, by (with_reducible repeat (first | apply Kd.N_alloc | apply Kd.N_drewN | apply Kd.N_drew)); exact Kd.N_mono HO_5.out (fun _ hk => hk.1), belB HB.out GE472.out⟩
   rw [if_pos c4] at H
   have c4b0 := decide_eq_true c4
   clear c4
   replace H := ifN H
   obtain ⟨c5, H⟩ := H
   have c5b0 := decide_eq_true c5
   clear c5
   replace H := ifN H
   obtain ⟨c6, H⟩ := H
   have c6b0 := decide_eq_true c6
   have c6b1 : decide (0 < l0_0.length) = true := decide_eq_true (by omega)
   clear c6
   replace H := bnA H
   obtain ⟨⟨t475, t476⟩, A7, H⟩ := H
   replace H : ((rickyardref06_Write.f k1 ((rd_T46 l1 x6_1).f0) t475 0).bind fun bt478 => ((rickyardref02_One.f ((rd_T46 l1 x6_1).f2)).bind fun bt483 => ((rickyardref14_Put.f k1 x5_1 bt478.1 bt483.1 bt483.2.1 bt483.2.2.1 bt483.2.2.2.1 bt483.2.2.2.2.1 bt483.2.2.2.2.2).bind fun t489 => (rickyardref15_Entries.l0 k1 l1 t489 (wrap64 (x6_1 + 1)) l0_0 a0_1)))) = some r := H
   replace H := bnA H
   obtain ⟨⟨t478, t481⟩, A8, H⟩ := H
   replace H : ((rickyardref02_One.f ((rd_T46 l1 x6_1).f2)).bind fun bt483 => ((rickyardref14_Put.f k1 x5_1 t478 bt483.1 bt483.2.1 bt483.2.2.1 bt483.2.2.2.1 bt483.2.2.2.2.1 bt483.2.2.2.2.2).bind fun t489 => (rickyardref15_Entries.l0 k1 l1 t489 (wrap64 (x6_1 + 1)) l0_0 a0_1))) = some r := H
   replace H := bnA H
   obtain ⟨⟨t483, t484, t485, t486, t487, t488⟩, A9, H⟩ := H
   replace H : ((rickyardref14_Put.f k1 x5_1 t478 t483 t484 t485 t486 t487 t488).bind fun t489 => (rickyardref15_Entries.l0 k1 l1 t489 (wrap64 (x6_1 + 1)) l0_0 a0_1)) = some r := H
   replace H := bnA H
   obtain ⟨t489, A10, H⟩ := H
   have H' := Aside0.mk H
   clear H
   have p473 : 0 ≤ (x6_1 : Int) := of_decide_eq_true asmA
   have q473 : x6_1 < (l1.length : Int) := of_decide_eq_true asmA
   obtain ⟨ad473, A473_0, c473_0, e473, hx473_0, hx473_1, hx473_2, hl473_0, hi473_0⟩ := at_T46 HR1.out x6_1 p473 q473
   cases e473
   replace hx473_0 := cbx HB hx473_0
   replace hx473_1 := cbx HB hx473_1
   replace hx473_2 := cbx HB hx473_2
   have HR473_0 := Aside0.mk hi473_0
   have HC473_0 := Aside0.mk hl473_0
   clear hi473_0 hl473_0
   replace p473 := eq_true p473
   replace q473 := eq_true q473
   obtain ⟨hcz11_0, hcz11_1, hfz11_0, hfz11_1⟩ := blk2 BK472
   have p474 : 0 ≤ (0 : Int) := (by omega)
   have q474 : 0 < (l0_0.length : Int) := of_decide_eq_true asmA
   obtain ⟨ad474, e474, hx474_0, hx474_1⟩ := at_T67 HR0_0.out 0 p474 q474
   cases e474
   have qi474 : (0 < l0_0.length) = True := eq_true (by omega)
   (try rw [show ((0 : Int)).toNat = 0 from rfl] at hx474_0)
   (try rw [show 0 * 2 = 0 from rfl] at hx474_0)
   (try rw [Addr.add_zero'] at hx474_0)
   (try rw [show ((0 : Int)).toNat = 0 from rfl] at hx474_1)
   (try rw [show 0 * 2 = 0 from rfl] at hx474_1)
   (try rw [Addr.add_zero'] at hx474_1)
   replace hx474_0 := cbx HB hx474_0
   replace hx474_1 := cbx HB hx474_1
   replace p474 := eq_true p474
   replace q474 := eq_true q474
   go_wp2_with (first | (go_at_call 57; (with_reducible refine (rickyardref03_Floor.calls ((rd_T46 l1 x6_1).f1) ((rd_T67 l0_0 0).f0) t475 t476 _ A7.out).mono ?_); rintro e w' ⟨rfl, ⟨nd, rfl⟩⟩; (try exact drA); have p477 : 0 ≤ (x6_1 : Int) := of_decide_eq_true asmA; have q477 : x6_1 < (l1.length : Int) := of_decide_eq_true asmA; obtain ⟨ad477, A477_0, c477_0, e477, hx477_0, hx477_1, hx477_2, hl477_0, hi477_0⟩ := at_T46 HR1.out x6_1 p477 q477; obtain rfl : ad473 = ad477 := (by injection e477); replace hx477_0 := cbx HB hx477_0; replace hx477_1 := cbx HB hx477_1; replace hx477_2 := cbx HB hx477_2; have HR477_0 := Aside0.mk hi477_0; have HC477_0 := Aside0.mk hl477_0; clear hi477_0 hl477_0; replace p477 := eq_true p477; replace q477 := eq_true q477; have ea_ := Option.some.inj (hx473_0.symm.trans hx477_0); injection ea_ with ea_ en_ ec_; subst ea_; subst ec_; clear en_) | (go_at_call 70; (with_reducible refine (rickyardref06_Write.calls k1 _ _ ((rd_T46 l1 x6_1).f0) t475 0 t478 t481 _ ?side1 ?side2 A8.out).mono ?_); (case side1 => repeat (first | exact (Kd.C_below HR477_0.out (belB HB.out GE472.out)) | (with_reducible refine Kd.C_alloc ?_ _) | (with_reducible refine Kd.C_drewN ?_ _) | (with_reducible refine Kd.C_drew ?_))); (case side2 => exact HC477_0.out); rintro e w12 ⟨v479, rfl, ho0, hb⟩; have HO480 := Aside0.mk (Kd.R_lower (Kd.R_newM (M := fun k_ => (w.heap.size ≤ k_)) ho0 (below_size (belB HB.out GE472.out)) (fun k_ h_ => h_)) (below_size (belB HB.out GE472.out))); replace HO_5 := Aside0.mk (Kd.N_elder' (nilA HO_5.out) (Kd.R_base ho0) hb); replace BK472 := blkB BK472 hb; replace HB := bs2 HB GE472 hb; (try clear hb); (try clear ho0); have p482 : 0 ≤ (x6_1 : Int) := of_decide_eq_true asmA; have q482 : x6_1 < (l1.length : Int) := of_decide_eq_true asmA; obtain ⟨ad482, A482_0, c482_0, e482, hx482_0, hx482_1, hx482_2, hl482_0, hi482_0⟩ := at_T46 HR1.out x6_1 p482 q482; obtain rfl : ad473 = ad482 := (by injection e482); replace hx482_0 := cbx HB hx482_0; replace hx482_1 := cbx HB hx482_1; replace hx482_2 := cbx HB hx482_2; have HR482_0 := Aside0.mk hi482_0; have HC482_0 := Aside0.mk hl482_0; clear hi482_0 hl482_0; replace p482 := eq_true p482; replace q482 := eq_true q482) | (go_at_call 71; (with_reducible refine (rickyardref02_One.calls ((rd_T46 l1 x6_1).f2) t483 t484 t485 t486 t487 t488 _ A9.out).mono ?_); rintro e w13 ⟨rfl, hb⟩; replace HO_5 := Aside0.mk (Kd.N_below (nilA HO_5.out) hb); replace HO480 := Aside0.mk (Kd.R_below (rowA HO480.out) hb); replace BK472 := blkB BK472 hb; replace HB := bs2 HB GE472 hb; (try clear hb); obtain ⟨Ao14, co14, eo14⟩ := Kd.R_slice HO480.out; subst eo14; obtain ⟨Ao15, co15, eo15⟩ := Kd.N_slice HO_5.out; subst eo15) | (go_at_call 48; (with_reducible refine (rickyardref14_Put.calls k1 (fun k_ => (((w.heap.size ≤ k_) ∧ k_ ≠ gb472) ∧ some k_ ≠ (.slice Ao14 t478.length co14 : Value).ownBlock)) _ _ x5_1 (fun k_ => some k_ = (.slice Ao14 t478.length co14 : Value).ownBlock) _ _ t478 t483 t484 t485 t486 t487 t488 t489 _ ?side1 ?side2 A10.out).mono ?_); (case side1 => exact Kd.N_V (HO_5.out)); (case side2 => exact Kd.R_V (Kd.R_tight rfl (Kd.R_types (Kd.R_apart' (HO480.out) (Kd.N_typed HO_5.out) (by decide)) BK472.out (by decide)))); rintro e w16 ⟨v490, rfl, ho0, hb⟩; have HO491 := Aside0.mk (Kd.N_lower (Kd.N_mono (ok' := fun k_ => (w.heap.size ≤ k_) ∧ k_ ≠ gb472) ho0 (fun k_ hk_ => ⟨Or.elim hk_ (fun hs_ => Or.elim hs_ (fun hs_ => hs_.1.1) (fun hs_ => ((Kd.R_types (Kd.R_apart' (HO480.out) (Kd.N_typed HO_5.out) (by decide)) BK472.out (by decide)).1 k_ hs_.symm).1.1.1)) (fun hn_ => (Nat.le_trans (below_size (belB HB.out GE472.out)) hn_)), Or.elim hk_ (fun hs_ => Or.elim hs_ (fun hs_ => hs_.1.2) (fun hs_ => ((Kd.R_types (Kd.R_apart' (HO480.out) (Kd.N_typed HO_5.out) (by decide)) BK472.out (by decide)).1 k_ hs_.symm).2)) (fun hn_ => (Kd.freshB (g := gb472) (o := .cells #[.slice (some ad474) l0_0.length c0_0, .int .i64 a0_1] 24 (0, 0)) (blkA BK472.out) k_ hn_))⟩)) (below_size (belB HB.out GE472.out))); replace HO_5 := Aside0.mk (Kd.N_elder' (nilA HO_5.out) (Kd.N_base ho0) hb); replace HO480 := Aside0.mk (Kd.R_below (rowA HO480.out) hb); replace BK472 := blkB BK472 hb; replace HB := bs2 HB GE472 hb; (try clear hb); (try clear ho0)))
   repeat (go_quiet ((go_at_call 57; (with_reducible refine (rickyardref03_Floor.calls ((rd_T46 l1 x6_1).f1) ((rd_T67 l0_0 0).f0) t475 t476 _ A7.out).mono ?_); rintro e w' ⟨rfl, ⟨nd, rfl⟩⟩; (try exact drA); have p477 : 0 ≤ (x6_1 : Int) := of_decide_eq_true asmA; have q477 : x6_1 < (l1.length : Int) := of_decide_eq_true asmA; obtain ⟨ad477, A477_0, c477_0, e477, hx477_0, hx477_1, hx477_2, hl477_0, hi477_0⟩ := at_T46 HR1.out x6_1 p477 q477; obtain rfl : ad473 = ad477 := (by injection e477); replace hx477_0 := cbx HB hx477_0; replace hx477_1 := cbx HB hx477_1; replace hx477_2 := cbx HB hx477_2; have HR477_0 := Aside0.mk hi477_0; have HC477_0 := Aside0.mk hl477_0; clear hi477_0 hl477_0; replace p477 := eq_true p477; replace q477 := eq_true q477; have ea_ := Option.some.inj (hx473_0.symm.trans hx477_0); injection ea_ with ea_ en_ ec_; subst ea_; subst ec_; clear en_)); try go_wp2_with (first | (go_at_call 57; (with_reducible refine (rickyardref03_Floor.calls ((rd_T46 l1 x6_1).f1) ((rd_T67 l0_0 0).f0) t475 t476 _ A7.out).mono ?_); rintro e w' ⟨rfl, ⟨nd, rfl⟩⟩; (try exact drA); have p477 : 0 ≤ (x6_1 : Int) := of_decide_eq_true asmA; have q477 : x6_1 < (l1.length : Int) := of_decide_eq_true asmA; obtain ⟨ad477, A477_0, c477_0, e477, hx477_0, hx477_1, hx477_2, hl477_0, hi477_0⟩ := at_T46 HR1.out x6_1 p477 q477; obtain rfl : ad473 = ad477 := (by injection e477); replace hx477_0 := cbx HB hx477_0; replace hx477_1 := cbx HB hx477_1; replace hx477_2 := cbx HB hx477_2; have HR477_0 := Aside0.mk hi477_0; have HC477_0 := Aside0.mk hl477_0; clear hi477_0 hl477_0; replace p477 := eq_true p477; replace q477 := eq_true q477; have ea_ := Option.some.inj (hx473_0.symm.trans hx477_0); injection ea_ with ea_ en_ ec_; subst ea_; subst ec_; clear en_) | (go_at_call 70; (with_reducible refine (rickyardref06_Write.calls k1 _ _ ((rd_T46 l1 x6_1).f0) t475 0 t478 t481 _ ?side1 ?side2 A8.out).mono ?_); (case side1 => repeat (first | exact (Kd.C_below HR477_0.out (belB HB.out GE472.out)) | (with_reducible refine Kd.C_alloc ?_ _) | (with_reducible refine Kd.C_drewN ?_ _) | (with_reducible refine Kd.C_drew ?_))); (case side2 => exact HC477_0.out); rintro e w12 ⟨v479, rfl, ho0, hb⟩; have HO480 := Aside0.mk (Kd.R_lower (Kd.R_newM (M := fun k_ => (w.heap.size ≤ k_)) ho0 (below_size (belB HB.out GE472.out)) (fun k_ h_ => h_)) (below_size (belB HB.out GE472.out))); replace HO_5 := Aside0.mk (Kd.N_elder' (nilA HO_5.out) (Kd.R_base ho0) hb); replace BK472 := blkB BK472 hb; replace HB := bs2 HB GE472 hb; (try clear hb); (try clear ho0); have p482 : 0 ≤ (x6_1 : Int) := of_decide_eq_true asmA; have q482 : x6_1 < (l1.length : Int) := of_decide_eq_true asmA; obtain ⟨ad482, A482_0, c482_0, e482, hx482_0, hx482_1, hx482_2, hl482_0, hi482_0⟩ := at_T46 HR1.out x6_1 p482 q482; obtain rfl : ad473 = ad482 := (by injection e482); replace hx482_0 := cbx HB hx482_0; replace hx482_1 := cbx HB hx482_1; replace hx482_2 := cbx HB hx482_2; have HR482_0 := Aside0.mk hi482_0; have HC482_0 := Aside0.mk hl482_0; clear hi482_0 hl482_0; replace p482 := eq_true p482; replace q482 := eq_true q482) | (go_at_call 71; (with_reducible refine (rickyardref02_One.calls ((rd_T46 l1 x6_1).f2) t483 t484 t485 t486 t487 t488 _ A9.out).mono ?_); rintro e w13 ⟨rfl, hb⟩; replace HO_5 := Aside0.mk (Kd.N_below (nilA HO_5.out) hb); replace HO480 := Aside0.mk (Kd.R_below (rowA HO480.out) hb); replace BK472 := blkB BK472 hb; replace HB := bs2 HB GE472 hb; (try clear hb); obtain ⟨Ao14, co14, eo14⟩ := Kd.R_slice HO480.out; subst eo14; obtain ⟨Ao15, co15, eo15⟩ := Kd.N_slice HO_5.out; subst eo15) | (go_at_call 48; (with_reducible refine (rickyardref14_Put.calls k1 (fun k_ => (((w.heap.size ≤ k_) ∧ k_ ≠ gb472) ∧ some k_ ≠ (.slice Ao14 t478.length co14 : Value).ownBlock)) _ _ x5_1 (fun k_ => some k_ = (.slice Ao14 t478.length co14 : Value).ownBlock) _ _ t478 t483 t484 t485 t486 t487 t488 t489 _ ?side1 ?side2 A10.out).mono ?_); (case side1 => exact Kd.N_V (HO_5.out)); (case side2 => exact Kd.R_V (Kd.R_tight rfl (Kd.R_types (Kd.R_apart' (HO480.out) (Kd.N_typed HO_5.out) (by decide)) BK472.out (by decide)))); rintro e w16 ⟨v490, rfl, ho0, hb⟩; have HO491 := Aside0.mk (Kd.N_lower (Kd.N_mono (ok' := fun k_ => (w.heap.size ≤ k_) ∧ k_ ≠ gb472) ho0 (fun k_ hk_ => ⟨Or.elim hk_ (fun hs_ => Or.elim hs_ (fun hs_ => hs_.1.1) (fun hs_ => ((Kd.R_types (Kd.R_apart' (HO480.out) (Kd.N_typed HO_5.out) (by decide)) BK472.out (by decide)).1 k_ hs_.symm).1.1.1)) (fun hn_ => (Nat.le_trans (below_size (belB HB.out GE472.out)) hn_)), Or.elim hk_ (fun hs_ => Or.elim hs_ (fun hs_ => hs_.1.2) (fun hs_ => ((Kd.R_types (Kd.R_apart' (HO480.out) (Kd.N_typed HO_5.out) (by decide)) BK472.out (by decide)).1 k_ hs_.symm).2)) (fun hn_ => (Kd.freshB (g := gb472) (o := .cells #[.slice (some ad474) l0_0.length c0_0, .int .i64 a0_1] 24 (0, 0)) (blkA BK472.out) k_ hn_))⟩)) (below_size (belB HB.out GE472.out))); replace HO_5 := Aside0.mk (Kd.N_elder' (nilA HO_5.out) (Kd.N_base ho0) hb); replace HO480 := Aside0.mk (Kd.R_below (rowA HO480.out) hb); replace BK472 := blkB BK472 hb; replace HB := bs2 HB GE472 hb; (try clear hb); (try clear ho0))))
   go_roundg k1
   case measure => have := HK1.out; omega
   case rel => exact ⟨(t489), (wrap64 (x6_1 + 1)), relA, H', ⟨by have := HK1.out; omega⟩, ⟨nilA HO491.out⟩, ⟨blkA BK472.out⟩, ⟨belB HB.out GE472.out⟩⟩
def rickyardref15_Facts.l0 : Nat → Int → List (S46) → Int → List (S67) → Int → Option ((List (S51)) × Int)
 | 0, _, _, _, _, _ => none
 | k + 1, x1, x2, x9, x493000, x493001 => if x9 < (x2.length : Int) then (if 0 ≤ x9 then ((rickyardref12_May.f k ((rd_T46 x2 x9).f0) ((rd_T46 x2 x9).f1) ((rd_T46 x2 x9).f2)).bind fun t495 => (if t495 = true then (rickyardref15_Facts.l0 k x1 x2 (wrap64 (x9 + 1)) x493000 x493001) else (some (([] : List (S51)), 110)))) else (none)) else ((rickyardref15_Entries.f k x493000 x493001 x2).bind fun t496 => ((rickyardref15_Fold.f k x493000 x493001 x1 t496).bind fun bt499 => (some (bt499.1, bt499.2))))
def rickyardref15_Facts.f (k : Nat) (l0_0 : List (S67)) (a0_1 : Int) (a1 : Int) (l2 : List (S46)) : Option ((List (S51)) × Int) := (rickyardref15_Check.f k l0_0 a0_1 a1 ([] : List (S51))).bind fun t493 => (if t493 = 0 then (rickyardref15_Facts.l0 k a1 l2 0 l0_0 a0_1) else (some (([] : List (S51)), t493)))
def rickyardref15_Facts.T9 : Bool × List (List Nat × List Nat) := (true, [([], []), ([], []), ([], []), ([], []), ([2, 3], [2, 3]), ([0, 1, 4, 4], [0, 1, 4]), ([5], [5]), ([5], [5]), ([6, 5, 0, 1, 2, 3, 4, 5, 6, 7], [6]), ([7, 8, 0, 1, 2, 3, 4, 5, 6, 7, 8], [7])])
def rickyardref15_Facts.B9 : List Nat := [0, 0, 0, 0, 12, 31, 63, 63, 255, 511]
theorem rickyardref15_Facts.tab9 : rtab .any (opsOf Try.f13 9) = rickyardref15_Facts.T9 := by kernel_rfl
theorem rickyardref15_Facts.bits9 : waitsOk rickyardref15_Facts.T9.2 rickyardref15_Facts.B9 = true := by kernel_rfl
theorem rickyardref15_Facts.calls (k : Nat) (A0_0 : Option Addr) (c0_0 : Nat) (l0_0 : List (S67)) (a0_1 : Int) (a1 : Int) (A2 : Option Addr) (c2 : Nat) (l2 : List (S46)) (r1 : List (S51)) (r2 : Int) (w : World) (hr0_0 : Kd.C k67 w A0_0 l0_0.length l0_0) (hc0_0 : l0_0.length ≤ c0_0) (hr2 : Kd.C k46 w A2 l2.length l2) (hc2 : l2.length ≤ c2) (h : rickyardref15_Facts.f k l0_0 a0_1 a1 l2 = some (r1, r2)) :
  Calls Try.prog 13 #[.agg #[.slice A0_0 l0_0.length c0_0, .int .i64 a0_1], .int .i64 a1, .slice A2 l2.length c2] w fun e w' => ∃ v0_ : Value, e = .returned (.tuple #[v0_, .int .i64 r2]) ∧ Kd.N k51 51 w' w.heap.size (fun k_ => (w.heap.size ≤ k_)) v0_ r1 ∧ Below w.heap.size w w' := by
 have hu24 := Try.underlying24
 have hu46 := Try.underlying46
 have HR0_0 := Aside0.mk hr0_0
 have HC0_0 := Aside0.mk hc0_0
 clear hr0_0 hc0_0
 have HR2 := Aside0.mk hr2
 have HC2 := Aside0.mk hc2
 clear hr2 hc2
 have HB := Aside0.mk (Below.refl w.heap.size w)
 have H : ((rickyardref15_Check.f k l0_0 a0_1 a1 ([] : List (S51))).bind fun t493 => (if t493 = 0 then (rickyardref15_Facts.l0 k a1 l2 0 l0_0 a0_1) else (some (([] : List (S51)), t493)))) = some (r1, r2) := h
 clear h
 replace H := bnA H
 obtain ⟨t493, A4, H⟩ := H
 by_cases c5 : t493 = 0
 rotate_left
 ·rw [if_neg c5] at H
  have c5b0 := beq_eq_false_iff_ne.mpr c5
  have c5b1 := bne_iff_ne.mpr c5
  simp only [Option.some.injEq, Prod.mk.injEq] at H
  obtain ⟨rfl, rfl⟩ := H
  go_enter Try.func13, Try.ntmps13
  go_wp2_with (first | ((with_reducible refine gate_dst (N := 3) rfl ?_); refine boxA 3 #[.slice A0_0 l0_0.length c0_0, .int .i64 a0_1] 24 ?_; intro gb492 hg w21 hbox hb; have BK492 := Aside0.mk (hbox); have GE492 := ge1 hg (belA HB.out); replace HB := bst HB hb; clear hb hbox hg; obtain ⟨hcz22_0, hcz22_1, hfz22_0, hfz22_1⟩ := blk2 BK492) | ((with_reducible refine gate_callee (f := 35) rfl ?_); refine goesL_ (some 12) rfl rfl Try.func35 (by kernel_rfl) rfl #[.agg #[.slice A0_0 l0_0.length c0_0, .int .i64 a0_1], .int .i64 a1, .slice none 0 0] rfl argA ?_; (refine (rickyardref15_Check.calls k _ _ l0_0 a0_1 a1 _ _ ([] : List (S51)) t493 _ ?side1 ?side2 ?side3 ?side4 A4.out).mono ?_); (case side1 => exact cb1 HR0_0 HB); (case side2 => exact HC0_0.out); (case side3 => exact Kd.C_nil _ _); (case side4 => exact Nat.le_refl _); rintro e w23 ⟨rfl, hb⟩; refine ⟨_, rfl, ?_⟩; replace BK492 := blkB BK492 hb; replace HB := bs2 HB GE492 hb; (try clear hb)))
  go_ret2
  exact ⟨_, ret1, by first | exact Kd.R_nil _ _ _ _ _ | exact Kd.N_nil _ _ _ _ _ | exact Kd.V_nil _ _ _ _ _ | exact Kd.Q_nil _ _ _ _ _ | exact Kd.S_nil _ _ _ _ _, belB HB.out GE492.out⟩
 rw [if_pos c5] at H
 have c5b0 := beq_iff_eq.mpr c5
 have c5b1 := bne_eq_false_iff_eq.mpr c5
 clear c5
 have H' := Aside0.mk H
 clear H
 go_enter Try.func13, Try.ntmps13
 go_wp2_with (first | ((with_reducible refine gate_dst (N := 3) rfl ?_); refine boxA 3 #[.slice A0_0 l0_0.length c0_0, .int .i64 a0_1] 24 ?_; intro gb492 hg w6 hbox hb; have BK492 := Aside0.mk (hbox); have GE492 := ge1 hg (belA HB.out); replace HB := bst HB hb; clear hb hbox hg; obtain ⟨hcz7_0, hcz7_1, hfz7_0, hfz7_1⟩ := blk2 BK492) | ((with_reducible refine gate_callee (f := 35) rfl ?_); refine goesL_ (some 12) rfl rfl Try.func35 (by kernel_rfl) rfl #[.agg #[.slice A0_0 l0_0.length c0_0, .int .i64 a0_1], .int .i64 a1, .slice none 0 0] rfl argA ?_; (refine (rickyardref15_Check.calls k _ _ l0_0 a0_1 a1 _ _ ([] : List (S51)) t493 _ ?side1 ?side2 ?side3 ?side4 A4.out).mono ?_); (case side1 => exact cb1 HR0_0 HB); (case side2 => exact HC0_0.out); (case side3 => exact Kd.C_nil _ _); (case side4 => exact Nat.le_refl _); rintro e w8 ⟨rfl, hb⟩; refine ⟨_, rfl, ?_⟩; replace BK492 := blkB BK492 hb; replace HB := bs2 HB GE492 hb; (try clear hb)))
 go_loopg [9] k (fun kq v9 w' => ∃ (x9_1 : Int), v9 = .int .i64 x9_1 ∧ Aside0 (rickyardref15_Facts.l0 kq a1 l2 x9_1 l0_0 a0_1 = some (r1, r2)) ∧ Aside0 (kq ≤ k) ∧ Aside0 (w'.heap[gb492]? = some (.cells #[(.slice A0_0 l0_0.length c0_0), .int .i64 a0_1] 24 (0, 0))) ∧ Aside0 (Below w.heap.size w w'))
 case atStart => exact ⟨(0), relA, H', ⟨Nat.le_refl _⟩, ⟨blkA BK492.out⟩, ⟨belB HB.out GE492.out⟩⟩
 case round =>
  clear H'
  try clear c1
  try clear c2
  try clear p2
  try clear c3
  try clear c5
  try clear c5b0
  try clear c5b1
  try clear hcz7_0 hcz7_1 hfz7_0 hfz7_1
  obtain ⟨x9_1, rfl, HA, HK1, BK492, HB⟩ := hrel
  cases gk with
  | zero => exact absurd HA.out (by simp [rickyardref15_Facts.l0])
  | succ k1 =>
   have H := HA.out
   clear HA
   simp only [rickyardref15_Facts.l0] at H
   by_cases c9 : x9_1 < (l2.length : Int)
   ·rw [if_pos c9] at H
    have c9b0 := decide_eq_true c9
    clear c9
    by_cases c10 : 0 ≤ x9_1
    ·rw [if_pos c10] at H
     have c10b0 := decide_eq_true c10
     clear c10
     replace H := bnA H
     obtain ⟨t495, A11, H⟩ := H
     by_cases c12 : t495 = true
     ·subst c12
      have H1 : (rickyardref15_Facts.l0 k1 a1 l2 (wrap64 (x9_1 + 1)) l0_0 a0_1) = some (r1, r2) := by rw [if_pos rfl] at H; exact H
      clear H
      have H := H1
      clear H1
      have H' := Aside0.mk H
      clear H
      have p494 : 0 ≤ (x9_1 : Int) := of_decide_eq_true asmA
      have q494 : x9_1 < (l2.length : Int) := of_decide_eq_true asmA
      obtain ⟨ad494, A494_0, c494_0, e494, hx494_0, hx494_1, hx494_2, hl494_0, hi494_0⟩ := at_T46 HR2.out x9_1 p494 q494
      cases e494
      replace hx494_0 := cbx HB hx494_0
      replace hx494_1 := cbx HB hx494_1
      replace hx494_2 := cbx HB hx494_2
      have HR494_0 := Aside0.mk hi494_0
      have HC494_0 := Aside0.mk hl494_0
      clear hi494_0 hl494_0
      replace p494 := eq_true p494
      replace q494 := eq_true q494
      go_wp2_with (first | ((with_reducible refine gate_callee (f := 36) rfl ?_); refine goesL_ (some 26) rfl rfl Try.func36 (by kernel_rfl) rfl #[.agg #[.slice A494_0 ((rd_T46 l2 x9_1).f0).length c494_0, .int .i64 ((rd_T46 l2 x9_1).f1), .int .i64 ((rd_T46 l2 x9_1).f2)]] rfl argA ?_; (with_reducible refine (rickyardref12_May.calls k1 _ _ ((rd_T46 l2 x9_1).f0) ((rd_T46 l2 x9_1).f1) ((rd_T46 l2 x9_1).f2) true _ ?side1 ?side2 A11.out).mono ?_); (case side1 => exact cb1 HR494_0 HB); (case side2 => exact HC494_0.out); rintro e w13 ⟨rfl, hb⟩; refine ⟨_, rfl, ?_⟩; replace BK492 := blkB BK492 hb; replace HB := bs2 HB GE492 hb; (try clear hb)))
      go_roundg k1
      case measure => have := HK1.out; omega
      case rel => exact ⟨(wrap64 (x9_1 + 1)), relA, H', ⟨by have := HK1.out; omega⟩, ⟨blkA BK492.out⟩, ⟨belB HB.out GE492.out⟩⟩
     ·replace c12 := Bool.eq_false_iff.mpr c12
      subst c12
      have H1 : (some (([] : List (S51)), 110)) = some (r1, r2) := by rw [if_neg (show ¬ (false = true) by decide)] at H; exact H
      clear H
      have H := H1
      clear H1
      simp only [Option.some.injEq, Prod.mk.injEq] at H
      obtain ⟨rfl, rfl⟩ := H
      have p494 : 0 ≤ (x9_1 : Int) := of_decide_eq_true asmA
      have q494 : x9_1 < (l2.length : Int) := of_decide_eq_true asmA
      obtain ⟨ad494, A494_0, c494_0, e494, hx494_0, hx494_1, hx494_2, hl494_0, hi494_0⟩ := at_T46 HR2.out x9_1 p494 q494
      cases e494
      replace hx494_0 := cbx HB hx494_0
      replace hx494_1 := cbx HB hx494_1
      replace hx494_2 := cbx HB hx494_2
      have HR494_0 := Aside0.mk hi494_0
      have HC494_0 := Aside0.mk hl494_0
      clear hi494_0 hl494_0
      replace p494 := eq_true p494
      replace q494 := eq_true q494
      go_wp2_with (first | ((with_reducible refine gate_callee (f := 36) rfl ?_); refine goesL_ (some 26) rfl rfl Try.func36 (by kernel_rfl) rfl #[.agg #[.slice A494_0 ((rd_T46 l2 x9_1).f0).length c494_0, .int .i64 ((rd_T46 l2 x9_1).f1), .int .i64 ((rd_T46 l2 x9_1).f2)]] rfl argA ?_; (with_reducible refine (rickyardref12_May.calls k1 _ _ ((rd_T46 l2 x9_1).f0) ((rd_T46 l2 x9_1).f1) ((rd_T46 l2 x9_1).f2) false _ ?side1 ?side2 A11.out).mono ?_); (case side1 => exact cb1 HR494_0 HB); (case side2 => exact HC494_0.out); rintro e w14 ⟨rfl, hb⟩; refine ⟨_, rfl, ?_⟩; replace BK492 := blkB BK492 hb; replace HB := bs2 HB GE492 hb; (try clear hb)))
      go_ret2
      exact ⟨_, ret1, by first | exact Kd.R_nil _ _ _ _ _ | exact Kd.N_nil _ _ _ _ _ | exact Kd.V_nil _ _ _ _ _ | exact Kd.Q_nil _ _ _ _ _ | exact Kd.S_nil _ _ _ _ _, belB HB.out GE492.out⟩
    ·rw [if_neg c10] at H
     exact absurd H (by simp)
   ·rw [if_neg c9] at H
    have c9b0 := decide_eq_false c9
    clear c9
    replace H := bnA H
    obtain ⟨t496, A15, H⟩ := H
    replace H := bnA H
    obtain ⟨⟨t499, t502⟩, A16, H⟩ := H
    replace H : (some (t499, t502)) = some (r1, r2) := H
    simp only [Option.some.injEq, Prod.mk.injEq] at H
    obtain ⟨rfl, rfl⟩ := H
    try go_wp2
    replace BK492 := Aside0.mk (blk_drew BK492.out)
    replace HB := Aside0.mk (below_drew1 HB.out)
    refine start_ (n := 10) (S := fun w' => w'.cell? ⟨gb492, 0, none⟩ = some (.slice A0_0 l0_0.length c0_0) ∧ w'.cell? ⟨gb492, 1, none⟩ = some (.int .i64 a0_1)) (ds := []) #[false, false, false, false, false, false, false, false, false, false] (by kernel_rfl) rfl rfl ⟨(blk_cell BK492.out 0).trans rfl, (blk_cell BK492.out 1).trans rfl⟩ (fun hHeld => ?_); refine with_tabW rickyardref15_Facts.tab9 rickyardref15_Facts.bits9 (fun HT_ HW_ => ?_)
    generalize wr.drew = w17 at BK492 HB hHeld ⊢
    refine pureD 1 29 HT_ ?_
    refine pureD 3 31 HT_ ?_
    refine takeD 0 28 HT_ HW_ hHeld ?_
    refine takeD 2 30 HT_ HW_ hHeld ?_
    refine one_ (i := 4) (N := some 32) #[true, true, true, true, true, false, false, false, false, false] rfl rfl (one_of HT_.out (by kernel_rfl)) (by decide) (fun K hK => ?_)
    refine goes_ Try.func37 (by kernel_rfl) rfl #[.agg #[.slice A0_0 l0_0.length c0_0, .int .i64 a0_1], .slice A2 l2.length c2] (by rfl) rfl rfl argA ?_
    with_reducible refine (rickyardref15_Entries.calls k1 _ _ l0_0 a0_1 _ _ l2 t496 _ ?side1 ?side2 ?side3 ?side4 A15.out).mono ?_
    (case side1 => exact cb1 HR0_0 HB)
    (case side2 => exact HC0_0.out)
    (case side3 => exact cb1 HR2 HB)
    (case side4 => exact HC2.out)
    rintro e w18 ⟨v497, rfl, ho0, hb⟩
    refine ⟨_, rfl, ?_⟩
    have HO498 := Aside0.mk (Kd.N_lower (Kd.N_mono (ok' := fun k_ => (w.heap.size ≤ k_) ∧ k_ ≠ gb492) ho0 (fun k_ hk_ => ⟨(Nat.le_trans (below_size (belB HB.out GE492.out)) hk_), (frB BK492 k_ hk_)⟩)) (below_size (belB HB.out GE492.out)))
    replace BK492 := blkB BK492 hb
    replace HB := bs2 HB GE492 hb
    (try clear hb)
    (try clear ho0)
    obtain ⟨Ao19, co19, eo19⟩ := Kd.N_slice HO498.out
    (first | subst eo19 | (injection eo19 with f1_ f2_ f3_; have f4_ := f1_.symm; have f5_ := f3_.symm; clear f1_ f2_ f3_; subst f4_; subst f5_))
    refine hK.out _ _ ⟨(blk_cell BK492.out 0).trans rfl, (blk_cell BK492.out 1).trans rfl⟩ (fun hHeld => ?_)
    clear hK K
    refine norm_ (a' := ?_) ?_ ?_
    rotate_left
    ·show Act.put _ (some 32) _ = _
     simp only [Act.put, List.setIfInBounds_toArray, List.set_cons_zero, List.set_cons_succ, i64_w, i32_w]
     rfl
    refine one_ (i := 5) (N := some 33) #[true, true, true, true, true, true, false, false, false, false] rfl rfl (one_of HT_.out (by kernel_rfl)) (by decide) (fun K hK => ?_)
    refine goes_ Try.func20 (by kernel_rfl) rfl #[.agg #[.slice A0_0 l0_0.length c0_0, .int .i64 a0_1], .int .i64 a1, .slice Ao19 t496.length co19] (by rfl) rfl rfl argA ?_
    with_reducible refine (rickyardref15_Fold.calls k1 _ _ l0_0 a0_1 a1 _ _ t496 t499 t502 _ ?side1 ?side2 ?side3 ?side4 A16.out).mono ?_
    (case side1 => exact cb1 HR0_0 HB)
    (case side2 => exact HC0_0.out)
    (case side3 => repeat (first | exact (Kd.N_reads' HO498.out).2.2 | (with_reducible refine Kd.C_alloc ?_ _) | (with_reducible refine Kd.C_drewN ?_ _) | (with_reducible refine Kd.C_drew ?_)))
    (case side4 => exact (Kd.N_reads' HO498.out).2.1)
    rintro e w20 ⟨v500, rfl, ho0, hb⟩
    refine ⟨_, rfl, ?_⟩
    have HO501 := Aside0.mk (Kd.N_lower (Kd.N_mono (ok' := fun k_ => (w.heap.size ≤ k_) ∧ some k_ ≠ (.slice Ao19 t496.length co19 : Value).ownBlock ∧ k_ ≠ gb492) ho0 (fun k_ hk_ => ⟨(Nat.le_trans (below_size (belB HB.out GE492.out)) hk_), (Kd.fresh' (Kd.N_lt (nilA HO498.out)) k_ hk_), (frB BK492 k_ hk_)⟩)) (below_size (belB HB.out GE492.out)))
    replace HO498 := Aside0.mk (Kd.N_elder' (nilA HO498.out) (Kd.N_base ho0) hb)
    replace BK492 := blkB BK492 hb
    replace HB := bs2 HB GE492 hb
    (try clear hb)
    (try clear ho0)
    refine hK.out _ _ ⟨(blk_cell BK492.out 0).trans rfl, (blk_cell BK492.out 1).trans rfl⟩ (fun hHeld => ?_)
    clear hK K
    refine norm_ (a' := ?_) ?_ ?_
    rotate_left
    ·show Act.put _ (some 33) _ = _
     simp only [Act.put, List.setIfInBounds_toArray, List.set_cons_zero, List.set_cons_succ, i64_w, i32_w]
     rfl
    refine pureD 6 34 HT_ ?_
    refine pureD 7 35 HT_ ?_
    refine pureD 8 6 HT_ ?_
    refine pureD 9 7 HT_ ?_
    refine done_ (done_of HT_.out (by kernel_rfl)) ?_
    try go_wp2
    go_ret2
    exact ⟨_, ret1, by (with_reducible repeat (first | apply Kd.N_alloc | apply Kd.N_drewN | apply Kd.N_drew)); exact Kd.N_mono HO501.out (fun _ hk => hk.1), belB HB.out GE492.out⟩
theorem eqA39 (d : Nat) (w : World) (x0 y0 : Int) (x1 y1 : Int) :
    (Op.equalIn (d + 2) 39 (.agg #[.int .i64 x0, .int .u64 x1]) (.agg #[.int .i64 y0, .int .u64 y1])).run Try.prog w = .ok (x0 == y0 && (x1 == y1)) w := by
  refine eqA_of Try.underlying39 (by kernel_rfl) ?_
  refine eqf_cons (by rfl) (by go_simp; rfl) (by go_simp; rfl) (by go_simp) ?_
  exact eqf_last (by rfl) (by go_simp; rfl) (by go_simp; rfl) (by go_simp)
theorem eqA41 (d : Nat) (w : World) (x0 y0 : Int) (x1 y1 : Bool) (x2 y2 : Int) (x3 y3 : Int) (x4 y4 : Int) (x5 y5 : Int) :
    (Op.equalIn (d + 3) 41 (.agg #[.int .u64 x0, .bool x1, .int .i64 x2, .int .u64 x3, .int .i64 x4, .int .i64 x5]) (.agg #[.int .u64 y0, .bool y1, .int .i64 y2, .int .u64 y3, .int .i64 y4, .int .i64 y5])).run Try.prog w = .ok (x0 == y0 && (x1 == y1 && ((x2 == y2 && (x3 == y3)) && (x4 == y4 && (x5 == y5))))) w := by
  refine eqA_of Try.underlying41 (by kernel_rfl) ?_
  refine eqf_cons (by rfl) (by go_simp; rfl) (by go_simp; rfl) (by go_simp) ?_
  refine eqf_cons (by rfl) (by go_simp; rfl) (by go_simp; rfl) (by go_simp) ?_
  refine eqf_cons (by rfl) (by go_simp) (by go_simp) (eqA39 (d + 0) w _ _ _ _) ?_
  refine eqf_cons (by rfl) (by go_simp; rfl) (by go_simp; rfl) (by go_simp) ?_
  exact eqf_last (by rfl) (by go_simp; rfl) (by go_simp; rfl) (by go_simp)
end Go.Proofs.Ytjemmmemenljbaa.PFold
end
