import Derived.Test.YtjemmmemenljbaaZFoldFolds07
import Derived.Test.YtjemmmemenljbaaZFoldFolds08
import Derived.Shelf.Abstract
section
namespace Go.Proofs.Ytjemmmemenljbaa.PFold
open Go.RowKit Go.Proofs.YtjemmmemenljbaaW.PrintWords Go.Proofs.YtjemmmemenljbaaW.PrintLast Go.Proofs.YtjemmmemenljbaaW.PrintMore
attribute [local go_sem] max2_int min2_int max_two min_two max_three min_three max_four min_four   -- for this text's walks alone
set_option linter.unusedVariables false
set_option linter.unusedSimpArgs false
set_option maxHeartbeats 8000000
set_option maxRecDepth 100000
def rickyardref15_Stale.l0 : Nat → Int → List (S51) → Int → Int → List (S67) → Int → Option (Bool × Int)
 | 0, _, _, _, _, _, _ => none
 | k + 1, x1, x2, x8, x9, x574000, x574001 => if x9 < (x2.length : Int) then (if 0 ≤ x9 then ((rickyardref15_Key.f k x574000 x574001 x1 ((rd_T51 x2 x9).f0)).bind fun bt576 => (if bt576.2 = true then (if (strOfNums bt576.1).toList = (strOfNums ((rd_T51 x2 x9).f0)).toList then (rickyardref15_Stale.l0 k x1 x2 x8 (wrap64 (x9 + 1)) x574000 x574001) else (some (true, x8))) else (some (true, x8)))) else (none)) else (some (false, x8))
def rickyardref15_Stale.f (k : Nat) (l0_0 : List (S67)) (a0_1 : Int) (a1 : Int) (l2 : List (S51)) : Option (Bool × Int) := (rickyardref15_Check.f k l0_0 a0_1 a1 l2).bind fun t574 => (if t574 = 0 then (rickyardref15_Stale.l0 k a1 l2 t574 0 l0_0 a0_1) else (some (false, t574)))
def rickyardref15_Stale.T7 : Bool × List (List Nat × List Nat) := (true, [([], []), ([], []), ([], []), ([], []), ([2, 3], [2, 3]), ([4], [4]), ([5], [5]), ([0, 1, 6], [0, 1, 6]), ([7], [7]), ([8], [8]), ([8], [8]), ([9, 7, 0, 1, 2, 3, 4, 5, 6, 7, 8, 9], [9]), ([10, 11, 0, 1, 2, 3, 4, 5, 6, 7, 8, 9, 10, 11], [10])])
def rickyardref15_Stale.B7 : List Nat := [0, 0, 0, 0, 12, 28, 60, 127, 255, 511, 511, 1023, 4095]
theorem rickyardref15_Stale.tab7 : rtab .any (opsOf Try.f22 7) = rickyardref15_Stale.T7 := by kernel_rfl
theorem rickyardref15_Stale.bits7 : waitsOk rickyardref15_Stale.T7.2 rickyardref15_Stale.B7 = true := by kernel_rfl
def rickyardref15_Stale.T8 : Bool × List (List Nat × List Nat) := (true, [([], []), ([0], [0]), ([1], [1]), ([2], [2]), ([3, 2], [2, 3]), ([2], [2]), ([2], [2]), ([5, 6, 2], [2, 5, 6]), ([7, 2], [2, 7]), ([8, 2], [2, 8]), ([9, 2], [2, 9]), ([4, 10, 2], [2, 4, 10]), ([2, 11], [2, 11])])
def rickyardref15_Stale.B8 : List Nat := [0, 1, 3, 7, 15, 7, 7, 103, 231, 487, 999, 2047, 4095]
theorem rickyardref15_Stale.tab8 : rtab .any (opsOf Try.f22 8) = rickyardref15_Stale.T8 := by kernel_rfl
theorem rickyardref15_Stale.bits8 : waitsOk rickyardref15_Stale.T8.2 rickyardref15_Stale.B8 = true := by kernel_rfl
theorem rickyardref15_Stale.calls (k : Nat) (A0_0 : Option Addr) (c0_0 : Nat) (l0_0 : List (S67)) (a0_1 : Int) (a1 : Int) (A2 : Option Addr) (c2 : Nat) (l2 : List (S51)) (r1 : Bool) (r2 : Int) (w : World) (hr0_0 : Kd.C k67 w A0_0 l0_0.length l0_0) (hc0_0 : l0_0.length ≤ c0_0) (hr2 : Kd.C k51 w A2 l2.length l2) (hc2 : l2.length ≤ c2) (h : rickyardref15_Stale.f k l0_0 a0_1 a1 l2 = some (r1, r2)) :
  Calls Try.prog 22 #[.agg #[.slice A0_0 l0_0.length c0_0, .int .i64 a0_1], .int .i64 a1, .slice A2 l2.length c2] w fun e w' => e = .returned (.tuple #[.bool r1, .int .i64 r2]) ∧ Below w.heap.size w w' := by
 have hu24 := Try.underlying24
 have HR0_0 := Aside0.mk hr0_0
 have HC0_0 := Aside0.mk hc0_0
 clear hr0_0 hc0_0
 have HR2 := Aside0.mk hr2
 have HC2 := Aside0.mk hc2
 clear hr2 hc2
 have HB := Aside0.mk (Below.refl w.heap.size w)
 have H : ((rickyardref15_Check.f k l0_0 a0_1 a1 l2).bind fun t574 => (if t574 = 0 then (rickyardref15_Stale.l0 k a1 l2 t574 0 l0_0 a0_1) else (some (false, t574)))) = some (r1, r2) := h
 clear h
 replace H := bnA H
 obtain ⟨t574, A4, H⟩ := H
 by_cases c5 : t574 = 0
 rotate_left
 ·rw [if_neg c5] at H
  have c5b0 := beq_eq_false_iff_ne.mpr c5
  have c5b1 := bne_iff_ne.mpr c5
  simp only [Option.some.injEq, Prod.mk.injEq] at H
  obtain ⟨rfl, rfl⟩ := H
  go_enter Try.func22, Try.ntmps22
  go_wp2_with (first | ((with_reducible refine gate_dst (N := 3) rfl ?_); refine boxA 3 #[.slice A0_0 l0_0.length c0_0, .int .i64 a0_1] 24 ?_; intro gb573 hg w31 hbox hb; have BK573 := Aside0.mk (hbox); have GE573 := ge1 hg (belA HB.out); replace HB := bst HB hb; clear hb hbox hg; obtain ⟨hcz32_0, hcz32_1, hfz32_0, hfz32_1⟩ := blk2 BK573) | ((with_reducible refine gate_callee (f := 35) rfl ?_); refine goesL_ (some 15) rfl rfl Try.func35 (by kernel_rfl) rfl #[.agg #[.slice A0_0 l0_0.length c0_0, .int .i64 a0_1], .int .i64 a1, .slice A2 l2.length c2] rfl argA ?_; (with_reducible refine (rickyardref15_Check.calls k _ _ l0_0 a0_1 a1 _ _ l2 t574 _ ?side1 ?side2 ?side3 ?side4 A4.out).mono ?_); (case side1 => exact cb1 HR0_0 HB); (case side2 => exact HC0_0.out); (case side3 => exact cb1 HR2 HB); (case side4 => exact HC2.out); rintro e w33 ⟨rfl, hb⟩; refine ⟨_, rfl, ?_⟩; replace BK573 := blkB BK573 hb; replace HB := bs2 HB GE573 hb; (try clear hb)))
  go_ret2
  exact ⟨ret1, belB HB.out GE573.out⟩
 rw [if_pos c5] at H
 have c5b0 := beq_iff_eq.mpr c5
 have c5b1 := bne_eq_false_iff_eq.mpr c5
 clear c5
 have H' := Aside0.mk H
 clear H
 go_enter Try.func22, Try.ntmps22
 go_wp2_with (first | ((with_reducible refine gate_dst (N := 3) rfl ?_); refine boxA 3 #[.slice A0_0 l0_0.length c0_0, .int .i64 a0_1] 24 ?_; intro gb573 hg w6 hbox hb; have BK573 := Aside0.mk (hbox); have GE573 := ge1 hg (belA HB.out); replace HB := bst HB hb; clear hb hbox hg; obtain ⟨hcz7_0, hcz7_1, hfz7_0, hfz7_1⟩ := blk2 BK573) | ((with_reducible refine gate_callee (f := 35) rfl ?_); refine goesL_ (some 15) rfl rfl Try.func35 (by kernel_rfl) rfl #[.agg #[.slice A0_0 l0_0.length c0_0, .int .i64 a0_1], .int .i64 a1, .slice A2 l2.length c2] rfl argA ?_; (with_reducible refine (rickyardref15_Check.calls k _ _ l0_0 a0_1 a1 _ _ l2 t574 _ ?side1 ?side2 ?side3 ?side4 A4.out).mono ?_); (case side1 => exact cb1 HR0_0 HB); (case side2 => exact HC0_0.out); (case side3 => exact cb1 HR2 HB); (case side4 => exact HC2.out); rintro e w8 ⟨rfl, hb⟩; refine ⟨_, rfl, ?_⟩; replace BK573 := blkB BK573 hb; replace HB := bs2 HB GE573 hb; (try clear hb)))
 go_loopg [9] k (fun kq v9 w' => ∃ (x9_1 : Int), v9 = .int .i64 x9_1 ∧ Aside0 (rickyardref15_Stale.l0 kq a1 l2 t574 x9_1 l0_0 a0_1 = some (r1, r2)) ∧ Aside0 (kq ≤ k) ∧ Aside0 (w'.heap[gb573]? = some (.cells #[(.slice A0_0 l0_0.length c0_0), .int .i64 a0_1] 24 (0, 0))) ∧ Aside0 (Below w.heap.size w w'))
 case atStart => exact ⟨(0), relA, H', ⟨Nat.le_refl _⟩, ⟨blkA BK573.out⟩, ⟨belB HB.out GE573.out⟩⟩
 case round =>
  clear H'
  try clear c2
  try clear p2
  try clear c3
  try clear c5
  try clear c5b0
  try clear c5b1
  try clear hcz7_0 hcz7_1 hfz7_0 hfz7_1
  obtain ⟨x9_1, rfl, HA, HK1, BK573, HB⟩ := hrel
  cases gk with
  | zero => exact absurd HA.out (by simp [rickyardref15_Stale.l0])
  | succ k1 =>
   have H := HA.out
   clear HA
   simp only [rickyardref15_Stale.l0] at H
   by_cases c9 : x9_1 < (l2.length : Int)
   ·rw [if_pos c9] at H
    have c9b0 := decide_eq_true c9
    clear c9
    by_cases c10 : 0 ≤ x9_1
    ·rw [if_pos c10] at H
     have c10b0 := decide_eq_true c10
     clear c10
     replace H := bnA H
     obtain ⟨⟨t576, t579⟩, A11, H⟩ := H
     replace H : (if t579 = true then (if (strOfNums t576).toList = (strOfNums ((rd_T51 l2 x9_1).f0)).toList then (rickyardref15_Stale.l0 k1 a1 l2 t574 (wrap64 (x9_1 + 1)) l0_0 a0_1) else (some (true, t574))) else (some (true, t574))) = some (r1, r2) := H
     by_cases c12 : t579 = true
     ·subst c12
      have H1 : (if (strOfNums t576).toList = (strOfNums ((rd_T51 l2 x9_1).f0)).toList then (rickyardref15_Stale.l0 k1 a1 l2 t574 (wrap64 (x9_1 + 1)) l0_0 a0_1) else (some (true, t574))) = some (r1, r2) := by rw [if_pos rfl] at H; exact H
      clear H
      have H := H1
      clear H1
      by_cases c13 : (strOfNums t576).toList = (strOfNums ((rd_T51 l2 x9_1).f0)).toList
      ·rw [if_pos c13] at H
       have c13b0 := beq_iff_eq.mpr c13
       have c13b1 := bne_eq_false_iff_eq.mpr c13
       clear c13
       have H' := Aside0.mk H
       clear H
       try go_wp2
       replace BK573 := Aside0.mk (blk_drew BK573.out)
       replace HB := Aside0.mk (below_drew1 HB.out)
       have p575 : 0 ≤ (x9_1 : Int) := of_decide_eq_true asmA
       have q575 : x9_1 < (l2.length : Int) := of_decide_eq_true asmA
       obtain ⟨ad575, A575_0, c575_0, e575, hx575_0, hx575_1, hx575_2, hx575_3, hx575_4, hx575_5, hx575_6, hl575_0, hi575_0⟩ := at_T51 HR2.out x9_1 p575 q575
       have hw575_6 := hx575_6
       have hw575_5 := hx575_5
       have hw575_4 := hx575_4
       have hw575_3 := hx575_3
       have hw575_2 := hx575_2
       have hw575_1 := hx575_1
       have hw575_0 := hx575_0
       cases e575
       replace hx575_0 := cbx HB hx575_0
       replace hx575_1 := cbx HB hx575_1
       replace hx575_2 := cbx HB hx575_2
       replace hx575_3 := cbx HB hx575_3
       replace hx575_4 := cbx HB hx575_4
       replace hx575_5 := cbx HB hx575_5
       replace hx575_6 := cbx HB hx575_6
       have HR575_0 := Aside0.mk hi575_0
       have HC575_0 := Aside0.mk hl575_0
       clear hi575_0 hl575_0
       replace p575 := eq_true p575
       replace q575 := eq_true q575
       refine start_ (n := 13) (S := fun w' => w'.cell? ⟨gb573, 0, none⟩ = some (.slice A0_0 l0_0.length c0_0) ∧ w'.cell? ⟨gb573, 1, none⟩ = some (.int .i64 a0_1) ∧ w'.cell? (ad575.add ((x9_1).toNat * 7)) = some (.slice A575_0 ((rd_T51 l2 x9_1).f0).length c575_0) ∧ w'.cell? ⟨(ad575.add ((x9_1).toNat * 7)).block, (ad575.add ((x9_1).toNat * 7)).off + 1, none⟩ = some (.int .u64 ((rd_T51 l2 x9_1).f1.f0)) ∧ w'.cell? ⟨(ad575.add ((x9_1).toNat * 7)).block, (ad575.add ((x9_1).toNat * 7)).off + 2, none⟩ = some (.bool ((rd_T51 l2 x9_1).f1.f1)) ∧ w'.cell? ⟨(ad575.add ((x9_1).toNat * 7)).block, (ad575.add ((x9_1).toNat * 7)).off + 3, none⟩ = some (.int .i64 ((rd_T51 l2 x9_1).f1.f2.f0)) ∧ w'.cell? ⟨(ad575.add ((x9_1).toNat * 7)).block, (ad575.add ((x9_1).toNat * 7)).off + 4, none⟩ = some (.int .u64 ((rd_T51 l2 x9_1).f1.f2.f1)) ∧ w'.cell? ⟨(ad575.add ((x9_1).toNat * 7)).block, (ad575.add ((x9_1).toNat * 7)).off + 5, none⟩ = some (.int .i64 ((rd_T51 l2 x9_1).f1.f3)) ∧ w'.cell? ⟨(ad575.add ((x9_1).toNat * 7)).block, (ad575.add ((x9_1).toNat * 7)).off + 6, none⟩ = some (.int .i64 ((rd_T51 l2 x9_1).f1.f4))) (ds := []) #[false, false, false, false, false, false, false, false, false, false, false, false, false] (by kernel_rfl) rfl rfl ⟨(blk_cell BK573.out 0).trans rfl, (blk_cell BK573.out 1).trans rfl, ((HB.out.cell (World.block_lt_of_cell? w _ hw575_0)).trans hw575_0), ((HB.out.cell (World.block_lt_of_cell? w _ hw575_1)).trans hw575_1), ((HB.out.cell (World.block_lt_of_cell? w _ hw575_2)).trans hw575_2), ((HB.out.cell (World.block_lt_of_cell? w _ hw575_3)).trans hw575_3), ((HB.out.cell (World.block_lt_of_cell? w _ hw575_4)).trans hw575_4), ((HB.out.cell (World.block_lt_of_cell? w _ hw575_5)).trans hw575_5), ((HB.out.cell (World.block_lt_of_cell? w _ hw575_6)).trans hw575_6)⟩ (fun hHeld => ?_); refine with_tabW rickyardref15_Stale.tab7 rickyardref15_Stale.bits7 (fun HT_ HW_ => ?_)
       generalize wr.drew = w14 at BK573 HB HR575_0 hx575_0 hx575_1 hx575_2 hx575_3 hx575_4 hx575_5 hx575_6 hHeld ⊢
       refine pureD 1 27 HT_ ?_
       refine pureD 2 28 HT_ ?_
       refine pureD 3 29 HT_ ?_
       refine pureD 4 30 HT_ ?_
       refine pureD 5 31 HT_ ?_
       refine takeD 0 26 HT_ HW_ hHeld ?_
       refine takeD 6 32 HT_ HW_ hHeld ?_
       refine one_ (i := 7) (N := some 33) #[true, true, true, true, true, true, true, true, false, false, false, false, false] rfl rfl (one_of HT_.out (by kernel_rfl)) (by decide) (fun K hK => ?_)
       refine goes_ Try.func47 (by kernel_rfl) rfl #[.agg #[.slice A0_0 l0_0.length c0_0, .int .i64 a0_1], .int .i64 a1, .slice A575_0 ((rd_T51 l2 x9_1).f0).length c575_0] (by rfl) rfl rfl argA ?_
       with_reducible refine (rickyardref15_Key.calls k1 _ _ l0_0 a0_1 a1 _ _ ((rd_T51 l2 x9_1).f0) t576 true _ ?side1 ?side2 ?side3 ?side4 A11.out).mono ?_
       (case side1 => exact cb1 HR0_0 HB)
       (case side2 => exact HC0_0.out)
       (case side3 => exact cb1 HR575_0 HB)
       (case side4 => exact HC575_0.out)
       rintro e w15 ⟨v577, rfl, ho0, hb⟩
       refine ⟨_, rfl, ?_⟩
       have HO578 := Aside0.mk (Kd.R_lower ho0 (below_size (belB HB.out GE573.out)))
       replace BK573 := blkB BK573 hb
       replace HB := bs2 HB GE573 hb
       (try clear hb)
       (try clear ho0)
       refine hK.out _ _ ⟨(blk_cell BK573.out 0).trans rfl, (blk_cell BK573.out 1).trans rfl, ((HB.out.cell (World.block_lt_of_cell? w _ hw575_0)).trans hw575_0), ((HB.out.cell (World.block_lt_of_cell? w _ hw575_1)).trans hw575_1), ((HB.out.cell (World.block_lt_of_cell? w _ hw575_2)).trans hw575_2), ((HB.out.cell (World.block_lt_of_cell? w _ hw575_3)).trans hw575_3), ((HB.out.cell (World.block_lt_of_cell? w _ hw575_4)).trans hw575_4), ((HB.out.cell (World.block_lt_of_cell? w _ hw575_5)).trans hw575_5), ((HB.out.cell (World.block_lt_of_cell? w _ hw575_6)).trans hw575_6)⟩ (fun hHeld => ?_)
       clear hK K
       refine norm_ (a' := ?_) ?_ ?_
       rotate_left
       ·show Act.put _ (some 33) _ = _
        simp only [Act.put, List.setIfInBounds_toArray, List.set_cons_zero, List.set_cons_succ, i64_w, i32_w]
        rfl
       refine pureD 8 25 HT_ ?_
       refine pureD 9 34 HT_ ?_
       refine pureD 10 35 HT_ ?_
       refine pureD 11 10 HT_ ?_
       refine pureD 12 11 HT_ ?_
       refine done_ (done_of HT_.out (by kernel_rfl)) ?_
       try go_wp2
       have p580 : 0 ≤ (x9_1 : Int) := of_decide_eq_true asmA
       have q580 : x9_1 < (l2.length : Int) := of_decide_eq_true asmA
       obtain ⟨ad580, A580_0, c580_0, e580, hx580_0, hx580_1, hx580_2, hx580_3, hx580_4, hx580_5, hx580_6, hl580_0, hi580_0⟩ := at_T51 HR2.out x9_1 p580 q580
       have hw580_6 := hx580_6
       have hw580_5 := hx580_5
       have hw580_4 := hx580_4
       have hw580_3 := hx580_3
       have hw580_2 := hx580_2
       have hw580_1 := hx580_1
       have hw580_0 := hx580_0
       obtain rfl : ad575 = ad580 := (by injection e580)
       replace hx580_0 := cbx HB hx580_0
       replace hx580_1 := cbx HB hx580_1
       replace hx580_2 := cbx HB hx580_2
       replace hx580_3 := cbx HB hx580_3
       replace hx580_4 := cbx HB hx580_4
       replace hx580_5 := cbx HB hx580_5
       replace hx580_6 := cbx HB hx580_6
       have HR580_0 := Aside0.mk hi580_0
       have HC580_0 := Aside0.mk hl580_0
       clear hi580_0 hl580_0
       replace p580 := eq_true p580
       replace q580 := eq_true q580
       obtain ⟨Aq_, cq_, eq_⟩ := Kd.R_slice HO578.out
       subst eq_
       have hcv17 := fun (n_ : Nat) => own_string (P := Try.prog) Try.underlying49 Try.underlying5 Try.underlying9 (Kd.own_of_R (Kd.R_drewN HO578.out n_))
       have hcv18 := Kd.C_string (P := Try.prog) (A := A580_0) (c := c580_0) Try.underlying49 Try.underlying5 Try.underlying9 (Kd.C_below HR580_0.out HB.out)
       have hcv18b := Kd.C_string (P := Try.prog) (A := A575_0) (c := c575_0) Try.underlying49 Try.underlying5 Try.underlying9 (Kd.C_below HR575_0.out HB.out)
       have hcv19 := fun (n_ : Nat) => Kd.C_string (P := Try.prog) (A := A580_0) (c := c580_0) Try.underlying49 Try.underlying5 Try.underlying9 (Kd.C_drewN (Kd.C_below HR580_0.out HB.out) n_)
       have hcv19b := fun (n_ : Nat) => Kd.C_string (P := Try.prog) (A := A575_0) (c := c575_0) Try.underlying49 Try.underlying5 Try.underlying9 (Kd.C_drewN (Kd.C_below HR575_0.out HB.out) n_)
       go_quiet (fail)
       try go_wp2
       go_roundg k1
       case measure => have := HK1.out; omega
       case rel => exact ⟨(wrap64 (x9_1 + 1)), relA, H', ⟨by have := HK1.out; omega⟩, ⟨blkA BK573.out⟩, ⟨belB HB.out GE573.out⟩⟩
      ·rw [if_neg c13] at H
       have c13b0 := beq_eq_false_iff_ne.mpr c13
       have c13b1 := bne_iff_ne.mpr c13
       simp only [Option.some.injEq, Prod.mk.injEq] at H
       obtain ⟨rfl, rfl⟩ := H
       try go_wp2
       replace BK573 := Aside0.mk (blk_drew BK573.out)
       replace HB := Aside0.mk (below_drew1 HB.out)
       have p575 : 0 ≤ (x9_1 : Int) := of_decide_eq_true asmA
       have q575 : x9_1 < (l2.length : Int) := of_decide_eq_true asmA
       obtain ⟨ad575, A575_0, c575_0, e575, hx575_0, hx575_1, hx575_2, hx575_3, hx575_4, hx575_5, hx575_6, hl575_0, hi575_0⟩ := at_T51 HR2.out x9_1 p575 q575
       have hw575_6 := hx575_6
       have hw575_5 := hx575_5
       have hw575_4 := hx575_4
       have hw575_3 := hx575_3
       have hw575_2 := hx575_2
       have hw575_1 := hx575_1
       have hw575_0 := hx575_0
       cases e575
       replace hx575_0 := cbx HB hx575_0
       replace hx575_1 := cbx HB hx575_1
       replace hx575_2 := cbx HB hx575_2
       replace hx575_3 := cbx HB hx575_3
       replace hx575_4 := cbx HB hx575_4
       replace hx575_5 := cbx HB hx575_5
       replace hx575_6 := cbx HB hx575_6
       have HR575_0 := Aside0.mk hi575_0
       have HC575_0 := Aside0.mk hl575_0
       clear hi575_0 hl575_0
       replace p575 := eq_true p575
       replace q575 := eq_true q575
       refine start_ (n := 13) (S := fun w' => w'.cell? ⟨gb573, 0, none⟩ = some (.slice A0_0 l0_0.length c0_0) ∧ w'.cell? ⟨gb573, 1, none⟩ = some (.int .i64 a0_1) ∧ w'.cell? (ad575.add ((x9_1).toNat * 7)) = some (.slice A575_0 ((rd_T51 l2 x9_1).f0).length c575_0) ∧ w'.cell? ⟨(ad575.add ((x9_1).toNat * 7)).block, (ad575.add ((x9_1).toNat * 7)).off + 1, none⟩ = some (.int .u64 ((rd_T51 l2 x9_1).f1.f0)) ∧ w'.cell? ⟨(ad575.add ((x9_1).toNat * 7)).block, (ad575.add ((x9_1).toNat * 7)).off + 2, none⟩ = some (.bool ((rd_T51 l2 x9_1).f1.f1)) ∧ w'.cell? ⟨(ad575.add ((x9_1).toNat * 7)).block, (ad575.add ((x9_1).toNat * 7)).off + 3, none⟩ = some (.int .i64 ((rd_T51 l2 x9_1).f1.f2.f0)) ∧ w'.cell? ⟨(ad575.add ((x9_1).toNat * 7)).block, (ad575.add ((x9_1).toNat * 7)).off + 4, none⟩ = some (.int .u64 ((rd_T51 l2 x9_1).f1.f2.f1)) ∧ w'.cell? ⟨(ad575.add ((x9_1).toNat * 7)).block, (ad575.add ((x9_1).toNat * 7)).off + 5, none⟩ = some (.int .i64 ((rd_T51 l2 x9_1).f1.f3)) ∧ w'.cell? ⟨(ad575.add ((x9_1).toNat * 7)).block, (ad575.add ((x9_1).toNat * 7)).off + 6, none⟩ = some (.int .i64 ((rd_T51 l2 x9_1).f1.f4))) (ds := []) #[false, false, false, false, false, false, false, false, false, false, false, false, false] (by kernel_rfl) rfl rfl ⟨(blk_cell BK573.out 0).trans rfl, (blk_cell BK573.out 1).trans rfl, ((HB.out.cell (World.block_lt_of_cell? w _ hw575_0)).trans hw575_0), ((HB.out.cell (World.block_lt_of_cell? w _ hw575_1)).trans hw575_1), ((HB.out.cell (World.block_lt_of_cell? w _ hw575_2)).trans hw575_2), ((HB.out.cell (World.block_lt_of_cell? w _ hw575_3)).trans hw575_3), ((HB.out.cell (World.block_lt_of_cell? w _ hw575_4)).trans hw575_4), ((HB.out.cell (World.block_lt_of_cell? w _ hw575_5)).trans hw575_5), ((HB.out.cell (World.block_lt_of_cell? w _ hw575_6)).trans hw575_6)⟩ (fun hHeld => ?_); refine with_tabW rickyardref15_Stale.tab7 rickyardref15_Stale.bits7 (fun HT_ HW_ => ?_)
       generalize wr.drew = w21 at BK573 HB HR575_0 hx575_0 hx575_1 hx575_2 hx575_3 hx575_4 hx575_5 hx575_6 hHeld ⊢
       refine pureD 1 27 HT_ ?_
       refine pureD 2 28 HT_ ?_
       refine pureD 3 29 HT_ ?_
       refine pureD 4 30 HT_ ?_
       refine pureD 5 31 HT_ ?_
       refine takeD 0 26 HT_ HW_ hHeld ?_
       refine takeD 6 32 HT_ HW_ hHeld ?_
       refine one_ (i := 7) (N := some 33) #[true, true, true, true, true, true, true, true, false, false, false, false, false] rfl rfl (one_of HT_.out (by kernel_rfl)) (by decide) (fun K hK => ?_)
       refine goes_ Try.func47 (by kernel_rfl) rfl #[.agg #[.slice A0_0 l0_0.length c0_0, .int .i64 a0_1], .int .i64 a1, .slice A575_0 ((rd_T51 l2 x9_1).f0).length c575_0] (by rfl) rfl rfl argA ?_
       with_reducible refine (rickyardref15_Key.calls k1 _ _ l0_0 a0_1 a1 _ _ ((rd_T51 l2 x9_1).f0) t576 true _ ?side1 ?side2 ?side3 ?side4 A11.out).mono ?_
       (case side1 => exact cb1 HR0_0 HB)
       (case side2 => exact HC0_0.out)
       (case side3 => exact cb1 HR575_0 HB)
       (case side4 => exact HC575_0.out)
       rintro e w22 ⟨v577, rfl, ho0, hb⟩
       refine ⟨_, rfl, ?_⟩
       have HO578 := Aside0.mk (Kd.R_lower ho0 (below_size (belB HB.out GE573.out)))
       replace BK573 := blkB BK573 hb
       replace HB := bs2 HB GE573 hb
       (try clear hb)
       (try clear ho0)
       refine hK.out _ _ ⟨(blk_cell BK573.out 0).trans rfl, (blk_cell BK573.out 1).trans rfl, ((HB.out.cell (World.block_lt_of_cell? w _ hw575_0)).trans hw575_0), ((HB.out.cell (World.block_lt_of_cell? w _ hw575_1)).trans hw575_1), ((HB.out.cell (World.block_lt_of_cell? w _ hw575_2)).trans hw575_2), ((HB.out.cell (World.block_lt_of_cell? w _ hw575_3)).trans hw575_3), ((HB.out.cell (World.block_lt_of_cell? w _ hw575_4)).trans hw575_4), ((HB.out.cell (World.block_lt_of_cell? w _ hw575_5)).trans hw575_5), ((HB.out.cell (World.block_lt_of_cell? w _ hw575_6)).trans hw575_6)⟩ (fun hHeld => ?_)
       clear hK K
       refine norm_ (a' := ?_) ?_ ?_
       rotate_left
       ·show Act.put _ (some 33) _ = _
        simp only [Act.put, List.setIfInBounds_toArray, List.set_cons_zero, List.set_cons_succ, i64_w, i32_w]
        rfl
       refine pureD 8 25 HT_ ?_
       refine pureD 9 34 HT_ ?_
       refine pureD 10 35 HT_ ?_
       refine pureD 11 10 HT_ ?_
       refine pureD 12 11 HT_ ?_
       refine done_ (done_of HT_.out (by kernel_rfl)) ?_
       try go_wp2
       have p580 : 0 ≤ (x9_1 : Int) := of_decide_eq_true asmA
       have q580 : x9_1 < (l2.length : Int) := of_decide_eq_true asmA
       obtain ⟨ad580, A580_0, c580_0, e580, hx580_0, hx580_1, hx580_2, hx580_3, hx580_4, hx580_5, hx580_6, hl580_0, hi580_0⟩ := at_T51 HR2.out x9_1 p580 q580
       have hw580_6 := hx580_6
       have hw580_5 := hx580_5
       have hw580_4 := hx580_4
       have hw580_3 := hx580_3
       have hw580_2 := hx580_2
       have hw580_1 := hx580_1
       have hw580_0 := hx580_0
       obtain rfl : ad575 = ad580 := (by injection e580)
       replace hx580_0 := cbx HB hx580_0
       replace hx580_1 := cbx HB hx580_1
       replace hx580_2 := cbx HB hx580_2
       replace hx580_3 := cbx HB hx580_3
       replace hx580_4 := cbx HB hx580_4
       replace hx580_5 := cbx HB hx580_5
       replace hx580_6 := cbx HB hx580_6
       have HR580_0 := Aside0.mk hi580_0
       have HC580_0 := Aside0.mk hl580_0
       clear hi580_0 hl580_0
       replace p580 := eq_true p580
       replace q580 := eq_true q580
       obtain ⟨Aq_, cq_, eq_⟩ := Kd.R_slice HO578.out
       subst eq_
       have hcv24 := fun (n_ : Nat) => own_string (P := Try.prog) Try.underlying49 Try.underlying5 Try.underlying9 (Kd.own_of_R (Kd.R_drewN HO578.out n_))
       have hcv25 := Kd.C_string (P := Try.prog) (A := A580_0) (c := c580_0) Try.underlying49 Try.underlying5 Try.underlying9 (Kd.C_below HR580_0.out HB.out)
       have hcv25b := Kd.C_string (P := Try.prog) (A := A575_0) (c := c575_0) Try.underlying49 Try.underlying5 Try.underlying9 (Kd.C_below HR575_0.out HB.out)
       have hcv26 := fun (n_ : Nat) => Kd.C_string (P := Try.prog) (A := A580_0) (c := c580_0) Try.underlying49 Try.underlying5 Try.underlying9 (Kd.C_drewN (Kd.C_below HR580_0.out HB.out) n_)
       have hcv26b := fun (n_ : Nat) => Kd.C_string (P := Try.prog) (A := A575_0) (c := c575_0) Try.underlying49 Try.underlying5 Try.underlying9 (Kd.C_drewN (Kd.C_below HR575_0.out HB.out) n_)
       go_quiet (fail)
       try go_wp2
       go_ret2
       exact ⟨ret1, belB HB.out GE573.out⟩
     ·replace c12 := Bool.eq_false_iff.mpr c12
      subst c12
      have H1 : (some (true, t574)) = some (r1, r2) := by rw [if_neg (show ¬ (false = true) by decide)] at H; exact H
      clear H
      have H := H1
      clear H1
      simp only [Option.some.injEq, Prod.mk.injEq] at H
      obtain ⟨rfl, rfl⟩ := H
      try go_wp2
      replace BK573 := Aside0.mk (blk_drew BK573.out)
      replace HB := Aside0.mk (below_drew1 HB.out)
      have p575 : 0 ≤ (x9_1 : Int) := of_decide_eq_true asmA
      have q575 : x9_1 < (l2.length : Int) := of_decide_eq_true asmA
      obtain ⟨ad575, A575_0, c575_0, e575, hx575_0, hx575_1, hx575_2, hx575_3, hx575_4, hx575_5, hx575_6, hl575_0, hi575_0⟩ := at_T51 HR2.out x9_1 p575 q575
      have hw575_6 := hx575_6
      have hw575_5 := hx575_5
      have hw575_4 := hx575_4
      have hw575_3 := hx575_3
      have hw575_2 := hx575_2
      have hw575_1 := hx575_1
      have hw575_0 := hx575_0
      cases e575
      replace hx575_0 := cbx HB hx575_0
      replace hx575_1 := cbx HB hx575_1
      replace hx575_2 := cbx HB hx575_2
      replace hx575_3 := cbx HB hx575_3
      replace hx575_4 := cbx HB hx575_4
      replace hx575_5 := cbx HB hx575_5
      replace hx575_6 := cbx HB hx575_6
      have HR575_0 := Aside0.mk hi575_0
      have HC575_0 := Aside0.mk hl575_0
      clear hi575_0 hl575_0
      replace p575 := eq_true p575
      replace q575 := eq_true q575
      refine start_ (n := 13) (S := fun w' => w'.cell? ⟨gb573, 0, none⟩ = some (.slice A0_0 l0_0.length c0_0) ∧ w'.cell? ⟨gb573, 1, none⟩ = some (.int .i64 a0_1) ∧ w'.cell? (ad575.add ((x9_1).toNat * 7)) = some (.slice A575_0 ((rd_T51 l2 x9_1).f0).length c575_0) ∧ w'.cell? ⟨(ad575.add ((x9_1).toNat * 7)).block, (ad575.add ((x9_1).toNat * 7)).off + 1, none⟩ = some (.int .u64 ((rd_T51 l2 x9_1).f1.f0)) ∧ w'.cell? ⟨(ad575.add ((x9_1).toNat * 7)).block, (ad575.add ((x9_1).toNat * 7)).off + 2, none⟩ = some (.bool ((rd_T51 l2 x9_1).f1.f1)) ∧ w'.cell? ⟨(ad575.add ((x9_1).toNat * 7)).block, (ad575.add ((x9_1).toNat * 7)).off + 3, none⟩ = some (.int .i64 ((rd_T51 l2 x9_1).f1.f2.f0)) ∧ w'.cell? ⟨(ad575.add ((x9_1).toNat * 7)).block, (ad575.add ((x9_1).toNat * 7)).off + 4, none⟩ = some (.int .u64 ((rd_T51 l2 x9_1).f1.f2.f1)) ∧ w'.cell? ⟨(ad575.add ((x9_1).toNat * 7)).block, (ad575.add ((x9_1).toNat * 7)).off + 5, none⟩ = some (.int .i64 ((rd_T51 l2 x9_1).f1.f3)) ∧ w'.cell? ⟨(ad575.add ((x9_1).toNat * 7)).block, (ad575.add ((x9_1).toNat * 7)).off + 6, none⟩ = some (.int .i64 ((rd_T51 l2 x9_1).f1.f4))) (ds := []) #[false, false, false, false, false, false, false, false, false, false, false, false, false] (by kernel_rfl) rfl rfl ⟨(blk_cell BK573.out 0).trans rfl, (blk_cell BK573.out 1).trans rfl, ((HB.out.cell (World.block_lt_of_cell? w _ hw575_0)).trans hw575_0), ((HB.out.cell (World.block_lt_of_cell? w _ hw575_1)).trans hw575_1), ((HB.out.cell (World.block_lt_of_cell? w _ hw575_2)).trans hw575_2), ((HB.out.cell (World.block_lt_of_cell? w _ hw575_3)).trans hw575_3), ((HB.out.cell (World.block_lt_of_cell? w _ hw575_4)).trans hw575_4), ((HB.out.cell (World.block_lt_of_cell? w _ hw575_5)).trans hw575_5), ((HB.out.cell (World.block_lt_of_cell? w _ hw575_6)).trans hw575_6)⟩ (fun hHeld => ?_); refine with_tabW rickyardref15_Stale.tab7 rickyardref15_Stale.bits7 (fun HT_ HW_ => ?_)
      generalize wr.drew = w28 at BK573 HB HR575_0 hx575_0 hx575_1 hx575_2 hx575_3 hx575_4 hx575_5 hx575_6 hHeld ⊢
      refine pureD 1 27 HT_ ?_
      refine pureD 2 28 HT_ ?_
      refine pureD 3 29 HT_ ?_
      refine pureD 4 30 HT_ ?_
      refine pureD 5 31 HT_ ?_
      refine takeD 0 26 HT_ HW_ hHeld ?_
      refine takeD 6 32 HT_ HW_ hHeld ?_
      refine one_ (i := 7) (N := some 33) #[true, true, true, true, true, true, true, true, false, false, false, false, false] rfl rfl (one_of HT_.out (by kernel_rfl)) (by decide) (fun K hK => ?_)
      refine goes_ Try.func47 (by kernel_rfl) rfl #[.agg #[.slice A0_0 l0_0.length c0_0, .int .i64 a0_1], .int .i64 a1, .slice A575_0 ((rd_T51 l2 x9_1).f0).length c575_0] (by rfl) rfl rfl argA ?_
      with_reducible refine (rickyardref15_Key.calls k1 _ _ l0_0 a0_1 a1 _ _ ((rd_T51 l2 x9_1).f0) t576 false _ ?side1 ?side2 ?side3 ?side4 A11.out).mono ?_
      (case side1 => exact cb1 HR0_0 HB)
      (case side2 => exact HC0_0.out)
      (case side3 => exact cb1 HR575_0 HB)
      (case side4 => exact HC575_0.out)
      rintro e w29 ⟨v577, rfl, ho0, hb⟩
      refine ⟨_, rfl, ?_⟩
      have HO578 := Aside0.mk (Kd.R_lower ho0 (below_size (belB HB.out GE573.out)))
      replace BK573 := blkB BK573 hb
      replace HB := bs2 HB GE573 hb
      (try clear hb)
      (try clear ho0)
      refine hK.out _ _ ⟨(blk_cell BK573.out 0).trans rfl, (blk_cell BK573.out 1).trans rfl, ((HB.out.cell (World.block_lt_of_cell? w _ hw575_0)).trans hw575_0), ((HB.out.cell (World.block_lt_of_cell? w _ hw575_1)).trans hw575_1), ((HB.out.cell (World.block_lt_of_cell? w _ hw575_2)).trans hw575_2), ((HB.out.cell (World.block_lt_of_cell? w _ hw575_3)).trans hw575_3), ((HB.out.cell (World.block_lt_of_cell? w _ hw575_4)).trans hw575_4), ((HB.out.cell (World.block_lt_of_cell? w _ hw575_5)).trans hw575_5), ((HB.out.cell (World.block_lt_of_cell? w _ hw575_6)).trans hw575_6)⟩ (fun hHeld => ?_)
      clear hK K
      refine norm_ (a' := ?_) ?_ ?_
      rotate_left
      ·show Act.put _ (some 33) _ = _
       simp only [Act.put, List.setIfInBounds_toArray, List.set_cons_zero, List.set_cons_succ, i64_w, i32_w]
       rfl
      refine pureD 8 25 HT_ ?_
      refine pureD 9 34 HT_ ?_
      refine pureD 10 35 HT_ ?_
      refine pureD 11 10 HT_ ?_
      refine pureD 12 11 HT_ ?_
      refine done_ (done_of HT_.out (by kernel_rfl)) ?_
      try go_wp2
      replace HO578 := Aside0.mk (Kd.R_drew HO578.out)
      replace BK573 := Aside0.mk (blk_drew BK573.out)
      replace HB := Aside0.mk (below_drew1 HB.out)
      refine start_ (n := 13) (S := fun w' => True) (ds := []) #[false, false, false, false, false, false, false, false, false, false, false, false, false] (by kernel_rfl) rfl rfl trivial (fun hHeld => ?_); refine with_tabW rickyardref15_Stale.tab8 rickyardref15_Stale.bits8 (fun HT_ HW_ => ?_)
      generalize w29.drew = w30 at HO578 BK573 HB hHeld ⊢
      refine pureD 0 36 HT_ ?_
      refine pureD 1 37 HT_ ?_
      refine pureD 2 38 HT_ ?_
      refine pureU 3 39 HT_ ?_
      refine pureU 4 40 HT_ ?_
      refine pureU 5 41 HT_ ?_
      refine pureU 6 42 HT_ ?_
      refine pureU 7 43 HT_ ?_
      refine pureU 8 44 HT_ ?_
      refine pureU 9 45 HT_ ?_
      refine pureU 10 46 HT_ ?_
      refine pureU 11 47 HT_ ?_
      refine pureD 12 48 HT_ ?_
      refine done_ (done_of HT_.out (by kernel_rfl)) ?_
      try go_wp2
      go_ret2
      exact ⟨ret1, belB HB.out GE573.out⟩
    ·rw [if_neg c10] at H
     exact absurd H (by simp)
   ·rw [if_neg c9] at H
    have c9b0 := decide_eq_false c9
    clear c9
    simp only [Option.some.injEq, Prod.mk.injEq] at H
    obtain ⟨rfl, rfl⟩ := H
    go_wp2
    go_ret2
    exact ⟨ret1, belB HB.out GE573.out⟩
end Go.Proofs.Ytjemmmemenljbaa.PFold
end
section
namespace Go.Proofs.Ytjemmmemenljbaa.PFold
open Go.RowKit Go.Proofs.YtjemmmemenljbaaW.PrintWords Go.Proofs.YtjemmmemenljbaaW.PrintLast Go.Proofs.YtjemmmemenljbaaW.PrintMore
set_option linter.unusedVariables false
set_option linter.unusedSimpArgs false
set_option maxHeartbeats 8000000
set_option maxRecDepth 100000
theorem dim_long (s : ByteArray) (w : World) : Calls Try.prog 86 #[.string s] w fun e w' => e = .returned (.bool (decide (16 < (s.size : Int)))) ∧ w = w' := by
  go_enter Try.func86, Try.ntmps86
  go_wp2
  go_ret
  exact ⟨rfl, rfl⟩
def lng (s : ByteArray) : Bool := decide (16 < (s.size : Int))
def idxS (l : List ByteArray) : Int := match l.findIdx? lng with | some i => (i : Int) | none => -1
theorem idxS_hit {l : List ByteArray} {j : Nat} (h : j < l.length) (h1 : lng l[j] = true) (h2 : ∀ i, ∀ hi : i < j, lng (l[i]'(by omega)) = false) : idxS l = j := by
  unfold idxS
  have : l.findIdx? lng = some j := by
    rw [List.findIdx?_eq_some_iff_getElem]
    exact ⟨h, h1, fun i hi => by simpa using h2 i hi⟩
  rw [this]
theorem idxS_miss {l : List ByteArray} (h2 : ∀ i, ∀ hi : i < l.length, lng l[i] = false) : idxS l = -1 := by
  unfold idxS
  have : l.findIdx? lng = none := by
    rw [List.findIdx?_eq_none_iff]
    intro x hx
    obtain ⟨i, hi, rfl⟩ := List.mem_iff_getElem.1 hx
    exact h2 i hi
  rw [this]
theorem idxS_any (l : List ByteArray) : decide (idxS l ≥ 0) = l.any lng := by
  unfold idxS
  cases h : l.findIdx? lng with
  | none =>
    rw [List.findIdx?_eq_none_iff] at h
    have : l.any lng = false := by rw [List.any_eq_false]; intro x hx; simp [h x hx]
    rw [this]; rfl
  | some i =>
    rw [List.findIdx?_eq_some_iff_getElem] at h
    obtain ⟨hi, hp, _⟩ := h
    rw [List.any_eq_true.2 ⟨_, List.getElem_mem hi, hp⟩]
    exact decide_eq_true (show ((i : Nat) : Int) ≥ 0 by omega)
def IdxSRel (w : World) (l : List ByteArray) (j : Nat) (wr : World) : Prop := j ≤ l.length ∧ wr = w ∧ ∀ i, i < j → ∀ hi : i < l.length, lng l[i] = false
theorem index_dims (A0 : Option Addr) (c0 : Nat) (l0 : List ByteArray) (w : World) (hr0 : Kd.C Kd.string w A0 l0.length l0) (hl : l0.length ≤ 1000) :
    Calls Try.prog 100 #[.slice A0 l0.length c0, .func (.func 86) #[] #[]] w fun e w' => e = .returned (.int .i64 (idxS l0)) ∧ w = w' := by
  have HC := Lib.hid hr0; clear hr0
  go_enter Try.func100, Try.ntmps100
  go_wp2
  go_loopw [5, 8] (fun _ v wr => ∃ j : Nat, v = .int .i64 j ∧ IdxSRel w l0 j wr) (fun _ v _ => l0.length - (intOf v).toNat)
  case atStart => exact ⟨0, rfl, Nat.zero_le _, rfl, fun i hi => by omega⟩
  case round =>
    obtain ⟨j, rfl, hj, rfl, hno⟩ := hrel
    have HN := Lib.hid hno; clear hno
    by_cases hlt : j < l0.length
    · have e1 : decide ((j : Int) < (l0.length : Int)) = true := decide_eq_true (by omega)
      obtain ⟨ad, ha, hx0⟩ := Kd.at_string HC.out (j : Int) (by omega) (by omega)
      subst ha
      obtain ⟨x, hx⟩ : ∃ x, x = rdOf ByteArray.empty l0 (j : Int) := ⟨_, rfl⟩
      have hxl : Hid (x = l0[j]) := Lib.hid (by
        rw [hx]; unfold rdOf
        rw [show ((j : Int)).toNat = j from by omega, List.getD_eq_getElem?_getD, List.getElem?_eq_getElem hlt]
        rfl)
      rw [← hx] at hx0
      simp only [Int.toNat_natCast] at hx0
      clear hx
      cases hq : lng x with
      | true =>
        have HQ := Lib.hid hq
        unfold lng at hq
        go_wp2_with (go_at_call 86; refine (dim_long x _).mono ?_; rintro e w' ⟨rfl, rfl⟩)
        go_ret
        refine ⟨?_, rfl⟩
        rw [idxS_hit hlt (by rw [← hxl.out]; exact HQ.out) (fun i hi => HN.out i hi (by omega))]
        rfl
      | false =>
        have HQ := Lib.hid hq
        unfold lng at hq
        go_wp2_with (go_at_call 86; refine (dim_long x _).mono ?_; rintro e w' ⟨rfl, rfl⟩)
        go_roundw
        case rel =>
          refine ⟨j + 1, by go_num, hlt, rfl, fun i hi hi' => ?_⟩
          by_cases e : i = j
          · subst e
            rw [← hxl.out]; exact HQ.out
          · exact HN.out i (by omega) hi'
        case measure => simp [intOf]; omega
    · have e1 : decide ((j : Int) < (l0.length : Int)) = false := decide_eq_false (by omega)
      go_wp2
      go_ret
      refine ⟨?_, rfl⟩
      rw [idxS_miss (fun i hi => HN.out i (by omega) hi)]
      rfl
theorem contains_dims (A0 : Option Addr) (c0 : Nat) (l0 : List ByteArray) (w : World) (hr0 : Kd.C Kd.string w A0 l0.length l0) (hl : l0.length ≤ 1000) :
    Calls Try.prog 85 #[.slice A0 l0.length c0, .func (.func 86) #[] #[]] w fun e w' => e = .returned (.bool (l0.any lng)) ∧ w = w' := by
  have HC := Lib.hid hr0; clear hr0
  have hA := Lib.hid (idxS_any l0)
  go_enter Try.func85, Try.ntmps85
  go_wp2_with (go_at_call 100; refine (index_dims A0 c0 l0 w HC.out hl).mono ?_; rintro e w' ⟨rfl, rfl⟩)
  go_ret
  refine ⟨?_, rfl⟩
  rw [← hA.out]
  rfl
def dimsB (l : List ByteArray) : Bool := decide (l.length ≤ 4) && !l.any lng
def key_fits.f (l : List ByteArray) : Option Bool := some (dimsB l)
theorem key_fits.calls (A0 : Option Addr) (c0 : Nat) (l0 : List ByteArray) (r : Bool) (w : World) (hr0 : Kd.C Kd.string w A0 l0.length l0) (_ : l0.length ≤ c0) (h : key_fits.f l0 = some r) :
    Calls Try.prog 61 #[.slice A0 l0.length c0] w fun e w' => e = .returned (.bool r) ∧ Drawn0 w w' := by
  have HC := Lib.hid hr0; clear hr0
  have H : Hid (dimsB l0 = r) := Lib.hid (Option.some.inj h)
  clear h
  by_cases hl : l0.length ≤ 4
  · have e1 : decide ((l0.length : Int) ≤ 4) = true := decide_eq_true (by omega)
    have e2 : decide (l0.length ≤ 4) = true := decide_eq_true hl
    cases hq : l0.any lng with
    | true =>
      have HQ := Lib.hid hq; clear hq
      go_enter Try.func61, Try.ntmps61
      go_wp2_with (go_at_call 85; refine (contains_dims A0 c0 l0 w HC.out (by omega)).mono ?_; rintro e w' ⟨rfl, rfl⟩; rw [HQ.out])
      go_ret
      refine ⟨?_, Drawn0.refl _⟩
      rw [← H.out]; unfold dimsB; rw [HQ.out]; simp
    | false =>
      have HQ := Lib.hid hq; clear hq
      go_enter Try.func61, Try.ntmps61
      go_wp2_with (go_at_call 85; refine (contains_dims A0 c0 l0 w HC.out (by omega)).mono ?_; rintro e w' ⟨rfl, rfl⟩; rw [HQ.out])
      go_ret
      refine ⟨?_, Drawn0.refl _⟩
      rw [← H.out]; unfold dimsB; rw [HQ.out, e2]; rfl
  · have e1 : decide ((l0.length : Int) ≤ 4) = false := decide_eq_false (by omega)
    have e2 : decide (l0.length ≤ 4) = false := decide_eq_false hl
    have H2 : Hid (r = false) := Lib.hid (by rw [← H.out]; unfold dimsB; rw [e2]; rfl)
    go_enter Try.func61, Try.ntmps61
    go_wp2
    go_ret
    exact ⟨by rw [H2.out]; rfl, Drawn0.refl _⟩
def szR (g : List S67) (i : Nat) : Int := (rd_T67 g (i : Int)).f0
def agR0 (g : List S67) (i : Nat) : Int := (rd_T67 g (i : Int)).f1
def stepR (g : List S67) (i : Nat) : Bool := decide (1 ≤ szR g i) && (decide (szR g i ≤ 1099511627776) && (decide (agR0 g i ≤ 1099511627776) && (decide (i = 0) || (decide (szR g (i - 1) < szR g i) && (decide (Int.tmod (szR g i) (szR g (i - 1)) = 0) && decide (agR0 g (i - 1) ≤ agR0 g i))))))
def rightR (g : List S67) (keep : Int) : Bool := decide (1 ≤ g.length) && (decide (g.length ≤ 4) && (decide (agR0 g 0 = 0) && ((List.range g.length).all (stepR g) && (decide (agR0 g (g.length - 1) ≤ keep) && decide (keep ≤ 2199023255552)))))
def grain_Right.f (_ : Nat) (g : List S67) (keep : Int) : Option Bool := some (rightR g keep)
def RightRel (w : World) (g : List S67) (A0 : Option Addr) (c0 : Nat) (keep : Int) (j : Nat) (wr : World) : Prop :=
  Below w.heap.size w wr ∧ wr.heap[w.heap.size]? = some (.cells #[.slice A0 g.length c0, .int .i64 keep] 24 (0, 0)) ∧ ∀ q, q < j → stepR g q = true
theorem grain_Right.calls (k : Nat) (A0_0 : Option Addr) (c0_0 : Nat) (l0_0 : List S67) (a0_1 : Int) (r : Bool) (w : World) (hr0_0 : Kd.C k67 w A0_0 l0_0.length l0_0) (hc0_0 : l0_0.length ≤ c0_0) (h : grain_Right.f k l0_0 a0_1 = some r) :
    Calls Try.prog 52 #[.agg #[.slice A0_0 l0_0.length c0_0, .int .i64 a0_1]] w fun e w' => e = .returned (.bool r) ∧ Below w.heap.size w w' := by
  unfold grain_Right.f at h
  obtain rfl := Option.some.inj h
  have HG := Lib.hid hr0_0; clear hr0_0 h
  by_cases h1 : l0_0.length < 1
  · have e1 : decide ((l0_0.length : Int) < 1) = true := decide_eq_true (by omega)
    have e2 : decide (l0_0.length < 1) = true := decide_eq_true h1
    have hR : rightR l0_0 a0_1 = false := by unfold rightR; rw [decide_eq_false (by omega)]; rfl
    rw [hR]
    go_enter Try.func52, Try.ntmps52
    (go_wp2; repeat (go_step3; try (go_wp2)))
    rw [Exit.noGoto_ret]
    go_ret
    exact ⟨rfl, below_alloc (Below.refl _ _) _⟩
  by_cases h4 : 4 < l0_0.length
  · have e1 : decide ((l0_0.length : Int) < 1) = false := decide_eq_false (by omega)
    have e2 : decide (l0_0.length < 1) = false := decide_eq_false h1
    have e3 : decide (4 < (l0_0.length : Int)) = true := decide_eq_true (by omega)
    have e4 : decide (4 < l0_0.length) = true := decide_eq_true h4
    have hR : rightR l0_0 a0_1 = false := by unfold rightR; rw [decide_eq_true (show 1 ≤ l0_0.length by omega), decide_eq_false (show ¬ l0_0.length ≤ 4 by omega)]; rfl
    rw [hR]
    go_enter Try.func52, Try.ntmps52
    (go_wp2; repeat (go_step3; try (go_wp2)))
    rw [Exit.noGoto_ret]
    go_ret
    exact ⟨rfl, below_alloc (Below.refl _ _) _⟩
  have e1 : decide ((l0_0.length : Int) < 1) = false := decide_eq_false (by omega)
  have e2 : decide (l0_0.length < 1) = false := decide_eq_false h1
  have e3 : decide (4 < (l0_0.length : Int)) = false := decide_eq_false (by omega)
  have e4 : decide (4 < l0_0.length) = false := decide_eq_false h4
  obtain ⟨ad, ha, hx0, hx1⟩ := at_T67 HG.out 0 (by omega) (by omega)
  subst ha
  have hpos : (0 < l0_0.length) = True := eq_true (by omega)
  have hpos2 : ((0 : Int) < (l0_0.length : Int)) = True := eq_true (by omega)
  simp only [Int.toNat_zero, Nat.zero_mul, Addr.add_zero'] at hx0 hx1
  replace hx0 := (Below.cell (below_alloc (Below.refl w.heap.size w) (.cells #[.slice (some ad) l0_0.length c0_0, .int .i64 a0_1] 24)) (World.block_lt_of_cell? w _ hx0)).trans hx0
  replace hx1 := (Below.cell (below_alloc (Below.refl w.heap.size w) (.cells #[.slice (some ad) l0_0.length c0_0, .int .i64 a0_1] 24)) (World.block_lt_of_cell? w _ hx1)).trans hx1
  have hz0 : (rd_T67 l0_0 0).f1 = agR0 l0_0 0 := rfl
  rw [hz0] at hx1
  by_cases h0 : agR0 l0_0 0 = 0
  case neg =>
    have e5 : (agR0 l0_0 0 != 0) = true := bne_iff_ne.mpr h0
    have e6 : (agR0 l0_0 0 == 0) = false := beq_eq_false_iff_ne.mpr h0
    have hR : rightR l0_0 a0_1 = false := by unfold rightR; rw [decide_eq_true (show 1 ≤ l0_0.length by omega), decide_eq_true (show l0_0.length ≤ 4 by omega), decide_eq_false h0]; rfl
    rw [hR]
    go_enter Try.func52, Try.ntmps52
    (go_wp2; repeat (go_step3; try (go_wp2)))
    rw [Exit.noGoto_ret]
    go_ret
    exact ⟨rfl, below_alloc (Below.refl _ _) _⟩
  case pos =>
    have e5 : (agR0 l0_0 0 != 0) = false := bne_eq_false_iff_eq.mpr h0
    have e6 : (agR0 l0_0 0 == 0) = true := beq_iff_eq.mpr h0
    have HX : Hid (w.cell? ad = w.cell? ad) := Lib.hid rfl
    go_enter Try.func52, Try.ntmps52
    (go_wp2; repeat (go_step3; try (go_wp2)))
    go_loopw [4, 26] (fun v4 v wr => ∃ j : Nat, v = .int .i64 j ∧ v4 = .bool true ∧ j ≤ l0_0.length ∧ RightRel w l0_0 (some ad) c0_0 a0_1 j wr) (fun _ v _ => l0_0.length - (intOf v).toNat)
    case atStart => exact ⟨0, rfl, rfl, Nat.zero_le _, below_alloc (Below.refl _ _) _, blk_new _ _, fun q hq => absurd hq (Nat.not_lt_zero _)⟩
    case round =>
      obtain ⟨j, rfl, rfl, hj, hB, hX, hs⟩ := hrel
      have HB := Lib.hid hB; have HXX := Lib.hid hX; have HS := Lib.hid hs; clear hB hX hs
      have hk0 := (blk_cell HXX.out 0).trans (show _ = some (Value.slice (some ad) l0_0.length c0_0) from rfl)
      have hk1 := (blk_cell HXX.out 1).trans (show _ = some (Value.int .i64 a0_1) from rfl)
      clear hx0 hx1 hz0 e5 e6
      by_cases hlt : j < l0_0.length
      · have q1 : decide ((j : Int) < (l0_0.length : Int)) = true := decide_eq_true (by omega)
        have q2 : (0 ≤ (j : Int)) = True := eq_true (by omega)
        have q3 : ((j : Int) < (l0_0.length : Int)) = True := eq_true (by omega)
        obtain ⟨ad2, ha2, hy0, hy1⟩ := at_T67 HG.out (j : Int) (by omega) (by omega)
        obtain rfl : ad = ad2 := by injection ha2
        simp only [Int.toNat_natCast] at hy0 hy1
        replace hy0 := (HB.out.cell (World.block_lt_of_cell? w _ hy0)).trans hy0
        replace hy1 := (HB.out.cell (World.block_lt_of_cell? w _ hy1)).trans hy1
        have HST := Lib.hid (show stepR l0_0 j = stepR l0_0 j from rfl)
        have hF : stepR l0_0 j = false → rightR l0_0 a0_1 = false := fun hh => by
          have ha : (List.range l0_0.length).all (stepR l0_0) = false := List.all_eq_false.2 ⟨j, List.mem_range.2 hlt, by rw [hh]; decide⟩
          unfold rightR
          rw [ha, Bool.false_and, Bool.and_false, Bool.and_false, Bool.and_false]
        have hsj : stepR l0_0 j = (decide (1 ≤ szR l0_0 j) && (decide (szR l0_0 j ≤ 1099511627776) && (decide (agR0 l0_0 j ≤ 1099511627776) && (decide (j = 0) || (decide (szR l0_0 (j - 1) < szR l0_0 j) && (decide (Int.tmod (szR l0_0 j) (szR l0_0 (j - 1)) = 0) && decide (agR0 l0_0 (j - 1) ≤ agR0 l0_0 j))))))) := rfl
        rw [show (rd_T67 l0_0 (j : Int)).f0 = szR l0_0 j from rfl] at hy0
        rw [show (rd_T67 l0_0 (j : Int)).f1 = agR0 l0_0 j from rfl] at hy1
        have HSZ := Lib.hid (below_size HB.out)
        by_cases c1 : 1 ≤ szR l0_0 j
        case neg =>
          have f1 : decide (1 ≤ szR l0_0 j) = false := decide_eq_false c1
          have HF := Lib.hid (hF (by rw [hsj, f1]; rfl))
          clear hsj hF c1
          generalize szR l0_0 j = s at *
          generalize agR0 l0_0 j = a at *
          (go_wp2; repeat (go_step3; try (go_wp2)))
          repeat (go_quiet (fail); try (go_wp2; repeat (go_step3; try (go_wp2))))
          rw [Exit.noGoto_ret]
          go_ret
          exact ⟨by rw [HF.out]; rfl, by repeat (first | (with_reducible first | exact HB.out | apply below_alloc | apply pw_below_drewN | apply below_drew1 | refine below_set ?_ HSZ.out) | exact HB.out)⟩
        have f1 : decide (1 ≤ szR l0_0 j) = true := decide_eq_true c1
        by_cases c2 : szR l0_0 j ≤ 1099511627776
        case neg =>
          have f2 : decide (szR l0_0 j ≤ 1099511627776) = false := decide_eq_false c2
          have HF := Lib.hid (hF (by rw [hsj, f1, f2]; rfl))
          clear hsj hF c1 c2
          generalize szR l0_0 j = s at *
          generalize agR0 l0_0 j = a at *
          (go_wp2; repeat (go_step3; try (go_wp2)))
          repeat (go_quiet (fail); try (go_wp2; repeat (go_step3; try (go_wp2))))
          rw [Exit.noGoto_ret]
          go_ret
          exact ⟨by rw [HF.out]; rfl, by repeat (first | (with_reducible first | exact HB.out | apply below_alloc | apply pw_below_drewN | apply below_drew1 | refine below_set ?_ HSZ.out) | exact HB.out)⟩
        have f2 : decide (szR l0_0 j ≤ 1099511627776) = true := decide_eq_true c2
        by_cases c3 : agR0 l0_0 j ≤ 1099511627776
        case neg =>
          have f3 : decide (agR0 l0_0 j ≤ 1099511627776) = false := decide_eq_false c3
          have HF := Lib.hid (hF (by rw [hsj, f1, f2, f3]; rfl))
          clear hsj hF c1 c2 c3
          generalize szR l0_0 j = s at *
          generalize agR0 l0_0 j = a at *
          (go_wp2; repeat (go_step3; try (go_wp2)))
          repeat (go_quiet (fail); try (go_wp2; repeat (go_step3; try (go_wp2))))
          rw [Exit.noGoto_ret]
          go_ret
          exact ⟨by rw [HF.out]; rfl, by repeat (first | (with_reducible first | exact HB.out | apply below_alloc | apply pw_below_drewN | apply below_drew1 | refine below_set ?_ HSZ.out) | exact HB.out)⟩
        have f3 : decide (agR0 l0_0 j ≤ 1099511627776) = true := decide_eq_true c3
        by_cases hj0 : j = 0
        case pos =>
          have HN := Lib.hid (show stepR l0_0 j = true by rw [hsj, f1, f2, f3, decide_eq_true hj0]; rfl)
          have q4 : decide ((0 : Int) < (j : Int)) = false := decide_eq_false (by omega)
          have q5 : decide (0 < j) = false := decide_eq_false (by omega)
          clear hsj hF c1 c2 c3 hj0
          generalize szR l0_0 j = s at *
          generalize agR0 l0_0 j = a at *
          (go_wp2; repeat (go_step3; try (go_wp2)))
          exact ⟨⟨j + 1, by go_num, rfl, hlt, by repeat (first | (with_reducible first | exact HB.out | apply below_alloc | apply pw_below_drewN | apply below_drew1 | refine below_set ?_ HSZ.out) | exact HB.out), blk_alloc HXX.out _, fun q hq => by
            rcases Nat.lt_or_ge q j with h | h
            · exact HS.out q h
            · obtain rfl : q = j := by omega
              exact HN.out⟩, by simp [intOf]; omega⟩
        have q4 : decide ((0 : Int) < (j : Int)) = true := decide_eq_true (by omega)
        have q5 : decide (0 < j) = true := decide_eq_true (by omega)
        have q6 : IntKind.i64.wrap ((j : Int) - 1) = ((j - 1 : Nat) : Int) := by rw [IntKind.wrap_i64]; omega
        have q7 : (0 ≤ ((j - 1 : Nat) : Int)) = True := eq_true (by omega)
        have q8 : (((j - 1 : Nat) : Int) < (l0_0.length : Int)) = True := eq_true (by omega)
        obtain ⟨ad3, ha3, hv0, hv1⟩ := at_T67 HG.out ((j - 1 : Nat) : Int) (by omega) (by omega)
        obtain rfl : ad = ad3 := by injection ha3
        simp only [Int.toNat_natCast] at hv0 hv1
        replace hv0 := (HB.out.cell (World.block_lt_of_cell? w _ hv0)).trans hv0
        replace hv1 := (HB.out.cell (World.block_lt_of_cell? w _ hv1)).trans hv1
        rw [show (rd_T67 l0_0 ((j - 1 : Nat) : Int)).f0 = szR l0_0 (j - 1) from rfl] at hv0
        rw [show (rd_T67 l0_0 ((j - 1 : Nat) : Int)).f1 = agR0 l0_0 (j - 1) from rfl] at hv1
        have hs1 : ¬ szR l0_0 (j - 1) = 0 := by
          have := HS.out (j - 1) (by omega)
          unfold stepR at this
          rw [Bool.and_eq_true, decide_eq_true_iff] at this
          have := this.1
          omega
        have f5 : (szR l0_0 (j - 1) == 0) = false := beq_eq_false_iff_ne.mpr hs1
        by_cases c4 : szR l0_0 (j - 1) < szR l0_0 j
        case neg =>
          have f6 : decide (szR l0_0 (j - 1) < szR l0_0 j) = false := decide_eq_false c4
          have HF := Lib.hid (hF (by rw [hsj, f1, f2, f3, decide_eq_false hj0, f6]; rfl))
          clear hsj hF c1 c2 c3 c4
          generalize szR l0_0 j = s at *
          generalize agR0 l0_0 j = a at *
          generalize szR l0_0 (j - 1) = s' at *
          generalize agR0 l0_0 (j - 1) = a' at *
          have hA := fun (x : Addr) (u : Value) (h : wr.cell? x = some u) => ((below_alloc (Below.refl wr.heap.size wr) (.cells #[.int .i64 s, .int .i64 a] 67)).cell (World.block_lt_of_cell? wr _ h)).trans h
          have hk0' := hA _ _ hk0; have hk1' := hA _ _ hk1; have hv0' := hA _ _ hv0; have hv1' := hA _ _ hv1
          have hg0 := (blk_cell (blk_new wr (.cells #[.int .i64 s, .int .i64 a] 67)) 0).trans (show _ = some (Value.int .i64 s) from rfl); have hg1 := (blk_cell (blk_new wr (.cells #[.int .i64 s, .int .i64 a] 67)) 1).trans (show _ = some (Value.int .i64 a) from rfl)
          have hn0 := (blk_cell (blk_alloc (blk_new wr (.cells #[.int .i64 s, .int .i64 a] 67)) (.cells #[.int .i64 s', .int .i64 a'] 67)) 0).trans (show _ = some (Value.int .i64 s) from rfl); have hn1 := (blk_cell (blk_alloc (blk_new wr (.cells #[.int .i64 s, .int .i64 a] 67)) (.cells #[.int .i64 s', .int .i64 a'] 67)) 1).trans (show _ = some (Value.int .i64 a) from rfl)
          have hm0 := (blk_cell (blk_new (wr.alloc (.cells #[.int .i64 s, .int .i64 a] 67)) (.cells #[.int .i64 s', .int .i64 a'] 67)) 0).trans (show _ = some (Value.int .i64 s') from rfl); have hm1 := (blk_cell (blk_new (wr.alloc (.cells #[.int .i64 s, .int .i64 a] 67)) (.cells #[.int .i64 s', .int .i64 a'] 67)) 1).trans (show _ = some (Value.int .i64 a') from rfl)
          clear hA
          (go_wp2; repeat (go_step3; try (go_wp2)))
          repeat (go_quiet (fail); try (go_wp2; repeat (go_step3; try (go_wp2))))
          rw [Exit.noGoto_ret]
          go_ret
          exact ⟨by rw [HF.out]; rfl, by repeat (first | (with_reducible first | exact HB.out | apply below_alloc | apply pw_below_drewN | apply below_drew1 | refine below_set ?_ HSZ.out) | exact HB.out)⟩
        have f6 : decide (szR l0_0 (j - 1) < szR l0_0 j) = true := decide_eq_true c4
        by_cases c5 : Int.tmod (szR l0_0 j) (szR l0_0 (j - 1)) = 0
        case neg =>
          have f7 : (Int.tmod (szR l0_0 j) (szR l0_0 (j - 1)) == 0) = false := beq_eq_false_iff_ne.mpr c5
          have HF := Lib.hid (hF (by rw [hsj, f1, f2, f3, decide_eq_false hj0, f6, decide_eq_false c5]; rfl))
          clear hsj hF c1 c2 c3 c4 c5
          generalize szR l0_0 j = s at *
          generalize agR0 l0_0 j = a at *
          generalize szR l0_0 (j - 1) = s' at *
          generalize agR0 l0_0 (j - 1) = a' at *
          have hA := fun (x : Addr) (u : Value) (h : wr.cell? x = some u) => ((below_alloc (Below.refl wr.heap.size wr) (.cells #[.int .i64 s, .int .i64 a] 67)).cell (World.block_lt_of_cell? wr _ h)).trans h
          have hk0' := hA _ _ hk0; have hk1' := hA _ _ hk1; have hv0' := hA _ _ hv0; have hv1' := hA _ _ hv1
          have hg0 := (blk_cell (blk_new wr (.cells #[.int .i64 s, .int .i64 a] 67)) 0).trans (show _ = some (Value.int .i64 s) from rfl); have hg1 := (blk_cell (blk_new wr (.cells #[.int .i64 s, .int .i64 a] 67)) 1).trans (show _ = some (Value.int .i64 a) from rfl)
          have hn0 := (blk_cell (blk_alloc (blk_new wr (.cells #[.int .i64 s, .int .i64 a] 67)) (.cells #[.int .i64 s', .int .i64 a'] 67)) 0).trans (show _ = some (Value.int .i64 s) from rfl); have hn1 := (blk_cell (blk_alloc (blk_new wr (.cells #[.int .i64 s, .int .i64 a] 67)) (.cells #[.int .i64 s', .int .i64 a'] 67)) 1).trans (show _ = some (Value.int .i64 a) from rfl)
          have hm0 := (blk_cell (blk_new (wr.alloc (.cells #[.int .i64 s, .int .i64 a] 67)) (.cells #[.int .i64 s', .int .i64 a'] 67)) 0).trans (show _ = some (Value.int .i64 s') from rfl); have hm1 := (blk_cell (blk_new (wr.alloc (.cells #[.int .i64 s, .int .i64 a] 67)) (.cells #[.int .i64 s', .int .i64 a'] 67)) 1).trans (show _ = some (Value.int .i64 a') from rfl)
          clear hA
          (go_wp2; repeat (go_step3; try (go_wp2)))
          repeat (go_quiet (fail); try (go_wp2; repeat (go_step3; try (go_wp2))))
          rw [Exit.noGoto_ret]
          go_ret
          exact ⟨by rw [HF.out]; rfl, by repeat (first | (with_reducible first | exact HB.out | apply below_alloc | apply pw_below_drewN | apply below_drew1 | refine below_set ?_ HSZ.out) | exact HB.out)⟩
        have f7 : (Int.tmod (szR l0_0 j) (szR l0_0 (j - 1)) == 0) = true := beq_iff_eq.mpr c5
        by_cases c6 : agR0 l0_0 (j - 1) ≤ agR0 l0_0 j
        case neg =>
          have f8 : decide (agR0 l0_0 (j - 1) ≤ agR0 l0_0 j) = false := decide_eq_false c6
          have HF := Lib.hid (hF (by rw [hsj, f1, f2, f3, decide_eq_false hj0, f6, decide_eq_true c5, f8]; rfl))
          clear hsj hF c1 c2 c3 c4 c5 c6
          generalize szR l0_0 j = s at *
          generalize agR0 l0_0 j = a at *
          generalize szR l0_0 (j - 1) = s' at *
          generalize agR0 l0_0 (j - 1) = a' at *
          have hA := fun (x : Addr) (u : Value) (h : wr.cell? x = some u) => ((below_alloc (Below.refl wr.heap.size wr) (.cells #[.int .i64 s, .int .i64 a] 67)).cell (World.block_lt_of_cell? wr _ h)).trans h
          have hk0' := hA _ _ hk0; have hk1' := hA _ _ hk1; have hv0' := hA _ _ hv0; have hv1' := hA _ _ hv1
          have hg0 := (blk_cell (blk_new wr (.cells #[.int .i64 s, .int .i64 a] 67)) 0).trans (show _ = some (Value.int .i64 s) from rfl); have hg1 := (blk_cell (blk_new wr (.cells #[.int .i64 s, .int .i64 a] 67)) 1).trans (show _ = some (Value.int .i64 a) from rfl)
          have hn0 := (blk_cell (blk_alloc (blk_new wr (.cells #[.int .i64 s, .int .i64 a] 67)) (.cells #[.int .i64 s', .int .i64 a'] 67)) 0).trans (show _ = some (Value.int .i64 s) from rfl); have hn1 := (blk_cell (blk_alloc (blk_new wr (.cells #[.int .i64 s, .int .i64 a] 67)) (.cells #[.int .i64 s', .int .i64 a'] 67)) 1).trans (show _ = some (Value.int .i64 a) from rfl)
          have hm0 := (blk_cell (blk_new (wr.alloc (.cells #[.int .i64 s, .int .i64 a] 67)) (.cells #[.int .i64 s', .int .i64 a'] 67)) 0).trans (show _ = some (Value.int .i64 s') from rfl); have hm1 := (blk_cell (blk_new (wr.alloc (.cells #[.int .i64 s, .int .i64 a] 67)) (.cells #[.int .i64 s', .int .i64 a'] 67)) 1).trans (show _ = some (Value.int .i64 a') from rfl)
          clear hA
          (go_wp2; repeat (go_step3; try (go_wp2)))
          repeat (go_quiet (fail); try (go_wp2; repeat (go_step3; try (go_wp2))))
          rw [Exit.noGoto_ret]
          go_ret
          exact ⟨by rw [HF.out]; rfl, by repeat (first | (with_reducible first | exact HB.out | apply below_alloc | apply pw_below_drewN | apply below_drew1 | refine below_set ?_ HSZ.out) | exact HB.out)⟩
        have f8 : decide (agR0 l0_0 (j - 1) ≤ agR0 l0_0 j) = true := decide_eq_true c6
        have HN := Lib.hid (show stepR l0_0 j = true by rw [hsj, f1, f2, f3, decide_eq_false hj0, f6, decide_eq_true c5, f8]; rfl)
        clear hsj hF c1 c2 c3 c4 c5 c6
        generalize szR l0_0 j = s at *
        generalize agR0 l0_0 j = a at *
        generalize szR l0_0 (j - 1) = s' at *
        generalize agR0 l0_0 (j - 1) = a' at *
        have hA := fun (x : Addr) (u : Value) (h : wr.cell? x = some u) => ((below_alloc (Below.refl wr.heap.size wr) (.cells #[.int .i64 s, .int .i64 a] 67)).cell (World.block_lt_of_cell? wr _ h)).trans h
        have hk0' := hA _ _ hk0; have hk1' := hA _ _ hk1; have hv0' := hA _ _ hv0; have hv1' := hA _ _ hv1
        have hg0 := (blk_cell (blk_new wr (.cells #[.int .i64 s, .int .i64 a] 67)) 0).trans (show _ = some (Value.int .i64 s) from rfl); have hg1 := (blk_cell (blk_new wr (.cells #[.int .i64 s, .int .i64 a] 67)) 1).trans (show _ = some (Value.int .i64 a) from rfl)
        have hn0 := (blk_cell (blk_alloc (blk_new wr (.cells #[.int .i64 s, .int .i64 a] 67)) (.cells #[.int .i64 s', .int .i64 a'] 67)) 0).trans (show _ = some (Value.int .i64 s) from rfl); have hn1 := (blk_cell (blk_alloc (blk_new wr (.cells #[.int .i64 s, .int .i64 a] 67)) (.cells #[.int .i64 s', .int .i64 a'] 67)) 1).trans (show _ = some (Value.int .i64 a) from rfl)
        have hm0 := (blk_cell (blk_new (wr.alloc (.cells #[.int .i64 s, .int .i64 a] 67)) (.cells #[.int .i64 s', .int .i64 a'] 67)) 0).trans (show _ = some (Value.int .i64 s') from rfl); have hm1 := (blk_cell (blk_new (wr.alloc (.cells #[.int .i64 s, .int .i64 a] 67)) (.cells #[.int .i64 s', .int .i64 a'] 67)) 1).trans (show _ = some (Value.int .i64 a') from rfl)
        clear hA
        (go_wp2; repeat (go_step3; try (go_wp2)))
        exact ⟨⟨j + 1, by go_num, rfl, hlt, by repeat (first | (with_reducible first | exact HB.out | apply below_alloc | apply pw_below_drewN | apply below_drew1 | refine below_set ?_ HSZ.out) | exact HB.out), blk_alloc (blk_alloc HXX.out _) _, fun q hq => by
          rcases Nat.lt_or_ge q j with h | h
          · exact HS.out q h
          · obtain rfl : q = j := by omega
            exact HN.out⟩, by simp [intOf]; omega⟩
      · obtain rfl : j = l0_0.length := by omega
        have q1 : decide ((l0_0.length : Int) < (l0_0.length : Int)) = false := decide_eq_false (by omega)
        have q6 : IntKind.i64.wrap ((l0_0.length : Int) - 1) = ((l0_0.length - 1 : Nat) : Int) := by
          have := HG.out.2.1
          rw [IntKind.wrap_i64]; omega
        have q7 : (0 ≤ ((l0_0.length - 1 : Nat) : Int)) = True := eq_true (by omega)
        have q8 : (((l0_0.length - 1 : Nat) : Int) < (l0_0.length : Int)) = True := eq_true (by omega)
        obtain ⟨ad3, ha3, hv0, hv1⟩ := at_T67 HG.out ((l0_0.length - 1 : Nat) : Int) (by omega) (by omega)
        obtain rfl : ad = ad3 := by injection ha3
        simp only [Int.toNat_natCast] at hv0 hv1
        replace hv0 := (HB.out.cell (World.block_lt_of_cell? w _ hv0)).trans hv0
        replace hv1 := (HB.out.cell (World.block_lt_of_cell? w _ hv1)).trans hv1
        rw [show (rd_T67 l0_0 ((l0_0.length - 1 : Nat) : Int)).f1 = agR0 l0_0 (l0_0.length - 1) from rfl] at hv1
        have HF : Hid (rightR l0_0 a0_1 = (decide (agR0 l0_0 (l0_0.length - 1) ≤ a0_1) && decide (a0_1 ≤ 2199023255552))) := Lib.hid (by
          unfold rightR
          rw [decide_eq_true (show 1 ≤ l0_0.length by omega), decide_eq_true (show l0_0.length ≤ 4 by omega), decide_eq_true h0, List.all_eq_true.2 (fun q hq => HS.out q (List.mem_range.1 hq))]
          rfl)
        have HSZ := Lib.hid (below_size HB.out)
        clear hv0
        by_cases c1 : agR0 l0_0 (l0_0.length - 1) ≤ a0_1
        case neg =>
          have f1 : decide (agR0 l0_0 (l0_0.length - 1) ≤ a0_1) = false := decide_eq_false c1
          rw [f1, Bool.false_and] at HF
          generalize agR0 l0_0 (l0_0.length - 1) = a at *
          (go_wp2; repeat (go_step3; try (go_wp2)))
          repeat (go_quiet (fail); try (go_wp2; repeat (go_step3; try (go_wp2))))
          rw [Exit.noGoto_ret]
          go_ret
          exact ⟨by rw [HF.out]; rfl, by repeat (first | (with_reducible first | exact HB.out | apply below_alloc | apply pw_below_drewN | apply below_drew1 | refine below_set ?_ HSZ.out) | exact HB.out)⟩
        case pos =>
          have f1 : decide (agR0 l0_0 (l0_0.length - 1) ≤ a0_1) = true := decide_eq_true c1
          rw [f1, Bool.true_and] at HF
          generalize agR0 l0_0 (l0_0.length - 1) = a at *
          (go_wp2; repeat (go_step3; try (go_wp2)))
          repeat (go_quiet (fail); try (go_wp2; repeat (go_step3; try (go_wp2))))
          rw [Exit.noGoto_ret]
          go_ret
          exact ⟨by rw [HF.out]; rfl, by repeat (first | (with_reducible first | exact HB.out | apply below_alloc | apply pw_below_drewN | apply below_drew1 | refine below_set ?_ HSZ.out) | exact HB.out)⟩
end Go.Proofs.Ytjemmmemenljbaa.PFold
end
