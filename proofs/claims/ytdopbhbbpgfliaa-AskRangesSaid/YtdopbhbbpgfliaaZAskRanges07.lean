import Derived.Test.YtdopbhbbpgfliaaZAskRanges06
import Derived.Lib.Hide
import Derived.Outline
import Derived.Shelf.Abstract
section
namespace Go.Proofs.Ytdopbhbbpgfliaa.PAsk
open Go.RowKit Go.Proofs.YtdopbhbbpgfliaaW.PrintWords Go.Proofs.YtdopbhbbpgfliaaW.PrintLast Go.Proofs.YtdopbhbbpgfliaaW.PrintMore
attribute [local go_sem] max2_int min2_int max_two min_two max_three min_three max_four min_four   -- for this text's walks alone
set_option linter.unusedVariables false
set_option linter.unusedSimpArgs false
set_option maxHeartbeats 8000000
set_option maxRecDepth 100000
def rickyardref17_SameAll.l0 : Nat → List (S73) → List (S73) → Int → Option (Bool)
 | 0, _, _, _ => none
 | k + 1, x0, x1, x5 => if x5 < (x0.length : Int) then (if 0 ≤ x5 then (if x5 < (x1.length : Int) then ((rickyardref17_Same.f k ((rd_T73 x0 x5).f0) ((rd_T73 x0 x5).f1) ((rd_T73 x0 x5).f2) ((rd_T73 x0 x5).f3.f0) ((rd_T73 x0 x5).f3.f1) ((rd_T73 x0 x5).f3.f2.f0) ((rd_T73 x0 x5).f3.f2.f1) ((rd_T73 x0 x5).f3.f3) ((rd_T73 x0 x5).f3.f4) ((rd_T73 x1 x5).f0) ((rd_T73 x1 x5).f1) ((rd_T73 x1 x5).f2) ((rd_T73 x1 x5).f3.f0) ((rd_T73 x1 x5).f3.f1) ((rd_T73 x1 x5).f3.f2.f0) ((rd_T73 x1 x5).f3.f2.f1) ((rd_T73 x1 x5).f3.f3) ((rd_T73 x1 x5).f3.f4)).bind fun t544 => (if t544 = true then (rickyardref17_SameAll.l0 k x0 x1 (wrap64 (x5 + 1))) else (some false))) else (none)) else (none)) else (some true)
def rickyardref17_SameAll.f (k : Nat) (l0 : List (S73)) (l1 : List (S73)) : Option (Bool) := if (l0.length : Int) = (l1.length : Int) then (rickyardref17_SameAll.l0 k l0 l1 0) else (some false)
def rickyardref17_SameAll.T6 : Bool × List (List Nat × List Nat) := (true, [([], []), ([], []), ([0, 1], [0, 1]), ([2], [2]), ([], []), ([], []), ([4, 5], [4, 5]), ([6], [6]), ([3, 7], [3, 7]), ([8], [8])])
def rickyardref17_SameAll.B6 : List Nat := [0, 0, 3, 7, 0, 0, 48, 112, 255, 511]
theorem rickyardref17_SameAll.tab6 : rtab .any (opsOf Try.f12 6) = rickyardref17_SameAll.T6 := by kernel_rfl
theorem rickyardref17_SameAll.bits6 : waitsOk rickyardref17_SameAll.T6.2 rickyardref17_SameAll.B6 = true := by kernel_rfl
theorem rickyardref17_SameAll.calls (k : Nat) (A0 : Option Addr) (c0 : Nat) (l0 : List (S73)) (A1 : Option Addr) (c1 : Nat) (l1 : List (S73)) (r : Bool) (w : World) (hr0 : Kd.C k73 w A0 l0.length l0) (hc0 : l0.length ≤ c0) (hr1 : Kd.C k73 w A1 l1.length l1) (hc1 : l1.length ≤ c1) (h : rickyardref17_SameAll.f k l0 l1 = some r) :
  Calls Try.prog 12 #[.slice A0 l0.length c0, .slice A1 l1.length c1] w fun e w' => e = .returned (.bool r) ∧ Below w.heap.size w w' := by
 have hu73 := Try.underlying73
 have HR0 := Aside0.mk hr0
 have HC0 := Aside0.mk hc0
 clear hr0 hc0
 have HR1 := Aside0.mk hr1
 have HC1 := Aside0.mk hc1
 clear hr1 hc1
 have HB := Aside0.mk (Below.refl w.heap.size w)
 have H : (if (l0.length : Int) = (l1.length : Int) then (rickyardref17_SameAll.l0 k l0 l1 0) else (some false)) = some r := h
 clear h
 by_cases c3 : (l0.length : Int) = (l1.length : Int)
 rotate_left
 ·rw [if_neg c3] at H
  have c3b0 := beq_eq_false_iff_ne.mpr c3
  have c3b1 := bne_iff_ne.mpr c3
  have c3b2 : (l0.length == l1.length) = false := by first | simpa using c3 | (simp at c3 ⊢; omega)
  obtain rfl := Option.some.inj H
  go_enter Try.func12, Try.ntmps12
  go_wp2
  go_ret
  exact ⟨ret1, belA HB.out⟩
 rw [if_pos c3] at H
 have c3b0 := beq_iff_eq.mpr c3
 have c3b1 := bne_eq_false_iff_eq.mpr c3
 have c3b2 : (l0.length == l1.length) = true := by first | simpa using c3 | (simp at c3 ⊢; omega)
 clear c3
 have H' := Aside0.mk H
 clear H
 go_enter Try.func12, Try.ntmps12
 go_wp2
 go_loopg [5] k (fun kq v5 w' => ∃ (x5_1 : Int), v5 = .int .i64 x5_1 ∧ Aside0 (rickyardref17_SameAll.l0 kq l0 l1 x5_1 = some r) ∧ Aside0 (kq ≤ k) ∧ Aside0 (Below w.heap.size w w'))
 case atStart => exact ⟨(0), relA, H', ⟨Nat.le_refl _⟩, ⟨belA HB.out⟩⟩
 case round =>
  clear H'
  try clear c1
  try clear p2
  try clear c3
  try clear c3b0
  try clear c3b1
  try clear c3b2
  obtain ⟨x5_1, rfl, HA, HK1, HB⟩ := hrel
  cases gk with
  | zero => exact absurd HA.out (by simp [rickyardref17_SameAll.l0])
  | succ k1 =>
   have H := HA.out
   clear HA
   simp only [rickyardref17_SameAll.l0] at H
   by_cases c4 : x5_1 < (l0.length : Int)
   ·rw [if_pos c4] at H
    have c4b0 := decide_eq_true c4
    clear c4
    by_cases c5 : 0 ≤ x5_1
    ·rw [if_pos c5] at H
     have c5b0 := decide_eq_true c5
     clear c5
     by_cases c6 : x5_1 < (l1.length : Int)
     ·rw [if_pos c6] at H
      have c6b0 := decide_eq_true c6
      clear c6
      replace H := bnA H
      obtain ⟨t544, A7, H⟩ := H
      by_cases c8 : t544 = true
      ·subst c8
       have H1 : (rickyardref17_SameAll.l0 k1 l0 l1 (wrap64 (x5_1 + 1))) = some r := by rw [if_pos rfl] at H; exact H
       clear H
       have H := H1
       clear H1
       have H' := Aside0.mk H
       clear H
       try go_wp2
       replace HB := Aside0.mk (below_drew1 HB.out)
       have p542 : 0 ≤ (x5_1 : Int) := of_decide_eq_true asmA
       have q542 : x5_1 < (l0.length : Int) := of_decide_eq_true asmA
       obtain ⟨ad542, A542_0, c542_0, e542, hx542_0, hx542_1, hx542_2, hx542_3, hx542_4, hx542_5, hx542_6, hx542_7, hx542_8, hl542_0, hi542_0⟩ := at_T73 HR0.out x5_1 p542 q542
       have hw542_8 := hx542_8
       have hw542_7 := hx542_7
       have hw542_6 := hx542_6
       have hw542_5 := hx542_5
       have hw542_4 := hx542_4
       have hw542_3 := hx542_3
       have hw542_2 := hx542_2
       have hw542_1 := hx542_1
       have hw542_0 := hx542_0
       cases e542
       replace hx542_0 := cbx HB hx542_0
       replace hx542_1 := cbx HB hx542_1
       replace hx542_2 := cbx HB hx542_2
       replace hx542_3 := cbx HB hx542_3
       replace hx542_4 := cbx HB hx542_4
       replace hx542_5 := cbx HB hx542_5
       replace hx542_6 := cbx HB hx542_6
       replace hx542_7 := cbx HB hx542_7
       replace hx542_8 := cbx HB hx542_8
       have HR542_0 := Aside0.mk hi542_0
       have HC542_0 := Aside0.mk hl542_0
       clear hi542_0 hl542_0
       replace p542 := eq_true p542
       replace q542 := eq_true q542
       have p543 : 0 ≤ (x5_1 : Int) := of_decide_eq_true asmA
       have q543 : x5_1 < (l1.length : Int) := of_decide_eq_true asmA
       obtain ⟨ad543, A543_0, c543_0, e543, hx543_0, hx543_1, hx543_2, hx543_3, hx543_4, hx543_5, hx543_6, hx543_7, hx543_8, hl543_0, hi543_0⟩ := at_T73 HR1.out x5_1 p543 q543
       have hw543_8 := hx543_8
       have hw543_7 := hx543_7
       have hw543_6 := hx543_6
       have hw543_5 := hx543_5
       have hw543_4 := hx543_4
       have hw543_3 := hx543_3
       have hw543_2 := hx543_2
       have hw543_1 := hx543_1
       have hw543_0 := hx543_0
       cases e543
       replace hx543_0 := cbx HB hx543_0
       replace hx543_1 := cbx HB hx543_1
       replace hx543_2 := cbx HB hx543_2
       replace hx543_3 := cbx HB hx543_3
       replace hx543_4 := cbx HB hx543_4
       replace hx543_5 := cbx HB hx543_5
       replace hx543_6 := cbx HB hx543_6
       replace hx543_7 := cbx HB hx543_7
       replace hx543_8 := cbx HB hx543_8
       have HR543_0 := Aside0.mk hi543_0
       have HC543_0 := Aside0.mk hl543_0
       clear hi543_0 hl543_0
       replace p543 := eq_true p543
       replace q543 := eq_true q543
       refine start_ (n := 10) (S := fun w' => w'.cell? (ad542.add ((x5_1).toNat * 9)) = some (.slice A542_0 ((rd_T73 l0 x5_1).f0).length c542_0) ∧ w'.cell? ⟨(ad542.add ((x5_1).toNat * 9)).block, (ad542.add ((x5_1).toNat * 9)).off + 1, none⟩ = some (.int .i64 ((rd_T73 l0 x5_1).f1)) ∧ w'.cell? ⟨(ad542.add ((x5_1).toNat * 9)).block, (ad542.add ((x5_1).toNat * 9)).off + 2, none⟩ = some (.int .i64 ((rd_T73 l0 x5_1).f2)) ∧ w'.cell? ⟨(ad542.add ((x5_1).toNat * 9)).block, (ad542.add ((x5_1).toNat * 9)).off + 3, none⟩ = some (.int .u64 ((rd_T73 l0 x5_1).f3.f0)) ∧ w'.cell? ⟨(ad542.add ((x5_1).toNat * 9)).block, (ad542.add ((x5_1).toNat * 9)).off + 4, none⟩ = some (.bool ((rd_T73 l0 x5_1).f3.f1)) ∧ w'.cell? ⟨(ad542.add ((x5_1).toNat * 9)).block, (ad542.add ((x5_1).toNat * 9)).off + 5, none⟩ = some (.int .i64 ((rd_T73 l0 x5_1).f3.f2.f0)) ∧ w'.cell? ⟨(ad542.add ((x5_1).toNat * 9)).block, (ad542.add ((x5_1).toNat * 9)).off + 6, none⟩ = some (.int .u64 ((rd_T73 l0 x5_1).f3.f2.f1)) ∧ w'.cell? ⟨(ad542.add ((x5_1).toNat * 9)).block, (ad542.add ((x5_1).toNat * 9)).off + 7, none⟩ = some (.int .i64 ((rd_T73 l0 x5_1).f3.f3)) ∧ w'.cell? ⟨(ad542.add ((x5_1).toNat * 9)).block, (ad542.add ((x5_1).toNat * 9)).off + 8, none⟩ = some (.int .i64 ((rd_T73 l0 x5_1).f3.f4)) ∧ w'.cell? (ad543.add ((x5_1).toNat * 9)) = some (.slice A543_0 ((rd_T73 l1 x5_1).f0).length c543_0) ∧ w'.cell? ⟨(ad543.add ((x5_1).toNat * 9)).block, (ad543.add ((x5_1).toNat * 9)).off + 1, none⟩ = some (.int .i64 ((rd_T73 l1 x5_1).f1)) ∧ w'.cell? ⟨(ad543.add ((x5_1).toNat * 9)).block, (ad543.add ((x5_1).toNat * 9)).off + 2, none⟩ = some (.int .i64 ((rd_T73 l1 x5_1).f2)) ∧ w'.cell? ⟨(ad543.add ((x5_1).toNat * 9)).block, (ad543.add ((x5_1).toNat * 9)).off + 3, none⟩ = some (.int .u64 ((rd_T73 l1 x5_1).f3.f0)) ∧ w'.cell? ⟨(ad543.add ((x5_1).toNat * 9)).block, (ad543.add ((x5_1).toNat * 9)).off + 4, none⟩ = some (.bool ((rd_T73 l1 x5_1).f3.f1)) ∧ w'.cell? ⟨(ad543.add ((x5_1).toNat * 9)).block, (ad543.add ((x5_1).toNat * 9)).off + 5, none⟩ = some (.int .i64 ((rd_T73 l1 x5_1).f3.f2.f0)) ∧ w'.cell? ⟨(ad543.add ((x5_1).toNat * 9)).block, (ad543.add ((x5_1).toNat * 9)).off + 6, none⟩ = some (.int .u64 ((rd_T73 l1 x5_1).f3.f2.f1)) ∧ w'.cell? ⟨(ad543.add ((x5_1).toNat * 9)).block, (ad543.add ((x5_1).toNat * 9)).off + 7, none⟩ = some (.int .i64 ((rd_T73 l1 x5_1).f3.f3)) ∧ w'.cell? ⟨(ad543.add ((x5_1).toNat * 9)).block, (ad543.add ((x5_1).toNat * 9)).off + 8, none⟩ = some (.int .i64 ((rd_T73 l1 x5_1).f3.f4))) (ds := []) #[false, false, false, false, false, false, false, false, false, false] (by kernel_rfl) rfl rfl ⟨((HB.out.cell (World.block_lt_of_cell? w _ hw542_0)).trans hw542_0), ((HB.out.cell (World.block_lt_of_cell? w _ hw542_1)).trans hw542_1), ((HB.out.cell (World.block_lt_of_cell? w _ hw542_2)).trans hw542_2), ((HB.out.cell (World.block_lt_of_cell? w _ hw542_3)).trans hw542_3), ((HB.out.cell (World.block_lt_of_cell? w _ hw542_4)).trans hw542_4), ((HB.out.cell (World.block_lt_of_cell? w _ hw542_5)).trans hw542_5), ((HB.out.cell (World.block_lt_of_cell? w _ hw542_6)).trans hw542_6), ((HB.out.cell (World.block_lt_of_cell? w _ hw542_7)).trans hw542_7), ((HB.out.cell (World.block_lt_of_cell? w _ hw542_8)).trans hw542_8), ((HB.out.cell (World.block_lt_of_cell? w _ hw543_0)).trans hw543_0), ((HB.out.cell (World.block_lt_of_cell? w _ hw543_1)).trans hw543_1), ((HB.out.cell (World.block_lt_of_cell? w _ hw543_2)).trans hw543_2), ((HB.out.cell (World.block_lt_of_cell? w _ hw543_3)).trans hw543_3), ((HB.out.cell (World.block_lt_of_cell? w _ hw543_4)).trans hw543_4), ((HB.out.cell (World.block_lt_of_cell? w _ hw543_5)).trans hw543_5), ((HB.out.cell (World.block_lt_of_cell? w _ hw543_6)).trans hw543_6), ((HB.out.cell (World.block_lt_of_cell? w _ hw543_7)).trans hw543_7), ((HB.out.cell (World.block_lt_of_cell? w _ hw543_8)).trans hw543_8)⟩ (fun hHeld => ?_); refine with_tabW rickyardref17_SameAll.tab6 rickyardref17_SameAll.bits6 (fun HT_ HW_ => ?_)
       generalize wr.drew = w9 at HB HR542_0 HR543_0 hx542_0 hx542_1 hx542_2 hx542_3 hx542_4 hx542_5 hx542_6 hx542_7 hx542_8 hx543_0 hx543_1 hx543_2 hx543_3 hx543_4 hx543_5 hx543_6 hx543_7 hx543_8 hHeld ⊢
       refine pureD 0 17 HT_ ?_
       refine pureD 1 18 HT_ ?_
       refine pureD 2 19 HT_ ?_
       refine pureD 4 21 HT_ ?_
       refine pureD 5 22 HT_ ?_
       refine pureD 6 23 HT_ ?_
       refine takeD 3 20 HT_ HW_ hHeld ?_
       refine takeD 7 24 HT_ HW_ hHeld ?_
       refine one_ (i := 8) (N := some 25) #[true, true, true, true, true, true, true, true, true, false] rfl rfl (one_of HT_.out (by kernel_rfl)) (by decide) (fun K hK => ?_)
       refine goes_ Try.func26 (by kernel_rfl) rfl #[.agg #[.slice A542_0 ((rd_T73 l0 x5_1).f0).length c542_0, .int .i64 ((rd_T73 l0 x5_1).f1), .int .i64 ((rd_T73 l0 x5_1).f2), .int .u64 ((rd_T73 l0 x5_1).f3.f0), .bool ((rd_T73 l0 x5_1).f3.f1), .int .i64 ((rd_T73 l0 x5_1).f3.f2.f0), .int .u64 ((rd_T73 l0 x5_1).f3.f2.f1), .int .i64 ((rd_T73 l0 x5_1).f3.f3), .int .i64 ((rd_T73 l0 x5_1).f3.f4)], .agg #[.slice A543_0 ((rd_T73 l1 x5_1).f0).length c543_0, .int .i64 ((rd_T73 l1 x5_1).f1), .int .i64 ((rd_T73 l1 x5_1).f2), .int .u64 ((rd_T73 l1 x5_1).f3.f0), .bool ((rd_T73 l1 x5_1).f3.f1), .int .i64 ((rd_T73 l1 x5_1).f3.f2.f0), .int .u64 ((rd_T73 l1 x5_1).f3.f2.f1), .int .i64 ((rd_T73 l1 x5_1).f3.f3), .int .i64 ((rd_T73 l1 x5_1).f3.f4)]] (by rfl) rfl rfl argA ?_
       with_reducible refine (rickyardref17_Same.calls k1 _ _ ((rd_T73 l0 x5_1).f0) ((rd_T73 l0 x5_1).f1) ((rd_T73 l0 x5_1).f2) ((rd_T73 l0 x5_1).f3.f0) ((rd_T73 l0 x5_1).f3.f1) ((rd_T73 l0 x5_1).f3.f2.f0) ((rd_T73 l0 x5_1).f3.f2.f1) ((rd_T73 l0 x5_1).f3.f3) ((rd_T73 l0 x5_1).f3.f4) _ _ ((rd_T73 l1 x5_1).f0) ((rd_T73 l1 x5_1).f1) ((rd_T73 l1 x5_1).f2) ((rd_T73 l1 x5_1).f3.f0) ((rd_T73 l1 x5_1).f3.f1) ((rd_T73 l1 x5_1).f3.f2.f0) ((rd_T73 l1 x5_1).f3.f2.f1) ((rd_T73 l1 x5_1).f3.f3) ((rd_T73 l1 x5_1).f3.f4) true _ ?side1 ?side2 ?side3 ?side4 A7.out).mono ?_
       (case side1 => exact cb1 HR542_0 HB)
       (case side2 => exact HC542_0.out)
       (case side3 => exact cb1 HR543_0 HB)
       (case side4 => exact HC543_0.out)
       rintro e w10 ⟨rfl, hb⟩
       refine ⟨_, rfl, ?_⟩
       replace HB := bst HB hb
       (try clear hb)
       refine hK.out _ _ ⟨((HB.out.cell (World.block_lt_of_cell? w _ hw542_0)).trans hw542_0), ((HB.out.cell (World.block_lt_of_cell? w _ hw542_1)).trans hw542_1), ((HB.out.cell (World.block_lt_of_cell? w _ hw542_2)).trans hw542_2), ((HB.out.cell (World.block_lt_of_cell? w _ hw542_3)).trans hw542_3), ((HB.out.cell (World.block_lt_of_cell? w _ hw542_4)).trans hw542_4), ((HB.out.cell (World.block_lt_of_cell? w _ hw542_5)).trans hw542_5), ((HB.out.cell (World.block_lt_of_cell? w _ hw542_6)).trans hw542_6), ((HB.out.cell (World.block_lt_of_cell? w _ hw542_7)).trans hw542_7), ((HB.out.cell (World.block_lt_of_cell? w _ hw542_8)).trans hw542_8), ((HB.out.cell (World.block_lt_of_cell? w _ hw543_0)).trans hw543_0), ((HB.out.cell (World.block_lt_of_cell? w _ hw543_1)).trans hw543_1), ((HB.out.cell (World.block_lt_of_cell? w _ hw543_2)).trans hw543_2), ((HB.out.cell (World.block_lt_of_cell? w _ hw543_3)).trans hw543_3), ((HB.out.cell (World.block_lt_of_cell? w _ hw543_4)).trans hw543_4), ((HB.out.cell (World.block_lt_of_cell? w _ hw543_5)).trans hw543_5), ((HB.out.cell (World.block_lt_of_cell? w _ hw543_6)).trans hw543_6), ((HB.out.cell (World.block_lt_of_cell? w _ hw543_7)).trans hw543_7), ((HB.out.cell (World.block_lt_of_cell? w _ hw543_8)).trans hw543_8)⟩ (fun hHeld => ?_)
       clear hK K
       refine norm_ (a' := ?_) ?_ ?_
       rotate_left
       ·show Act.put _ (some 25) _ = _
        simp only [Act.put, List.setIfInBounds_toArray, List.set_cons_zero, List.set_cons_succ, i64_w, i32_w]
        rfl
       refine pureD 9 26 HT_ ?_
       refine done_ (done_of HT_.out (by kernel_rfl)) ?_
       try go_wp2
       go_roundg k1
       case measure => have := HK1.out; omega
       case rel => exact ⟨(wrap64 (x5_1 + 1)), relA, H', ⟨by have := HK1.out; omega⟩, ⟨belA HB.out⟩⟩
      ·replace c8 := Bool.eq_false_iff.mpr c8
       subst c8
       have H1 : (some false) = some r := by rw [if_neg (show ¬ (false = true) by decide)] at H; exact H
       clear H
       have H := H1
       clear H1
       obtain rfl := Option.some.inj H
       try go_wp2
       replace HB := Aside0.mk (below_drew1 HB.out)
       have p542 : 0 ≤ (x5_1 : Int) := of_decide_eq_true asmA
       have q542 : x5_1 < (l0.length : Int) := of_decide_eq_true asmA
       obtain ⟨ad542, A542_0, c542_0, e542, hx542_0, hx542_1, hx542_2, hx542_3, hx542_4, hx542_5, hx542_6, hx542_7, hx542_8, hl542_0, hi542_0⟩ := at_T73 HR0.out x5_1 p542 q542
       have hw542_8 := hx542_8
       have hw542_7 := hx542_7
       have hw542_6 := hx542_6
       have hw542_5 := hx542_5
       have hw542_4 := hx542_4
       have hw542_3 := hx542_3
       have hw542_2 := hx542_2
       have hw542_1 := hx542_1
       have hw542_0 := hx542_0
       cases e542
       replace hx542_0 := cbx HB hx542_0
       replace hx542_1 := cbx HB hx542_1
       replace hx542_2 := cbx HB hx542_2
       replace hx542_3 := cbx HB hx542_3
       replace hx542_4 := cbx HB hx542_4
       replace hx542_5 := cbx HB hx542_5
       replace hx542_6 := cbx HB hx542_6
       replace hx542_7 := cbx HB hx542_7
       replace hx542_8 := cbx HB hx542_8
       have HR542_0 := Aside0.mk hi542_0
       have HC542_0 := Aside0.mk hl542_0
       clear hi542_0 hl542_0
       replace p542 := eq_true p542
       replace q542 := eq_true q542
       have p543 : 0 ≤ (x5_1 : Int) := of_decide_eq_true asmA
       have q543 : x5_1 < (l1.length : Int) := of_decide_eq_true asmA
       obtain ⟨ad543, A543_0, c543_0, e543, hx543_0, hx543_1, hx543_2, hx543_3, hx543_4, hx543_5, hx543_6, hx543_7, hx543_8, hl543_0, hi543_0⟩ := at_T73 HR1.out x5_1 p543 q543
       have hw543_8 := hx543_8
       have hw543_7 := hx543_7
       have hw543_6 := hx543_6
       have hw543_5 := hx543_5
       have hw543_4 := hx543_4
       have hw543_3 := hx543_3
       have hw543_2 := hx543_2
       have hw543_1 := hx543_1
       have hw543_0 := hx543_0
       cases e543
       replace hx543_0 := cbx HB hx543_0
       replace hx543_1 := cbx HB hx543_1
       replace hx543_2 := cbx HB hx543_2
       replace hx543_3 := cbx HB hx543_3
       replace hx543_4 := cbx HB hx543_4
       replace hx543_5 := cbx HB hx543_5
       replace hx543_6 := cbx HB hx543_6
       replace hx543_7 := cbx HB hx543_7
       replace hx543_8 := cbx HB hx543_8
       have HR543_0 := Aside0.mk hi543_0
       have HC543_0 := Aside0.mk hl543_0
       clear hi543_0 hl543_0
       replace p543 := eq_true p543
       replace q543 := eq_true q543
       refine start_ (n := 10) (S := fun w' => w'.cell? (ad542.add ((x5_1).toNat * 9)) = some (.slice A542_0 ((rd_T73 l0 x5_1).f0).length c542_0) ∧ w'.cell? ⟨(ad542.add ((x5_1).toNat * 9)).block, (ad542.add ((x5_1).toNat * 9)).off + 1, none⟩ = some (.int .i64 ((rd_T73 l0 x5_1).f1)) ∧ w'.cell? ⟨(ad542.add ((x5_1).toNat * 9)).block, (ad542.add ((x5_1).toNat * 9)).off + 2, none⟩ = some (.int .i64 ((rd_T73 l0 x5_1).f2)) ∧ w'.cell? ⟨(ad542.add ((x5_1).toNat * 9)).block, (ad542.add ((x5_1).toNat * 9)).off + 3, none⟩ = some (.int .u64 ((rd_T73 l0 x5_1).f3.f0)) ∧ w'.cell? ⟨(ad542.add ((x5_1).toNat * 9)).block, (ad542.add ((x5_1).toNat * 9)).off + 4, none⟩ = some (.bool ((rd_T73 l0 x5_1).f3.f1)) ∧ w'.cell? ⟨(ad542.add ((x5_1).toNat * 9)).block, (ad542.add ((x5_1).toNat * 9)).off + 5, none⟩ = some (.int .i64 ((rd_T73 l0 x5_1).f3.f2.f0)) ∧ w'.cell? ⟨(ad542.add ((x5_1).toNat * 9)).block, (ad542.add ((x5_1).toNat * 9)).off + 6, none⟩ = some (.int .u64 ((rd_T73 l0 x5_1).f3.f2.f1)) ∧ w'.cell? ⟨(ad542.add ((x5_1).toNat * 9)).block, (ad542.add ((x5_1).toNat * 9)).off + 7, none⟩ = some (.int .i64 ((rd_T73 l0 x5_1).f3.f3)) ∧ w'.cell? ⟨(ad542.add ((x5_1).toNat * 9)).block, (ad542.add ((x5_1).toNat * 9)).off + 8, none⟩ = some (.int .i64 ((rd_T73 l0 x5_1).f3.f4)) ∧ w'.cell? (ad543.add ((x5_1).toNat * 9)) = some (.slice A543_0 ((rd_T73 l1 x5_1).f0).length c543_0) ∧ w'.cell? ⟨(ad543.add ((x5_1).toNat * 9)).block, (ad543.add ((x5_1).toNat * 9)).off + 1, none⟩ = some (.int .i64 ((rd_T73 l1 x5_1).f1)) ∧ w'.cell? ⟨(ad543.add ((x5_1).toNat * 9)).block, (ad543.add ((x5_1).toNat * 9)).off + 2, none⟩ = some (.int .i64 ((rd_T73 l1 x5_1).f2)) ∧ w'.cell? ⟨(ad543.add ((x5_1).toNat * 9)).block, (ad543.add ((x5_1).toNat * 9)).off + 3, none⟩ = some (.int .u64 ((rd_T73 l1 x5_1).f3.f0)) ∧ w'.cell? ⟨(ad543.add ((x5_1).toNat * 9)).block, (ad543.add ((x5_1).toNat * 9)).off + 4, none⟩ = some (.bool ((rd_T73 l1 x5_1).f3.f1)) ∧ w'.cell? ⟨(ad543.add ((x5_1).toNat * 9)).block, (ad543.add ((x5_1).toNat * 9)).off + 5, none⟩ = some (.int .i64 ((rd_T73 l1 x5_1).f3.f2.f0)) ∧ w'.cell? ⟨(ad543.add ((x5_1).toNat * 9)).block, (ad543.add ((x5_1).toNat * 9)).off + 6, none⟩ = some (.int .u64 ((rd_T73 l1 x5_1).f3.f2.f1)) ∧ w'.cell? ⟨(ad543.add ((x5_1).toNat * 9)).block, (ad543.add ((x5_1).toNat * 9)).off + 7, none⟩ = some (.int .i64 ((rd_T73 l1 x5_1).f3.f3)) ∧ w'.cell? ⟨(ad543.add ((x5_1).toNat * 9)).block, (ad543.add ((x5_1).toNat * 9)).off + 8, none⟩ = some (.int .i64 ((rd_T73 l1 x5_1).f3.f4))) (ds := []) #[false, false, false, false, false, false, false, false, false, false] (by kernel_rfl) rfl rfl ⟨((HB.out.cell (World.block_lt_of_cell? w _ hw542_0)).trans hw542_0), ((HB.out.cell (World.block_lt_of_cell? w _ hw542_1)).trans hw542_1), ((HB.out.cell (World.block_lt_of_cell? w _ hw542_2)).trans hw542_2), ((HB.out.cell (World.block_lt_of_cell? w _ hw542_3)).trans hw542_3), ((HB.out.cell (World.block_lt_of_cell? w _ hw542_4)).trans hw542_4), ((HB.out.cell (World.block_lt_of_cell? w _ hw542_5)).trans hw542_5), ((HB.out.cell (World.block_lt_of_cell? w _ hw542_6)).trans hw542_6), ((HB.out.cell (World.block_lt_of_cell? w _ hw542_7)).trans hw542_7), ((HB.out.cell (World.block_lt_of_cell? w _ hw542_8)).trans hw542_8), ((HB.out.cell (World.block_lt_of_cell? w _ hw543_0)).trans hw543_0), ((HB.out.cell (World.block_lt_of_cell? w _ hw543_1)).trans hw543_1), ((HB.out.cell (World.block_lt_of_cell? w _ hw543_2)).trans hw543_2), ((HB.out.cell (World.block_lt_of_cell? w _ hw543_3)).trans hw543_3), ((HB.out.cell (World.block_lt_of_cell? w _ hw543_4)).trans hw543_4), ((HB.out.cell (World.block_lt_of_cell? w _ hw543_5)).trans hw543_5), ((HB.out.cell (World.block_lt_of_cell? w _ hw543_6)).trans hw543_6), ((HB.out.cell (World.block_lt_of_cell? w _ hw543_7)).trans hw543_7), ((HB.out.cell (World.block_lt_of_cell? w _ hw543_8)).trans hw543_8)⟩ (fun hHeld => ?_); refine with_tabW rickyardref17_SameAll.tab6 rickyardref17_SameAll.bits6 (fun HT_ HW_ => ?_)
       generalize wr.drew = w11 at HB HR542_0 HR543_0 hx542_0 hx542_1 hx542_2 hx542_3 hx542_4 hx542_5 hx542_6 hx542_7 hx542_8 hx543_0 hx543_1 hx543_2 hx543_3 hx543_4 hx543_5 hx543_6 hx543_7 hx543_8 hHeld ⊢
       refine pureD 0 17 HT_ ?_
       refine pureD 1 18 HT_ ?_
       refine pureD 2 19 HT_ ?_
       refine pureD 4 21 HT_ ?_
       refine pureD 5 22 HT_ ?_
       refine pureD 6 23 HT_ ?_
       refine takeD 3 20 HT_ HW_ hHeld ?_
       refine takeD 7 24 HT_ HW_ hHeld ?_
       refine one_ (i := 8) (N := some 25) #[true, true, true, true, true, true, true, true, true, false] rfl rfl (one_of HT_.out (by kernel_rfl)) (by decide) (fun K hK => ?_)
       refine goes_ Try.func26 (by kernel_rfl) rfl #[.agg #[.slice A542_0 ((rd_T73 l0 x5_1).f0).length c542_0, .int .i64 ((rd_T73 l0 x5_1).f1), .int .i64 ((rd_T73 l0 x5_1).f2), .int .u64 ((rd_T73 l0 x5_1).f3.f0), .bool ((rd_T73 l0 x5_1).f3.f1), .int .i64 ((rd_T73 l0 x5_1).f3.f2.f0), .int .u64 ((rd_T73 l0 x5_1).f3.f2.f1), .int .i64 ((rd_T73 l0 x5_1).f3.f3), .int .i64 ((rd_T73 l0 x5_1).f3.f4)], .agg #[.slice A543_0 ((rd_T73 l1 x5_1).f0).length c543_0, .int .i64 ((rd_T73 l1 x5_1).f1), .int .i64 ((rd_T73 l1 x5_1).f2), .int .u64 ((rd_T73 l1 x5_1).f3.f0), .bool ((rd_T73 l1 x5_1).f3.f1), .int .i64 ((rd_T73 l1 x5_1).f3.f2.f0), .int .u64 ((rd_T73 l1 x5_1).f3.f2.f1), .int .i64 ((rd_T73 l1 x5_1).f3.f3), .int .i64 ((rd_T73 l1 x5_1).f3.f4)]] (by rfl) rfl rfl argA ?_
       with_reducible refine (rickyardref17_Same.calls k1 _ _ ((rd_T73 l0 x5_1).f0) ((rd_T73 l0 x5_1).f1) ((rd_T73 l0 x5_1).f2) ((rd_T73 l0 x5_1).f3.f0) ((rd_T73 l0 x5_1).f3.f1) ((rd_T73 l0 x5_1).f3.f2.f0) ((rd_T73 l0 x5_1).f3.f2.f1) ((rd_T73 l0 x5_1).f3.f3) ((rd_T73 l0 x5_1).f3.f4) _ _ ((rd_T73 l1 x5_1).f0) ((rd_T73 l1 x5_1).f1) ((rd_T73 l1 x5_1).f2) ((rd_T73 l1 x5_1).f3.f0) ((rd_T73 l1 x5_1).f3.f1) ((rd_T73 l1 x5_1).f3.f2.f0) ((rd_T73 l1 x5_1).f3.f2.f1) ((rd_T73 l1 x5_1).f3.f3) ((rd_T73 l1 x5_1).f3.f4) false _ ?side1 ?side2 ?side3 ?side4 A7.out).mono ?_
       (case side1 => exact cb1 HR542_0 HB)
       (case side2 => exact HC542_0.out)
       (case side3 => exact cb1 HR543_0 HB)
       (case side4 => exact HC543_0.out)
       rintro e w12 ⟨rfl, hb⟩
       refine ⟨_, rfl, ?_⟩
       replace HB := bst HB hb
       (try clear hb)
       refine hK.out _ _ ⟨((HB.out.cell (World.block_lt_of_cell? w _ hw542_0)).trans hw542_0), ((HB.out.cell (World.block_lt_of_cell? w _ hw542_1)).trans hw542_1), ((HB.out.cell (World.block_lt_of_cell? w _ hw542_2)).trans hw542_2), ((HB.out.cell (World.block_lt_of_cell? w _ hw542_3)).trans hw542_3), ((HB.out.cell (World.block_lt_of_cell? w _ hw542_4)).trans hw542_4), ((HB.out.cell (World.block_lt_of_cell? w _ hw542_5)).trans hw542_5), ((HB.out.cell (World.block_lt_of_cell? w _ hw542_6)).trans hw542_6), ((HB.out.cell (World.block_lt_of_cell? w _ hw542_7)).trans hw542_7), ((HB.out.cell (World.block_lt_of_cell? w _ hw542_8)).trans hw542_8), ((HB.out.cell (World.block_lt_of_cell? w _ hw543_0)).trans hw543_0), ((HB.out.cell (World.block_lt_of_cell? w _ hw543_1)).trans hw543_1), ((HB.out.cell (World.block_lt_of_cell? w _ hw543_2)).trans hw543_2), ((HB.out.cell (World.block_lt_of_cell? w _ hw543_3)).trans hw543_3), ((HB.out.cell (World.block_lt_of_cell? w _ hw543_4)).trans hw543_4), ((HB.out.cell (World.block_lt_of_cell? w _ hw543_5)).trans hw543_5), ((HB.out.cell (World.block_lt_of_cell? w _ hw543_6)).trans hw543_6), ((HB.out.cell (World.block_lt_of_cell? w _ hw543_7)).trans hw543_7), ((HB.out.cell (World.block_lt_of_cell? w _ hw543_8)).trans hw543_8)⟩ (fun hHeld => ?_)
       clear hK K
       refine norm_ (a' := ?_) ?_ ?_
       rotate_left
       ·show Act.put _ (some 25) _ = _
        simp only [Act.put, List.setIfInBounds_toArray, List.set_cons_zero, List.set_cons_succ, i64_w, i32_w]
        rfl
       refine pureD 9 26 HT_ ?_
       refine done_ (done_of HT_.out (by kernel_rfl)) ?_
       try go_wp2
       go_ret
       exact ⟨ret1, belA HB.out⟩
     ·rw [if_neg c6] at H
      exact absurd H (by simp)
    ·rw [if_neg c5] at H
     exact absurd H (by simp)
   ·rw [if_neg c4] at H
    have c4b0 := decide_eq_false c4
    clear c4
    obtain rfl := Option.some.inj H
    go_wp2
    go_ret
    exact ⟨ret1, belA HB.out⟩
end Go.Proofs.Ytdopbhbbpgfliaa.PAsk
end
section
namespace Go.Proofs.Ytdopbhbbpgfliaa.PAsk
open Go.RowKit Go.Proofs.YtdopbhbbpgfliaaW.PrintWords Go.Proofs.YtdopbhbbpgfliaaW.PrintLast Go.Proofs.YtdopbhbbpgfliaaW.PrintMore
set_option linter.unusedVariables false
set_option linter.unusedSimpArgs false
set_option maxHeartbeats 8000000
set_option maxRecDepth 100000
theorem dim_long (s : ByteArray) (w : World) : Calls Try.prog 64 #[.string s] w fun e w' => e = .returned (.bool (decide (16 < (s.size : Int)))) ∧ w = w' := by
  go_enter Try.func64, Try.ntmps64
  go_wp2
  go_ret
  exact ⟨rfl, rfl⟩
def lng (s : ByteArray) : Bool := decide (16 < (s.size : Int))
def idxS (l : List ByteArray) : Int := match l.findIdx? lng with | some i => (i : Int) | none => -1
theorem idxS_hit {l : List ByteArray} {j : Nat} (h : j < l.length) (h1 : lng l[j] = true) (h2 : ∀ i, ∀ hi : i < j, lng (l[i]'(by omega)) = false) : idxS l = j := by
  unfold idxS
  have : l.findIdx? lng = some j := by
    rw [List.findIdx?_eq_some_iff_getElem]
    exact ⟨h, h1, fun i hi => by simpa using h2 i hi⟩
  rw [this]
theorem idxS_miss {l : List ByteArray} (h2 : ∀ i, ∀ hi : i < l.length, lng l[i] = false) : idxS l = -1 := by
  unfold idxS
  have : l.findIdx? lng = none := by
    rw [List.findIdx?_eq_none_iff]
    intro x hx
    obtain ⟨i, hi, rfl⟩ := List.mem_iff_getElem.1 hx
    exact h2 i hi
  rw [this]
theorem idxS_any (l : List ByteArray) : decide (idxS l ≥ 0) = l.any lng := by
  unfold idxS
  cases h : l.findIdx? lng with
  | none =>
    rw [List.findIdx?_eq_none_iff] at h
    have : l.any lng = false := by rw [List.any_eq_false]; intro x hx; simp [h x hx]
    rw [this]; rfl
  | some i =>
    rw [List.findIdx?_eq_some_iff_getElem] at h
    obtain ⟨hi, hp, _⟩ := h
    rw [List.any_eq_true.2 ⟨_, List.getElem_mem hi, hp⟩]
    exact decide_eq_true (show ((i : Nat) : Int) ≥ 0 by omega)
def IdxSRel (w : World) (l : List ByteArray) (j : Nat) (wr : World) : Prop := j ≤ l.length ∧ wr = w ∧ ∀ i, i < j → ∀ hi : i < l.length, lng l[i] = false
theorem index_dims (A0 : Option Addr) (c0 : Nat) (l0 : List ByteArray) (w : World) (hr0 : Kd.C Kd.string w A0 l0.length l0) (hl : l0.length ≤ 1000) :
    Calls Try.prog 88 #[.slice A0 l0.length c0, .func (.func 64) #[] #[]] w fun e w' => e = .returned (.int .i64 (idxS l0)) ∧ w = w' := by
  have HC := Lib.hid hr0; clear hr0
  go_enter Try.func88, Try.ntmps88
  go_wp2
  go_loopw [5, 8] (fun _ v wr => ∃ j : Nat, v = .int .i64 j ∧ IdxSRel w l0 j wr) (fun _ v _ => l0.length - (intOf v).toNat)
  case atStart => exact ⟨0, rfl, Nat.zero_le _, rfl, fun i hi => by omega⟩
  case round =>
    obtain ⟨j, rfl, hj, rfl, hno⟩ := hrel
    have HN := Lib.hid hno; clear hno
    by_cases hlt : j < l0.length
    · have e1 : decide ((j : Int) < (l0.length : Int)) = true := decide_eq_true (by omega)
      obtain ⟨ad, ha, hx0⟩ := Kd.at_string HC.out (j : Int) (by omega) (by omega)
      subst ha
      obtain ⟨x, hx⟩ : ∃ x, x = rdOf ByteArray.empty l0 (j : Int) := ⟨_, rfl⟩
      have hxl : Hid (x = l0[j]) := Lib.hid (by
        rw [hx]; unfold rdOf
        rw [show ((j : Int)).toNat = j from by omega, List.getD_eq_getElem?_getD, List.getElem?_eq_getElem hlt]
        rfl)
      rw [← hx] at hx0
      simp only [Int.toNat_natCast] at hx0
      clear hx
      cases hq : lng x with
      | true =>
        have HQ := Lib.hid hq
        unfold lng at hq
        go_wp2_with (go_at_call 64; refine (dim_long x _).mono ?_; rintro e w' ⟨rfl, rfl⟩)
        go_ret
        refine ⟨?_, rfl⟩
        rw [idxS_hit hlt (by rw [← hxl.out]; exact HQ.out) (fun i hi => HN.out i hi (by omega))]
        rfl
      | false =>
        have HQ := Lib.hid hq
        unfold lng at hq
        go_wp2_with (go_at_call 64; refine (dim_long x _).mono ?_; rintro e w' ⟨rfl, rfl⟩)
        go_roundw
        case rel =>
          refine ⟨j + 1, by go_num, hlt, rfl, fun i hi hi' => ?_⟩
          by_cases e : i = j
          · subst e
            rw [← hxl.out]; exact HQ.out
          · exact HN.out i (by omega) hi'
        case measure => simp [intOf]; omega
    · have e1 : decide ((j : Int) < (l0.length : Int)) = false := decide_eq_false (by omega)
      go_wp2
      go_ret
      refine ⟨?_, rfl⟩
      rw [idxS_miss (fun i hi => HN.out i (by omega) hi)]
      rfl
theorem contains_dims (A0 : Option Addr) (c0 : Nat) (l0 : List ByteArray) (w : World) (hr0 : Kd.C Kd.string w A0 l0.length l0) (hl : l0.length ≤ 1000) :
    Calls Try.prog 63 #[.slice A0 l0.length c0, .func (.func 64) #[] #[]] w fun e w' => e = .returned (.bool (l0.any lng)) ∧ w = w' := by
  have HC := Lib.hid hr0; clear hr0
  have hA := Lib.hid (idxS_any l0)
  go_enter Try.func63, Try.ntmps63
  go_wp2_with (go_at_call 88; refine (index_dims A0 c0 l0 w HC.out hl).mono ?_; rintro e w' ⟨rfl, rfl⟩)
  go_ret
  refine ⟨?_, rfl⟩
  rw [← hA.out]
  rfl
def dimsB (l : List ByteArray) : Bool := decide (l.length ≤ 4) && !l.any lng
def key_fits.f (l : List ByteArray) : Option Bool := some (dimsB l)
theorem key_fits.calls (A0 : Option Addr) (c0 : Nat) (l0 : List ByteArray) (r : Bool) (w : World) (hr0 : Kd.C Kd.string w A0 l0.length l0) (_ : l0.length ≤ c0) (h : key_fits.f l0 = some r) :
    Calls Try.prog 41 #[.slice A0 l0.length c0] w fun e w' => e = .returned (.bool r) ∧ Drawn0 w w' := by
  have HC := Lib.hid hr0; clear hr0
  have H : Hid (dimsB l0 = r) := Lib.hid (Option.some.inj h)
  clear h
  by_cases hl : l0.length ≤ 4
  · have e1 : decide ((l0.length : Int) ≤ 4) = true := decide_eq_true (by omega)
    have e2 : decide (l0.length ≤ 4) = true := decide_eq_true hl
    cases hq : l0.any lng with
    | true =>
      have HQ := Lib.hid hq; clear hq
      go_enter Try.func41, Try.ntmps41
      go_wp2_with (go_at_call 63; refine (contains_dims A0 c0 l0 w HC.out (by omega)).mono ?_; rintro e w' ⟨rfl, rfl⟩; rw [HQ.out])
      go_ret
      refine ⟨?_, Drawn0.refl _⟩
      rw [← H.out]; unfold dimsB; rw [HQ.out]; simp
    | false =>
      have HQ := Lib.hid hq; clear hq
      go_enter Try.func41, Try.ntmps41
      go_wp2_with (go_at_call 63; refine (contains_dims A0 c0 l0 w HC.out (by omega)).mono ?_; rintro e w' ⟨rfl, rfl⟩; rw [HQ.out])
      go_ret
      refine ⟨?_, Drawn0.refl _⟩
      rw [← H.out]; unfold dimsB; rw [HQ.out, e2]; rfl
  · have e1 : decide ((l0.length : Int) ≤ 4) = false := decide_eq_false (by omega)
    have e2 : decide (l0.length ≤ 4) = false := decide_eq_false hl
    have H2 : Hid (r = false) := Lib.hid (by rw [← H.out]; unfold dimsB; rw [e2]; rfl)
    go_enter Try.func41, Try.ntmps41
    go_wp2
    go_ret
    exact ⟨by rw [H2.out]; rfl, Drawn0.refl _⟩
end Go.Proofs.Ytdopbhbbpgfliaa.PAsk
end
