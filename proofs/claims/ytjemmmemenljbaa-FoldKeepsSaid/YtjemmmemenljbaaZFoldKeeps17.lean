import Derived.Test.YtjemmmemenljbaaZFoldKeeps01
import Derived.Test.YtjemmmemenljbaaZFoldKeeps02
import Derived.Test.YtjemmmemenljbaaZFoldKeeps05
import Derived.Test.YtjemmmemenljbaaZFoldKeeps06
import Derived.Test.YtjemmmemenljbaaZFoldKeeps07
import Derived.Test.YtjemmmemenljbaaZFoldKeeps16
section
namespace Go.Proofs.Ytjemmmemenljbaa.PFold
open Go.RowKit Go.Proofs.YtjemmmemenljbaaW.PrintWords Go.Proofs.YtjemmmemenljbaaW.PrintLast Go.Proofs.YtjemmmemenljbaaW.PrintMore
attribute [local go_sem] max2_int min2_int max_two min_two max_three min_three max_four min_four   -- for this text's walks alone
set_option linter.unusedVariables false
set_option linter.unusedSimpArgs false
attribute [local go_sem high] eqA41
mutual
def rickyardlaw15_FoldKeeps.l0 : Nat → Int → List (S46) → List (S51) → Int → List (S67) → Int → Int → Bool → Int → Int → Int → Int → Int → Bool → Int → Int → Int → Int → Option (Bool)
 | 0, _, _, _, _, _, _, _, _, _, _, _, _, _, _, _, _, _, _ => none
 | k + 1, x1, x2, x7, x11, x548000, x548001, x556000, x556001, x556002, x556003, x556004, x556005, x557000, x557001, x557002, x557003, x557004, x557005 => if x11 < (x2.length : Int) then (if 0 ≤ x11 then ((grain_Expired.f k x548000 x548001 ((rd_T46 x2 x11).f1) x1).bind fun bt558 => (if bt558.2 = 0 then (if bt558.1 = true then (rickyardlaw15_FoldKeeps.l0 k x1 x2 x7 (wrap64 (x11 + 1)) x548000 x548001 x556000 x556001 x556002 x556003 x556004 x556005 x557000 x557001 x557002 x557003 x557004 x557005) else ((agg_One.f ((rd_T46 x2 x11).f2)).bind fun bt561 => ((agg_Merge.f x556000 x556001 x556002 x556003 x556004 x556005 bt561.1 bt561.2.1 bt561.2.2.1 bt561.2.2.2.1 bt561.2.2.2.2.1 bt561.2.2.2.2.2).bind fun bt567 => (rickyardlaw15_FoldKeeps.l0 k x1 x2 x7 (wrap64 (x11 + 1)) x548000 x548001 bt567.1 bt567.2.1 bt567.2.2.1 bt567.2.2.2.1 bt567.2.2.2.2.1 bt567.2.2.2.2.2 x557000 x557001 x557002 x557003 x557004 x557005)))) else (some false))) else (none)) else (rickyardlaw15_FoldKeeps.l1 k x7 0 x556000 x556001 x556002 x556003 x556004 x556005 x557000 x557001 x557002 x557003 x557004 x557005)
def rickyardlaw15_FoldKeeps.l1 : Nat → List (S51) → Int → Int → Bool → Int → Int → Int → Int → Int → Bool → Int → Int → Int → Int → Option (Bool)
 | 0, _, _, _, _, _, _, _, _, _, _, _, _, _, _ => none
 | k + 1, x7, x14, x556000, x556001, x556002, x556003, x556004, x556005, x557000, x557001, x557002, x557003, x557004, x557005 => if x14 < (x7.length : Int) then (if 0 ≤ x14 then ((agg_Merge.f x557000 x557001 x557002 x557003 x557004 x557005 ((rd_T51 x7 x14).f1.f0) ((rd_T51 x7 x14).f1.f1) ((rd_T51 x7 x14).f1.f2.f0) ((rd_T51 x7 x14).f1.f2.f1) ((rd_T51 x7 x14).f1.f3) ((rd_T51 x7 x14).f1.f4)).bind fun bt574 => (rickyardlaw15_FoldKeeps.l1 k x7 (wrap64 (x14 + 1)) x556000 x556001 x556002 x556003 x556004 x556005 bt574.1 bt574.2.1 bt574.2.2.1 bt574.2.2.2.1 bt574.2.2.2.2.1 bt574.2.2.2.2.2)) else (none)) else ((rickyardlaw15_alive.f k).bind fun t580 => (if t580 = true then (some (x556000 == x557000 && (x556001 == x557001 && ((x556002 == x557002 && (x556003 == x557003)) && (x556004 == x557004 && (x556005 == x557005)))))) else (some false)))
end
def rickyardlaw15_FoldKeeps.f (k : Nat) (l0_0 : List (S67)) (a0_1 : Int) (a1 : Int) (l2 : List (S46)) : Option (Bool) := (rickyardlaw15_Many.f k l2).bind fun t548 => (if t548 = true then ((rickyardlaw15_alive.f k).bind fun t549 => (some t549)) else ((fold_Facts.f k l0_0 a0_1 a1 l2).bind fun bt550 => (if bt550.2 = 0 then (rickyardlaw15_FoldKeeps.l0 k a1 l2 bt550.1 0 l0_0 a0_1 0 false 0 0 0 0 0 false 0 0 0 0) else ((rickyardlaw15_alive.f k).bind fun t554 => (some t554)))))
def rickyardlaw15_FoldKeeps.T10 : Bool × List (List Nat × List Nat) := (true, [([], []), ([], []), ([], []), ([1, 2], [1, 2]), ([3], [3]), ([4], [4]), ([], []), ([0, 5, 6], [0, 5, 6]), ([7], [7]), ([8], [8]), ([8], [8]), ([9, 7, 0, 1, 2, 3, 4, 5, 6, 7, 8, 9], [9]), ([10, 11, 0, 1, 2, 3, 4, 5, 6, 7, 8, 9, 10, 11], [10])])
def rickyardlaw15_FoldKeeps.B10 : List Nat := [0, 0, 0, 6, 14, 30, 0, 127, 255, 511, 511, 1023, 4095]
theorem rickyardlaw15_FoldKeeps.tab10 : rtab .any (opsOf Try.f5 10) = rickyardlaw15_FoldKeeps.T10 := by kernel_rfl
theorem rickyardlaw15_FoldKeeps.bits10 : waitsOk rickyardlaw15_FoldKeeps.T10.2 rickyardlaw15_FoldKeeps.B10 = true := by kernel_rfl
def rickyardlaw15_FoldKeeps.T14 : Bool × List (List Nat × List Nat) := (true, [([], []), ([], []), ([], []), ([1, 2], [1, 2]), ([3], [3]), ([4], [4]), ([5], [5]), ([0, 6, 6], [0, 6]), ([7, 7, 0, 1, 2, 3, 4, 5, 6, 7], [7])])
def rickyardlaw15_FoldKeeps.B14 : List Nat := [0, 0, 0, 6, 14, 30, 62, 127, 255]
theorem rickyardlaw15_FoldKeeps.tab14 : rtab .any (opsOf Try.f5 14) = rickyardlaw15_FoldKeeps.T14 := by kernel_rfl
theorem rickyardlaw15_FoldKeeps.bits14 : waitsOk rickyardlaw15_FoldKeeps.T14.2 rickyardlaw15_FoldKeeps.B14 = true := by kernel_rfl
def rickyardlaw15_FoldKeeps.T18 : Bool × List (List Nat × List Nat) := (true, [([], []), ([], []), ([], []), ([1, 2], [1, 2]), ([3], [3]), ([4], [4]), ([0, 5], [0, 5]), ([6, 6, 0, 1, 2, 3, 4, 5, 6], [6])])
def rickyardlaw15_FoldKeeps.B18 : List Nat := [0, 0, 0, 6, 14, 30, 63, 127]
theorem rickyardlaw15_FoldKeeps.tab18 : rtab .any (opsOf Try.f5 18) = rickyardlaw15_FoldKeeps.T18 := by kernel_rfl
theorem rickyardlaw15_FoldKeeps.bits18 : waitsOk rickyardlaw15_FoldKeeps.T18.2 rickyardlaw15_FoldKeeps.B18 = true := by kernel_rfl
set_option maxHeartbeats 8000000 in
set_option maxRecDepth 100000 in
theorem rickyardlaw15_FoldKeeps.calls (k : Nat) (A0_0 : Option Addr) (c0_0 : Nat) (l0_0 : List (S67)) (a0_1 : Int) (a1 : Int) (A2 : Option Addr) (c2 : Nat) (l2 : List (S46)) (r : Bool) (w : World) (hr0_0 : Kd.C k67 w A0_0 l0_0.length l0_0) (hc0_0 : l0_0.length ≤ c0_0) (hr2 : Kd.C k46 w A2 l2.length l2) (hc2 : l2.length ≤ c2) (h : rickyardlaw15_FoldKeeps.f k l0_0 a0_1 a1 l2 = some r) :
  Calls Try.prog 5 #[.agg #[.slice A0_0 l0_0.length c0_0, .int .i64 a0_1], .int .i64 a1, .slice A2 l2.length c2] w fun e w' => e = .returned (.bool r) ∧ Below w.heap.size w w' := by
 have hu24 := Try.underlying24
 have hu41 := Try.underlying41
 have HR0_0 := Aside0.mk hr0_0
 have HC0_0 := Aside0.mk hc0_0
 clear hr0_0 hc0_0
 have HR2 := Aside0.mk hr2
 have HC2 := Aside0.mk hc2
 clear hr2 hc2
 have HB := Aside0.mk (Below.refl w.heap.size w)
 have H : ((rickyardlaw15_Many.f k l2).bind fun t548 => (if t548 = true then ((rickyardlaw15_alive.f k).bind fun t549 => (some t549)) else ((fold_Facts.f k l0_0 a0_1 a1 l2).bind fun bt550 => (if bt550.2 = 0 then (rickyardlaw15_FoldKeeps.l0 k a1 l2 bt550.1 0 l0_0 a0_1 0 false 0 0 0 0 0 false 0 0 0 0) else ((rickyardlaw15_alive.f k).bind fun t554 => (some t554)))))) = some r := h
 clear h
 replace H := Option.bind_eq_some_iff.mp H
 obtain ⟨t548, A40, H⟩ := H
 replace H : (if t548 = true then ((rickyardlaw15_alive.f k).bind fun t549 => (some t549)) else ((fold_Facts.f k l0_0 a0_1 a1 l2).bind fun bt550 => (if bt550.2 = 0 then (rickyardlaw15_FoldKeeps.l0 k a1 l2 bt550.1 0 l0_0 a0_1 0 false 0 0 0 0 0 false 0 0 0 0) else ((rickyardlaw15_alive.f k).bind fun t554 => (some t554))))) = some r := H
 have A4 := Aside0.mk A40
 clear A40
 by_cases c5 : t548 = true
 ·subst c5
  have H1 : ((rickyardlaw15_alive.f k).bind fun t549 => (some t549)) = some r := by rw [if_pos rfl] at H; exact H
  clear H
  have H := H1
  clear H1
  replace H := Option.bind_eq_some_iff.mp H
  obtain ⟨t549, A60, H⟩ := H
  replace H : (some t549) = some r := H
  have A6 := Aside0.mk A60
  clear A60
  obtain rfl := Option.some.inj H
  go_enter Try.func5, Try.ntmps5
  go_wp2_with (first | ((with_reducible refine gate_dst (N := 3) rfl ?_); refine box_event ?hg (N := 3) ?hd (cs := #[.slice A0_0 l0_0.length c0_0, .int .i64 a0_1]) (t := 24) ?hr ?_; (case hd => rfl); (case hg => rfl); (case hr => first | (go_simp; done) | (go_simp; rfl)); intro gb547 hg w7 hbox hb; have n0_ := Aside0.mk (below_step (belA HB.out) hb); have n1_ := Aside0.mk (hbox); have n2_ := Aside0.mk ((by rw [hg]; exact (below_size (belA HB.out)) : w.heap.size ≤ gb547)); have n3_ := Aside0.mk ((by rw [hg]; exact (below_size (belA HB.out)) : w.heap.size ≤ gb547)); clear HB; have HB := n0_; have BK547 := n1_; have GW547 := n2_; have GE547 := n3_; clear n0_ n1_ n2_ n3_; clear hb hbox hg) | ((with_reducible refine gate_callee (f := 10) rfl ?_); refine goesL_ (some 16) rfl rfl Try.func10 (by kernel_rfl) rfl #[.slice A2 l2.length c2] rfl argA ?_; (with_reducible refine (rickyardlaw15_Many.calls k _ _ l2 true _ ?side1 ?side2 A4.out).mono ?_); (case side1 => repeat (first | exact (Kd.C_below HR2.out HB.out) | (with_reducible refine Kd.C_alloc ?_ _) | (with_reducible refine Kd.C_drewN ?_ _) | (with_reducible refine Kd.C_drew ?_))); (case side2 => exact HC2.out); rintro e w' ⟨rfl, ⟨nd, rfl⟩⟩; refine ⟨_, rfl, ?_⟩) | ((with_reducible refine gate_callee (f := 11) rfl ?_); refine goesL_ (some 17) rfl rfl Try.func11 (by kernel_rfl) rfl #[] rfl argA ?_; (with_reducible refine (rickyardlaw15_alive.calls k  t549 _ A6.out).mono ?_); rintro e w8 ⟨rfl, hb⟩; refine ⟨_, rfl, ?_⟩; have n0_ := Aside0.mk (blk_below (g := gb547) (o := .cells #[.slice A0_0 l0_0.length c0_0, .int .i64 a0_1] 24 (0, 0)) (blkA BK547.out) hb); have n1_ := Aside0.mk (below_step (belB HB.out GE547.out) hb); clear BK547; clear HB; have BK547 := n0_; have HB := n1_; clear n0_ n1_; (try clear hb); (try clear hb2); (try clear hk); (try clear hi)))
  go_ret
  exact ⟨by first | rfl | (simp [errW_none, errW_some] <;> rfl) | (simp [*, errW_none, errW_some] <;> rfl) | (exfalso; simp_all; done), belB HB.out GE547.out⟩
 ·replace c5 := Bool.eq_false_iff.mpr c5
  subst c5
  have H1 : ((fold_Facts.f k l0_0 a0_1 a1 l2).bind fun bt550 => (if bt550.2 = 0 then (rickyardlaw15_FoldKeeps.l0 k a1 l2 bt550.1 0 l0_0 a0_1 0 false 0 0 0 0 0 false 0 0 0 0) else ((rickyardlaw15_alive.f k).bind fun t554 => (some t554)))) = some r := by rw [if_neg (show ¬ (false = true) by decide)] at H; exact H
  clear H
  have H := H1
  clear H1
  replace H := Option.bind_eq_some_iff.mp H
  obtain ⟨⟨t550, t553⟩, A90, H⟩ := H
  replace H : (if t553 = 0 then (rickyardlaw15_FoldKeeps.l0 k a1 l2 t550 0 l0_0 a0_1 0 false 0 0 0 0 0 false 0 0 0 0) else ((rickyardlaw15_alive.f k).bind fun t554 => (some t554))) = some r := H
  have A9 := Aside0.mk A90
  clear A90
  by_cases c10 : t553 = 0
  ·rw [if_pos c10] at H
   have c10b0 : (t553 == 0) = true := beq_iff_eq.mpr c10
   have c10b1 : (t553 != 0) = false := bne_eq_false_iff_eq.mpr c10
   clear c10
   have H' := Aside0.mk H
   clear H
   go_enter Try.func5, Try.ntmps5
   go_wp2_with (first | ((with_reducible refine gate_dst (N := 3) rfl ?_); refine box_event ?hg (N := 3) ?hd (cs := #[.slice A0_0 l0_0.length c0_0, .int .i64 a0_1]) (t := 24) ?hr ?_; (case hd => rfl); (case hg => rfl); (case hr => first | (go_simp; done) | (go_simp; rfl)); intro gb547 hg w11 hbox hb; have n0_ := Aside0.mk (below_step (belA HB.out) hb); have n1_ := Aside0.mk (hbox); have n2_ := Aside0.mk ((by rw [hg]; exact (below_size (belA HB.out)) : w.heap.size ≤ gb547)); have n3_ := Aside0.mk ((by rw [hg]; exact (below_size (belA HB.out)) : w.heap.size ≤ gb547)); clear HB; have HB := n0_; have BK547 := n1_; have GW547 := n2_; have GE547 := n3_; clear n0_ n1_ n2_ n3_; clear hb hbox hg) | ((with_reducible refine gate_callee (f := 10) rfl ?_); refine goesL_ (some 16) rfl rfl Try.func10 (by kernel_rfl) rfl #[.slice A2 l2.length c2] rfl argA ?_; (with_reducible refine (rickyardlaw15_Many.calls k _ _ l2 false _ ?side1 ?side2 A4.out).mono ?_); (case side1 => repeat (first | exact (Kd.C_below HR2.out HB.out) | (with_reducible refine Kd.C_alloc ?_ _) | (with_reducible refine Kd.C_drewN ?_ _) | (with_reducible refine Kd.C_drew ?_))); (case side2 => exact HC2.out); rintro e w' ⟨rfl, ⟨nd, rfl⟩⟩; refine ⟨_, rfl, ?_⟩; have hcz12_0 : w11.cell? ⟨gb547, 0, none⟩ = some (.slice A0_0 l0_0.length c0_0) := (blk_cell BK547.out 0).trans rfl; have hcz12_1 : w11.cell? ⟨gb547, 1, none⟩ = some (.int .i64 a0_1) := (blk_cell BK547.out 1).trans rfl; have hfz12_0 := blk_frozen BK547.out 0; have hfz12_1 := blk_frozen BK547.out 1) | ((with_reducible refine gate_callee (f := 12) rfl ?_); refine goesL_ (some 22) rfl rfl Try.func12 (by kernel_rfl) rfl #[.agg #[.slice A0_0 l0_0.length c0_0, .int .i64 a0_1], .int .i64 a1, .slice A2 l2.length c2] rfl argA ?_; (with_reducible refine (fold_Facts.calls k _ _ l0_0 a0_1 a1 _ _ l2 t550 t553 _ ?side1 ?side2 ?side3 ?side4 A9.out).mono ?_); (case side1 => repeat (first | exact (Kd.C_below HR0_0.out (belB HB.out GE547.out)) | (with_reducible refine Kd.C_alloc ?_ _) | (with_reducible refine Kd.C_drewN ?_ _) | (with_reducible refine Kd.C_drew ?_))); (case side2 => exact HC0_0.out); (case side3 => repeat (first | exact (Kd.C_below HR2.out (belB HB.out GE547.out)) | (with_reducible refine Kd.C_alloc ?_ _) | (with_reducible refine Kd.C_drewN ?_ _) | (with_reducible refine Kd.C_drew ?_))); (case side4 => exact HC2.out); rintro e w13 ⟨v551, rfl, ho0, hb⟩; refine ⟨_, rfl, ?_⟩; have n0_ := Aside0.mk (Kd.R_lower ho0 (below_size (belB HB.out GE547.out))); have n1_ := Aside0.mk (blk_below (g := gb547) (o := .cells #[.slice A0_0 l0_0.length c0_0, .int .i64 a0_1] 24 (0, 0)) (blkA BK547.out) hb); have n2_ := Aside0.mk (below_step (belB HB.out GE547.out) hb); clear BK547; clear HB; have HO552 := n0_; have BK547 := n1_; have HB := n2_; clear n0_ n1_ n2_; (try clear hb); (try clear hb2); (try clear hk); (try clear hi); (try clear ho0)) | ((with_reducible refine gate_dst (N := 9) rfl ?_); refine box_event ?hg (N := 9) ?hd (cs := #[.int .u64 0, .bool false, .int .i64 0, .int .u64 0, .int .i64 0, .int .i64 0]) (t := 41) ?hr ?_; (case hd => rfl); (case hg => rfl); (case hr => first | (go_simp; done) | (go_simp; rfl)); intro gb555 hg w14 hbox hb; have n0_ := Aside0.mk (Kd.R_below (rowA HO552.out) hb); have n1_ := Aside0.mk (blk_below (g := gb547) (o := .cells #[.slice A0_0 l0_0.length c0_0, .int .i64 a0_1] 24 (0, 0)) (blkA BK547.out) hb); have n2_ := Aside0.mk (below_step (belB HB.out GE547.out) hb); have n3_ := Aside0.mk (hbox); have n4_ := Aside0.mk ((by rw [hg]; exact (below_size (belB HB.out GE547.out)) : w.heap.size ≤ gb555)); have n5_ := Aside0.mk ((by rw [hg]; exact (below_size (belB HB.out GE547.out)) : w.heap.size ≤ gb555)); have n6_ := Aside0.mk ((by rw [hg]; exact Nat.ne_of_lt (blk_lt (g := gb547) (o := .cells #[.slice A0_0 l0_0.length c0_0, .int .i64 a0_1] 24 (0, 0)) (blkA BK547.out)) : gb547 ≠ gb555)); have n7_ := Aside0.mk ((by rw [hg]; exact Nat.ne_of_gt (blk_lt (g := gb547) (o := .cells #[.slice A0_0 l0_0.length c0_0, .int .i64 a0_1] 24 (0, 0)) (blkA BK547.out)) : gb555 ≠ gb547)); clear HO552; clear BK547; clear HB; have HO552 := n0_; have BK547 := n1_; have HB := n2_; have BK555 := n3_; have GW555 := n4_; have GE555 := n5_; have NB547_555 := n6_; have NB555_547 := n7_; clear n0_ n1_ n2_ n3_ n4_ n5_ n6_ n7_; clear hb hbox hg) | ((with_reducible refine gate_dst (N := 10) rfl ?_); refine box_event ?hg (N := 10) ?hd (cs := #[.int .u64 0, .bool false, .int .i64 0, .int .u64 0, .int .i64 0, .int .i64 0]) (t := 41) ?hr ?_; (case hd => rfl); (case hg => rfl); (case hr => first | (go_simp; done) | (go_simp; rfl)); intro gb556 hg w15 hbox hb; have n0_ := Aside0.mk (Kd.R_below (rowA HO552.out) hb); have n1_ := Aside0.mk (blk_below (g := gb547) (o := .cells #[.slice A0_0 l0_0.length c0_0, .int .i64 a0_1] 24 (0, 0)) (blkA BK547.out) hb); have n2_ := Aside0.mk (blk_below (g := gb555) (o := .cells #[.int .u64 0, .bool false, .int .i64 0, .int .u64 0, .int .i64 0, .int .i64 0] 41 (0, 0)) (blkA BK555.out) hb); have n3_ := Aside0.mk (below_step (belC HB.out GE547.out GE555.out) hb); have n4_ := Aside0.mk (hbox); have n5_ := Aside0.mk ((by rw [hg]; exact (below_size (belC HB.out GE547.out GE555.out)) : w.heap.size ≤ gb556)); have n6_ := Aside0.mk ((by rw [hg]; exact (below_size (belC HB.out GE547.out GE555.out)) : w.heap.size ≤ gb556)); have n7_ := Aside0.mk ((by rw [hg]; exact Nat.ne_of_lt (blk_lt (g := gb547) (o := .cells #[.slice A0_0 l0_0.length c0_0, .int .i64 a0_1] 24 (0, 0)) (blkA BK547.out)) : gb547 ≠ gb556)); have n8_ := Aside0.mk ((by rw [hg]; exact Nat.ne_of_gt (blk_lt (g := gb547) (o := .cells #[.slice A0_0 l0_0.length c0_0, .int .i64 a0_1] 24 (0, 0)) (blkA BK547.out)) : gb556 ≠ gb547)); have n9_ := Aside0.mk ((by rw [hg]; exact Nat.ne_of_lt (blk_lt (g := gb555) (o := .cells #[.int .u64 0, .bool false, .int .i64 0, .int .u64 0, .int .i64 0, .int .i64 0] 41 (0, 0)) (blkA BK555.out)) : gb555 ≠ gb556)); have n10_ := Aside0.mk ((by rw [hg]; exact Nat.ne_of_gt (blk_lt (g := gb555) (o := .cells #[.int .u64 0, .bool false, .int .i64 0, .int .u64 0, .int .i64 0, .int .i64 0] 41 (0, 0)) (blkA BK555.out)) : gb556 ≠ gb555)); clear HO552; clear BK547; clear BK555; clear HB; have HO552 := n0_; have BK547 := n1_; have BK555 := n2_; have HB := n3_; have BK556 := n4_; have GW556 := n5_; have GE556 := n6_; have NB547_556 := n7_; have NB556_547 := n8_; have NB555_556 := n9_; have NB556_555 := n10_; clear n0_ n1_ n2_ n3_ n4_ n5_ n6_ n7_ n8_ n9_ n10_; clear hb hbox hg))
   go_loopg [11] k (fun kq v11 w' => ∃ (x11_1 : Int) (x556000_1 : Int) (x556001_1 : Bool) (x556002_1 : Int) (x556003_1 : Int) (x556004_1 : Int) (x556005_1 : Int), v11 = .int .i64 x11_1 ∧ Aside0 (rickyardlaw15_FoldKeeps.l0 kq a1 l2 t550 x11_1 l0_0 a0_1 x556000_1 x556001_1 x556002_1 x556003_1 x556004_1 x556005_1 0 false 0 0 0 0 = some r) ∧ Aside0 (kq ≤ k) ∧ Aside0 (Kd.R k51 51 w' w.heap.size (fun _ => True) v551 t550) ∧ Aside0 (w'.heap[gb547]? = some (.cells #[(.slice A0_0 l0_0.length c0_0), .int .i64 a0_1] 24 (0, 0))) ∧ Aside0 (w'.heap[gb555]? = some (.cells #[.int .u64 x556000_1, .bool x556001_1, .int .i64 x556002_1, .int .u64 x556003_1, .int .i64 x556004_1, .int .i64 x556005_1] 41 (0, 0))) ∧ Aside0 (w'.heap[gb556]? = some (.cells #[.int .u64 0, .bool false, .int .i64 0, .int .u64 0, .int .i64 0, .int .i64 0] 41 (0, 0))) ∧ Aside0 (Below w.heap.size w w'))
   case atStart => exact ⟨(0), (0), (false), (0), (0), (0), (0), relA, H', ⟨Nat.le_refl _⟩, ⟨rowA HO552.out⟩, ⟨blkA BK547.out⟩, ⟨blkA BK555.out⟩, ⟨blkA BK556.out⟩, ⟨belD HB.out GE547.out GE555.out GE556.out⟩⟩
   case round =>
    clear H'
    try clear c1
    try clear c2
    try clear p2
    try clear c5
    try clear c10
    try clear c10b0
    try clear c10b1
    try clear c11
    try clear c12
    try clear hcz12_0
    try clear hcz12_1
    try clear hfz12_0
    try clear hfz12_1
    obtain ⟨x11_1, x556000_1, x556001_1, x556002_1, x556003_1, x556004_1, x556005_1, rfl, HA, HK1, HO_7, BK547, BK555, BK556, HB⟩ := hrel
    cases gk with
    | zero => exact absurd HA.out (by simp [rickyardlaw15_FoldKeeps.l0])
    | succ k1 =>
     have H := HA.out
     clear HA
     simp only [rickyardlaw15_FoldKeeps.l0] at H
     by_cases c16 : x11_1 < (l2.length : Int)
     ·rw [if_pos c16] at H
      have c16b0 : decide (x11_1 < (l2.length : Int)) = true := decide_eq_true c16
      clear c16
      by_cases c17 : 0 ≤ x11_1
      ·rw [if_pos c17] at H
       have c17b0 : decide (0 ≤ x11_1) = true := decide_eq_true c17
       clear c17
       replace H := Option.bind_eq_some_iff.mp H
       obtain ⟨⟨t558, t559⟩, A180, H⟩ := H
       replace H : (if t559 = 0 then (if t558 = true then (rickyardlaw15_FoldKeeps.l0 k1 a1 l2 t550 (wrap64 (x11_1 + 1)) l0_0 a0_1 x556000_1 x556001_1 x556002_1 x556003_1 x556004_1 x556005_1 0 false 0 0 0 0) else ((agg_One.f ((rd_T46 l2 x11_1).f2)).bind fun bt561 => ((agg_Merge.f x556000_1 x556001_1 x556002_1 x556003_1 x556004_1 x556005_1 bt561.1 bt561.2.1 bt561.2.2.1 bt561.2.2.2.1 bt561.2.2.2.2.1 bt561.2.2.2.2.2).bind fun bt567 => (rickyardlaw15_FoldKeeps.l0 k1 a1 l2 t550 (wrap64 (x11_1 + 1)) l0_0 a0_1 bt567.1 bt567.2.1 bt567.2.2.1 bt567.2.2.2.1 bt567.2.2.2.2.1 bt567.2.2.2.2.2 0 false 0 0 0 0)))) else (some false)) = some r := H
       have A18 := Aside0.mk A180
       clear A180
       by_cases c19 : t559 = 0
       ·rw [if_pos c19] at H
        have c19b0 : (t559 == 0) = true := beq_iff_eq.mpr c19
        have c19b1 : (t559 != 0) = false := bne_eq_false_iff_eq.mpr c19
        clear c19
        by_cases c20 : t558 = true
        ·subst c20
         have H1 : (rickyardlaw15_FoldKeeps.l0 k1 a1 l2 t550 (wrap64 (x11_1 + 1)) l0_0 a0_1 x556000_1 x556001_1 x556002_1 x556003_1 x556004_1 x556005_1 0 false 0 0 0 0) = some r := by rw [if_pos rfl] at H; exact H
         clear H
         have H := H1
         clear H1
         have H' := Aside0.mk H
         clear H
         try go_wp2
         have n0_ := Aside0.mk (Kd.R_drew HO_7.out)
         have n1_ := Aside0.mk (blk_drew BK547.out)
         have n2_ := Aside0.mk (blk_drew BK555.out)
         have n3_ := Aside0.mk (blk_drew BK556.out)
         have n4_ := Aside0.mk (below_drew1 HB.out)
         clear HO_7
         clear BK547
         clear BK555
         clear BK556
         clear HB
         have HO_7 := n0_
         have BK547 := n1_
         have BK555 := n2_
         have BK556 := n3_
         have HB := n4_
         clear n0_ n1_ n2_ n3_ n4_
         have p557 : 0 ≤ (x11_1 : Int) := of_decide_eq_true asmA
         have q557 : x11_1 < (l2.length : Int) := of_decide_eq_true asmA
         obtain ⟨ad557, A557_0, c557_0, e557, hx557_0, hx557_1, hx557_2, hl557_0, hi557_0⟩ := at_T46 HR2.out x11_1 p557 q557
         have hw557_2 := hx557_2
         have hw557_1 := hx557_1
         have hw557_0 := hx557_0
         cases e557
         replace hx557_0 := (HB.out.cell (World.block_lt_of_cell? w _ hx557_0)).trans hx557_0
         replace hx557_1 := (HB.out.cell (World.block_lt_of_cell? w _ hx557_1)).trans hx557_1
         replace hx557_2 := (HB.out.cell (World.block_lt_of_cell? w _ hx557_2)).trans hx557_2
         have HR557_0 := Aside0.mk hi557_0
         have HC557_0 := Aside0.mk hl557_0
         clear hi557_0 hl557_0
         replace p557 := eq_true p557
         replace q557 := eq_true q557
         refine start_ (n := 13) (S := fun w' => w'.cell? ⟨gb547, 0, none⟩ = some (.slice A0_0 l0_0.length c0_0) ∧ w'.cell? ⟨gb547, 1, none⟩ = some (.int .i64 a0_1) ∧ w'.cell? (ad557.add ((x11_1).toNat * 3)) = some (.slice A557_0 ((rd_T46 l2 x11_1).f0).length c557_0) ∧ w'.cell? ⟨(ad557.add ((x11_1).toNat * 3)).block, (ad557.add ((x11_1).toNat * 3)).off + 1, none⟩ = some (.int .i64 ((rd_T46 l2 x11_1).f1)) ∧ w'.cell? ⟨(ad557.add ((x11_1).toNat * 3)).block, (ad557.add ((x11_1).toNat * 3)).off + 2, none⟩ = some (.int .i64 ((rd_T46 l2 x11_1).f2))) (ds := []) #[false, false, false, false, false, false, false, false, false, false, false, false, false] (by kernel_rfl) rfl rfl ⟨(blk_cell BK547.out 0).trans rfl, (blk_cell BK547.out 1).trans rfl, ((HB.out.cell (World.block_lt_of_cell? w _ hw557_0)).trans hw557_0), ((HB.out.cell (World.block_lt_of_cell? w _ hw557_1)).trans hw557_1), ((HB.out.cell (World.block_lt_of_cell? w _ hw557_2)).trans hw557_2)⟩ (fun hHeld => ?_); refine with_tabW rickyardlaw15_FoldKeeps.tab10 rickyardlaw15_FoldKeeps.bits10 (fun HT_ HW_ => ?_)
         generalize wr.drew = w21 at HO_7 BK547 BK555 BK556 HB HR557_0 hx557_0 hx557_1 hx557_2 hHeld ⊢
         refine pure_ (i := 1) (N := some 36) (v := ?_) (a' := ?_) #[false, true, false, false, false, false, false, false, false, false, false, false, false] rfl rfl (any_of HT_.out (by kernel_rfl)) (fun _ _ _ h => h) (Or.inl ⟨by rfl, ?_⟩) ?_ ?_
         rotate_left
         ·intro w'
          go_simp
          with_reducible rfl
         rotate_left
         ·simp only [Act.put, List.setIfInBounds_toArray, List.set_cons_zero, List.set_cons_succ, i64_w, i32_w]
          rfl
         refine pure_ (i := 2) (N := some 37) (v := ?_) (a' := ?_) #[false, true, true, false, false, false, false, false, false, false, false, false, false] rfl rfl (any_of HT_.out (by kernel_rfl)) (fun _ _ _ h => h) (Or.inl ⟨by rfl, ?_⟩) ?_ ?_
         rotate_left
         ·intro w'
          go_simp
          with_reducible rfl
         rotate_left
         ·simp only [Act.put, List.setIfInBounds_toArray, List.set_cons_zero, List.set_cons_succ, i64_w, i32_w]
          rfl
         refine pure_ (i := 3) (N := some 38) (v := ?_) (a' := ?_) #[false, true, true, true, false, false, false, false, false, false, false, false, false] rfl rfl (any_of HT_.out (by kernel_rfl)) (fun _ _ _ h => h) (Or.inl ⟨by rfl, ?_⟩) ?_ ?_
         rotate_left
         ·intro w'
          go_simp
          with_reducible rfl
         rotate_left
         ·simp only [Act.put, List.setIfInBounds_toArray, List.set_cons_zero, List.set_cons_succ, i64_w, i32_w]
          rfl
         refine pure_ (i := 4) (N := some 39) (v := ?_) (a' := ?_) #[false, true, true, true, true, false, false, false, false, false, false, false, false] rfl rfl (any_of HT_.out (by kernel_rfl)) (fun _ _ _ h => h) (Or.inl ⟨by rfl, ?_⟩) ?_ ?_
         rotate_left
         ·intro w'
          go_simp
          with_reducible rfl
         rotate_left
         ·simp only [Act.put, List.setIfInBounds_toArray, List.set_cons_zero, List.set_cons_succ, i64_w, i32_w]
          rfl
         refine pure_ (i := 6) (N := some 41) (v := ?_) (a' := ?_) #[false, true, true, true, true, false, true, false, false, false, false, false, false] rfl rfl (any_of HT_.out (by kernel_rfl)) (fun _ _ _ h => h) (Or.inl ⟨by rfl, ?_⟩) ?_ ?_
         rotate_left
         ·intro w'
          go_simp
          with_reducible rfl
         rotate_left
         ·simp only [Act.put, List.setIfInBounds_toArray, List.set_cons_zero, List.set_cons_succ, i64_w, i32_w]
          rfl
         refine take_ (i := 0) (N := some 35) (v := ?_) (a' := ?_) #[true, true, true, true, true, false, true, false, false, false, false, false, false] rfl rfl (take_ofW HT_.out HW_.out (by kernel_rfl)) (fun _ _ _ h => h) (Or.inl ⟨by rfl, ?_⟩) hHeld ?_ ?_
         rotate_left
         ·rintro w' ⟨s0, s1, s2, s3, s4⟩
          go_simp
          with_reducible rfl
         rotate_left
         ·simp only [Act.put, List.setIfInBounds_toArray, List.set_cons_zero, List.set_cons_succ, i64_w, i32_w]
          rfl
         refine take_ (i := 5) (N := some 40) (v := ?_) (a' := ?_) #[true, true, true, true, true, true, true, false, false, false, false, false, false] rfl rfl (take_ofW HT_.out HW_.out (by kernel_rfl)) (fun _ _ _ h => h) (Or.inl ⟨by rfl, ?_⟩) hHeld ?_ ?_
         rotate_left
         ·rintro w' ⟨s0, s1, s2, s3, s4⟩
          go_simp
          with_reducible rfl
         rotate_left
         ·simp only [Act.put, List.setIfInBounds_toArray, List.set_cons_zero, List.set_cons_succ, i64_w, i32_w]
          rfl
         refine one_ (i := 7) (N := some 42) #[true, true, true, true, true, true, true, true, false, false, false, false, false] rfl rfl (one_of HT_.out (by kernel_rfl)) (by decide) (fun K hK => ?_)
         refine goes_ Try.func17 (by kernel_rfl) rfl #[.agg #[.slice A0_0 l0_0.length c0_0, .int .i64 a0_1], .int .i64 ((rd_T46 l2 x11_1).f1), .int .i64 a1] (by rfl) rfl rfl argA ?_
         with_reducible refine (grain_Expired.calls k1 _ _ l0_0 a0_1 ((rd_T46 l2 x11_1).f1) a1 true t559 _ ?side1 ?side2 A18.out).mono ?_
         (case side1 => repeat (first | exact (Kd.C_below HR0_0.out HB.out) | (with_reducible refine Kd.C_alloc ?_ _) | (with_reducible refine Kd.C_drewN ?_ _) | (with_reducible refine Kd.C_drew ?_)))
         (case side2 => exact HC0_0.out)
         rintro e w22 ⟨rfl, hb⟩
         refine ⟨_, rfl, ?_⟩
         have n0_ := Aside0.mk (Kd.R_below (rowA HO_7.out) hb)
         have n1_ := Aside0.mk (blk_below (g := gb547) (o := .cells #[.slice A0_0 l0_0.length c0_0, .int .i64 a0_1] 24 (0, 0)) (blkA BK547.out) hb)
         have n2_ := Aside0.mk (blk_below (g := gb555) (o := .cells #[.int .u64 x556000_1, .bool x556001_1, .int .i64 x556002_1, .int .u64 x556003_1, .int .i64 x556004_1, .int .i64 x556005_1] 41 (0, 0)) (blkA BK555.out) hb)
         have n3_ := Aside0.mk (blk_below (g := gb556) (o := .cells #[.int .u64 0, .bool false, .int .i64 0, .int .u64 0, .int .i64 0, .int .i64 0] 41 (0, 0)) (blkA BK556.out) hb)
         have n4_ := Aside0.mk (below_step (belD HB.out GE547.out GE555.out GE556.out) hb)
         clear HO_7
         clear BK547
         clear BK555
         clear BK556
         clear HB
         have HO_7 := n0_
         have BK547 := n1_
         have BK555 := n2_
         have BK556 := n3_
         have HB := n4_
         clear n0_ n1_ n2_ n3_ n4_
         (try clear hb)
         (try clear hb2)
         (try clear hk)
         (try clear hi)
         refine hK.out _ _ ⟨(blk_cell BK547.out 0).trans rfl, (blk_cell BK547.out 1).trans rfl, ((HB.out.cell (World.block_lt_of_cell? w _ hw557_0)).trans hw557_0), ((HB.out.cell (World.block_lt_of_cell? w _ hw557_1)).trans hw557_1), ((HB.out.cell (World.block_lt_of_cell? w _ hw557_2)).trans hw557_2)⟩ (fun hHeld => ?_)
         clear hK K
         refine norm_ (a' := ?_) ?_ ?_
         rotate_left
         ·show Act.put _ (some 42) _ = _
          simp only [Act.put, List.setIfInBounds_toArray, List.set_cons_zero, List.set_cons_succ, i64_w, i32_w]
          rfl
         refine pure_ (i := 8) (N := some 34) (v := ?_) (a' := ?_) #[true, true, true, true, true, true, true, true, true, false, false, false, false] rfl rfl (any_of HT_.out (by kernel_rfl)) (fun _ _ _ h => h) (Or.inl ⟨by rfl, ?_⟩) ?_ ?_
         rotate_left
         ·intro w'
          go_simp
          with_reducible rfl
         rotate_left
         ·simp only [Act.put, List.setIfInBounds_toArray, List.set_cons_zero, List.set_cons_succ, i64_w, i32_w]
          rfl
         refine pure_ (i := 9) (N := some 43) (v := ?_) (a' := ?_) #[true, true, true, true, true, true, true, true, true, true, false, false, false] rfl rfl (any_of HT_.out (by kernel_rfl)) (fun _ _ _ h => h) (Or.inl ⟨by rfl, ?_⟩) ?_ ?_
         rotate_left
         ·intro w'
          go_simp
          with_reducible rfl
         rotate_left
         ·simp only [Act.put, List.setIfInBounds_toArray, List.set_cons_zero, List.set_cons_succ, i64_w, i32_w]
          rfl
         refine pure_ (i := 10) (N := some 44) (v := ?_) (a' := ?_) #[true, true, true, true, true, true, true, true, true, true, true, false, false] rfl rfl (any_of HT_.out (by kernel_rfl)) (fun _ _ _ h => h) (Or.inl ⟨by rfl, ?_⟩) ?_ ?_
         rotate_left
         ·intro w'
          go_simp
          with_reducible rfl
         rotate_left
         ·simp only [Act.put, List.setIfInBounds_toArray, List.set_cons_zero, List.set_cons_succ, i64_w, i32_w]
          rfl
         refine pure_ (i := 11) (N := some 12) (v := ?_) (a' := ?_) #[true, true, true, true, true, true, true, true, true, true, true, true, false] rfl rfl (any_of HT_.out (by kernel_rfl)) (fun _ _ _ h => h) (Or.inl ⟨by rfl, ?_⟩) ?_ ?_
         rotate_left
         ·intro w'
          go_simp
          with_reducible rfl
         rotate_left
         ·simp only [Act.put, List.setIfInBounds_toArray, List.set_cons_zero, List.set_cons_succ, i64_w, i32_w]
          rfl
         refine pure_ (i := 12) (N := some 13) (v := ?_) (a' := ?_) #[true, true, true, true, true, true, true, true, true, true, true, true, true] rfl rfl (any_of HT_.out (by kernel_rfl)) (fun _ _ _ h => h) (Or.inl ⟨by rfl, ?_⟩) ?_ ?_
         rotate_left
         ·intro w'
          go_simp
          with_reducible rfl
         rotate_left
         ·simp only [Act.put, List.setIfInBounds_toArray, List.set_cons_zero, List.set_cons_succ, i64_w, i32_w]
          rfl
         refine done_ (done_of HT_.out (by kernel_rfl)) ?_
         try go_wp2
         go_roundg k1
         case measure => have := HK1.out; omega
         case rel => exact ⟨(wrap64 (x11_1 + 1)), (x556000_1), (x556001_1), (x556002_1), (x556003_1), (x556004_1), (x556005_1), relA, H', ⟨by have := HK1.out; omega⟩, ⟨rowA HO_7.out⟩, ⟨blkA BK547.out⟩, ⟨blkA BK555.out⟩, ⟨blkA BK556.out⟩, ⟨belD HB.out GE547.out GE555.out GE556.out⟩⟩
        ·replace c20 := Bool.eq_false_iff.mpr c20
         subst c20
         have H1 : ((agg_One.f ((rd_T46 l2 x11_1).f2)).bind fun bt561 => ((agg_Merge.f x556000_1 x556001_1 x556002_1 x556003_1 x556004_1 x556005_1 bt561.1 bt561.2.1 bt561.2.2.1 bt561.2.2.2.1 bt561.2.2.2.2.1 bt561.2.2.2.2.2).bind fun bt567 => (rickyardlaw15_FoldKeeps.l0 k1 a1 l2 t550 (wrap64 (x11_1 + 1)) l0_0 a0_1 bt567.1 bt567.2.1 bt567.2.2.1 bt567.2.2.2.1 bt567.2.2.2.2.1 bt567.2.2.2.2.2 0 false 0 0 0 0))) = some r := by rw [if_neg (show ¬ (false = true) by decide)] at H; exact H
         clear H
         have H := H1
         clear H1
         replace H := Option.bind_eq_some_iff.mp H
         obtain ⟨⟨t561, t562, t563, t564, t565, t566⟩, A230, H⟩ := H
         replace H : ((agg_Merge.f x556000_1 x556001_1 x556002_1 x556003_1 x556004_1 x556005_1 t561 t562 t563 t564 t565 t566).bind fun bt567 => (rickyardlaw15_FoldKeeps.l0 k1 a1 l2 t550 (wrap64 (x11_1 + 1)) l0_0 a0_1 bt567.1 bt567.2.1 bt567.2.2.1 bt567.2.2.2.1 bt567.2.2.2.2.1 bt567.2.2.2.2.2 0 false 0 0 0 0)) = some r := H
         have A23 := Aside0.mk A230
         clear A230
         replace H := Option.bind_eq_some_iff.mp H
         obtain ⟨⟨t567, t568, t569, t570, t571, t572⟩, A240, H⟩ := H
         replace H : (rickyardlaw15_FoldKeeps.l0 k1 a1 l2 t550 (wrap64 (x11_1 + 1)) l0_0 a0_1 t567 t568 t569 t570 t571 t572 0 false 0 0 0 0) = some r := H
         have A24 := Aside0.mk A240
         clear A240
         have H' := Aside0.mk H
         clear H
         try go_wp2
         have n0_ := Aside0.mk (Kd.R_drew HO_7.out)
         have n1_ := Aside0.mk (blk_drew BK547.out)
         have n2_ := Aside0.mk (blk_drew BK555.out)
         have n3_ := Aside0.mk (blk_drew BK556.out)
         have n4_ := Aside0.mk (below_drew1 HB.out)
         clear HO_7
         clear BK547
         clear BK555
         clear BK556
         clear HB
         have HO_7 := n0_
         have BK547 := n1_
         have BK555 := n2_
         have BK556 := n3_
         have HB := n4_
         clear n0_ n1_ n2_ n3_ n4_
         have p557 : 0 ≤ (x11_1 : Int) := of_decide_eq_true asmA
         have q557 : x11_1 < (l2.length : Int) := of_decide_eq_true asmA
         obtain ⟨ad557, A557_0, c557_0, e557, hx557_0, hx557_1, hx557_2, hl557_0, hi557_0⟩ := at_T46 HR2.out x11_1 p557 q557
         have hw557_2 := hx557_2
         have hw557_1 := hx557_1
         have hw557_0 := hx557_0
         cases e557
         replace hx557_0 := (HB.out.cell (World.block_lt_of_cell? w _ hx557_0)).trans hx557_0
         replace hx557_1 := (HB.out.cell (World.block_lt_of_cell? w _ hx557_1)).trans hx557_1
         replace hx557_2 := (HB.out.cell (World.block_lt_of_cell? w _ hx557_2)).trans hx557_2
         have HR557_0 := Aside0.mk hi557_0
         have HC557_0 := Aside0.mk hl557_0
         clear hi557_0 hl557_0
         replace p557 := eq_true p557
         replace q557 := eq_true q557
         refine start_ (n := 13) (S := fun w' => w'.cell? ⟨gb547, 0, none⟩ = some (.slice A0_0 l0_0.length c0_0) ∧ w'.cell? ⟨gb547, 1, none⟩ = some (.int .i64 a0_1) ∧ w'.cell? (ad557.add ((x11_1).toNat * 3)) = some (.slice A557_0 ((rd_T46 l2 x11_1).f0).length c557_0) ∧ w'.cell? ⟨(ad557.add ((x11_1).toNat * 3)).block, (ad557.add ((x11_1).toNat * 3)).off + 1, none⟩ = some (.int .i64 ((rd_T46 l2 x11_1).f1)) ∧ w'.cell? ⟨(ad557.add ((x11_1).toNat * 3)).block, (ad557.add ((x11_1).toNat * 3)).off + 2, none⟩ = some (.int .i64 ((rd_T46 l2 x11_1).f2))) (ds := []) #[false, false, false, false, false, false, false, false, false, false, false, false, false] (by kernel_rfl) rfl rfl ⟨(blk_cell BK547.out 0).trans rfl, (blk_cell BK547.out 1).trans rfl, ((HB.out.cell (World.block_lt_of_cell? w _ hw557_0)).trans hw557_0), ((HB.out.cell (World.block_lt_of_cell? w _ hw557_1)).trans hw557_1), ((HB.out.cell (World.block_lt_of_cell? w _ hw557_2)).trans hw557_2)⟩ (fun hHeld => ?_); refine with_tabW rickyardlaw15_FoldKeeps.tab10 rickyardlaw15_FoldKeeps.bits10 (fun HT_ HW_ => ?_)
         generalize wr.drew = w25 at HO_7 BK547 BK555 BK556 HB HR557_0 hx557_0 hx557_1 hx557_2 hHeld ⊢
         refine pure_ (i := 1) (N := some 36) (v := ?_) (a' := ?_) #[false, true, false, false, false, false, false, false, false, false, false, false, false] rfl rfl (any_of HT_.out (by kernel_rfl)) (fun _ _ _ h => h) (Or.inl ⟨by rfl, ?_⟩) ?_ ?_
         rotate_left
         ·intro w'
          go_simp
          with_reducible rfl
         rotate_left
         ·simp only [Act.put, List.setIfInBounds_toArray, List.set_cons_zero, List.set_cons_succ, i64_w, i32_w]
          rfl
         refine pure_ (i := 2) (N := some 37) (v := ?_) (a' := ?_) #[false, true, true, false, false, false, false, false, false, false, false, false, false] rfl rfl (any_of HT_.out (by kernel_rfl)) (fun _ _ _ h => h) (Or.inl ⟨by rfl, ?_⟩) ?_ ?_
         rotate_left
         ·intro w'
          go_simp
          with_reducible rfl
         rotate_left
         ·simp only [Act.put, List.setIfInBounds_toArray, List.set_cons_zero, List.set_cons_succ, i64_w, i32_w]
          rfl
         refine pure_ (i := 3) (N := some 38) (v := ?_) (a' := ?_) #[false, true, true, true, false, false, false, false, false, false, false, false, false] rfl rfl (any_of HT_.out (by kernel_rfl)) (fun _ _ _ h => h) (Or.inl ⟨by rfl, ?_⟩) ?_ ?_
         rotate_left
         ·intro w'
          go_simp
          with_reducible rfl
         rotate_left
         ·simp only [Act.put, List.setIfInBounds_toArray, List.set_cons_zero, List.set_cons_succ, i64_w, i32_w]
          rfl
         refine pure_ (i := 4) (N := some 39) (v := ?_) (a' := ?_) #[false, true, true, true, true, false, false, false, false, false, false, false, false] rfl rfl (any_of HT_.out (by kernel_rfl)) (fun _ _ _ h => h) (Or.inl ⟨by rfl, ?_⟩) ?_ ?_
         rotate_left
         ·intro w'
          go_simp
          with_reducible rfl
         rotate_left
         ·simp only [Act.put, List.setIfInBounds_toArray, List.set_cons_zero, List.set_cons_succ, i64_w, i32_w]
          rfl
         refine pure_ (i := 6) (N := some 41) (v := ?_) (a' := ?_) #[false, true, true, true, true, false, true, false, false, false, false, false, false] rfl rfl (any_of HT_.out (by kernel_rfl)) (fun _ _ _ h => h) (Or.inl ⟨by rfl, ?_⟩) ?_ ?_
         rotate_left
         ·intro w'
          go_simp
          with_reducible rfl
         rotate_left
         ·simp only [Act.put, List.setIfInBounds_toArray, List.set_cons_zero, List.set_cons_succ, i64_w, i32_w]
          rfl
         refine take_ (i := 0) (N := some 35) (v := ?_) (a' := ?_) #[true, true, true, true, true, false, true, false, false, false, false, false, false] rfl rfl (take_ofW HT_.out HW_.out (by kernel_rfl)) (fun _ _ _ h => h) (Or.inl ⟨by rfl, ?_⟩) hHeld ?_ ?_
         rotate_left
         ·rintro w' ⟨s0, s1, s2, s3, s4⟩
          go_simp
          with_reducible rfl
         rotate_left
         ·simp only [Act.put, List.setIfInBounds_toArray, List.set_cons_zero, List.set_cons_succ, i64_w, i32_w]
          rfl
         refine take_ (i := 5) (N := some 40) (v := ?_) (a' := ?_) #[true, true, true, true, true, true, true, false, false, false, false, false, false] rfl rfl (take_ofW HT_.out HW_.out (by kernel_rfl)) (fun _ _ _ h => h) (Or.inl ⟨by rfl, ?_⟩) hHeld ?_ ?_
         rotate_left
         ·rintro w' ⟨s0, s1, s2, s3, s4⟩
          go_simp
          with_reducible rfl
         rotate_left
         ·simp only [Act.put, List.setIfInBounds_toArray, List.set_cons_zero, List.set_cons_succ, i64_w, i32_w]
          rfl
         refine one_ (i := 7) (N := some 42) #[true, true, true, true, true, true, true, true, false, false, false, false, false] rfl rfl (one_of HT_.out (by kernel_rfl)) (by decide) (fun K hK => ?_)
         refine goes_ Try.func17 (by kernel_rfl) rfl #[.agg #[.slice A0_0 l0_0.length c0_0, .int .i64 a0_1], .int .i64 ((rd_T46 l2 x11_1).f1), .int .i64 a1] (by rfl) rfl rfl argA ?_
         with_reducible refine (grain_Expired.calls k1 _ _ l0_0 a0_1 ((rd_T46 l2 x11_1).f1) a1 false t559 _ ?side1 ?side2 A18.out).mono ?_
         (case side1 => repeat (first | exact (Kd.C_below HR0_0.out HB.out) | (with_reducible refine Kd.C_alloc ?_ _) | (with_reducible refine Kd.C_drewN ?_ _) | (with_reducible refine Kd.C_drew ?_)))
         (case side2 => exact HC0_0.out)
         rintro e w26 ⟨rfl, hb⟩
         refine ⟨_, rfl, ?_⟩
         have n0_ := Aside0.mk (Kd.R_below (rowA HO_7.out) hb)
         have n1_ := Aside0.mk (blk_below (g := gb547) (o := .cells #[.slice A0_0 l0_0.length c0_0, .int .i64 a0_1] 24 (0, 0)) (blkA BK547.out) hb)
         have n2_ := Aside0.mk (blk_below (g := gb555) (o := .cells #[.int .u64 x556000_1, .bool x556001_1, .int .i64 x556002_1, .int .u64 x556003_1, .int .i64 x556004_1, .int .i64 x556005_1] 41 (0, 0)) (blkA BK555.out) hb)
         have n3_ := Aside0.mk (blk_below (g := gb556) (o := .cells #[.int .u64 0, .bool false, .int .i64 0, .int .u64 0, .int .i64 0, .int .i64 0] 41 (0, 0)) (blkA BK556.out) hb)
         have n4_ := Aside0.mk (below_step (belD HB.out GE547.out GE555.out GE556.out) hb)
         clear HO_7
         clear BK547
         clear BK555
         clear BK556
         clear HB
         have HO_7 := n0_
         have BK547 := n1_
         have BK555 := n2_
         have BK556 := n3_
         have HB := n4_
         clear n0_ n1_ n2_ n3_ n4_
         (try clear hb)
         (try clear hb2)
         (try clear hk)
         (try clear hi)
         refine hK.out _ _ ⟨(blk_cell BK547.out 0).trans rfl, (blk_cell BK547.out 1).trans rfl, ((HB.out.cell (World.block_lt_of_cell? w _ hw557_0)).trans hw557_0), ((HB.out.cell (World.block_lt_of_cell? w _ hw557_1)).trans hw557_1), ((HB.out.cell (World.block_lt_of_cell? w _ hw557_2)).trans hw557_2)⟩ (fun hHeld => ?_)
         clear hK K
         refine norm_ (a' := ?_) ?_ ?_
         rotate_left
         ·show Act.put _ (some 42) _ = _
          simp only [Act.put, List.setIfInBounds_toArray, List.set_cons_zero, List.set_cons_succ, i64_w, i32_w]
          rfl
         refine pure_ (i := 8) (N := some 34) (v := ?_) (a' := ?_) #[true, true, true, true, true, true, true, true, true, false, false, false, false] rfl rfl (any_of HT_.out (by kernel_rfl)) (fun _ _ _ h => h) (Or.inl ⟨by rfl, ?_⟩) ?_ ?_
         rotate_left
         ·intro w'
          go_simp
          with_reducible rfl
         rotate_left
         ·simp only [Act.put, List.setIfInBounds_toArray, List.set_cons_zero, List.set_cons_succ, i64_w, i32_w]
          rfl
         refine pure_ (i := 9) (N := some 43) (v := ?_) (a' := ?_) #[true, true, true, true, true, true, true, true, true, true, false, false, false] rfl rfl (any_of HT_.out (by kernel_rfl)) (fun _ _ _ h => h) (Or.inl ⟨by rfl, ?_⟩) ?_ ?_
         rotate_left
         ·intro w'
          go_simp
          with_reducible rfl
         rotate_left
         ·simp only [Act.put, List.setIfInBounds_toArray, List.set_cons_zero, List.set_cons_succ, i64_w, i32_w]
          rfl
         refine pure_ (i := 10) (N := some 44) (v := ?_) (a' := ?_) #[true, true, true, true, true, true, true, true, true, true, true, false, false] rfl rfl (any_of HT_.out (by kernel_rfl)) (fun _ _ _ h => h) (Or.inl ⟨by rfl, ?_⟩) ?_ ?_
         rotate_left
         ·intro w'
          go_simp
          with_reducible rfl
         rotate_left
         ·simp only [Act.put, List.setIfInBounds_toArray, List.set_cons_zero, List.set_cons_succ, i64_w, i32_w]
          rfl
         refine pure_ (i := 11) (N := some 12) (v := ?_) (a' := ?_) #[true, true, true, true, true, true, true, true, true, true, true, true, false] rfl rfl (any_of HT_.out (by kernel_rfl)) (fun _ _ _ h => h) (Or.inl ⟨by rfl, ?_⟩) ?_ ?_
         rotate_left
         ·intro w'
          go_simp
          with_reducible rfl
         rotate_left
         ·simp only [Act.put, List.setIfInBounds_toArray, List.set_cons_zero, List.set_cons_succ, i64_w, i32_w]
          rfl
         refine pure_ (i := 12) (N := some 13) (v := ?_) (a' := ?_) #[true, true, true, true, true, true, true, true, true, true, true, true, true] rfl rfl (any_of HT_.out (by kernel_rfl)) (fun _ _ _ h => h) (Or.inl ⟨by rfl, ?_⟩) ?_ ?_
         rotate_left
         ·intro w'
          go_simp
          with_reducible rfl
         rotate_left
         ·simp only [Act.put, List.setIfInBounds_toArray, List.set_cons_zero, List.set_cons_succ, i64_w, i32_w]
          rfl
         refine done_ (done_of HT_.out (by kernel_rfl)) ?_
         try go_wp2
         have n0_ := Aside0.mk (Kd.R_drew HO_7.out)
         have n1_ := Aside0.mk (blk_drew BK547.out)
         have n2_ := Aside0.mk (blk_drew BK555.out)
         have n3_ := Aside0.mk (blk_drew BK556.out)
         have n4_ := Aside0.mk (below_drew1 HB.out)
         clear HO_7
         clear BK547
         clear BK555
         clear BK556
         clear HB
         have HO_7 := n0_
         have BK547 := n1_
         have BK555 := n2_
         have BK556 := n3_
         have HB := n4_
         clear n0_ n1_ n2_ n3_ n4_
         have p560 : 0 ≤ (x11_1 : Int) := of_decide_eq_true asmA
         have q560 : x11_1 < (l2.length : Int) := of_decide_eq_true asmA
         obtain ⟨ad560, A560_0, c560_0, e560, hx560_0, hx560_1, hx560_2, hl560_0, hi560_0⟩ := at_T46 HR2.out x11_1 p560 q560
         have hw560_2 := hx560_2
         have hw560_1 := hx560_1
         have hw560_0 := hx560_0
         obtain rfl : ad557 = ad560 := (by injection e560)
         replace hx560_0 := (HB.out.cell (World.block_lt_of_cell? w _ hx560_0)).trans hx560_0
         replace hx560_1 := (HB.out.cell (World.block_lt_of_cell? w _ hx560_1)).trans hx560_1
         replace hx560_2 := (HB.out.cell (World.block_lt_of_cell? w _ hx560_2)).trans hx560_2
         have HR560_0 := Aside0.mk hi560_0
         have HC560_0 := Aside0.mk hl560_0
         clear hi560_0 hl560_0
         replace p560 := eq_true p560
         replace q560 := eq_true q560
         refine start_ (n := 9) (S := fun w' => w'.cell? ⟨gb555, 0, none⟩ = some (.int .u64 x556000_1) ∧ w'.cell? ⟨gb555, 1, none⟩ = some (.bool x556001_1) ∧ w'.cell? ⟨gb555, 2, none⟩ = some (.int .i64 x556002_1) ∧ w'.cell? ⟨gb555, 3, none⟩ = some (.int .u64 x556003_1) ∧ w'.cell? ⟨gb555, 4, none⟩ = some (.int .i64 x556004_1) ∧ w'.cell? ⟨gb555, 5, none⟩ = some (.int .i64 x556005_1) ∧ w'.cell? (ad557.add ((x11_1).toNat * 3)) = some (.slice A560_0 ((rd_T46 l2 x11_1).f0).length c560_0) ∧ w'.cell? ⟨(ad557.add ((x11_1).toNat * 3)).block, (ad557.add ((x11_1).toNat * 3)).off + 1, none⟩ = some (.int .i64 ((rd_T46 l2 x11_1).f1)) ∧ w'.cell? ⟨(ad557.add ((x11_1).toNat * 3)).block, (ad557.add ((x11_1).toNat * 3)).off + 2, none⟩ = some (.int .i64 ((rd_T46 l2 x11_1).f2))) (ds := [8]) #[false, false, false, false, false, false, false, false, false] (by kernel_rfl) rfl rfl ⟨(blk_cell BK555.out 0).trans rfl, (blk_cell BK555.out 1).trans rfl, (blk_cell BK555.out 2).trans rfl, (blk_cell BK555.out 3).trans rfl, (blk_cell BK555.out 4).trans rfl, (blk_cell BK555.out 5).trans rfl, ((HB.out.cell (World.block_lt_of_cell? w _ hw560_0)).trans hw560_0), ((HB.out.cell (World.block_lt_of_cell? w _ hw560_1)).trans hw560_1), ((HB.out.cell (World.block_lt_of_cell? w _ hw560_2)).trans hw560_2)⟩ (fun hHeld => ?_); refine with_tabW rickyardlaw15_FoldKeeps.tab14 rickyardlaw15_FoldKeeps.bits14 (fun HT_ HW_ => ?_)
         generalize w26.drew = w27 at HO_7 BK547 BK555 BK556 HB HR560_0 hx560_0 hx560_1 hx560_2 hHeld ⊢
         refine pure_ (i := 1) (N := some 50) (v := ?_) (a' := ?_) #[false, true, false, false, false, false, false, false, false] rfl rfl (any_of HT_.out (by kernel_rfl)) (fun _ _ _ h => h) (Or.inl ⟨by rfl, ?_⟩) ?_ ?_
         rotate_left
         ·intro w'
          go_simp
          with_reducible rfl
         rotate_left
         ·simp only [Act.put, List.setIfInBounds_toArray, List.set_cons_zero, List.set_cons_succ, i64_w, i32_w]
          rfl
         refine pure_ (i := 2) (N := some 51) (v := ?_) (a' := ?_) #[false, true, true, false, false, false, false, false, false] rfl rfl (any_of HT_.out (by kernel_rfl)) (fun _ _ _ h => h) (Or.inl ⟨by rfl, ?_⟩) ?_ ?_
         rotate_left
         ·intro w'
          go_simp
          with_reducible rfl
         rotate_left
         ·simp only [Act.put, List.setIfInBounds_toArray, List.set_cons_zero, List.set_cons_succ, i64_w, i32_w]
          rfl
         refine pure_ (i := 3) (N := some 52) (v := ?_) (a' := ?_) #[false, true, true, true, false, false, false, false, false] rfl rfl (any_of HT_.out (by kernel_rfl)) (fun _ _ _ h => h) (Or.inl ⟨by rfl, ?_⟩) ?_ ?_
         rotate_left
         ·intro w'
          go_simp
          with_reducible rfl
         rotate_left
         ·simp only [Act.put, List.setIfInBounds_toArray, List.set_cons_zero, List.set_cons_succ, i64_w, i32_w]
          rfl
         refine pure_ (i := 4) (N := some 53) (v := ?_) (a' := ?_) #[false, true, true, true, true, false, false, false, false] rfl rfl (any_of HT_.out (by kernel_rfl)) (fun _ _ _ h => h) (Or.inl ⟨by rfl, ?_⟩) ?_ ?_
         rotate_left
         ·intro w'
          go_simp
          with_reducible rfl
         rotate_left
         ·simp only [Act.put, List.setIfInBounds_toArray, List.set_cons_zero, List.set_cons_succ, i64_w, i32_w]
          rfl
         refine take_ (i := 0) (N := some 49) (v := ?_) (a' := ?_) #[true, true, true, true, true, false, false, false, false] rfl rfl (take_ofW HT_.out HW_.out (by kernel_rfl)) (fun _ _ _ h => h) (Or.inl ⟨by rfl, ?_⟩) hHeld ?_ ?_
         rotate_left
         ·rintro w' ⟨s0, s1, s2, s3, s4, s5, s6, s7, s8⟩
          go_simp
          with_reducible rfl
         rotate_left
         ·simp only [Act.put, List.setIfInBounds_toArray, List.set_cons_zero, List.set_cons_succ, i64_w, i32_w]
          rfl
         refine take_ (i := 5) (N := some 54) (v := ?_) (a' := ?_) #[true, true, true, true, true, true, false, false, false] rfl rfl (take_ofW HT_.out HW_.out (by kernel_rfl)) (fun _ _ _ h => h) (Or.inl ⟨by rfl, ?_⟩) hHeld ?_ ?_
         rotate_left
         ·rintro w' ⟨s0, s1, s2, s3, s4, s5, s6, s7, s8⟩
          go_simp
          with_reducible rfl
         rotate_left
         ·simp only [Act.put, List.setIfInBounds_toArray, List.set_cons_zero, List.set_cons_succ, i64_w, i32_w]
          rfl
         refine one_ (i := 6) (N := some 55) #[true, true, true, true, true, true, true, false, false] rfl rfl (one_of HT_.out (by kernel_rfl)) (by decide) (fun K hK => ?_)
         refine goes_ Try.func19 (by kernel_rfl) rfl #[.int .i64 ((rd_T46 l2 x11_1).f2)] (by rfl) rfl rfl argA ?_
         with_reducible refine (agg_One.calls ((rd_T46 l2 x11_1).f2) t561 t562 t563 t564 t565 t566 _ A23.out).mono ?_
         rintro e w28 ⟨rfl, hb⟩
         refine ⟨_, rfl, ?_⟩
         have n0_ := Aside0.mk (Kd.R_below (rowA HO_7.out) hb)
         have n1_ := Aside0.mk (blk_below (g := gb547) (o := .cells #[.slice A0_0 l0_0.length c0_0, .int .i64 a0_1] 24 (0, 0)) (blkA BK547.out) hb)
         have n2_ := Aside0.mk (blk_below (g := gb555) (o := .cells #[.int .u64 x556000_1, .bool x556001_1, .int .i64 x556002_1, .int .u64 x556003_1, .int .i64 x556004_1, .int .i64 x556005_1] 41 (0, 0)) (blkA BK555.out) hb)
         have n3_ := Aside0.mk (blk_below (g := gb556) (o := .cells #[.int .u64 0, .bool false, .int .i64 0, .int .u64 0, .int .i64 0, .int .i64 0] 41 (0, 0)) (blkA BK556.out) hb)
         have n4_ := Aside0.mk (below_step (belD HB.out GE547.out GE555.out GE556.out) hb)
         clear HO_7
         clear BK547
         clear BK555
         clear BK556
         clear HB
         have HO_7 := n0_
         have BK547 := n1_
         have BK555 := n2_
         have BK556 := n3_
         have HB := n4_
         clear n0_ n1_ n2_ n3_ n4_
         (try clear hb)
         (try clear hb2)
         (try clear hk)
         (try clear hi)
         refine hK.out _ _ ⟨(blk_cell BK555.out 0).trans rfl, (blk_cell BK555.out 1).trans rfl, (blk_cell BK555.out 2).trans rfl, (blk_cell BK555.out 3).trans rfl, (blk_cell BK555.out 4).trans rfl, (blk_cell BK555.out 5).trans rfl, ((HB.out.cell (World.block_lt_of_cell? w _ hw560_0)).trans hw560_0), ((HB.out.cell (World.block_lt_of_cell? w _ hw560_1)).trans hw560_1), ((HB.out.cell (World.block_lt_of_cell? w _ hw560_2)).trans hw560_2)⟩ (fun hHeld => ?_)
         clear hK K
         refine norm_ (a' := ?_) ?_ ?_
         rotate_left
         ·show Act.put _ (some 55) _ = _
          simp only [Act.put, List.setIfInBounds_toArray, List.set_cons_zero, List.set_cons_succ, i64_w, i32_w]
          rfl
         refine one_ (i := 7) (N := some 56) #[true, true, true, true, true, true, true, true, false] rfl rfl (one_of HT_.out (by kernel_rfl)) (by decide) (fun K hK => ?_)
         refine goes_ Try.func18 (by kernel_rfl) rfl #[.agg #[.int .u64 x556000_1, .bool x556001_1, .int .i64 x556002_1, .int .u64 x556003_1, .int .i64 x556004_1, .int .i64 x556005_1], .agg #[.int .u64 t561, .bool t562, .int .i64 t563, .int .u64 t564, .int .i64 t565, .int .i64 t566]] (by rfl) rfl rfl argA ?_
         with_reducible refine (agg_Merge.calls x556000_1 x556001_1 x556002_1 x556003_1 x556004_1 x556005_1 t561 t562 t563 t564 t565 t566 t567 t568 t569 t570 t571 t572 _ A24.out).mono ?_
         rintro e w29 ⟨rfl, hb⟩
         refine ⟨_, rfl, ?_⟩
         have n0_ := Aside0.mk (Kd.R_below (rowA HO_7.out) hb)
         have n1_ := Aside0.mk (blk_below (g := gb547) (o := .cells #[.slice A0_0 l0_0.length c0_0, .int .i64 a0_1] 24 (0, 0)) (blkA BK547.out) hb)
         have n2_ := Aside0.mk (blk_below (g := gb555) (o := .cells #[.int .u64 x556000_1, .bool x556001_1, .int .i64 x556002_1, .int .u64 x556003_1, .int .i64 x556004_1, .int .i64 x556005_1] 41 (0, 0)) (blkA BK555.out) hb)
         have n3_ := Aside0.mk (blk_below (g := gb556) (o := .cells #[.int .u64 0, .bool false, .int .i64 0, .int .u64 0, .int .i64 0, .int .i64 0] 41 (0, 0)) (blkA BK556.out) hb)
         have n4_ := Aside0.mk (below_step (belD HB.out GE547.out GE555.out GE556.out) hb)
         clear HO_7
         clear BK547
         clear BK555
         clear BK556
         clear HB
         have HO_7 := n0_
         have BK547 := n1_
         have BK555 := n2_
         have BK556 := n3_
         have HB := n4_
         clear n0_ n1_ n2_ n3_ n4_
         (try clear hb)
         (try clear hb2)
         (try clear hk)
         (try clear hi)
         refine hK.out _ _ ⟨(blk_cell BK555.out 0).trans rfl, (blk_cell BK555.out 1).trans rfl, (blk_cell BK555.out 2).trans rfl, (blk_cell BK555.out 3).trans rfl, (blk_cell BK555.out 4).trans rfl, (blk_cell BK555.out 5).trans rfl, ((HB.out.cell (World.block_lt_of_cell? w _ hw560_0)).trans hw560_0), ((HB.out.cell (World.block_lt_of_cell? w _ hw560_1)).trans hw560_1), ((HB.out.cell (World.block_lt_of_cell? w _ hw560_2)).trans hw560_2)⟩ (fun hHeld => ?_)
         clear hK K
         refine norm_ (a' := ?_) ?_ ?_
         rotate_left
         ·show Act.put _ (some 56) _ = _
          simp only [Act.put, List.setIfInBounds_toArray, List.set_cons_zero, List.set_cons_succ, i64_w, i32_w]
          rfl
         refine last_ (i := 8) (N := none) #[true, true, true, true, true, true, true, true, true] rfl rfl (one_of HT_.out (by kernel_rfl)) (by decide) (fun K hK => ?_)
         have hs30 : w29.cell? ⟨gb555, 0, none⟩ = some (.int .u64 x556000_1) := (blk_cell BK555.out 0).trans rfl
         have hfs30 := blk_frozen BK555.out 0
         have hns30_0 := NB547_555.out
         have hns30_2 := NB556_555.out
         have hms30_0 := NB555_547.out
         have hms30_2 := NB555_556.out
         have hs31 : w29.cell? ⟨gb555, 1, none⟩ = some (.bool x556001_1) := (blk_cell BK555.out 1).trans rfl
         have hfs31 := blk_frozen BK555.out 1
         have hns31_0 := NB547_555.out
         have hns31_2 := NB556_555.out
         have hms31_0 := NB555_547.out
         have hms31_2 := NB555_556.out
         have hs32 : w29.cell? ⟨gb555, 2, none⟩ = some (.int .i64 x556002_1) := (blk_cell BK555.out 2).trans rfl
         have hfs32 := blk_frozen BK555.out 2
         have hns32_0 := NB547_555.out
         have hns32_2 := NB556_555.out
         have hms32_0 := NB555_547.out
         have hms32_2 := NB555_556.out
         have hs33 : w29.cell? ⟨gb555, 3, none⟩ = some (.int .u64 x556003_1) := (blk_cell BK555.out 3).trans rfl
         have hfs33 := blk_frozen BK555.out 3
         have hns33_0 := NB547_555.out
         have hns33_2 := NB556_555.out
         have hms33_0 := NB555_547.out
         have hms33_2 := NB555_556.out
         have hs34 : w29.cell? ⟨gb555, 4, none⟩ = some (.int .i64 x556004_1) := (blk_cell BK555.out 4).trans rfl
         have hfs34 := blk_frozen BK555.out 4
         have hns34_0 := NB547_555.out
         have hns34_2 := NB556_555.out
         have hms34_0 := NB555_547.out
         have hms34_2 := NB555_556.out
         have hs35 : w29.cell? ⟨gb555, 5, none⟩ = some (.int .i64 x556005_1) := (blk_cell BK555.out 5).trans rfl
         have hfs35 := blk_frozen BK555.out 5
         have hns35_0 := NB547_555.out
         have hns35_2 := NB556_555.out
         have hms35_0 := NB555_547.out
         have hms35_2 := NB555_556.out
         refine skip_ (w1 := ?_) (by rfl) rfl ?_ ?_
         rotate_left
         ·go_simp
          rfl
         refine hK.out _ _ ?_
         clear hK K
         refine done_ (done_of HT_.out (by kernel_rfl)) ?_
         try go_wp2
         go_roundg k1
         case measure => have := HK1.out; omega
         case rel => exact ⟨(wrap64 (x11_1 + 1)), (t567), (t568), (t569), (t570), (t571), (t572), relA, H', ⟨by have := HK1.out; omega⟩, ⟨by (with_reducible repeat (first | apply Kd.R_alloc | apply Kd.R_drewN | apply Kd.R_drew)); exact Kd.R_mono (Kd.R_far (p := ⟨gb555, 5, none⟩) (Kd.R_far (p := ⟨gb555, 4, none⟩) (Kd.R_far (p := ⟨gb555, 3, none⟩) (Kd.R_far (p := ⟨gb555, 2, none⟩) (Kd.R_far (p := ⟨gb555, 1, none⟩) (Kd.R_far (p := ⟨gb555, 0, none⟩) (Kd.R_types HO_7.out BK555.out (by decide)) (fun _ hk => hk.2) (.int .u64 t567)) (fun _ hk => hk.2) (.bool t568)) (fun _ hk => hk.2) (.int .i64 t569)) (fun _ hk => hk.2) (.int .u64 t570)) (fun _ hk => hk.2) (.int .i64 t571)) (fun _ hk => hk.2) (.int .i64 t572)) (fun _ hk => trivial)⟩, ⟨by (with_reducible repeat (first | refine blk_drewN ?_ _ | refine blk_drew ?_ | refine blk_alloc ?_ _)); refine blk_far ?_ NB547_555.out _; (with_reducible repeat (first | refine blk_drewN ?_ _ | refine blk_drew ?_ | refine blk_alloc ?_ _)); refine blk_far ?_ NB547_555.out _; (with_reducible repeat (first | refine blk_drewN ?_ _ | refine blk_drew ?_ | refine blk_alloc ?_ _)); refine blk_far ?_ NB547_555.out _; (with_reducible repeat (first | refine blk_drewN ?_ _ | refine blk_drew ?_ | refine blk_alloc ?_ _)); refine blk_far ?_ NB547_555.out _; (with_reducible repeat (first | refine blk_drewN ?_ _ | refine blk_drew ?_ | refine blk_alloc ?_ _)); refine blk_far ?_ NB547_555.out _; (with_reducible repeat (first | refine blk_drewN ?_ _ | refine blk_drew ?_ | refine blk_alloc ?_ _)); refine blk_far ?_ NB547_555.out _; (with_reducible repeat (first | refine blk_drewN ?_ _ | refine blk_drew ?_ | refine blk_alloc ?_ _)); exact BK547.out⟩, ⟨by (with_reducible repeat (first | refine blk_drewN ?_ _ | refine blk_drew ?_ | refine blk_alloc ?_ _)); refine blk_put (cs := #[.int .u64 t567, .bool t568, .int .i64 t569, .int .u64 t570, .int .i64 t571, .int .i64 x556005_1]) ?_ 5 _ rfl; (with_reducible repeat (first | refine blk_drewN ?_ _ | refine blk_drew ?_ | refine blk_alloc ?_ _)); refine blk_put (cs := #[.int .u64 t567, .bool t568, .int .i64 t569, .int .u64 t570, .int .i64 x556004_1, .int .i64 x556005_1]) ?_ 4 _ rfl; (with_reducible repeat (first | refine blk_drewN ?_ _ | refine blk_drew ?_ | refine blk_alloc ?_ _)); refine blk_put (cs := #[.int .u64 t567, .bool t568, .int .i64 t569, .int .u64 x556003_1, .int .i64 x556004_1, .int .i64 x556005_1]) ?_ 3 _ rfl; (with_reducible repeat (first | refine blk_drewN ?_ _ | refine blk_drew ?_ | refine blk_alloc ?_ _)); refine blk_put (cs := #[.int .u64 t567, .bool t568, .int .i64 x556002_1, .int .u64 x556003_1, .int .i64 x556004_1, .int .i64 x556005_1]) ?_ 2 _ rfl; (with_reducible repeat (first | refine blk_drewN ?_ _ | refine blk_drew ?_ | refine blk_alloc ?_ _)); refine blk_put (cs := #[.int .u64 t567, .bool x556001_1, .int .i64 x556002_1, .int .u64 x556003_1, .int .i64 x556004_1, .int .i64 x556005_1]) ?_ 1 _ rfl; (with_reducible repeat (first | refine blk_drewN ?_ _ | refine blk_drew ?_ | refine blk_alloc ?_ _)); refine blk_put (cs := #[.int .u64 x556000_1, .bool x556001_1, .int .i64 x556002_1, .int .u64 x556003_1, .int .i64 x556004_1, .int .i64 x556005_1]) ?_ 0 _ rfl; (with_reducible repeat (first | refine blk_drewN ?_ _ | refine blk_drew ?_ | refine blk_alloc ?_ _)); exact BK555.out⟩, ⟨by (with_reducible repeat (first | refine blk_drewN ?_ _ | refine blk_drew ?_ | refine blk_alloc ?_ _)); refine blk_far ?_ NB556_555.out _; (with_reducible repeat (first | refine blk_drewN ?_ _ | refine blk_drew ?_ | refine blk_alloc ?_ _)); refine blk_far ?_ NB556_555.out _; (with_reducible repeat (first | refine blk_drewN ?_ _ | refine blk_drew ?_ | refine blk_alloc ?_ _)); refine blk_far ?_ NB556_555.out _; (with_reducible repeat (first | refine blk_drewN ?_ _ | refine blk_drew ?_ | refine blk_alloc ?_ _)); refine blk_far ?_ NB556_555.out _; (with_reducible repeat (first | refine blk_drewN ?_ _ | refine blk_drew ?_ | refine blk_alloc ?_ _)); refine blk_far ?_ NB556_555.out _; (with_reducible repeat (first | refine blk_drewN ?_ _ | refine blk_drew ?_ | refine blk_alloc ?_ _)); refine blk_far ?_ NB556_555.out _; (with_reducible repeat (first | refine blk_drewN ?_ _ | refine blk_drew ?_ | refine blk_alloc ?_ _)); exact BK556.out⟩, ⟨belD HB.out GE547.out GE555.out GE556.out⟩⟩
       ·rw [if_neg c19] at H
        have c19b0 : (t559 == 0) = false := beq_eq_false_iff_ne.mpr c19
        have c19b1 : (t559 != 0) = true := bne_iff_ne.mpr c19
        obtain rfl := Option.some.inj H
        try go_wp2
        have n0_ := Aside0.mk (Kd.R_drew HO_7.out)
        have n1_ := Aside0.mk (blk_drew BK547.out)
        have n2_ := Aside0.mk (blk_drew BK555.out)
        have n3_ := Aside0.mk (blk_drew BK556.out)
        have n4_ := Aside0.mk (below_drew1 HB.out)
        clear HO_7
        clear BK547
        clear BK555
        clear BK556
        clear HB
        have HO_7 := n0_
        have BK547 := n1_
        have BK555 := n2_
        have BK556 := n3_
        have HB := n4_
        clear n0_ n1_ n2_ n3_ n4_
        have p557 : 0 ≤ (x11_1 : Int) := of_decide_eq_true asmA
        have q557 : x11_1 < (l2.length : Int) := of_decide_eq_true asmA
        obtain ⟨ad557, A557_0, c557_0, e557, hx557_0, hx557_1, hx557_2, hl557_0, hi557_0⟩ := at_T46 HR2.out x11_1 p557 q557
        have hw557_2 := hx557_2
        have hw557_1 := hx557_1
        have hw557_0 := hx557_0
        cases e557
        replace hx557_0 := (HB.out.cell (World.block_lt_of_cell? w _ hx557_0)).trans hx557_0
        replace hx557_1 := (HB.out.cell (World.block_lt_of_cell? w _ hx557_1)).trans hx557_1
        replace hx557_2 := (HB.out.cell (World.block_lt_of_cell? w _ hx557_2)).trans hx557_2
        have HR557_0 := Aside0.mk hi557_0
        have HC557_0 := Aside0.mk hl557_0
        clear hi557_0 hl557_0
        replace p557 := eq_true p557
        replace q557 := eq_true q557
        refine start_ (n := 13) (S := fun w' => w'.cell? ⟨gb547, 0, none⟩ = some (.slice A0_0 l0_0.length c0_0) ∧ w'.cell? ⟨gb547, 1, none⟩ = some (.int .i64 a0_1) ∧ w'.cell? (ad557.add ((x11_1).toNat * 3)) = some (.slice A557_0 ((rd_T46 l2 x11_1).f0).length c557_0) ∧ w'.cell? ⟨(ad557.add ((x11_1).toNat * 3)).block, (ad557.add ((x11_1).toNat * 3)).off + 1, none⟩ = some (.int .i64 ((rd_T46 l2 x11_1).f1)) ∧ w'.cell? ⟨(ad557.add ((x11_1).toNat * 3)).block, (ad557.add ((x11_1).toNat * 3)).off + 2, none⟩ = some (.int .i64 ((rd_T46 l2 x11_1).f2))) (ds := []) #[false, false, false, false, false, false, false, false, false, false, false, false, false] (by kernel_rfl) rfl rfl ⟨(blk_cell BK547.out 0).trans rfl, (blk_cell BK547.out 1).trans rfl, ((HB.out.cell (World.block_lt_of_cell? w _ hw557_0)).trans hw557_0), ((HB.out.cell (World.block_lt_of_cell? w _ hw557_1)).trans hw557_1), ((HB.out.cell (World.block_lt_of_cell? w _ hw557_2)).trans hw557_2)⟩ (fun hHeld => ?_); refine with_tabW rickyardlaw15_FoldKeeps.tab10 rickyardlaw15_FoldKeeps.bits10 (fun HT_ HW_ => ?_)
        generalize wr.drew = w36 at HO_7 BK547 BK555 BK556 HB HR557_0 hx557_0 hx557_1 hx557_2 hHeld ⊢
        refine pure_ (i := 1) (N := some 36) (v := ?_) (a' := ?_) #[false, true, false, false, false, false, false, false, false, false, false, false, false] rfl rfl (any_of HT_.out (by kernel_rfl)) (fun _ _ _ h => h) (Or.inl ⟨by rfl, ?_⟩) ?_ ?_
        rotate_left
        ·intro w'
         go_simp
         with_reducible rfl
        rotate_left
        ·simp only [Act.put, List.setIfInBounds_toArray, List.set_cons_zero, List.set_cons_succ, i64_w, i32_w]
         rfl
        refine pure_ (i := 2) (N := some 37) (v := ?_) (a' := ?_) #[false, true, true, false, false, false, false, false, false, false, false, false, false] rfl rfl (any_of HT_.out (by kernel_rfl)) (fun _ _ _ h => h) (Or.inl ⟨by rfl, ?_⟩) ?_ ?_
        rotate_left
        ·intro w'
         go_simp
         with_reducible rfl
        rotate_left
        ·simp only [Act.put, List.setIfInBounds_toArray, List.set_cons_zero, List.set_cons_succ, i64_w, i32_w]
         rfl
        refine pure_ (i := 3) (N := some 38) (v := ?_) (a' := ?_) #[false, true, true, true, false, false, false, false, false, false, false, false, false] rfl rfl (any_of HT_.out (by kernel_rfl)) (fun _ _ _ h => h) (Or.inl ⟨by rfl, ?_⟩) ?_ ?_
        rotate_left
        ·intro w'
         go_simp
         with_reducible rfl
        rotate_left
        ·simp only [Act.put, List.setIfInBounds_toArray, List.set_cons_zero, List.set_cons_succ, i64_w, i32_w]
         rfl
        refine pure_ (i := 4) (N := some 39) (v := ?_) (a' := ?_) #[false, true, true, true, true, false, false, false, false, false, false, false, false] rfl rfl (any_of HT_.out (by kernel_rfl)) (fun _ _ _ h => h) (Or.inl ⟨by rfl, ?_⟩) ?_ ?_
        rotate_left
        ·intro w'
         go_simp
         with_reducible rfl
        rotate_left
        ·simp only [Act.put, List.setIfInBounds_toArray, List.set_cons_zero, List.set_cons_succ, i64_w, i32_w]
         rfl
        refine pure_ (i := 6) (N := some 41) (v := ?_) (a' := ?_) #[false, true, true, true, true, false, true, false, false, false, false, false, false] rfl rfl (any_of HT_.out (by kernel_rfl)) (fun _ _ _ h => h) (Or.inl ⟨by rfl, ?_⟩) ?_ ?_
        rotate_left
        ·intro w'
         go_simp
         with_reducible rfl
        rotate_left
        ·simp only [Act.put, List.setIfInBounds_toArray, List.set_cons_zero, List.set_cons_succ, i64_w, i32_w]
         rfl
        refine take_ (i := 0) (N := some 35) (v := ?_) (a' := ?_) #[true, true, true, true, true, false, true, false, false, false, false, false, false] rfl rfl (take_ofW HT_.out HW_.out (by kernel_rfl)) (fun _ _ _ h => h) (Or.inl ⟨by rfl, ?_⟩) hHeld ?_ ?_
        rotate_left
        ·rintro w' ⟨s0, s1, s2, s3, s4⟩
         go_simp
         with_reducible rfl
        rotate_left
        ·simp only [Act.put, List.setIfInBounds_toArray, List.set_cons_zero, List.set_cons_succ, i64_w, i32_w]
         rfl
        refine take_ (i := 5) (N := some 40) (v := ?_) (a' := ?_) #[true, true, true, true, true, true, true, false, false, false, false, false, false] rfl rfl (take_ofW HT_.out HW_.out (by kernel_rfl)) (fun _ _ _ h => h) (Or.inl ⟨by rfl, ?_⟩) hHeld ?_ ?_
        rotate_left
        ·rintro w' ⟨s0, s1, s2, s3, s4⟩
         go_simp
         with_reducible rfl
        rotate_left
        ·simp only [Act.put, List.setIfInBounds_toArray, List.set_cons_zero, List.set_cons_succ, i64_w, i32_w]
         rfl
        refine one_ (i := 7) (N := some 42) #[true, true, true, true, true, true, true, true, false, false, false, false, false] rfl rfl (one_of HT_.out (by kernel_rfl)) (by decide) (fun K hK => ?_)
        refine goes_ Try.func17 (by kernel_rfl) rfl #[.agg #[.slice A0_0 l0_0.length c0_0, .int .i64 a0_1], .int .i64 ((rd_T46 l2 x11_1).f1), .int .i64 a1] (by rfl) rfl rfl argA ?_
        with_reducible refine (grain_Expired.calls k1 _ _ l0_0 a0_1 ((rd_T46 l2 x11_1).f1) a1 t558 t559 _ ?side1 ?side2 A18.out).mono ?_
        (case side1 => repeat (first | exact (Kd.C_below HR0_0.out HB.out) | (with_reducible refine Kd.C_alloc ?_ _) | (with_reducible refine Kd.C_drewN ?_ _) | (with_reducible refine Kd.C_drew ?_)))
        (case side2 => exact HC0_0.out)
        rintro e w37 ⟨rfl, hb⟩
        refine ⟨_, rfl, ?_⟩
        have n0_ := Aside0.mk (Kd.R_below (rowA HO_7.out) hb)
        have n1_ := Aside0.mk (blk_below (g := gb547) (o := .cells #[.slice A0_0 l0_0.length c0_0, .int .i64 a0_1] 24 (0, 0)) (blkA BK547.out) hb)
        have n2_ := Aside0.mk (blk_below (g := gb555) (o := .cells #[.int .u64 x556000_1, .bool x556001_1, .int .i64 x556002_1, .int .u64 x556003_1, .int .i64 x556004_1, .int .i64 x556005_1] 41 (0, 0)) (blkA BK555.out) hb)
        have n3_ := Aside0.mk (blk_below (g := gb556) (o := .cells #[.int .u64 0, .bool false, .int .i64 0, .int .u64 0, .int .i64 0, .int .i64 0] 41 (0, 0)) (blkA BK556.out) hb)
        have n4_ := Aside0.mk (below_step (belD HB.out GE547.out GE555.out GE556.out) hb)
        clear HO_7
        clear BK547
        clear BK555
        clear BK556
        clear HB
        have HO_7 := n0_
        have BK547 := n1_
        have BK555 := n2_
        have BK556 := n3_
        have HB := n4_
        clear n0_ n1_ n2_ n3_ n4_
        (try clear hb)
        (try clear hb2)
        (try clear hk)
        (try clear hi)
        refine hK.out _ _ ⟨(blk_cell BK547.out 0).trans rfl, (blk_cell BK547.out 1).trans rfl, ((HB.out.cell (World.block_lt_of_cell? w _ hw557_0)).trans hw557_0), ((HB.out.cell (World.block_lt_of_cell? w _ hw557_1)).trans hw557_1), ((HB.out.cell (World.block_lt_of_cell? w _ hw557_2)).trans hw557_2)⟩ (fun hHeld => ?_)
        clear hK K
        refine norm_ (a' := ?_) ?_ ?_
        rotate_left
        ·show Act.put _ (some 42) _ = _
         simp only [Act.put, List.setIfInBounds_toArray, List.set_cons_zero, List.set_cons_succ, i64_w, i32_w]
         rfl
        refine pure_ (i := 8) (N := some 34) (v := ?_) (a' := ?_) #[true, true, true, true, true, true, true, true, true, false, false, false, false] rfl rfl (any_of HT_.out (by kernel_rfl)) (fun _ _ _ h => h) (Or.inl ⟨by rfl, ?_⟩) ?_ ?_
        rotate_left
        ·intro w'
         go_simp
         with_reducible rfl
        rotate_left
        ·simp only [Act.put, List.setIfInBounds_toArray, List.set_cons_zero, List.set_cons_succ, i64_w, i32_w]
         rfl
        refine pure_ (i := 9) (N := some 43) (v := ?_) (a' := ?_) #[true, true, true, true, true, true, true, true, true, true, false, false, false] rfl rfl (any_of HT_.out (by kernel_rfl)) (fun _ _ _ h => h) (Or.inl ⟨by rfl, ?_⟩) ?_ ?_
        rotate_left
        ·intro w'
         go_simp
         with_reducible rfl
        rotate_left
        ·simp only [Act.put, List.setIfInBounds_toArray, List.set_cons_zero, List.set_cons_succ, i64_w, i32_w]
         rfl
        refine pure_ (i := 10) (N := some 44) (v := ?_) (a' := ?_) #[true, true, true, true, true, true, true, true, true, true, true, false, false] rfl rfl (any_of HT_.out (by kernel_rfl)) (fun _ _ _ h => h) (Or.inl ⟨by rfl, ?_⟩) ?_ ?_
        rotate_left
        ·intro w'
         go_simp
         with_reducible rfl
        rotate_left
        ·simp only [Act.put, List.setIfInBounds_toArray, List.set_cons_zero, List.set_cons_succ, i64_w, i32_w]
         rfl
        refine pure_ (i := 11) (N := some 12) (v := ?_) (a' := ?_) #[true, true, true, true, true, true, true, true, true, true, true, true, false] rfl rfl (any_of HT_.out (by kernel_rfl)) (fun _ _ _ h => h) (Or.inl ⟨by rfl, ?_⟩) ?_ ?_
        rotate_left
        ·intro w'
         go_simp
         with_reducible rfl
        rotate_left
        ·simp only [Act.put, List.setIfInBounds_toArray, List.set_cons_zero, List.set_cons_succ, i64_w, i32_w]
         rfl
        refine pure_ (i := 12) (N := some 13) (v := ?_) (a' := ?_) #[true, true, true, true, true, true, true, true, true, true, true, true, true] rfl rfl (any_of HT_.out (by kernel_rfl)) (fun _ _ _ h => h) (Or.inl ⟨by rfl, ?_⟩) ?_ ?_
        rotate_left
        ·intro w'
         go_simp
         with_reducible rfl
        rotate_left
        ·simp only [Act.put, List.setIfInBounds_toArray, List.set_cons_zero, List.set_cons_succ, i64_w, i32_w]
         rfl
        refine done_ (done_of HT_.out (by kernel_rfl)) ?_
        try go_wp2
        go_ret
        exact ⟨by first | rfl | (simp [errW_none, errW_some] <;> rfl) | (simp [*, errW_none, errW_some] <;> rfl) | (exfalso; simp_all; done), belD HB.out GE547.out GE555.out GE556.out⟩
      ·rw [if_neg c17] at H
       exact absurd H (by simp)
     ·rw [if_neg c16] at H
      have c16b0 : decide (x11_1 < (l2.length : Int)) = false := decide_eq_false c16
      clear c16
      have H' := Aside0.mk H
      clear H
      go_wp2
      go_loopg [14] k1 (fun kq v14 w' => ∃ (x14_2 : Int) (x557000_2 : Int) (x557001_2 : Bool) (x557002_2 : Int) (x557003_2 : Int) (x557004_2 : Int) (x557005_2 : Int), v14 = .int .i64 x14_2 ∧ Aside0 (rickyardlaw15_FoldKeeps.l1 kq t550 x14_2 x556000_1 x556001_1 x556002_1 x556003_1 x556004_1 x556005_1 x557000_2 x557001_2 x557002_2 x557003_2 x557004_2 x557005_2 = some r) ∧ Aside0 (kq ≤ k1) ∧ Aside0 (Kd.R k51 51 w' w.heap.size (fun _ => True) v551 t550) ∧ Aside0 (w'.heap[gb547]? = some (.cells #[(.slice A0_0 l0_0.length c0_0), .int .i64 a0_1] 24 (0, 0))) ∧ Aside0 (w'.heap[gb555]? = some (.cells #[.int .u64 x556000_1, .bool x556001_1, .int .i64 x556002_1, .int .u64 x556003_1, .int .i64 x556004_1, .int .i64 x556005_1] 41 (0, 0))) ∧ Aside0 (w'.heap[gb556]? = some (.cells #[.int .u64 x557000_2, .bool x557001_2, .int .i64 x557002_2, .int .u64 x557003_2, .int .i64 x557004_2, .int .i64 x557005_2] 41 (0, 0))) ∧ Aside0 (Below w.heap.size w w'))
      case atStart => exact ⟨(0), (0), (false), (0), (0), (0), (0), relA, H', ⟨Nat.le_refl _⟩, ⟨rowA HO_7.out⟩, ⟨blkA BK547.out⟩, ⟨blkA BK555.out⟩, ⟨blkA BK556.out⟩, ⟨belD HB.out GE547.out GE555.out GE556.out⟩⟩
      case round =>
       clear H'
       try clear c1
       try clear c2
       try clear p2
       try clear c5
       try clear p5
       try clear q5
       try clear hx5
       try clear p6
       try clear c16
       try clear c16b0
       try clear c17
       try clear c18
       try clear c19
       try clear c19b0
       try clear c19b1
       try clear c20
       try clear hx557_0
       try clear hx557_1
       try clear hx557_2
       try clear hx560_0
       try clear hx560_1
       try clear hx560_2
       try clear p557
       try clear p560
       try clear q557
       try clear q560
       obtain ⟨x14_2, x557000_2, x557001_2, x557002_2, x557003_2, x557004_2, x557005_2, rfl, HA, HK2, HO_7, BK547, BK555, BK556, HB⟩ := hrel
       cases gk with
       | zero => exact absurd HA.out (by simp [rickyardlaw15_FoldKeeps.l1])
       | succ k2 =>
        have H := HA.out
        clear HA
        simp only [rickyardlaw15_FoldKeeps.l1] at H
        by_cases c38 : x14_2 < (t550.length : Int)
        ·rw [if_pos c38] at H
         have c38b0 : decide (x14_2 < (t550.length : Int)) = true := decide_eq_true c38
         clear c38
         by_cases c39 : 0 ≤ x14_2
         ·rw [if_pos c39] at H
          have c39b0 : decide (0 ≤ x14_2) = true := decide_eq_true c39
          clear c39
          replace H := Option.bind_eq_some_iff.mp H
          obtain ⟨⟨t574, t575, t576, t577, t578, t579⟩, A400, H⟩ := H
          replace H : (rickyardlaw15_FoldKeeps.l1 k2 t550 (wrap64 (x14_2 + 1)) x556000_1 x556001_1 x556002_1 x556003_1 x556004_1 x556005_1 t574 t575 t576 t577 t578 t579) = some r := H
          have A40 := Aside0.mk A400
          clear A400
          have H' := Aside0.mk H
          clear H
          obtain ⟨Ao41, co41, eo41⟩ := Kd.R_slice HO_7.out
          subst eo41
          try go_wp2
          have n0_ := Aside0.mk (Kd.R_drew HO_7.out)
          have n1_ := Aside0.mk (blk_drew BK547.out)
          have n2_ := Aside0.mk (blk_drew BK555.out)
          have n3_ := Aside0.mk (blk_drew BK556.out)
          have n4_ := Aside0.mk (below_drew1 HB.out)
          clear HO_7
          clear BK547
          clear BK555
          clear BK556
          clear HB
          have HO_7 := n0_
          have BK547 := n1_
          have BK555 := n2_
          have BK556 := n3_
          have HB := n4_
          clear n0_ n1_ n2_ n3_ n4_
          have p573 : 0 ≤ (x14_2 : Int) := of_decide_eq_true asmA
          have q573 : x14_2 < (t550.length : Int) := of_decide_eq_true asmA
          obtain ⟨ad573, A573_0, c573_0, e573, hx573_0, hx573_1, hx573_2, hx573_3, hx573_4, hx573_5, hx573_6, hl573_0, hi573_0⟩ := at_T51 (Kd.R_reads' HO_7.out).2.2 x14_2 p573 q573
          cases e573
          obtain ⟨ce573, hce573, hMe573, hcc573⟩ := Kd.R_get HO_7.out z51 x14_2 p573 (by first | exact q573 | exact of_decide_eq_true asmA | (have e_ := (Kd.R_reads' HO_7.out).1; omega))
          obtain ⟨ve573_0, rfl, ge573_0⟩ := k51_openM hMe573
          have hv573_0 := hcc573 0 _ rfl
          rw [Nat.add_zero] at hv573_0
          replace hv573_0 := Option.some.inj (hv573_0.symm.trans hx573_0)
          rw [hv573_0] at ge573_0
          have HL573_0 := Aside0.mk (show Kd.R (Kd.int .u8) 5 _ _ _ _ ((rd_T51 t550 x14_2).f0) from ge573_0)
          clear hv573_0 ge573_0
          clear hcc573 hce573
          have HR573_0 := Aside0.mk hi573_0
          have HC573_0 := Aside0.mk hl573_0
          clear hi573_0 hl573_0
          replace p573 := eq_true p573
          replace q573 := eq_true q573
          refine start_ (n := 8) (S := fun w' => w'.cell? ⟨gb556, 0, none⟩ = some (.int .u64 x557000_2) ∧ w'.cell? ⟨gb556, 1, none⟩ = some (.bool x557001_2) ∧ w'.cell? ⟨gb556, 2, none⟩ = some (.int .i64 x557002_2) ∧ w'.cell? ⟨gb556, 3, none⟩ = some (.int .u64 x557003_2) ∧ w'.cell? ⟨gb556, 4, none⟩ = some (.int .i64 x557004_2) ∧ w'.cell? ⟨gb556, 5, none⟩ = some (.int .i64 x557005_2) ∧ w'.cell? (ad573.add ((x14_2).toNat * 7)) = some (.slice A573_0 ((rd_T51 t550 x14_2).f0).length c573_0) ∧ w'.cell? ⟨(ad573.add ((x14_2).toNat * 7)).block, (ad573.add ((x14_2).toNat * 7)).off + 1, none⟩ = some (.int .u64 ((rd_T51 t550 x14_2).f1.f0)) ∧ w'.cell? ⟨(ad573.add ((x14_2).toNat * 7)).block, (ad573.add ((x14_2).toNat * 7)).off + 2, none⟩ = some (.bool ((rd_T51 t550 x14_2).f1.f1)) ∧ w'.cell? ⟨(ad573.add ((x14_2).toNat * 7)).block, (ad573.add ((x14_2).toNat * 7)).off + 3, none⟩ = some (.int .i64 ((rd_T51 t550 x14_2).f1.f2.f0)) ∧ w'.cell? ⟨(ad573.add ((x14_2).toNat * 7)).block, (ad573.add ((x14_2).toNat * 7)).off + 4, none⟩ = some (.int .u64 ((rd_T51 t550 x14_2).f1.f2.f1)) ∧ w'.cell? ⟨(ad573.add ((x14_2).toNat * 7)).block, (ad573.add ((x14_2).toNat * 7)).off + 5, none⟩ = some (.int .i64 ((rd_T51 t550 x14_2).f1.f3)) ∧ w'.cell? ⟨(ad573.add ((x14_2).toNat * 7)).block, (ad573.add ((x14_2).toNat * 7)).off + 6, none⟩ = some (.int .i64 ((rd_T51 t550 x14_2).f1.f4))) (ds := [7]) #[false, false, false, false, false, false, false, false] (by kernel_rfl) rfl rfl ⟨(blk_cell BK556.out 0).trans rfl, (blk_cell BK556.out 1).trans rfl, (blk_cell BK556.out 2).trans rfl, (blk_cell BK556.out 3).trans rfl, (blk_cell BK556.out 4).trans rfl, (blk_cell BK556.out 5).trans rfl, hx573_0, hx573_1, hx573_2, hx573_3, hx573_4, hx573_5, hx573_6⟩ (fun hHeld => ?_); refine with_tabW rickyardlaw15_FoldKeeps.tab18 rickyardlaw15_FoldKeeps.bits18 (fun HT_ HW_ => ?_)
          generalize wr.drew = w42 at HO_7 BK547 BK555 BK556 HB HL573_0 HR573_0 hx573_0 hx573_1 hx573_2 hx573_3 hx573_4 hx573_5 hx573_6 hHeld ⊢
          refine pure_ (i := 1) (N := some 64) (v := ?_) (a' := ?_) #[false, true, false, false, false, false, false, false] rfl rfl (any_of HT_.out (by kernel_rfl)) (fun _ _ _ h => h) (Or.inl ⟨by rfl, ?_⟩) ?_ ?_
          rotate_left
          ·intro w'
           go_simp
           with_reducible rfl
          rotate_left
          ·simp only [Act.put, List.setIfInBounds_toArray, List.set_cons_zero, List.set_cons_succ, i64_w, i32_w]
           rfl
          refine pure_ (i := 2) (N := some 65) (v := ?_) (a' := ?_) #[false, true, true, false, false, false, false, false] rfl rfl (any_of HT_.out (by kernel_rfl)) (fun _ _ _ h => h) (Or.inl ⟨by rfl, ?_⟩) ?_ ?_
          rotate_left
          ·intro w'
           go_simp
           with_reducible rfl
          rotate_left
          ·simp only [Act.put, List.setIfInBounds_toArray, List.set_cons_zero, List.set_cons_succ, i64_w, i32_w]
           rfl
          refine pure_ (i := 3) (N := some 66) (v := ?_) (a' := ?_) #[false, true, true, true, false, false, false, false] rfl rfl (any_of HT_.out (by kernel_rfl)) (fun _ _ _ h => h) (Or.inl ⟨by rfl, ?_⟩) ?_ ?_
          rotate_left
          ·intro w'
           go_simp
           with_reducible rfl
          rotate_left
          ·simp only [Act.put, List.setIfInBounds_toArray, List.set_cons_zero, List.set_cons_succ, i64_w, i32_w]
           rfl
          refine pure_ (i := 4) (N := some 67) (v := ?_) (a' := ?_) #[false, true, true, true, true, false, false, false] rfl rfl (any_of HT_.out (by kernel_rfl)) (fun _ _ _ h => h) (Or.inl ⟨by rfl, ?_⟩) ?_ ?_
          rotate_left
          ·intro w'
           go_simp
           with_reducible rfl
          rotate_left
          ·simp only [Act.put, List.setIfInBounds_toArray, List.set_cons_zero, List.set_cons_succ, i64_w, i32_w]
           rfl
          refine take_ (i := 0) (N := some 63) (v := ?_) (a' := ?_) #[true, true, true, true, true, false, false, false] rfl rfl (take_ofW HT_.out HW_.out (by kernel_rfl)) (fun _ _ _ h => h) (Or.inl ⟨by rfl, ?_⟩) hHeld ?_ ?_
          rotate_left
          ·rintro w' ⟨s0, s1, s2, s3, s4, s5, s6, s7, s8, s9, s10, s11, s12⟩
           go_simp
           with_reducible rfl
          rotate_left
          ·simp only [Act.put, List.setIfInBounds_toArray, List.set_cons_zero, List.set_cons_succ, i64_w, i32_w]
           rfl
          refine take_ (i := 5) (N := some 68) (v := ?_) (a' := ?_) #[true, true, true, true, true, true, false, false] rfl rfl (take_ofW HT_.out HW_.out (by kernel_rfl)) (fun _ _ _ h => h) (Or.inl ⟨by rfl, ?_⟩) hHeld ?_ ?_
          rotate_left
          ·rintro w' ⟨s0, s1, s2, s3, s4, s5, s6, s7, s8, s9, s10, s11, s12⟩
           go_simp
           with_reducible rfl
          rotate_left
          ·simp only [Act.put, List.setIfInBounds_toArray, List.set_cons_zero, List.set_cons_succ, i64_w, i32_w]
           rfl
          refine one_ (i := 6) (N := some 69) #[true, true, true, true, true, true, true, false] rfl rfl (one_of HT_.out (by kernel_rfl)) (by decide) (fun K hK => ?_)
          refine goes_ Try.func18 (by kernel_rfl) rfl #[.agg #[.int .u64 x557000_2, .bool x557001_2, .int .i64 x557002_2, .int .u64 x557003_2, .int .i64 x557004_2, .int .i64 x557005_2], .agg #[.int .u64 ((rd_T51 t550 x14_2).f1.f0), .bool ((rd_T51 t550 x14_2).f1.f1), .int .i64 ((rd_T51 t550 x14_2).f1.f2.f0), .int .u64 ((rd_T51 t550 x14_2).f1.f2.f1), .int .i64 ((rd_T51 t550 x14_2).f1.f3), .int .i64 ((rd_T51 t550 x14_2).f1.f4)]] (by rfl) rfl rfl argA ?_
          with_reducible refine (agg_Merge.calls x557000_2 x557001_2 x557002_2 x557003_2 x557004_2 x557005_2 ((rd_T51 t550 x14_2).f1.f0) ((rd_T51 t550 x14_2).f1.f1) ((rd_T51 t550 x14_2).f1.f2.f0) ((rd_T51 t550 x14_2).f1.f2.f1) ((rd_T51 t550 x14_2).f1.f3) ((rd_T51 t550 x14_2).f1.f4) t574 t575 t576 t577 t578 t579 _ A40.out).mono ?_
          rintro e w43 ⟨rfl, hb⟩
          have HS6_ := (hb.cell (World.block_lt_of_cell? _ _ (hHeld.2.2.2.2.2.2.1))).trans (hHeld.2.2.2.2.2.2.1)
          have HS7_ := (hb.cell (World.block_lt_of_cell? _ _ (hHeld.2.2.2.2.2.2.2.1))).trans (hHeld.2.2.2.2.2.2.2.1)
          have HS8_ := (hb.cell (World.block_lt_of_cell? _ _ (hHeld.2.2.2.2.2.2.2.2.1))).trans (hHeld.2.2.2.2.2.2.2.2.1)
          have HS9_ := (hb.cell (World.block_lt_of_cell? _ _ (hHeld.2.2.2.2.2.2.2.2.2.1))).trans (hHeld.2.2.2.2.2.2.2.2.2.1)
          have HS10_ := (hb.cell (World.block_lt_of_cell? _ _ (hHeld.2.2.2.2.2.2.2.2.2.2.1))).trans (hHeld.2.2.2.2.2.2.2.2.2.2.1)
          have HS11_ := (hb.cell (World.block_lt_of_cell? _ _ (hHeld.2.2.2.2.2.2.2.2.2.2.2.1))).trans (hHeld.2.2.2.2.2.2.2.2.2.2.2.1)
          have HS12_ := (hb.cell (World.block_lt_of_cell? _ _ (hHeld.2.2.2.2.2.2.2.2.2.2.2.2))).trans (hHeld.2.2.2.2.2.2.2.2.2.2.2.2)
          refine ⟨_, rfl, ?_⟩
          have n0_ := Aside0.mk (Kd.R_below (rowA HO_7.out) hb)
          have n1_ := Aside0.mk (Kd.R_below (rowA HL573_0.out) hb)
          have n2_ := Aside0.mk (blk_below (g := gb547) (o := .cells #[.slice A0_0 l0_0.length c0_0, .int .i64 a0_1] 24 (0, 0)) (blkA BK547.out) hb)
          have n3_ := Aside0.mk (blk_below (g := gb555) (o := .cells #[.int .u64 x556000_1, .bool x556001_1, .int .i64 x556002_1, .int .u64 x556003_1, .int .i64 x556004_1, .int .i64 x556005_1] 41 (0, 0)) (blkA BK555.out) hb)
          have n4_ := Aside0.mk (blk_below (g := gb556) (o := .cells #[.int .u64 x557000_2, .bool x557001_2, .int .i64 x557002_2, .int .u64 x557003_2, .int .i64 x557004_2, .int .i64 x557005_2] 41 (0, 0)) (blkA BK556.out) hb)
          have n5_ := Aside0.mk (Kd.C_below (by repeat (first | (with_reducible exact HR573_0.out) | (with_reducible refine Kd.C_alloc ?_ _) | (with_reducible refine Kd.C_drewN ?_ _) | (with_reducible refine Kd.C_drew ?_) | exact HR573_0.out)) hb)
          have n6_ := Aside0.mk (below_step (belD HB.out GE547.out GE555.out GE556.out) hb)
          clear HO_7
          clear HL573_0
          clear BK547
          clear BK555
          clear BK556
          clear HR573_0
          clear HB
          have HO_7 := n0_
          have HL573_0 := n1_
          have BK547 := n2_
          have BK555 := n3_
          have BK556 := n4_
          have HR573_0 := n5_
          have HB := n6_
          clear n0_ n1_ n2_ n3_ n4_ n5_ n6_
          (try clear hb)
          (try clear hb2)
          (try clear hk)
          (try clear hi)
          refine hK.out _ _ ⟨(blk_cell BK556.out 0).trans rfl, (blk_cell BK556.out 1).trans rfl, (blk_cell BK556.out 2).trans rfl, (blk_cell BK556.out 3).trans rfl, (blk_cell BK556.out 4).trans rfl, (blk_cell BK556.out 5).trans rfl, HS6_, HS7_, HS8_, HS9_, HS10_, HS11_, HS12_⟩ (fun hHeld => ?_)
          clear hK K
          refine norm_ (a' := ?_) ?_ ?_
          rotate_left
          ·show Act.put _ (some 69) _ = _
           simp only [Act.put, List.setIfInBounds_toArray, List.set_cons_zero, List.set_cons_succ, i64_w, i32_w]
           rfl
          refine last_ (i := 7) (N := none) #[true, true, true, true, true, true, true, true] rfl rfl (one_of HT_.out (by kernel_rfl)) (by decide) (fun K hK => ?_)
          have hs44 : w43.cell? ⟨gb556, 0, none⟩ = some (.int .u64 x557000_2) := (blk_cell BK556.out 0).trans rfl
          have hfs44 := blk_frozen BK556.out 0
          have hns44_0 := NB547_556.out
          have hns44_1 := NB555_556.out
          have hms44_0 := NB556_547.out
          have hms44_1 := NB556_555.out
          have hs45 : w43.cell? ⟨gb556, 1, none⟩ = some (.bool x557001_2) := (blk_cell BK556.out 1).trans rfl
          have hfs45 := blk_frozen BK556.out 1
          have hns45_0 := NB547_556.out
          have hns45_1 := NB555_556.out
          have hms45_0 := NB556_547.out
          have hms45_1 := NB556_555.out
          have hs46 : w43.cell? ⟨gb556, 2, none⟩ = some (.int .i64 x557002_2) := (blk_cell BK556.out 2).trans rfl
          have hfs46 := blk_frozen BK556.out 2
          have hns46_0 := NB547_556.out
          have hns46_1 := NB555_556.out
          have hms46_0 := NB556_547.out
          have hms46_1 := NB556_555.out
          have hs47 : w43.cell? ⟨gb556, 3, none⟩ = some (.int .u64 x557003_2) := (blk_cell BK556.out 3).trans rfl
          have hfs47 := blk_frozen BK556.out 3
          have hns47_0 := NB547_556.out
          have hns47_1 := NB555_556.out
          have hms47_0 := NB556_547.out
          have hms47_1 := NB556_555.out
          have hs48 : w43.cell? ⟨gb556, 4, none⟩ = some (.int .i64 x557004_2) := (blk_cell BK556.out 4).trans rfl
          have hfs48 := blk_frozen BK556.out 4
          have hns48_0 := NB547_556.out
          have hns48_1 := NB555_556.out
          have hms48_0 := NB556_547.out
          have hms48_1 := NB556_555.out
          have hs49 : w43.cell? ⟨gb556, 5, none⟩ = some (.int .i64 x557005_2) := (blk_cell BK556.out 5).trans rfl
          have hfs49 := blk_frozen BK556.out 5
          have hns49_0 := NB547_556.out
          have hns49_1 := NB555_556.out
          have hms49_0 := NB556_547.out
          have hms49_1 := NB556_555.out
          refine skip_ (w1 := ?_) (by rfl) rfl ?_ ?_
          rotate_left
          ·go_simp
           rfl
          refine hK.out _ _ ?_
          clear hK K
          refine done_ (done_of HT_.out (by kernel_rfl)) ?_
          try go_wp2
          go_roundg k2
          case measure => have := HK1.out; have := HK2.out; omega
          case rel => exact ⟨(wrap64 (x14_2 + 1)), (t574), (t575), (t576), (t577), (t578), (t579), relA, H', ⟨by have := HK1.out; have := HK2.out; omega⟩, ⟨by (with_reducible repeat (first | apply Kd.R_alloc | apply Kd.R_drewN | apply Kd.R_drew)); exact Kd.R_mono (Kd.R_far (p := ⟨gb556, 5, none⟩) (Kd.R_far (p := ⟨gb556, 4, none⟩) (Kd.R_far (p := ⟨gb556, 3, none⟩) (Kd.R_far (p := ⟨gb556, 2, none⟩) (Kd.R_far (p := ⟨gb556, 1, none⟩) (Kd.R_far (p := ⟨gb556, 0, none⟩) (Kd.R_types HO_7.out BK556.out (by decide)) (fun _ hk => hk.2) (.int .u64 t574)) (fun _ hk => hk.2) (.bool t575)) (fun _ hk => hk.2) (.int .i64 t576)) (fun _ hk => hk.2) (.int .u64 t577)) (fun _ hk => hk.2) (.int .i64 t578)) (fun _ hk => hk.2) (.int .i64 t579)) (fun _ hk => trivial)⟩, ⟨by (with_reducible repeat (first | refine blk_drewN ?_ _ | refine blk_drew ?_ | refine blk_alloc ?_ _)); refine blk_far ?_ NB547_556.out _; (with_reducible repeat (first | refine blk_drewN ?_ _ | refine blk_drew ?_ | refine blk_alloc ?_ _)); refine blk_far ?_ NB547_556.out _; (with_reducible repeat (first | refine blk_drewN ?_ _ | refine blk_drew ?_ | refine blk_alloc ?_ _)); refine blk_far ?_ NB547_556.out _; (with_reducible repeat (first | refine blk_drewN ?_ _ | refine blk_drew ?_ | refine blk_alloc ?_ _)); refine blk_far ?_ NB547_556.out _; (with_reducible repeat (first | refine blk_drewN ?_ _ | refine blk_drew ?_ | refine blk_alloc ?_ _)); refine blk_far ?_ NB547_556.out _; (with_reducible repeat (first | refine blk_drewN ?_ _ | refine blk_drew ?_ | refine blk_alloc ?_ _)); refine blk_far ?_ NB547_556.out _; (with_reducible repeat (first | refine blk_drewN ?_ _ | refine blk_drew ?_ | refine blk_alloc ?_ _)); exact BK547.out⟩, ⟨by (with_reducible repeat (first | refine blk_drewN ?_ _ | refine blk_drew ?_ | refine blk_alloc ?_ _)); refine blk_far ?_ NB555_556.out _; (with_reducible repeat (first | refine blk_drewN ?_ _ | refine blk_drew ?_ | refine blk_alloc ?_ _)); refine blk_far ?_ NB555_556.out _; (with_reducible repeat (first | refine blk_drewN ?_ _ | refine blk_drew ?_ | refine blk_alloc ?_ _)); refine blk_far ?_ NB555_556.out _; (with_reducible repeat (first | refine blk_drewN ?_ _ | refine blk_drew ?_ | refine blk_alloc ?_ _)); refine blk_far ?_ NB555_556.out _; (with_reducible repeat (first | refine blk_drewN ?_ _ | refine blk_drew ?_ | refine blk_alloc ?_ _)); refine blk_far ?_ NB555_556.out _; (with_reducible repeat (first | refine blk_drewN ?_ _ | refine blk_drew ?_ | refine blk_alloc ?_ _)); refine blk_far ?_ NB555_556.out _; (with_reducible repeat (first | refine blk_drewN ?_ _ | refine blk_drew ?_ | refine blk_alloc ?_ _)); exact BK555.out⟩, ⟨by (with_reducible repeat (first | refine blk_drewN ?_ _ | refine blk_drew ?_ | refine blk_alloc ?_ _)); refine blk_put (cs := #[.int .u64 t574, .bool t575, .int .i64 t576, .int .u64 t577, .int .i64 t578, .int .i64 x557005_2]) ?_ 5 _ rfl; (with_reducible repeat (first | refine blk_drewN ?_ _ | refine blk_drew ?_ | refine blk_alloc ?_ _)); refine blk_put (cs := #[.int .u64 t574, .bool t575, .int .i64 t576, .int .u64 t577, .int .i64 x557004_2, .int .i64 x557005_2]) ?_ 4 _ rfl; (with_reducible repeat (first | refine blk_drewN ?_ _ | refine blk_drew ?_ | refine blk_alloc ?_ _)); refine blk_put (cs := #[.int .u64 t574, .bool t575, .int .i64 t576, .int .u64 x557003_2, .int .i64 x557004_2, .int .i64 x557005_2]) ?_ 3 _ rfl; (with_reducible repeat (first | refine blk_drewN ?_ _ | refine blk_drew ?_ | refine blk_alloc ?_ _)); refine blk_put (cs := #[.int .u64 t574, .bool t575, .int .i64 x557002_2, .int .u64 x557003_2, .int .i64 x557004_2, .int .i64 x557005_2]) ?_ 2 _ rfl; (with_reducible repeat (first | refine blk_drewN ?_ _ | refine blk_drew ?_ | refine blk_alloc ?_ _)); refine blk_put (cs := #[.int .u64 t574, .bool x557001_2, .int .i64 x557002_2, .int .u64 x557003_2, .int .i64 x557004_2, .int .i64 x557005_2]) ?_ 1 _ rfl; (with_reducible repeat (first | refine blk_drewN ?_ _ | refine blk_drew ?_ | refine blk_alloc ?_ _)); refine blk_put (cs := #[.int .u64 x557000_2, .bool x557001_2, .int .i64 x557002_2, .int .u64 x557003_2, .int .i64 x557004_2, .int .i64 x557005_2]) ?_ 0 _ rfl; (with_reducible repeat (first | refine blk_drewN ?_ _ | refine blk_drew ?_ | refine blk_alloc ?_ _)); exact BK556.out⟩, ⟨belD HB.out GE547.out GE555.out GE556.out⟩⟩
         ·rw [if_neg c39] at H
          exact absurd H (by simp)
        ·rw [if_neg c38] at H
         have c38b0 : decide (x14_2 < (t550.length : Int)) = false := decide_eq_false c38
         clear c38
         replace H := Option.bind_eq_some_iff.mp H
         obtain ⟨t580, A500, H⟩ := H
         replace H : (if t580 = true then (some (x556000_1 == x557000_2 && (x556001_1 == x557001_2 && ((x556002_1 == x557002_2 && (x556003_1 == x557003_2)) && (x556004_1 == x557004_2 && (x556005_1 == x557005_2)))))) else (some false)) = some r := H
         have A50 := Aside0.mk A500
         clear A500
         by_cases c51 : t580 = true
         ·subst c51
          have H1 : (some (x556000_1 == x557000_2 && (x556001_1 == x557001_2 && ((x556002_1 == x557002_2 && (x556003_1 == x557003_2)) && (x556004_1 == x557004_2 && (x556005_1 == x557005_2)))))) = some r := by rw [if_pos rfl] at H; exact H
          clear H
          have H := H1
          clear H1
          obtain rfl := Option.some.inj H
          obtain ⟨Ao52, co52, eo52⟩ := Kd.R_slice HO_7.out
          subst eo52
          go_wp2_with (first | ((with_reducible refine gate_callee (f := 11) rfl ?_); refine goesL_ (some 70) rfl rfl Try.func11 (by kernel_rfl) rfl #[] rfl argA ?_; (with_reducible refine (rickyardlaw15_alive.calls k2  true _ A50.out).mono ?_); rintro e w53 ⟨rfl, hb⟩; refine ⟨_, rfl, ?_⟩; have n0_ := Aside0.mk (Kd.R_below (rowA HO_7.out) hb); have n1_ := Aside0.mk (blk_below (g := gb547) (o := .cells #[.slice A0_0 l0_0.length c0_0, .int .i64 a0_1] 24 (0, 0)) (blkA BK547.out) hb); have n2_ := Aside0.mk (blk_below (g := gb555) (o := .cells #[.int .u64 x556000_1, .bool x556001_1, .int .i64 x556002_1, .int .u64 x556003_1, .int .i64 x556004_1, .int .i64 x556005_1] 41 (0, 0)) (blkA BK555.out) hb); have n3_ := Aside0.mk (blk_below (g := gb556) (o := .cells #[.int .u64 x557000_2, .bool x557001_2, .int .i64 x557002_2, .int .u64 x557003_2, .int .i64 x557004_2, .int .i64 x557005_2] 41 (0, 0)) (blkA BK556.out) hb); have n4_ := Aside0.mk (below_step (belD HB.out GE547.out GE555.out GE556.out) hb); clear HO_7; clear BK547; clear BK555; clear BK556; clear HB; have HO_7 := n0_; have BK547 := n1_; have BK555 := n2_; have BK556 := n3_; have HB := n4_; clear n0_ n1_ n2_ n3_ n4_; (try clear hb); (try clear hb2); (try clear hk); (try clear hi); have hnb54 := NB555_547.out; have hnc54 := NB547_555.out; have hnb55 := NB555_556.out; have hnc55 := NB556_555.out; have hcz56_0 : w53.cell? ⟨gb555, 0, none⟩ = some (.int .u64 x556000_1) := (blk_cell BK555.out 0).trans rfl; have hcz56_1 : w53.cell? ⟨gb555, 1, none⟩ = some (.bool x556001_1) := (blk_cell BK555.out 1).trans rfl; have hcz56_2 : w53.cell? ⟨gb555, 2, none⟩ = some (.int .i64 x556002_1) := (blk_cell BK555.out 2).trans rfl; have hcz56_3 : w53.cell? ⟨gb555, 3, none⟩ = some (.int .u64 x556003_1) := (blk_cell BK555.out 3).trans rfl; have hcz56_4 : w53.cell? ⟨gb555, 4, none⟩ = some (.int .i64 x556004_1) := (blk_cell BK555.out 4).trans rfl; have hcz56_5 : w53.cell? ⟨gb555, 5, none⟩ = some (.int .i64 x556005_1) := (blk_cell BK555.out 5).trans rfl; have hfz56_0 := blk_frozen BK555.out 0; have hfz56_1 := blk_frozen BK555.out 1; have hfz56_2 := blk_frozen BK555.out 2; have hfz56_3 := blk_frozen BK555.out 3; have hfz56_4 := blk_frozen BK555.out 4; have hfz56_5 := blk_frozen BK555.out 5; have hnb57 := NB556_547.out; have hnc57 := NB547_556.out; have hcz58_0 : w53.cell? ⟨gb556, 0, none⟩ = some (.int .u64 x557000_2) := (blk_cell BK556.out 0).trans rfl; have hcz58_1 : w53.cell? ⟨gb556, 1, none⟩ = some (.bool x557001_2) := (blk_cell BK556.out 1).trans rfl; have hcz58_2 : w53.cell? ⟨gb556, 2, none⟩ = some (.int .i64 x557002_2) := (blk_cell BK556.out 2).trans rfl; have hcz58_3 : w53.cell? ⟨gb556, 3, none⟩ = some (.int .u64 x557003_2) := (blk_cell BK556.out 3).trans rfl; have hcz58_4 : w53.cell? ⟨gb556, 4, none⟩ = some (.int .i64 x557004_2) := (blk_cell BK556.out 4).trans rfl; have hcz58_5 : w53.cell? ⟨gb556, 5, none⟩ = some (.int .i64 x557005_2) := (blk_cell BK556.out 5).trans rfl; have hfz58_0 := blk_frozen BK556.out 0; have hfz58_1 := blk_frozen BK556.out 1; have hfz58_2 := blk_frozen BK556.out 2; have hfz58_3 := blk_frozen BK556.out 3; have hfz58_4 := blk_frozen BK556.out 4; have hfz58_5 := blk_frozen BK556.out 5))
          go_ret
          exact ⟨by first | rfl | (simp [errW_none, errW_some] <;> rfl) | (simp [*, errW_none, errW_some] <;> rfl) | (exfalso; simp_all; done), belD HB.out GE547.out GE555.out GE556.out⟩
         ·replace c51 := Bool.eq_false_iff.mpr c51
          subst c51
          have H1 : (some false) = some r := by rw [if_neg (show ¬ (false = true) by decide)] at H; exact H
          clear H
          have H := H1
          clear H1
          obtain rfl := Option.some.inj H
          obtain ⟨Ao59, co59, eo59⟩ := Kd.R_slice HO_7.out
          subst eo59
          go_wp2_with (first | ((with_reducible refine gate_callee (f := 11) rfl ?_); refine goesL_ (some 70) rfl rfl Try.func11 (by kernel_rfl) rfl #[] rfl argA ?_; (with_reducible refine (rickyardlaw15_alive.calls k2  false _ A50.out).mono ?_); rintro e w60 ⟨rfl, hb⟩; refine ⟨_, rfl, ?_⟩; have n0_ := Aside0.mk (Kd.R_below (rowA HO_7.out) hb); have n1_ := Aside0.mk (blk_below (g := gb547) (o := .cells #[.slice A0_0 l0_0.length c0_0, .int .i64 a0_1] 24 (0, 0)) (blkA BK547.out) hb); have n2_ := Aside0.mk (blk_below (g := gb555) (o := .cells #[.int .u64 x556000_1, .bool x556001_1, .int .i64 x556002_1, .int .u64 x556003_1, .int .i64 x556004_1, .int .i64 x556005_1] 41 (0, 0)) (blkA BK555.out) hb); have n3_ := Aside0.mk (blk_below (g := gb556) (o := .cells #[.int .u64 x557000_2, .bool x557001_2, .int .i64 x557002_2, .int .u64 x557003_2, .int .i64 x557004_2, .int .i64 x557005_2] 41 (0, 0)) (blkA BK556.out) hb); have n4_ := Aside0.mk (below_step (belD HB.out GE547.out GE555.out GE556.out) hb); clear HO_7; clear BK547; clear BK555; clear BK556; clear HB; have HO_7 := n0_; have BK547 := n1_; have BK555 := n2_; have BK556 := n3_; have HB := n4_; clear n0_ n1_ n2_ n3_ n4_; (try clear hb); (try clear hb2); (try clear hk); (try clear hi)))
          go_ret
          exact ⟨by first | rfl | (simp [errW_none, errW_some] <;> rfl) | (simp [*, errW_none, errW_some] <;> rfl) | (exfalso; simp_all; done), belD HB.out GE547.out GE555.out GE556.out⟩
  ·rw [if_neg c10] at H
   have c10b0 : (t553 == 0) = false := beq_eq_false_iff_ne.mpr c10
   have c10b1 : (t553 != 0) = true := bne_iff_ne.mpr c10
   replace H := Option.bind_eq_some_iff.mp H
   obtain ⟨t554, A610, H⟩ := H
   replace H : (some t554) = some r := H
   have A61 := Aside0.mk A610
   clear A610
   obtain rfl := Option.some.inj H
   go_enter Try.func5, Try.ntmps5
   go_wp2_with (first | ((with_reducible refine gate_dst (N := 3) rfl ?_); refine box_event ?hg (N := 3) ?hd (cs := #[.slice A0_0 l0_0.length c0_0, .int .i64 a0_1]) (t := 24) ?hr ?_; (case hd => rfl); (case hg => rfl); (case hr => first | (go_simp; done) | (go_simp; rfl)); intro gb547 hg w62 hbox hb; have n0_ := Aside0.mk (below_step (belA HB.out) hb); have n1_ := Aside0.mk (hbox); have n2_ := Aside0.mk ((by rw [hg]; exact (below_size (belA HB.out)) : w.heap.size ≤ gb547)); have n3_ := Aside0.mk ((by rw [hg]; exact (below_size (belA HB.out)) : w.heap.size ≤ gb547)); clear HB; have HB := n0_; have BK547 := n1_; have GW547 := n2_; have GE547 := n3_; clear n0_ n1_ n2_ n3_; clear hb hbox hg) | ((with_reducible refine gate_callee (f := 10) rfl ?_); refine goesL_ (some 16) rfl rfl Try.func10 (by kernel_rfl) rfl #[.slice A2 l2.length c2] rfl argA ?_; (with_reducible refine (rickyardlaw15_Many.calls k _ _ l2 false _ ?side1 ?side2 A4.out).mono ?_); (case side1 => repeat (first | exact (Kd.C_below HR2.out HB.out) | (with_reducible refine Kd.C_alloc ?_ _) | (with_reducible refine Kd.C_drewN ?_ _) | (with_reducible refine Kd.C_drew ?_))); (case side2 => exact HC2.out); rintro e w' ⟨rfl, ⟨nd, rfl⟩⟩; refine ⟨_, rfl, ?_⟩; have hcz63_0 : w62.cell? ⟨gb547, 0, none⟩ = some (.slice A0_0 l0_0.length c0_0) := (blk_cell BK547.out 0).trans rfl; have hcz63_1 : w62.cell? ⟨gb547, 1, none⟩ = some (.int .i64 a0_1) := (blk_cell BK547.out 1).trans rfl; have hfz63_0 := blk_frozen BK547.out 0; have hfz63_1 := blk_frozen BK547.out 1) | ((with_reducible refine gate_callee (f := 12) rfl ?_); refine goesL_ (some 22) rfl rfl Try.func12 (by kernel_rfl) rfl #[.agg #[.slice A0_0 l0_0.length c0_0, .int .i64 a0_1], .int .i64 a1, .slice A2 l2.length c2] rfl argA ?_; (with_reducible refine (fold_Facts.calls k _ _ l0_0 a0_1 a1 _ _ l2 t550 t553 _ ?side1 ?side2 ?side3 ?side4 A9.out).mono ?_); (case side1 => repeat (first | exact (Kd.C_below HR0_0.out (belB HB.out GE547.out)) | (with_reducible refine Kd.C_alloc ?_ _) | (with_reducible refine Kd.C_drewN ?_ _) | (with_reducible refine Kd.C_drew ?_))); (case side2 => exact HC0_0.out); (case side3 => repeat (first | exact (Kd.C_below HR2.out (belB HB.out GE547.out)) | (with_reducible refine Kd.C_alloc ?_ _) | (with_reducible refine Kd.C_drewN ?_ _) | (with_reducible refine Kd.C_drew ?_))); (case side4 => exact HC2.out); rintro e w64 ⟨v551, rfl, ho0, hb⟩; refine ⟨_, rfl, ?_⟩; have n0_ := Aside0.mk (Kd.R_lower ho0 (below_size (belB HB.out GE547.out))); have n1_ := Aside0.mk (blk_below (g := gb547) (o := .cells #[.slice A0_0 l0_0.length c0_0, .int .i64 a0_1] 24 (0, 0)) (blkA BK547.out) hb); have n2_ := Aside0.mk (below_step (belB HB.out GE547.out) hb); clear BK547; clear HB; have HO552 := n0_; have BK547 := n1_; have HB := n2_; clear n0_ n1_ n2_; (try clear hb); (try clear hb2); (try clear hk); (try clear hi); (try clear ho0)) | ((with_reducible refine gate_callee (f := 11) rfl ?_); refine goesL_ (some 27) rfl rfl Try.func11 (by kernel_rfl) rfl #[] rfl argA ?_; (with_reducible refine (rickyardlaw15_alive.calls k  t554 _ A61.out).mono ?_); rintro e w65 ⟨rfl, hb⟩; refine ⟨_, rfl, ?_⟩; have n0_ := Aside0.mk (Kd.R_below (rowA HO552.out) hb); have n1_ := Aside0.mk (blk_below (g := gb547) (o := .cells #[.slice A0_0 l0_0.length c0_0, .int .i64 a0_1] 24 (0, 0)) (blkA BK547.out) hb); have n2_ := Aside0.mk (below_step (belB HB.out GE547.out) hb); clear HO552; clear BK547; clear HB; have HO552 := n0_; have BK547 := n1_; have HB := n2_; clear n0_ n1_ n2_; (try clear hb); (try clear hb2); (try clear hk); (try clear hi)))
   go_ret
   exact ⟨by first | rfl | (simp [errW_none, errW_some] <;> rfl) | (simp [*, errW_none, errW_some] <;> rfl) | (exfalso; simp_all; done), belB HB.out GE547.out⟩
end Go.Proofs.Ytjemmmemenljbaa.PFold
end
