import Derived.Test.YtjemmmemenljbaaZFoldFactsParts07
import Derived.Test.YtjemmmemenljbaaZFoldFactsParts11
section
namespace Go.Proofs.Ytjemmmemenljbaa.PFold
open Go.RowKit Go.Proofs.YtjemmmemenljbaaW.PrintWords Go.Proofs.YtjemmmemenljbaaW.PrintLast Go.Proofs.YtjemmmemenljbaaW.PrintMore
attribute [local go_sem] max2_int min2_int max_two min_two max_three min_three max_four min_four   -- for this text's walks alone
set_option linter.unusedVariables false
set_option linter.unusedSimpArgs false
set_option maxHeartbeats 8000000
set_option maxRecDepth 100000
def grain_Step.l0 : Nat → Int → Int → Int → Int → Int → List (S67) → Int → Option (Int × Int)
 | 0, _, _, _, _, _, _, _ => none
 | k + 1, x1, x2, x9, x20, x21, x207000, x207001 => if x21 < x20 then (if x21 = 0 then (grain_Step.l0 k x1 x2 x9 x20 (wrap64 (x21 + 1)) x207000 x207001) else (if 0 ≤ x21 then (if x21 < (x207000.length : Int) then ((grain_end.f x1 ((rd_T67 x207000 x21).f0)).bind fun t209 => (if t209 > (wrap64 (x2 - ((rd_T67 x207000 x21).f1))) then (some (x9, 0)) else (grain_Step.l0 k x1 x2 x21 x20 (wrap64 (x21 + 1)) x207000 x207001))) else (none)) else (none))) else (some (x9, 0))
def grain_Step.f (k : Nat) (l0_0 : List (S67)) (a0_1 : Int) (a1 : Int) (a2 : Int) : Option (Int × Int) := (grain_fits.f k l0_0 a0_1 a1 a2).bind fun t207 => (if t207 = 0 then (grain_Step.l0 k a1 a2 0 (l0_0.length : Int) 0 l0_0 a0_1) else (some (0, t207)))
theorem grain_Step.calls (k : Nat) (A0_0 : Option Addr) (c0_0 : Nat) (l0_0 : List (S67)) (a0_1 : Int) (a1 : Int) (a2 : Int) (r1 : Int) (r2 : Int) (w : World) (hr0_0 : Kd.C k67 w A0_0 l0_0.length l0_0) (hc0_0 : l0_0.length ≤ c0_0) (h : grain_Step.f k l0_0 a0_1 a1 a2 = some (r1, r2)) :
  Calls Try.prog 73 #[.agg #[.slice A0_0 l0_0.length c0_0, .int .i64 a0_1], .int .i64 a1, .int .i64 a2] w fun e w' => e = .returned (.tuple #[.int .i64 r1, .int .i64 r2]) ∧ Below w.heap.size w w' := by
 have hu24 := Try.underlying24
 have HR0_0 := Aside0.mk hr0_0
 have HC0_0 := Aside0.mk hc0_0
 clear hr0_0 hc0_0
 have HB := Aside0.mk (Below.refl w.heap.size w)
 have H : ((grain_fits.f k l0_0 a0_1 a1 a2).bind fun t207 => (if t207 = 0 then (grain_Step.l0 k a1 a2 0 (l0_0.length : Int) 0 l0_0 a0_1) else (some (0, t207)))) = some (r1, r2) := h
 clear h
 replace H := bnA H
 obtain ⟨t207, A4, H⟩ := H
 by_cases c5 : t207 = 0
 rotate_left
 ·rw [if_neg c5] at H
  have c5b0 := beq_eq_false_iff_ne.mpr c5
  have c5b1 := bne_iff_ne.mpr c5
  simp only [Option.some.injEq, Prod.mk.injEq] at H
  obtain ⟨rfl, rfl⟩ := H
  go_enter Try.func73, Try.ntmps73; try go_step3
  (go_wp2_with (first | ((with_reducible refine gate_dst (N := 3) rfl ?_); refine boxA 3 #[.slice A0_0 l0_0.length c0_0, .int .i64 a0_1] 24 ?_; intro gb206 hg w18 hbox hb; have BK206 := Aside0.mk (hbox); have GE206 := ge1 hg (belA HB.out); replace HB := bst HB hb; clear hb hbox hg; obtain ⟨hcz19_0, hcz19_1, hfz19_0, hfz19_1⟩ := blk2 BK206) | (go_at_call 40; (with_reducible refine (grain_fits.calls k _ _ l0_0 a0_1 a1 a2 t207 _ ?side1 ?side2 A4.out).mono ?_); (case side1 => exact cb1 HR0_0 HB); (case side2 => exact HC0_0.out); rintro e w20 ⟨rfl, hb⟩; replace BK206 := blkB BK206 hb; replace HB := bs2 HB GE206 hb; (try clear hb))); repeat (go_step3; try (go_wp2_with (first | ((with_reducible refine gate_dst (N := 3) rfl ?_); refine boxA 3 #[.slice A0_0 l0_0.length c0_0, .int .i64 a0_1] 24 ?_; intro gb206 hg w18 hbox hb; have BK206 := Aside0.mk (hbox); have GE206 := ge1 hg (belA HB.out); replace HB := bst HB hb; clear hb hbox hg; obtain ⟨hcz19_0, hcz19_1, hfz19_0, hfz19_1⟩ := blk2 BK206) | (go_at_call 40; (with_reducible refine (grain_fits.calls k _ _ l0_0 a0_1 a1 a2 t207 _ ?side1 ?side2 A4.out).mono ?_); (case side1 => exact cb1 HR0_0 HB); (case side2 => exact HC0_0.out); rintro e w20 ⟨rfl, hb⟩; replace BK206 := blkB BK206 hb; replace HB := bs2 HB GE206 hb; (try clear hb))))))
  repeat (go_quiet (fail); try (go_wp2_with (first | ((with_reducible refine gate_dst (N := 3) rfl ?_); refine boxA 3 #[.slice A0_0 l0_0.length c0_0, .int .i64 a0_1] 24 ?_; intro gb206 hg w18 hbox hb; have BK206 := Aside0.mk (hbox); have GE206 := ge1 hg (belA HB.out); replace HB := bst HB hb; clear hb hbox hg; obtain ⟨hcz19_0, hcz19_1, hfz19_0, hfz19_1⟩ := blk2 BK206) | (go_at_call 40; (with_reducible refine (grain_fits.calls k _ _ l0_0 a0_1 a1 a2 t207 _ ?side1 ?side2 A4.out).mono ?_); (case side1 => exact cb1 HR0_0 HB); (case side2 => exact HC0_0.out); rintro e w20 ⟨rfl, hb⟩; replace BK206 := blkB BK206 hb; replace HB := bs2 HB GE206 hb; (try clear hb))); repeat (go_step3; try (go_wp2_with (first | ((with_reducible refine gate_dst (N := 3) rfl ?_); refine boxA 3 #[.slice A0_0 l0_0.length c0_0, .int .i64 a0_1] 24 ?_; intro gb206 hg w18 hbox hb; have BK206 := Aside0.mk (hbox); have GE206 := ge1 hg (belA HB.out); replace HB := bst HB hb; clear hb hbox hg; obtain ⟨hcz19_0, hcz19_1, hfz19_0, hfz19_1⟩ := blk2 BK206) | (go_at_call 40; (with_reducible refine (grain_fits.calls k _ _ l0_0 a0_1 a1 a2 t207 _ ?side1 ?side2 A4.out).mono ?_); (case side1 => exact cb1 HR0_0 HB); (case side2 => exact HC0_0.out); rintro e w20 ⟨rfl, hb⟩; replace BK206 := blkB BK206 hb; replace HB := bs2 HB GE206 hb; (try clear hb)))))))
  (try rw [Exit.noGoto_ret]); go_ret2
  exact ⟨ret1, belB HB.out GE206.out⟩
 rw [if_pos c5] at H
 have c5b0 := beq_iff_eq.mpr c5
 have c5b1 := bne_eq_false_iff_eq.mpr c5
 clear c5
 have H' := Aside0.mk H
 clear H
 go_enter Try.func73, Try.ntmps73; try go_step3
 (go_wp2_with (first | ((with_reducible refine gate_dst (N := 3) rfl ?_); refine boxA 3 #[.slice A0_0 l0_0.length c0_0, .int .i64 a0_1] 24 ?_; intro gb206 hg w6 hbox hb; have BK206 := Aside0.mk (hbox); have GE206 := ge1 hg (belA HB.out); replace HB := bst HB hb; clear hb hbox hg; obtain ⟨hcz7_0, hcz7_1, hfz7_0, hfz7_1⟩ := blk2 BK206) | (go_at_call 40; (with_reducible refine (grain_fits.calls k _ _ l0_0 a0_1 a1 a2 t207 _ ?side1 ?side2 A4.out).mono ?_); (case side1 => exact cb1 HR0_0 HB); (case side2 => exact HC0_0.out); rintro e w8 ⟨rfl, hb⟩; replace BK206 := blkB BK206 hb; replace HB := bs2 HB GE206 hb; (try clear hb); obtain ⟨hcz9_0, hcz9_1, hfz9_0, hfz9_1⟩ := blk2 BK206)); repeat (go_step3; try (go_wp2_with (first | ((with_reducible refine gate_dst (N := 3) rfl ?_); refine boxA 3 #[.slice A0_0 l0_0.length c0_0, .int .i64 a0_1] 24 ?_; intro gb206 hg w6 hbox hb; have BK206 := Aside0.mk (hbox); have GE206 := ge1 hg (belA HB.out); replace HB := bst HB hb; clear hb hbox hg; obtain ⟨hcz7_0, hcz7_1, hfz7_0, hfz7_1⟩ := blk2 BK206) | (go_at_call 40; (with_reducible refine (grain_fits.calls k _ _ l0_0 a0_1 a1 a2 t207 _ ?side1 ?side2 A4.out).mono ?_); (case side1 => exact cb1 HR0_0 HB); (case side2 => exact HC0_0.out); rintro e w8 ⟨rfl, hb⟩; replace BK206 := blkB BK206 hb; replace HB := bs2 HB GE206 hb; (try clear hb); obtain ⟨hcz9_0, hcz9_1, hfz9_0, hfz9_1⟩ := blk2 BK206)))))
 repeat (go_quiet (fail); try (go_wp2_with (first | ((with_reducible refine gate_dst (N := 3) rfl ?_); refine boxA 3 #[.slice A0_0 l0_0.length c0_0, .int .i64 a0_1] 24 ?_; intro gb206 hg w6 hbox hb; have BK206 := Aside0.mk (hbox); have GE206 := ge1 hg (belA HB.out); replace HB := bst HB hb; clear hb hbox hg; obtain ⟨hcz7_0, hcz7_1, hfz7_0, hfz7_1⟩ := blk2 BK206) | (go_at_call 40; (with_reducible refine (grain_fits.calls k _ _ l0_0 a0_1 a1 a2 t207 _ ?side1 ?side2 A4.out).mono ?_); (case side1 => exact cb1 HR0_0 HB); (case side2 => exact HC0_0.out); rintro e w8 ⟨rfl, hb⟩; replace BK206 := blkB BK206 hb; replace HB := bs2 HB GE206 hb; (try clear hb); obtain ⟨hcz9_0, hcz9_1, hfz9_0, hfz9_1⟩ := blk2 BK206)); repeat (go_step3; try (go_wp2_with (first | ((with_reducible refine gate_dst (N := 3) rfl ?_); refine boxA 3 #[.slice A0_0 l0_0.length c0_0, .int .i64 a0_1] 24 ?_; intro gb206 hg w6 hbox hb; have BK206 := Aside0.mk (hbox); have GE206 := ge1 hg (belA HB.out); replace HB := bst HB hb; clear hb hbox hg; obtain ⟨hcz7_0, hcz7_1, hfz7_0, hfz7_1⟩ := blk2 BK206) | (go_at_call 40; (with_reducible refine (grain_fits.calls k _ _ l0_0 a0_1 a1 a2 t207 _ ?side1 ?side2 A4.out).mono ?_); (case side1 => exact cb1 HR0_0 HB); (case side2 => exact HC0_0.out); rintro e w8 ⟨rfl, hb⟩; replace BK206 := blkB BK206 hb; replace HB := bs2 HB GE206 hb; (try clear hb); obtain ⟨hcz9_0, hcz9_1, hfz9_0, hfz9_1⟩ := blk2 BK206))))))
 go_loopg [9, 21] k (fun kq v9 v21 w' => ∃ (x9_1 : Int) (x21_1 : Int), v9 = .int .i64 x9_1 ∧ v21 = .int .i64 x21_1 ∧ Aside0 (grain_Step.l0 kq a1 a2 x9_1 (l0_0.length : Int) x21_1 l0_0 a0_1 = some (r1, r2)) ∧ Aside0 (kq ≤ k) ∧ Aside0 (w'.heap[gb206]? = some (.cells #[(.slice A0_0 l0_0.length c0_0), .int .i64 a0_1] 24 (0, 0))) ∧ Aside0 (Below w.heap.size w w'))
 case atStart => exact ⟨(0), (0), relA, relA, H', ⟨Nat.le_refl _⟩, ⟨blkA BK206.out⟩, ⟨belB HB.out GE206.out⟩⟩
 case round =>
  clear H'
  try clear p2
  try clear p3
  try clear c5
  try clear c5b0
  try clear c5b1
  try clear c7
  try clear hcz7_0 hcz7_1
  try clear hcz9_0 hcz9_1
  try clear hfz7_0 hfz7_1
  try clear hfz9_0 hfz9_1
  obtain ⟨x9_1, x21_1, rfl, rfl, HA, HK1, BK206, HB⟩ := hrel
  cases gk with
  | zero => exact absurd HA.out (by simp [grain_Step.l0])
  | succ k1 =>
   have H := HA.out
   clear HA
   simp only [grain_Step.l0] at H
   by_cases c10 : x21_1 < (l0_0.length : Int)
   ·rw [if_pos c10] at H
    have c10b0 := decide_eq_true c10
    clear c10
    by_cases c11 : x21_1 = 0
    ·rw [if_pos c11] at H
     have c11b0 := beq_iff_eq.mpr c11
     have c11b1 := bne_eq_false_iff_eq.mpr c11
     clear c11
     have H' := Aside0.mk H
     clear H
     (go_wp2; repeat (go_step3; try (go_wp2)))
     repeat (go_quiet (fail); try (go_wp2; repeat (go_step3; try (go_wp2))))
     go_roundg k1
     case measure => have := HK1.out; omega
     case rel => exact ⟨(x9_1), (wrap64 (x21_1 + 1)), relA, relA, H', ⟨by have := HK1.out; omega⟩, ⟨blkA BK206.out⟩, ⟨belB HB.out GE206.out⟩⟩
    ·rw [if_neg c11] at H
     have c11b0 := beq_eq_false_iff_ne.mpr c11
     have c11b1 := bne_iff_ne.mpr c11
     by_cases c12 : 0 ≤ x21_1
     ·rw [if_pos c12] at H
      have c12b0 := decide_eq_true c12
      clear c12
      by_cases c13 : x21_1 < (l0_0.length : Int)
      ·rw [if_pos c13] at H
       have c13b0 := decide_eq_true c13
       clear c13
       replace H := bnA H
       obtain ⟨t209, A14, H⟩ := H
       by_cases c15 : t209 > (wrap64 (a2 - ((rd_T67 l0_0 x21_1).f1)))
       ·rw [if_pos c15] at H
        have c15b0 := decide_eq_true c15
        have c15b0w : decide ((IntKind.i64.wrap (a2 - ((rd_T67 l0_0 x21_1).f1))) < t209) = true := by first | exact c15b0 | simpa only [i64_w] using c15b0
        clear c15
        simp only [Option.some.injEq, Prod.mk.injEq] at H
        obtain ⟨rfl, rfl⟩ := H
        obtain ⟨hcz16_0, hcz16_1, hfz16_0, hfz16_1⟩ := blk2 BK206
        have p208 : 0 ≤ (x21_1 : Int) := of_decide_eq_true asmA
        have q208 : x21_1 < (l0_0.length : Int) := of_decide_eq_true asmA
        obtain ⟨ad208, e208, hx208_0, hx208_1⟩ := at_T67 HR0_0.out x21_1 p208 q208
        cases e208
        replace hx208_0 := cbx HB hx208_0
        replace hx208_1 := cbx HB hx208_1
        replace p208 := eq_true p208
        replace q208 := eq_true q208
        (go_wp2_with (first | (go_at_call 41; (with_reducible refine (grain_end.calls a1 ((rd_T67 l0_0 x21_1).f0) t209 _ A14.out).mono ?_); rintro e w' ⟨rfl, ⟨nd, rfl⟩⟩; (try exact drA); have p210 : 0 ≤ (x21_1 : Int) := of_decide_eq_true asmA; have q210 : x21_1 < (l0_0.length : Int) := of_decide_eq_true asmA; obtain ⟨ad210, e210, hx210_0, hx210_1⟩ := at_T67 HR0_0.out x21_1 p210 q210; obtain rfl : ad208 = ad210 := (by injection e210); replace hx210_0 := cbx HB hx210_0; replace hx210_1 := cbx HB hx210_1; replace p210 := eq_true p210; replace q210 := eq_true q210)); repeat (go_step3; try (go_wp2_with (first | (go_at_call 41; (with_reducible refine (grain_end.calls a1 ((rd_T67 l0_0 x21_1).f0) t209 _ A14.out).mono ?_); rintro e w' ⟨rfl, ⟨nd, rfl⟩⟩; (try exact drA); have p210 : 0 ≤ (x21_1 : Int) := of_decide_eq_true asmA; have q210 : x21_1 < (l0_0.length : Int) := of_decide_eq_true asmA; obtain ⟨ad210, e210, hx210_0, hx210_1⟩ := at_T67 HR0_0.out x21_1 p210 q210; obtain rfl : ad208 = ad210 := (by injection e210); replace hx210_0 := cbx HB hx210_0; replace hx210_1 := cbx HB hx210_1; replace p210 := eq_true p210; replace q210 := eq_true q210)))))
        repeat (go_quiet ((go_at_call 41; (with_reducible refine (grain_end.calls a1 ((rd_T67 l0_0 x21_1).f0) t209 _ A14.out).mono ?_); rintro e w' ⟨rfl, ⟨nd, rfl⟩⟩; (try exact drA); have p210 : 0 ≤ (x21_1 : Int) := of_decide_eq_true asmA; have q210 : x21_1 < (l0_0.length : Int) := of_decide_eq_true asmA; obtain ⟨ad210, e210, hx210_0, hx210_1⟩ := at_T67 HR0_0.out x21_1 p210 q210; obtain rfl : ad208 = ad210 := (by injection e210); replace hx210_0 := cbx HB hx210_0; replace hx210_1 := cbx HB hx210_1; replace p210 := eq_true p210; replace q210 := eq_true q210)); try (go_wp2_with (first | (go_at_call 41; (with_reducible refine (grain_end.calls a1 ((rd_T67 l0_0 x21_1).f0) t209 _ A14.out).mono ?_); rintro e w' ⟨rfl, ⟨nd, rfl⟩⟩; (try exact drA); have p210 : 0 ≤ (x21_1 : Int) := of_decide_eq_true asmA; have q210 : x21_1 < (l0_0.length : Int) := of_decide_eq_true asmA; obtain ⟨ad210, e210, hx210_0, hx210_1⟩ := at_T67 HR0_0.out x21_1 p210 q210; obtain rfl : ad208 = ad210 := (by injection e210); replace hx210_0 := cbx HB hx210_0; replace hx210_1 := cbx HB hx210_1; replace p210 := eq_true p210; replace q210 := eq_true q210)); repeat (go_step3; try (go_wp2_with (first | (go_at_call 41; (with_reducible refine (grain_end.calls a1 ((rd_T67 l0_0 x21_1).f0) t209 _ A14.out).mono ?_); rintro e w' ⟨rfl, ⟨nd, rfl⟩⟩; (try exact drA); have p210 : 0 ≤ (x21_1 : Int) := of_decide_eq_true asmA; have q210 : x21_1 < (l0_0.length : Int) := of_decide_eq_true asmA; obtain ⟨ad210, e210, hx210_0, hx210_1⟩ := at_T67 HR0_0.out x21_1 p210 q210; obtain rfl : ad208 = ad210 := (by injection e210); replace hx210_0 := cbx HB hx210_0; replace hx210_1 := cbx HB hx210_1; replace p210 := eq_true p210; replace q210 := eq_true q210))))))
        (try rw [Exit.noGoto_ret]); go_ret2
        exact ⟨ret1, belB HB.out GE206.out⟩
       ·rw [if_neg c15] at H
        have c15b0 := decide_eq_false c15
        have c15b0w : decide ((IntKind.i64.wrap (a2 - ((rd_T67 l0_0 x21_1).f1))) < t209) = false := by first | exact c15b0 | simpa only [i64_w] using c15b0
        clear c15
        have H' := Aside0.mk H
        clear H
        obtain ⟨hcz17_0, hcz17_1, hfz17_0, hfz17_1⟩ := blk2 BK206
        have p208 : 0 ≤ (x21_1 : Int) := of_decide_eq_true asmA
        have q208 : x21_1 < (l0_0.length : Int) := of_decide_eq_true asmA
        obtain ⟨ad208, e208, hx208_0, hx208_1⟩ := at_T67 HR0_0.out x21_1 p208 q208
        cases e208
        replace hx208_0 := cbx HB hx208_0
        replace hx208_1 := cbx HB hx208_1
        replace p208 := eq_true p208
        replace q208 := eq_true q208
        (go_wp2_with (first | (go_at_call 41; (with_reducible refine (grain_end.calls a1 ((rd_T67 l0_0 x21_1).f0) t209 _ A14.out).mono ?_); rintro e w' ⟨rfl, ⟨nd, rfl⟩⟩; (try exact drA); have p210 : 0 ≤ (x21_1 : Int) := of_decide_eq_true asmA; have q210 : x21_1 < (l0_0.length : Int) := of_decide_eq_true asmA; obtain ⟨ad210, e210, hx210_0, hx210_1⟩ := at_T67 HR0_0.out x21_1 p210 q210; obtain rfl : ad208 = ad210 := (by injection e210); replace hx210_0 := cbx HB hx210_0; replace hx210_1 := cbx HB hx210_1; replace p210 := eq_true p210; replace q210 := eq_true q210)); repeat (go_step3; try (go_wp2_with (first | (go_at_call 41; (with_reducible refine (grain_end.calls a1 ((rd_T67 l0_0 x21_1).f0) t209 _ A14.out).mono ?_); rintro e w' ⟨rfl, ⟨nd, rfl⟩⟩; (try exact drA); have p210 : 0 ≤ (x21_1 : Int) := of_decide_eq_true asmA; have q210 : x21_1 < (l0_0.length : Int) := of_decide_eq_true asmA; obtain ⟨ad210, e210, hx210_0, hx210_1⟩ := at_T67 HR0_0.out x21_1 p210 q210; obtain rfl : ad208 = ad210 := (by injection e210); replace hx210_0 := cbx HB hx210_0; replace hx210_1 := cbx HB hx210_1; replace p210 := eq_true p210; replace q210 := eq_true q210)))))
        repeat (go_quiet ((go_at_call 41; (with_reducible refine (grain_end.calls a1 ((rd_T67 l0_0 x21_1).f0) t209 _ A14.out).mono ?_); rintro e w' ⟨rfl, ⟨nd, rfl⟩⟩; (try exact drA); have p210 : 0 ≤ (x21_1 : Int) := of_decide_eq_true asmA; have q210 : x21_1 < (l0_0.length : Int) := of_decide_eq_true asmA; obtain ⟨ad210, e210, hx210_0, hx210_1⟩ := at_T67 HR0_0.out x21_1 p210 q210; obtain rfl : ad208 = ad210 := (by injection e210); replace hx210_0 := cbx HB hx210_0; replace hx210_1 := cbx HB hx210_1; replace p210 := eq_true p210; replace q210 := eq_true q210)); try (go_wp2_with (first | (go_at_call 41; (with_reducible refine (grain_end.calls a1 ((rd_T67 l0_0 x21_1).f0) t209 _ A14.out).mono ?_); rintro e w' ⟨rfl, ⟨nd, rfl⟩⟩; (try exact drA); have p210 : 0 ≤ (x21_1 : Int) := of_decide_eq_true asmA; have q210 : x21_1 < (l0_0.length : Int) := of_decide_eq_true asmA; obtain ⟨ad210, e210, hx210_0, hx210_1⟩ := at_T67 HR0_0.out x21_1 p210 q210; obtain rfl : ad208 = ad210 := (by injection e210); replace hx210_0 := cbx HB hx210_0; replace hx210_1 := cbx HB hx210_1; replace p210 := eq_true p210; replace q210 := eq_true q210)); repeat (go_step3; try (go_wp2_with (first | (go_at_call 41; (with_reducible refine (grain_end.calls a1 ((rd_T67 l0_0 x21_1).f0) t209 _ A14.out).mono ?_); rintro e w' ⟨rfl, ⟨nd, rfl⟩⟩; (try exact drA); have p210 : 0 ≤ (x21_1 : Int) := of_decide_eq_true asmA; have q210 : x21_1 < (l0_0.length : Int) := of_decide_eq_true asmA; obtain ⟨ad210, e210, hx210_0, hx210_1⟩ := at_T67 HR0_0.out x21_1 p210 q210; obtain rfl : ad208 = ad210 := (by injection e210); replace hx210_0 := cbx HB hx210_0; replace hx210_1 := cbx HB hx210_1; replace p210 := eq_true p210; replace q210 := eq_true q210))))))
        go_roundg k1
        case measure => have := HK1.out; omega
        case rel => exact ⟨(x21_1), (wrap64 (x21_1 + 1)), relA, relA, H', ⟨by have := HK1.out; omega⟩, ⟨blkA BK206.out⟩, ⟨belB HB.out GE206.out⟩⟩
      ·rw [if_neg c13] at H
       exact absurd H (by simp)
     ·rw [if_neg c12] at H
      exact absurd H (by simp)
   ·rw [if_neg c10] at H
    have c10b0 := decide_eq_false c10
    clear c10
    simp only [Option.some.injEq, Prod.mk.injEq] at H
    obtain ⟨rfl, rfl⟩ := H
    (go_wp2; repeat (go_step3; try (go_wp2)))
    repeat (go_quiet (fail); try (go_wp2; repeat (go_step3; try (go_wp2))))
    (try rw [Exit.noGoto_ret]); go_ret2
    exact ⟨ret1, belB HB.out GE206.out⟩
def fold_at.f (k : Nat) (l0_0 : List (S67)) (a0_1 : Int) (a1 : Int) (l2 : List Int) : Option (List Int × Bool) := (key_Read.f k l2).bind fun bt212 => ((grain_Expired.f k l0_0 a0_1 bt212.2.1 a1).bind fun bt219 => ((grain_Step.f k l0_0 a0_1 bt212.2.1 a1).bind fun bt221 => (if 0 ≤ (mx bt212.2.2.1 bt221.1) then (if (mx bt212.2.2.1 bt221.1) < (l0_0.length : Int) then ((grain_Floor.f bt212.2.1 ((rd_T67 l0_0 (mx bt212.2.2.1 bt221.1)).f0)).bind fun bt224 => ((key_Write.f k bt212.1 bt224.1 (mx bt212.2.2.1 bt221.1)).bind fun bt226 => (some (bt226.1, bt219.1)))) else (none)) else (none))))
def fold_at.T5 : Bool × List (List Nat × List Nat) := (true, [([], []), ([0], [0]), ([], []), ([2], [2]), ([], []), ([4], [4]), ([3, 5], [3, 5]), ([6], [6]), ([7], [7]), ([1, 8], [1, 8]), ([9], [9]), ([10], [10]), ([10], [10]), ([0, 1, 2, 3, 4, 5, 6, 7, 8, 9, 10, 11], []), ([13, 11, 9, 0, 1, 2, 3, 4, 5, 6, 7, 8, 9, 10, 11], [11, 13])])
def fold_at.B5 : List Nat := [0, 1, 0, 4, 0, 16, 60, 124, 252, 511, 1023, 2047, 2047, 4095, 12287]
theorem fold_at.tab5 : rtab .any (opsOf Try.f38 5) = fold_at.T5 := by kernel_rfl
theorem fold_at.bits5 : waitsOk fold_at.T5.2 fold_at.B5 = true := by kernel_rfl
theorem fold_at.calls (k : Nat) (A0_0 : Option Addr) (c0_0 : Nat) (l0_0 : List (S67)) (a0_1 : Int) (a1 : Int) (A2 : Option Addr) (c2 : Nat) (l2 : List Int) (r1 : List Int) (r2 : Bool) (w : World) (hr0_0 : Kd.C k67 w A0_0 l0_0.length l0_0) (hc0_0 : l0_0.length ≤ c0_0) (hr2 : Kd.C (Kd.int .u8) w A2 l2.length l2) (hc2 : l2.length ≤ c2) (h : fold_at.f k l0_0 a0_1 a1 l2 = some (r1, r2)) :
  Calls Try.prog 38 #[.agg #[.slice A0_0 l0_0.length c0_0, .int .i64 a0_1], .int .i64 a1, .slice A2 l2.length c2] w fun e w' => ∃ v0_ : Value, e = .returned (.tuple #[v0_, .bool r2]) ∧ Kd.R (Kd.int .u8) 5 w' w.heap.size (fun _ => True) v0_ r1 ∧ Below w.heap.size w w' := by
 have hu24 := Try.underlying24
 have hu62 := Try.underlying62
 have HR0_0 := Aside0.mk hr0_0
 have HC0_0 := Aside0.mk hc0_0
 clear hr0_0 hc0_0
 have HR2 := Aside0.mk hr2
 have HC2 := Aside0.mk hc2
 clear hr2 hc2
 have HB := Aside0.mk (Below.refl w.heap.size w)
 have H : ((key_Read.f k l2).bind fun bt212 => ((grain_Expired.f k l0_0 a0_1 bt212.2.1 a1).bind fun bt219 => ((grain_Step.f k l0_0 a0_1 bt212.2.1 a1).bind fun bt221 => (if 0 ≤ (mx bt212.2.2.1 bt221.1) then (if (mx bt212.2.2.1 bt221.1) < (l0_0.length : Int) then ((grain_Floor.f bt212.2.1 ((rd_T67 l0_0 (mx bt212.2.2.1 bt221.1)).f0)).bind fun bt224 => ((key_Write.f k bt212.1 bt224.1 (mx bt212.2.2.1 bt221.1)).bind fun bt226 => (some (bt226.1, bt219.1)))) else (none)) else (none))))) = some (r1, r2) := h
 clear h
 replace H := bnA H
 obtain ⟨⟨t212, t215, t216, t217⟩, A4, H⟩ := H
 replace H : ((grain_Expired.f k l0_0 a0_1 t215 a1).bind fun bt219 => ((grain_Step.f k l0_0 a0_1 t215 a1).bind fun bt221 => (if 0 ≤ (mx t216 bt221.1) then (if (mx t216 bt221.1) < (l0_0.length : Int) then ((grain_Floor.f t215 ((rd_T67 l0_0 (mx t216 bt221.1)).f0)).bind fun bt224 => ((key_Write.f k t212 bt224.1 (mx t216 bt221.1)).bind fun bt226 => (some (bt226.1, bt219.1)))) else (none)) else (none)))) = some (r1, r2) := H
 replace H := bnA H
 obtain ⟨⟨t219, t220⟩, A5, H⟩ := H
 replace H : ((grain_Step.f k l0_0 a0_1 t215 a1).bind fun bt221 => (if 0 ≤ (mx t216 bt221.1) then (if (mx t216 bt221.1) < (l0_0.length : Int) then ((grain_Floor.f t215 ((rd_T67 l0_0 (mx t216 bt221.1)).f0)).bind fun bt224 => ((key_Write.f k t212 bt224.1 (mx t216 bt221.1)).bind fun bt226 => (some (bt226.1, t219)))) else (none)) else (none))) = some (r1, r2) := H
 replace H := bnA H
 obtain ⟨⟨t221, t222⟩, A6, H⟩ := H
 replace H : (if 0 ≤ (mx t216 t221) then (if (mx t216 t221) < (l0_0.length : Int) then ((grain_Floor.f t215 ((rd_T67 l0_0 (mx t216 t221)).f0)).bind fun bt224 => ((key_Write.f k t212 bt224.1 (mx t216 t221)).bind fun bt226 => (some (bt226.1, t219)))) else (none)) else (none)) = some (r1, r2) := H
 obtain ⟨ji7, hji7⟩ : ∃ j_ : Int, (mx t216 t221) = j_ := ⟨_, rfl⟩
 replace H : (if 0 ≤ (ji7) then (if (ji7) < (l0_0.length : Int) then ((grain_Floor.f t215 ((rd_T67 l0_0 (ji7)).f0)).bind fun bt224 => ((key_Write.f k t212 bt224.1 (ji7)).bind fun bt226 => (some (bt226.1, t219)))) else (none)) else (none)) = some (r1, r2) := by first | (rw [hji7] at H; exact H) | (simp only [hji7] at H ⊢; exact H)
 (try rw [hji7] at A4)
 (try rw [hji7] at A5)
 (try rw [hji7] at A6)
 have hji7_ : (if t216 < t221 then t221 else t216) = ji7 := hji7
 replace H := ifN H
 obtain ⟨c8, H⟩ := H
 have c8b0 := decide_eq_true c8
 clear c8
 replace H := ifN H
 obtain ⟨c9, H⟩ := H
 have c9b0 := decide_eq_true c9
 clear c9
 replace H := bnA H
 obtain ⟨⟨t224, t225⟩, A10, H⟩ := H
 replace H : ((key_Write.f k t212 t224 (ji7)).bind fun bt226 => (some (bt226.1, t219))) = some (r1, r2) := H
 replace H := bnA H
 obtain ⟨⟨t226, t229⟩, A11, H⟩ := H
 replace H : (some (t226, t219)) = some (r1, r2) := H
 simp only [Option.some.injEq, Prod.mk.injEq] at H
 obtain ⟨rfl, rfl⟩ := H
 go_enter Try.func38, Try.ntmps38
 try go_wp2_with (first | ((with_reducible refine gate_dst (N := 3) rfl ?_); refine boxA 3 #[.slice A0_0 l0_0.length c0_0, .int .i64 a0_1] 24 ?_; intro gb211 hg w12 hbox hb; have BK211 := Aside0.mk (hbox); have GE211 := ge1 hg (belA HB.out); replace HB := bst HB hb; clear hb hbox hg) | ((with_reducible refine gate_callee (f := 72) rfl ?_); refine goesL_ (some 14) rfl rfl Try.func72 (by kernel_rfl) rfl #[.slice A2 l2.length c2] rfl argA ?_; (with_reducible refine (key_Read.calls k _ _ l2 t212 t215 t216 t217 _ ?side1 ?side2 A4.out).mono ?_); (case side1 => exact cb1 HR2 HB); (case side2 => exact HC2.out); rintro e w13 ⟨v213, rfl, ho0, hb⟩; refine ⟨_, rfl, ?_⟩; have HO214 := Aside0.mk (Kd.R_lower ho0 (below_size (belB HB.out GE211.out))); replace BK211 := blkB BK211 hb; replace HB := bs2 HB GE211 hb; (try clear hb); (try clear ho0)) | ((with_reducible refine gate_dst (N := 8) rfl ?_); refine boxA 8 #[.slice none 0 0, .int .i64 0, .int .i64 0] 62 ?_; intro gb218 hg w14 hbox hb; have BK218 := Aside0.mk (hbox); have GW218 := ge1 hg (belB HB.out GE211.out); have GE218 := GW218; have NB211_218 := neL hg BK211; have NB218_211 := neR hg BK211; replace HO214 := Aside0.mk (Kd.R_below (rowA HO214.out) hb); replace BK211 := blkB BK211 hb; replace HB := bs2 HB GE211 hb; clear hb hbox hg; obtain ⟨Ao15, co15, eo15⟩ := Kd.R_slice HO214.out; subst eo15; have hnb16 := NB218_211.out; have hnc16 := NB211_218.out; obtain ⟨hcz17_0, hcz17_1, hcz17_2, hfz17_0, hfz17_1, hfz17_2⟩ := blk3 BK218; obtain ⟨hcz18_0, hcz18_1, hfz18_0, hfz18_1⟩ := blk2 BK211) | ((with_reducible refine gate_callee (f := 17) rfl ?_); refine goesL_ (some 22) rfl rfl Try.func17 (by kernel_rfl) rfl #[.agg #[.slice A0_0 l0_0.length c0_0, .int .i64 a0_1], .int .i64 t215, .int .i64 a1] rfl argA ?_; (with_reducible refine (grain_Expired.calls k _ _ l0_0 a0_1 t215 a1 t219 t220 _ ?side1 ?side2 A5.out).mono ?_); (case side1 => exact Kd.C_below HR0_0.out (belC HB.out GE211.out GE218.out)); (case side2 => exact HC0_0.out); rintro e w19 ⟨rfl, hb⟩; refine ⟨_, rfl, ?_⟩; replace HO214 := Aside0.mk (Kd.R_below (by (with_reducible repeat (first | apply Kd.R_alloc | apply Kd.R_drewN | apply Kd.R_drew)); exact (Kd.R_mono (Kd.R_far (p := ⟨gb218, 2, none⟩) (Kd.R_far (p := ⟨gb218, 1, none⟩) (Kd.R_far (p := ⟨gb218, 0, none⟩) (Kd.R_types HO214.out BK218.out (by decide)) (fun _ hk => hk.2) (.slice Ao15 t212.length co15)) (fun _ hk => hk.2) (.int .i64 t215)) (fun _ hk => hk.2) (.int .i64 t216)) (fun _ h_ => h_.1))) hb); replace BK211 := Aside0.mk (blk_below (g := gb211) (o := .cells #[.slice A0_0 l0_0.length c0_0, .int .i64 a0_1] 24 (0, 0)) (putB BK211.out NB211_218.out) hb); replace BK218 := Aside0.mk (blk_below (g := gb218) (o := .cells #[.slice Ao15 t212.length co15, .int .i64 t215, .int .i64 t216] 62 (0, 0)) (putA BK218.out) hb); replace HB := bs3 HB GE211 GE218 hb; (try clear hb); obtain ⟨hcz20_0, hcz20_1, hfz20_0, hfz20_1⟩ := blk2 BK211; obtain ⟨hcz21_0, hcz21_1, hcz21_2, hfz21_0, hfz21_1, hfz21_2⟩ := blk3 BK218) | ((with_reducible refine gate_callee (f := 73) rfl ?_); refine goesL_ (some 30) rfl rfl Try.func73 (by kernel_rfl) rfl #[.agg #[.slice A0_0 l0_0.length c0_0, .int .i64 a0_1], .int .i64 t215, .int .i64 a1] rfl argA ?_; (with_reducible refine (grain_Step.calls k _ _ l0_0 a0_1 t215 a1 t221 t222 _ ?side1 ?side2 A6.out).mono ?_); (case side1 => exact cb1 HR0_0 HB); (case side2 => exact HC0_0.out); rintro e w22 ⟨rfl, hb⟩; refine ⟨_, rfl, ?_⟩; replace HO214 := Aside0.mk (Kd.R_below (rowA HO214.out) hb); replace BK211 := blkB BK211 hb; replace BK218 := blkB BK218 hb; replace HB := bs3 HB GE211 GE218 hb; (try clear hb); obtain ⟨hcz23_0, hcz23_1, hcz23_2, hfz23_0, hfz23_1, hfz23_2⟩ := blk3 BK218))
 have n0_ : Aside0 (Kd.R Kd.string 9 (w22.setCell ⟨gb218, 2, none⟩ (.int .i64 ji7)) w.heap.size (fun _ => True) (.slice Ao15 t212.length co15) t212) := ⟨by (with_reducible repeat (first | apply Kd.R_alloc | apply Kd.R_drewN | apply Kd.R_drew)); exact Kd.R_mono (Kd.R_far (p := ⟨gb218, 2, none⟩) (Kd.R_types HO214.out BK218.out (by decide)) (fun _ hk => hk.2) (.int .i64 ji7)) (fun _ hk => trivial)⟩
 have n1_ : Aside0 ((w22.setCell ⟨gb218, 2, none⟩ (.int .i64 ji7)).heap[gb211]? = some (.cells #[.slice A0_0 l0_0.length c0_0, .int .i64 a0_1] 24 (0, 0))) := ⟨putB BK211.out NB211_218.out⟩
 have n2_ : Aside0 ((w22.setCell ⟨gb218, 2, none⟩ (.int .i64 ji7)).heap[gb218]? = some (.cells #[.slice Ao15 t212.length co15, .int .i64 t215, .int .i64 ji7] 62 (0, 0))) := ⟨putA BK218.out⟩
 have n3_ : Aside0 (Below w.heap.size w (w22.setCell ⟨gb218, 2, none⟩ (.int .i64 ji7))) := ⟨belC HB.out GE211.out GE218.out⟩
 (try clear HO214)
 (try clear BK211)
 (try clear BK218)
 (try clear HB)
 generalize (w22.setCell ⟨gb218, 2, none⟩ (.int .i64 ji7)) = w24 at n0_ n1_ n2_ n3_ ⊢
 have HO214 := n0_
 have BK211 := n1_
 have BK218 := n2_
 have HB := n3_
 clear n0_ n1_ n2_ n3_
 replace HO214 := Aside0.mk (Kd.R_drew HO214.out)
 replace BK211 := Aside0.mk (blk_drew BK211.out)
 replace BK218 := Aside0.mk (blk_drew BK218.out)
 replace HB := Aside0.mk (below_drew1 HB.out)
 have p223 : 0 ≤ ((ji7) : Int) := of_decide_eq_true asmA
 have q223 : (ji7) < (l0_0.length : Int) := of_decide_eq_true asmA
 obtain ⟨ad223, e223, hx223_0, hx223_1⟩ := at_T67 HR0_0.out (ji7) p223 q223
 have hw223_1 := hx223_1
 have hw223_0 := hx223_0
 cases e223
 replace hx223_0 := cbx HB hx223_0
 replace hx223_1 := cbx HB hx223_1
 replace p223 := eq_true p223
 replace q223 := eq_true q223
 refine start_ (n := 15) (S := fun w' => w'.cell? ⟨gb218, 0, none⟩ = some (.slice Ao15 t212.length co15) ∧ w'.cell? ⟨gb218, 1, none⟩ = some (.int .i64 t215) ∧ w'.cell? ⟨gb218, 2, none⟩ = some (.int .i64 ji7) ∧ w'.cell? ⟨gb211, 0, none⟩ = some (.slice (some ad223) l0_0.length c0_0) ∧ w'.cell? ⟨gb211, 1, none⟩ = some (.int .i64 a0_1) ∧ w'.cell? (ad223.add (((ji7)).toNat * 2)) = some (.int .i64 ((rd_T67 l0_0 (ji7)).f0)) ∧ w'.cell? ⟨(ad223.add (((ji7)).toNat * 2)).block, (ad223.add (((ji7)).toNat * 2)).off + 1, none⟩ = some (.int .i64 ((rd_T67 l0_0 (ji7)).f1))) (ds := [14]) #[false, false, false, false, false, false, false, false, false, false, false, false, false, false, false] (by kernel_rfl) rfl rfl ⟨(blk_cell BK218.out 0).trans rfl, (blk_cell BK218.out 1).trans rfl, (blk_cell BK218.out 2).trans rfl, (blk_cell BK211.out 0).trans rfl, (blk_cell BK211.out 1).trans rfl, ((HB.out.cell (World.block_lt_of_cell? w _ hw223_0)).trans hw223_0), ((HB.out.cell (World.block_lt_of_cell? w _ hw223_1)).trans hw223_1)⟩ (fun hHeld => ?_); refine with_tabW fold_at.tab5 fold_at.bits5 (fun HT_ HW_ => ?_)
 generalize w24.drew = w25 at HO214 BK211 BK218 HB hx223_0 hx223_1 hHeld ⊢
 refine pureD 0 39 HT_ ?_
 refine pureD 2 41 HT_ ?_
 refine pureD 4 43 HT_ ?_
 refine takeD 1 40 HT_ HW_ hHeld ?_
 refine takeD 3 42 HT_ HW_ hHeld ?_
 refine takeD 5 44 HT_ HW_ hHeld ?_
 refine pureD 6 45 HT_ ?_
 refine pureD 7 46 HT_ ?_
 refine takeD 8 47 HT_ HW_ hHeld ?_
 refine one_ (i := 9) (N := some 48) #[true, true, true, true, true, true, true, true, true, true, false, false, false, false, false] rfl rfl (one_of HT_.out (by kernel_rfl)) (by decide) (fun K hK => ?_)
 refine goes_ Try.func29 (by kernel_rfl) rfl #[.int .i64 t215, .int .i64 ((rd_T67 l0_0 (ji7)).f0)] (by rfl) rfl rfl (by (try simp only [List.map_toArray, List.map_cons, List.map_nil]); first | done | (simp only [hji7]; rfl) | rfl | (simp only [List.length_drop, List.length_take]; rfl)) ?_
 with_reducible refine (grain_Floor.calls t215 ((rd_T67 l0_0 (ji7)).f0) t224 t225 _ A10.out).mono ?_
 rintro e w' ⟨rfl, ⟨nd, rfl⟩⟩
 refine ⟨_, rfl, ?_⟩
 refine hK.out _ _ ⟨(blk_cell BK218.out 0).trans rfl, (blk_cell BK218.out 1).trans rfl, (blk_cell BK218.out 2).trans rfl, (blk_cell BK211.out 0).trans rfl, (blk_cell BK211.out 1).trans rfl, ((HB.out.cell (World.block_lt_of_cell? w _ hw223_0)).trans hw223_0), ((HB.out.cell (World.block_lt_of_cell? w _ hw223_1)).trans hw223_1)⟩ (fun hHeld => ?_)
 clear hK K
 refine norm_ (a' := ?_) ?_ ?_
 rotate_left
 ·show Act.put _ (some 48) _ = _
  simp only [Act.put, List.setIfInBounds_toArray, List.set_cons_zero, List.set_cons_succ, i64_w, i32_w]
  rfl
 refine pureD 10 38 HT_ ?_
 refine pureD 11 49 HT_ ?_
 refine pureD 12 50 HT_ ?_
 refine pureD 13 51 HT_ ?_
 refine last_ (i := 14) (N := none) #[true, true, true, true, true, true, true, true, true, true, true, true, true, true, true] rfl rfl (one_of HT_.out (by kernel_rfl)) (by decide) (fun K hK => ?_)
 have hs26 : w25.cell? ⟨gb218, 1, none⟩ = some (.int .i64 t215) := (blk_cell BK218.out 1).trans rfl
 have hfs26 := blk_frozen BK218.out 1
 have hns26_0 := NB211_218.out
 have hms26_0 := NB218_211.out
 refine skip_ (w1 := ?_) (by rfl) rfl ?_ ?_
 rotate_left
 ·go_simp
  rfl
 refine hK.out _ _ ?_
 clear hK K
 refine done_ (done_of HT_.out (by kernel_rfl)) ?_
 obtain ⟨hcz27_0, hcz27_1, hcz27_2, hfz27_0, hfz27_1, hfz27_2⟩ := blk3 BK218
 try go_wp2_with (first | ((with_reducible refine gate_callee (f := 30) rfl ?_); refine goesL_ (some 54) rfl rfl Try.func30 (by kernel_rfl) rfl #[.agg #[.slice Ao15 t212.length co15, .int .i64 t224, .int .i64 ji7]] rfl (by (try simp only [List.map_toArray, List.map_cons, List.map_nil]); first | done | (simp only [hji7]; rfl) | rfl | (simp only [List.length_drop, List.length_take]; rfl)) ?_; (with_reducible refine (key_Write.calls k _ _ t212 t224 ji7 t226 t229 _ ?side1 ?side2 A11.out).mono ?_); (case side1 => refine (Kd.R_reads' (e := 9) (base := w.heap.size) (ok := fun k_ => True) (n := t212.length) (c := co15) ?_).2.2; exact (by (with_reducible repeat (first | apply Kd.R_alloc | apply Kd.R_drewN | apply Kd.R_drew)); exact (Kd.R_mono (Kd.R_far (p := ⟨gb218, 1, none⟩) (Kd.R_types HO214.out BK218.out (by decide)) (fun _ hk => hk.2) (.int .i64 t224)) (fun _ h_ => h_.1)))); (case side2 => exact (Kd.R_reads' HO214.out).2.1); rintro e w28 ⟨v227, rfl, ho0, hb⟩; refine ⟨_, rfl, ?_⟩; have HO228 := Aside0.mk (Kd.R_lower ho0 (below_size (belC HB.out GE211.out GE218.out))); replace HO214 := Aside0.mk (Kd.R_below (by (with_reducible repeat (first | apply Kd.R_alloc | apply Kd.R_drewN | apply Kd.R_drew)); exact (Kd.R_mono (Kd.R_far (p := ⟨gb218, 1, none⟩) (Kd.R_types HO214.out BK218.out (by decide)) (fun _ hk => hk.2) (.int .i64 t224)) (fun _ h_ => h_.1))) hb); replace BK211 := Aside0.mk (blk_below (g := gb211) (o := .cells #[.slice (some ad223) l0_0.length c0_0, .int .i64 a0_1] 24 (0, 0)) (putB BK211.out NB211_218.out) hb); replace BK218 := Aside0.mk (blk_below (g := gb218) (o := .cells #[.slice Ao15 t212.length co15, .int .i64 t224, .int .i64 ji7] 62 (0, 0)) (putA BK218.out) hb); replace HB := bs3 HB GE211 GE218 hb; (try clear hb); (try clear ho0)))
 go_ret2
 exact ⟨_, by first | rfl | (simp [errW_none, errW_some] <;> rfl) | (simp only [← hji7]; first | rfl | (simp [errW_none, errW_some] <;> rfl)) | (simp [*, errW_none, errW_some] <;> rfl) | (exfalso; simp_all; done), rowA HO228.out, belC HB.out GE211.out GE218.out⟩
end Go.Proofs.Ytjemmmemenljbaa.PFold
end
