import Derived.Test.YtdopbhbbpgfliaaZAskAll05
section
namespace Go.Proofs.Ytdopbhbbpgfliaa.PAsk
open Go.RowKit Go.Proofs.YtdopbhbbpgfliaaW.PrintWords Go.Proofs.YtdopbhbbpgfliaaW.PrintLast Go.Proofs.YtdopbhbbpgfliaaW.PrintMore
attribute [local go_sem] max2_int min2_int max_two min_two max_three min_three max_four min_four   -- for this text's walks alone
set_option linter.unusedVariables false
set_option linter.unusedSimpArgs false
set_option maxHeartbeats 8000000
set_option maxRecDepth 100000
def grain_Step.l0 : Nat → Int → Int → Int → Int → Int → List (S84) → Int → Option (Int × Int)
 | 0, _, _, _, _, _, _, _ => none
 | k + 1, x1, x2, x9, x20, x21, x161000, x161001 => if x21 < x20 then (if x21 = 0 then (grain_Step.l0 k x1 x2 x9 x20 (wrap64 (x21 + 1)) x161000 x161001) else (if 0 ≤ x21 then (if x21 < (x161000.length : Int) then ((grain_end.f x1 ((rd_T84 x161000 x21).f0)).bind fun t163 => (if t163 > (wrap64 (x2 - ((rd_T84 x161000 x21).f1))) then (some (x9, 0)) else (grain_Step.l0 k x1 x2 x21 x20 (wrap64 (x21 + 1)) x161000 x161001))) else (none)) else (none))) else (some (x9, 0))
def grain_Step.f (k : Nat) (l0_0 : List (S84)) (a0_1 : Int) (a1 : Int) (a2 : Int) : Option (Int × Int) := (grain_fits.f k l0_0 a0_1 a1 a2).bind fun t161 => (if t161 = 0 then (grain_Step.l0 k a1 a2 0 (l0_0.length : Int) 0 l0_0 a0_1) else (some (0, t161)))
theorem grain_Step.calls (k : Nat) (A0_0 : Option Addr) (c0_0 : Nat) (l0_0 : List (S84)) (a0_1 : Int) (a1 : Int) (a2 : Int) (r1 : Int) (r2 : Int) (w : World) (hr0_0 : Kd.C k84 w A0_0 l0_0.length l0_0) (hc0_0 : l0_0.length ≤ c0_0) (h : grain_Step.f k l0_0 a0_1 a1 a2 = some (r1, r2)) :
  Calls Try.prog 82 #[.agg #[.slice A0_0 l0_0.length c0_0, .int .i64 a0_1], .int .i64 a1, .int .i64 a2] w fun e w' => e = .returned (.tuple #[.int .i64 r1, .int .i64 r2]) ∧ Below w.heap.size w w' := by
 have hu24 := Try.underlying24
 have HR0_0 := Aside0.mk hr0_0
 have HC0_0 := Aside0.mk hc0_0
 clear hr0_0 hc0_0
 have HB := Aside0.mk (Below.refl w.heap.size w)
 have H : ((grain_fits.f k l0_0 a0_1 a1 a2).bind fun t161 => (if t161 = 0 then (grain_Step.l0 k a1 a2 0 (l0_0.length : Int) 0 l0_0 a0_1) else (some (0, t161)))) = some (r1, r2) := h
 clear h
 replace H := bnA H
 obtain ⟨t161, A4, H⟩ := H
 by_cases c5 : t161 = 0
 rotate_left
 ·rw [if_neg c5] at H
  have c5b0 := beq_eq_false_iff_ne.mpr c5
  have c5b1 := bne_iff_ne.mpr c5
  simp only [Option.some.injEq, Prod.mk.injEq] at H
  obtain ⟨rfl, rfl⟩ := H
  go_enter Try.func82, Try.ntmps82; try go_step3
  (go_wp2_with (first | ((with_reducible refine gate_dst (N := 3) rfl ?_); refine boxA 3 #[.slice A0_0 l0_0.length c0_0, .int .i64 a0_1] 24 ?_; intro gb160 hg w18 hbox hb; have BK160 := Aside0.mk (hbox); have GE160 := ge1 hg (belA HB.out); replace HB := bst HB hb; clear hb hbox hg; obtain ⟨hcz19_0, hcz19_1, hfz19_0, hfz19_1⟩ := blk2 BK160) | (go_at_call 33; (with_reducible refine (grain_fits.calls k _ _ l0_0 a0_1 a1 a2 t161 _ ?side1 ?side2 A4.out).mono ?_); (case side1 => exact cb1 HR0_0 HB); (case side2 => exact HC0_0.out); rintro e w20 ⟨rfl, hb⟩; replace BK160 := blkB BK160 hb; replace HB := bs2 HB GE160 hb; (try clear hb))); repeat (go_step3; try (go_wp2_with (first | ((with_reducible refine gate_dst (N := 3) rfl ?_); refine boxA 3 #[.slice A0_0 l0_0.length c0_0, .int .i64 a0_1] 24 ?_; intro gb160 hg w18 hbox hb; have BK160 := Aside0.mk (hbox); have GE160 := ge1 hg (belA HB.out); replace HB := bst HB hb; clear hb hbox hg; obtain ⟨hcz19_0, hcz19_1, hfz19_0, hfz19_1⟩ := blk2 BK160) | (go_at_call 33; (with_reducible refine (grain_fits.calls k _ _ l0_0 a0_1 a1 a2 t161 _ ?side1 ?side2 A4.out).mono ?_); (case side1 => exact cb1 HR0_0 HB); (case side2 => exact HC0_0.out); rintro e w20 ⟨rfl, hb⟩; replace BK160 := blkB BK160 hb; replace HB := bs2 HB GE160 hb; (try clear hb))))))
  repeat (go_quiet (fail); try (go_wp2_with (first | ((with_reducible refine gate_dst (N := 3) rfl ?_); refine boxA 3 #[.slice A0_0 l0_0.length c0_0, .int .i64 a0_1] 24 ?_; intro gb160 hg w18 hbox hb; have BK160 := Aside0.mk (hbox); have GE160 := ge1 hg (belA HB.out); replace HB := bst HB hb; clear hb hbox hg; obtain ⟨hcz19_0, hcz19_1, hfz19_0, hfz19_1⟩ := blk2 BK160) | (go_at_call 33; (with_reducible refine (grain_fits.calls k _ _ l0_0 a0_1 a1 a2 t161 _ ?side1 ?side2 A4.out).mono ?_); (case side1 => exact cb1 HR0_0 HB); (case side2 => exact HC0_0.out); rintro e w20 ⟨rfl, hb⟩; replace BK160 := blkB BK160 hb; replace HB := bs2 HB GE160 hb; (try clear hb))); repeat (go_step3; try (go_wp2_with (first | ((with_reducible refine gate_dst (N := 3) rfl ?_); refine boxA 3 #[.slice A0_0 l0_0.length c0_0, .int .i64 a0_1] 24 ?_; intro gb160 hg w18 hbox hb; have BK160 := Aside0.mk (hbox); have GE160 := ge1 hg (belA HB.out); replace HB := bst HB hb; clear hb hbox hg; obtain ⟨hcz19_0, hcz19_1, hfz19_0, hfz19_1⟩ := blk2 BK160) | (go_at_call 33; (with_reducible refine (grain_fits.calls k _ _ l0_0 a0_1 a1 a2 t161 _ ?side1 ?side2 A4.out).mono ?_); (case side1 => exact cb1 HR0_0 HB); (case side2 => exact HC0_0.out); rintro e w20 ⟨rfl, hb⟩; replace BK160 := blkB BK160 hb; replace HB := bs2 HB GE160 hb; (try clear hb)))))))
  (try rw [Exit.noGoto_ret]); go_ret2
  exact ⟨ret1, belB HB.out GE160.out⟩
 rw [if_pos c5] at H
 have c5b0 := beq_iff_eq.mpr c5
 have c5b1 := bne_eq_false_iff_eq.mpr c5
 clear c5
 have H' := Aside0.mk H
 clear H
 go_enter Try.func82, Try.ntmps82; try go_step3
 (go_wp2_with (first | ((with_reducible refine gate_dst (N := 3) rfl ?_); refine boxA 3 #[.slice A0_0 l0_0.length c0_0, .int .i64 a0_1] 24 ?_; intro gb160 hg w6 hbox hb; have BK160 := Aside0.mk (hbox); have GE160 := ge1 hg (belA HB.out); replace HB := bst HB hb; clear hb hbox hg; obtain ⟨hcz7_0, hcz7_1, hfz7_0, hfz7_1⟩ := blk2 BK160) | (go_at_call 33; (with_reducible refine (grain_fits.calls k _ _ l0_0 a0_1 a1 a2 t161 _ ?side1 ?side2 A4.out).mono ?_); (case side1 => exact cb1 HR0_0 HB); (case side2 => exact HC0_0.out); rintro e w8 ⟨rfl, hb⟩; replace BK160 := blkB BK160 hb; replace HB := bs2 HB GE160 hb; (try clear hb); obtain ⟨hcz9_0, hcz9_1, hfz9_0, hfz9_1⟩ := blk2 BK160)); repeat (go_step3; try (go_wp2_with (first | ((with_reducible refine gate_dst (N := 3) rfl ?_); refine boxA 3 #[.slice A0_0 l0_0.length c0_0, .int .i64 a0_1] 24 ?_; intro gb160 hg w6 hbox hb; have BK160 := Aside0.mk (hbox); have GE160 := ge1 hg (belA HB.out); replace HB := bst HB hb; clear hb hbox hg; obtain ⟨hcz7_0, hcz7_1, hfz7_0, hfz7_1⟩ := blk2 BK160) | (go_at_call 33; (with_reducible refine (grain_fits.calls k _ _ l0_0 a0_1 a1 a2 t161 _ ?side1 ?side2 A4.out).mono ?_); (case side1 => exact cb1 HR0_0 HB); (case side2 => exact HC0_0.out); rintro e w8 ⟨rfl, hb⟩; replace BK160 := blkB BK160 hb; replace HB := bs2 HB GE160 hb; (try clear hb); obtain ⟨hcz9_0, hcz9_1, hfz9_0, hfz9_1⟩ := blk2 BK160)))))
 repeat (go_quiet (fail); try (go_wp2_with (first | ((with_reducible refine gate_dst (N := 3) rfl ?_); refine boxA 3 #[.slice A0_0 l0_0.length c0_0, .int .i64 a0_1] 24 ?_; intro gb160 hg w6 hbox hb; have BK160 := Aside0.mk (hbox); have GE160 := ge1 hg (belA HB.out); replace HB := bst HB hb; clear hb hbox hg; obtain ⟨hcz7_0, hcz7_1, hfz7_0, hfz7_1⟩ := blk2 BK160) | (go_at_call 33; (with_reducible refine (grain_fits.calls k _ _ l0_0 a0_1 a1 a2 t161 _ ?side1 ?side2 A4.out).mono ?_); (case side1 => exact cb1 HR0_0 HB); (case side2 => exact HC0_0.out); rintro e w8 ⟨rfl, hb⟩; replace BK160 := blkB BK160 hb; replace HB := bs2 HB GE160 hb; (try clear hb); obtain ⟨hcz9_0, hcz9_1, hfz9_0, hfz9_1⟩ := blk2 BK160)); repeat (go_step3; try (go_wp2_with (first | ((with_reducible refine gate_dst (N := 3) rfl ?_); refine boxA 3 #[.slice A0_0 l0_0.length c0_0, .int .i64 a0_1] 24 ?_; intro gb160 hg w6 hbox hb; have BK160 := Aside0.mk (hbox); have GE160 := ge1 hg (belA HB.out); replace HB := bst HB hb; clear hb hbox hg; obtain ⟨hcz7_0, hcz7_1, hfz7_0, hfz7_1⟩ := blk2 BK160) | (go_at_call 33; (with_reducible refine (grain_fits.calls k _ _ l0_0 a0_1 a1 a2 t161 _ ?side1 ?side2 A4.out).mono ?_); (case side1 => exact cb1 HR0_0 HB); (case side2 => exact HC0_0.out); rintro e w8 ⟨rfl, hb⟩; replace BK160 := blkB BK160 hb; replace HB := bs2 HB GE160 hb; (try clear hb); obtain ⟨hcz9_0, hcz9_1, hfz9_0, hfz9_1⟩ := blk2 BK160))))))
 go_loopg [9, 21] k (fun kq v9 v21 w' => ∃ (x9_1 : Int) (x21_1 : Int), v9 = .int .i64 x9_1 ∧ v21 = .int .i64 x21_1 ∧ Aside0 (grain_Step.l0 kq a1 a2 x9_1 (l0_0.length : Int) x21_1 l0_0 a0_1 = some (r1, r2)) ∧ Aside0 (kq ≤ k) ∧ Aside0 (w'.heap[gb160]? = some (.cells #[(.slice A0_0 l0_0.length c0_0), .int .i64 a0_1] 24 (0, 0))) ∧ Aside0 (Below w.heap.size w w'))
 case atStart => exact ⟨(0), (0), relA, relA, H', ⟨Nat.le_refl _⟩, ⟨blkA BK160.out⟩, ⟨belB HB.out GE160.out⟩⟩
 case round =>
  clear H'
  try clear p2
  try clear p3
  try clear c5
  try clear c5b0
  try clear c5b1
  try clear c8
  try clear hcz7_0 hcz7_1
  try clear hcz9_0 hcz9_1
  try clear hfz7_0 hfz7_1
  try clear hfz9_0 hfz9_1
  obtain ⟨x9_1, x21_1, rfl, rfl, HA, HK1, BK160, HB⟩ := hrel
  cases gk with
  | zero => exact absurd HA.out (by simp [grain_Step.l0])
  | succ k1 =>
   have H := HA.out
   clear HA
   simp only [grain_Step.l0] at H
   by_cases c10 : x21_1 < (l0_0.length : Int)
   ·rw [if_pos c10] at H
    have c10b0 := decide_eq_true c10
    clear c10
    by_cases c11 : x21_1 = 0
    ·rw [if_pos c11] at H
     have c11b0 := beq_iff_eq.mpr c11
     have c11b1 := bne_eq_false_iff_eq.mpr c11
     clear c11
     have H' := Aside0.mk H
     clear H
     (go_wp2; repeat (go_step3; try (go_wp2)))
     repeat (go_quiet (fail); try (go_wp2; repeat (go_step3; try (go_wp2))))
     go_roundg k1
     case measure => have := HK1.out; omega
     case rel => exact ⟨(x9_1), (wrap64 (x21_1 + 1)), relA, relA, H', ⟨by have := HK1.out; omega⟩, ⟨blkA BK160.out⟩, ⟨belB HB.out GE160.out⟩⟩
    ·rw [if_neg c11] at H
     have c11b0 := beq_eq_false_iff_ne.mpr c11
     have c11b1 := bne_iff_ne.mpr c11
     by_cases c12 : 0 ≤ x21_1
     ·rw [if_pos c12] at H
      have c12b0 := decide_eq_true c12
      clear c12
      by_cases c13 : x21_1 < (l0_0.length : Int)
      ·rw [if_pos c13] at H
       have c13b0 := decide_eq_true c13
       clear c13
       replace H := bnA H
       obtain ⟨t163, A14, H⟩ := H
       by_cases c15 : t163 > (wrap64 (a2 - ((rd_T84 l0_0 x21_1).f1)))
       ·rw [if_pos c15] at H
        have c15b0 := decide_eq_true c15
        have c15b0w : decide ((IntKind.i64.wrap (a2 - ((rd_T84 l0_0 x21_1).f1))) < t163) = true := by first | exact c15b0 | simpa only [i64_w] using c15b0
        clear c15
        simp only [Option.some.injEq, Prod.mk.injEq] at H
        obtain ⟨rfl, rfl⟩ := H
        obtain ⟨hcz16_0, hcz16_1, hfz16_0, hfz16_1⟩ := blk2 BK160
        have p162 : 0 ≤ (x21_1 : Int) := of_decide_eq_true asmA
        have q162 : x21_1 < (l0_0.length : Int) := of_decide_eq_true asmA
        obtain ⟨ad162, e162, hx162_0, hx162_1⟩ := at_T84 HR0_0.out x21_1 p162 q162
        cases e162
        replace hx162_0 := cbx HB hx162_0
        replace hx162_1 := cbx HB hx162_1
        replace p162 := eq_true p162
        replace q162 := eq_true q162
        (go_wp2_with (first | (go_at_call 34; (with_reducible refine (grain_end.calls a1 ((rd_T84 l0_0 x21_1).f0) t163 _ A14.out).mono ?_); rintro e w' ⟨rfl, ⟨nd, rfl⟩⟩; (try exact drA); have p164 : 0 ≤ (x21_1 : Int) := of_decide_eq_true asmA; have q164 : x21_1 < (l0_0.length : Int) := of_decide_eq_true asmA; obtain ⟨ad164, e164, hx164_0, hx164_1⟩ := at_T84 HR0_0.out x21_1 p164 q164; obtain rfl : ad162 = ad164 := (by injection e164); replace hx164_0 := cbx HB hx164_0; replace hx164_1 := cbx HB hx164_1; replace p164 := eq_true p164; replace q164 := eq_true q164)); repeat (go_step3; try (go_wp2_with (first | (go_at_call 34; (with_reducible refine (grain_end.calls a1 ((rd_T84 l0_0 x21_1).f0) t163 _ A14.out).mono ?_); rintro e w' ⟨rfl, ⟨nd, rfl⟩⟩; (try exact drA); have p164 : 0 ≤ (x21_1 : Int) := of_decide_eq_true asmA; have q164 : x21_1 < (l0_0.length : Int) := of_decide_eq_true asmA; obtain ⟨ad164, e164, hx164_0, hx164_1⟩ := at_T84 HR0_0.out x21_1 p164 q164; obtain rfl : ad162 = ad164 := (by injection e164); replace hx164_0 := cbx HB hx164_0; replace hx164_1 := cbx HB hx164_1; replace p164 := eq_true p164; replace q164 := eq_true q164)))))
        repeat (go_quiet ((go_at_call 34; (with_reducible refine (grain_end.calls a1 ((rd_T84 l0_0 x21_1).f0) t163 _ A14.out).mono ?_); rintro e w' ⟨rfl, ⟨nd, rfl⟩⟩; (try exact drA); have p164 : 0 ≤ (x21_1 : Int) := of_decide_eq_true asmA; have q164 : x21_1 < (l0_0.length : Int) := of_decide_eq_true asmA; obtain ⟨ad164, e164, hx164_0, hx164_1⟩ := at_T84 HR0_0.out x21_1 p164 q164; obtain rfl : ad162 = ad164 := (by injection e164); replace hx164_0 := cbx HB hx164_0; replace hx164_1 := cbx HB hx164_1; replace p164 := eq_true p164; replace q164 := eq_true q164)); try (go_wp2_with (first | (go_at_call 34; (with_reducible refine (grain_end.calls a1 ((rd_T84 l0_0 x21_1).f0) t163 _ A14.out).mono ?_); rintro e w' ⟨rfl, ⟨nd, rfl⟩⟩; (try exact drA); have p164 : 0 ≤ (x21_1 : Int) := of_decide_eq_true asmA; have q164 : x21_1 < (l0_0.length : Int) := of_decide_eq_true asmA; obtain ⟨ad164, e164, hx164_0, hx164_1⟩ := at_T84 HR0_0.out x21_1 p164 q164; obtain rfl : ad162 = ad164 := (by injection e164); replace hx164_0 := cbx HB hx164_0; replace hx164_1 := cbx HB hx164_1; replace p164 := eq_true p164; replace q164 := eq_true q164)); repeat (go_step3; try (go_wp2_with (first | (go_at_call 34; (with_reducible refine (grain_end.calls a1 ((rd_T84 l0_0 x21_1).f0) t163 _ A14.out).mono ?_); rintro e w' ⟨rfl, ⟨nd, rfl⟩⟩; (try exact drA); have p164 : 0 ≤ (x21_1 : Int) := of_decide_eq_true asmA; have q164 : x21_1 < (l0_0.length : Int) := of_decide_eq_true asmA; obtain ⟨ad164, e164, hx164_0, hx164_1⟩ := at_T84 HR0_0.out x21_1 p164 q164; obtain rfl : ad162 = ad164 := (by injection e164); replace hx164_0 := cbx HB hx164_0; replace hx164_1 := cbx HB hx164_1; replace p164 := eq_true p164; replace q164 := eq_true q164))))))
        (try rw [Exit.noGoto_ret]); go_ret2
        exact ⟨ret1, belB HB.out GE160.out⟩
       ·rw [if_neg c15] at H
        have c15b0 := decide_eq_false c15
        have c15b0w : decide ((IntKind.i64.wrap (a2 - ((rd_T84 l0_0 x21_1).f1))) < t163) = false := by first | exact c15b0 | simpa only [i64_w] using c15b0
        clear c15
        have H' := Aside0.mk H
        clear H
        obtain ⟨hcz17_0, hcz17_1, hfz17_0, hfz17_1⟩ := blk2 BK160
        have p162 : 0 ≤ (x21_1 : Int) := of_decide_eq_true asmA
        have q162 : x21_1 < (l0_0.length : Int) := of_decide_eq_true asmA
        obtain ⟨ad162, e162, hx162_0, hx162_1⟩ := at_T84 HR0_0.out x21_1 p162 q162
        cases e162
        replace hx162_0 := cbx HB hx162_0
        replace hx162_1 := cbx HB hx162_1
        replace p162 := eq_true p162
        replace q162 := eq_true q162
        (go_wp2_with (first | (go_at_call 34; (with_reducible refine (grain_end.calls a1 ((rd_T84 l0_0 x21_1).f0) t163 _ A14.out).mono ?_); rintro e w' ⟨rfl, ⟨nd, rfl⟩⟩; (try exact drA); have p164 : 0 ≤ (x21_1 : Int) := of_decide_eq_true asmA; have q164 : x21_1 < (l0_0.length : Int) := of_decide_eq_true asmA; obtain ⟨ad164, e164, hx164_0, hx164_1⟩ := at_T84 HR0_0.out x21_1 p164 q164; obtain rfl : ad162 = ad164 := (by injection e164); replace hx164_0 := cbx HB hx164_0; replace hx164_1 := cbx HB hx164_1; replace p164 := eq_true p164; replace q164 := eq_true q164)); repeat (go_step3; try (go_wp2_with (first | (go_at_call 34; (with_reducible refine (grain_end.calls a1 ((rd_T84 l0_0 x21_1).f0) t163 _ A14.out).mono ?_); rintro e w' ⟨rfl, ⟨nd, rfl⟩⟩; (try exact drA); have p164 : 0 ≤ (x21_1 : Int) := of_decide_eq_true asmA; have q164 : x21_1 < (l0_0.length : Int) := of_decide_eq_true asmA; obtain ⟨ad164, e164, hx164_0, hx164_1⟩ := at_T84 HR0_0.out x21_1 p164 q164; obtain rfl : ad162 = ad164 := (by injection e164); replace hx164_0 := cbx HB hx164_0; replace hx164_1 := cbx HB hx164_1; replace p164 := eq_true p164; replace q164 := eq_true q164)))))
        repeat (go_quiet ((go_at_call 34; (with_reducible refine (grain_end.calls a1 ((rd_T84 l0_0 x21_1).f0) t163 _ A14.out).mono ?_); rintro e w' ⟨rfl, ⟨nd, rfl⟩⟩; (try exact drA); have p164 : 0 ≤ (x21_1 : Int) := of_decide_eq_true asmA; have q164 : x21_1 < (l0_0.length : Int) := of_decide_eq_true asmA; obtain ⟨ad164, e164, hx164_0, hx164_1⟩ := at_T84 HR0_0.out x21_1 p164 q164; obtain rfl : ad162 = ad164 := (by injection e164); replace hx164_0 := cbx HB hx164_0; replace hx164_1 := cbx HB hx164_1; replace p164 := eq_true p164; replace q164 := eq_true q164)); try (go_wp2_with (first | (go_at_call 34; (with_reducible refine (grain_end.calls a1 ((rd_T84 l0_0 x21_1).f0) t163 _ A14.out).mono ?_); rintro e w' ⟨rfl, ⟨nd, rfl⟩⟩; (try exact drA); have p164 : 0 ≤ (x21_1 : Int) := of_decide_eq_true asmA; have q164 : x21_1 < (l0_0.length : Int) := of_decide_eq_true asmA; obtain ⟨ad164, e164, hx164_0, hx164_1⟩ := at_T84 HR0_0.out x21_1 p164 q164; obtain rfl : ad162 = ad164 := (by injection e164); replace hx164_0 := cbx HB hx164_0; replace hx164_1 := cbx HB hx164_1; replace p164 := eq_true p164; replace q164 := eq_true q164)); repeat (go_step3; try (go_wp2_with (first | (go_at_call 34; (with_reducible refine (grain_end.calls a1 ((rd_T84 l0_0 x21_1).f0) t163 _ A14.out).mono ?_); rintro e w' ⟨rfl, ⟨nd, rfl⟩⟩; (try exact drA); have p164 : 0 ≤ (x21_1 : Int) := of_decide_eq_true asmA; have q164 : x21_1 < (l0_0.length : Int) := of_decide_eq_true asmA; obtain ⟨ad164, e164, hx164_0, hx164_1⟩ := at_T84 HR0_0.out x21_1 p164 q164; obtain rfl : ad162 = ad164 := (by injection e164); replace hx164_0 := cbx HB hx164_0; replace hx164_1 := cbx HB hx164_1; replace p164 := eq_true p164; replace q164 := eq_true q164))))))
        go_roundg k1
        case measure => have := HK1.out; omega
        case rel => exact ⟨(x21_1), (wrap64 (x21_1 + 1)), relA, relA, H', ⟨by have := HK1.out; omega⟩, ⟨blkA BK160.out⟩, ⟨belB HB.out GE160.out⟩⟩
      ·rw [if_neg c13] at H
       exact absurd H (by simp)
     ·rw [if_neg c12] at H
      exact absurd H (by simp)
   ·rw [if_neg c10] at H
    have c10b0 := decide_eq_false c10
    clear c10
    simp only [Option.some.injEq, Prod.mk.injEq] at H
    obtain ⟨rfl, rfl⟩ := H
    (go_wp2; repeat (go_step3; try (go_wp2)))
    repeat (go_quiet (fail); try (go_wp2; repeat (go_step3; try (go_wp2))))
    (try rw [Exit.noGoto_ret]); go_ret2
    exact ⟨ret1, belB HB.out GE160.out⟩
def grain_Floor.f (a0 : Int) (a1 : Int) : Option (Int × Int) := (grain_isTime.f a0).bind fun t165 => (if t165 = true then (if a1 < 1 then (some (0, 1)) else (if a1 > 1099511627776 then (some (0, 1)) else (if a1 = 0 then (none) else (some (wrap64 (a0 - (Int.tmod a0 a1)), 0))))) else (some (0, 1)))
theorem grain_Floor.calls (a0 : Int) (a1 : Int) (r1 : Int) (r2 : Int) (w : World) (h : grain_Floor.f a0 a1 = some (r1, r2)) :
  Calls Try.prog 83 #[.int .i64 a0, .int .i64 a1] w fun e w' => e = .returned (.tuple #[.int .i64 r1, .int .i64 r2]) ∧ Drawn0 w w' := by
 have H : ((grain_isTime.f a0).bind fun t165 => (if t165 = true then (if a1 < 1 then (some (0, 1)) else (if a1 > 1099511627776 then (some (0, 1)) else (if a1 = 0 then (none) else (some (wrap64 (a0 - (Int.tmod a0 a1)), 0))))) else (some (0, 1)))) = some (r1, r2) := h
 clear h
 replace H := bnA H
 obtain ⟨t165, A3, H⟩ := H
 by_cases c4 : t165 = true
 rotate_left
 ·replace c4 := Bool.eq_false_iff.mpr c4
  subst c4
  have H1 : (some (0, 1)) = some (r1, r2) := by rw [if_neg (show ¬ (false = true) by decide)] at H; exact H
  clear H
  have H := H1
  clear H1
  simp only [Option.some.injEq, Prod.mk.injEq] at H
  obtain ⟨rfl, rfl⟩ := H
  go_enter Try.func83, Try.ntmps83
  go_wp2_with (first | ((with_reducible refine gate_callee (f := 48) rfl ?_); refine goesL_ (some 7) rfl rfl Try.func48 (by kernel_rfl) rfl #[.int .i64 a0] rfl argA ?_; (with_reducible refine (grain_isTime.calls a0 false _ A3.out).mono ?_); rintro e w' ⟨rfl, ⟨nd, rfl⟩⟩; refine ⟨_, rfl, ?_⟩))
  go_ret2
  exact ⟨by first | rfl | (simp; done) | (simp [*]; done), by repeat (first | exact Drawn0.refl _ | apply Drawn0.step)⟩
 subst c4
 have H1 : (if a1 < 1 then (some (0, 1)) else (if a1 > 1099511627776 then (some (0, 1)) else (if a1 = 0 then (none) else (some (wrap64 (a0 - (Int.tmod a0 a1)), 0))))) = some (r1, r2) := by rw [if_pos rfl] at H; exact H
 clear H
 have H := H1
 clear H1
 by_cases c5 : a1 < 1
 ·rw [if_pos c5] at H
  have c5b0 := decide_eq_true c5
  clear c5
  simp only [Option.some.injEq, Prod.mk.injEq] at H
  obtain ⟨rfl, rfl⟩ := H
  go_enter Try.func83, Try.ntmps83
  go_wp2_with (first | ((with_reducible refine gate_callee (f := 48) rfl ?_); refine goesL_ (some 7) rfl rfl Try.func48 (by kernel_rfl) rfl #[.int .i64 a0] rfl argA ?_; (with_reducible refine (grain_isTime.calls a0 true _ A3.out).mono ?_); rintro e w' ⟨rfl, ⟨nd, rfl⟩⟩; refine ⟨_, rfl, ?_⟩))
  go_ret2
  exact ⟨by first | rfl | (simp; done) | (simp [*]; done), by repeat (first | exact Drawn0.refl _ | apply Drawn0.step)⟩
 rw [if_neg c5] at H
 have c5b0 := decide_eq_false c5
 clear c5
 by_cases c6 : a1 > 1099511627776
 ·rw [if_pos c6] at H
  have c6b0 := decide_eq_true c6
  clear c6
  simp only [Option.some.injEq, Prod.mk.injEq] at H
  obtain ⟨rfl, rfl⟩ := H
  go_enter Try.func83, Try.ntmps83
  go_wp2_with (first | ((with_reducible refine gate_callee (f := 48) rfl ?_); refine goesL_ (some 7) rfl rfl Try.func48 (by kernel_rfl) rfl #[.int .i64 a0] rfl argA ?_; (with_reducible refine (grain_isTime.calls a0 true _ A3.out).mono ?_); rintro e w' ⟨rfl, ⟨nd, rfl⟩⟩; refine ⟨_, rfl, ?_⟩))
  go_ret2
  exact ⟨by first | rfl | (simp; done) | (simp [*]; done), by repeat (first | exact Drawn0.refl _ | apply Drawn0.step)⟩
 rw [if_neg c6] at H
 have c6b0 := decide_eq_false c6
 clear c6
 by_cases c7 : a1 = 0
 ·rw [if_pos c7] at H
  exact absurd H (by simp)
 rw [if_neg c7] at H
 have c7b0 := beq_eq_false_iff_ne.mpr c7
 have c7b1 := bne_iff_ne.mpr c7
 simp only [Option.some.injEq, Prod.mk.injEq] at H
 obtain ⟨rfl, rfl⟩ := H
 go_enter Try.func83, Try.ntmps83
 go_wp2_with (first | ((with_reducible refine gate_callee (f := 48) rfl ?_); refine goesL_ (some 7) rfl rfl Try.func48 (by kernel_rfl) rfl #[.int .i64 a0] rfl argA ?_; (with_reducible refine (grain_isTime.calls a0 true _ A3.out).mono ?_); rintro e w' ⟨rfl, ⟨nd, rfl⟩⟩; refine ⟨_, rfl, ?_⟩))
 go_ret2
 exact ⟨by first | rfl | (simp; done) | (simp [*]; done), by repeat (first | exact Drawn0.refl _ | apply Drawn0.step)⟩
def code_Text.l0 : Nat → ByteArray → List Int → Int → Int → Option (List Int)
 | 0, _, _, _, _ => none
 | k + 1, x0, x3, x6, x7 => if x7 < x6 then (if 0 ≤ x7 then (if x7 < (x0.size : Int) then (if x3.length < 140737488355328 then ((some (x3 ++ [bt x0 x7] : List Int)).bind fun y166 => (if (bt x0 x7) = 0 then (if y166.length < 140737488355328 then (code_Text.l0 k x0 (y166 ++ [255]) x6 (wrap64 (x7 + 1))) else (none)) else (code_Text.l0 k x0 y166 x6 (wrap64 (x7 + 1))))) else (none)) else (none)) else (none)) else ((some (([0, 1] : List Int) : List Int)).bind fun y172 => (if x3.length + y172.length < 140737488355328 then (some (x3 ++ y172)) else (none)))
def code_Text.f (k : Nat) (a0 : ByteArray) : Option (List Int) := code_Text.l0 k a0 ([] : List Int) (a0.size : Int) 0
theorem code_Text.calls (k : Nat) (a0 : ByteArray) (r : List Int) (w : World) (h : code_Text.f k a0 = some r) :
  Calls Try.prog 65 #[.string a0] w fun e w' => ∃ v0_ : Value, e = .returned (v0_) ∧ Kd.R (Kd.int .u8) 5 w' w.heap.size (fun _ => True) v0_ r ∧ Below w.heap.size w w' := by
 have HB := Aside0.mk (Below.refl w.heap.size w)
 have H : (code_Text.l0 k a0 ([] : List Int) (a0.size : Int) 0) = some r := h
 clear h
 have H' := Aside0.mk H
 clear H
 go_enter Try.func65, Try.ntmps65
 go_wp2
 go_loopg [3, 7] k (fun kq v3 v7 w' => ∃ (x3_1 : List Int) (x7_1 : Int), v7 = .int .i64 x7_1 ∧ Aside0 (code_Text.l0 kq a0 x3_1 (a0.size : Int) x7_1 = some r) ∧ Aside0 (kq ≤ k) ∧ Aside0 (Kd.R (Kd.int .u8) 5 w' w.heap.size (fun _ => True) v3 x3_1) ∧ Aside0 (Below w.heap.size w w'))
 case atStart => exact ⟨(([] : List Int)), (0), relA, H', ⟨Nat.le_refl _⟩, ⟨by first | exact Kd.R_nil _ _ _ _ _ | exact Kd.N_nil _ _ _ _ _ | exact Kd.V_nil _ _ _ _ _ | exact Kd.Q_nil _ _ _ _ _ | exact Kd.S_nil _ _ _ _ _⟩, ⟨belA HB.out⟩⟩
 case round =>
  clear H'
  obtain ⟨x3_1, x7_1, rfl, HA, HK1, HO_3, HB⟩ := hrel
  cases gk with
  | zero => exact absurd HA.out (by simp [code_Text.l0])
  | succ k1 =>
   have H := HA.out
   clear HA
   simp only [code_Text.l0] at H
   by_cases c2 : x7_1 < (a0.size : Int)
   rotate_left
   ·rw [if_neg c2] at H
    have c2b0 := decide_eq_false c2
    clear c2
    obtain ⟨y172, hy172⟩ : ∃ y_ : List Int, y_ = (([0, 1] : List Int)) := ⟨_, rfl⟩
    replace H : (if x3_1.length + y172.length < 140737488355328 then (some (x3_1 ++ y172)) else (none)) = some r := nmA hy172 H
    have Ny172 := Aside0.mk hy172
    clear hy172
    replace H := ifN H
    obtain ⟨c13, H⟩ := H
    have LMc13 := Aside0.mk c13
    clear c13
    obtain ⟨y175, hy175⟩ : ∃ y_ : List Int, y_ = (x3_1 ++ y172) := ⟨_, rfl⟩
    replace H : (some y175) = some r := nmA hy175 H
    have Ny175 := Aside0.mk hy175
    clear hy175
    obtain rfl := Option.some.inj H
    go_wp2_with (first | ((with_reducible refine gate_dst (N := 25) rfl ?_); refine Kd.R_lit (Kd.int .u8) _ 5 ?hg (N := 25) ?hd (xs := ([0, 1] : List Int)) (inner := [.int .u8 0, .int .u8 1]) (ok := fun _ => True) (okp := fun _ => True) ?hr ?hp (fun _ hk => hk) trivial (Below.refl _ _) (Nat.le_refl _) (by simp) ?_; (case hd => rfl); (case hg => rfl); (case hr => first | (go_simp; done) | (go_simp; rfl)); (case hp => exact (Reps.one (show Kd.M (Kd.int .u8) _ _ _ 0 [.int .u8 0] from rfl) (Reps.one (show Kd.M (Kd.int .u8) _ _ _ 1 [.int .u8 1] from rfl) (Reps.none _ _)))); intro v173 w14 ho15 hb hg_ hnew_; clear hg_ hnew_; (first | rw [← Ny172.out] at ho15 | (simp only [Int.reduceToNat] at ho15; rw [← Ny172.out] at ho15)); have HO174 := Aside0.mk (Kd.R_lower (Kd.R_new' ho15 (Kd.R_lt (rowA HO_3.out))) (below_size (belA HB.out))); replace HO_3 := Aside0.mk (Kd.R_elder' (rowA HO_3.out) (Kd.R_base ho15) hb); replace HB := bst HB hb; clear hb ho15; obtain ⟨Ao17, co17, eo17⟩ := Kd.R_slice HO174.out; subst eo17) | ((with_reducible refine gate_builtin (b := .append) (xs := #[.tmp 24, .tmp 25]) rfl ?_); at_builtin; refine Kd.R_append_rows (Kd.int .u8) (w0 := w) w.heap.size rfl (.tmp 24) (.tmp 25) 58 5 (.int .u8 0) 1 rfl Try.underlying58 info5 rfl (by decide) (by omega) u3 x3_1 y172 _ _ _ (fun k_ => some k_ ≠ (.slice Ao17 y172.length co17 : Value).ownBlock) (fun _ => False) rfl rfl ?aO ?aR (fun _ _ h => h) (fun _ h => h.elim) ?aF ?aB ?aS ?aL ?_; (case aR => repeat (first | exact (Kd.R_reads' HO174.out).2.2 | (with_reducible refine Kd.C_alloc ?_ _) | (with_reducible refine Kd.C_drewN ?_ _) | (with_reducible refine Kd.C_drew ?_))); (case aB => exact (belA HB.out)); (case aF => exact (fun k_ hk => Kd.fresh' (Kd.R_lt (rowA HO174.out)) k_ hk)); (case aO => exact (by (with_reducible repeat (first | apply Kd.R_alloc | apply Kd.R_drewN | apply Kd.R_drew)); exact Kd.R_mono HO_3.out (fun _ hk => hk.2))); (case aS => exact (below_size (belA HB.out))); (case aL => have := LMc13.out; omega); intro v176 w16 ho hb hg hat; rw [← Ny175.out] at ho; have HO177 := Aside0.mk (ho); replace HO174 := Aside0.mk (Kd.R_after (ok := (fun _ => True)) (rowA HO174.out) hg hat); replace HB := Aside0.mk (hb); clear HO_3; clear ho hb hg hat))
    go_ret
    exact ⟨_, ret1, by (with_reducible repeat (first | apply Kd.R_alloc | apply Kd.R_drewN | apply Kd.R_drew)); exact Kd.R_mono HO177.out (fun _ hk => trivial), belA HB.out⟩
   rw [if_pos c2] at H
   have c2b0 := decide_eq_true c2
   clear c2
   replace H := ifN H
   obtain ⟨c3, H⟩ := H
   have c3b0 := decide_eq_true c3
   clear c3
   replace H := ifN H
   obtain ⟨c4, H⟩ := H
   have c4b0 := decide_eq_true c4
   clear c4
   replace H := ifN H
   obtain ⟨c6, H⟩ := H
   have LMc6 := Aside0.mk c6
   clear c6
   obtain ⟨y166, hy166⟩ : ∃ y_ : List Int, y_ = (x3_1 ++ [bt a0 x7_1]) := ⟨_, rfl⟩
   replace H : (if (bt a0 x7_1) = 0 then (if y166.length < 140737488355328 then (code_Text.l0 k1 a0 (y166 ++ [255]) (a0.size : Int) (wrap64 (x7_1 + 1))) else (none)) else (code_Text.l0 k1 a0 y166 (a0.size : Int) (wrap64 (x7_1 + 1)))) = some r := nmA hy166 H
   have Ny166 := Aside0.mk hy166
   clear hy166
   by_cases c8 : (bt a0 x7_1) = 0
   rotate_left
   ·rw [if_neg c8] at H
    have c8b0 := beq_eq_false_iff_ne.mpr c8
    have c8b1 := bne_iff_ne.mpr c8
    have H' := Aside0.mk H
    clear H
    have p5 : 0 ≤ (x7_1 : Int) := of_decide_eq_true asmA
    have q5 : x7_1 < (a0.size : Int) := of_decide_eq_true asmA
    have hx5 := bt_at a0 x7_1
    replace p5 := eq_true p5
    replace q5 := eq_true q5
    go_wp2_with (first | ((with_reducible refine gate_builtin (b := .append) (xs := #[.tmp 10, .tmp 14]) rfl ?_); at_builtin; refine Kd.R_append (Kd.int .u8) (w0 := w) w.heap.size rfl (.tmp 10) (.tmp 14) 58 5 (.int .u8 0) 1 rfl Try.underlying58 info5 rfl (by decide) (by omega) u3 x3_1 (bt a0 x7_1) [.int .u8 (bt a0 x7_1)] (fun _ => True) (fun _ => False) rfl rfl ?aP (fun _ hk => hk.elim) ?aF ?aO ?aB ?aS ?aL ?_; (case aP => exact rfl); (case aB => exact (belA HB.out)); (case aF => exact (fun _ _ => trivial)); (case aO => exact (rowA HO_3.out)); (case aS => exact (below_size (belA HB.out))); (case aL => have := LMc6.out; omega); intro v167 w12 ho hb hg hat; rw [← Ny166.out] at ho; have HO168 := Aside0.mk (ho); replace HB := Aside0.mk (hb); clear HO_3; clear ho hb hg hat; have p7 : 0 ≤ (x7_1 : Int) := of_decide_eq_true asmA; have q7 : x7_1 < (a0.size : Int) := of_decide_eq_true asmA; have hx7 := bt_at a0 x7_1; replace p7 := eq_true p7; replace q7 := eq_true q7))
    go_roundg k1
    case measure => have := HK1.out; omega
    case rel => exact ⟨(y166), (wrap64 (x7_1 + 1)), relA, H', ⟨by have := HK1.out; omega⟩, ⟨rowA HO168.out⟩, ⟨belA HB.out⟩⟩
   rw [if_pos c8] at H
   have c8b0 := beq_iff_eq.mpr c8
   have c8b1 := bne_eq_false_iff_eq.mpr c8
   clear c8
   replace H := ifN H
   obtain ⟨c9, H⟩ := H
   have LMc9 := Aside0.mk c9
   clear c9
   obtain ⟨y169, hy169⟩ : ∃ y_ : List Int, y_ = (y166 ++ [255]) := ⟨_, rfl⟩
   replace H : (code_Text.l0 k1 a0 y169 (a0.size : Int) (wrap64 (x7_1 + 1))) = some r := nmA hy169 H
   have Ny169 := Aside0.mk hy169
   clear hy169
   have H' := Aside0.mk H
   clear H
   have p5 : 0 ≤ (x7_1 : Int) := of_decide_eq_true asmA
   have q5 : x7_1 < (a0.size : Int) := of_decide_eq_true asmA
   have hx5 := bt_at a0 x7_1
   replace p5 := eq_true p5
   replace q5 := eq_true q5
   go_wp2_with (first | ((with_reducible refine gate_builtin (b := .append) (xs := #[.tmp 10, .tmp 14]) rfl ?_); at_builtin; refine Kd.R_append (Kd.int .u8) (w0 := w) w.heap.size rfl (.tmp 10) (.tmp 14) 58 5 (.int .u8 0) 1 rfl Try.underlying58 info5 rfl (by decide) (by omega) u3 x3_1 (bt a0 x7_1) [.int .u8 (bt a0 x7_1)] (fun _ => True) (fun _ => False) rfl rfl ?aP (fun _ hk => hk.elim) ?aF ?aO ?aB ?aS ?aL ?_; (case aP => exact rfl); (case aB => exact (belA HB.out)); (case aF => exact (fun _ _ => trivial)); (case aO => exact (rowA HO_3.out)); (case aS => exact (below_size (belA HB.out))); (case aL => have := LMc6.out; omega); intro v167 w10 ho hb hg hat; rw [← Ny166.out] at ho; have HO168 := Aside0.mk (ho); replace HB := Aside0.mk (hb); clear HO_3; clear ho hb hg hat; have p7 : 0 ≤ (x7_1 : Int) := of_decide_eq_true asmA; have q7 : x7_1 < (a0.size : Int) := of_decide_eq_true asmA; have hx7 := bt_at a0 x7_1; replace p7 := eq_true p7; replace q7 := eq_true q7) | ((with_reducible refine gate_builtin (b := .append) (xs := #[.tmp 20, .tmp 21]) rfl ?_); at_builtin; refine Kd.R_append (Kd.int .u8) (w0 := w) w.heap.size rfl (.tmp 20) (.tmp 21) 58 5 (.int .u8 0) 1 rfl Try.underlying58 info5 rfl (by decide) (by omega) v167 y166 255 [.int .u8 255] (fun _ => True) (fun _ => False) rfl rfl ?aP (fun _ hk => hk.elim) ?aF ?aO ?aB ?aS ?aL ?_; (case aP => exact rfl); (case aB => exact (belA HB.out)); (case aF => exact (fun _ _ => trivial)); (case aO => exact (rowA HO168.out)); (case aS => exact (below_size (belA HB.out))); (case aL => have := LMc9.out; omega); intro v170 w11 ho hb hg hat; rw [← Ny169.out] at ho; have HO171 := Aside0.mk (ho); replace HB := Aside0.mk (hb); clear HO168; clear ho hb hg hat))
   go_roundg k1
   case measure => have := HK1.out; omega
   case rel => exact ⟨(y169), (wrap64 (x7_1 + 1)), relA, H', ⟨by have := HK1.out; omega⟩, ⟨rowA HO171.out⟩, ⟨belA HB.out⟩⟩
def key_group.l0 : Nat → List Int → List ByteArray → Int → Int → Option (List Int)
 | 0, _, _, _, _ => none
 | k + 1, x3, x6, x7, x8 => if x8 < x7 then (if 0 ≤ x8 then (if x8 < (x6.length : Int) then (if x3.length < 140737488355328 then ((some (x3 ++ [1] : List Int)).bind fun y179 => ((code_Text.f k (rdOf ByteArray.empty x6 x8)).bind fun t182 => (if y179.length + t182.length < 140737488355328 then (key_group.l0 k (y179 ++ t182) x6 x7 (wrap64 (x8 + 1))) else (none)))) else (none)) else (none)) else (none)) else (if x3.length < 140737488355328 then (some (x3 ++ [0])) else (none))
def key_group.f (k : Nat) (l0 : List ByteArray) : Option (List Int) := key_group.l0 k ([] : List Int) l0 (l0.length : Int) 0
theorem key_group.calls (k : Nat) (A0 : Option Addr) (c0 : Nat) (l0 : List ByteArray) (r : List Int) (w : World) (hr0 : Kd.C Kd.string w A0 l0.length l0) (hc0 : l0.length ≤ c0) (h : key_group.f k l0 = some r) :
  Calls Try.prog 43 #[.slice A0 l0.length c0] w fun e w' => ∃ v0_ : Value, e = .returned (v0_) ∧ Kd.R (Kd.int .u8) 5 w' w.heap.size (fun _ => True) v0_ r ∧ Below w.heap.size w w' := by
 have HR0 := Aside0.mk hr0
 have HC0 := Aside0.mk hc0
 clear hr0 hc0
 have HB := Aside0.mk (Below.refl w.heap.size w)
 have H : (key_group.l0 k ([] : List Int) l0 (l0.length : Int) 0) = some r := h
 clear h
 have H' := Aside0.mk H
 clear H
 go_enter Try.func43, Try.ntmps43
 go_wp2
 go_loopg [3, 8] k (fun kq v3 v8 w' => ∃ (x3_1 : List Int) (x8_1 : Int), v8 = .int .i64 x8_1 ∧ Aside0 (key_group.l0 kq x3_1 l0 (l0.length : Int) x8_1 = some r) ∧ Aside0 (kq ≤ k) ∧ Aside0 (Kd.R (Kd.int .u8) 5 w' w.heap.size (fun _ => True) v3 x3_1) ∧ Aside0 (Below w.heap.size w w'))
 case atStart => exact ⟨(([] : List Int)), (0), relA, H', ⟨Nat.le_refl _⟩, ⟨by first | exact Kd.R_nil _ _ _ _ _ | exact Kd.N_nil _ _ _ _ _ | exact Kd.V_nil _ _ _ _ _ | exact Kd.Q_nil _ _ _ _ _ | exact Kd.S_nil _ _ _ _ _⟩, ⟨belA HB.out⟩⟩
 case round =>
  clear H'
  obtain ⟨x3_1, x8_1, rfl, HA, HK1, HO_3, HB⟩ := hrel
  cases gk with
  | zero => exact absurd HA.out (by simp [key_group.l0])
  | succ k1 =>
   have H := HA.out
   clear HA
   simp only [key_group.l0] at H
   by_cases c2 : x8_1 < (l0.length : Int)
   rotate_left
   ·rw [if_neg c2] at H
    have c2b0 := decide_eq_false c2
    clear c2
    replace H := ifN H
    obtain ⟨c12, H⟩ := H
    have LMc12 := Aside0.mk c12
    clear c12
    obtain ⟨y188, hy188⟩ : ∃ y_ : List Int, y_ = (x3_1 ++ [0]) := ⟨_, rfl⟩
    replace H : (some y188) = some r := nmA hy188 H
    have Ny188 := Aside0.mk hy188
    clear hy188
    obtain rfl := Option.some.inj H
    go_wp2_with (first | ((with_reducible refine gate_builtin (b := .append) (xs := #[.tmp 19, .tmp 20]) rfl ?_); at_builtin; refine Kd.R_append (Kd.int .u8) (w0 := w) w.heap.size rfl (.tmp 19) (.tmp 20) 58 5 (.int .u8 0) 1 rfl Try.underlying58 info5 rfl (by decide) (by omega) u3 x3_1 0 [.int .u8 0] (fun _ => True) (fun _ => False) rfl rfl ?aP (fun _ hk => hk.elim) ?aF ?aO ?aB ?aS ?aL ?_; (case aP => exact rfl); (case aB => exact (belA HB.out)); (case aF => exact (fun _ _ => trivial)); (case aO => exact (rowA HO_3.out)); (case aS => exact (below_size (belA HB.out))); (case aL => have := LMc12.out; omega); intro v189 w13 ho hb hg hat; rw [← Ny188.out] at ho; have HO190 := Aside0.mk (ho); replace HB := Aside0.mk (hb); clear HO_3; clear ho hb hg hat))
    go_ret
    exact ⟨_, ret1, rowA HO190.out, belA HB.out⟩
   rw [if_pos c2] at H
   have c2b0 := decide_eq_true c2
   clear c2
   replace H := ifN H
   obtain ⟨c3, H⟩ := H
   have c3b0 := decide_eq_true c3
   clear c3
   replace H := ifN H
   obtain ⟨c4, H⟩ := H
   have c4b0 := decide_eq_true c4
   clear c4
   replace H := ifN H
   obtain ⟨c5, H⟩ := H
   have LMc5 := Aside0.mk c5
   clear c5
   obtain ⟨y179, hy179⟩ : ∃ y_ : List Int, y_ = (x3_1 ++ [1]) := ⟨_, rfl⟩
   replace H : ((code_Text.f k1 (rdOf ByteArray.empty l0 x8_1)).bind fun t182 => (if y179.length + t182.length < 140737488355328 then (key_group.l0 k1 (y179 ++ t182) l0 (l0.length : Int) (wrap64 (x8_1 + 1))) else (none))) = some r := nmA hy179 H
   have Ny179 := Aside0.mk hy179
   clear hy179
   replace H := bnA H
   obtain ⟨t182, A6, H⟩ := H
   replace H := ifN H
   obtain ⟨c7, H⟩ := H
   have LMc7 := Aside0.mk c7
   clear c7
   obtain ⟨y185, hy185⟩ : ∃ y_ : List Int, y_ = (y179 ++ t182) := ⟨_, rfl⟩
   replace H : (key_group.l0 k1 y185 l0 (l0.length : Int) (wrap64 (x8_1 + 1))) = some r := nmA hy185 H
   have Ny185 := Aside0.mk hy185
   clear hy185
   have H' := Aside0.mk H
   clear H
   have p178 : 0 ≤ (x8_1 : Int) := of_decide_eq_true asmA
   have q178 : x8_1 < (l0.length : Int) := of_decide_eq_true asmA
   obtain ⟨ad178, e178, hx178_0⟩ := Kd.at_string HR0.out x8_1 p178 q178
   cases e178
   replace hx178_0 := cbx HB hx178_0
   replace p178 := eq_true p178
   replace q178 := eq_true q178
   go_wp2_with (first | ((with_reducible refine gate_builtin (b := .append) (xs := #[.tmp 12, .tmp 13]) rfl ?_); at_builtin; refine Kd.R_append (Kd.int .u8) (w0 := w) w.heap.size rfl (.tmp 12) (.tmp 13) 58 5 (.int .u8 0) 1 rfl Try.underlying58 info5 rfl (by decide) (by omega) u3 x3_1 1 [.int .u8 1] (fun _ => True) (fun _ => False) rfl rfl ?aP (fun _ hk => hk.elim) ?aF ?aO ?aB ?aS ?aL ?_; (case aP => exact rfl); (case aB => exact (belA HB.out)); (case aF => exact (fun _ _ => trivial)); (case aO => exact (rowA HO_3.out)); (case aS => exact (below_size (belA HB.out))); (case aL => have := LMc5.out; omega); intro v180 w8 ho hb hg hat; rw [← Ny179.out] at ho; have HO181 := Aside0.mk (ho); replace HB := Aside0.mk (hb); clear HO_3; clear ho hb hg hat) | ((with_reducible refine gate_callee (f := 65) rfl ?_); refine goesL_ (some 16) rfl rfl Try.func65 (by kernel_rfl) rfl #[.string (rdOf ByteArray.empty l0 x8_1)] rfl argA ?_; (with_reducible refine (code_Text.calls k1 (rdOf ByteArray.empty l0 x8_1) t182 _ A6.out).mono ?_); rintro e w9 ⟨v183, rfl, ho0, hb⟩; refine ⟨_, rfl, ?_⟩; have HO184 := Aside0.mk (Kd.R_lower (Kd.R_new' ho0 (Kd.R_lt (rowA HO181.out))) (below_size (belA HB.out))); replace HO181 := Aside0.mk (Kd.R_elder' (rowA HO181.out) (Kd.R_base ho0) hb); replace HB := bst HB hb; (try clear hb); (try clear ho0); obtain ⟨Ao11, co11, eo11⟩ := Kd.R_slice HO184.out; subst eo11) | ((with_reducible refine gate_builtin (b := .append) (xs := #[.tmp 14, .tmp 16]) rfl ?_); at_builtin; refine Kd.R_append_rows (Kd.int .u8) (w0 := w) w.heap.size rfl (.tmp 14) (.tmp 16) 58 5 (.int .u8 0) 1 rfl Try.underlying58 info5 rfl (by decide) (by omega) v180 y179 t182 _ _ _ (fun k_ => some k_ ≠ (.slice Ao11 t182.length co11 : Value).ownBlock) (fun _ => False) rfl rfl ?aO ?aR (fun _ _ h => h) (fun _ h => h.elim) ?aF ?aB ?aS ?aL ?_; (case aR => repeat (first | exact (Kd.R_reads' HO184.out).2.2 | (with_reducible refine Kd.C_alloc ?_ _) | (with_reducible refine Kd.C_drewN ?_ _) | (with_reducible refine Kd.C_drew ?_))); (case aB => exact (belA HB.out)); (case aF => exact (fun k_ hk => Kd.fresh' (Kd.R_lt (rowA HO184.out)) k_ hk)); (case aO => exact (by (with_reducible repeat (first | apply Kd.R_alloc | apply Kd.R_drewN | apply Kd.R_drew)); exact Kd.R_mono HO181.out (fun _ hk => hk.2))); (case aS => exact (below_size (belA HB.out))); (case aL => have := LMc7.out; omega); intro v186 w10 ho hb hg hat; rw [← Ny185.out] at ho; have HO187 := Aside0.mk (ho); replace HO184 := Aside0.mk (Kd.R_after (ok := (fun _ => True)) (rowA HO184.out) hg hat); replace HB := Aside0.mk (hb); clear HO181; clear ho hb hg hat))
   go_roundg k1
   case measure => have := HK1.out; omega
   case rel => exact ⟨(y185), (wrap64 (x8_1 + 1)), relA, H', ⟨by have := HK1.out; omega⟩, ⟨by (with_reducible repeat (first | apply Kd.R_alloc | apply Kd.R_drewN | apply Kd.R_drew)); exact Kd.R_mono HO187.out (fun _ hk => trivial)⟩, ⟨belA HB.out⟩⟩
def code_Number.l0 : Nat → Int → List Int → Int → Option (List Int)
 | 0, _, _, _ => none
 | k + 1, x3, x4, x5 => if x5 ≥ 0 then (if 0 ≤ x5 then (if x4.length < 140737488355328 then (code_Number.l0 k x3 (x4 ++ [(shr .u64 x3 x5) % 256]) (wrap64 (x5 - 8))) else (none)) else (none)) else (some x4)
def code_Number.f (k : Nat) (a0 : Int) : Option (List Int) := code_Number.l0 k (Go.bits .xor .u64 (IntKind.u64.wrap (a0)) 9223372036854775808) ([] : List Int) 56
theorem code_Number.calls (k : Nat) (a0 : Int) (r : List Int) (w : World) (h : code_Number.f k a0 = some r) :
  Calls Try.prog 100 #[.int .i64 a0] w fun e w' => ∃ v0_ : Value, e = .returned (v0_) ∧ Kd.R (Kd.int .u8) 5 w' w.heap.size (fun _ => True) v0_ r ∧ Below w.heap.size w w' := by
 have HB := Aside0.mk (Below.refl w.heap.size w)
 have H : (code_Number.l0 k (Go.bits .xor .u64 (IntKind.u64.wrap (a0)) 9223372036854775808) ([] : List Int) 56) = some r := h
 clear h
 have H' := Aside0.mk H
 clear H
 go_enter Try.func100, Try.ntmps100
 go_wp2
 go_loopg [4, 5] k (fun kq v4 v5 w' => ∃ (x4_1 : List Int) (x5_1 : Int), v5 = .int .i64 x5_1 ∧ Aside0 (code_Number.l0 kq (Go.bits .xor .u64 (IntKind.u64.wrap (a0)) 9223372036854775808) x4_1 x5_1 = some r) ∧ Aside0 (kq ≤ k) ∧ Aside0 (Kd.R (Kd.int .u8) 5 w' w.heap.size (fun _ => True) v4 x4_1) ∧ Aside0 (Below w.heap.size w w'))
 case atStart => exact ⟨(([] : List Int)), (56), relA, H', ⟨Nat.le_refl _⟩, ⟨by first | exact Kd.R_nil _ _ _ _ _ | exact Kd.N_nil _ _ _ _ _ | exact Kd.V_nil _ _ _ _ _ | exact Kd.Q_nil _ _ _ _ _ | exact Kd.S_nil _ _ _ _ _⟩, ⟨belA HB.out⟩⟩
 case round =>
  clear H'
  try clear c1
  obtain ⟨x4_1, x5_1, rfl, HA, HK1, HO_4, HB⟩ := hrel
  cases gk with
  | zero => exact absurd HA.out (by simp [code_Number.l0])
  | succ k1 =>
   have H := HA.out
   clear HA
   simp only [code_Number.l0] at H
   by_cases c2 : x5_1 ≥ 0
   rotate_left
   ·rw [if_neg c2] at H
    have c2b0 := decide_eq_false c2
    clear c2
    obtain rfl := Option.some.inj H
    go_wp2
    go_ret
    exact ⟨_, ret1, rowA HO_4.out, belA HB.out⟩
   rw [if_pos c2] at H
   have c2b0 := decide_eq_true c2
   clear c2
   replace H := ifN H
   obtain ⟨c3, H⟩ := H
   have c3b0 := eq_true c3
   have c3b1 := decide_eq_true c3
   clear c3
   obtain ⟨ji4, hji4⟩ : ∃ j_ : Int, (shr .u64 (Go.bits .xor .u64 (IntKind.u64.wrap (a0)) 9223372036854775808) x5_1) = j_ := ⟨_, rfl⟩
   replace H : (if x4_1.length < 140737488355328 then (code_Number.l0 k1 (Go.bits .xor .u64 (IntKind.u64.wrap (a0)) 9223372036854775808) (x4_1 ++ [(ji4) % 256]) (wrap64 (x5_1 - 8))) else (none)) = some r := by first | (rw [hji4] at H; exact H) | (simp only [hji4] at H ⊢; exact H)
   have hji4_ : ((Go.bits .xor .u64 (IntKind.u64.wrap (a0)) 9223372036854775808) / 2 ^ min x5_1.toNat 64) = ji4 := hji4
   have hji4z : x5_1 ≤ 64 → ((Go.bits .xor .u64 (IntKind.u64.wrap (a0)) 9223372036854775808) / 2 ^ x5_1.toNat) = ji4 := shr_small hji4
   replace H := ifN H
   obtain ⟨c5, H⟩ := H
   have LMc5 := Aside0.mk c5
   clear c5
   obtain ⟨y191, hy191⟩ : ∃ y_ : List Int, y_ = (x4_1 ++ [(ji4) % 256]) := ⟨_, rfl⟩
   replace H : (code_Number.l0 k1 (Go.bits .xor .u64 (IntKind.u64.wrap (a0)) 9223372036854775808) y191 (wrap64 (x5_1 - 8))) = some r := nmA hy191 H
   have Ny191 := Aside0.mk hy191
   clear hy191
   have H' := Aside0.mk H
   clear H
   go_wp2_with (first | ((with_reducible refine gate_builtin (b := .append) (xs := #[.tmp 13, .tmp 18]) rfl ?_); at_builtin; refine Kd.R_append (Kd.int .u8) (w0 := w) w.heap.size rfl (.tmp 13) (.tmp 18) 58 5 (.int .u8 0) 1 rfl Try.underlying58 info5 rfl (by decide) (by omega) u4 x4_1 ((ji4) % 256) [.int .u8 ((ji4) % 256)] (fun _ => True) (fun _ => False) rfl rfl ?aP (fun _ hk => hk.elim) ?aF ?aO ?aB ?aS ?aL ?_; (case aP => exact rfl); (case aB => exact (belA HB.out)); (case aF => exact (fun _ _ => trivial)); (case aO => exact (rowA HO_4.out)); (case aS => exact (below_size (belA HB.out))); (case aL => have := LMc5.out; omega); intro v192 w6 ho hb hg hat; rw [← Ny191.out] at ho; have HO193 := Aside0.mk (ho); replace HB := Aside0.mk (hb); clear HO_4; clear ho hb hg hat))
   go_roundg k1
   case measure => have := HK1.out; omega
   case rel => exact ⟨(y191), (wrap64 (x5_1 - 8)), relA, H', ⟨by have := HK1.out; omega⟩, ⟨rowA HO193.out⟩, ⟨belA HB.out⟩⟩
end Go.Proofs.Ytdopbhbbpgfliaa.PAsk
end
