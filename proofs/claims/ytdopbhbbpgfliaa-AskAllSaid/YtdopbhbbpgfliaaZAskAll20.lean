import Derived.Test.YtdopbhbbpgfliaaZAskAll19
section
namespace Go.Proofs.Ytdopbhbbpgfliaa.PAsk
open Go.RowKit Go.Proofs.YtdopbhbbpgfliaaW.PrintWords Go.Proofs.YtdopbhbbpgfliaaW.PrintLast Go.Proofs.YtdopbhbbpgfliaaW.PrintMore
attribute [local go_sem] max2_int min2_int max_two min_two max_three min_three max_four min_four   -- for this text's walks alone
set_option linter.unusedVariables false
set_option linter.unusedSimpArgs false
set_option maxHeartbeats 8000000
set_option maxRecDepth 100000
def rickyardref02_Merge.j0 : Nat → Int → Bool → Int → Int → Int → Int → Int → Bool → Int → Int → Int → Int → Int → Bool → Int → Int → Int → Int → Option (Int × Bool × Int × Int × Int × Int)
 | 0, _, _, _, _, _, _, _, _, _, _, _, _, _, _, _, _, _, _ => none
 | k + 1, x439000, x439001, x439002, x439003, x439004, x439005, x440000, x440001, x440002, x440003, x440004, x440005, x444000, x444001, x444002, x444003, x444004, x444005 => if x440005 > x439005 then (if x439001 = true then (some (18446744073709551615, true, x444002, x444003, x444004, x440005)) else (if x440001 = true then (some (18446744073709551615, true, x444002, x444003, x444004, x440005)) else (if x439000 > (IntKind.u64.wrap (18446744073709551615 - x440000)) then (some (18446744073709551615, true, x444002, x444003, x444004, x440005)) else (some (IntKind.u64.wrap (x439000 + x440000), x444001, x444002, x444003, x444004, x440005))))) else (if x439001 = true then (some (18446744073709551615, true, x444002, x444003, x444004, x444005)) else (if x440001 = true then (some (18446744073709551615, true, x444002, x444003, x444004, x444005)) else (if x439000 > (IntKind.u64.wrap (18446744073709551615 - x440000)) then (some (18446744073709551615, true, x444002, x444003, x444004, x444005)) else (some (IntKind.u64.wrap (x439000 + x440000), x444001, x444002, x444003, x444004, x444005)))))
def rickyardref02_Merge.f (k : Nat) (a0_0 : Int) (a0_1 : Bool) (a0_2 : Int) (a0_3 : Int) (a0_4 : Int) (a0_5 : Int) (a1_0 : Int) (a1_1 : Bool) (a1_2 : Int) (a1_3 : Int) (a1_4 : Int) (a1_5 : Int) : Option (Int × Bool × Int × Int × Int × Int) := if a0_0 = 0 then (some (a1_0, a1_1, a1_2, a1_3, a1_4, a1_5)) else (if a1_0 = 0 then (some (a0_0, a0_1, a0_2, a0_3, a0_4, a0_5)) else ((rickyardref01_Add.f a0_2 a0_3 a1_2 a1_3).bind fun bt441 => (if a1_4 < a0_4 then (rickyardref02_Merge.j0 k a0_0 a0_1 a0_2 a0_3 a0_4 a0_5 a1_0 a1_1 a1_2 a1_3 a1_4 a1_5 0 false bt441.1 bt441.2 a1_4 a0_5) else (rickyardref02_Merge.j0 k a0_0 a0_1 a0_2 a0_3 a0_4 a0_5 a1_0 a1_1 a1_2 a1_3 a1_4 a1_5 0 false bt441.1 bt441.2 a0_4 a0_5))))
def rickyardref02_Merge.T5 : Bool × List (List Nat × List Nat) := (true, [([], []), ([0], [0]), ([], []), ([2], [2]), ([1, 3], [1, 3]), ([], []), ([5], [5]), ([], []), ([7], [7]), ([4, 6, 8], [4, 6, 8]), ([], []), ([10, 9, 4, 0, 1, 2, 3, 4, 5, 6, 7, 8, 9, 10], [9, 10])])
def rickyardref02_Merge.B5 : List Nat := [0, 1, 0, 4, 15, 0, 32, 0, 128, 511, 0, 2047]
theorem rickyardref02_Merge.tab5 : rtab .any (opsOf Try.f53 5) = rickyardref02_Merge.T5 := by kernel_rfl
theorem rickyardref02_Merge.bits5 : waitsOk rickyardref02_Merge.T5.2 rickyardref02_Merge.B5 = true := by kernel_rfl
theorem rickyardref02_Merge.calls (k : Nat) (a0_0 : Int) (a0_1 : Bool) (a0_2 : Int) (a0_3 : Int) (a0_4 : Int) (a0_5 : Int) (a1_0 : Int) (a1_1 : Bool) (a1_2 : Int) (a1_3 : Int) (a1_4 : Int) (a1_5 : Int) (r1 : Int) (r2 : Bool) (r3 : Int) (r4 : Int) (r5 : Int) (r6 : Int) (w : World) (h : rickyardref02_Merge.f k a0_0 a0_1 a0_2 a0_3 a0_4 a0_5 a1_0 a1_1 a1_2 a1_3 a1_4 a1_5 = some (r1, r2, r3, r4, r5, r6)) :
  Calls Try.prog 53 #[.agg #[.int .u64 a0_0, .bool a0_1, .int .i64 a0_2, .int .u64 a0_3, .int .i64 a0_4, .int .i64 a0_5], .agg #[.int .u64 a1_0, .bool a1_1, .int .i64 a1_2, .int .u64 a1_3, .int .i64 a1_4, .int .i64 a1_5]] w fun e w' => e = .returned (.agg #[.int .u64 r1, .bool r2, .int .i64 r3, .int .u64 r4, .int .i64 r5, .int .i64 r6]) ∧ Below w.heap.size w w' := by
 have hu42 := Try.underlying42
 have hu40 := Try.underlying40
 have HB := Aside0.mk (Below.refl w.heap.size w)
 have H : (if a0_0 = 0 then (some (a1_0, a1_1, a1_2, a1_3, a1_4, a1_5)) else (if a1_0 = 0 then (some (a0_0, a0_1, a0_2, a0_3, a0_4, a0_5)) else ((rickyardref01_Add.f a0_2 a0_3 a1_2 a1_3).bind fun bt441 => (if a1_4 < a0_4 then (rickyardref02_Merge.j0 k a0_0 a0_1 a0_2 a0_3 a0_4 a0_5 a1_0 a1_1 a1_2 a1_3 a1_4 a1_5 0 false bt441.1 bt441.2 a1_4 a0_5) else (rickyardref02_Merge.j0 k a0_0 a0_1 a0_2 a0_3 a0_4 a0_5 a1_0 a1_1 a1_2 a1_3 a1_4 a1_5 0 false bt441.1 bt441.2 a0_4 a0_5))))) = some (r1, r2, r3, r4, r5, r6) := h
 clear h
 by_cases c3 : a0_0 = 0
 ·rw [if_pos c3] at H
  have c3b0 := beq_iff_eq.mpr c3
  have c3b1 := bne_eq_false_iff_eq.mpr c3
  clear c3
  simp only [Option.some.injEq, Prod.mk.injEq] at H
  obtain ⟨rfl, rfl, rfl, rfl, rfl, rfl⟩ := H
  go_enter Try.func53, Try.ntmps53
  go_wp2_with (first | ((with_reducible refine gate_dst (N := 2) rfl ?_); refine boxA 2 #[.int .u64 a0_0, .bool a0_1, .int .i64 a0_2, .int .u64 a0_3, .int .i64 a0_4, .int .i64 a0_5] 42 ?_; intro gb438 hg w4 hbox hb; have BK438 := Aside0.mk (hbox); have GE438 := ge1 hg (belA HB.out); replace HB := bst HB hb; clear hb hbox hg) | ((with_reducible refine gate_dst (N := 3) rfl ?_); refine boxA 3 #[.int .u64 a1_0, .bool a1_1, .int .i64 a1_2, .int .u64 a1_3, .int .i64 a1_4, .int .i64 a1_5] 42 ?_; intro gb439 hg w5 hbox hb; have BK439 := Aside0.mk (hbox); have GW439 := ge1 hg (belB HB.out GE438.out); have GE439 := GW439; have NB438_439 := neL hg BK438; have NB439_438 := neR hg BK438; replace BK438 := blkB BK438 hb; replace HB := bs2 HB GE438 hb; clear hb hbox hg) | ((with_reducible refine gate_dst (N := 4) rfl ?_); refine boxA 4 #[.int .u64 0, .bool false, .int .i64 0, .int .u64 0, .int .i64 0, .int .i64 0] 42 ?_; intro gb440 hg w6 hbox hb; have BK440 := Aside0.mk (hbox); have GW440 := ge1 hg (belC HB.out GE438.out GE439.out); have GE440 := GW440; have NB438_440 := neL hg BK438; have NB440_438 := neR hg BK438; have NB439_440 := neL hg BK439; have NB440_439 := neR hg BK439; replace BK438 := blkB BK438 hb; replace BK439 := blkB BK439 hb; replace HB := bs3 HB GE438 GE439 hb; clear hb hbox hg; have hnb7 := NB438_439.out; have hnc7 := NB439_438.out; have hnb8 := NB438_440.out; have hnc8 := NB440_438.out; obtain ⟨hcz9_0, hcz9_1, hcz9_2, hcz9_3, hcz9_4, hcz9_5, hfz9_0, hfz9_1, hfz9_2, hfz9_3, hfz9_4, hfz9_5⟩ := blk6 BK438; have hnb10 := NB439_440.out; have hnc10 := NB440_439.out; obtain ⟨hcz11_0, hcz11_1, hcz11_2, hcz11_3, hcz11_4, hcz11_5, hfz11_0, hfz11_1, hfz11_2, hfz11_3, hfz11_4, hfz11_5⟩ := blk6 BK439; obtain ⟨hcz12_0, hcz12_1, hcz12_2, hcz12_3, hcz12_4, hcz12_5, hfz12_0, hfz12_1, hfz12_2, hfz12_3, hfz12_4, hfz12_5⟩ := blk6 BK440))
  refine bodyPost_ret (results_cell_row rfl _ _ gb440 42 #[.int .u64 a1_0, .bool a1_1, .int .i64 a1_2, .int .u64 a1_3, .int .i64 a1_4, .int .i64 a1_5] (0, 0) _ rfl (putA BK440.out) Try.underlying42 rfl (by kernel_rfl)) rfl ?_
  exact ⟨ret1, belD HB.out GE438.out GE439.out GE440.out⟩
 rw [if_neg c3] at H
 have c3b0 := beq_eq_false_iff_ne.mpr c3
 have c3b1 := bne_iff_ne.mpr c3
 by_cases c13 : a1_0 = 0
 ·rw [if_pos c13] at H
  have c13b0 := beq_iff_eq.mpr c13
  have c13b1 := bne_eq_false_iff_eq.mpr c13
  clear c13
  simp only [Option.some.injEq, Prod.mk.injEq] at H
  obtain ⟨rfl, rfl, rfl, rfl, rfl, rfl⟩ := H
  go_enter Try.func53, Try.ntmps53
  go_wp2_with (first | ((with_reducible refine gate_dst (N := 2) rfl ?_); refine boxA 2 #[.int .u64 a0_0, .bool a0_1, .int .i64 a0_2, .int .u64 a0_3, .int .i64 a0_4, .int .i64 a0_5] 42 ?_; intro gb438 hg w14 hbox hb; have BK438 := Aside0.mk (hbox); have GE438 := ge1 hg (belA HB.out); replace HB := bst HB hb; clear hb hbox hg) | ((with_reducible refine gate_dst (N := 3) rfl ?_); refine boxA 3 #[.int .u64 a1_0, .bool a1_1, .int .i64 a1_2, .int .u64 a1_3, .int .i64 a1_4, .int .i64 a1_5] 42 ?_; intro gb439 hg w15 hbox hb; have BK439 := Aside0.mk (hbox); have GW439 := ge1 hg (belB HB.out GE438.out); have GE439 := GW439; have NB438_439 := neL hg BK438; have NB439_438 := neR hg BK438; replace BK438 := blkB BK438 hb; replace HB := bs2 HB GE438 hb; clear hb hbox hg) | ((with_reducible refine gate_dst (N := 4) rfl ?_); refine boxA 4 #[.int .u64 0, .bool false, .int .i64 0, .int .u64 0, .int .i64 0, .int .i64 0] 42 ?_; intro gb440 hg w16 hbox hb; have BK440 := Aside0.mk (hbox); have GW440 := ge1 hg (belC HB.out GE438.out GE439.out); have GE440 := GW440; have NB438_440 := neL hg BK438; have NB440_438 := neR hg BK438; have NB439_440 := neL hg BK439; have NB440_439 := neR hg BK439; replace BK438 := blkB BK438 hb; replace BK439 := blkB BK439 hb; replace HB := bs3 HB GE438 GE439 hb; clear hb hbox hg; have hnb17 := NB438_439.out; have hnc17 := NB439_438.out; have hnb18 := NB438_440.out; have hnc18 := NB440_438.out; obtain ⟨hcz19_0, hcz19_1, hcz19_2, hcz19_3, hcz19_4, hcz19_5, hfz19_0, hfz19_1, hfz19_2, hfz19_3, hfz19_4, hfz19_5⟩ := blk6 BK438; have hnb20 := NB439_440.out; have hnc20 := NB440_439.out; obtain ⟨hcz21_0, hcz21_1, hcz21_2, hcz21_3, hcz21_4, hcz21_5, hfz21_0, hfz21_1, hfz21_2, hfz21_3, hfz21_4, hfz21_5⟩ := blk6 BK439; obtain ⟨hcz22_0, hcz22_1, hcz22_2, hcz22_3, hcz22_4, hcz22_5, hfz22_0, hfz22_1, hfz22_2, hfz22_3, hfz22_4, hfz22_5⟩ := blk6 BK440))
  refine bodyPost_ret (results_cell_row rfl _ _ gb440 42 #[.int .u64 a0_0, .bool a0_1, .int .i64 a0_2, .int .u64 a0_3, .int .i64 a0_4, .int .i64 a0_5] (0, 0) _ rfl (putA BK440.out) Try.underlying42 rfl (by kernel_rfl)) rfl ?_
  exact ⟨ret1, belD HB.out GE438.out GE439.out GE440.out⟩
 rw [if_neg c13] at H
 have c13b0 := beq_eq_false_iff_ne.mpr c13
 have c13b1 := bne_iff_ne.mpr c13
 replace H := bnA H
 obtain ⟨⟨t441, t442⟩, A23, H⟩ := H
 replace H : (if a1_4 < a0_4 then (rickyardref02_Merge.j0 k a0_0 a0_1 a0_2 a0_3 a0_4 a0_5 a1_0 a1_1 a1_2 a1_3 a1_4 a1_5 0 false t441 t442 a1_4 a0_5) else (rickyardref02_Merge.j0 k a0_0 a0_1 a0_2 a0_3 a0_4 a0_5 a1_0 a1_1 a1_2 a1_3 a1_4 a1_5 0 false t441 t442 a0_4 a0_5)) = some (r1, r2, r3, r4, r5, r6) := H
 have HC24 := Aside0.mk H
 clear H
 go_enter Try.func53, Try.ntmps53
 try go_wp2_with (first | ((with_reducible refine gate_dst (N := 2) rfl ?_); refine boxA 2 #[.int .u64 a0_0, .bool a0_1, .int .i64 a0_2, .int .u64 a0_3, .int .i64 a0_4, .int .i64 a0_5] 42 ?_; intro gb438 hg w25 hbox hb; have BK438 := Aside0.mk (hbox); have GE438 := ge1 hg (belA HB.out); replace HB := bst HB hb; clear hb hbox hg) | ((with_reducible refine gate_dst (N := 3) rfl ?_); refine boxA 3 #[.int .u64 a1_0, .bool a1_1, .int .i64 a1_2, .int .u64 a1_3, .int .i64 a1_4, .int .i64 a1_5] 42 ?_; intro gb439 hg w26 hbox hb; have BK439 := Aside0.mk (hbox); have GW439 := ge1 hg (belB HB.out GE438.out); have GE439 := GW439; have NB438_439 := neL hg BK438; have NB439_438 := neR hg BK438; replace BK438 := blkB BK438 hb; replace HB := bs2 HB GE438 hb; clear hb hbox hg) | ((with_reducible refine gate_dst (N := 4) rfl ?_); refine boxA 4 #[.int .u64 0, .bool false, .int .i64 0, .int .u64 0, .int .i64 0, .int .i64 0] 42 ?_; intro gb440 hg w27 hbox hb; have BK440 := Aside0.mk (hbox); have GW440 := ge1 hg (belC HB.out GE438.out GE439.out); have GE440 := GW440; have NB438_440 := neL hg BK438; have NB440_438 := neR hg BK438; have NB439_440 := neL hg BK439; have NB440_439 := neR hg BK439; replace BK438 := blkB BK438 hb; replace BK439 := blkB BK439 hb; replace HB := bs3 HB GE438 GE439 hb; clear hb hbox hg; have hnb28 := NB438_439.out; have hnc28 := NB439_438.out; have hnb29 := NB438_440.out; have hnc29 := NB440_438.out; obtain ⟨hcz30_0, hcz30_1, hcz30_2, hcz30_3, hcz30_4, hcz30_5, hfz30_0, hfz30_1, hfz30_2, hfz30_3, hfz30_4, hfz30_5⟩ := blk6 BK438; have hnb31 := NB439_440.out; have hnc31 := NB440_439.out; obtain ⟨hcz32_0, hcz32_1, hcz32_2, hcz32_3, hcz32_4, hcz32_5, hfz32_0, hfz32_1, hfz32_2, hfz32_3, hfz32_4, hfz32_5⟩ := blk6 BK439))
 replace BK438 := Aside0.mk (blk_drew BK438.out)
 replace BK439 := Aside0.mk (blk_drew BK439.out)
 replace BK440 := Aside0.mk (blk_drew BK440.out)
 replace HB := Aside0.mk (below_drew1 HB.out)
 refine start_ (n := 12) (S := fun w' => w'.cell? ⟨gb438, 0, none⟩ = some (.int .u64 a0_0) ∧ w'.cell? ⟨gb438, 1, none⟩ = some (.bool a0_1) ∧ w'.cell? ⟨gb438, 2, none⟩ = some (.int .i64 a0_2) ∧ w'.cell? ⟨gb438, 3, none⟩ = some (.int .u64 a0_3) ∧ w'.cell? ⟨gb438, 4, none⟩ = some (.int .i64 a0_4) ∧ w'.cell? ⟨gb438, 5, none⟩ = some (.int .i64 a0_5) ∧ w'.cell? ⟨gb439, 0, none⟩ = some (.int .u64 a1_0) ∧ w'.cell? ⟨gb439, 1, none⟩ = some (.bool a1_1) ∧ w'.cell? ⟨gb439, 2, none⟩ = some (.int .i64 a1_2) ∧ w'.cell? ⟨gb439, 3, none⟩ = some (.int .u64 a1_3) ∧ w'.cell? ⟨gb439, 4, none⟩ = some (.int .i64 a1_4) ∧ w'.cell? ⟨gb439, 5, none⟩ = some (.int .i64 a1_5)) (ds := []) #[false, false, false, false, false, false, false, false, false, false, false, false] (by kernel_rfl) rfl rfl ⟨(blk_cell BK438.out 0).trans rfl, (blk_cell BK438.out 1).trans rfl, (blk_cell BK438.out 2).trans rfl, (blk_cell BK438.out 3).trans rfl, (blk_cell BK438.out 4).trans rfl, (blk_cell BK438.out 5).trans rfl, (blk_cell BK439.out 0).trans rfl, (blk_cell BK439.out 1).trans rfl, (blk_cell BK439.out 2).trans rfl, (blk_cell BK439.out 3).trans rfl, (blk_cell BK439.out 4).trans rfl, (blk_cell BK439.out 5).trans rfl⟩ (fun hHeld => ?_); refine with_tabW rickyardref02_Merge.tab5 rickyardref02_Merge.bits5 (fun HT_ HW_ => ?_)
 generalize w27.drew = w33 at BK438 BK439 BK440 HB hHeld ⊢
 refine pureD 0 14 HT_ ?_
 refine pureD 2 16 HT_ ?_
 refine pureD 5 19 HT_ ?_
 refine pureD 7 21 HT_ ?_
 refine takeD 1 15 HT_ HW_ hHeld ?_
 refine takeD 3 17 HT_ HW_ hHeld ?_
 refine takeD 6 20 HT_ HW_ hHeld ?_
 refine takeD 8 22 HT_ HW_ hHeld ?_
 refine join_ (σ := Nat) 1 #[true, true, true, true, true, true, true, true, true, true, true, false] (fun s_ => [(18, .agg #[.int .i64 t441, .int .u64 t442]), (5, .pointer (some ⟨s_, 0, none⟩)), (23, .agg #[.int .u64 0, .bool false, .int .i64 t441, .int .u64 t442, .int .i64 a0_4, .int .i64 a0_5])]) (fun s_ w' => (w'.cell? ⟨gb438, 0, none⟩ = some (.int .u64 a0_0) ∧ w'.cell? ⟨gb438, 1, none⟩ = some (.bool a0_1) ∧ w'.cell? ⟨gb438, 2, none⟩ = some (.int .i64 a0_2) ∧ w'.cell? ⟨gb438, 3, none⟩ = some (.int .u64 a0_3) ∧ w'.cell? ⟨gb438, 4, none⟩ = some (.int .i64 a0_4) ∧ w'.cell? ⟨gb438, 5, none⟩ = some (.int .i64 a0_5) ∧ w'.cell? ⟨gb439, 0, none⟩ = some (.int .u64 a1_0) ∧ w'.cell? ⟨gb439, 1, none⟩ = some (.bool a1_1) ∧ w'.cell? ⟨gb439, 2, none⟩ = some (.int .i64 a1_2) ∧ w'.cell? ⟨gb439, 3, none⟩ = some (.int .u64 a1_3) ∧ w'.cell? ⟨gb439, 4, none⟩ = some (.int .i64 a1_4) ∧ w'.cell? ⟨gb439, 5, none⟩ = some (.int .i64 a1_5)) ∧ (w'.heap[gb438]? = some (.cells #[.int .u64 a0_0, .bool a0_1, .int .i64 a0_2, .int .u64 a0_3, .int .i64 a0_4, .int .i64 a0_5] 42 (0, 0))) ∧ (w'.heap[gb439]? = some (.cells #[.int .u64 a1_0, .bool a1_1, .int .i64 a1_2, .int .u64 a1_3, .int .i64 a1_4, .int .i64 a1_5] 42 (0, 0))) ∧ (w'.heap[gb440]? = some (.cells #[.int .u64 0, .bool false, .int .i64 0, .int .u64 0, .int .i64 0, .int .i64 0] 42 (0, 0))) ∧ (w'.heap[s_]? = some (.cells #[.int .u64 0, .bool false, .int .i64 0, .int .u64 0, .int .i64 0, .int .i64 0] 42 (0, 0))) ∧ (w.heap.size ≤ s_) ∧ (w.heap.size ≤ s_) ∧ (gb438 ≠ s_) ∧ (s_ ≠ gb438) ∧ (gb439 ≠ s_) ∧ (s_ ≠ gb439) ∧ (gb440 ≠ s_) ∧ (s_ ≠ gb440) ∧ (Below w.heap.size w w')) ?_ ?_
 rotate_left
 ·intro hCont
  refine two_ (i := 4) (j := 10) (Ni := some 18) (Nj := some 5) #[true, true, true, true, true, true, true, true, true, false, false, false] #[true, true, true, true, false, true, true, true, true, false, true, false] rfl rfl rfl rfl (two_of HT_.out (by kernel_rfl)) (by decide) (by decide) (fun K hK => ?_) (fun K hK => ?_)
  ·skip
   refine goes_ Try.func80 (by kernel_rfl) rfl #[.agg #[.int .i64 a0_2, .int .u64 a0_3], .agg #[.int .i64 a1_2, .int .u64 a1_3]] (by rfl) rfl rfl argA ?_
   with_reducible refine (rickyardref01_Add.calls a0_2 a0_3 a1_2 a1_3 t441 t442 _ A23.out).mono ?_
   rintro e w34 ⟨rfl, hb⟩
   refine ⟨_, rfl, ?_⟩
   replace BK438 := blkB BK438 hb
   replace BK439 := blkB BK439 hb
   replace BK440 := blkB BK440 hb
   replace HB := Aside0.mk (below_step (belD HB.out GE438.out GE439.out GE440.out) hb)
   (try clear hb)
   refine hK.out _ _ ⟨(blk_cell BK438.out 0).trans rfl, (blk_cell BK438.out 1).trans rfl, (blk_cell BK438.out 2).trans rfl, (blk_cell BK438.out 3).trans rfl, (blk_cell BK438.out 4).trans rfl, (blk_cell BK438.out 5).trans rfl, (blk_cell BK439.out 0).trans rfl, (blk_cell BK439.out 1).trans rfl, (blk_cell BK439.out 2).trans rfl, (blk_cell BK439.out 3).trans rfl, (blk_cell BK439.out 4).trans rfl, (blk_cell BK439.out 5).trans rfl⟩ (fun hHeld => ?_)
   clear hK K
   refine norm_ (a' := ?_) ?_ ?_
   rotate_left
   ·show Act.put _ (some 18) _ = _
    simp only [Act.put, List.setIfInBounds_toArray, List.set_cons_zero, List.set_cons_succ, i64_w, i32_w]
    rfl
   refine pureD 9 23 HT_ ?_
   refine one_ (i := 10) (N := some 5) #[true, true, true, true, true, true, true, true, true, true, true, false] rfl rfl (one_of HT_.out (by kernel_rfl)) (by decide) (fun K hK => ?_)
   refine box_step ?hg (N := 5) ?hd (cs := #[.int .u64 0, .bool false, .int .i64 0, .int .u64 0, .int .i64 0, .int .i64 0]) (t := 42) ?hr ?_; (case hd => rfl); (case hg => rfl); (case hr => first | (go_simp; done) | (go_simp; rfl))
   intro gb443 hg w35 hbox hb
   have BK443 := Aside0.mk (hbox)
   have GW443 := ge1 hg (belD HB.out GE438.out GE439.out GE440.out)
   have GE443 := GW443
   have NB438_443 := neL hg BK438
   have NB443_438 := neR hg BK438
   have NB439_443 := neL hg BK439
   have NB443_439 := neR hg BK439
   have NB440_443 := neL hg BK440
   have NB443_440 := neR hg BK440
   replace BK438 := blkB BK438 hb
   replace BK439 := blkB BK439 hb
   replace BK440 := blkB BK440 hb
   replace HB := Aside0.mk (below_step (belD HB.out GE438.out GE439.out GE440.out) hb)
   clear hb hbox hg
   refine hK.out _ _ ⟨(blk_cell BK438.out 0).trans rfl, (blk_cell BK438.out 1).trans rfl, (blk_cell BK438.out 2).trans rfl, (blk_cell BK438.out 3).trans rfl, (blk_cell BK438.out 4).trans rfl, (blk_cell BK438.out 5).trans rfl, (blk_cell BK439.out 0).trans rfl, (blk_cell BK439.out 1).trans rfl, (blk_cell BK439.out 2).trans rfl, (blk_cell BK439.out 3).trans rfl, (blk_cell BK439.out 4).trans rfl, (blk_cell BK439.out 5).trans rfl⟩ (fun hHeld => ?_)
   clear hK K
   refine norm_ (a' := ?_) ?_ ?_
   rotate_left
   ·show Act.put _ (some 5) _ = _
    simp only [Act.put, List.setIfInBounds_toArray, List.set_cons_zero, List.set_cons_succ, i64_w, i32_w]
    rfl
   exact norm_ (by simp only [putAll, Act.put, List.setIfInBounds_toArray, List.set_cons_zero, List.set_cons_succ]) (hCont (gb443) _ ⟨hHeld, (blkA BK438.out), (blkA BK439.out), (blkA BK440.out), (blkA BK443.out), GW443.out, GE443.out, NB438_443.out, NB443_438.out, NB439_443.out, NB443_439.out, NB440_443.out, NB443_440.out, (by repeat (first | (with_reducible first | exact HB.out | apply below_alloc | apply pw_below_drewN | apply below_drew1 | refine below_set ?_ GE438.out | refine below_set ?_ GE439.out | refine below_set ?_ GE440.out | refine below_set ?_ GE443.out) | exact HB.out))⟩)
  ·skip
   refine box_step ?hg (N := 5) ?hd (cs := #[.int .u64 0, .bool false, .int .i64 0, .int .u64 0, .int .i64 0, .int .i64 0]) (t := 42) ?hr ?_; (case hd => rfl); (case hg => rfl); (case hr => first | (go_simp; done) | (go_simp; rfl))
   intro gb443 hg w34 hbox hb
   have BK443 := Aside0.mk (hbox)
   have GW443 := ge1 hg (belD HB.out GE438.out GE439.out GE440.out)
   have GE443 := GW443
   have NB438_443 := neL hg BK438
   have NB443_438 := neR hg BK438
   have NB439_443 := neL hg BK439
   have NB443_439 := neR hg BK439
   have NB440_443 := neL hg BK440
   have NB443_440 := neR hg BK440
   replace BK438 := blkB BK438 hb
   replace BK439 := blkB BK439 hb
   replace BK440 := blkB BK440 hb
   replace HB := Aside0.mk (below_step (belD HB.out GE438.out GE439.out GE440.out) hb)
   clear hb hbox hg
   refine hK.out _ _ ⟨(blk_cell BK438.out 0).trans rfl, (blk_cell BK438.out 1).trans rfl, (blk_cell BK438.out 2).trans rfl, (blk_cell BK438.out 3).trans rfl, (blk_cell BK438.out 4).trans rfl, (blk_cell BK438.out 5).trans rfl, (blk_cell BK439.out 0).trans rfl, (blk_cell BK439.out 1).trans rfl, (blk_cell BK439.out 2).trans rfl, (blk_cell BK439.out 3).trans rfl, (blk_cell BK439.out 4).trans rfl, (blk_cell BK439.out 5).trans rfl⟩ (fun hHeld => ?_)
   clear hK K
   refine norm_ (a' := ?_) ?_ ?_
   rotate_left
   ·show Act.put _ (some 5) _ = _
    simp only [Act.put, List.setIfInBounds_toArray, List.set_cons_zero, List.set_cons_succ, i64_w, i32_w]
    rfl
   refine one_ (i := 4) (N := some 18) #[true, true, true, true, true, true, true, true, true, false, true, false] rfl rfl (one_of HT_.out (by kernel_rfl)) (by decide) (fun K hK => ?_)
   refine goes_ Try.func80 (by kernel_rfl) rfl #[.agg #[.int .i64 a0_2, .int .u64 a0_3], .agg #[.int .i64 a1_2, .int .u64 a1_3]] (by rfl) rfl rfl argA ?_
   with_reducible refine (rickyardref01_Add.calls a0_2 a0_3 a1_2 a1_3 t441 t442 _ A23.out).mono ?_
   rintro e w35 ⟨rfl, hb⟩
   refine ⟨_, rfl, ?_⟩
   replace BK438 := blkB BK438 hb
   replace BK439 := blkB BK439 hb
   replace BK440 := blkB BK440 hb
   replace BK443 := blkB BK443 hb
   replace HB := Aside0.mk (below_step (by repeat (first | (with_reducible first | exact HB.out | apply below_alloc | apply pw_below_drewN | apply below_drew1 | refine below_set ?_ GE438.out | refine below_set ?_ GE439.out | refine below_set ?_ GE440.out | refine below_set ?_ GE443.out) | exact HB.out)) hb)
   (try clear hb)
   refine hK.out _ _ ⟨(blk_cell BK438.out 0).trans rfl, (blk_cell BK438.out 1).trans rfl, (blk_cell BK438.out 2).trans rfl, (blk_cell BK438.out 3).trans rfl, (blk_cell BK438.out 4).trans rfl, (blk_cell BK438.out 5).trans rfl, (blk_cell BK439.out 0).trans rfl, (blk_cell BK439.out 1).trans rfl, (blk_cell BK439.out 2).trans rfl, (blk_cell BK439.out 3).trans rfl, (blk_cell BK439.out 4).trans rfl, (blk_cell BK439.out 5).trans rfl⟩ (fun hHeld => ?_)
   clear hK K
   refine norm_ (a' := ?_) ?_ ?_
   rotate_left
   ·show Act.put _ (some 18) _ = _
    simp only [Act.put, List.setIfInBounds_toArray, List.set_cons_zero, List.set_cons_succ, i64_w, i32_w]
    rfl
   refine pureD 9 23 HT_ ?_
   exact norm_ (by simp only [putAll, Act.put, List.setIfInBounds_toArray, List.set_cons_zero, List.set_cons_succ]) (hCont (gb443) _ ⟨hHeld, (blkA BK438.out), (blkA BK439.out), (blkA BK440.out), (blkA BK443.out), GW443.out, GE443.out, NB438_443.out, NB443_438.out, NB439_443.out, NB443_439.out, NB440_443.out, NB443_440.out, (by repeat (first | (with_reducible first | exact HB.out | apply below_alloc | apply pw_below_drewN | apply below_drew1 | refine below_set ?_ GE438.out | refine below_set ?_ GE439.out | refine below_set ?_ GE440.out | refine below_set ?_ GE443.out) | exact HB.out))⟩)
 rintro gb443 w36 ⟨hS_, h0_, h1_, h2_, h3_, h4_, h5_, h6_, h7_, h8_, h9_, h10_, h11_, h12_⟩
 have n0_ : Aside0 (w36.heap[gb438]? = some (.cells #[.int .u64 a0_0, .bool a0_1, .int .i64 a0_2, .int .u64 a0_3, .int .i64 a0_4, .int .i64 a0_5] 42 (0, 0))) := ⟨h0_⟩
 have n1_ : Aside0 (w36.heap[gb439]? = some (.cells #[.int .u64 a1_0, .bool a1_1, .int .i64 a1_2, .int .u64 a1_3, .int .i64 a1_4, .int .i64 a1_5] 42 (0, 0))) := ⟨h1_⟩
 have n2_ : Aside0 (w36.heap[gb440]? = some (.cells #[.int .u64 0, .bool false, .int .i64 0, .int .u64 0, .int .i64 0, .int .i64 0] 42 (0, 0))) := ⟨h2_⟩
 have n3_ : Aside0 (w36.heap[gb443]? = some (.cells #[.int .u64 0, .bool false, .int .i64 0, .int .u64 0, .int .i64 0, .int .i64 0] 42 (0, 0))) := ⟨h3_⟩
 have n4_ : Aside0 (w.heap.size ≤ gb443) := ⟨h4_⟩
 have n5_ : Aside0 (w.heap.size ≤ gb443) := ⟨h5_⟩
 have n6_ : Aside0 (gb438 ≠ gb443) := ⟨h6_⟩
 have n7_ : Aside0 (gb443 ≠ gb438) := ⟨h7_⟩
 have n8_ : Aside0 (gb439 ≠ gb443) := ⟨h8_⟩
 have n9_ : Aside0 (gb443 ≠ gb439) := ⟨h9_⟩
 have n10_ : Aside0 (gb440 ≠ gb443) := ⟨h10_⟩
 have n11_ : Aside0 (gb443 ≠ gb440) := ⟨h11_⟩
 have n12_ : Aside0 (Below w.heap.size w w36) := ⟨h12_⟩
 clear BK438
 clear BK439
 clear BK440
 clear HB
 clear h0_ h1_ h2_ h3_ h4_ h5_ h6_ h7_ h8_ h9_ h10_ h11_ h12_
 have BK438 := n0_
 have BK439 := n1_
 have BK440 := n2_
 have BK443 := n3_
 have GW443 := n4_
 have GE443 := n5_
 have NB438_443 := n6_
 have NB443_438 := n7_
 have NB439_443 := n8_
 have NB443_439 := n9_
 have NB440_443 := n10_
 have NB443_440 := n11_
 have HB := n12_
 clear n0_ n1_ n2_ n3_ n4_ n5_ n6_ n7_ n8_ n9_ n10_ n11_ n12_
 have hHeld : w36.cell? ⟨gb438, 0, none⟩ = some (.int .u64 a0_0) ∧ w36.cell? ⟨gb438, 1, none⟩ = some (.bool a0_1) ∧ w36.cell? ⟨gb438, 2, none⟩ = some (.int .i64 a0_2) ∧ w36.cell? ⟨gb438, 3, none⟩ = some (.int .u64 a0_3) ∧ w36.cell? ⟨gb438, 4, none⟩ = some (.int .i64 a0_4) ∧ w36.cell? ⟨gb438, 5, none⟩ = some (.int .i64 a0_5) ∧ w36.cell? ⟨gb439, 0, none⟩ = some (.int .u64 a1_0) ∧ w36.cell? ⟨gb439, 1, none⟩ = some (.bool a1_1) ∧ w36.cell? ⟨gb439, 2, none⟩ = some (.int .i64 a1_2) ∧ w36.cell? ⟨gb439, 3, none⟩ = some (.int .u64 a1_3) ∧ w36.cell? ⟨gb439, 4, none⟩ = some (.int .i64 a1_4) ∧ w36.cell? ⟨gb439, 5, none⟩ = some (.int .i64 a1_5) := hS_
 refine norm_ (a' := ?_) ?_ ?_
 rotate_left
 ·simp only [putAll, Act.put, List.setIfInBounds_toArray, List.set_cons_zero, List.set_cons_succ]
  rfl
 refine one_ (i := 11) (N := none) #[true, true, true, true, true, true, true, true, true, true, true, true] rfl rfl (one_of HT_.out (by kernel_rfl)) (by decide) (fun K hK => ?_)
 have hs37 : w36.cell? ⟨gb443, 0, none⟩ = some (.int .u64 0) := (blk_cell BK443.out 0).trans rfl
 have hfs37 := blk_frozen BK443.out 0
 have hns37_0 := NB438_443.out
 have hns37_1 := NB439_443.out
 have hns37_2 := NB440_443.out
 have hms37_0 := NB443_438.out
 have hms37_1 := NB443_439.out
 have hms37_2 := NB443_440.out
 have hs38 : w36.cell? ⟨gb443, 1, none⟩ = some (.bool false) := (blk_cell BK443.out 1).trans rfl
 have hfs38 := blk_frozen BK443.out 1
 have hns38_0 := NB438_443.out
 have hns38_1 := NB439_443.out
 have hns38_2 := NB440_443.out
 have hms38_0 := NB443_438.out
 have hms38_1 := NB443_439.out
 have hms38_2 := NB443_440.out
 have hs39 : w36.cell? ⟨gb443, 2, none⟩ = some (.int .i64 0) := (blk_cell BK443.out 2).trans rfl
 have hfs39 := blk_frozen BK443.out 2
 have hns39_0 := NB438_443.out
 have hns39_1 := NB439_443.out
 have hns39_2 := NB440_443.out
 have hms39_0 := NB443_438.out
 have hms39_1 := NB443_439.out
 have hms39_2 := NB443_440.out
 have hs40 : w36.cell? ⟨gb443, 3, none⟩ = some (.int .u64 0) := (blk_cell BK443.out 3).trans rfl
 have hfs40 := blk_frozen BK443.out 3
 have hns40_0 := NB438_443.out
 have hns40_1 := NB439_443.out
 have hns40_2 := NB440_443.out
 have hms40_0 := NB443_438.out
 have hms40_1 := NB443_439.out
 have hms40_2 := NB443_440.out
 have hs41 : w36.cell? ⟨gb443, 4, none⟩ = some (.int .i64 0) := (blk_cell BK443.out 4).trans rfl
 have hfs41 := blk_frozen BK443.out 4
 have hns41_0 := NB438_443.out
 have hns41_1 := NB439_443.out
 have hns41_2 := NB440_443.out
 have hms41_0 := NB443_438.out
 have hms41_1 := NB443_439.out
 have hms41_2 := NB443_440.out
 have hs42 : w36.cell? ⟨gb443, 5, none⟩ = some (.int .i64 0) := (blk_cell BK443.out 5).trans rfl
 have hfs42 := blk_frozen BK443.out 5
 have hns42_0 := NB438_443.out
 have hns42_1 := NB439_443.out
 have hns42_2 := NB440_443.out
 have hms42_0 := NB443_438.out
 have hms42_1 := NB443_439.out
 have hms42_2 := NB443_440.out
 refine skip_ (w1 := ?_) (by rfl) rfl ?_ ?_
 rotate_left
 ·go_simp
  rfl
 refine hK.out _ _ ⟨((cell_far (p := ⟨gb443, _, none⟩) NB438_443.out _).trans (((cell_far (p := ⟨gb443, _, none⟩) NB438_443.out _).trans (((cell_far (p := ⟨gb443, _, none⟩) NB438_443.out _).trans (((cell_far (p := ⟨gb443, _, none⟩) NB438_443.out _).trans (((cell_far (p := ⟨gb443, _, none⟩) NB438_443.out _).trans (((cell_far (p := ⟨gb443, _, none⟩) NB438_443.out _).trans (hHeld.1)))))))))))), ((cell_far (p := ⟨gb443, _, none⟩) NB438_443.out _).trans (((cell_far (p := ⟨gb443, _, none⟩) NB438_443.out _).trans (((cell_far (p := ⟨gb443, _, none⟩) NB438_443.out _).trans (((cell_far (p := ⟨gb443, _, none⟩) NB438_443.out _).trans (((cell_far (p := ⟨gb443, _, none⟩) NB438_443.out _).trans (((cell_far (p := ⟨gb443, _, none⟩) NB438_443.out _).trans (hHeld.2.1)))))))))))), ((cell_far (p := ⟨gb443, _, none⟩) NB438_443.out _).trans (((cell_far (p := ⟨gb443, _, none⟩) NB438_443.out _).trans (((cell_far (p := ⟨gb443, _, none⟩) NB438_443.out _).trans (((cell_far (p := ⟨gb443, _, none⟩) NB438_443.out _).trans (((cell_far (p := ⟨gb443, _, none⟩) NB438_443.out _).trans (((cell_far (p := ⟨gb443, _, none⟩) NB438_443.out _).trans (hHeld.2.2.1)))))))))))), ((cell_far (p := ⟨gb443, _, none⟩) NB438_443.out _).trans (((cell_far (p := ⟨gb443, _, none⟩) NB438_443.out _).trans (((cell_far (p := ⟨gb443, _, none⟩) NB438_443.out _).trans (((cell_far (p := ⟨gb443, _, none⟩) NB438_443.out _).trans (((cell_far (p := ⟨gb443, _, none⟩) NB438_443.out _).trans (((cell_far (p := ⟨gb443, _, none⟩) NB438_443.out _).trans (hHeld.2.2.2.1)))))))))))), ((cell_far (p := ⟨gb443, _, none⟩) NB438_443.out _).trans (((cell_far (p := ⟨gb443, _, none⟩) NB438_443.out _).trans (((cell_far (p := ⟨gb443, _, none⟩) NB438_443.out _).trans (((cell_far (p := ⟨gb443, _, none⟩) NB438_443.out _).trans (((cell_far (p := ⟨gb443, _, none⟩) NB438_443.out _).trans (((cell_far (p := ⟨gb443, _, none⟩) NB438_443.out _).trans (hHeld.2.2.2.2.1)))))))))))), ((cell_far (p := ⟨gb443, _, none⟩) NB438_443.out _).trans (((cell_far (p := ⟨gb443, _, none⟩) NB438_443.out _).trans (((cell_far (p := ⟨gb443, _, none⟩) NB438_443.out _).trans (((cell_far (p := ⟨gb443, _, none⟩) NB438_443.out _).trans (((cell_far (p := ⟨gb443, _, none⟩) NB438_443.out _).trans (((cell_far (p := ⟨gb443, _, none⟩) NB438_443.out _).trans (hHeld.2.2.2.2.2.1)))))))))))), ((cell_far (p := ⟨gb443, _, none⟩) NB439_443.out _).trans (((cell_far (p := ⟨gb443, _, none⟩) NB439_443.out _).trans (((cell_far (p := ⟨gb443, _, none⟩) NB439_443.out _).trans (((cell_far (p := ⟨gb443, _, none⟩) NB439_443.out _).trans (((cell_far (p := ⟨gb443, _, none⟩) NB439_443.out _).trans (((cell_far (p := ⟨gb443, _, none⟩) NB439_443.out _).trans (hHeld.2.2.2.2.2.2.1)))))))))))), ((cell_far (p := ⟨gb443, _, none⟩) NB439_443.out _).trans (((cell_far (p := ⟨gb443, _, none⟩) NB439_443.out _).trans (((cell_far (p := ⟨gb443, _, none⟩) NB439_443.out _).trans (((cell_far (p := ⟨gb443, _, none⟩) NB439_443.out _).trans (((cell_far (p := ⟨gb443, _, none⟩) NB439_443.out _).trans (((cell_far (p := ⟨gb443, _, none⟩) NB439_443.out _).trans (hHeld.2.2.2.2.2.2.2.1)))))))))))), ((cell_far (p := ⟨gb443, _, none⟩) NB439_443.out _).trans (((cell_far (p := ⟨gb443, _, none⟩) NB439_443.out _).trans (((cell_far (p := ⟨gb443, _, none⟩) NB439_443.out _).trans (((cell_far (p := ⟨gb443, _, none⟩) NB439_443.out _).trans (((cell_far (p := ⟨gb443, _, none⟩) NB439_443.out _).trans (((cell_far (p := ⟨gb443, _, none⟩) NB439_443.out _).trans (hHeld.2.2.2.2.2.2.2.2.1)))))))))))), ((cell_far (p := ⟨gb443, _, none⟩) NB439_443.out _).trans (((cell_far (p := ⟨gb443, _, none⟩) NB439_443.out _).trans (((cell_far (p := ⟨gb443, _, none⟩) NB439_443.out _).trans (((cell_far (p := ⟨gb443, _, none⟩) NB439_443.out _).trans (((cell_far (p := ⟨gb443, _, none⟩) NB439_443.out _).trans (((cell_far (p := ⟨gb443, _, none⟩) NB439_443.out _).trans (hHeld.2.2.2.2.2.2.2.2.2.1)))))))))))), ((cell_far (p := ⟨gb443, _, none⟩) NB439_443.out _).trans (((cell_far (p := ⟨gb443, _, none⟩) NB439_443.out _).trans (((cell_far (p := ⟨gb443, _, none⟩) NB439_443.out _).trans (((cell_far (p := ⟨gb443, _, none⟩) NB439_443.out _).trans (((cell_far (p := ⟨gb443, _, none⟩) NB439_443.out _).trans (((cell_far (p := ⟨gb443, _, none⟩) NB439_443.out _).trans (hHeld.2.2.2.2.2.2.2.2.2.2.1)))))))))))), ((cell_far (p := ⟨gb443, _, none⟩) NB439_443.out _).trans (((cell_far (p := ⟨gb443, _, none⟩) NB439_443.out _).trans (((cell_far (p := ⟨gb443, _, none⟩) NB439_443.out _).trans (((cell_far (p := ⟨gb443, _, none⟩) NB439_443.out _).trans (((cell_far (p := ⟨gb443, _, none⟩) NB439_443.out _).trans (((cell_far (p := ⟨gb443, _, none⟩) NB439_443.out _).trans (hHeld.2.2.2.2.2.2.2.2.2.2.2))))))))))))⟩ (fun hHeld => ?_)
 clear hK K
 refine done_ (done_of HT_.out (by kernel_rfl)) ?_
 have hnb43 := NB439_443.out
 have hnc43 := NB443_439.out
 obtain ⟨hcz44_0, hcz44_1, hcz44_2, hcz44_3, hcz44_4, hcz44_5, hfz44_0, hfz44_1, hfz44_2, hfz44_3, hfz44_4, hfz44_5⟩ := blk6 BK439
 have hnb45 := NB438_443.out
 have hnc45 := NB443_438.out
 obtain ⟨hcz46_0, hcz46_1, hcz46_2, hcz46_3, hcz46_4, hcz46_5, hfz46_0, hfz46_1, hfz46_2, hfz46_3, hfz46_4, hfz46_5⟩ := blk6 BK438
 go_upto_if 28 with (fail)
 go_cut [] (fun wc => ∃ (kq : Nat) (x444004_23 : Int), Aside0 (rickyardref02_Merge.j0 kq a0_0 a0_1 a0_2 a0_3 a0_4 a0_5 a1_0 a1_1 a1_2 a1_3 a1_4 a1_5 0 false t441 t442 x444004_23 a0_5 = some (r1, r2, r3, r4, r5, r6)) ∧ Aside0 (kq ≤ k) ∧ Aside0 (wc.heap[gb438]? = some (.cells #[.int .u64 a0_0, .bool a0_1, .int .i64 a0_2, .int .u64 a0_3, .int .i64 a0_4, .int .i64 a0_5] 42 (0, 0))) ∧ Aside0 (wc.heap[gb439]? = some (.cells #[.int .u64 a1_0, .bool a1_1, .int .i64 a1_2, .int .u64 a1_3, .int .i64 a1_4, .int .i64 a1_5] 42 (0, 0))) ∧ Aside0 (wc.heap[gb440]? = some (.cells #[.int .u64 0, .bool false, .int .i64 0, .int .u64 0, .int .i64 0, .int .i64 0] 42 (0, 0))) ∧ Aside0 (wc.heap[gb443]? = some (.cells #[.int .u64 0, .bool false, .int .i64 t441, .int .u64 t442, .int .i64 x444004_23, .int .i64 a0_5] 42 (0, 0))) ∧ Aside0 (Below w.heap.size w wc))
 case first =>
  have H := HC24.out
  clear HC24
  by_cases c47 : a1_4 < a0_4
  ·rw [if_pos c47] at H
   have c47b0 := decide_eq_true c47
   clear c47
   (first | rw [c47b0] | (simp only [i64_w, i32_w]; rw [c47b0]) | skip)
   have H' := Aside0.mk H
   clear H
   have hnb48 := NB439_438.out
   have hnc48 := NB438_439.out
   have hnb49 := NB439_440.out
   have hnc49 := NB440_439.out
   have hnb50 := NB439_443.out
   have hnc50 := NB443_439.out
   obtain ⟨hcz51_0, hcz51_1, hcz51_2, hcz51_3, hcz51_4, hcz51_5, hfz51_0, hfz51_1, hfz51_2, hfz51_3, hfz51_4, hfz51_5⟩ := blk6 BK439
   have hnb52 := NB443_438.out
   have hnc52 := NB438_443.out
   have hnb53 := NB443_440.out
   have hnc53 := NB440_443.out
   obtain ⟨hcz54_0, hcz54_1, hcz54_2, hcz54_3, hcz54_4, hcz54_5, hfz54_0, hfz54_1, hfz54_2, hfz54_3, hfz54_4, hfz54_5⟩ := blk6 BK443
   go_wp2
   go_meet
   case rel => exact ⟨_, (a1_4), H', ⟨by first | omega | exact Nat.le_refl _⟩, ⟨putB BK438.out NB438_443.out⟩, ⟨putB BK439.out NB439_443.out⟩, ⟨putB BK440.out NB440_443.out⟩, ⟨putA BK443.out⟩, ⟨by repeat (first | (with_reducible first | exact HB.out | apply below_alloc | apply pw_below_drewN | apply below_drew1 | refine below_set ?_ GE438.out | refine below_set ?_ GE439.out | refine below_set ?_ GE440.out | refine below_set ?_ GE443.out) | exact HB.out)⟩⟩
  ·rw [if_neg c47] at H
   have c47b0 := decide_eq_false c47
   clear c47
   (first | rw [c47b0] | (simp only [i64_w, i32_w]; rw [c47b0]) | skip)
   have H' := Aside0.mk H
   clear H
   go_wp2
   go_meet
   case rel => exact ⟨_, (a0_4), H', ⟨by first | omega | exact Nat.le_refl _⟩, ⟨putB BK438.out NB438_443.out⟩, ⟨putB BK439.out NB439_443.out⟩, ⟨putB BK440.out NB440_443.out⟩, ⟨putA BK443.out⟩, ⟨by repeat (first | (with_reducible first | exact HB.out | apply below_alloc | apply pw_below_drewN | apply below_drew1 | refine below_set ?_ GE438.out | refine below_set ?_ GE439.out | refine below_set ?_ GE440.out | refine below_set ?_ GE443.out) | exact HB.out)⟩⟩
 case rest =>
  clear HC24
  try clear c1
  try clear c2
  try clear p2
  try clear c3
  try clear c3b0
  try clear c3b1
  try clear c4
  try clear c5
  try clear c7
  try clear c8
  try clear c10
  try clear c13
  try clear c13b0
  try clear c13b1
  try clear c17
  try clear c18
  try clear c20
  try clear c28
  try clear c29
  try clear c31
  try clear c43
  try clear c45
  try clear c47
  try clear c47b0
  try clear c48
  try clear c49
  try clear c50
  try clear c52
  try clear c53
  try clear hcz11_0 hcz11_1 hcz11_2 hcz11_3 hcz11_4 hcz11_5
  try clear hcz12_0 hcz12_1 hcz12_2 hcz12_3 hcz12_4 hcz12_5
  try clear hcz19_0 hcz19_1 hcz19_2 hcz19_3 hcz19_4 hcz19_5
  try clear hcz21_0 hcz21_1 hcz21_2 hcz21_3 hcz21_4 hcz21_5
  try clear hcz22_0 hcz22_1 hcz22_2 hcz22_3 hcz22_4 hcz22_5
  try clear hcz30_0 hcz30_1 hcz30_2 hcz30_3 hcz30_4 hcz30_5
  try clear hcz32_0 hcz32_1 hcz32_2 hcz32_3 hcz32_4 hcz32_5
  try clear hcz44_0 hcz44_1 hcz44_2 hcz44_3 hcz44_4 hcz44_5
  try clear hcz46_0 hcz46_1 hcz46_2 hcz46_3 hcz46_4 hcz46_5
  try clear hcz51_0 hcz51_1 hcz51_2 hcz51_3 hcz51_4 hcz51_5
  try clear hcz54_0 hcz54_1 hcz54_2 hcz54_3 hcz54_4 hcz54_5
  try clear hcz9_0 hcz9_1 hcz9_2 hcz9_3 hcz9_4 hcz9_5
  try clear hfz11_0 hfz11_1 hfz11_2 hfz11_3 hfz11_4 hfz11_5
  try clear hfz12_0 hfz12_1 hfz12_2 hfz12_3 hfz12_4 hfz12_5
  try clear hfz19_0 hfz19_1 hfz19_2 hfz19_3 hfz19_4 hfz19_5
  try clear hfz21_0 hfz21_1 hfz21_2 hfz21_3 hfz21_4 hfz21_5
  try clear hfz22_0 hfz22_1 hfz22_2 hfz22_3 hfz22_4 hfz22_5
  try clear hfz30_0 hfz30_1 hfz30_2 hfz30_3 hfz30_4 hfz30_5
  try clear hfz32_0 hfz32_1 hfz32_2 hfz32_3 hfz32_4 hfz32_5
  try clear hfz44_0 hfz44_1 hfz44_2 hfz44_3 hfz44_4 hfz44_5
  try clear hfz46_0 hfz46_1 hfz46_2 hfz46_3 hfz46_4 hfz46_5
  try clear hfz51_0 hfz51_1 hfz51_2 hfz51_3 hfz51_4 hfz51_5
  try clear hfz54_0 hfz54_1 hfz54_2 hfz54_3 hfz54_4 hfz54_5
  try clear hfz9_0 hfz9_1 hfz9_2 hfz9_3 hfz9_4 hfz9_5
  obtain ⟨kq, x444004_23, HA, HJ23, BK438, BK439, BK440, BK443, HB⟩ := hcut
  cases kq with
  | zero => exact absurd HA.out (by simp [rickyardref02_Merge.j0])
  | succ kj23 =>
   have H := HA.out
   clear HA
   simp only [rickyardref02_Merge.j0] at H
   by_cases c55 : a1_5 > a0_5
   ·rw [if_pos c55] at H
    have c55b0 := decide_eq_true c55
    clear c55
    by_cases c56 : a0_1 = true
    ·subst c56
     have H1 : (some (18446744073709551615, true, t441, t442, x444004_23, a1_5)) = some (r1, r2, r3, r4, r5, r6) := by rw [if_pos rfl] at H; exact H
     clear H
     have H := H1
     clear H1
     simp only [Option.some.injEq, Prod.mk.injEq] at H
     obtain ⟨rfl, rfl, rfl, rfl, rfl, rfl⟩ := H
     have hnb57 := NB439_438.out
     have hnc57 := NB438_439.out
     have hnb58 := NB439_440.out
     have hnc58 := NB440_439.out
     have hnb59 := NB439_443.out
     have hnc59 := NB443_439.out
     obtain ⟨hcz60_0, hcz60_1, hcz60_2, hcz60_3, hcz60_4, hcz60_5, hfz60_0, hfz60_1, hfz60_2, hfz60_3, hfz60_4, hfz60_5⟩ := blk6 BK439
     have hnb61 := NB438_440.out
     have hnc61 := NB440_438.out
     have hnb62 := NB438_443.out
     have hnc62 := NB443_438.out
     obtain ⟨hcz63_0, hcz63_1, hcz63_2, hcz63_3, hcz63_4, hcz63_5, hfz63_0, hfz63_1, hfz63_2, hfz63_3, hfz63_4, hfz63_5⟩ := blk6 BK438
     have hnb64 := NB443_440.out
     have hnc64 := NB440_443.out
     obtain ⟨hcz65_0, hcz65_1, hcz65_2, hcz65_3, hcz65_4, hcz65_5, hfz65_0, hfz65_1, hfz65_2, hfz65_3, hfz65_4, hfz65_5⟩ := blk6 BK443
     obtain ⟨hcz66_0, hcz66_1, hcz66_2, hcz66_3, hcz66_4, hcz66_5, hfz66_0, hfz66_1, hfz66_2, hfz66_3, hfz66_4, hfz66_5⟩ := blk6 BK440
     go_wp2
     refine bodyPost_ret (results_cell_row rfl _ _ gb440 42 #[.int .u64 18446744073709551615, .bool true, .int .i64 t441, .int .u64 t442, .int .i64 x444004_23, .int .i64 a1_5] (0, 0) _ rfl (putB BK440.out NB440_443.out) Try.underlying42 rfl (by kernel_rfl)) rfl ?_
     exact ⟨ret1, by repeat (first | (with_reducible first | exact HB.out | apply below_alloc | apply pw_below_drewN | apply below_drew1 | refine below_set ?_ GE438.out | refine below_set ?_ GE439.out | refine below_set ?_ GE440.out | refine below_set ?_ GE443.out) | exact HB.out)⟩
    ·replace c56 := Bool.eq_false_iff.mpr c56
     subst c56
     have H1 : (if a1_1 = true then (some (18446744073709551615, true, t441, t442, x444004_23, a1_5)) else (if a0_0 > (IntKind.u64.wrap (18446744073709551615 - a1_0)) then (some (18446744073709551615, true, t441, t442, x444004_23, a1_5)) else (some (IntKind.u64.wrap (a0_0 + a1_0), false, t441, t442, x444004_23, a1_5)))) = some (r1, r2, r3, r4, r5, r6) := by rw [if_neg (show ¬ (false = true) by decide)] at H; exact H
     clear H
     have H := H1
     clear H1
     by_cases c67 : a1_1 = true
     ·subst c67
      have H1 : (some (18446744073709551615, true, t441, t442, x444004_23, a1_5)) = some (r1, r2, r3, r4, r5, r6) := by rw [if_pos rfl] at H; exact H
      clear H
      have H := H1
      clear H1
      simp only [Option.some.injEq, Prod.mk.injEq] at H
      obtain ⟨rfl, rfl, rfl, rfl, rfl, rfl⟩ := H
      have hnb68 := NB439_438.out
      have hnc68 := NB438_439.out
      have hnb69 := NB439_440.out
      have hnc69 := NB440_439.out
      have hnb70 := NB439_443.out
      have hnc70 := NB443_439.out
      obtain ⟨hcz71_0, hcz71_1, hcz71_2, hcz71_3, hcz71_4, hcz71_5, hfz71_0, hfz71_1, hfz71_2, hfz71_3, hfz71_4, hfz71_5⟩ := blk6 BK439
      have hnb72 := NB438_440.out
      have hnc72 := NB440_438.out
      have hnb73 := NB438_443.out
      have hnc73 := NB443_438.out
      obtain ⟨hcz74_0, hcz74_1, hcz74_2, hcz74_3, hcz74_4, hcz74_5, hfz74_0, hfz74_1, hfz74_2, hfz74_3, hfz74_4, hfz74_5⟩ := blk6 BK438
      have hnb75 := NB443_440.out
      have hnc75 := NB440_443.out
      obtain ⟨hcz76_0, hcz76_1, hcz76_2, hcz76_3, hcz76_4, hcz76_5, hfz76_0, hfz76_1, hfz76_2, hfz76_3, hfz76_4, hfz76_5⟩ := blk6 BK443
      obtain ⟨hcz77_0, hcz77_1, hcz77_2, hcz77_3, hcz77_4, hcz77_5, hfz77_0, hfz77_1, hfz77_2, hfz77_3, hfz77_4, hfz77_5⟩ := blk6 BK440
      go_wp2
      refine bodyPost_ret (results_cell_row rfl _ _ gb440 42 #[.int .u64 18446744073709551615, .bool true, .int .i64 t441, .int .u64 t442, .int .i64 x444004_23, .int .i64 a1_5] (0, 0) _ rfl (putB BK440.out NB440_443.out) Try.underlying42 rfl (by kernel_rfl)) rfl ?_
      exact ⟨ret1, by repeat (first | (with_reducible first | exact HB.out | apply below_alloc | apply pw_below_drewN | apply below_drew1 | refine below_set ?_ GE438.out | refine below_set ?_ GE439.out | refine below_set ?_ GE440.out | refine below_set ?_ GE443.out) | exact HB.out)⟩
     ·replace c67 := Bool.eq_false_iff.mpr c67
      subst c67
      have H1 : (if a0_0 > (IntKind.u64.wrap (18446744073709551615 - a1_0)) then (some (18446744073709551615, true, t441, t442, x444004_23, a1_5)) else (some (IntKind.u64.wrap (a0_0 + a1_0), false, t441, t442, x444004_23, a1_5))) = some (r1, r2, r3, r4, r5, r6) := by rw [if_neg (show ¬ (false = true) by decide)] at H; exact H
      clear H
      have H := H1
      clear H1
      by_cases c78 : a0_0 > (IntKind.u64.wrap (18446744073709551615 - a1_0))
      ·rw [if_pos c78] at H
       have c78b0 := decide_eq_true c78
       clear c78
       simp only [Option.some.injEq, Prod.mk.injEq] at H
       obtain ⟨rfl, rfl, rfl, rfl, rfl, rfl⟩ := H
       have hnb79 := NB439_438.out
       have hnc79 := NB438_439.out
       have hnb80 := NB439_440.out
       have hnc80 := NB440_439.out
       have hnb81 := NB439_443.out
       have hnc81 := NB443_439.out
       obtain ⟨hcz82_0, hcz82_1, hcz82_2, hcz82_3, hcz82_4, hcz82_5, hfz82_0, hfz82_1, hfz82_2, hfz82_3, hfz82_4, hfz82_5⟩ := blk6 BK439
       have hnb83 := NB438_440.out
       have hnc83 := NB440_438.out
       have hnb84 := NB438_443.out
       have hnc84 := NB443_438.out
       obtain ⟨hcz85_0, hcz85_1, hcz85_2, hcz85_3, hcz85_4, hcz85_5, hfz85_0, hfz85_1, hfz85_2, hfz85_3, hfz85_4, hfz85_5⟩ := blk6 BK438
       have hnb86 := NB443_440.out
       have hnc86 := NB440_443.out
       obtain ⟨hcz87_0, hcz87_1, hcz87_2, hcz87_3, hcz87_4, hcz87_5, hfz87_0, hfz87_1, hfz87_2, hfz87_3, hfz87_4, hfz87_5⟩ := blk6 BK443
       obtain ⟨hcz88_0, hcz88_1, hcz88_2, hcz88_3, hcz88_4, hcz88_5, hfz88_0, hfz88_1, hfz88_2, hfz88_3, hfz88_4, hfz88_5⟩ := blk6 BK440
       go_wp2
       refine bodyPost_ret (results_cell_row rfl _ _ gb440 42 #[.int .u64 18446744073709551615, .bool true, .int .i64 t441, .int .u64 t442, .int .i64 x444004_23, .int .i64 a1_5] (0, 0) _ rfl (putB BK440.out NB440_443.out) Try.underlying42 rfl (by kernel_rfl)) rfl ?_
       exact ⟨ret1, by repeat (first | (with_reducible first | exact HB.out | apply below_alloc | apply pw_below_drewN | apply below_drew1 | refine below_set ?_ GE438.out | refine below_set ?_ GE439.out | refine below_set ?_ GE440.out | refine below_set ?_ GE443.out) | exact HB.out)⟩
      ·rw [if_neg c78] at H
       have c78b0 := decide_eq_false c78
       clear c78
       simp only [Option.some.injEq, Prod.mk.injEq] at H
       obtain ⟨rfl, rfl, rfl, rfl, rfl, rfl⟩ := H
       have hnb89 := NB439_438.out
       have hnc89 := NB438_439.out
       have hnb90 := NB439_440.out
       have hnc90 := NB440_439.out
       have hnb91 := NB439_443.out
       have hnc91 := NB443_439.out
       obtain ⟨hcz92_0, hcz92_1, hcz92_2, hcz92_3, hcz92_4, hcz92_5, hfz92_0, hfz92_1, hfz92_2, hfz92_3, hfz92_4, hfz92_5⟩ := blk6 BK439
       have hnb93 := NB438_440.out
       have hnc93 := NB440_438.out
       have hnb94 := NB438_443.out
       have hnc94 := NB443_438.out
       obtain ⟨hcz95_0, hcz95_1, hcz95_2, hcz95_3, hcz95_4, hcz95_5, hfz95_0, hfz95_1, hfz95_2, hfz95_3, hfz95_4, hfz95_5⟩ := blk6 BK438
       have hnb96 := NB443_440.out
       have hnc96 := NB440_443.out
       obtain ⟨hcz97_0, hcz97_1, hcz97_2, hcz97_3, hcz97_4, hcz97_5, hfz97_0, hfz97_1, hfz97_2, hfz97_3, hfz97_4, hfz97_5⟩ := blk6 BK443
       obtain ⟨hcz98_0, hcz98_1, hcz98_2, hcz98_3, hcz98_4, hcz98_5, hfz98_0, hfz98_1, hfz98_2, hfz98_3, hfz98_4, hfz98_5⟩ := blk6 BK440
       go_wp2
       refine bodyPost_ret (results_cell_row rfl _ _ gb440 42 #[.int .u64 (IntKind.u64.wrap (a0_0 + a1_0)), .bool false, .int .i64 t441, .int .u64 t442, .int .i64 x444004_23, .int .i64 a1_5] (0, 0) _ rfl (putB BK440.out NB440_443.out) Try.underlying42 rfl (by kernel_rfl)) rfl ?_
       exact ⟨ret1, by repeat (first | (with_reducible first | exact HB.out | apply below_alloc | apply pw_below_drewN | apply below_drew1 | refine below_set ?_ GE438.out | refine below_set ?_ GE439.out | refine below_set ?_ GE440.out | refine below_set ?_ GE443.out) | exact HB.out)⟩
   ·rw [if_neg c55] at H
    have c55b0 := decide_eq_false c55
    clear c55
    by_cases c99 : a0_1 = true
    ·subst c99
     have H1 : (some (18446744073709551615, true, t441, t442, x444004_23, a0_5)) = some (r1, r2, r3, r4, r5, r6) := by rw [if_pos rfl] at H; exact H
     clear H
     have H := H1
     clear H1
     simp only [Option.some.injEq, Prod.mk.injEq] at H
     obtain ⟨rfl, rfl, rfl, rfl, rfl, rfl⟩ := H
     have hnb100 := NB439_438.out
     have hnc100 := NB438_439.out
     have hnb101 := NB439_440.out
     have hnc101 := NB440_439.out
     have hnb102 := NB439_443.out
     have hnc102 := NB443_439.out
     obtain ⟨hcz103_0, hcz103_1, hcz103_2, hcz103_3, hcz103_4, hcz103_5, hfz103_0, hfz103_1, hfz103_2, hfz103_3, hfz103_4, hfz103_5⟩ := blk6 BK439
     have hnb104 := NB438_440.out
     have hnc104 := NB440_438.out
     have hnb105 := NB438_443.out
     have hnc105 := NB443_438.out
     obtain ⟨hcz106_0, hcz106_1, hcz106_2, hcz106_3, hcz106_4, hcz106_5, hfz106_0, hfz106_1, hfz106_2, hfz106_3, hfz106_4, hfz106_5⟩ := blk6 BK438
     have hnb107 := NB443_440.out
     have hnc107 := NB440_443.out
     obtain ⟨hcz108_0, hcz108_1, hcz108_2, hcz108_3, hcz108_4, hcz108_5, hfz108_0, hfz108_1, hfz108_2, hfz108_3, hfz108_4, hfz108_5⟩ := blk6 BK443
     obtain ⟨hcz109_0, hcz109_1, hcz109_2, hcz109_3, hcz109_4, hcz109_5, hfz109_0, hfz109_1, hfz109_2, hfz109_3, hfz109_4, hfz109_5⟩ := blk6 BK440
     go_wp2
     refine bodyPost_ret (results_cell_row rfl _ _ gb440 42 #[.int .u64 18446744073709551615, .bool true, .int .i64 t441, .int .u64 t442, .int .i64 x444004_23, .int .i64 a0_5] (0, 0) _ rfl (putB BK440.out NB440_443.out) Try.underlying42 rfl (by kernel_rfl)) rfl ?_
     exact ⟨ret1, by repeat (first | (with_reducible first | exact HB.out | apply below_alloc | apply pw_below_drewN | apply below_drew1 | refine below_set ?_ GE438.out | refine below_set ?_ GE439.out | refine below_set ?_ GE440.out | refine below_set ?_ GE443.out) | exact HB.out)⟩
    ·replace c99 := Bool.eq_false_iff.mpr c99
     subst c99
     have H1 : (if a1_1 = true then (some (18446744073709551615, true, t441, t442, x444004_23, a0_5)) else (if a0_0 > (IntKind.u64.wrap (18446744073709551615 - a1_0)) then (some (18446744073709551615, true, t441, t442, x444004_23, a0_5)) else (some (IntKind.u64.wrap (a0_0 + a1_0), false, t441, t442, x444004_23, a0_5)))) = some (r1, r2, r3, r4, r5, r6) := by rw [if_neg (show ¬ (false = true) by decide)] at H; exact H
     clear H
     have H := H1
     clear H1
     by_cases c110 : a1_1 = true
     ·subst c110
      have H1 : (some (18446744073709551615, true, t441, t442, x444004_23, a0_5)) = some (r1, r2, r3, r4, r5, r6) := by rw [if_pos rfl] at H; exact H
      clear H
      have H := H1
      clear H1
      simp only [Option.some.injEq, Prod.mk.injEq] at H
      obtain ⟨rfl, rfl, rfl, rfl, rfl, rfl⟩ := H
      have hnb111 := NB439_438.out
      have hnc111 := NB438_439.out
      have hnb112 := NB439_440.out
      have hnc112 := NB440_439.out
      have hnb113 := NB439_443.out
      have hnc113 := NB443_439.out
      obtain ⟨hcz114_0, hcz114_1, hcz114_2, hcz114_3, hcz114_4, hcz114_5, hfz114_0, hfz114_1, hfz114_2, hfz114_3, hfz114_4, hfz114_5⟩ := blk6 BK439
      have hnb115 := NB438_440.out
      have hnc115 := NB440_438.out
      have hnb116 := NB438_443.out
      have hnc116 := NB443_438.out
      obtain ⟨hcz117_0, hcz117_1, hcz117_2, hcz117_3, hcz117_4, hcz117_5, hfz117_0, hfz117_1, hfz117_2, hfz117_3, hfz117_4, hfz117_5⟩ := blk6 BK438
      have hnb118 := NB443_440.out
      have hnc118 := NB440_443.out
      obtain ⟨hcz119_0, hcz119_1, hcz119_2, hcz119_3, hcz119_4, hcz119_5, hfz119_0, hfz119_1, hfz119_2, hfz119_3, hfz119_4, hfz119_5⟩ := blk6 BK443
      obtain ⟨hcz120_0, hcz120_1, hcz120_2, hcz120_3, hcz120_4, hcz120_5, hfz120_0, hfz120_1, hfz120_2, hfz120_3, hfz120_4, hfz120_5⟩ := blk6 BK440
      go_wp2
      refine bodyPost_ret (results_cell_row rfl _ _ gb440 42 #[.int .u64 18446744073709551615, .bool true, .int .i64 t441, .int .u64 t442, .int .i64 x444004_23, .int .i64 a0_5] (0, 0) _ rfl (putB BK440.out NB440_443.out) Try.underlying42 rfl (by kernel_rfl)) rfl ?_
      exact ⟨ret1, by repeat (first | (with_reducible first | exact HB.out | apply below_alloc | apply pw_below_drewN | apply below_drew1 | refine below_set ?_ GE438.out | refine below_set ?_ GE439.out | refine below_set ?_ GE440.out | refine below_set ?_ GE443.out) | exact HB.out)⟩
     ·replace c110 := Bool.eq_false_iff.mpr c110
      subst c110
      have H1 : (if a0_0 > (IntKind.u64.wrap (18446744073709551615 - a1_0)) then (some (18446744073709551615, true, t441, t442, x444004_23, a0_5)) else (some (IntKind.u64.wrap (a0_0 + a1_0), false, t441, t442, x444004_23, a0_5))) = some (r1, r2, r3, r4, r5, r6) := by rw [if_neg (show ¬ (false = true) by decide)] at H; exact H
      clear H
      have H := H1
      clear H1
      by_cases c121 : a0_0 > (IntKind.u64.wrap (18446744073709551615 - a1_0))
      ·rw [if_pos c121] at H
       have c121b0 := decide_eq_true c121
       clear c121
       simp only [Option.some.injEq, Prod.mk.injEq] at H
       obtain ⟨rfl, rfl, rfl, rfl, rfl, rfl⟩ := H
       have hnb122 := NB439_438.out
       have hnc122 := NB438_439.out
       have hnb123 := NB439_440.out
       have hnc123 := NB440_439.out
       have hnb124 := NB439_443.out
       have hnc124 := NB443_439.out
       obtain ⟨hcz125_0, hcz125_1, hcz125_2, hcz125_3, hcz125_4, hcz125_5, hfz125_0, hfz125_1, hfz125_2, hfz125_3, hfz125_4, hfz125_5⟩ := blk6 BK439
       have hnb126 := NB438_440.out
       have hnc126 := NB440_438.out
       have hnb127 := NB438_443.out
       have hnc127 := NB443_438.out
       obtain ⟨hcz128_0, hcz128_1, hcz128_2, hcz128_3, hcz128_4, hcz128_5, hfz128_0, hfz128_1, hfz128_2, hfz128_3, hfz128_4, hfz128_5⟩ := blk6 BK438
       have hnb129 := NB443_440.out
       have hnc129 := NB440_443.out
       obtain ⟨hcz130_0, hcz130_1, hcz130_2, hcz130_3, hcz130_4, hcz130_5, hfz130_0, hfz130_1, hfz130_2, hfz130_3, hfz130_4, hfz130_5⟩ := blk6 BK443
       obtain ⟨hcz131_0, hcz131_1, hcz131_2, hcz131_3, hcz131_4, hcz131_5, hfz131_0, hfz131_1, hfz131_2, hfz131_3, hfz131_4, hfz131_5⟩ := blk6 BK440
       go_wp2
       refine bodyPost_ret (results_cell_row rfl _ _ gb440 42 #[.int .u64 18446744073709551615, .bool true, .int .i64 t441, .int .u64 t442, .int .i64 x444004_23, .int .i64 a0_5] (0, 0) _ rfl (putB BK440.out NB440_443.out) Try.underlying42 rfl (by kernel_rfl)) rfl ?_
       exact ⟨ret1, by repeat (first | (with_reducible first | exact HB.out | apply below_alloc | apply pw_below_drewN | apply below_drew1 | refine below_set ?_ GE438.out | refine below_set ?_ GE439.out | refine below_set ?_ GE440.out | refine below_set ?_ GE443.out) | exact HB.out)⟩
      ·rw [if_neg c121] at H
       have c121b0 := decide_eq_false c121
       clear c121
       simp only [Option.some.injEq, Prod.mk.injEq] at H
       obtain ⟨rfl, rfl, rfl, rfl, rfl, rfl⟩ := H
       have hnb132 := NB439_438.out
       have hnc132 := NB438_439.out
       have hnb133 := NB439_440.out
       have hnc133 := NB440_439.out
       have hnb134 := NB439_443.out
       have hnc134 := NB443_439.out
       obtain ⟨hcz135_0, hcz135_1, hcz135_2, hcz135_3, hcz135_4, hcz135_5, hfz135_0, hfz135_1, hfz135_2, hfz135_3, hfz135_4, hfz135_5⟩ := blk6 BK439
       have hnb136 := NB438_440.out
       have hnc136 := NB440_438.out
       have hnb137 := NB438_443.out
       have hnc137 := NB443_438.out
       obtain ⟨hcz138_0, hcz138_1, hcz138_2, hcz138_3, hcz138_4, hcz138_5, hfz138_0, hfz138_1, hfz138_2, hfz138_3, hfz138_4, hfz138_5⟩ := blk6 BK438
       have hnb139 := NB443_440.out
       have hnc139 := NB440_443.out
       obtain ⟨hcz140_0, hcz140_1, hcz140_2, hcz140_3, hcz140_4, hcz140_5, hfz140_0, hfz140_1, hfz140_2, hfz140_3, hfz140_4, hfz140_5⟩ := blk6 BK443
       obtain ⟨hcz141_0, hcz141_1, hcz141_2, hcz141_3, hcz141_4, hcz141_5, hfz141_0, hfz141_1, hfz141_2, hfz141_3, hfz141_4, hfz141_5⟩ := blk6 BK440
       go_wp2
       refine bodyPost_ret (results_cell_row rfl _ _ gb440 42 #[.int .u64 (IntKind.u64.wrap (a0_0 + a1_0)), .bool false, .int .i64 t441, .int .u64 t442, .int .i64 x444004_23, .int .i64 a0_5] (0, 0) _ rfl (putB BK440.out NB440_443.out) Try.underlying42 rfl (by kernel_rfl)) rfl ?_
       exact ⟨ret1, by repeat (first | (with_reducible first | exact HB.out | apply below_alloc | apply pw_below_drewN | apply below_drew1 | refine below_set ?_ GE438.out | refine below_set ?_ GE439.out | refine below_set ?_ GE440.out | refine below_set ?_ GE443.out) | exact HB.out)⟩
end Go.Proofs.Ytdopbhbbpgfliaa.PAsk
end
