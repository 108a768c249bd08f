import Derived.Test.YtdopbhbbpgfliaaZAskAll13
section
namespace Go.Proofs.Ytdopbhbbpgfliaa.PAsk
open Go.RowKit Go.Proofs.YtdopbhbbpgfliaaW.PrintWords Go.Proofs.YtdopbhbbpgfliaaW.PrintLast Go.Proofs.YtdopbhbbpgfliaaW.PrintMore
attribute [local go_sem] max2_int min2_int max_two min_two max_three min_three max_four min_four   -- for this text's walks alone
set_option linter.unusedVariables false
set_option linter.unusedSimpArgs false
set_option maxHeartbeats 8000000
set_option maxRecDepth 100000
def ask_rows.l0 : Nat → List (S44) → List (S60) → Int → Int → List (S84) → Int → Option ((List (S44)) × Int)
 | 0, _, _, _, _, _, _ => none
 | k + 1, x10, x25, x26, x27, x241000, x241001 => if x27 < x26 then (if 0 ≤ x27 then (if x27 < (x25.length : Int) then ((key_Read.f k ((rd_T60 x25 x27).f0)).bind fun bt247 => (if 0 ≤ bt247.2.2.1 then (if bt247.2.2.1 < (x241000.length : Int) then (if x10.length < 1599289640401 then (ask_rows.l0 k (x10 ++ [(⟨bt247.1, bt247.2.1, (rd_T84 x241000 bt247.2.2.1).f0, (⟨(rd_T60 x25 x27).f1.f0, (rd_T60 x25 x27).f1.f1, (⟨(rd_T60 x25 x27).f1.f2.f0, (rd_T60 x25 x27).f1.f2.f1⟩ : S40), (rd_T60 x25 x27).f1.f3, (rd_T60 x25 x27).f1.f4⟩ : S42)⟩ : S44)]) x25 x26 (wrap64 (x27 + 1)) x241000 x241001) else (none)) else (none)) else (none))) else (none)) else (none)) else (some (x10, 0))
def ask_rows.f (k : Nat) (l0_0 : List (S84)) (a0_1 : Int) (a1 : Int) (l2 : List (S60)) : Option ((List (S44)) × Int) := (fold_Fold.f k l0_0 a0_1 a1 l2).bind fun bt241 => (if bt241.2 = 0 then (ask_rows.l0 k ([] : List (S44)) bt241.1 (bt241.1.length : Int) 0 l0_0 a0_1) else (some (([] : List (S44)), bt241.2)))
def ask_rows.T9 : Bool × List (List Nat × List Nat) := (true, [([], []), ([], []), ([1], [1]), ([], []), ([3], [3]), ([], []), ([5], [5]), ([], []), ([7], [7]), ([6, 8], [6, 8]), ([9], [9]), ([10], [10]), ([], []), ([12], [12]), ([2, 4, 11, 13], [2, 4, 11, 13]), ([14], [14]), ([0, 15], [0, 15]), ([16, 16, 0, 1, 2, 3, 4, 5, 6, 7, 8, 9, 10, 11, 12, 13, 14, 15, 16], [0, 16])])
def ask_rows.B9 : List Nat := [0, 0, 2, 0, 8, 0, 32, 0, 128, 480, 992, 2016, 0, 4096, 16382, 32766, 65535, 131071]
theorem ask_rows.tab9 : rtab .any (opsOf Try.f22 9) = ask_rows.T9 := by kernel_rfl
theorem ask_rows.bits9 : waitsOk ask_rows.T9.2 ask_rows.B9 = true := by kernel_rfl
theorem ask_rows.calls (k : Nat) (A0_0 : Option Addr) (c0_0 : Nat) (l0_0 : List (S84)) (a0_1 : Int) (a1 : Int) (A2 : Option Addr) (c2 : Nat) (l2 : List (S60)) (r1 : List (S44)) (r2 : Int) (w : World) (hr0_0 : Kd.C k84 w A0_0 l0_0.length l0_0) (hc0_0 : l0_0.length ≤ c0_0) (hr2 : Kd.C k60 w A2 l2.length l2) (hc2 : l2.length ≤ c2) (h : ask_rows.f k l0_0 a0_1 a1 l2 = some (r1, r2)) :
  Calls Try.prog 22 #[.agg #[.slice A0_0 l0_0.length c0_0, .int .i64 a0_1], .int .i64 a1, .slice A2 l2.length c2] w fun e w' => ∃ v0_ : Value, e = .returned (.tuple #[v0_, .int .i64 r2]) ∧ Kd.R k44 44 w' w.heap.size (fun _ => True) v0_ r1 ∧ Below w.heap.size w w' := by
 have hu24 := Try.underlying24
 have hu60 := Try.underlying60
 have hu70 := Try.underlying70
 have hu42 := Try.underlying42
 have hu44 := Try.underlying44
 have HR0_0 := Aside0.mk hr0_0
 have HC0_0 := Aside0.mk hc0_0
 clear hr0_0 hc0_0
 have HR2 := Aside0.mk hr2
 have HC2 := Aside0.mk hc2
 clear hr2 hc2
 have HB := Aside0.mk (Below.refl w.heap.size w)
 have H : ((fold_Fold.f k l0_0 a0_1 a1 l2).bind fun bt241 => (if bt241.2 = 0 then (ask_rows.l0 k ([] : List (S44)) bt241.1 (bt241.1.length : Int) 0 l0_0 a0_1) else (some (([] : List (S44)), bt241.2)))) = some (r1, r2) := h
 clear h
 replace H := bnA H
 obtain ⟨⟨t241, t244⟩, A4, H⟩ := H
 replace H : (if t244 = 0 then (ask_rows.l0 k ([] : List (S44)) t241 (t241.length : Int) 0 l0_0 a0_1) else (some (([] : List (S44)), t244))) = some (r1, r2) := H
 by_cases c5 : t244 = 0
 rotate_left
 ·rw [if_neg c5] at H
  have c5b0 := beq_eq_false_iff_ne.mpr c5
  have c5b1 := bne_iff_ne.mpr c5
  simp only [Option.some.injEq, Prod.mk.injEq] at H
  obtain ⟨rfl, rfl⟩ := H
  go_enter Try.func22, Try.ntmps22
  go_wp2_with (first | ((with_reducible refine gate_dst (N := 3) rfl ?_); refine boxA 3 #[.slice A0_0 l0_0.length c0_0, .int .i64 a0_1] 24 ?_; intro gb240 hg w29 hbox hb; have BK240 := Aside0.mk (hbox); have GE240 := ge1 hg (belA HB.out); replace HB := bst HB hb; clear hb hbox hg; obtain ⟨hcz30_0, hcz30_1, hfz30_0, hfz30_1⟩ := blk2 BK240) | ((with_reducible refine gate_callee (f := 39) rfl ?_); refine goesL_ (some 19) rfl rfl Try.func39 (by kernel_rfl) rfl #[.agg #[.slice A0_0 l0_0.length c0_0, .int .i64 a0_1], .int .i64 a1, .slice A2 l2.length c2] rfl argA ?_; (with_reducible refine (fold_Fold.calls k _ _ l0_0 a0_1 a1 _ _ l2 t241 t244 _ ?side1 ?side2 ?side3 ?side4 A4.out).mono ?_); (case side1 => exact cb1 HR0_0 HB); (case side2 => exact HC0_0.out); (case side3 => exact cb1 HR2 HB); (case side4 => exact HC2.out); rintro e w31 ⟨v242, rfl, ho0, hb⟩; refine ⟨_, rfl, ?_⟩; have HO243 := Aside0.mk (Kd.R_lower ho0 (below_size (belB HB.out GE240.out))); replace BK240 := blkB BK240 hb; replace HB := bs2 HB GE240 hb; (try clear hb); (try clear ho0)))
  go_ret2
  exact ⟨_, ret1, by first | exact Kd.R_nil _ _ _ _ _ | exact Kd.N_nil _ _ _ _ _ | exact Kd.V_nil _ _ _ _ _ | exact Kd.Q_nil _ _ _ _ _ | exact Kd.S_nil _ _ _ _ _, belB HB.out GE240.out⟩
 rw [if_pos c5] at H
 have c5b0 := beq_iff_eq.mpr c5
 have c5b1 := bne_eq_false_iff_eq.mpr c5
 clear c5
 have H' := Aside0.mk H
 clear H
 go_enter Try.func22, Try.ntmps22
 go_wp2_with (first | ((with_reducible refine gate_dst (N := 3) rfl ?_); refine boxA 3 #[.slice A0_0 l0_0.length c0_0, .int .i64 a0_1] 24 ?_; intro gb240 hg w6 hbox hb; have BK240 := Aside0.mk (hbox); have GE240 := ge1 hg (belA HB.out); replace HB := bst HB hb; clear hb hbox hg; obtain ⟨hcz7_0, hcz7_1, hfz7_0, hfz7_1⟩ := blk2 BK240) | ((with_reducible refine gate_callee (f := 39) rfl ?_); refine goesL_ (some 19) rfl rfl Try.func39 (by kernel_rfl) rfl #[.agg #[.slice A0_0 l0_0.length c0_0, .int .i64 a0_1], .int .i64 a1, .slice A2 l2.length c2] rfl argA ?_; (with_reducible refine (fold_Fold.calls k _ _ l0_0 a0_1 a1 _ _ l2 t241 t244 _ ?side1 ?side2 ?side3 ?side4 A4.out).mono ?_); (case side1 => exact cb1 HR0_0 HB); (case side2 => exact HC0_0.out); (case side3 => exact cb1 HR2 HB); (case side4 => exact HC2.out); rintro e w8 ⟨v242, rfl, ho0, hb⟩; refine ⟨_, rfl, ?_⟩; have HO243 := Aside0.mk (Kd.R_lower ho0 (below_size (belB HB.out GE240.out))); replace BK240 := blkB BK240 hb; replace HB := bs2 HB GE240 hb; (try clear hb); (try clear ho0); obtain ⟨Ao9, co9, eo9⟩ := Kd.R_slice HO243.out; subst eo9))
 go_loopg [10, 27] k (fun kq v10 v27 w' => ∃ (x10_1 : List (S44)) (x27_1 : Int), v27 = .int .i64 x27_1 ∧ Aside0 (ask_rows.l0 kq x10_1 t241 (t241.length : Int) x27_1 l0_0 a0_1 = some (r1, r2)) ∧ Aside0 (kq ≤ k) ∧ Aside0 (Kd.R k44 44 w' w.heap.size (fun _ => True) v10 x10_1) ∧ Aside0 (Kd.R k60 60 w' w.heap.size (fun _ => True) (.slice Ao9 t241.length co9) t241) ∧ Aside0 (w'.heap[gb240]? = some (.cells #[(.slice A0_0 l0_0.length c0_0), .int .i64 a0_1] 24 (0, 0))) ∧ Aside0 (Below w.heap.size w w'))
 case atStart => exact ⟨(([] : List (S44))), (0), relA, H', ⟨Nat.le_refl _⟩, ⟨by first | exact Kd.R_nil _ _ _ _ _ | exact Kd.N_nil _ _ _ _ _ | exact Kd.V_nil _ _ _ _ _ | exact Kd.Q_nil _ _ _ _ _ | exact Kd.S_nil _ _ _ _ _⟩, ⟨rowA HO243.out⟩, ⟨blkA BK240.out⟩, ⟨belB HB.out GE240.out⟩⟩
 case round =>
  clear H'
  try clear c2
  try clear p2
  try clear c3
  try clear c5
  try clear c5b0
  try clear c5b1
  try clear hcz7_0 hcz7_1 hfz7_0 hfz7_1
  obtain ⟨x10_1, x27_1, rfl, HA, HK1, HO_10, HO_25, BK240, HB⟩ := hrel
  cases gk with
  | zero => exact absurd HA.out (by simp [ask_rows.l0])
  | succ k1 =>
   have H := HA.out
   clear HA
   simp only [ask_rows.l0] at H
   by_cases c10 : x27_1 < (t241.length : Int)
   ·rw [if_pos c10] at H
    have c10b0 := decide_eq_true c10
    clear c10
    by_cases c11 : 0 ≤ x27_1
    ·rw [if_pos c11] at H
     have c11b0 := decide_eq_true c11
     clear c11
     by_cases c12 : x27_1 < (t241.length : Int)
     ·rw [if_pos c12] at H
      have c12b0 := decide_eq_true c12
      clear c12
      replace H := bnA H
      obtain ⟨⟨t247, t250, t251, t252⟩, A13, H⟩ := H
      replace H : (if 0 ≤ t251 then (if t251 < (l0_0.length : Int) then (if x10_1.length < 1599289640401 then (ask_rows.l0 k1 (x10_1 ++ [(⟨t247, t250, (rd_T84 l0_0 t251).f0, (⟨(rd_T60 t241 x27_1).f1.f0, (rd_T60 t241 x27_1).f1.f1, (⟨(rd_T60 t241 x27_1).f1.f2.f0, (rd_T60 t241 x27_1).f1.f2.f1⟩ : S40), (rd_T60 t241 x27_1).f1.f3, (rd_T60 t241 x27_1).f1.f4⟩ : S42)⟩ : S44)]) t241 (t241.length : Int) (wrap64 (x27_1 + 1)) l0_0 a0_1) else (none)) else (none)) else (none)) = some (r1, r2) := H
      by_cases c14 : 0 ≤ t251
      ·rw [if_pos c14] at H
       have c14b0 := decide_eq_true c14
       clear c14
       by_cases c15 : t251 < (l0_0.length : Int)
       ·rw [if_pos c15] at H
        have c15b0 := decide_eq_true c15
        clear c15
        by_cases c16 : x10_1.length < 1599289640401
        ·rw [if_pos c16] at H
         have LMc16 := Aside0.mk c16
         clear c16
         obtain ⟨y255, hy255⟩ : ∃ y_ : List (S44), y_ = (x10_1 ++ [(⟨t247, t250, (rd_T84 l0_0 t251).f0, (⟨(rd_T60 t241 x27_1).f1.f0, (rd_T60 t241 x27_1).f1.f1, (⟨(rd_T60 t241 x27_1).f1.f2.f0, (rd_T60 t241 x27_1).f1.f2.f1⟩ : S40), (rd_T60 t241 x27_1).f1.f3, (rd_T60 t241 x27_1).f1.f4⟩ : S42)⟩ : S44)]) := ⟨_, rfl⟩
         replace H : (ask_rows.l0 k1 y255 t241 (t241.length : Int) (wrap64 (x27_1 + 1)) l0_0 a0_1) = some (r1, r2) := nmA hy255 H
         have Ny255 := Aside0.mk hy255
         clear hy255
         have H' := Aside0.mk H
         clear H
         have p245 : 0 ≤ (x27_1 : Int) := of_decide_eq_true asmA
         have q245 : x27_1 < (t241.length : Int) := of_decide_eq_true asmA
         obtain ⟨ad245, A245_0, c245_0, e245, hx245_0, hx245_1, hx245_2, hx245_3, hx245_4, hx245_5, hx245_6, hl245_0, hi245_0⟩ := at_T60 (Kd.R_reads' HO_25.out).2.2 x27_1 p245 q245
         cases e245
         obtain ⟨ce245, hce245, hMe245, hcc245⟩ := Kd.R_get HO_25.out z60 x27_1 p245 (by first | exact q245 | exact of_decide_eq_true asmA | (have e_ := (Kd.R_reads' HO_25.out).1; omega))
         obtain ⟨ve245_0, rfl, ge245_0⟩ := k60_openM hMe245
         have hv245_0 := hcc245 0 _ rfl
         rw [Nat.add_zero] at hv245_0
         replace hv245_0 := Option.some.inj (hv245_0.symm.trans hx245_0)
         rw [hv245_0] at ge245_0
         have HL245_0 := Aside0.mk (show Kd.R (Kd.int .u8) 5 _ _ _ _ ((rd_T60 t241 x27_1).f0) from ge245_0)
         clear hv245_0 ge245_0
         clear hcc245 hce245
         have HR245_0 := Aside0.mk hi245_0
         have HC245_0 := Aside0.mk hl245_0
         clear hi245_0 hl245_0
         replace p245 := eq_true p245
         replace q245 := eq_true q245
         try go_wp2_with (first | ((with_reducible refine gate_dst (N := 12) rfl ?_); refine boxA 12 #[.slice none 0 0, .int .u64 0, .bool false, .int .i64 0, .int .u64 0, .int .i64 0, .int .i64 0] 60 ?_; intro gb246 hg w17 hbox hb; have BK246 := Aside0.mk (hbox); have GW246 := ge1 hg (belB HB.out GE240.out); have GE246 := GW246; have NB240_246 := neL hg BK240; have NB246_240 := neR hg BK240; replace HO_10 := Aside0.mk (Kd.R_below (rowA HO_10.out) hb); replace HO_25 := Aside0.mk (Kd.R_below (Kd.R_elderB (rowA HO_25.out) gb246 (Nat.le_of_eq hg.symm)) hb); replace HL245_0 := Aside0.mk (Kd.R_below (rowA HL245_0.out) hb); replace BK240 := blkB BK240 hb; replace HR245_0 := Aside0.mk (Kd.C_below (celA HR245_0.out) hb); replace HB := bs2 HB GE240 hb; clear hb hbox hg; have hnb18 := NB246_240.out; have hnc18 := NB240_246.out; obtain ⟨hcz19_0, hcz19_1, hcz19_2, hcz19_3, hcz19_4, hcz19_5, hcz19_6, hfz19_0, hfz19_1, hfz19_2, hfz19_3, hfz19_4, hfz19_5, hfz19_6⟩ := blk7 BK246) | ((with_reducible refine gate_callee (f := 40) rfl ?_); refine goesL_ (some 34) rfl rfl Try.func40 (by kernel_rfl) rfl #[.slice A245_0 ((rd_T60 t241 x27_1).f0).length c245_0] rfl argA ?_; (with_reducible refine (key_Read.calls k1 _ _ ((rd_T60 t241 x27_1).f0) t247 t250 t251 t252 _ ?side1 ?side2 A13.out).mono ?_); (case side1 => repeat (first | exact ((Kd.R_reads' (by (with_reducible repeat (first | apply Kd.R_alloc | apply Kd.R_drewN | apply Kd.R_drew)); exact (Kd.R_mono (Kd.R_far (p := ⟨gb246, 6, none⟩) (Kd.R_far (p := ⟨gb246, 5, none⟩) (Kd.R_far (p := ⟨gb246, 4, none⟩) (Kd.R_far (p := ⟨gb246, 3, none⟩) (Kd.R_far (p := ⟨gb246, 2, none⟩) (Kd.R_far (p := ⟨gb246, 1, none⟩) (Kd.R_far (p := ⟨gb246, 0, none⟩) (Kd.R_types HL245_0.out BK246.out (by decide)) (fun _ hk => hk.2) (.slice A245_0 ((rd_T60 t241 x27_1).f0).length c245_0)) (fun _ hk => hk.2) (.int .u64 ((rd_T60 t241 x27_1).f1.f0))) (fun _ hk => hk.2) (.bool ((rd_T60 t241 x27_1).f1.f1))) (fun _ hk => hk.2) (.int .i64 ((rd_T60 t241 x27_1).f1.f2.f0))) (fun _ hk => hk.2) (.int .u64 ((rd_T60 t241 x27_1).f1.f2.f1))) (fun _ hk => hk.2) (.int .i64 ((rd_T60 t241 x27_1).f1.f3))) (fun _ hk => hk.2) (.int .i64 ((rd_T60 t241 x27_1).f1.f4))) (fun _ h_ => h_.1)))).2.2) | (with_reducible refine Kd.C_alloc ?_ _) | (with_reducible refine Kd.C_drewN ?_ _) | (with_reducible refine Kd.C_drew ?_))); (case side2 => exact HC245_0.out); rintro e w20 ⟨v248, rfl, ho0, hb⟩; refine ⟨_, rfl, ?_⟩; have HO249 := Aside0.mk (Kd.R_lower ho0 (below_size (belC HB.out GE240.out GE246.out))); replace HO_10 := Aside0.mk (Kd.R_elder' (by (with_reducible repeat (first | apply Kd.R_alloc | apply Kd.R_drewN | apply Kd.R_drew)); exact (Kd.R_mono (Kd.R_far (p := ⟨gb246, 6, none⟩) (Kd.R_far (p := ⟨gb246, 5, none⟩) (Kd.R_far (p := ⟨gb246, 4, none⟩) (Kd.R_far (p := ⟨gb246, 3, none⟩) (Kd.R_far (p := ⟨gb246, 2, none⟩) (Kd.R_far (p := ⟨gb246, 1, none⟩) (Kd.R_far (p := ⟨gb246, 0, none⟩) (Kd.R_types HO_10.out BK246.out (by decide)) (fun _ hk => hk.2) (.slice A245_0 ((rd_T60 t241 x27_1).f0).length c245_0)) (fun _ hk => hk.2) (.int .u64 ((rd_T60 t241 x27_1).f1.f0))) (fun _ hk => hk.2) (.bool ((rd_T60 t241 x27_1).f1.f1))) (fun _ hk => hk.2) (.int .i64 ((rd_T60 t241 x27_1).f1.f2.f0))) (fun _ hk => hk.2) (.int .u64 ((rd_T60 t241 x27_1).f1.f2.f1))) (fun _ hk => hk.2) (.int .i64 ((rd_T60 t241 x27_1).f1.f3))) (fun _ hk => hk.2) (.int .i64 ((rd_T60 t241 x27_1).f1.f4))) (fun _ h_ => h_.1))) (Kd.R_base ho0) hb); replace HO_25 := Aside0.mk (Kd.R_below (by (with_reducible repeat (first | apply Kd.R_alloc | apply Kd.R_drewN | apply Kd.R_drew)); exact (Kd.R_mono (Kd.R_far (p := ⟨gb246, 6, none⟩) (Kd.R_far (p := ⟨gb246, 5, none⟩) (Kd.R_far (p := ⟨gb246, 4, none⟩) (Kd.R_far (p := ⟨gb246, 3, none⟩) (Kd.R_far (p := ⟨gb246, 2, none⟩) (Kd.R_far (p := ⟨gb246, 1, none⟩) (Kd.R_far (p := ⟨gb246, 0, none⟩) (Kd.R_mono HO_25.out (fun k_ hk => (⟨hk, hk.2⟩ : _ ∧ k_ ≠ gb246))) (fun _ hk => hk.2) (.slice A245_0 ((rd_T60 t241 x27_1).f0).length c245_0)) (fun _ hk => hk.2) (.int .u64 ((rd_T60 t241 x27_1).f1.f0))) (fun _ hk => hk.2) (.bool ((rd_T60 t241 x27_1).f1.f1))) (fun _ hk => hk.2) (.int .i64 ((rd_T60 t241 x27_1).f1.f2.f0))) (fun _ hk => hk.2) (.int .u64 ((rd_T60 t241 x27_1).f1.f2.f1))) (fun _ hk => hk.2) (.int .i64 ((rd_T60 t241 x27_1).f1.f3))) (fun _ hk => hk.2) (.int .i64 ((rd_T60 t241 x27_1).f1.f4))) (fun _ h_ => h_.1))) hb); replace BK240 := Aside0.mk (blk_below (g := gb240) (o := .cells #[.slice A0_0 l0_0.length c0_0, .int .i64 a0_1] 24 (0, 0)) (putB BK240.out NB240_246.out) hb); replace HR245_0 := Aside0.mk (Kd.C_below ((Kd.R_reads' (by (with_reducible repeat (first | apply Kd.R_alloc | apply Kd.R_drewN | apply Kd.R_drew)); exact (Kd.R_mono (Kd.R_far (p := ⟨gb246, 6, none⟩) (Kd.R_far (p := ⟨gb246, 5, none⟩) (Kd.R_far (p := ⟨gb246, 4, none⟩) (Kd.R_far (p := ⟨gb246, 3, none⟩) (Kd.R_far (p := ⟨gb246, 2, none⟩) (Kd.R_far (p := ⟨gb246, 1, none⟩) (Kd.R_far (p := ⟨gb246, 0, none⟩) (Kd.R_types HL245_0.out BK246.out (by decide)) (fun _ hk => hk.2) (.slice A245_0 ((rd_T60 t241 x27_1).f0).length c245_0)) (fun _ hk => hk.2) (.int .u64 ((rd_T60 t241 x27_1).f1.f0))) (fun _ hk => hk.2) (.bool ((rd_T60 t241 x27_1).f1.f1))) (fun _ hk => hk.2) (.int .i64 ((rd_T60 t241 x27_1).f1.f2.f0))) (fun _ hk => hk.2) (.int .u64 ((rd_T60 t241 x27_1).f1.f2.f1))) (fun _ hk => hk.2) (.int .i64 ((rd_T60 t241 x27_1).f1.f3))) (fun _ hk => hk.2) (.int .i64 ((rd_T60 t241 x27_1).f1.f4))) (fun _ h_ => h_.1)))).2.2) hb); replace HL245_0 := Aside0.mk (Kd.R_below (by (with_reducible repeat (first | apply Kd.R_alloc | apply Kd.R_drewN | apply Kd.R_drew)); exact (Kd.R_mono (Kd.R_far (p := ⟨gb246, 6, none⟩) (Kd.R_far (p := ⟨gb246, 5, none⟩) (Kd.R_far (p := ⟨gb246, 4, none⟩) (Kd.R_far (p := ⟨gb246, 3, none⟩) (Kd.R_far (p := ⟨gb246, 2, none⟩) (Kd.R_far (p := ⟨gb246, 1, none⟩) (Kd.R_far (p := ⟨gb246, 0, none⟩) (Kd.R_types HL245_0.out BK246.out (by decide)) (fun _ hk => hk.2) (.slice A245_0 ((rd_T60 t241 x27_1).f0).length c245_0)) (fun _ hk => hk.2) (.int .u64 ((rd_T60 t241 x27_1).f1.f0))) (fun _ hk => hk.2) (.bool ((rd_T60 t241 x27_1).f1.f1))) (fun _ hk => hk.2) (.int .i64 ((rd_T60 t241 x27_1).f1.f2.f0))) (fun _ hk => hk.2) (.int .u64 ((rd_T60 t241 x27_1).f1.f2.f1))) (fun _ hk => hk.2) (.int .i64 ((rd_T60 t241 x27_1).f1.f3))) (fun _ hk => hk.2) (.int .i64 ((rd_T60 t241 x27_1).f1.f4))) (fun _ h_ => h_.1))) hb); replace BK246 := Aside0.mk (blk_below (g := gb246) (o := .cells #[.slice A245_0 ((rd_T60 t241 x27_1).f0).length c245_0, .int .u64 ((rd_T60 t241 x27_1).f1.f0), .bool ((rd_T60 t241 x27_1).f1.f1), .int .i64 ((rd_T60 t241 x27_1).f1.f2.f0), .int .u64 ((rd_T60 t241 x27_1).f1.f2.f1), .int .i64 ((rd_T60 t241 x27_1).f1.f3), .int .i64 ((rd_T60 t241 x27_1).f1.f4)] 60 (0, 0)) (putA BK246.out) hb); replace HB := bs3 HB GE240 GE246 hb; (try clear hb); (try clear ho0)) | ((with_reducible refine gate_dst (N := 13) rfl ?_); refine boxA 13 #[.slice none 0 0, .int .i64 0, .int .i64 0] 70 ?_; intro gb253 hg w21 hbox hb; have BK253 := Aside0.mk (hbox); have GW253 := ge1 hg (belC HB.out GE240.out GE246.out); have GE253 := GW253; have NB240_253 := neL hg BK240; have NB253_240 := neR hg BK240; have NB246_253 := neL hg BK246; have NB253_246 := neR hg BK246; replace HO_10 := Aside0.mk (Kd.R_below (rowA HO_10.out) hb); replace HO_25 := Aside0.mk (Kd.R_below (rowA HO_25.out) hb); replace HL245_0 := Aside0.mk (Kd.R_below (rowA HL245_0.out) hb); replace HO249 := Aside0.mk (Kd.R_below (rowA HO249.out) hb); replace BK240 := blkB BK240 hb; replace HR245_0 := Aside0.mk (Kd.C_below (celA HR245_0.out) hb); replace BK246 := blkB BK246 hb; replace HB := bs3 HB GE240 GE246 hb; clear hb hbox hg; obtain ⟨Ao22, co22, eo22⟩ := Kd.R_slice HO249.out; subst eo22; have hnb23 := NB253_240.out; have hnc23 := NB240_253.out; have hnb24 := NB253_246.out; have hnc24 := NB246_253.out; obtain ⟨hcz25_0, hcz25_1, hcz25_2, hfz25_0, hfz25_1, hfz25_2⟩ := blk3 BK253))
         have n0_ : Aside0 (Kd.R k44 44 (((w21.setCell ⟨gb253, 0, none⟩ (.slice Ao22 t247.length co22)).setCell ⟨gb253, 1, none⟩ (.int .i64 t250)).setCell ⟨gb253, 2, none⟩ (.int .i64 t251)) w.heap.size (fun k_ => some k_ ≠ (.slice Ao22 t247.length co22 : Value).ownBlock) u10 x10_1) := ⟨by (with_reducible repeat (first | apply Kd.R_alloc | apply Kd.R_drewN | apply Kd.R_drew)); exact Kd.R_mono (Kd.R_far (p := ⟨gb253, 2, none⟩) (Kd.R_far (p := ⟨gb253, 1, none⟩) (Kd.R_far (p := ⟨gb253, 0, none⟩) (Kd.R_types HO_10.out BK253.out (by decide)) (fun _ hk => hk.2) (.slice Ao22 t247.length co22)) (fun _ hk => hk.2) (.int .i64 t250)) (fun _ hk => hk.2) (.int .i64 t251)) (fun _ hk => hk.1.2)⟩
         have n1_ : Aside0 (Kd.R k60 60 (((w21.setCell ⟨gb253, 0, none⟩ (.slice Ao22 t247.length co22)).setCell ⟨gb253, 1, none⟩ (.int .i64 t250)).setCell ⟨gb253, 2, none⟩ (.int .i64 t251)) w.heap.size (fun k_ => k_ ≠ gb246) (.slice (some ad245) t241.length co9) t241) := ⟨by (with_reducible repeat (first | apply Kd.R_alloc | apply Kd.R_drewN | apply Kd.R_drew)); exact Kd.R_mono (Kd.R_far (p := ⟨gb253, 2, none⟩) (Kd.R_far (p := ⟨gb253, 1, none⟩) (Kd.R_far (p := ⟨gb253, 0, none⟩) (Kd.R_types HO_25.out BK253.out (by decide)) (fun _ hk => hk.2) (.slice Ao22 t247.length co22)) (fun _ hk => hk.2) (.int .i64 t250)) (fun _ hk => hk.2) (.int .i64 t251)) (fun _ hk => hk.1.2)⟩
         have n2_ : Aside0 (Kd.R (Kd.int .u8) 5 (((w21.setCell ⟨gb253, 0, none⟩ (.slice Ao22 t247.length co22)).setCell ⟨gb253, 1, none⟩ (.int .i64 t250)).setCell ⟨gb253, 2, none⟩ (.int .i64 t251)) w.heap.size (fun k_ => some k_ ≠ (.slice (some ad245) t241.length co9 : Value).ownBlock) (.slice A245_0 ((rd_T60 t241 x27_1).f0).length c245_0) ((rd_T60 t241 x27_1).f0)) := ⟨by (with_reducible repeat (first | apply Kd.R_alloc | apply Kd.R_drewN | apply Kd.R_drew)); exact Kd.R_mono (Kd.R_far (p := ⟨gb253, 2, none⟩) (Kd.R_far (p := ⟨gb253, 1, none⟩) (Kd.R_far (p := ⟨gb253, 0, none⟩) (Kd.R_types HL245_0.out BK253.out (by decide)) (fun _ hk => hk.2) (.slice Ao22 t247.length co22)) (fun _ hk => hk.2) (.int .i64 t250)) (fun _ hk => hk.2) (.int .i64 t251)) (fun _ hk => hk.1.2)⟩
         have n3_ : Aside0 (Kd.R Kd.string 9 (((w21.setCell ⟨gb253, 0, none⟩ (.slice Ao22 t247.length co22)).setCell ⟨gb253, 1, none⟩ (.int .i64 t250)).setCell ⟨gb253, 2, none⟩ (.int .i64 t251)) w.heap.size (fun _ => True) (.slice Ao22 t247.length co22) t247) := ⟨by (with_reducible repeat (first | apply Kd.R_alloc | apply Kd.R_drewN | apply Kd.R_drew)); exact Kd.R_mono (Kd.R_far (p := ⟨gb253, 2, none⟩) (Kd.R_far (p := ⟨gb253, 1, none⟩) (Kd.R_far (p := ⟨gb253, 0, none⟩) (Kd.R_types HO249.out BK253.out (by decide)) (fun _ hk => hk.2) (.slice Ao22 t247.length co22)) (fun _ hk => hk.2) (.int .i64 t250)) (fun _ hk => hk.2) (.int .i64 t251)) (fun _ hk => trivial)⟩
         have n4_ : Aside0 ((((w21.setCell ⟨gb253, 0, none⟩ (.slice Ao22 t247.length co22)).setCell ⟨gb253, 1, none⟩ (.int .i64 t250)).setCell ⟨gb253, 2, none⟩ (.int .i64 t251)).heap[gb240]? = some (.cells #[.slice A0_0 l0_0.length c0_0, .int .i64 a0_1] 24 (0, 0))) := ⟨putB BK240.out NB240_253.out⟩
         have n5_ : Aside0 ((((w21.setCell ⟨gb253, 0, none⟩ (.slice Ao22 t247.length co22)).setCell ⟨gb253, 1, none⟩ (.int .i64 t250)).setCell ⟨gb253, 2, none⟩ (.int .i64 t251)).heap[gb246]? = some (.cells #[.slice A245_0 ((rd_T60 t241 x27_1).f0).length c245_0, .int .u64 ((rd_T60 t241 x27_1).f1.f0), .bool ((rd_T60 t241 x27_1).f1.f1), .int .i64 ((rd_T60 t241 x27_1).f1.f2.f0), .int .u64 ((rd_T60 t241 x27_1).f1.f2.f1), .int .i64 ((rd_T60 t241 x27_1).f1.f3), .int .i64 ((rd_T60 t241 x27_1).f1.f4)] 60 (0, 0))) := ⟨putB BK246.out NB246_253.out⟩
         have n6_ : Aside0 ((((w21.setCell ⟨gb253, 0, none⟩ (.slice Ao22 t247.length co22)).setCell ⟨gb253, 1, none⟩ (.int .i64 t250)).setCell ⟨gb253, 2, none⟩ (.int .i64 t251)).heap[gb253]? = some (.cells #[.slice Ao22 t247.length co22, .int .i64 t250, .int .i64 t251] 70 (0, 0))) := ⟨putA BK253.out⟩
         have n7_ : Aside0 (Below w.heap.size w (((w21.setCell ⟨gb253, 0, none⟩ (.slice Ao22 t247.length co22)).setCell ⟨gb253, 1, none⟩ (.int .i64 t250)).setCell ⟨gb253, 2, none⟩ (.int .i64 t251))) := ⟨belD HB.out GE240.out GE246.out GE253.out⟩
         (try clear HO_10)
         (try clear HO_25)
         (try clear HL245_0)
         (try clear HO249)
         (try clear BK240)
         (try clear BK246)
         (try clear BK253)
         (try clear HB)
         generalize (((w21.setCell ⟨gb253, 0, none⟩ (.slice Ao22 t247.length co22)).setCell ⟨gb253, 1, none⟩ (.int .i64 t250)).setCell ⟨gb253, 2, none⟩ (.int .i64 t251)) = w26 at n0_ n1_ n2_ n3_ n4_ n5_ n6_ n7_ ⊢
         have HO_10 := n0_
         have HO_25 := n1_
         have HL245_0 := n2_
         have HO249 := n3_
         have BK240 := n4_
         have BK246 := n5_
         have BK253 := n6_
         have HB := n7_
         clear n0_ n1_ n2_ n3_ n4_ n5_ n6_ n7_
         replace HO_10 := Aside0.mk (Kd.R_drew HO_10.out)
         replace HO_25 := Aside0.mk (Kd.R_drew HO_25.out)
         replace HL245_0 := Aside0.mk (Kd.R_drew HL245_0.out)
         replace HO249 := Aside0.mk (Kd.R_drew HO249.out)
         replace BK240 := Aside0.mk (blk_drew BK240.out)
         replace BK246 := Aside0.mk (blk_drew BK246.out)
         replace BK253 := Aside0.mk (blk_drew BK253.out)
         replace HB := Aside0.mk (below_drew1 HB.out)
         have p254 : 0 ≤ (t251 : Int) := of_decide_eq_true asmA
         have q254 : t251 < (l0_0.length : Int) := of_decide_eq_true asmA
         obtain ⟨ad254, e254, hx254_0, hx254_1⟩ := at_T84 HR0_0.out t251 p254 q254
         have hw254_1 := hx254_1
         have hw254_0 := hx254_0
         cases e254
         replace hx254_0 := cbx HB hx254_0
         replace hx254_1 := cbx HB hx254_1
         replace p254 := eq_true p254
         replace q254 := eq_true q254
         refine start_ (n := 18) (S := fun w' => w'.cell? ⟨gb253, 0, none⟩ = some (.slice Ao22 t247.length co22) ∧ w'.cell? ⟨gb253, 1, none⟩ = some (.int .i64 t250) ∧ w'.cell? ⟨gb253, 2, none⟩ = some (.int .i64 t251) ∧ w'.cell? ⟨gb240, 0, none⟩ = some (.slice (some ad254) l0_0.length c0_0) ∧ w'.cell? ⟨gb240, 1, none⟩ = some (.int .i64 a0_1) ∧ w'.cell? ⟨gb246, 0, none⟩ = some (.slice A245_0 ((rd_T60 t241 x27_1).f0).length c245_0) ∧ w'.cell? ⟨gb246, 1, none⟩ = some (.int .u64 ((rd_T60 t241 x27_1).f1.f0)) ∧ w'.cell? ⟨gb246, 2, none⟩ = some (.bool ((rd_T60 t241 x27_1).f1.f1)) ∧ w'.cell? ⟨gb246, 3, none⟩ = some (.int .i64 ((rd_T60 t241 x27_1).f1.f2.f0)) ∧ w'.cell? ⟨gb246, 4, none⟩ = some (.int .u64 ((rd_T60 t241 x27_1).f1.f2.f1)) ∧ w'.cell? ⟨gb246, 5, none⟩ = some (.int .i64 ((rd_T60 t241 x27_1).f1.f3)) ∧ w'.cell? ⟨gb246, 6, none⟩ = some (.int .i64 ((rd_T60 t241 x27_1).f1.f4)) ∧ w'.cell? (ad254.add ((t251).toNat * 2)) = some (.int .i64 ((rd_T84 l0_0 t251).f0)) ∧ w'.cell? ⟨(ad254.add ((t251).toNat * 2)).block, (ad254.add ((t251).toNat * 2)).off + 1, none⟩ = some (.int .i64 ((rd_T84 l0_0 t251).f1))) (ds := []) #[false, false, false, false, false, false, false, false, false, false, false, false, false, false, false, false, false, false] (by kernel_rfl) rfl rfl ⟨(blk_cell BK253.out 0).trans rfl, (blk_cell BK253.out 1).trans rfl, (blk_cell BK253.out 2).trans rfl, (blk_cell BK240.out 0).trans rfl, (blk_cell BK240.out 1).trans rfl, (blk_cell BK246.out 0).trans rfl, (blk_cell BK246.out 1).trans rfl, (blk_cell BK246.out 2).trans rfl, (blk_cell BK246.out 3).trans rfl, (blk_cell BK246.out 4).trans rfl, (blk_cell BK246.out 5).trans rfl, (blk_cell BK246.out 6).trans rfl, ((HB.out.cell (World.block_lt_of_cell? w _ hw254_0)).trans hw254_0), ((HB.out.cell (World.block_lt_of_cell? w _ hw254_1)).trans hw254_1)⟩ (fun hHeld => ?_); refine with_tabW ask_rows.tab9 ask_rows.bits9 (fun HT_ HW_ => ?_)
         generalize w26.drew = w27 at HO_10 HO_25 HL245_0 HO249 BK240 BK246 BK253 HB hx254_0 hx254_1 hHeld ⊢
         refine pureD 0 37 HT_ ?_
         refine pureD 1 38 HT_ ?_
         refine pureD 3 40 HT_ ?_
         refine pureD 5 42 HT_ ?_
         refine pureD 7 44 HT_ ?_
         refine pureD 12 49 HT_ ?_
         refine takeD 2 39 HT_ HW_ hHeld ?_
         refine takeD 4 41 HT_ HW_ hHeld ?_
         refine takeD 6 43 HT_ HW_ hHeld ?_
         refine takeD 8 45 HT_ HW_ hHeld ?_
         refine pureD 9 46 HT_ ?_
         refine pureD 10 47 HT_ ?_
         refine takeD 11 48 HT_ HW_ hHeld ?_
         refine takeD 13 50 HT_ HW_ hHeld ?_
         refine pureD 14 51 HT_ ?_
         refine one_ (i := 15) (N := some 52) #[true, true, true, true, true, true, true, true, true, true, true, true, true, true, true, true, false, false] rfl rfl (one_of HT_.out (by kernel_rfl)) (by decide) (fun K hK => ?_)
         refine value_ (w1 := ?_) (v := ?_) (by rfl) rfl ?_ ?_
         rotate_left 2
         ·go_simp
          constructor
          ·rfl
          ·rfl
         refine hK.out _ _ ⟨(blk_cell (blk_alloc BK253.out _) 0).trans rfl, (blk_cell (blk_alloc BK253.out _) 1).trans rfl, (blk_cell (blk_alloc BK253.out _) 2).trans rfl, (blk_cell (blk_alloc BK240.out _) 0).trans rfl, (blk_cell (blk_alloc BK240.out _) 1).trans rfl, (blk_cell (blk_alloc BK246.out _) 0).trans rfl, (blk_cell (blk_alloc BK246.out _) 1).trans rfl, (blk_cell (blk_alloc BK246.out _) 2).trans rfl, (blk_cell (blk_alloc BK246.out _) 3).trans rfl, (blk_cell (blk_alloc BK246.out _) 4).trans rfl, (blk_cell (blk_alloc BK246.out _) 5).trans rfl, (blk_cell (blk_alloc BK246.out _) 6).trans rfl, (World.cell?_alloc_lt _ _ _ (World.block_lt_of_cell? _ _ (((HB.out.cell (World.block_lt_of_cell? w _ hw254_0)).trans hw254_0)))).trans (((HB.out.cell (World.block_lt_of_cell? w _ hw254_0)).trans hw254_0)), (World.cell?_alloc_lt _ _ _ (World.block_lt_of_cell? _ _ (((HB.out.cell (World.block_lt_of_cell? w _ hw254_1)).trans hw254_1)))).trans (((HB.out.cell (World.block_lt_of_cell? w _ hw254_1)).trans hw254_1))⟩ (fun hHeld => ?_)
         clear hK K
         refine norm_ (a' := ?_) ?_ ?_
         rotate_left
         ·show Act.put _ (some 52) _ = _
          simp only [Act.put, List.setIfInBounds_toArray, List.set_cons_zero, List.set_cons_succ, i64_w, i32_w]
          rfl
         refine one_ (i := 16) (N := some 53) #[true, true, true, true, true, true, true, true, true, true, true, true, true, true, true, true, true, false] rfl rfl (one_of HT_.out (by kernel_rfl)) (by decide) (fun K hK => ?_)
         refine Kd.R_append_step k44 (w0 := w) w.heap.size (by rfl) (.tmp 37) (.tmp 52) 32 44 (.agg #[(.slice none 0 0), (.int .i64 0), (.int .i64 0), (.int .u64 0), (.bool false), (.int .i64 0), (.int .u64 0), (.int .i64 0), (.int .i64 0)]) 88 rfl Try.underlying32 info44 rfl (by decide) (by omega) u10 x10_1 (⟨t247, t250, (rd_T84 l0_0 t251).f0, (⟨(rd_T60 t241 x27_1).f1.f0, (rd_T60 t241 x27_1).f1.f1, (⟨(rd_T60 t241 x27_1).f1.f2.f0, (rd_T60 t241 x27_1).f1.f2.f1⟩ : S40), (rd_T60 t241 x27_1).f1.f3, (rd_T60 t241 x27_1).f1.f4⟩ : S42)⟩ : S44) [.slice Ao22 t247.length co22, .int .i64 t250, .int .i64 ((rd_T84 l0_0 t251).f0), .int .u64 ((rd_T60 t241 x27_1).f1.f0), .bool ((rd_T60 t241 x27_1).f1.f1), .int .i64 ((rd_T60 t241 x27_1).f1.f2.f0), .int .u64 ((rd_T60 t241 x27_1).f1.f2.f1), .int .i64 ((rd_T60 t241 x27_1).f1.f3), .int .i64 ((rd_T60 t241 x27_1).f1.f4)] (fun _ => True) (fun k_ => ((fun _ => True)) k_ ∧ some k_ ≠ (u10 : Value).ownBlock) rfl rfl ?aP (fun _ hk => hk) ?aF ?aO ?aB ?aS ?aL ?_
         (case aP => exact k44_mkM _ _ _ (⟨t247, t250, (rd_T84 l0_0 t251).f0, (⟨(rd_T60 t241 x27_1).f1.f0, (rd_T60 t241 x27_1).f1.f1, (⟨(rd_T60 t241 x27_1).f1.f2.f0, (rd_T60 t241 x27_1).f1.f2.f1⟩ : S40), (rd_T60 t241 x27_1).f1.f3, (rd_T60 t241 x27_1).f1.f4⟩ : S42)⟩ : S44) (Kd.R_mono (Kd.R_apart' (HO249.out) (Kd.R_typed HO_10.out) (by decide)) (fun k_ hk => ⟨trivial, hk.2⟩)))
         (case aB => exact (belD HB.out GE240.out GE246.out GE253.out))
         (case aF => exact (fun _ _ => trivial))
         (case aO => exact (by (with_reducible repeat (first | apply Kd.R_alloc | apply Kd.R_drewN | apply Kd.R_drew)); exact Kd.R_mono HO_10.out (fun _ hk => trivial)))
         (case aS => exact (below_size (belD HB.out GE240.out GE246.out GE253.out)))
         (case aL => have := LMc16.out; omega)
         intro v256 w28 ho hb hg hat
         rw [← Ny255.out] at ho
         have HO257 := Aside0.mk (ho)
         replace HO_25 := Aside0.mk (Kd.R_over' (rowA HO_25.out) (Kd.R_typed (rowA HO_10.out)) (by decide) hg)
         replace BK240 := grB BK240 hg (hne := (Kd.R_ne HO_10.out BK240.out (by decide)))
         replace HL245_0 := Aside0.mk (Kd.R_over' (rowA HL245_0.out) (Kd.R_typed (rowA HO_10.out)) (by decide) hg)
         replace BK246 := grB BK246 hg (hne := (Kd.R_ne HO_10.out BK246.out (by decide)))
         replace BK253 := grB BK253 hg (hne := (Kd.R_ne HO_10.out BK253.out (by decide)))
         replace HB := Aside0.mk (hb)
         clear HO_10 HO249
         clear ho hb hg hat
         refine hK.out _ _ ⟨(blk_cell BK253.out 0).trans rfl, (blk_cell BK253.out 1).trans rfl, (blk_cell BK253.out 2).trans rfl, (blk_cell BK240.out 0).trans rfl, (blk_cell BK240.out 1).trans rfl, (blk_cell BK246.out 0).trans rfl, (blk_cell BK246.out 1).trans rfl, (blk_cell BK246.out 2).trans rfl, (blk_cell BK246.out 3).trans rfl, (blk_cell BK246.out 4).trans rfl, (blk_cell BK246.out 5).trans rfl, (blk_cell BK246.out 6).trans rfl, ((HB.out.cell (World.block_lt_of_cell? w _ hw254_0)).trans hw254_0), ((HB.out.cell (World.block_lt_of_cell? w _ hw254_1)).trans hw254_1)⟩ (fun hHeld => ?_)
         clear hK K
         refine norm_ (a' := ?_) ?_ ?_
         rotate_left
         ·show Act.put _ (some 53) _ = _
          simp only [Act.put, List.setIfInBounds_toArray, List.set_cons_zero, List.set_cons_succ, i64_w, i32_w]
          rfl
         refine pureD 17 10 HT_ ?_
         refine done_ (done_of HT_.out (by kernel_rfl)) ?_
         try go_wp2
         go_roundg k1
         case measure => have := HK1.out; omega
         case rel => exact ⟨(y255), (wrap64 (x27_1 + 1)), relA, H', ⟨by have := HK1.out; omega⟩, ⟨rowA HO257.out⟩, ⟨by (with_reducible repeat (first | apply Kd.R_alloc | apply Kd.R_drewN | apply Kd.R_drew)); exact Kd.R_mono HO_25.out (fun _ hk => trivial)⟩, ⟨blkA BK240.out⟩, ⟨belD HB.out GE240.out GE246.out GE253.out⟩⟩
        ·rw [if_neg c16] at H
         exact absurd H (by simp)
       ·rw [if_neg c15] at H
        exact absurd H (by simp)
      ·rw [if_neg c14] at H
       exact absurd H (by simp)
     ·rw [if_neg c12] at H
      exact absurd H (by simp)
    ·rw [if_neg c11] at H
     exact absurd H (by simp)
   ·rw [if_neg c10] at H
    have c10b0 := decide_eq_false c10
    clear c10
    simp only [Option.some.injEq, Prod.mk.injEq] at H
    obtain ⟨rfl, rfl⟩ := H
    go_wp2
    go_ret2
    exact ⟨_, ret1, rowA HO_10.out, belB HB.out GE240.out⟩
end Go.Proofs.Ytdopbhbbpgfliaa.PAsk
end
