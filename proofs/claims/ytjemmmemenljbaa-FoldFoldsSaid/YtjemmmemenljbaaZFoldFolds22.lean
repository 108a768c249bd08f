import Derived.Test.YtjemmmemenljbaaZFoldFolds21
section
namespace Go.Proofs.Ytjemmmemenljbaa.PFold
open Go.RowKit Go.Proofs.YtjemmmemenljbaaW.PrintWords Go.Proofs.YtjemmmemenljbaaW.PrintLast Go.Proofs.YtjemmmemenljbaaW.PrintMore
attribute [local go_sem] max2_int min2_int max_two min_two max_three min_three max_four min_four   -- for this text's walks alone
set_option linter.unusedVariables false
set_option linter.unusedSimpArgs false
set_option maxHeartbeats 8000000
set_option maxRecDepth 100000
def rickyardlaw15_FoldFolds.f (k : Nat) (l0_0 : List (S67)) (a0_1 : Int) (a1 : Int) (l2 : List (S51)) : Option (Bool) := (rickyardlaw15_Great.f k l2).bind fun t582 => (if t582 = true then ((rickyardlaw15_alive.f k).bind fun t583 => (some t583)) else ((fold_Fold.f k l0_0 a0_1 a1 l2).bind fun bt584 => ((rickyardref15_Fold.f k l0_0 a0_1 a1 l2).bind fun bt588 => ((fold_Stale.f k l0_0 a0_1 a1 l2).bind fun bt592 => ((rickyardref15_Stale.f k l0_0 a0_1 a1 l2).bind fun bt594 => ((rickyardlaw15_alive.f k).bind fun t596 => (if t596 = true then ((fold_Fits.f k l0_0 a0_1 l2).bind fun t597 => ((rickyardref15_Fits.f k l0_0 a0_1 l2).bind fun t598 => (if (t597 == t598) = true then ((rickyardref08_Same.f k bt584.1 bt588.1).bind fun t599 => (if t599 = true then (if bt584.2 = bt588.2 then (if (bt592.1 == bt594.1) = true then (some (bt592.2 == bt594.2)) else (some false)) else (some false)) else (some false))) else (some false)))) else (some false))))))))
def rickyardlaw15_FoldFolds.T7 : Bool × List (List Nat × List Nat) := (true, [([], []), ([0, 0], [0]), ([1], [1]), ([1], [1]), ([2, 3, 1, 1], [1, 2, 3]), ([1], [1]), ([1], [1]), ([5, 6, 4, 1], [1, 5, 6]), ([4, 7, 1], [1, 4, 7]), ([1, 8], [1, 8]), ([9, 7], [9]), ([10], [10]), ([10], [10]), ([11, 12, 10, 10], [10, 11, 12]), ([10, 13], [10, 13]), ([14, 13], [14]), ([15], [15]), ([15], [15]), ([16, 17, 15], [15, 16, 17]), ([15, 18], [15, 18]), ([19, 15], [19]), ([20], [20]), ([20], [20]), ([21, 22, 20], [20, 21, 22]), ([20, 23], [20, 23]), ([24, 20], [24]), ([25], [25]), ([25], [25]), ([26, 27, 25], [25, 26, 27]), ([25, 28], [25, 28]), ([29, 25, 0, 1, 2, 3, 4, 5, 6, 7, 8, 9, 10, 11, 12, 13, 14, 15, 16, 17, 18, 19, 20, 21, 22, 23, 24, 25, 26, 27, 28, 29], [29])])
def rickyardlaw15_FoldFolds.B7 : List Nat := [0, 1, 3, 3, 15, 3, 3, 127, 255, 511, 1023, 2047, 2047, 8191, 16383, 32767, 65535, 65535, 262143, 524287, 1048575, 2097151, 2097151, 8388607, 16777215, 33554431, 67108863, 67108863, 268435455, 536870911, 1073741823]
theorem rickyardlaw15_FoldFolds.tab7 : rtab .any (opsOf Try.f6 7) = rickyardlaw15_FoldFolds.T7 := by kernel_rfl
theorem rickyardlaw15_FoldFolds.bits7 : waitsOk rickyardlaw15_FoldFolds.T7.2 rickyardlaw15_FoldFolds.B7 = true := by kernel_rfl
theorem rickyardlaw15_FoldFolds.calls (k : Nat) (A0_0 : Option Addr) (c0_0 : Nat) (l0_0 : List (S67)) (a0_1 : Int) (a1 : Int) (A2 : Option Addr) (c2 : Nat) (l2 : List (S51)) (r : Bool) (w : World) (hr0_0 : Kd.C k67 w A0_0 l0_0.length l0_0) (hc0_0 : l0_0.length ≤ c0_0) (hr2 : Kd.C k51 w A2 l2.length l2) (hc2 : l2.length ≤ c2) (h : rickyardlaw15_FoldFolds.f k l0_0 a0_1 a1 l2 = some r) :
  Calls Try.prog 6 #[.agg #[.slice A0_0 l0_0.length c0_0, .int .i64 a0_1], .int .i64 a1, .slice A2 l2.length c2] w fun e w' => e = .returned (.bool r) ∧ Below w.heap.size w w' := by
 have hu24 := Try.underlying24
 have HR0_0 := Aside0.mk hr0_0
 have HC0_0 := Aside0.mk hc0_0
 clear hr0_0 hc0_0
 have HR2 := Aside0.mk hr2
 have HC2 := Aside0.mk hc2
 clear hr2 hc2
 have HB := Aside0.mk (Below.refl w.heap.size w)
 have H : ((rickyardlaw15_Great.f k l2).bind fun t582 => (if t582 = true then ((rickyardlaw15_alive.f k).bind fun t583 => (some t583)) else ((fold_Fold.f k l0_0 a0_1 a1 l2).bind fun bt584 => ((rickyardref15_Fold.f k l0_0 a0_1 a1 l2).bind fun bt588 => ((fold_Stale.f k l0_0 a0_1 a1 l2).bind fun bt592 => ((rickyardref15_Stale.f k l0_0 a0_1 a1 l2).bind fun bt594 => ((rickyardlaw15_alive.f k).bind fun t596 => (if t596 = true then ((fold_Fits.f k l0_0 a0_1 l2).bind fun t597 => ((rickyardref15_Fits.f k l0_0 a0_1 l2).bind fun t598 => (if (t597 == t598) = true then ((rickyardref08_Same.f k bt584.1 bt588.1).bind fun t599 => (if t599 = true then (if bt584.2 = bt588.2 then (if (bt592.1 == bt594.1) = true then (some (bt592.2 == bt594.2)) else (some false)) else (some false)) else (some false))) else (some false)))) else (some false))))))))) = some r := h
 clear h
 replace H := bnA H
 obtain ⟨t582, A4, H⟩ := H
 by_cases c5 : t582 = true
 ·subst c5
  have H1 : ((rickyardlaw15_alive.f k).bind fun t583 => (some t583)) = some r := by rw [if_pos rfl] at H; exact H
  clear H
  have H := H1
  clear H1
  replace H := bnA H
  obtain ⟨t583, A6, H⟩ := H
  obtain rfl := Option.some.inj H
  go_enter Try.func6, Try.ntmps6
  go_wp2_with (first | ((with_reducible refine gate_dst (N := 3) rfl ?_); refine boxA 3 #[.slice A0_0 l0_0.length c0_0, .int .i64 a0_1] 24 ?_; intro gb581 hg w7 hbox hb; have BK581 := Aside0.mk (hbox); have GE581 := ge1 hg (belA HB.out); replace HB := bst HB hb; clear hb hbox hg) | ((with_reducible refine gate_callee (f := 15) rfl ?_); refine goesL_ (some 16) rfl rfl Try.func15 (by kernel_rfl) rfl #[.slice A2 l2.length c2] rfl argA ?_; (with_reducible refine (rickyardlaw15_Great.calls k _ _ l2 true _ ?side1 ?side2 A4.out).mono ?_); (case side1 => exact cb1 HR2 HB); (case side2 => exact HC2.out); rintro e w' ⟨rfl, ⟨nd, rfl⟩⟩; refine ⟨_, rfl, ?_⟩) | ((with_reducible refine gate_callee (f := 11) rfl ?_); refine goesL_ (some 17) rfl rfl Try.func11 (by kernel_rfl) rfl #[] rfl argA ?_; (with_reducible refine (rickyardlaw15_alive.calls k  t583 _ A6.out).mono ?_); rintro e w8 ⟨rfl, hb⟩; refine ⟨_, rfl, ?_⟩; replace BK581 := blkB BK581 hb; replace HB := bs2 HB GE581 hb; (try clear hb)))
  go_ret
  exact ⟨ret1, belB HB.out GE581.out⟩
 replace c5 := Bool.eq_false_iff.mpr c5
 subst c5
 have H1 : ((fold_Fold.f k l0_0 a0_1 a1 l2).bind fun bt584 => ((rickyardref15_Fold.f k l0_0 a0_1 a1 l2).bind fun bt588 => ((fold_Stale.f k l0_0 a0_1 a1 l2).bind fun bt592 => ((rickyardref15_Stale.f k l0_0 a0_1 a1 l2).bind fun bt594 => ((rickyardlaw15_alive.f k).bind fun t596 => (if t596 = true then ((fold_Fits.f k l0_0 a0_1 l2).bind fun t597 => ((rickyardref15_Fits.f k l0_0 a0_1 l2).bind fun t598 => (if (t597 == t598) = true then ((rickyardref08_Same.f k bt584.1 bt588.1).bind fun t599 => (if t599 = true then (if bt584.2 = bt588.2 then (if (bt592.1 == bt594.1) = true then (some (bt592.2 == bt594.2)) else (some false)) else (some false)) else (some false))) else (some false)))) else (some false))))))) = some r := by rw [if_neg (show ¬ (false = true) by decide)] at H; exact H
 clear H
 have H := H1
 clear H1
 replace H := bnA H
 obtain ⟨⟨t584, t587⟩, A9, H⟩ := H
 replace H : ((rickyardref15_Fold.f k l0_0 a0_1 a1 l2).bind fun bt588 => ((fold_Stale.f k l0_0 a0_1 a1 l2).bind fun bt592 => ((rickyardref15_Stale.f k l0_0 a0_1 a1 l2).bind fun bt594 => ((rickyardlaw15_alive.f k).bind fun t596 => (if t596 = true then ((fold_Fits.f k l0_0 a0_1 l2).bind fun t597 => ((rickyardref15_Fits.f k l0_0 a0_1 l2).bind fun t598 => (if (t597 == t598) = true then ((rickyardref08_Same.f k t584 bt588.1).bind fun t599 => (if t599 = true then (if t587 = bt588.2 then (if (bt592.1 == bt594.1) = true then (some (bt592.2 == bt594.2)) else (some false)) else (some false)) else (some false))) else (some false)))) else (some false)))))) = some r := H
 replace H := bnA H
 obtain ⟨⟨t588, t591⟩, A10, H⟩ := H
 replace H : ((fold_Stale.f k l0_0 a0_1 a1 l2).bind fun bt592 => ((rickyardref15_Stale.f k l0_0 a0_1 a1 l2).bind fun bt594 => ((rickyardlaw15_alive.f k).bind fun t596 => (if t596 = true then ((fold_Fits.f k l0_0 a0_1 l2).bind fun t597 => ((rickyardref15_Fits.f k l0_0 a0_1 l2).bind fun t598 => (if (t597 == t598) = true then ((rickyardref08_Same.f k t584 t588).bind fun t599 => (if t599 = true then (if t587 = t591 then (if (bt592.1 == bt594.1) = true then (some (bt592.2 == bt594.2)) else (some false)) else (some false)) else (some false))) else (some false)))) else (some false))))) = some r := H
 replace H := bnA H
 obtain ⟨⟨t592, t593⟩, A11, H⟩ := H
 replace H : ((rickyardref15_Stale.f k l0_0 a0_1 a1 l2).bind fun bt594 => ((rickyardlaw15_alive.f k).bind fun t596 => (if t596 = true then ((fold_Fits.f k l0_0 a0_1 l2).bind fun t597 => ((rickyardref15_Fits.f k l0_0 a0_1 l2).bind fun t598 => (if (t597 == t598) = true then ((rickyardref08_Same.f k t584 t588).bind fun t599 => (if t599 = true then (if t587 = t591 then (if (t592 == bt594.1) = true then (some (t593 == bt594.2)) else (some false)) else (some false)) else (some false))) else (some false)))) else (some false)))) = some r := H
 replace H := bnA H
 obtain ⟨⟨t594, t595⟩, A12, H⟩ := H
 replace H : ((rickyardlaw15_alive.f k).bind fun t596 => (if t596 = true then ((fold_Fits.f k l0_0 a0_1 l2).bind fun t597 => ((rickyardref15_Fits.f k l0_0 a0_1 l2).bind fun t598 => (if (t597 == t598) = true then ((rickyardref08_Same.f k t584 t588).bind fun t599 => (if t599 = true then (if t587 = t591 then (if (t592 == t594) = true then (some (t593 == t595)) else (some false)) else (some false)) else (some false))) else (some false)))) else (some false))) = some r := H
 replace H := bnA H
 obtain ⟨t596, A13, H⟩ := H
 by_cases c14 : t596 = true
 rotate_left
 ·replace c14 := Bool.eq_false_iff.mpr c14
  subst c14
  have H1 : (some false) = some r := by rw [if_neg (show ¬ (false = true) by decide)] at H; exact H
  clear H
  have H := H1
  clear H1
  obtain rfl := Option.some.inj H
  go_enter Try.func6, Try.ntmps6
  try go_wp2_with (first | ((with_reducible refine gate_dst (N := 3) rfl ?_); refine boxA 3 #[.slice A0_0 l0_0.length c0_0, .int .i64 a0_1] 24 ?_; intro gb581 hg w95 hbox hb; have BK581 := Aside0.mk (hbox); have GE581 := ge1 hg (belA HB.out); replace HB := bst HB hb; clear hb hbox hg) | ((with_reducible refine gate_callee (f := 15) rfl ?_); refine goesL_ (some 16) rfl rfl Try.func15 (by kernel_rfl) rfl #[.slice A2 l2.length c2] rfl argA ?_; (with_reducible refine (rickyardlaw15_Great.calls k _ _ l2 false _ ?side1 ?side2 A4.out).mono ?_); (case side1 => exact cb1 HR2 HB); (case side2 => exact HC2.out); rintro e w' ⟨rfl, ⟨nd, rfl⟩⟩; refine ⟨_, rfl, ?_⟩; obtain ⟨hcz96_0, hcz96_1, hfz96_0, hfz96_1⟩ := blk2 BK581) | ((with_reducible refine gate_callee (f := 16) rfl ?_); refine goesL_ (some 22) rfl rfl Try.func16 (by kernel_rfl) rfl #[.agg #[.slice A0_0 l0_0.length c0_0, .int .i64 a0_1], .int .i64 a1, .slice A2 l2.length c2] rfl argA ?_; (with_reducible refine (fold_Fold.calls k _ _ l0_0 a0_1 a1 _ _ l2 t584 t587 _ ?side1 ?side2 ?side3 ?side4 A9.out).mono ?_); (case side1 => repeat (first | exact (Kd.C_below HR0_0.out (belB HB.out GE581.out)) | (with_reducible refine Kd.C_alloc ?_ _) | (with_reducible refine Kd.C_drewN ?_ _) | (with_reducible refine Kd.C_drew ?_))); (case side2 => exact HC0_0.out); (case side3 => repeat (first | exact (Kd.C_below HR2.out (belB HB.out GE581.out)) | (with_reducible refine Kd.C_alloc ?_ _) | (with_reducible refine Kd.C_drewN ?_ _) | (with_reducible refine Kd.C_drew ?_))); (case side4 => exact HC2.out); rintro e w97 ⟨v585, rfl, ho0, hb⟩; refine ⟨_, rfl, ?_⟩; have HO586 := Aside0.mk (Kd.N_lower (Kd.N_mono (ok' := fun k_ => k_ ≠ gb581) (Kd.R_N (Kd.R_bound ho0)) (fun k_ hk_ => (frB BK581 k_ hk_.2.1))) (below_size (belB HB.out GE581.out))); replace BK581 := blkB BK581 hb; replace HB := bs2 HB GE581 hb; (try clear hb); (try clear ho0); obtain ⟨hcz98_0, hcz98_1, hfz98_0, hfz98_1⟩ := blk2 BK581) | ((with_reducible refine gate_callee (f := 20) rfl ?_); refine goesL_ (some 29) rfl rfl Try.func20 (by kernel_rfl) rfl #[.agg #[.slice A0_0 l0_0.length c0_0, .int .i64 a0_1], .int .i64 a1, .slice A2 l2.length c2] rfl argA ?_; (with_reducible refine (rickyardref15_Fold.calls k _ _ l0_0 a0_1 a1 _ _ l2 t588 t591 _ ?side1 ?side2 ?side3 ?side4 A10.out).mono ?_); (case side1 => exact cb1 HR0_0 HB); (case side2 => exact HC0_0.out); (case side3 => exact cb1 HR2 HB); (case side4 => exact HC2.out); rintro e w99 ⟨v589, rfl, ho0, hb⟩; refine ⟨_, rfl, ?_⟩; have HO590 := Aside0.mk (Kd.N_lower (Kd.N_mono (ok' := fun k_ => some k_ ≠ (v585 : Value).ownBlock ∧ k_ ≠ gb581) ho0 (fun k_ hk_ => ⟨(Kd.fresh' (Kd.N_lt (nilA HO586.out)) k_ hk_), (frB BK581 k_ hk_)⟩)) (below_size (belB HB.out GE581.out))); replace HO586 := Aside0.mk (Kd.N_elder' (nilA HO586.out) (Kd.N_base ho0) hb); replace BK581 := blkB BK581 hb; replace HB := bs2 HB GE581 hb; (try clear hb); (try clear ho0); obtain ⟨hcz100_0, hcz100_1, hfz100_0, hfz100_1⟩ := blk2 BK581) | ((with_reducible refine gate_callee (f := 21) rfl ?_); refine goesL_ (some 36) rfl rfl Try.func21 (by kernel_rfl) rfl #[.agg #[.slice A0_0 l0_0.length c0_0, .int .i64 a0_1], .int .i64 a1, .slice A2 l2.length c2] rfl argA ?_; (with_reducible refine (fold_Stale.calls k _ _ l0_0 a0_1 a1 _ _ l2 t592 t593 _ ?side1 ?side2 ?side3 ?side4 A11.out).mono ?_); (case side1 => exact cb1 HR0_0 HB); (case side2 => exact HC0_0.out); (case side3 => exact cb1 HR2 HB); (case side4 => exact HC2.out); rintro e w101 ⟨rfl, hb⟩; refine ⟨_, rfl, ?_⟩; replace HO586 := Aside0.mk (Kd.N_below (nilA HO586.out) hb); replace HO590 := Aside0.mk (Kd.N_below (nilA HO590.out) hb); replace BK581 := blkB BK581 hb; replace HB := bs2 HB GE581 hb; (try clear hb); obtain ⟨hcz102_0, hcz102_1, hfz102_0, hfz102_1⟩ := blk2 BK581) | ((with_reducible refine gate_callee (f := 22) rfl ?_); refine goesL_ (some 43) rfl rfl Try.func22 (by kernel_rfl) rfl #[.agg #[.slice A0_0 l0_0.length c0_0, .int .i64 a0_1], .int .i64 a1, .slice A2 l2.length c2] rfl argA ?_; (with_reducible refine (rickyardref15_Stale.calls k _ _ l0_0 a0_1 a1 _ _ l2 t594 t595 _ ?side1 ?side2 ?side3 ?side4 A12.out).mono ?_); (case side1 => exact cb1 HR0_0 HB); (case side2 => exact HC0_0.out); (case side3 => exact cb1 HR2 HB); (case side4 => exact HC2.out); rintro e w103 ⟨rfl, hb⟩; refine ⟨_, rfl, ?_⟩; replace HO586 := Aside0.mk (Kd.N_below (nilA HO586.out) hb); replace HO590 := Aside0.mk (Kd.N_below (nilA HO590.out) hb); replace BK581 := blkB BK581 hb; replace HB := bs2 HB GE581 hb; (try clear hb)))
  replace HO586 := Aside0.mk (Kd.N_drew HO586.out)
  replace HO590 := Aside0.mk (Kd.N_drew HO590.out)
  replace BK581 := Aside0.mk (blk_drew BK581.out)
  replace HB := Aside0.mk (below_drew1 HB.out)
  refine start_ (n := 31) (S := fun w' => True) (ds := []) #[false, false, false, false, false, false, false, false, false, false, false, false, false, false, false, false, false, false, false, false, false, false, false, false, false, false, false, false, false, false, false] (by kernel_rfl) rfl rfl trivial (fun hHeld => ?_); refine with_tabW rickyardlaw15_FoldFolds.tab7 rickyardlaw15_FoldFolds.bits7 (fun HT_ HW_ => ?_)
  generalize w103.drew = w104 at HO586 HO590 BK581 HB hHeld ⊢
  refine one_ (i := 0) (N := some 46) #[true, false, false, false, false, false, false, false, false, false, false, false, false, false, false, false, false, false, false, false, false, false, false, false, false, false, false, false, false, false, false] rfl rfl (one_of HT_.out (by kernel_rfl)) (by decide) (fun K hK => ?_)
  refine goes_ Try.func11 (by kernel_rfl) rfl #[] (by rfl) rfl rfl argA ?_
  with_reducible refine (rickyardlaw15_alive.calls k  false _ A13.out).mono ?_
  rintro e w105 ⟨rfl, hb⟩
  refine ⟨_, rfl, ?_⟩
  replace HO586 := Aside0.mk (Kd.N_below (nilA HO586.out) hb)
  replace HO590 := Aside0.mk (Kd.N_below (nilA HO590.out) hb)
  replace BK581 := blkB BK581 hb
  replace HB := bs2 HB GE581 hb
  (try clear hb)
  refine hK.out _ _ trivial (fun hHeld => ?_)
  clear hK K
  refine norm_ (a' := ?_) ?_ ?_
  rotate_left
  ·show Act.put _ (some 46) _ = _
   simp only [Act.put, List.setIfInBounds_toArray, List.set_cons_zero, List.set_cons_succ, i64_w, i32_w]
   rfl
  refine pureD 1 47 HT_ ?_
  refine pureU 2 48 HT_ ?_
  refine pureU 3 49 HT_ ?_
  refine pureU 4 50 HT_ ?_
  refine pureU 5 51 HT_ ?_
  refine pureU 6 52 HT_ ?_
  refine pureU 7 53 HT_ ?_
  refine pureU 8 54 HT_ ?_
  refine pureD 9 55 HT_ ?_
  refine pureD 10 56 HT_ ?_
  refine pureU 11 57 HT_ ?_
  refine pureU 12 58 HT_ ?_
  refine pureU 13 59 HT_ ?_
  refine pureD 14 60 HT_ ?_
  refine pureD 15 61 HT_ ?_
  refine pureU 16 62 HT_ ?_
  refine pureU 17 63 HT_ ?_
  refine pureU 18 64 HT_ ?_
  refine pureD 19 65 HT_ ?_
  refine pureD 20 66 HT_ ?_
  refine pureU 21 67 HT_ ?_
  refine pureU 22 68 HT_ ?_
  refine pureU 23 69 HT_ ?_
  refine pureD 24 70 HT_ ?_
  refine pureD 25 71 HT_ ?_
  refine pureU 26 72 HT_ ?_
  refine pureU 27 73 HT_ ?_
  refine pureU 28 74 HT_ ?_
  refine pureD 29 75 HT_ ?_
  refine pureD 30 6 HT_ ?_
  refine done_ (done_of HT_.out (by kernel_rfl)) ?_
  try go_wp2
  go_ret
  exact ⟨ret1, belB HB.out GE581.out⟩
 subst c14
 have H1 : ((fold_Fits.f k l0_0 a0_1 l2).bind fun t597 => ((rickyardref15_Fits.f k l0_0 a0_1 l2).bind fun t598 => (if (t597 == t598) = true then ((rickyardref08_Same.f k t584 t588).bind fun t599 => (if t599 = true then (if t587 = t591 then (if (t592 == t594) = true then (some (t593 == t595)) else (some false)) else (some false)) else (some false))) else (some false)))) = some r := by rw [if_pos rfl] at H; exact H
 clear H
 have H := H1
 clear H1
 replace H := bnA H
 obtain ⟨t597, A15, H⟩ := H
 replace H := bnA H
 obtain ⟨t598, A16, H⟩ := H
 by_cases c17 : (t597 == t598) = true
 rotate_left
 ·rw [if_neg c17] at H
  have c17b0 : (t597 == t598) = false := by simpa using c17
  (try (have c17b1 : decide (t597 = t598) = false := by simpa using c17))
  (try (have c17b2 : (t597 == t598) = false := by simpa using c17))
  (try (have c17b3 : ¬ (t597 = t598) := by simpa using c17))
  clear c17
  obtain rfl := Option.some.inj H
  go_enter Try.func6, Try.ntmps6
  try go_wp2_with (first | ((with_reducible refine gate_dst (N := 3) rfl ?_); refine boxA 3 #[.slice A0_0 l0_0.length c0_0, .int .i64 a0_1] 24 ?_; intro gb581 hg w82 hbox hb; have BK581 := Aside0.mk (hbox); have GE581 := ge1 hg (belA HB.out); replace HB := bst HB hb; clear hb hbox hg) | ((with_reducible refine gate_callee (f := 15) rfl ?_); refine goesL_ (some 16) rfl rfl Try.func15 (by kernel_rfl) rfl #[.slice A2 l2.length c2] rfl argA ?_; (with_reducible refine (rickyardlaw15_Great.calls k _ _ l2 false _ ?side1 ?side2 A4.out).mono ?_); (case side1 => exact cb1 HR2 HB); (case side2 => exact HC2.out); rintro e w' ⟨rfl, ⟨nd, rfl⟩⟩; refine ⟨_, rfl, ?_⟩; obtain ⟨hcz83_0, hcz83_1, hfz83_0, hfz83_1⟩ := blk2 BK581) | ((with_reducible refine gate_callee (f := 16) rfl ?_); refine goesL_ (some 22) rfl rfl Try.func16 (by kernel_rfl) rfl #[.agg #[.slice A0_0 l0_0.length c0_0, .int .i64 a0_1], .int .i64 a1, .slice A2 l2.length c2] rfl argA ?_; (with_reducible refine (fold_Fold.calls k _ _ l0_0 a0_1 a1 _ _ l2 t584 t587 _ ?side1 ?side2 ?side3 ?side4 A9.out).mono ?_); (case side1 => repeat (first | exact (Kd.C_below HR0_0.out (belB HB.out GE581.out)) | (with_reducible refine Kd.C_alloc ?_ _) | (with_reducible refine Kd.C_drewN ?_ _) | (with_reducible refine Kd.C_drew ?_))); (case side2 => exact HC0_0.out); (case side3 => repeat (first | exact (Kd.C_below HR2.out (belB HB.out GE581.out)) | (with_reducible refine Kd.C_alloc ?_ _) | (with_reducible refine Kd.C_drewN ?_ _) | (with_reducible refine Kd.C_drew ?_))); (case side4 => exact HC2.out); rintro e w84 ⟨v585, rfl, ho0, hb⟩; refine ⟨_, rfl, ?_⟩; have HO586 := Aside0.mk (Kd.N_lower (Kd.N_mono (ok' := fun k_ => k_ ≠ gb581) (Kd.R_N (Kd.R_bound ho0)) (fun k_ hk_ => (frB BK581 k_ hk_.2.1))) (below_size (belB HB.out GE581.out))); replace BK581 := blkB BK581 hb; replace HB := bs2 HB GE581 hb; (try clear hb); (try clear ho0); obtain ⟨hcz85_0, hcz85_1, hfz85_0, hfz85_1⟩ := blk2 BK581) | ((with_reducible refine gate_callee (f := 20) rfl ?_); refine goesL_ (some 29) rfl rfl Try.func20 (by kernel_rfl) rfl #[.agg #[.slice A0_0 l0_0.length c0_0, .int .i64 a0_1], .int .i64 a1, .slice A2 l2.length c2] rfl argA ?_; (with_reducible refine (rickyardref15_Fold.calls k _ _ l0_0 a0_1 a1 _ _ l2 t588 t591 _ ?side1 ?side2 ?side3 ?side4 A10.out).mono ?_); (case side1 => exact cb1 HR0_0 HB); (case side2 => exact HC0_0.out); (case side3 => exact cb1 HR2 HB); (case side4 => exact HC2.out); rintro e w86 ⟨v589, rfl, ho0, hb⟩; refine ⟨_, rfl, ?_⟩; have HO590 := Aside0.mk (Kd.N_lower (Kd.N_mono (ok' := fun k_ => some k_ ≠ (v585 : Value).ownBlock ∧ k_ ≠ gb581) ho0 (fun k_ hk_ => ⟨(Kd.fresh' (Kd.N_lt (nilA HO586.out)) k_ hk_), (frB BK581 k_ hk_)⟩)) (below_size (belB HB.out GE581.out))); replace HO586 := Aside0.mk (Kd.N_elder' (nilA HO586.out) (Kd.N_base ho0) hb); replace BK581 := blkB BK581 hb; replace HB := bs2 HB GE581 hb; (try clear hb); (try clear ho0); obtain ⟨hcz87_0, hcz87_1, hfz87_0, hfz87_1⟩ := blk2 BK581) | ((with_reducible refine gate_callee (f := 21) rfl ?_); refine goesL_ (some 36) rfl rfl Try.func21 (by kernel_rfl) rfl #[.agg #[.slice A0_0 l0_0.length c0_0, .int .i64 a0_1], .int .i64 a1, .slice A2 l2.length c2] rfl argA ?_; (with_reducible refine (fold_Stale.calls k _ _ l0_0 a0_1 a1 _ _ l2 t592 t593 _ ?side1 ?side2 ?side3 ?side4 A11.out).mono ?_); (case side1 => exact cb1 HR0_0 HB); (case side2 => exact HC0_0.out); (case side3 => exact cb1 HR2 HB); (case side4 => exact HC2.out); rintro e w88 ⟨rfl, hb⟩; refine ⟨_, rfl, ?_⟩; replace HO586 := Aside0.mk (Kd.N_below (nilA HO586.out) hb); replace HO590 := Aside0.mk (Kd.N_below (nilA HO590.out) hb); replace BK581 := blkB BK581 hb; replace HB := bs2 HB GE581 hb; (try clear hb); obtain ⟨hcz89_0, hcz89_1, hfz89_0, hfz89_1⟩ := blk2 BK581) | ((with_reducible refine gate_callee (f := 22) rfl ?_); refine goesL_ (some 43) rfl rfl Try.func22 (by kernel_rfl) rfl #[.agg #[.slice A0_0 l0_0.length c0_0, .int .i64 a0_1], .int .i64 a1, .slice A2 l2.length c2] rfl argA ?_; (with_reducible refine (rickyardref15_Stale.calls k _ _ l0_0 a0_1 a1 _ _ l2 t594 t595 _ ?side1 ?side2 ?side3 ?side4 A12.out).mono ?_); (case side1 => exact cb1 HR0_0 HB); (case side2 => exact HC0_0.out); (case side3 => exact cb1 HR2 HB); (case side4 => exact HC2.out); rintro e w90 ⟨rfl, hb⟩; refine ⟨_, rfl, ?_⟩; replace HO586 := Aside0.mk (Kd.N_below (nilA HO586.out) hb); replace HO590 := Aside0.mk (Kd.N_below (nilA HO590.out) hb); replace BK581 := blkB BK581 hb; replace HB := bs2 HB GE581 hb; (try clear hb)))
  replace HO586 := Aside0.mk (Kd.N_drew HO586.out)
  replace HO590 := Aside0.mk (Kd.N_drew HO590.out)
  replace BK581 := Aside0.mk (blk_drew BK581.out)
  replace HB := Aside0.mk (below_drew1 HB.out)
  refine start_ (n := 31) (S := fun w' => w'.cell? ⟨gb581, 0, none⟩ = some (.slice A0_0 l0_0.length c0_0) ∧ w'.cell? ⟨gb581, 1, none⟩ = some (.int .i64 a0_1)) (ds := []) #[false, false, false, false, false, false, false, false, false, false, false, false, false, false, false, false, false, false, false, false, false, false, false, false, false, false, false, false, false, false, false] (by kernel_rfl) rfl rfl ⟨(blk_cell BK581.out 0).trans rfl, (blk_cell BK581.out 1).trans rfl⟩ (fun hHeld => ?_); refine with_tabW rickyardlaw15_FoldFolds.tab7 rickyardlaw15_FoldFolds.bits7 (fun HT_ HW_ => ?_)
  generalize w90.drew = w91 at HO586 HO590 BK581 HB hHeld ⊢
  refine one_ (i := 0) (N := some 46) #[true, false, false, false, false, false, false, false, false, false, false, false, false, false, false, false, false, false, false, false, false, false, false, false, false, false, false, false, false, false, false] rfl rfl (one_of HT_.out (by kernel_rfl)) (by decide) (fun K hK => ?_)
  refine goes_ Try.func11 (by kernel_rfl) rfl #[] (by rfl) rfl rfl argA ?_
  with_reducible refine (rickyardlaw15_alive.calls k  true _ A13.out).mono ?_
  rintro e w92 ⟨rfl, hb⟩
  refine ⟨_, rfl, ?_⟩
  replace HO586 := Aside0.mk (Kd.N_below (nilA HO586.out) hb)
  replace HO590 := Aside0.mk (Kd.N_below (nilA HO590.out) hb)
  replace BK581 := blkB BK581 hb
  replace HB := bs2 HB GE581 hb
  (try clear hb)
  refine hK.out _ _ ⟨(blk_cell BK581.out 0).trans rfl, (blk_cell BK581.out 1).trans rfl⟩ (fun hHeld => ?_)
  clear hK K
  refine norm_ (a' := ?_) ?_ ?_
  rotate_left
  ·show Act.put _ (some 46) _ = _
   simp only [Act.put, List.setIfInBounds_toArray, List.set_cons_zero, List.set_cons_succ, i64_w, i32_w]
   rfl
  refine pureD 1 47 HT_ ?_
  refine pureD 3 49 HT_ ?_
  refine pureD 6 52 HT_ ?_
  refine takeD 2 48 HT_ HW_ hHeld ?_
  refine takeD 5 51 HT_ HW_ hHeld ?_
  refine one_ (i := 4) (N := some 50) #[true, true, true, true, true, true, true, false, false, false, false, false, false, false, false, false, false, false, false, false, false, false, false, false, false, false, false, false, false, false, false] rfl rfl (one_of HT_.out (by kernel_rfl)) (by decide) (fun K hK => ?_)
  refine goes_ Try.func23 (by kernel_rfl) rfl #[.agg #[.slice A0_0 l0_0.length c0_0, .int .i64 a0_1], .slice A2 l2.length c2] (by rfl) rfl rfl argA ?_
  with_reducible refine (fold_Fits.calls k _ _ l0_0 a0_1 _ _ l2 t597 _ ?side1 ?side2 ?side3 ?side4 A15.out).mono ?_
  (case side1 => exact cb1 HR0_0 HB)
  (case side2 => exact HC0_0.out)
  (case side3 => exact cb1 HR2 HB)
  (case side4 => exact HC2.out)
  rintro e w93 ⟨rfl, hb⟩
  refine ⟨_, rfl, ?_⟩
  replace HO586 := Aside0.mk (Kd.N_below (nilA HO586.out) hb)
  replace HO590 := Aside0.mk (Kd.N_below (nilA HO590.out) hb)
  replace BK581 := blkB BK581 hb
  replace HB := bs2 HB GE581 hb
  (try clear hb)
  refine hK.out _ _ ⟨(blk_cell BK581.out 0).trans rfl, (blk_cell BK581.out 1).trans rfl⟩ (fun hHeld => ?_)
  clear hK K
  refine norm_ (a' := ?_) ?_ ?_
  rotate_left
  ·show Act.put _ (some 50) _ = _
   simp only [Act.put, List.setIfInBounds_toArray, List.set_cons_zero, List.set_cons_succ, i64_w, i32_w]
   rfl
  refine one_ (i := 7) (N := some 53) #[true, true, true, true, true, true, true, true, false, false, false, false, false, false, false, false, false, false, false, false, false, false, false, false, false, false, false, false, false, false, false] rfl rfl (one_of HT_.out (by kernel_rfl)) (by decide) (fun K hK => ?_)
  refine goes_ Try.func24 (by kernel_rfl) rfl #[.agg #[.slice A0_0 l0_0.length c0_0, .int .i64 a0_1], .slice A2 l2.length c2] (by rfl) rfl rfl argA ?_
  with_reducible refine (rickyardref15_Fits.calls k _ _ l0_0 a0_1 _ _ l2 t598 _ ?side1 ?side2 ?side3 ?side4 A16.out).mono ?_
  (case side1 => exact cb1 HR0_0 HB)
  (case side2 => exact HC0_0.out)
  (case side3 => exact cb1 HR2 HB)
  (case side4 => exact HC2.out)
  rintro e w94 ⟨rfl, hb⟩
  refine ⟨_, rfl, ?_⟩
  replace HO586 := Aside0.mk (Kd.N_below (nilA HO586.out) hb)
  replace HO590 := Aside0.mk (Kd.N_below (nilA HO590.out) hb)
  replace BK581 := blkB BK581 hb
  replace HB := bs2 HB GE581 hb
  (try clear hb)
  refine hK.out _ _ ⟨(blk_cell BK581.out 0).trans rfl, (blk_cell BK581.out 1).trans rfl⟩ (fun hHeld => ?_)
  clear hK K
  refine norm_ (a' := ?_) ?_ ?_
  rotate_left
  ·show Act.put _ (some 53) _ = _
   simp only [Act.put, List.setIfInBounds_toArray, List.set_cons_zero, List.set_cons_succ, i64_w, i32_w]
   rfl
  refine pureD 8 54 HT_ ?_
  refine pureD 9 55 HT_ ?_
  refine pureD 10 56 HT_ ?_
  refine pureU 11 57 HT_ ?_
  refine pureU 12 58 HT_ ?_
  refine pureU 13 59 HT_ ?_
  refine pureD 14 60 HT_ ?_
  refine pureD 15 61 HT_ ?_
  refine pureU 16 62 HT_ ?_
  refine pureU 17 63 HT_ ?_
  refine pureU 18 64 HT_ ?_
  refine pureD 19 65 HT_ ?_
  refine pureD 20 66 HT_ ?_
  refine pureU 21 67 HT_ ?_
  refine pureU 22 68 HT_ ?_
  refine pureU 23 69 HT_ ?_
  refine pureD 24 70 HT_ ?_
  refine pureD 25 71 HT_ ?_
  refine pureU 26 72 HT_ ?_
  refine pureU 27 73 HT_ ?_
  refine pureU 28 74 HT_ ?_
  refine pureD 29 75 HT_ ?_
  refine pureD 30 6 HT_ ?_
  refine done_ (done_of HT_.out (by kernel_rfl)) ?_
  try go_wp2
  go_ret
  exact ⟨ret1, belB HB.out GE581.out⟩
 rw [if_pos c17] at H
 have c17b0 : (t597 == t598) = true := c17
 (try (have c17b1 : decide (t597 = t598) = true := by simpa using c17))
 (try (have c17b2 : (t597 == t598) = true := by simpa using c17))
 clear c17
 replace H := bnA H
 obtain ⟨t599, A18, H⟩ := H
 by_cases c19 : t599 = true
 rotate_left
 ·replace c19 := Bool.eq_false_iff.mpr c19
  subst c19
  have H1 : (some false) = some r := by rw [if_neg (show ¬ (false = true) by decide)] at H; exact H
  clear H
  have H := H1
  clear H1
  obtain rfl := Option.some.inj H
  go_enter Try.func6, Try.ntmps6
  try go_wp2_with (first | ((with_reducible refine gate_dst (N := 3) rfl ?_); refine boxA 3 #[.slice A0_0 l0_0.length c0_0, .int .i64 a0_1] 24 ?_; intro gb581 hg w67 hbox hb; have BK581 := Aside0.mk (hbox); have GE581 := ge1 hg (belA HB.out); replace HB := bst HB hb; clear hb hbox hg) | ((with_reducible refine gate_callee (f := 15) rfl ?_); refine goesL_ (some 16) rfl rfl Try.func15 (by kernel_rfl) rfl #[.slice A2 l2.length c2] rfl argA ?_; (with_reducible refine (rickyardlaw15_Great.calls k _ _ l2 false _ ?side1 ?side2 A4.out).mono ?_); (case side1 => exact cb1 HR2 HB); (case side2 => exact HC2.out); rintro e w' ⟨rfl, ⟨nd, rfl⟩⟩; refine ⟨_, rfl, ?_⟩; obtain ⟨hcz68_0, hcz68_1, hfz68_0, hfz68_1⟩ := blk2 BK581) | ((with_reducible refine gate_callee (f := 16) rfl ?_); refine goesL_ (some 22) rfl rfl Try.func16 (by kernel_rfl) rfl #[.agg #[.slice A0_0 l0_0.length c0_0, .int .i64 a0_1], .int .i64 a1, .slice A2 l2.length c2] rfl argA ?_; (with_reducible refine (fold_Fold.calls k _ _ l0_0 a0_1 a1 _ _ l2 t584 t587 _ ?side1 ?side2 ?side3 ?side4 A9.out).mono ?_); (case side1 => repeat (first | exact (Kd.C_below HR0_0.out (belB HB.out GE581.out)) | (with_reducible refine Kd.C_alloc ?_ _) | (with_reducible refine Kd.C_drewN ?_ _) | (with_reducible refine Kd.C_drew ?_))); (case side2 => exact HC0_0.out); (case side3 => repeat (first | exact (Kd.C_below HR2.out (belB HB.out GE581.out)) | (with_reducible refine Kd.C_alloc ?_ _) | (with_reducible refine Kd.C_drewN ?_ _) | (with_reducible refine Kd.C_drew ?_))); (case side4 => exact HC2.out); rintro e w69 ⟨v585, rfl, ho0, hb⟩; refine ⟨_, rfl, ?_⟩; have HO586 := Aside0.mk (Kd.N_lower (Kd.N_mono (ok' := fun k_ => k_ ≠ gb581) (Kd.R_N (Kd.R_bound ho0)) (fun k_ hk_ => (frB BK581 k_ hk_.2.1))) (below_size (belB HB.out GE581.out))); replace BK581 := blkB BK581 hb; replace HB := bs2 HB GE581 hb; (try clear hb); (try clear ho0); obtain ⟨hcz70_0, hcz70_1, hfz70_0, hfz70_1⟩ := blk2 BK581) | ((with_reducible refine gate_callee (f := 20) rfl ?_); refine goesL_ (some 29) rfl rfl Try.func20 (by kernel_rfl) rfl #[.agg #[.slice A0_0 l0_0.length c0_0, .int .i64 a0_1], .int .i64 a1, .slice A2 l2.length c2] rfl argA ?_; (with_reducible refine (rickyardref15_Fold.calls k _ _ l0_0 a0_1 a1 _ _ l2 t588 t591 _ ?side1 ?side2 ?side3 ?side4 A10.out).mono ?_); (case side1 => exact cb1 HR0_0 HB); (case side2 => exact HC0_0.out); (case side3 => exact cb1 HR2 HB); (case side4 => exact HC2.out); rintro e w71 ⟨v589, rfl, ho0, hb⟩; refine ⟨_, rfl, ?_⟩; have HO590 := Aside0.mk (Kd.N_lower (Kd.N_mono (ok' := fun k_ => some k_ ≠ (v585 : Value).ownBlock ∧ k_ ≠ gb581) ho0 (fun k_ hk_ => ⟨(Kd.fresh' (Kd.N_lt (nilA HO586.out)) k_ hk_), (frB BK581 k_ hk_)⟩)) (below_size (belB HB.out GE581.out))); replace HO586 := Aside0.mk (Kd.N_elder' (nilA HO586.out) (Kd.N_base ho0) hb); replace BK581 := blkB BK581 hb; replace HB := bs2 HB GE581 hb; (try clear hb); (try clear ho0); obtain ⟨hcz72_0, hcz72_1, hfz72_0, hfz72_1⟩ := blk2 BK581) | ((with_reducible refine gate_callee (f := 21) rfl ?_); refine goesL_ (some 36) rfl rfl Try.func21 (by kernel_rfl) rfl #[.agg #[.slice A0_0 l0_0.length c0_0, .int .i64 a0_1], .int .i64 a1, .slice A2 l2.length c2] rfl argA ?_; (with_reducible refine (fold_Stale.calls k _ _ l0_0 a0_1 a1 _ _ l2 t592 t593 _ ?side1 ?side2 ?side3 ?side4 A11.out).mono ?_); (case side1 => exact cb1 HR0_0 HB); (case side2 => exact HC0_0.out); (case side3 => exact cb1 HR2 HB); (case side4 => exact HC2.out); rintro e w73 ⟨rfl, hb⟩; refine ⟨_, rfl, ?_⟩; replace HO586 := Aside0.mk (Kd.N_below (nilA HO586.out) hb); replace HO590 := Aside0.mk (Kd.N_below (nilA HO590.out) hb); replace BK581 := blkB BK581 hb; replace HB := bs2 HB GE581 hb; (try clear hb); obtain ⟨hcz74_0, hcz74_1, hfz74_0, hfz74_1⟩ := blk2 BK581) | ((with_reducible refine gate_callee (f := 22) rfl ?_); refine goesL_ (some 43) rfl rfl Try.func22 (by kernel_rfl) rfl #[.agg #[.slice A0_0 l0_0.length c0_0, .int .i64 a0_1], .int .i64 a1, .slice A2 l2.length c2] rfl argA ?_; (with_reducible refine (rickyardref15_Stale.calls k _ _ l0_0 a0_1 a1 _ _ l2 t594 t595 _ ?side1 ?side2 ?side3 ?side4 A12.out).mono ?_); (case side1 => exact cb1 HR0_0 HB); (case side2 => exact HC0_0.out); (case side3 => exact cb1 HR2 HB); (case side4 => exact HC2.out); rintro e w75 ⟨rfl, hb⟩; refine ⟨_, rfl, ?_⟩; replace HO586 := Aside0.mk (Kd.N_below (nilA HO586.out) hb); replace HO590 := Aside0.mk (Kd.N_below (nilA HO590.out) hb); replace BK581 := blkB BK581 hb; replace HB := bs2 HB GE581 hb; (try clear hb)))
  replace HO586 := Aside0.mk (Kd.N_drew HO586.out)
  replace HO590 := Aside0.mk (Kd.N_drew HO590.out)
  replace BK581 := Aside0.mk (blk_drew BK581.out)
  replace HB := Aside0.mk (below_drew1 HB.out)
  refine start_ (n := 31) (S := fun w' => w'.cell? ⟨gb581, 0, none⟩ = some (.slice A0_0 l0_0.length c0_0) ∧ w'.cell? ⟨gb581, 1, none⟩ = some (.int .i64 a0_1)) (ds := []) #[false, false, false, false, false, false, false, false, false, false, false, false, false, false, false, false, false, false, false, false, false, false, false, false, false, false, false, false, false, false, false] (by kernel_rfl) rfl rfl ⟨(blk_cell BK581.out 0).trans rfl, (blk_cell BK581.out 1).trans rfl⟩ (fun hHeld => ?_); refine with_tabW rickyardlaw15_FoldFolds.tab7 rickyardlaw15_FoldFolds.bits7 (fun HT_ HW_ => ?_)
  generalize w75.drew = w76 at HO586 HO590 BK581 HB hHeld ⊢
  refine one_ (i := 0) (N := some 46) #[true, false, false, false, false, false, false, false, false, false, false, false, false, false, false, false, false, false, false, false, false, false, false, false, false, false, false, false, false, false, false] rfl rfl (one_of HT_.out (by kernel_rfl)) (by decide) (fun K hK => ?_)
  refine goes_ Try.func11 (by kernel_rfl) rfl #[] (by rfl) rfl rfl argA ?_
  with_reducible refine (rickyardlaw15_alive.calls k  true _ A13.out).mono ?_
  rintro e w77 ⟨rfl, hb⟩
  refine ⟨_, rfl, ?_⟩
  replace HO586 := Aside0.mk (Kd.N_below (nilA HO586.out) hb)
  replace HO590 := Aside0.mk (Kd.N_below (nilA HO590.out) hb)
  replace BK581 := blkB BK581 hb
  replace HB := bs2 HB GE581 hb
  (try clear hb)
  refine hK.out _ _ ⟨(blk_cell BK581.out 0).trans rfl, (blk_cell BK581.out 1).trans rfl⟩ (fun hHeld => ?_)
  clear hK K
  refine norm_ (a' := ?_) ?_ ?_
  rotate_left
  ·show Act.put _ (some 46) _ = _
   simp only [Act.put, List.setIfInBounds_toArray, List.set_cons_zero, List.set_cons_succ, i64_w, i32_w]
   rfl
  refine pureD 1 47 HT_ ?_
  refine pureD 3 49 HT_ ?_
  refine pureD 6 52 HT_ ?_
  refine takeD 2 48 HT_ HW_ hHeld ?_
  refine takeD 5 51 HT_ HW_ hHeld ?_
  refine one_ (i := 4) (N := some 50) #[true, true, true, true, true, true, true, false, false, false, false, false, false, false, false, false, false, false, false, false, false, false, false, false, false, false, false, false, false, false, false] rfl rfl (one_of HT_.out (by kernel_rfl)) (by decide) (fun K hK => ?_)
  refine goes_ Try.func23 (by kernel_rfl) rfl #[.agg #[.slice A0_0 l0_0.length c0_0, .int .i64 a0_1], .slice A2 l2.length c2] (by rfl) rfl rfl argA ?_
  with_reducible refine (fold_Fits.calls k _ _ l0_0 a0_1 _ _ l2 t597 _ ?side1 ?side2 ?side3 ?side4 A15.out).mono ?_
  (case side1 => exact cb1 HR0_0 HB)
  (case side2 => exact HC0_0.out)
  (case side3 => exact cb1 HR2 HB)
  (case side4 => exact HC2.out)
  rintro e w78 ⟨rfl, hb⟩
  refine ⟨_, rfl, ?_⟩
  replace HO586 := Aside0.mk (Kd.N_below (nilA HO586.out) hb)
  replace HO590 := Aside0.mk (Kd.N_below (nilA HO590.out) hb)
  replace BK581 := blkB BK581 hb
  replace HB := bs2 HB GE581 hb
  (try clear hb)
  refine hK.out _ _ ⟨(blk_cell BK581.out 0).trans rfl, (blk_cell BK581.out 1).trans rfl⟩ (fun hHeld => ?_)
  clear hK K
  refine norm_ (a' := ?_) ?_ ?_
  rotate_left
  ·show Act.put _ (some 50) _ = _
   simp only [Act.put, List.setIfInBounds_toArray, List.set_cons_zero, List.set_cons_succ, i64_w, i32_w]
   rfl
  refine one_ (i := 7) (N := some 53) #[true, true, true, true, true, true, true, true, false, false, false, false, false, false, false, false, false, false, false, false, false, false, false, false, false, false, false, false, false, false, false] rfl rfl (one_of HT_.out (by kernel_rfl)) (by decide) (fun K hK => ?_)
  refine goes_ Try.func24 (by kernel_rfl) rfl #[.agg #[.slice A0_0 l0_0.length c0_0, .int .i64 a0_1], .slice A2 l2.length c2] (by rfl) rfl rfl argA ?_
  with_reducible refine (rickyardref15_Fits.calls k _ _ l0_0 a0_1 _ _ l2 t598 _ ?side1 ?side2 ?side3 ?side4 A16.out).mono ?_
  (case side1 => exact cb1 HR0_0 HB)
  (case side2 => exact HC0_0.out)
  (case side3 => exact cb1 HR2 HB)
  (case side4 => exact HC2.out)
  rintro e w79 ⟨rfl, hb⟩
  refine ⟨_, rfl, ?_⟩
  replace HO586 := Aside0.mk (Kd.N_below (nilA HO586.out) hb)
  replace HO590 := Aside0.mk (Kd.N_below (nilA HO590.out) hb)
  replace BK581 := blkB BK581 hb
  replace HB := bs2 HB GE581 hb
  (try clear hb)
  obtain ⟨Ao80, co80, eo80⟩ := Kd.N_slice HO586.out
  (first | subst eo80 | (injection eo80 with f1_ f2_ f3_; have f4_ := f1_.symm; have f5_ := f3_.symm; clear f1_ f2_ f3_; subst f4_; subst f5_))
  obtain ⟨Ao81, co81, eo81⟩ := Kd.N_slice HO590.out
  (first | subst eo81 | (injection eo81 with f1_ f2_ f3_; have f4_ := f1_.symm; have f5_ := f3_.symm; clear f1_ f2_ f3_; subst f4_; subst f5_))
  refine hK.out _ _ ⟨(blk_cell BK581.out 0).trans rfl, (blk_cell BK581.out 1).trans rfl⟩ (fun hHeld => ?_)
  clear hK K
  refine norm_ (a' := ?_) ?_ ?_
  rotate_left
  ·show Act.put _ (some 53) _ = _
   simp only [Act.put, List.setIfInBounds_toArray, List.set_cons_zero, List.set_cons_succ, i64_w, i32_w]
   rfl
  refine pureD 8 54 HT_ ?_
  refine pureD 9 55 HT_ ?_
  refine pureD 10 56 HT_ ?_
  refine pureD 11 57 HT_ ?_
  refine pureD 12 58 HT_ ?_
  refine one_ (i := 13) (N := some 59) #[true, true, true, true, true, true, true, true, true, true, true, true, true, true, false, false, false, false, false, false, false, false, false, false, false, false, false, false, false, false, false] rfl rfl (one_of HT_.out (by kernel_rfl)) (by decide) (fun K hK => ?_)
  refine goes_ Try.func14 (by kernel_rfl) rfl #[.slice Ao80 t584.length co80, .slice Ao81 t588.length co81] (by rfl) rfl rfl argA ?_
  with_reducible refine (rickyardref08_Same.calls k _ _ t584 _ _ t588 false _ ?side1 ?side2 ?side3 ?side4 A18.out).mono ?_
  (case side1 => repeat (first | exact (Kd.N_reads' HO586.out).2.2 | (with_reducible refine Kd.C_alloc ?_ _) | (with_reducible refine Kd.C_drewN ?_ _) | (with_reducible refine Kd.C_drew ?_)))
  (case side2 => exact (Kd.N_reads' HO586.out).2.1)
  (case side3 => repeat (first | exact (Kd.N_reads' HO590.out).2.2 | (with_reducible refine Kd.C_alloc ?_ _) | (with_reducible refine Kd.C_drewN ?_ _) | (with_reducible refine Kd.C_drew ?_)))
  (case side4 => exact (Kd.N_reads' HO590.out).2.1)
  rintro e w' ⟨rfl, ⟨nd, rfl⟩⟩
  refine ⟨_, rfl, ?_⟩
  refine hK.out _ _ ⟨(blk_cell BK581.out 0).trans rfl, (blk_cell BK581.out 1).trans rfl⟩ (fun hHeld => ?_)
  clear hK K
  refine norm_ (a' := ?_) ?_ ?_
  rotate_left
  ·show Act.put _ (some 59) _ = _
   simp only [Act.put, List.setIfInBounds_toArray, List.set_cons_zero, List.set_cons_succ, i64_w, i32_w]
   rfl
  refine pureD 14 60 HT_ ?_
  refine pureD 15 61 HT_ ?_
  refine pureU 16 62 HT_ ?_
  refine pureU 17 63 HT_ ?_
  refine pureU 18 64 HT_ ?_
  refine pureD 19 65 HT_ ?_
  refine pureD 20 66 HT_ ?_
  refine pureU 21 67 HT_ ?_
  refine pureU 22 68 HT_ ?_
  refine pureU 23 69 HT_ ?_
  refine pureD 24 70 HT_ ?_
  refine pureD 25 71 HT_ ?_
  refine pureU 26 72 HT_ ?_
  refine pureU 27 73 HT_ ?_
  refine pureU 28 74 HT_ ?_
  refine pureD 29 75 HT_ ?_
  refine pureD 30 6 HT_ ?_
  refine done_ (done_of HT_.out (by kernel_rfl)) ?_
  try go_wp2
  go_ret
  exact ⟨ret1, belB HB.out GE581.out⟩
 subst c19
 have H1 : (if t587 = t591 then (if (t592 == t594) = true then (some (t593 == t595)) else (some false)) else (some false)) = some r := by rw [if_pos rfl] at H; exact H
 clear H
 have H := H1
 clear H1
 by_cases c20 : t587 = t591
 rotate_left
 ·rw [if_neg c20] at H
  have c20b0 := beq_eq_false_iff_ne.mpr c20
  have c20b1 := bne_iff_ne.mpr c20
  obtain rfl := Option.some.inj H
  go_enter Try.func6, Try.ntmps6
  try go_wp2_with (first | ((with_reducible refine gate_dst (N := 3) rfl ?_); refine boxA 3 #[.slice A0_0 l0_0.length c0_0, .int .i64 a0_1] 24 ?_; intro gb581 hg w52 hbox hb; have BK581 := Aside0.mk (hbox); have GE581 := ge1 hg (belA HB.out); replace HB := bst HB hb; clear hb hbox hg) | ((with_reducible refine gate_callee (f := 15) rfl ?_); refine goesL_ (some 16) rfl rfl Try.func15 (by kernel_rfl) rfl #[.slice A2 l2.length c2] rfl argA ?_; (with_reducible refine (rickyardlaw15_Great.calls k _ _ l2 false _ ?side1 ?side2 A4.out).mono ?_); (case side1 => exact cb1 HR2 HB); (case side2 => exact HC2.out); rintro e w' ⟨rfl, ⟨nd, rfl⟩⟩; refine ⟨_, rfl, ?_⟩; obtain ⟨hcz53_0, hcz53_1, hfz53_0, hfz53_1⟩ := blk2 BK581) | ((with_reducible refine gate_callee (f := 16) rfl ?_); refine goesL_ (some 22) rfl rfl Try.func16 (by kernel_rfl) rfl #[.agg #[.slice A0_0 l0_0.length c0_0, .int .i64 a0_1], .int .i64 a1, .slice A2 l2.length c2] rfl argA ?_; (with_reducible refine (fold_Fold.calls k _ _ l0_0 a0_1 a1 _ _ l2 t584 t587 _ ?side1 ?side2 ?side3 ?side4 A9.out).mono ?_); (case side1 => repeat (first | exact (Kd.C_below HR0_0.out (belB HB.out GE581.out)) | (with_reducible refine Kd.C_alloc ?_ _) | (with_reducible refine Kd.C_drewN ?_ _) | (with_reducible refine Kd.C_drew ?_))); (case side2 => exact HC0_0.out); (case side3 => repeat (first | exact (Kd.C_below HR2.out (belB HB.out GE581.out)) | (with_reducible refine Kd.C_alloc ?_ _) | (with_reducible refine Kd.C_drewN ?_ _) | (with_reducible refine Kd.C_drew ?_))); (case side4 => exact HC2.out); rintro e w54 ⟨v585, rfl, ho0, hb⟩; refine ⟨_, rfl, ?_⟩; have HO586 := Aside0.mk (Kd.N_lower (Kd.N_mono (ok' := fun k_ => k_ ≠ gb581) (Kd.R_N (Kd.R_bound ho0)) (fun k_ hk_ => (frB BK581 k_ hk_.2.1))) (below_size (belB HB.out GE581.out))); replace BK581 := blkB BK581 hb; replace HB := bs2 HB GE581 hb; (try clear hb); (try clear ho0); obtain ⟨hcz55_0, hcz55_1, hfz55_0, hfz55_1⟩ := blk2 BK581) | ((with_reducible refine gate_callee (f := 20) rfl ?_); refine goesL_ (some 29) rfl rfl Try.func20 (by kernel_rfl) rfl #[.agg #[.slice A0_0 l0_0.length c0_0, .int .i64 a0_1], .int .i64 a1, .slice A2 l2.length c2] rfl argA ?_; (with_reducible refine (rickyardref15_Fold.calls k _ _ l0_0 a0_1 a1 _ _ l2 t588 t591 _ ?side1 ?side2 ?side3 ?side4 A10.out).mono ?_); (case side1 => exact cb1 HR0_0 HB); (case side2 => exact HC0_0.out); (case side3 => exact cb1 HR2 HB); (case side4 => exact HC2.out); rintro e w56 ⟨v589, rfl, ho0, hb⟩; refine ⟨_, rfl, ?_⟩; have HO590 := Aside0.mk (Kd.N_lower (Kd.N_mono (ok' := fun k_ => some k_ ≠ (v585 : Value).ownBlock ∧ k_ ≠ gb581) ho0 (fun k_ hk_ => ⟨(Kd.fresh' (Kd.N_lt (nilA HO586.out)) k_ hk_), (frB BK581 k_ hk_)⟩)) (below_size (belB HB.out GE581.out))); replace HO586 := Aside0.mk (Kd.N_elder' (nilA HO586.out) (Kd.N_base ho0) hb); replace BK581 := blkB BK581 hb; replace HB := bs2 HB GE581 hb; (try clear hb); (try clear ho0); obtain ⟨hcz57_0, hcz57_1, hfz57_0, hfz57_1⟩ := blk2 BK581) | ((with_reducible refine gate_callee (f := 21) rfl ?_); refine goesL_ (some 36) rfl rfl Try.func21 (by kernel_rfl) rfl #[.agg #[.slice A0_0 l0_0.length c0_0, .int .i64 a0_1], .int .i64 a1, .slice A2 l2.length c2] rfl argA ?_; (with_reducible refine (fold_Stale.calls k _ _ l0_0 a0_1 a1 _ _ l2 t592 t593 _ ?side1 ?side2 ?side3 ?side4 A11.out).mono ?_); (case side1 => exact cb1 HR0_0 HB); (case side2 => exact HC0_0.out); (case side3 => exact cb1 HR2 HB); (case side4 => exact HC2.out); rintro e w58 ⟨rfl, hb⟩; refine ⟨_, rfl, ?_⟩; replace HO586 := Aside0.mk (Kd.N_below (nilA HO586.out) hb); replace HO590 := Aside0.mk (Kd.N_below (nilA HO590.out) hb); replace BK581 := blkB BK581 hb; replace HB := bs2 HB GE581 hb; (try clear hb); obtain ⟨hcz59_0, hcz59_1, hfz59_0, hfz59_1⟩ := blk2 BK581) | ((with_reducible refine gate_callee (f := 22) rfl ?_); refine goesL_ (some 43) rfl rfl Try.func22 (by kernel_rfl) rfl #[.agg #[.slice A0_0 l0_0.length c0_0, .int .i64 a0_1], .int .i64 a1, .slice A2 l2.length c2] rfl argA ?_; (with_reducible refine (rickyardref15_Stale.calls k _ _ l0_0 a0_1 a1 _ _ l2 t594 t595 _ ?side1 ?side2 ?side3 ?side4 A12.out).mono ?_); (case side1 => exact cb1 HR0_0 HB); (case side2 => exact HC0_0.out); (case side3 => exact cb1 HR2 HB); (case side4 => exact HC2.out); rintro e w60 ⟨rfl, hb⟩; refine ⟨_, rfl, ?_⟩; replace HO586 := Aside0.mk (Kd.N_below (nilA HO586.out) hb); replace HO590 := Aside0.mk (Kd.N_below (nilA HO590.out) hb); replace BK581 := blkB BK581 hb; replace HB := bs2 HB GE581 hb; (try clear hb)))
  replace HO586 := Aside0.mk (Kd.N_drew HO586.out)
  replace HO590 := Aside0.mk (Kd.N_drew HO590.out)
  replace BK581 := Aside0.mk (blk_drew BK581.out)
  replace HB := Aside0.mk (below_drew1 HB.out)
  refine start_ (n := 31) (S := fun w' => w'.cell? ⟨gb581, 0, none⟩ = some (.slice A0_0 l0_0.length c0_0) ∧ w'.cell? ⟨gb581, 1, none⟩ = some (.int .i64 a0_1)) (ds := []) #[false, false, false, false, false, false, false, false, false, false, false, false, false, false, false, false, false, false, false, false, false, false, false, false, false, false, false, false, false, false, false] (by kernel_rfl) rfl rfl ⟨(blk_cell BK581.out 0).trans rfl, (blk_cell BK581.out 1).trans rfl⟩ (fun hHeld => ?_); refine with_tabW rickyardlaw15_FoldFolds.tab7 rickyardlaw15_FoldFolds.bits7 (fun HT_ HW_ => ?_)
  generalize w60.drew = w61 at HO586 HO590 BK581 HB hHeld ⊢
  refine one_ (i := 0) (N := some 46) #[true, false, false, false, false, false, false, false, false, false, false, false, false, false, false, false, false, false, false, false, false, false, false, false, false, false, false, false, false, false, false] rfl rfl (one_of HT_.out (by kernel_rfl)) (by decide) (fun K hK => ?_)
  refine goes_ Try.func11 (by kernel_rfl) rfl #[] (by rfl) rfl rfl argA ?_
  with_reducible refine (rickyardlaw15_alive.calls k  true _ A13.out).mono ?_
  rintro e w62 ⟨rfl, hb⟩
  refine ⟨_, rfl, ?_⟩
  replace HO586 := Aside0.mk (Kd.N_below (nilA HO586.out) hb)
  replace HO590 := Aside0.mk (Kd.N_below (nilA HO590.out) hb)
  replace BK581 := blkB BK581 hb
  replace HB := bs2 HB GE581 hb
  (try clear hb)
  refine hK.out _ _ ⟨(blk_cell BK581.out 0).trans rfl, (blk_cell BK581.out 1).trans rfl⟩ (fun hHeld => ?_)
  clear hK K
  refine norm_ (a' := ?_) ?_ ?_
  rotate_left
  ·show Act.put _ (some 46) _ = _
   simp only [Act.put, List.setIfInBounds_toArray, List.set_cons_zero, List.set_cons_succ, i64_w, i32_w]
   rfl
  refine pureD 1 47 HT_ ?_
  refine pureD 3 49 HT_ ?_
  refine pureD 6 52 HT_ ?_
  refine takeD 2 48 HT_ HW_ hHeld ?_
  refine takeD 5 51 HT_ HW_ hHeld ?_
  refine one_ (i := 4) (N := some 50) #[true, true, true, true, true, true, true, false, false, false, false, false, false, false, false, false, false, false, false, false, false, false, false, false, false, false, false, false, false, false, false] rfl rfl (one_of HT_.out (by kernel_rfl)) (by decide) (fun K hK => ?_)
  refine goes_ Try.func23 (by kernel_rfl) rfl #[.agg #[.slice A0_0 l0_0.length c0_0, .int .i64 a0_1], .slice A2 l2.length c2] (by rfl) rfl rfl argA ?_
  with_reducible refine (fold_Fits.calls k _ _ l0_0 a0_1 _ _ l2 t597 _ ?side1 ?side2 ?side3 ?side4 A15.out).mono ?_
  (case side1 => exact cb1 HR0_0 HB)
  (case side2 => exact HC0_0.out)
  (case side3 => exact cb1 HR2 HB)
  (case side4 => exact HC2.out)
  rintro e w63 ⟨rfl, hb⟩
  refine ⟨_, rfl, ?_⟩
  replace HO586 := Aside0.mk (Kd.N_below (nilA HO586.out) hb)
  replace HO590 := Aside0.mk (Kd.N_below (nilA HO590.out) hb)
  replace BK581 := blkB BK581 hb
  replace HB := bs2 HB GE581 hb
  (try clear hb)
  refine hK.out _ _ ⟨(blk_cell BK581.out 0).trans rfl, (blk_cell BK581.out 1).trans rfl⟩ (fun hHeld => ?_)
  clear hK K
  refine norm_ (a' := ?_) ?_ ?_
  rotate_left
  ·show Act.put _ (some 50) _ = _
   simp only [Act.put, List.setIfInBounds_toArray, List.set_cons_zero, List.set_cons_succ, i64_w, i32_w]
   rfl
  refine one_ (i := 7) (N := some 53) #[true, true, true, true, true, true, true, true, false, false, false, false, false, false, false, false, false, false, false, false, false, false, false, false, false, false, false, false, false, false, false] rfl rfl (one_of HT_.out (by kernel_rfl)) (by decide) (fun K hK => ?_)
  refine goes_ Try.func24 (by kernel_rfl) rfl #[.agg #[.slice A0_0 l0_0.length c0_0, .int .i64 a0_1], .slice A2 l2.length c2] (by rfl) rfl rfl argA ?_
  with_reducible refine (rickyardref15_Fits.calls k _ _ l0_0 a0_1 _ _ l2 t598 _ ?side1 ?side2 ?side3 ?side4 A16.out).mono ?_
  (case side1 => exact cb1 HR0_0 HB)
  (case side2 => exact HC0_0.out)
  (case side3 => exact cb1 HR2 HB)
  (case side4 => exact HC2.out)
  rintro e w64 ⟨rfl, hb⟩
  refine ⟨_, rfl, ?_⟩
  replace HO586 := Aside0.mk (Kd.N_below (nilA HO586.out) hb)
  replace HO590 := Aside0.mk (Kd.N_below (nilA HO590.out) hb)
  replace BK581 := blkB BK581 hb
  replace HB := bs2 HB GE581 hb
  (try clear hb)
  obtain ⟨Ao65, co65, eo65⟩ := Kd.N_slice HO586.out
  (first | subst eo65 | (injection eo65 with f1_ f2_ f3_; have f4_ := f1_.symm; have f5_ := f3_.symm; clear f1_ f2_ f3_; subst f4_; subst f5_))
  obtain ⟨Ao66, co66, eo66⟩ := Kd.N_slice HO590.out
  (first | subst eo66 | (injection eo66 with f1_ f2_ f3_; have f4_ := f1_.symm; have f5_ := f3_.symm; clear f1_ f2_ f3_; subst f4_; subst f5_))
  refine hK.out _ _ ⟨(blk_cell BK581.out 0).trans rfl, (blk_cell BK581.out 1).trans rfl⟩ (fun hHeld => ?_)
  clear hK K
  refine norm_ (a' := ?_) ?_ ?_
  rotate_left
  ·show Act.put _ (some 53) _ = _
   simp only [Act.put, List.setIfInBounds_toArray, List.set_cons_zero, List.set_cons_succ, i64_w, i32_w]
   rfl
  refine pureD 8 54 HT_ ?_
  refine pureD 9 55 HT_ ?_
  refine pureD 10 56 HT_ ?_
  refine pureD 11 57 HT_ ?_
  refine pureD 12 58 HT_ ?_
  refine one_ (i := 13) (N := some 59) #[true, true, true, true, true, true, true, true, true, true, true, true, true, true, false, false, false, false, false, false, false, false, false, false, false, false, false, false, false, false, false] rfl rfl (one_of HT_.out (by kernel_rfl)) (by decide) (fun K hK => ?_)
  refine goes_ Try.func14 (by kernel_rfl) rfl #[.slice Ao65 t584.length co65, .slice Ao66 t588.length co66] (by rfl) rfl rfl argA ?_
  with_reducible refine (rickyardref08_Same.calls k _ _ t584 _ _ t588 true _ ?side1 ?side2 ?side3 ?side4 A18.out).mono ?_
  (case side1 => repeat (first | exact (Kd.N_reads' HO586.out).2.2 | (with_reducible refine Kd.C_alloc ?_ _) | (with_reducible refine Kd.C_drewN ?_ _) | (with_reducible refine Kd.C_drew ?_)))
  (case side2 => exact (Kd.N_reads' HO586.out).2.1)
  (case side3 => repeat (first | exact (Kd.N_reads' HO590.out).2.2 | (with_reducible refine Kd.C_alloc ?_ _) | (with_reducible refine Kd.C_drewN ?_ _) | (with_reducible refine Kd.C_drew ?_)))
  (case side4 => exact (Kd.N_reads' HO590.out).2.1)
  rintro e w' ⟨rfl, ⟨nd, rfl⟩⟩
  refine ⟨_, rfl, ?_⟩
  refine hK.out _ _ ⟨(blk_cell BK581.out 0).trans rfl, (blk_cell BK581.out 1).trans rfl⟩ (fun hHeld => ?_)
  clear hK K
  refine norm_ (a' := ?_) ?_ ?_
  rotate_left
  ·show Act.put _ (some 59) _ = _
   simp only [Act.put, List.setIfInBounds_toArray, List.set_cons_zero, List.set_cons_succ, i64_w, i32_w]
   rfl
  refine pureD 14 60 HT_ ?_
  refine pureD 15 61 HT_ ?_
  refine pureD 16 62 HT_ ?_
  refine pureD 17 63 HT_ ?_
  refine pureD 18 64 HT_ ?_
  refine pureD 19 65 HT_ ?_
  refine pureD 20 66 HT_ ?_
  refine pureU 21 67 HT_ ?_
  refine pureU 22 68 HT_ ?_
  refine pureU 23 69 HT_ ?_
  refine pureD 24 70 HT_ ?_
  refine pureD 25 71 HT_ ?_
  refine pureU 26 72 HT_ ?_
  refine pureU 27 73 HT_ ?_
  refine pureU 28 74 HT_ ?_
  refine pureD 29 75 HT_ ?_
  refine pureD 30 6 HT_ ?_
  refine done_ (done_of HT_.out (by kernel_rfl)) ?_
  try go_wp2
  go_ret
  exact ⟨ret1, belB HB.out GE581.out⟩
 rw [if_pos c20] at H
 have c20b0 := beq_iff_eq.mpr c20
 have c20b1 := bne_eq_false_iff_eq.mpr c20
 clear c20
 by_cases c21 : (t592 == t594) = true
 ·rw [if_pos c21] at H
  have c21b0 : (t592 == t594) = true := c21
  (try (have c21b1 : decide (t592 = t594) = true := by simpa using c21))
  (try (have c21b2 : (t592 == t594) = true := by simpa using c21))
  clear c21
  obtain rfl := Option.some.inj H
  go_enter Try.func6, Try.ntmps6
  try go_wp2_with (first | ((with_reducible refine gate_dst (N := 3) rfl ?_); refine boxA 3 #[.slice A0_0 l0_0.length c0_0, .int .i64 a0_1] 24 ?_; intro gb581 hg w22 hbox hb; have BK581 := Aside0.mk (hbox); have GE581 := ge1 hg (belA HB.out); replace HB := bst HB hb; clear hb hbox hg) | ((with_reducible refine gate_callee (f := 15) rfl ?_); refine goesL_ (some 16) rfl rfl Try.func15 (by kernel_rfl) rfl #[.slice A2 l2.length c2] rfl argA ?_; (with_reducible refine (rickyardlaw15_Great.calls k _ _ l2 false _ ?side1 ?side2 A4.out).mono ?_); (case side1 => exact cb1 HR2 HB); (case side2 => exact HC2.out); rintro e w' ⟨rfl, ⟨nd, rfl⟩⟩; refine ⟨_, rfl, ?_⟩; obtain ⟨hcz23_0, hcz23_1, hfz23_0, hfz23_1⟩ := blk2 BK581) | ((with_reducible refine gate_callee (f := 16) rfl ?_); refine goesL_ (some 22) rfl rfl Try.func16 (by kernel_rfl) rfl #[.agg #[.slice A0_0 l0_0.length c0_0, .int .i64 a0_1], .int .i64 a1, .slice A2 l2.length c2] rfl argA ?_; (with_reducible refine (fold_Fold.calls k _ _ l0_0 a0_1 a1 _ _ l2 t584 t587 _ ?side1 ?side2 ?side3 ?side4 A9.out).mono ?_); (case side1 => repeat (first | exact (Kd.C_below HR0_0.out (belB HB.out GE581.out)) | (with_reducible refine Kd.C_alloc ?_ _) | (with_reducible refine Kd.C_drewN ?_ _) | (with_reducible refine Kd.C_drew ?_))); (case side2 => exact HC0_0.out); (case side3 => repeat (first | exact (Kd.C_below HR2.out (belB HB.out GE581.out)) | (with_reducible refine Kd.C_alloc ?_ _) | (with_reducible refine Kd.C_drewN ?_ _) | (with_reducible refine Kd.C_drew ?_))); (case side4 => exact HC2.out); rintro e w24 ⟨v585, rfl, ho0, hb⟩; refine ⟨_, rfl, ?_⟩; have HO586 := Aside0.mk (Kd.N_lower (Kd.N_mono (ok' := fun k_ => k_ ≠ gb581) (Kd.R_N (Kd.R_bound ho0)) (fun k_ hk_ => (frB BK581 k_ hk_.2.1))) (below_size (belB HB.out GE581.out))); replace BK581 := blkB BK581 hb; replace HB := bs2 HB GE581 hb; (try clear hb); (try clear ho0); obtain ⟨hcz25_0, hcz25_1, hfz25_0, hfz25_1⟩ := blk2 BK581) | ((with_reducible refine gate_callee (f := 20) rfl ?_); refine goesL_ (some 29) rfl rfl Try.func20 (by kernel_rfl) rfl #[.agg #[.slice A0_0 l0_0.length c0_0, .int .i64 a0_1], .int .i64 a1, .slice A2 l2.length c2] rfl argA ?_; (with_reducible refine (rickyardref15_Fold.calls k _ _ l0_0 a0_1 a1 _ _ l2 t588 t591 _ ?side1 ?side2 ?side3 ?side4 A10.out).mono ?_); (case side1 => exact cb1 HR0_0 HB); (case side2 => exact HC0_0.out); (case side3 => exact cb1 HR2 HB); (case side4 => exact HC2.out); rintro e w26 ⟨v589, rfl, ho0, hb⟩; refine ⟨_, rfl, ?_⟩; have HO590 := Aside0.mk (Kd.N_lower (Kd.N_mono (ok' := fun k_ => some k_ ≠ (v585 : Value).ownBlock ∧ k_ ≠ gb581) ho0 (fun k_ hk_ => ⟨(Kd.fresh' (Kd.N_lt (nilA HO586.out)) k_ hk_), (frB BK581 k_ hk_)⟩)) (below_size (belB HB.out GE581.out))); replace HO586 := Aside0.mk (Kd.N_elder' (nilA HO586.out) (Kd.N_base ho0) hb); replace BK581 := blkB BK581 hb; replace HB := bs2 HB GE581 hb; (try clear hb); (try clear ho0); obtain ⟨hcz27_0, hcz27_1, hfz27_0, hfz27_1⟩ := blk2 BK581) | ((with_reducible refine gate_callee (f := 21) rfl ?_); refine goesL_ (some 36) rfl rfl Try.func21 (by kernel_rfl) rfl #[.agg #[.slice A0_0 l0_0.length c0_0, .int .i64 a0_1], .int .i64 a1, .slice A2 l2.length c2] rfl argA ?_; (with_reducible refine (fold_Stale.calls k _ _ l0_0 a0_1 a1 _ _ l2 t592 t593 _ ?side1 ?side2 ?side3 ?side4 A11.out).mono ?_); (case side1 => exact cb1 HR0_0 HB); (case side2 => exact HC0_0.out); (case side3 => exact cb1 HR2 HB); (case side4 => exact HC2.out); rintro e w28 ⟨rfl, hb⟩; refine ⟨_, rfl, ?_⟩; replace HO586 := Aside0.mk (Kd.N_below (nilA HO586.out) hb); replace HO590 := Aside0.mk (Kd.N_below (nilA HO590.out) hb); replace BK581 := blkB BK581 hb; replace HB := bs2 HB GE581 hb; (try clear hb); obtain ⟨hcz29_0, hcz29_1, hfz29_0, hfz29_1⟩ := blk2 BK581) | ((with_reducible refine gate_callee (f := 22) rfl ?_); refine goesL_ (some 43) rfl rfl Try.func22 (by kernel_rfl) rfl #[.agg #[.slice A0_0 l0_0.length c0_0, .int .i64 a0_1], .int .i64 a1, .slice A2 l2.length c2] rfl argA ?_; (with_reducible refine (rickyardref15_Stale.calls k _ _ l0_0 a0_1 a1 _ _ l2 t594 t595 _ ?side1 ?side2 ?side3 ?side4 A12.out).mono ?_); (case side1 => exact cb1 HR0_0 HB); (case side2 => exact HC0_0.out); (case side3 => exact cb1 HR2 HB); (case side4 => exact HC2.out); rintro e w30 ⟨rfl, hb⟩; refine ⟨_, rfl, ?_⟩; replace HO586 := Aside0.mk (Kd.N_below (nilA HO586.out) hb); replace HO590 := Aside0.mk (Kd.N_below (nilA HO590.out) hb); replace BK581 := blkB BK581 hb; replace HB := bs2 HB GE581 hb; (try clear hb)))
  replace HO586 := Aside0.mk (Kd.N_drew HO586.out)
  replace HO590 := Aside0.mk (Kd.N_drew HO590.out)
  replace BK581 := Aside0.mk (blk_drew BK581.out)
  replace HB := Aside0.mk (below_drew1 HB.out)
  refine start_ (n := 31) (S := fun w' => w'.cell? ⟨gb581, 0, none⟩ = some (.slice A0_0 l0_0.length c0_0) ∧ w'.cell? ⟨gb581, 1, none⟩ = some (.int .i64 a0_1)) (ds := []) #[false, false, false, false, false, false, false, false, false, false, false, false, false, false, false, false, false, false, false, false, false, false, false, false, false, false, false, false, false, false, false] (by kernel_rfl) rfl rfl ⟨(blk_cell BK581.out 0).trans rfl, (blk_cell BK581.out 1).trans rfl⟩ (fun hHeld => ?_); refine with_tabW rickyardlaw15_FoldFolds.tab7 rickyardlaw15_FoldFolds.bits7 (fun HT_ HW_ => ?_)
  generalize w30.drew = w31 at HO586 HO590 BK581 HB hHeld ⊢
  refine one_ (i := 0) (N := some 46) #[true, false, false, false, false, false, false, false, false, false, false, false, false, false, false, false, false, false, false, false, false, false, false, false, false, false, false, false, false, false, false] rfl rfl (one_of HT_.out (by kernel_rfl)) (by decide) (fun K hK => ?_)
  refine goes_ Try.func11 (by kernel_rfl) rfl #[] (by rfl) rfl rfl argA ?_
  with_reducible refine (rickyardlaw15_alive.calls k  true _ A13.out).mono ?_
  rintro e w32 ⟨rfl, hb⟩
  refine ⟨_, rfl, ?_⟩
  replace HO586 := Aside0.mk (Kd.N_below (nilA HO586.out) hb)
  replace HO590 := Aside0.mk (Kd.N_below (nilA HO590.out) hb)
  replace BK581 := blkB BK581 hb
  replace HB := bs2 HB GE581 hb
  (try clear hb)
  refine hK.out _ _ ⟨(blk_cell BK581.out 0).trans rfl, (blk_cell BK581.out 1).trans rfl⟩ (fun hHeld => ?_)
  clear hK K
  refine norm_ (a' := ?_) ?_ ?_
  rotate_left
  ·show Act.put _ (some 46) _ = _
   simp only [Act.put, List.setIfInBounds_toArray, List.set_cons_zero, List.set_cons_succ, i64_w, i32_w]
   rfl
  refine pureD 1 47 HT_ ?_
  refine pureD 3 49 HT_ ?_
  refine pureD 6 52 HT_ ?_
  refine takeD 2 48 HT_ HW_ hHeld ?_
  refine takeD 5 51 HT_ HW_ hHeld ?_
  refine one_ (i := 4) (N := some 50) #[true, true, true, true, true, true, true, false, false, false, false, false, false, false, false, false, false, false, false, false, false, false, false, false, false, false, false, false, false, false, false] rfl rfl (one_of HT_.out (by kernel_rfl)) (by decide) (fun K hK => ?_)
  refine goes_ Try.func23 (by kernel_rfl) rfl #[.agg #[.slice A0_0 l0_0.length c0_0, .int .i64 a0_1], .slice A2 l2.length c2] (by rfl) rfl rfl argA ?_
  with_reducible refine (fold_Fits.calls k _ _ l0_0 a0_1 _ _ l2 t597 _ ?side1 ?side2 ?side3 ?side4 A15.out).mono ?_
  (case side1 => exact cb1 HR0_0 HB)
  (case side2 => exact HC0_0.out)
  (case side3 => exact cb1 HR2 HB)
  (case side4 => exact HC2.out)
  rintro e w33 ⟨rfl, hb⟩
  refine ⟨_, rfl, ?_⟩
  replace HO586 := Aside0.mk (Kd.N_below (nilA HO586.out) hb)
  replace HO590 := Aside0.mk (Kd.N_below (nilA HO590.out) hb)
  replace BK581 := blkB BK581 hb
  replace HB := bs2 HB GE581 hb
  (try clear hb)
  refine hK.out _ _ ⟨(blk_cell BK581.out 0).trans rfl, (blk_cell BK581.out 1).trans rfl⟩ (fun hHeld => ?_)
  clear hK K
  refine norm_ (a' := ?_) ?_ ?_
  rotate_left
  ·show Act.put _ (some 50) _ = _
   simp only [Act.put, List.setIfInBounds_toArray, List.set_cons_zero, List.set_cons_succ, i64_w, i32_w]
   rfl
  refine one_ (i := 7) (N := some 53) #[true, true, true, true, true, true, true, true, false, false, false, false, false, false, false, false, false, false, false, false, false, false, false, false, false, false, false, false, false, false, false] rfl rfl (one_of HT_.out (by kernel_rfl)) (by decide) (fun K hK => ?_)
  refine goes_ Try.func24 (by kernel_rfl) rfl #[.agg #[.slice A0_0 l0_0.length c0_0, .int .i64 a0_1], .slice A2 l2.length c2] (by rfl) rfl rfl argA ?_
  with_reducible refine (rickyardref15_Fits.calls k _ _ l0_0 a0_1 _ _ l2 t598 _ ?side1 ?side2 ?side3 ?side4 A16.out).mono ?_
  (case side1 => exact cb1 HR0_0 HB)
  (case side2 => exact HC0_0.out)
  (case side3 => exact cb1 HR2 HB)
  (case side4 => exact HC2.out)
  rintro e w34 ⟨rfl, hb⟩
  refine ⟨_, rfl, ?_⟩
  replace HO586 := Aside0.mk (Kd.N_below (nilA HO586.out) hb)
  replace HO590 := Aside0.mk (Kd.N_below (nilA HO590.out) hb)
  replace BK581 := blkB BK581 hb
  replace HB := bs2 HB GE581 hb
  (try clear hb)
  obtain ⟨Ao35, co35, eo35⟩ := Kd.N_slice HO586.out
  (first | subst eo35 | (injection eo35 with f1_ f2_ f3_; have f4_ := f1_.symm; have f5_ := f3_.symm; clear f1_ f2_ f3_; subst f4_; subst f5_))
  obtain ⟨Ao36, co36, eo36⟩ := Kd.N_slice HO590.out
  (first | subst eo36 | (injection eo36 with f1_ f2_ f3_; have f4_ := f1_.symm; have f5_ := f3_.symm; clear f1_ f2_ f3_; subst f4_; subst f5_))
  refine hK.out _ _ ⟨(blk_cell BK581.out 0).trans rfl, (blk_cell BK581.out 1).trans rfl⟩ (fun hHeld => ?_)
  clear hK K
  refine norm_ (a' := ?_) ?_ ?_
  rotate_left
  ·show Act.put _ (some 53) _ = _
   simp only [Act.put, List.setIfInBounds_toArray, List.set_cons_zero, List.set_cons_succ, i64_w, i32_w]
   rfl
  refine pureD 8 54 HT_ ?_
  refine pureD 9 55 HT_ ?_
  refine pureD 10 56 HT_ ?_
  refine pureD 11 57 HT_ ?_
  refine pureD 12 58 HT_ ?_
  refine one_ (i := 13) (N := some 59) #[true, true, true, true, true, true, true, true, true, true, true, true, true, true, false, false, false, false, false, false, false, false, false, false, false, false, false, false, false, false, false] rfl rfl (one_of HT_.out (by kernel_rfl)) (by decide) (fun K hK => ?_)
  refine goes_ Try.func14 (by kernel_rfl) rfl #[.slice Ao35 t584.length co35, .slice Ao36 t588.length co36] (by rfl) rfl rfl argA ?_
  with_reducible refine (rickyardref08_Same.calls k _ _ t584 _ _ t588 true _ ?side1 ?side2 ?side3 ?side4 A18.out).mono ?_
  (case side1 => repeat (first | exact (Kd.N_reads' HO586.out).2.2 | (with_reducible refine Kd.C_alloc ?_ _) | (with_reducible refine Kd.C_drewN ?_ _) | (with_reducible refine Kd.C_drew ?_)))
  (case side2 => exact (Kd.N_reads' HO586.out).2.1)
  (case side3 => repeat (first | exact (Kd.N_reads' HO590.out).2.2 | (with_reducible refine Kd.C_alloc ?_ _) | (with_reducible refine Kd.C_drewN ?_ _) | (with_reducible refine Kd.C_drew ?_)))
  (case side4 => exact (Kd.N_reads' HO590.out).2.1)
  rintro e w' ⟨rfl, ⟨nd, rfl⟩⟩
  refine ⟨_, rfl, ?_⟩
  refine hK.out _ _ ⟨(blk_cell BK581.out 0).trans rfl, (blk_cell BK581.out 1).trans rfl⟩ (fun hHeld => ?_)
  clear hK K
  refine norm_ (a' := ?_) ?_ ?_
  rotate_left
  ·show Act.put _ (some 59) _ = _
   simp only [Act.put, List.setIfInBounds_toArray, List.set_cons_zero, List.set_cons_succ, i64_w, i32_w]
   rfl
  refine pureD 14 60 HT_ ?_
  refine pureD 15 61 HT_ ?_
  refine pureD 16 62 HT_ ?_
  refine pureD 17 63 HT_ ?_
  refine pureD 18 64 HT_ ?_
  refine pureD 19 65 HT_ ?_
  refine pureD 20 66 HT_ ?_
  refine pureD 21 67 HT_ ?_
  refine pureD 22 68 HT_ ?_
  refine pureD 23 69 HT_ ?_
  refine pureD 24 70 HT_ ?_
  refine pureD 25 71 HT_ ?_
  refine pureD 26 72 HT_ ?_
  refine pureD 27 73 HT_ ?_
  refine pureD 28 74 HT_ ?_
  refine pureD 29 75 HT_ ?_
  refine pureD 30 6 HT_ ?_
  refine done_ (done_of HT_.out (by kernel_rfl)) ?_
  try go_wp2
  go_ret
  exact ⟨ret1, belB HB.out GE581.out⟩
 rw [if_neg c21] at H
 have c21b0 : (t592 == t594) = false := by simpa using c21
 (try (have c21b1 : decide (t592 = t594) = false := by simpa using c21))
 (try (have c21b2 : (t592 == t594) = false := by simpa using c21))
 (try (have c21b3 : ¬ (t592 = t594) := by simpa using c21))
 clear c21
 obtain rfl := Option.some.inj H
 go_enter Try.func6, Try.ntmps6
 try go_wp2_with (first | ((with_reducible refine gate_dst (N := 3) rfl ?_); refine boxA 3 #[.slice A0_0 l0_0.length c0_0, .int .i64 a0_1] 24 ?_; intro gb581 hg w37 hbox hb; have BK581 := Aside0.mk (hbox); have GE581 := ge1 hg (belA HB.out); replace HB := bst HB hb; clear hb hbox hg) | ((with_reducible refine gate_callee (f := 15) rfl ?_); refine goesL_ (some 16) rfl rfl Try.func15 (by kernel_rfl) rfl #[.slice A2 l2.length c2] rfl argA ?_; (with_reducible refine (rickyardlaw15_Great.calls k _ _ l2 false _ ?side1 ?side2 A4.out).mono ?_); (case side1 => exact cb1 HR2 HB); (case side2 => exact HC2.out); rintro e w' ⟨rfl, ⟨nd, rfl⟩⟩; refine ⟨_, rfl, ?_⟩; obtain ⟨hcz38_0, hcz38_1, hfz38_0, hfz38_1⟩ := blk2 BK581) | ((with_reducible refine gate_callee (f := 16) rfl ?_); refine goesL_ (some 22) rfl rfl Try.func16 (by kernel_rfl) rfl #[.agg #[.slice A0_0 l0_0.length c0_0, .int .i64 a0_1], .int .i64 a1, .slice A2 l2.length c2] rfl argA ?_; (with_reducible refine (fold_Fold.calls k _ _ l0_0 a0_1 a1 _ _ l2 t584 t587 _ ?side1 ?side2 ?side3 ?side4 A9.out).mono ?_); (case side1 => repeat (first | exact (Kd.C_below HR0_0.out (belB HB.out GE581.out)) | (with_reducible refine Kd.C_alloc ?_ _) | (with_reducible refine Kd.C_drewN ?_ _) | (with_reducible refine Kd.C_drew ?_))); (case side2 => exact HC0_0.out); (case side3 => repeat (first | exact (Kd.C_below HR2.out (belB HB.out GE581.out)) | (with_reducible refine Kd.C_alloc ?_ _) | (with_reducible refine Kd.C_drewN ?_ _) | (with_reducible refine Kd.C_drew ?_))); (case side4 => exact HC2.out); rintro e w39 ⟨v585, rfl, ho0, hb⟩; refine ⟨_, rfl, ?_⟩; have HO586 := Aside0.mk (Kd.N_lower (Kd.N_mono (ok' := fun k_ => k_ ≠ gb581) (Kd.R_N (Kd.R_bound ho0)) (fun k_ hk_ => (frB BK581 k_ hk_.2.1))) (below_size (belB HB.out GE581.out))); replace BK581 := blkB BK581 hb; replace HB := bs2 HB GE581 hb; (try clear hb); (try clear ho0); obtain ⟨hcz40_0, hcz40_1, hfz40_0, hfz40_1⟩ := blk2 BK581) | ((with_reducible refine gate_callee (f := 20) rfl ?_); refine goesL_ (some 29) rfl rfl Try.func20 (by kernel_rfl) rfl #[.agg #[.slice A0_0 l0_0.length c0_0, .int .i64 a0_1], .int .i64 a1, .slice A2 l2.length c2] rfl argA ?_; (with_reducible refine (rickyardref15_Fold.calls k _ _ l0_0 a0_1 a1 _ _ l2 t588 t591 _ ?side1 ?side2 ?side3 ?side4 A10.out).mono ?_); (case side1 => exact cb1 HR0_0 HB); (case side2 => exact HC0_0.out); (case side3 => exact cb1 HR2 HB); (case side4 => exact HC2.out); rintro e w41 ⟨v589, rfl, ho0, hb⟩; refine ⟨_, rfl, ?_⟩; have HO590 := Aside0.mk (Kd.N_lower (Kd.N_mono (ok' := fun k_ => some k_ ≠ (v585 : Value).ownBlock ∧ k_ ≠ gb581) ho0 (fun k_ hk_ => ⟨(Kd.fresh' (Kd.N_lt (nilA HO586.out)) k_ hk_), (frB BK581 k_ hk_)⟩)) (below_size (belB HB.out GE581.out))); replace HO586 := Aside0.mk (Kd.N_elder' (nilA HO586.out) (Kd.N_base ho0) hb); replace BK581 := blkB BK581 hb; replace HB := bs2 HB GE581 hb; (try clear hb); (try clear ho0); obtain ⟨hcz42_0, hcz42_1, hfz42_0, hfz42_1⟩ := blk2 BK581) | ((with_reducible refine gate_callee (f := 21) rfl ?_); refine goesL_ (some 36) rfl rfl Try.func21 (by kernel_rfl) rfl #[.agg #[.slice A0_0 l0_0.length c0_0, .int .i64 a0_1], .int .i64 a1, .slice A2 l2.length c2] rfl argA ?_; (with_reducible refine (fold_Stale.calls k _ _ l0_0 a0_1 a1 _ _ l2 t592 t593 _ ?side1 ?side2 ?side3 ?side4 A11.out).mono ?_); (case side1 => exact cb1 HR0_0 HB); (case side2 => exact HC0_0.out); (case side3 => exact cb1 HR2 HB); (case side4 => exact HC2.out); rintro e w43 ⟨rfl, hb⟩; refine ⟨_, rfl, ?_⟩; replace HO586 := Aside0.mk (Kd.N_below (nilA HO586.out) hb); replace HO590 := Aside0.mk (Kd.N_below (nilA HO590.out) hb); replace BK581 := blkB BK581 hb; replace HB := bs2 HB GE581 hb; (try clear hb); obtain ⟨hcz44_0, hcz44_1, hfz44_0, hfz44_1⟩ := blk2 BK581) | ((with_reducible refine gate_callee (f := 22) rfl ?_); refine goesL_ (some 43) rfl rfl Try.func22 (by kernel_rfl) rfl #[.agg #[.slice A0_0 l0_0.length c0_0, .int .i64 a0_1], .int .i64 a1, .slice A2 l2.length c2] rfl argA ?_; (with_reducible refine (rickyardref15_Stale.calls k _ _ l0_0 a0_1 a1 _ _ l2 t594 t595 _ ?side1 ?side2 ?side3 ?side4 A12.out).mono ?_); (case side1 => exact cb1 HR0_0 HB); (case side2 => exact HC0_0.out); (case side3 => exact cb1 HR2 HB); (case side4 => exact HC2.out); rintro e w45 ⟨rfl, hb⟩; refine ⟨_, rfl, ?_⟩; replace HO586 := Aside0.mk (Kd.N_below (nilA HO586.out) hb); replace HO590 := Aside0.mk (Kd.N_below (nilA HO590.out) hb); replace BK581 := blkB BK581 hb; replace HB := bs2 HB GE581 hb; (try clear hb)))
 replace HO586 := Aside0.mk (Kd.N_drew HO586.out)
 replace HO590 := Aside0.mk (Kd.N_drew HO590.out)
 replace BK581 := Aside0.mk (blk_drew BK581.out)
 replace HB := Aside0.mk (below_drew1 HB.out)
 refine start_ (n := 31) (S := fun w' => w'.cell? ⟨gb581, 0, none⟩ = some (.slice A0_0 l0_0.length c0_0) ∧ w'.cell? ⟨gb581, 1, none⟩ = some (.int .i64 a0_1)) (ds := []) #[false, false, false, false, false, false, false, false, false, false, false, false, false, false, false, false, false, false, false, false, false, false, false, false, false, false, false, false, false, false, false] (by kernel_rfl) rfl rfl ⟨(blk_cell BK581.out 0).trans rfl, (blk_cell BK581.out 1).trans rfl⟩ (fun hHeld => ?_); refine with_tabW rickyardlaw15_FoldFolds.tab7 rickyardlaw15_FoldFolds.bits7 (fun HT_ HW_ => ?_)
 generalize w45.drew = w46 at HO586 HO590 BK581 HB hHeld ⊢
 refine one_ (i := 0) (N := some 46) #[true, false, false, false, false, false, false, false, false, false, false, false, false, false, false, false, false, false, false, false, false, false, false, false, false, false, false, false, false, false, false] rfl rfl (one_of HT_.out (by kernel_rfl)) (by decide) (fun K hK => ?_)
 refine goes_ Try.func11 (by kernel_rfl) rfl #[] (by rfl) rfl rfl argA ?_
 with_reducible refine (rickyardlaw15_alive.calls k  true _ A13.out).mono ?_
 rintro e w47 ⟨rfl, hb⟩
 refine ⟨_, rfl, ?_⟩
 replace HO586 := Aside0.mk (Kd.N_below (nilA HO586.out) hb)
 replace HO590 := Aside0.mk (Kd.N_below (nilA HO590.out) hb)
 replace BK581 := blkB BK581 hb
 replace HB := bs2 HB GE581 hb
 (try clear hb)
 refine hK.out _ _ ⟨(blk_cell BK581.out 0).trans rfl, (blk_cell BK581.out 1).trans rfl⟩ (fun hHeld => ?_)
 clear hK K
 refine norm_ (a' := ?_) ?_ ?_
 rotate_left
 ·show Act.put _ (some 46) _ = _
  simp only [Act.put, List.setIfInBounds_toArray, List.set_cons_zero, List.set_cons_succ, i64_w, i32_w]
  rfl
 refine pureD 1 47 HT_ ?_
 refine pureD 3 49 HT_ ?_
 refine pureD 6 52 HT_ ?_
 refine takeD 2 48 HT_ HW_ hHeld ?_
 refine takeD 5 51 HT_ HW_ hHeld ?_
 refine one_ (i := 4) (N := some 50) #[true, true, true, true, true, true, true, false, false, false, false, false, false, false, false, false, false, false, false, false, false, false, false, false, false, false, false, false, false, false, false] rfl rfl (one_of HT_.out (by kernel_rfl)) (by decide) (fun K hK => ?_)
 refine goes_ Try.func23 (by kernel_rfl) rfl #[.agg #[.slice A0_0 l0_0.length c0_0, .int .i64 a0_1], .slice A2 l2.length c2] (by rfl) rfl rfl argA ?_
 with_reducible refine (fold_Fits.calls k _ _ l0_0 a0_1 _ _ l2 t597 _ ?side1 ?side2 ?side3 ?side4 A15.out).mono ?_
 (case side1 => exact cb1 HR0_0 HB)
 (case side2 => exact HC0_0.out)
 (case side3 => exact cb1 HR2 HB)
 (case side4 => exact HC2.out)
 rintro e w48 ⟨rfl, hb⟩
 refine ⟨_, rfl, ?_⟩
 replace HO586 := Aside0.mk (Kd.N_below (nilA HO586.out) hb)
 replace HO590 := Aside0.mk (Kd.N_below (nilA HO590.out) hb)
 replace BK581 := blkB BK581 hb
 replace HB := bs2 HB GE581 hb
 (try clear hb)
 refine hK.out _ _ ⟨(blk_cell BK581.out 0).trans rfl, (blk_cell BK581.out 1).trans rfl⟩ (fun hHeld => ?_)
 clear hK K
 refine norm_ (a' := ?_) ?_ ?_
 rotate_left
 ·show Act.put _ (some 50) _ = _
  simp only [Act.put, List.setIfInBounds_toArray, List.set_cons_zero, List.set_cons_succ, i64_w, i32_w]
  rfl
 refine one_ (i := 7) (N := some 53) #[true, true, true, true, true, true, true, true, false, false, false, false, false, false, false, false, false, false, false, false, false, false, false, false, false, false, false, false, false, false, false] rfl rfl (one_of HT_.out (by kernel_rfl)) (by decide) (fun K hK => ?_)
 refine goes_ Try.func24 (by kernel_rfl) rfl #[.agg #[.slice A0_0 l0_0.length c0_0, .int .i64 a0_1], .slice A2 l2.length c2] (by rfl) rfl rfl argA ?_
 with_reducible refine (rickyardref15_Fits.calls k _ _ l0_0 a0_1 _ _ l2 t598 _ ?side1 ?side2 ?side3 ?side4 A16.out).mono ?_
 (case side1 => exact cb1 HR0_0 HB)
 (case side2 => exact HC0_0.out)
 (case side3 => exact cb1 HR2 HB)
 (case side4 => exact HC2.out)
 rintro e w49 ⟨rfl, hb⟩
 refine ⟨_, rfl, ?_⟩
 replace HO586 := Aside0.mk (Kd.N_below (nilA HO586.out) hb)
 replace HO590 := Aside0.mk (Kd.N_below (nilA HO590.out) hb)
 replace BK581 := blkB BK581 hb
 replace HB := bs2 HB GE581 hb
 (try clear hb)
 obtain ⟨Ao50, co50, eo50⟩ := Kd.N_slice HO586.out
 (first | subst eo50 | (injection eo50 with f1_ f2_ f3_; have f4_ := f1_.symm; have f5_ := f3_.symm; clear f1_ f2_ f3_; subst f4_; subst f5_))
 obtain ⟨Ao51, co51, eo51⟩ := Kd.N_slice HO590.out
 (first | subst eo51 | (injection eo51 with f1_ f2_ f3_; have f4_ := f1_.symm; have f5_ := f3_.symm; clear f1_ f2_ f3_; subst f4_; subst f5_))
 refine hK.out _ _ ⟨(blk_cell BK581.out 0).trans rfl, (blk_cell BK581.out 1).trans rfl⟩ (fun hHeld => ?_)
 clear hK K
 refine norm_ (a' := ?_) ?_ ?_
 rotate_left
 ·show Act.put _ (some 53) _ = _
  simp only [Act.put, List.setIfInBounds_toArray, List.set_cons_zero, List.set_cons_succ, i64_w, i32_w]
  rfl
 refine pureD 8 54 HT_ ?_
 refine pureD 9 55 HT_ ?_
 refine pureD 10 56 HT_ ?_
 refine pureD 11 57 HT_ ?_
 refine pureD 12 58 HT_ ?_
 refine one_ (i := 13) (N := some 59) #[true, true, true, true, true, true, true, true, true, true, true, true, true, true, false, false, false, false, false, false, false, false, false, false, false, false, false, false, false, false, false] rfl rfl (one_of HT_.out (by kernel_rfl)) (by decide) (fun K hK => ?_)
 refine goes_ Try.func14 (by kernel_rfl) rfl #[.slice Ao50 t584.length co50, .slice Ao51 t588.length co51] (by rfl) rfl rfl argA ?_
 with_reducible refine (rickyardref08_Same.calls k _ _ t584 _ _ t588 true _ ?side1 ?side2 ?side3 ?side4 A18.out).mono ?_
 (case side1 => repeat (first | exact (Kd.N_reads' HO586.out).2.2 | (with_reducible refine Kd.C_alloc ?_ _) | (with_reducible refine Kd.C_drewN ?_ _) | (with_reducible refine Kd.C_drew ?_)))
 (case side2 => exact (Kd.N_reads' HO586.out).2.1)
 (case side3 => repeat (first | exact (Kd.N_reads' HO590.out).2.2 | (with_reducible refine Kd.C_alloc ?_ _) | (with_reducible refine Kd.C_drewN ?_ _) | (with_reducible refine Kd.C_drew ?_)))
 (case side4 => exact (Kd.N_reads' HO590.out).2.1)
 rintro e w' ⟨rfl, ⟨nd, rfl⟩⟩
 refine ⟨_, rfl, ?_⟩
 refine hK.out _ _ ⟨(blk_cell BK581.out 0).trans rfl, (blk_cell BK581.out 1).trans rfl⟩ (fun hHeld => ?_)
 clear hK K
 refine norm_ (a' := ?_) ?_ ?_
 rotate_left
 ·show Act.put _ (some 59) _ = _
  simp only [Act.put, List.setIfInBounds_toArray, List.set_cons_zero, List.set_cons_succ, i64_w, i32_w]
  rfl
 refine pureD 14 60 HT_ ?_
 refine pureD 15 61 HT_ ?_
 refine pureD 16 62 HT_ ?_
 refine pureD 17 63 HT_ ?_
 refine pureD 18 64 HT_ ?_
 refine pureD 19 65 HT_ ?_
 refine pureD 20 66 HT_ ?_
 refine pureD 21 67 HT_ ?_
 refine pureD 22 68 HT_ ?_
 refine pureD 23 69 HT_ ?_
 refine pureD 24 70 HT_ ?_
 refine pureD 25 71 HT_ ?_
 refine pureU 26 72 HT_ ?_
 refine pureU 27 73 HT_ ?_
 refine pureU 28 74 HT_ ?_
 refine pureD 29 75 HT_ ?_
 refine pureD 30 6 HT_ ?_
 refine done_ (done_of HT_.out (by kernel_rfl)) ?_
 try go_wp2
 go_ret
 exact ⟨ret1, belB HB.out GE581.out⟩
end Go.Proofs.Ytjemmmemenljbaa.PFold
end
