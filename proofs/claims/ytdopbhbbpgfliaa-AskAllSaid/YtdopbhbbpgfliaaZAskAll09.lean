import Derived.Test.YtdopbhbbpgfliaaZAskAll06
import Derived.Test.YtdopbhbbpgfliaaZAskAll08
import Derived.Laws.Externs
import Derived.Lib.BytesEntry
section
namespace Go.Proofs.Ytdopbhbbpgfliaa.PAsk
open Go.RowKit Go.Proofs.YtdopbhbbpgfliaaW.PrintWords Go.Proofs.YtdopbhbbpgfliaaW.PrintLast Go.Proofs.YtdopbhbbpgfliaaW.PrintMore
attribute [local go_sem] max2_int min2_int max_two min_two max_three min_three max_four min_four   -- for this text's walks alone
set_option linter.unusedVariables false
set_option linter.unusedSimpArgs false
set_option maxHeartbeats 8000000
set_option maxRecDepth 100000
def fold_at.f (k : Nat) (l0_0 : List (S84)) (a0_1 : Int) (a1 : Int) (l2 : List Int) : Option (List Int × Bool) := (key_Read.f k l2).bind fun bt212 => ((grain_Expired.f k l0_0 a0_1 bt212.2.1 a1).bind fun bt219 => ((grain_Step.f k l0_0 a0_1 bt212.2.1 a1).bind fun bt221 => (if 0 ≤ (mx bt212.2.2.1 bt221.1) then (if (mx bt212.2.2.1 bt221.1) < (l0_0.length : Int) then ((grain_Floor.f bt212.2.1 ((rd_T84 l0_0 (mx bt212.2.2.1 bt221.1)).f0)).bind fun bt224 => ((key_Write.f k bt212.1 bt224.1 (mx bt212.2.2.1 bt221.1)).bind fun bt226 => (some (bt226.1, bt219.1)))) else (none)) else (none))))
def fold_at.T5 : Bool × List (List Nat × List Nat) := (true, [([], []), ([0], [0]), ([], []), ([2], [2]), ([], []), ([4], [4]), ([3, 5], [3, 5]), ([6], [6]), ([7], [7]), ([1, 8], [1, 8]), ([9], [9]), ([10], [10]), ([10], [10]), ([0, 1, 2, 3, 4, 5, 6, 7, 8, 9, 10, 11], []), ([13, 11, 9, 0, 1, 2, 3, 4, 5, 6, 7, 8, 9, 10, 11], [11, 13])])
def fold_at.B5 : List Nat := [0, 1, 0, 4, 0, 16, 60, 124, 252, 511, 1023, 2047, 2047, 4095, 12287]
theorem fold_at.tab5 : rtab .any (opsOf Try.f56 5) = fold_at.T5 := by kernel_rfl
theorem fold_at.bits5 : waitsOk fold_at.T5.2 fold_at.B5 = true := by kernel_rfl
theorem fold_at.calls (k : Nat) (A0_0 : Option Addr) (c0_0 : Nat) (l0_0 : List (S84)) (a0_1 : Int) (a1 : Int) (A2 : Option Addr) (c2 : Nat) (l2 : List Int) (r1 : List Int) (r2 : Bool) (w : World) (hr0_0 : Kd.C k84 w A0_0 l0_0.length l0_0) (hc0_0 : l0_0.length ≤ c0_0) (hr2 : Kd.C (Kd.int .u8) w A2 l2.length l2) (hc2 : l2.length ≤ c2) (h : fold_at.f k l0_0 a0_1 a1 l2 = some (r1, r2)) :
  Calls Try.prog 56 #[.agg #[.slice A0_0 l0_0.length c0_0, .int .i64 a0_1], .int .i64 a1, .slice A2 l2.length c2] w fun e w' => ∃ v0_ : Value, e = .returned (.tuple #[v0_, .bool r2]) ∧ Kd.R (Kd.int .u8) 5 w' w.heap.size (fun _ => True) v0_ r1 ∧ Below w.heap.size w w' := by
 have hu24 := Try.underlying24
 have hu70 := Try.underlying70
 have HR0_0 := Aside0.mk hr0_0
 have HC0_0 := Aside0.mk hc0_0
 clear hr0_0 hc0_0
 have HR2 := Aside0.mk hr2
 have HC2 := Aside0.mk hc2
 clear hr2 hc2
 have HB := Aside0.mk (Below.refl w.heap.size w)
 have H : ((key_Read.f k l2).bind fun bt212 => ((grain_Expired.f k l0_0 a0_1 bt212.2.1 a1).bind fun bt219 => ((grain_Step.f k l0_0 a0_1 bt212.2.1 a1).bind fun bt221 => (if 0 ≤ (mx bt212.2.2.1 bt221.1) then (if (mx bt212.2.2.1 bt221.1) < (l0_0.length : Int) then ((grain_Floor.f bt212.2.1 ((rd_T84 l0_0 (mx bt212.2.2.1 bt221.1)).f0)).bind fun bt224 => ((key_Write.f k bt212.1 bt224.1 (mx bt212.2.2.1 bt221.1)).bind fun bt226 => (some (bt226.1, bt219.1)))) else (none)) else (none))))) = some (r1, r2) := h
 clear h
 replace H := bnA H
 obtain ⟨⟨t212, t215, t216, t217⟩, A4, H⟩ := H
 replace H : ((grain_Expired.f k l0_0 a0_1 t215 a1).bind fun bt219 => ((grain_Step.f k l0_0 a0_1 t215 a1).bind fun bt221 => (if 0 ≤ (mx t216 bt221.1) then (if (mx t216 bt221.1) < (l0_0.length : Int) then ((grain_Floor.f t215 ((rd_T84 l0_0 (mx t216 bt221.1)).f0)).bind fun bt224 => ((key_Write.f k t212 bt224.1 (mx t216 bt221.1)).bind fun bt226 => (some (bt226.1, bt219.1)))) else (none)) else (none)))) = some (r1, r2) := H
 replace H := bnA H
 obtain ⟨⟨t219, t220⟩, A5, H⟩ := H
 replace H : ((grain_Step.f k l0_0 a0_1 t215 a1).bind fun bt221 => (if 0 ≤ (mx t216 bt221.1) then (if (mx t216 bt221.1) < (l0_0.length : Int) then ((grain_Floor.f t215 ((rd_T84 l0_0 (mx t216 bt221.1)).f0)).bind fun bt224 => ((key_Write.f k t212 bt224.1 (mx t216 bt221.1)).bind fun bt226 => (some (bt226.1, t219)))) else (none)) else (none))) = some (r1, r2) := H
 replace H := bnA H
 obtain ⟨⟨t221, t222⟩, A6, H⟩ := H
 replace H : (if 0 ≤ (mx t216 t221) then (if (mx t216 t221) < (l0_0.length : Int) then ((grain_Floor.f t215 ((rd_T84 l0_0 (mx t216 t221)).f0)).bind fun bt224 => ((key_Write.f k t212 bt224.1 (mx t216 t221)).bind fun bt226 => (some (bt226.1, t219)))) else (none)) else (none)) = some (r1, r2) := H
 obtain ⟨ji7, hji7⟩ : ∃ j_ : Int, (mx t216 t221) = j_ := ⟨_, rfl⟩
 replace H : (if 0 ≤ (ji7) then (if (ji7) < (l0_0.length : Int) then ((grain_Floor.f t215 ((rd_T84 l0_0 (ji7)).f0)).bind fun bt224 => ((key_Write.f k t212 bt224.1 (ji7)).bind fun bt226 => (some (bt226.1, t219)))) else (none)) else (none)) = some (r1, r2) := by first | (rw [hji7] at H; exact H) | (simp only [hji7] at H ⊢; exact H)
 (try rw [hji7] at A4)
 (try rw [hji7] at A5)
 (try rw [hji7] at A6)
 have hji7_ : (if t216 < t221 then t221 else t216) = ji7 := hji7
 replace H := ifN H
 obtain ⟨c8, H⟩ := H
 have c8b0 := decide_eq_true c8
 clear c8
 replace H := ifN H
 obtain ⟨c9, H⟩ := H
 have c9b0 := decide_eq_true c9
 clear c9
 replace H := bnA H
 obtain ⟨⟨t224, t225⟩, A10, H⟩ := H
 replace H : ((key_Write.f k t212 t224 (ji7)).bind fun bt226 => (some (bt226.1, t219))) = some (r1, r2) := H
 replace H := bnA H
 obtain ⟨⟨t226, t229⟩, A11, H⟩ := H
 replace H : (some (t226, t219)) = some (r1, r2) := H
 simp only [Option.some.injEq, Prod.mk.injEq] at H
 obtain ⟨rfl, rfl⟩ := H
 go_enter Try.func56, Try.ntmps56
 try go_wp2_with (first | ((with_reducible refine gate_dst (N := 3) rfl ?_); refine boxA 3 #[.slice A0_0 l0_0.length c0_0, .int .i64 a0_1] 24 ?_; intro gb211 hg w12 hbox hb; have BK211 := Aside0.mk (hbox); have GE211 := ge1 hg (belA HB.out); replace HB := bst HB hb; clear hb hbox hg) | ((with_reducible refine gate_callee (f := 40) rfl ?_); refine goesL_ (some 14) rfl rfl Try.func40 (by kernel_rfl) rfl #[.slice A2 l2.length c2] rfl argA ?_; (with_reducible refine (key_Read.calls k _ _ l2 t212 t215 t216 t217 _ ?side1 ?side2 A4.out).mono ?_); (case side1 => exact cb1 HR2 HB); (case side2 => exact HC2.out); rintro e w13 ⟨v213, rfl, ho0, hb⟩; refine ⟨_, rfl, ?_⟩; have HO214 := Aside0.mk (Kd.R_lower ho0 (below_size (belB HB.out GE211.out))); replace BK211 := blkB BK211 hb; replace HB := bs2 HB GE211 hb; (try clear hb); (try clear ho0)) | ((with_reducible refine gate_dst (N := 8) rfl ?_); refine boxA 8 #[.slice none 0 0, .int .i64 0, .int .i64 0] 70 ?_; intro gb218 hg w14 hbox hb; have BK218 := Aside0.mk (hbox); have GW218 := ge1 hg (belB HB.out GE211.out); have GE218 := GW218; have NB211_218 := neL hg BK211; have NB218_211 := neR hg BK211; replace HO214 := Aside0.mk (Kd.R_below (rowA HO214.out) hb); replace BK211 := blkB BK211 hb; replace HB := bs2 HB GE211 hb; clear hb hbox hg; obtain ⟨Ao15, co15, eo15⟩ := Kd.R_slice HO214.out; subst eo15; have hnb16 := NB218_211.out; have hnc16 := NB211_218.out; obtain ⟨hcz17_0, hcz17_1, hcz17_2, hfz17_0, hfz17_1, hfz17_2⟩ := blk3 BK218; obtain ⟨hcz18_0, hcz18_1, hfz18_0, hfz18_1⟩ := blk2 BK211) | ((with_reducible refine gate_callee (f := 18) rfl ?_); refine goesL_ (some 22) rfl rfl Try.func18 (by kernel_rfl) rfl #[.agg #[.slice A0_0 l0_0.length c0_0, .int .i64 a0_1], .int .i64 t215, .int .i64 a1] rfl argA ?_; (with_reducible refine (grain_Expired.calls k _ _ l0_0 a0_1 t215 a1 t219 t220 _ ?side1 ?side2 A5.out).mono ?_); (case side1 => exact Kd.C_below HR0_0.out (belC HB.out GE211.out GE218.out)); (case side2 => exact HC0_0.out); rintro e w19 ⟨rfl, hb⟩; refine ⟨_, rfl, ?_⟩; replace HO214 := Aside0.mk (Kd.R_below (by (with_reducible repeat (first | apply Kd.R_alloc | apply Kd.R_drewN | apply Kd.R_drew)); exact (Kd.R_mono (Kd.R_far (p := ⟨gb218, 2, none⟩) (Kd.R_far (p := ⟨gb218, 1, none⟩) (Kd.R_far (p := ⟨gb218, 0, none⟩) (Kd.R_types HO214.out BK218.out (by decide)) (fun _ hk => hk.2) (.slice Ao15 t212.length co15)) (fun _ hk => hk.2) (.int .i64 t215)) (fun _ hk => hk.2) (.int .i64 t216)) (fun _ h_ => h_.1))) hb); replace BK211 := Aside0.mk (blk_below (g := gb211) (o := .cells #[.slice A0_0 l0_0.length c0_0, .int .i64 a0_1] 24 (0, 0)) (putB BK211.out NB211_218.out) hb); replace BK218 := Aside0.mk (blk_below (g := gb218) (o := .cells #[.slice Ao15 t212.length co15, .int .i64 t215, .int .i64 t216] 70 (0, 0)) (putA BK218.out) hb); replace HB := bs3 HB GE211 GE218 hb; (try clear hb); obtain ⟨hcz20_0, hcz20_1, hfz20_0, hfz20_1⟩ := blk2 BK211; obtain ⟨hcz21_0, hcz21_1, hcz21_2, hfz21_0, hfz21_1, hfz21_2⟩ := blk3 BK218) | ((with_reducible refine gate_callee (f := 82) rfl ?_); refine goesL_ (some 30) rfl rfl Try.func82 (by kernel_rfl) rfl #[.agg #[.slice A0_0 l0_0.length c0_0, .int .i64 a0_1], .int .i64 t215, .int .i64 a1] rfl argA ?_; (with_reducible refine (grain_Step.calls k _ _ l0_0 a0_1 t215 a1 t221 t222 _ ?side1 ?side2 A6.out).mono ?_); (case side1 => exact cb1 HR0_0 HB); (case side2 => exact HC0_0.out); rintro e w22 ⟨rfl, hb⟩; refine ⟨_, rfl, ?_⟩; replace HO214 := Aside0.mk (Kd.R_below (rowA HO214.out) hb); replace BK211 := blkB BK211 hb; replace BK218 := blkB BK218 hb; replace HB := bs3 HB GE211 GE218 hb; (try clear hb); obtain ⟨hcz23_0, hcz23_1, hcz23_2, hfz23_0, hfz23_1, hfz23_2⟩ := blk3 BK218))
 have n0_ : Aside0 (Kd.R Kd.string 9 (w22.setCell ⟨gb218, 2, none⟩ (.int .i64 ji7)) w.heap.size (fun _ => True) (.slice Ao15 t212.length co15) t212) := ⟨by (with_reducible repeat (first | apply Kd.R_alloc | apply Kd.R_drewN | apply Kd.R_drew)); exact Kd.R_mono (Kd.R_far (p := ⟨gb218, 2, none⟩) (Kd.R_types HO214.out BK218.out (by decide)) (fun _ hk => hk.2) (.int .i64 ji7)) (fun _ hk => trivial)⟩
 have n1_ : Aside0 ((w22.setCell ⟨gb218, 2, none⟩ (.int .i64 ji7)).heap[gb211]? = some (.cells #[.slice A0_0 l0_0.length c0_0, .int .i64 a0_1] 24 (0, 0))) := ⟨putB BK211.out NB211_218.out⟩
 have n2_ : Aside0 ((w22.setCell ⟨gb218, 2, none⟩ (.int .i64 ji7)).heap[gb218]? = some (.cells #[.slice Ao15 t212.length co15, .int .i64 t215, .int .i64 ji7] 70 (0, 0))) := ⟨putA BK218.out⟩
 have n3_ : Aside0 (Below w.heap.size w (w22.setCell ⟨gb218, 2, none⟩ (.int .i64 ji7))) := ⟨belC HB.out GE211.out GE218.out⟩
 (try clear HO214)
 (try clear BK211)
 (try clear BK218)
 (try clear HB)
 generalize (w22.setCell ⟨gb218, 2, none⟩ (.int .i64 ji7)) = w24 at n0_ n1_ n2_ n3_ ⊢
 have HO214 := n0_
 have BK211 := n1_
 have BK218 := n2_
 have HB := n3_
 clear n0_ n1_ n2_ n3_
 replace HO214 := Aside0.mk (Kd.R_drew HO214.out)
 replace BK211 := Aside0.mk (blk_drew BK211.out)
 replace BK218 := Aside0.mk (blk_drew BK218.out)
 replace HB := Aside0.mk (below_drew1 HB.out)
 have p223 : 0 ≤ ((ji7) : Int) := of_decide_eq_true asmA
 have q223 : (ji7) < (l0_0.length : Int) := of_decide_eq_true asmA
 obtain ⟨ad223, e223, hx223_0, hx223_1⟩ := at_T84 HR0_0.out (ji7) p223 q223
 have hw223_1 := hx223_1
 have hw223_0 := hx223_0
 cases e223
 replace hx223_0 := cbx HB hx223_0
 replace hx223_1 := cbx HB hx223_1
 replace p223 := eq_true p223
 replace q223 := eq_true q223
 refine start_ (n := 15) (S := fun w' => w'.cell? ⟨gb218, 0, none⟩ = some (.slice Ao15 t212.length co15) ∧ w'.cell? ⟨gb218, 1, none⟩ = some (.int .i64 t215) ∧ w'.cell? ⟨gb218, 2, none⟩ = some (.int .i64 ji7) ∧ w'.cell? ⟨gb211, 0, none⟩ = some (.slice (some ad223) l0_0.length c0_0) ∧ w'.cell? ⟨gb211, 1, none⟩ = some (.int .i64 a0_1) ∧ w'.cell? (ad223.add (((ji7)).toNat * 2)) = some (.int .i64 ((rd_T84 l0_0 (ji7)).f0)) ∧ w'.cell? ⟨(ad223.add (((ji7)).toNat * 2)).block, (ad223.add (((ji7)).toNat * 2)).off + 1, none⟩ = some (.int .i64 ((rd_T84 l0_0 (ji7)).f1))) (ds := [14]) #[false, false, false, false, false, false, false, false, false, false, false, false, false, false, false] (by kernel_rfl) rfl rfl ⟨(blk_cell BK218.out 0).trans rfl, (blk_cell BK218.out 1).trans rfl, (blk_cell BK218.out 2).trans rfl, (blk_cell BK211.out 0).trans rfl, (blk_cell BK211.out 1).trans rfl, ((HB.out.cell (World.block_lt_of_cell? w _ hw223_0)).trans hw223_0), ((HB.out.cell (World.block_lt_of_cell? w _ hw223_1)).trans hw223_1)⟩ (fun hHeld => ?_); refine with_tabW fold_at.tab5 fold_at.bits5 (fun HT_ HW_ => ?_)
 generalize w24.drew = w25 at HO214 BK211 BK218 HB hx223_0 hx223_1 hHeld ⊢
 refine pureD 0 39 HT_ ?_
 refine pureD 2 41 HT_ ?_
 refine pureD 4 43 HT_ ?_
 refine takeD 1 40 HT_ HW_ hHeld ?_
 refine takeD 3 42 HT_ HW_ hHeld ?_
 refine takeD 5 44 HT_ HW_ hHeld ?_
 refine pureD 6 45 HT_ ?_
 refine pureD 7 46 HT_ ?_
 refine takeD 8 47 HT_ HW_ hHeld ?_
 refine one_ (i := 9) (N := some 48) #[true, true, true, true, true, true, true, true, true, true, false, false, false, false, false] rfl rfl (one_of HT_.out (by kernel_rfl)) (by decide) (fun K hK => ?_)
 refine goes_ Try.func83 (by kernel_rfl) rfl #[.int .i64 t215, .int .i64 ((rd_T84 l0_0 (ji7)).f0)] (by rfl) rfl rfl (by (try simp only [List.map_toArray, List.map_cons, List.map_nil]); first | done | (simp only [hji7]; rfl) | rfl | (simp only [List.length_drop, List.length_take]; rfl)) ?_
 with_reducible refine (grain_Floor.calls t215 ((rd_T84 l0_0 (ji7)).f0) t224 t225 _ A10.out).mono ?_
 rintro e w' ⟨rfl, ⟨nd, rfl⟩⟩
 refine ⟨_, rfl, ?_⟩
 refine hK.out _ _ ⟨(blk_cell BK218.out 0).trans rfl, (blk_cell BK218.out 1).trans rfl, (blk_cell BK218.out 2).trans rfl, (blk_cell BK211.out 0).trans rfl, (blk_cell BK211.out 1).trans rfl, ((HB.out.cell (World.block_lt_of_cell? w _ hw223_0)).trans hw223_0), ((HB.out.cell (World.block_lt_of_cell? w _ hw223_1)).trans hw223_1)⟩ (fun hHeld => ?_)
 clear hK K
 refine norm_ (a' := ?_) ?_ ?_
 rotate_left
 ·show Act.put _ (some 48) _ = _
  simp only [Act.put, List.setIfInBounds_toArray, List.set_cons_zero, List.set_cons_succ, i64_w, i32_w]
  rfl
 refine pureD 10 38 HT_ ?_
 refine pureD 11 49 HT_ ?_
 refine pureD 12 50 HT_ ?_
 refine pureD 13 51 HT_ ?_
 refine last_ (i := 14) (N := none) #[true, true, true, true, true, true, true, true, true, true, true, true, true, true, true] rfl rfl (one_of HT_.out (by kernel_rfl)) (by decide) (fun K hK => ?_)
 have hs26 : w25.cell? ⟨gb218, 1, none⟩ = some (.int .i64 t215) := (blk_cell BK218.out 1).trans rfl
 have hfs26 := blk_frozen BK218.out 1
 have hns26_0 := NB211_218.out
 have hms26_0 := NB218_211.out
 refine skip_ (w1 := ?_) (by rfl) rfl ?_ ?_
 rotate_left
 ·go_simp
  rfl
 refine hK.out _ _ ?_
 clear hK K
 refine done_ (done_of HT_.out (by kernel_rfl)) ?_
 obtain ⟨hcz27_0, hcz27_1, hcz27_2, hfz27_0, hfz27_1, hfz27_2⟩ := blk3 BK218
 try go_wp2_with (first | ((with_reducible refine gate_callee (f := 84) rfl ?_); refine goesL_ (some 54) rfl rfl Try.func84 (by kernel_rfl) rfl #[.agg #[.slice Ao15 t212.length co15, .int .i64 t224, .int .i64 ji7]] rfl (by (try simp only [List.map_toArray, List.map_cons, List.map_nil]); first | done | (simp only [hji7]; rfl) | rfl | (simp only [List.length_drop, List.length_take]; rfl)) ?_; (with_reducible refine (key_Write.calls k _ _ t212 t224 ji7 t226 t229 _ ?side1 ?side2 A11.out).mono ?_); (case side1 => refine (Kd.R_reads' (e := 9) (base := w.heap.size) (ok := fun k_ => True) (n := t212.length) (c := co15) ?_).2.2; exact (by (with_reducible repeat (first | apply Kd.R_alloc | apply Kd.R_drewN | apply Kd.R_drew)); exact (Kd.R_mono (Kd.R_far (p := ⟨gb218, 1, none⟩) (Kd.R_types HO214.out BK218.out (by decide)) (fun _ hk => hk.2) (.int .i64 t224)) (fun _ h_ => h_.1)))); (case side2 => exact (Kd.R_reads' HO214.out).2.1); rintro e w28 ⟨v227, rfl, ho0, hb⟩; refine ⟨_, rfl, ?_⟩; have HO228 := Aside0.mk (Kd.R_lower ho0 (below_size (belC HB.out GE211.out GE218.out))); replace HO214 := Aside0.mk (Kd.R_below (by (with_reducible repeat (first | apply Kd.R_alloc | apply Kd.R_drewN | apply Kd.R_drew)); exact (Kd.R_mono (Kd.R_far (p := ⟨gb218, 1, none⟩) (Kd.R_types HO214.out BK218.out (by decide)) (fun _ hk => hk.2) (.int .i64 t224)) (fun _ h_ => h_.1))) hb); replace BK211 := Aside0.mk (blk_below (g := gb211) (o := .cells #[.slice (some ad223) l0_0.length c0_0, .int .i64 a0_1] 24 (0, 0)) (putB BK211.out NB211_218.out) hb); replace BK218 := Aside0.mk (blk_below (g := gb218) (o := .cells #[.slice Ao15 t212.length co15, .int .i64 t224, .int .i64 ji7] 70 (0, 0)) (putA BK218.out) hb); replace HB := bs3 HB GE211 GE218 hb; (try clear hb); (try clear ho0)))
 go_ret2
 exact ⟨_, by first | rfl | (simp [errW_none, errW_some] <;> rfl) | (simp only [← hji7]; first | rfl | (simp [errW_none, errW_some] <;> rfl)) | (simp [*, errW_none, errW_some] <;> rfl) | (exfalso; simp_all; done), rowA HO228.out, belC HB.out GE211.out GE218.out⟩
end Go.Proofs.Ytdopbhbbpgfliaa.PAsk
end
section
namespace Go.Proofs.Ytdopbhbbpgfliaa.PAsk
open Go.RowKit Go.Proofs.YtdopbhbbpgfliaaW.PrintWords Go.Proofs.YtdopbhbbpgfliaaW.PrintLast Go.Proofs.YtdopbhbbpgfliaaW.PrintMore
set_option linter.unusedVariables false
set_option linter.unusedSimpArgs false
set_option maxHeartbeats 8000000
set_option maxRecDepth 100000
def cmpB : List Int → List Int → Int
  | [], [] => 0
  | [], _ :: _ => -1
  | _ :: _, [] => 1
  | a :: x, b :: y => if a < b then -1 else if b < a then 1 else cmpB x y
def isB (x : Int) : Bool := decide (0 ≤ x) && decide (x ≤ 255)
theorem isB_iff {x : Int} : isB x = true ↔ 0 ≤ x ∧ x ≤ 255 := by unfold isB; simp
theorem u8_lt {a b : Int} (ha : isB a = true) (hb : isB b = true) : (a.toNat.toUInt8 < b.toNat.toUInt8) ↔ a < b := by
  rw [isB_iff] at ha hb
  rw [UInt8.lt_iff_toNat_lt]
  simp
  omega
theorem compare_eq (x : List Int) : ∀ y : List Int, x.all isB = true → y.all isB = true → Go.Lib.compareBytes (Go.Lib.bytesOf x) (Go.Lib.bytesOf y) = cmpB x y := by
  induction x with
  | nil =>
    intro y _ _
    cases y <;> rfl
  | cons a x ih =>
    intro y hx hy
    cases y with
    | nil => rfl
    | cons b y =>
      rw [List.all_cons, Bool.and_eq_true_iff] at hx hy
      have h1 := u8_lt hx.1 hy.1
      have h2 := u8_lt hy.1 hx.1
      show (if a.toNat.toUInt8 < b.toNat.toUInt8 then (-1 : Int) else if b.toNat.toUInt8 < a.toNat.toUInt8 then 1 else Go.Lib.compareBytes (Go.Lib.bytesOf x) (Go.Lib.bytesOf y)) = if a < b then -1 else if b < a then 1 else cmpB x y
      simp only [h1, h2, ih y hx.2 hy.2]
theorem C_u8 {w : World} {A : Option Addr} {n : Nat} {xs : List Int} (h : Kd.C (Kd.int .u8) w A n xs) (hn : 0 < n) : ∃ ad, A = some ad ∧ ∀ j x, xs[j]? = some x → w.cell? (ad.add j) = some (.int .u8 x) := by
  obtain ⟨ad, e, hc⟩ := h.2.2 hn
  refine ⟨ad, e, fun j x hj => ?_⟩
  obtain ⟨c, _, h2, h3⟩ := hc j x hj
  have h4 : c = [.int .u8 x] := h2
  have := h3 0 (.int .u8 x) (by rw [h4]; rfl)
  simpa [show (Kd.int .u8).sz = 1 from rfl] using this
theorem run_bytes {P : Program} {w : World} {A : Option Addr} {c : Nat} {xs : List Int} (h : Kd.C (Kd.int .u8) w A xs.length xs) : (Extern.Bytes.bytesOf (.slice A xs.length c)).run P w = .ok ⟨(Go.Lib.bytesOf xs).toArray⟩ w := by
  cases A with
  | none =>
    have h0 : xs = [] := by
      rcases Nat.eq_zero_or_pos xs.length with h' | h'
      · exact List.length_eq_zero_iff.1 h'
      · obtain ⟨ad, e, _⟩ := C_u8 h h'
        cases e
    subst h0
    rfl
  | some a =>
    have := Go.Lib.run_loadBytesX (P := P) w xs a .empty (fun j x hj => by
      have hl : j < xs.length := (List.getElem?_eq_some_iff.1 hj).1
      obtain ⟨ad, e, hc⟩ := C_u8 h (by omega)
      cases e
      exact hc j x hj)
    show (Extern.Bytes.loadBytes a xs.length .empty).run P w = _
    rw [this]
    congr 1
    apply ByteArray.ext
    show (#[] : Array UInt8) ++ (Go.Lib.bytesOf xs).toArray = (Go.Lib.bytesOf xs).toArray
    simp
theorem run_compare {P : Program} {w : World} {A A' : Option Addr} {c c' : Nat} {xs ys : List Int} (h : Kd.C (Kd.int .u8) w A xs.length xs) (h' : Kd.C (Kd.int .u8) w A' ys.length ys) (hx : xs.all isB = true) (hy : ys.all isB = true) :
    (Extern.BytealgCompare.compare #[.slice A xs.length c, .slice A' ys.length c']).run P w = .ok (.int .i64 (cmpB xs ys)) w := by
  change Sem.run P (do pure (goInt (Extern.BytealgCompare.cmp (← Extern.Bytes.bytesOf (.slice A xs.length c)) (← Extern.Bytes.bytesOf (.slice A' ys.length c'))))) w = _
  simp only [Sem.run_bind, Sem.run_pure, run_bytes h, run_bytes h', Result.andThen]
  rw [Go.Lib.cmp_eq]
  simp only [compare_eq xs ys hx hy]
  rfl
def bytes_Compare.f (l0 l1 : List Int) : Option Int := if l0.all isB = true ∧ l1.all isB = true then some (cmpB l0 l1) else none
theorem bytes_Compare.calls (A0 : Option Addr) (c0 : Nat) (l0 : List Int) (A1 : Option Addr) (c1 : Nat) (l1 : List Int) (r : Int) (w : World) (hr0 : Kd.C (Kd.int .u8) w A0 l0.length l0) (_ : l0.length ≤ c0) (hr1 : Kd.C (Kd.int .u8) w A1 l1.length l1) (_ : l1.length ≤ c1) (h : bytes_Compare.f l0 l1 = some r) :
    Calls Try.prog 59 #[.slice A0 l0.length c0, .slice A1 l1.length c1] w fun e w' => e = .returned (.int .i64 r) ∧ Drawn0 w w' := by
  unfold bytes_Compare.f at h
  by_cases hb : l0.all isB = true ∧ l1.all isB = true
  case neg => rw [if_neg hb] at h; cases h
  rw [if_pos hb] at h
  have H := Lib.hid (Option.some.inj h)
  have hrun : (callFunc 85 #[.slice A0 l0.length c0, .slice A1 l1.length c1]).run Try.prog w = .ok (.value (.int .i64 (cmpB l0 l1))) w := by
    rw [run_callFunc_extern Try.func85 (by kernel_rfl) (by kernel_rfl) (by kernel_rfl) (e := Extern.BytealgCompare.compare) (by kernel_rfl), run_compare hr0 hr1 hb.1 hb.2]
    rfl
  clear hb h hr0 hr1
  go_enter Try.func59, Try.ntmps59
  go_wp2
  go_ret
  rw [H.out]
  exact ⟨rfl, Drawn0.refl _⟩
end Go.Proofs.Ytdopbhbbpgfliaa.PAsk
end
section
namespace Go.Proofs.Ytdopbhbbpgfliaa.PAsk
open Go.RowKit Go.Proofs.YtdopbhbbpgfliaaW.PrintWords Go.Proofs.YtdopbhbbpgfliaaW.PrintLast Go.Proofs.YtdopbhbbpgfliaaW.PrintMore
attribute [local go_sem] max2_int min2_int max_two min_two max_three min_three max_four min_four   -- for this text's walks alone
set_option linter.unusedVariables false
set_option linter.unusedSimpArgs false
attribute [local go_sem high] eqA42
set_option maxHeartbeats 8000000
set_option maxRecDepth 100000
def agg_Right.f (a0_0 : Int) (a0_1 : Bool) (a0_2 : Int) (a0_3 : Int) (a0_4 : Int) (a0_5 : Int) : Option (Bool) := if a0_0 = 0 then (some (a0_0 == 0 && (!a0_1 && ((a0_2 == 0 && (a0_3 == 0)) && (a0_4 == 0 && (a0_5 == 0)))))) else (if a0_4 ≤ a0_5 then (if a0_1 = true then (some (a0_0 == 18446744073709551615)) else (some true)) else (some false))
theorem agg_Right.calls (a0_0 : Int) (a0_1 : Bool) (a0_2 : Int) (a0_3 : Int) (a0_4 : Int) (a0_5 : Int) (r : Bool) (w : World) (h : agg_Right.f a0_0 a0_1 a0_2 a0_3 a0_4 a0_5 = some r) :
  Calls Try.prog 104 #[.agg #[.int .u64 a0_0, .bool a0_1, .int .i64 a0_2, .int .u64 a0_3, .int .i64 a0_4, .int .i64 a0_5]] w fun e w' => e = .returned (.bool r) ∧ Below w.heap.size w w' := by
 have hu42 := Try.underlying42
 have HB := Aside0.mk (Below.refl w.heap.size w)
 have H : (if a0_0 = 0 then (some (a0_0 == 0 && (!a0_1 && ((a0_2 == 0 && (a0_3 == 0)) && (a0_4 == 0 && (a0_5 == 0)))))) else (if a0_4 ≤ a0_5 then (if a0_1 = true then (some (a0_0 == 18446744073709551615)) else (some true)) else (some false))) = some r := h
 clear h
 by_cases c2 : a0_0 = 0
 ·rw [if_pos c2] at H
  have c2b0 := beq_iff_eq.mpr c2
  have c2b1 := bne_eq_false_iff_eq.mpr c2
  clear c2
  obtain rfl := Option.some.inj H
  go_enter Try.func104, Try.ntmps104
  go_wp2_with (first | ((with_reducible refine gate_dst (N := 1) rfl ?_); refine boxA 1 #[.int .u64 a0_0, .bool a0_1, .int .i64 a0_2, .int .u64 a0_3, .int .i64 a0_4, .int .i64 a0_5] 42 ?_; intro gb722 hg w3 hbox hb; have BK722 := Aside0.mk (hbox); have GE722 := ge1 hg (belA HB.out); replace HB := bst HB hb; clear hb hbox hg; obtain ⟨hcz4_0, hcz4_1, hcz4_2, hcz4_3, hcz4_4, hcz4_5, hfz4_0, hfz4_1, hfz4_2, hfz4_3, hfz4_4, hfz4_5⟩ := blk6 BK722))
  go_ret
  exact ⟨ret1, belB HB.out GE722.out⟩
 rw [if_neg c2] at H
 have c2b0 := beq_eq_false_iff_ne.mpr c2
 have c2b1 := bne_iff_ne.mpr c2
 by_cases c5 : a0_4 ≤ a0_5
 rotate_left
 ·rw [if_neg c5] at H
  have c5b0 := decide_eq_false c5
  clear c5
  obtain rfl := Option.some.inj H
  go_enter Try.func104, Try.ntmps104
  go_wp2_with (first | ((with_reducible refine gate_dst (N := 1) rfl ?_); refine boxA 1 #[.int .u64 a0_0, .bool a0_1, .int .i64 a0_2, .int .u64 a0_3, .int .i64 a0_4, .int .i64 a0_5] 42 ?_; intro gb722 hg w11 hbox hb; have BK722 := Aside0.mk (hbox); have GE722 := ge1 hg (belA HB.out); replace HB := bst HB hb; clear hb hbox hg; obtain ⟨hcz12_0, hcz12_1, hcz12_2, hcz12_3, hcz12_4, hcz12_5, hfz12_0, hfz12_1, hfz12_2, hfz12_3, hfz12_4, hfz12_5⟩ := blk6 BK722))
  go_ret
  exact ⟨ret1, belB HB.out GE722.out⟩
 rw [if_pos c5] at H
 have c5b0 := decide_eq_true c5
 clear c5
 by_cases c6 : a0_1 = true
 ·subst c6
  have H1 : (some (a0_0 == 18446744073709551615)) = some r := by rw [if_pos rfl] at H; exact H
  clear H
  have H := H1
  clear H1
  obtain rfl := Option.some.inj H
  go_enter Try.func104, Try.ntmps104
  go_wp2_with (first | ((with_reducible refine gate_dst (N := 1) rfl ?_); refine boxA 1 #[.int .u64 a0_0, .bool true, .int .i64 a0_2, .int .u64 a0_3, .int .i64 a0_4, .int .i64 a0_5] 42 ?_; intro gb722 hg w7 hbox hb; have BK722 := Aside0.mk (hbox); have GE722 := ge1 hg (belA HB.out); replace HB := bst HB hb; clear hb hbox hg; obtain ⟨hcz8_0, hcz8_1, hcz8_2, hcz8_3, hcz8_4, hcz8_5, hfz8_0, hfz8_1, hfz8_2, hfz8_3, hfz8_4, hfz8_5⟩ := blk6 BK722))
  go_ret
  exact ⟨ret1, belB HB.out GE722.out⟩
 replace c6 := Bool.eq_false_iff.mpr c6
 subst c6
 have H1 : (some true) = some r := by rw [if_neg (show ¬ (false = true) by decide)] at H; exact H
 clear H
 have H := H1
 clear H1
 obtain rfl := Option.some.inj H
 go_enter Try.func104, Try.ntmps104
 go_wp2_with (first | ((with_reducible refine gate_dst (N := 1) rfl ?_); refine boxA 1 #[.int .u64 a0_0, .bool false, .int .i64 a0_2, .int .u64 a0_3, .int .i64 a0_4, .int .i64 a0_5] 42 ?_; intro gb722 hg w9 hbox hb; have BK722 := Aside0.mk (hbox); have GE722 := ge1 hg (belA HB.out); replace HB := bst HB hb; clear hb hbox hg; obtain ⟨hcz10_0, hcz10_1, hcz10_2, hcz10_3, hcz10_4, hcz10_5, hfz10_0, hfz10_1, hfz10_2, hfz10_3, hfz10_4, hfz10_5⟩ := blk6 BK722))
 go_ret
 exact ⟨ret1, belB HB.out GE722.out⟩
end Go.Proofs.Ytdopbhbbpgfliaa.PAsk
end
section
namespace Go.Proofs.Ytdopbhbbpgfliaa.PAsk
open Go.RowKit Go.Proofs.YtdopbhbbpgfliaaW.PrintWords Go.Proofs.YtdopbhbbpgfliaaW.PrintLast Go.Proofs.YtdopbhbbpgfliaaW.PrintMore
set_option linter.unusedVariables false
set_option linter.unusedSimpArgs false
set_option maxHeartbeats 8000000
set_option maxRecDepth 100000
def fold_fits.f (k : Nat) (l0_0 : List S84) (_ : Int) (l1_0 : List Int) (a1_1 : Int) (a1_2 : Bool) (a1_3 : Int) (a1_4 : Int) (a1_5 : Int) (a1_6 : Int) : Option (Bool) := (key_Read.f k l1_0).bind fun bt666 => (if bt666.2.2.2 = 0 then (if bt666.2.2.1 < (l0_0.length : Int) then (if 0 ≤ bt666.2.2.1 then (if ((rd_T84 l0_0 bt666.2.2.1).f0) = 0 then (none) else (if (Int.tmod bt666.2.1 ((rd_T84 l0_0 bt666.2.2.1).f0)) = 0 then (if a1_1 = 0 then (some false) else ((agg_Right.f a1_1 a1_2 a1_3 a1_4 a1_5 a1_6).bind fun t674 => (some t674))) else (some false))) else (none)) else (some false)) else (some false))
theorem fold_fits.calls (k : Nat) (A0_0 : Option Addr) (c0_0 : Nat) (l0_0 : List S84) (a0_1 : Int) (A1_0 : Option Addr) (c1_0 : Nat) (l1_0 : List Int) (a1_1 : Int) (a1_2 : Bool) (a1_3 : Int) (a1_4 : Int) (a1_5 : Int) (a1_6 : Int) (r : Bool) (w : World) (hr0_0 : Kd.C k84 w A0_0 l0_0.length l0_0) (hc0_0 : l0_0.length ≤ c0_0) (hr1_0 : Kd.C (Kd.int .u8) w A1_0 l1_0.length l1_0) (hc1_0 : l1_0.length ≤ c1_0) (h : fold_fits.f k l0_0 a0_1 l1_0 a1_1 a1_2 a1_3 a1_4 a1_5 a1_6 = some r) :
    Calls Try.prog 99 #[.agg #[.slice A0_0 l0_0.length c0_0, .int .i64 a0_1], .agg #[.slice A1_0 l1_0.length c1_0, .int .u64 a1_1, .bool a1_2, .int .i64 a1_3, .int .u64 a1_4, .int .i64 a1_5, .int .i64 a1_6]] w fun e w' => e = .returned (.bool r) ∧ Below w.heap.size w w' := by
  have HG := Lib.hid hr0_0; have HC := Lib.hid hr1_0; clear hr0_0 hr1_0
  unfold fold_fits.f at h
  obtain ⟨⟨ds, fr, g, er⟩, hk, h2⟩ := Option.bind_eq_some_iff.mp h
  have HK := Lib.hid hk; clear h hk
  simp only at h2
  have HBX := Lib.hid (blk_new w (.cells #[.slice A0_0 l0_0.length c0_0, .int .i64 a0_1] 24))
  have HB0 : Hid (Below w.heap.size w (w.alloc (.cells #[.slice A0_0 l0_0.length c0_0, .int .i64 a0_1] 24))) := Lib.hid (below_alloc (Below.refl _ _) _)
  have HBY : Hid (((w.alloc (.cells #[.slice A0_0 l0_0.length c0_0, .int .i64 a0_1] 24)).alloc (.cells #[.slice A1_0 l1_0.length c1_0, .int .u64 a1_1, .bool a1_2, .int .i64 a1_3, .int .u64 a1_4, .int .i64 a1_5, .int .i64 a1_6] 60)).heap[w.heap.size + 1]? = some (.cells #[.slice A1_0 l1_0.length c1_0, .int .u64 a1_1, .bool a1_2, .int .i64 a1_3, .int .u64 a1_4, .int .i64 a1_5, .int .i64 a1_6] 60 (0, 0))) := Lib.hid (by
    have := blk_new (w.alloc (.cells #[.slice A0_0 l0_0.length c0_0, .int .i64 a0_1] 24)) (.cells #[.slice A1_0 l1_0.length c1_0, .int .u64 a1_1, .bool a1_2, .int .i64 a1_3, .int .u64 a1_4, .int .i64 a1_5, .int .i64 a1_6] 60)
    simpa using this)
  by_cases he : er = 0
  case neg =>
    rw [if_neg he] at h2
    obtain rfl := Option.some.inj h2
    clear h2
    have e1 : (er == 0) = false := beq_eq_false_iff_ne.mpr he
    clear he
    go_enter Try.func99, Try.ntmps99
    go_wp2_with (go_at_call 40; refine (key_Read.calls k A1_0 c1_0 l1_0 _ _ _ _ _ (Kd.C_below HC.out (below_alloc HB0.out _)) hc1_0 HK.out).mono ?_; rintro e w1 ⟨v0, rfl, hr, hb⟩; obtain ⟨Av, cv, hv⟩ := Kd.R_slice hr; subst hv; have HB1 := Lib.hid (below_step (below_alloc HB0.out (.cells #[.slice A1_0 l1_0.length c1_0, .int .u64 a1_1, .bool a1_2, .int .i64 a1_3, .int .u64 a1_4, .int .i64 a1_5, .int .i64 a1_6] 60)) hb); clear hr hb)
    go_quiet (fail)
    go_wp2
    go_ret
    exact ⟨rfl, pw_below_drewN (below_alloc HB1.out _) _⟩
  case pos =>
    subst he
    rw [if_pos rfl] at h2
    have e1 : ((0 : Int) == 0) = true := rfl
    by_cases hg : g < (l0_0.length : Int)
    case neg =>
      rw [if_neg hg] at h2
      obtain rfl := Option.some.inj h2
      clear h2
      have e2 : decide (g < (l0_0.length : Int)) = false := decide_eq_false hg
      clear hg
      go_enter Try.func99, Try.ntmps99
      go_wp2_with (go_at_call 40; refine (key_Read.calls k A1_0 c1_0 l1_0 _ _ _ _ _ (Kd.C_below HC.out (below_alloc HB0.out _)) hc1_0 HK.out).mono ?_; rintro e w1 ⟨v0, rfl, hr, hb⟩; obtain ⟨Av, cv, hv⟩ := Kd.R_slice hr; subst hv; have HB1 := Lib.hid (below_step (below_alloc HB0.out (.cells #[.slice A1_0 l1_0.length c1_0, .int .u64 a1_1, .bool a1_2, .int .i64 a1_3, .int .u64 a1_4, .int .i64 a1_5, .int .i64 a1_6] 60)) hb); have hq1 := (blk_cell (blk_new w1 (.cells #[.slice Av ds.length cv, .int .i64 fr, .int .i64 g] 70)) 1).trans (show _ = some (Value.int .i64 fr) from rfl); have hq2 := (blk_cell (blk_new w1 (.cells #[.slice Av ds.length cv, .int .i64 fr, .int .i64 g] 70)) 2).trans (show _ = some (Value.int .i64 g) from rfl); have hbx := blk_alloc (blk_below (blk_alloc HBX.out (.cells #[.slice A1_0 l1_0.length c1_0, .int .u64 a1_1, .bool a1_2, .int .i64 a1_3, .int .u64 a1_4, .int .i64 a1_5, .int .i64 a1_6] 60)) hb) (.cells #[.slice Av ds.length cv, .int .i64 fr, .int .i64 g] 70); have hby := blk_alloc (blk_below HBY.out hb) (.cells #[.slice Av ds.length cv, .int .i64 fr, .int .i64 g] 70); have hp0 := (blk_cell hbx 0).trans (show _ = some (Value.slice A0_0 l0_0.length c0_0) from rfl); have hy1 := (blk_cell hby 1).trans (show _ = some (Value.int .u64 a1_1) from rfl); have hy2 := (blk_cell hby 2).trans (show _ = some (Value.bool a1_2) from rfl); have hy3 := (blk_cell hby 3).trans (show _ = some (Value.int .i64 a1_3) from rfl); have hy4 := (blk_cell hby 4).trans (show _ = some (Value.int .u64 a1_4) from rfl); have hy5 := (blk_cell hby 5).trans (show _ = some (Value.int .i64 a1_5) from rfl); have hy6 := (blk_cell hby 6).trans (show _ = some (Value.int .i64 a1_6) from rfl); clear hr hb hbx hby)
      go_quiet (fail)
      go_wp2
      go_ret
      exact ⟨rfl, pw_below_drewN (below_alloc HB1.out _) _⟩

    rw [if_pos hg] at h2
    have e2 : decide (g < (l0_0.length : Int)) = true := decide_eq_true hg
    by_cases hg0 : 0 ≤ g
    case neg => rw [if_neg hg0] at h2; cases h2
    rw [if_pos hg0] at h2
    obtain ⟨ad, ha, hx0, _⟩ := at_T84 HG.out g hg0 hg
    subst ha
    obtain ⟨s, hs⟩ : ∃ s, s = (rd_T84 l0_0 g).f0 := ⟨_, rfl⟩
    rw [← hs] at h2 hx0
    clear hs
    have e3 : (0 ≤ g) = True := eq_true hg0
    have e4 : (g < (l0_0.length : Int)) = True := eq_true hg
    by_cases hz : s = 0
    case pos => rw [if_pos hz] at h2; cases h2
    rw [if_neg hz] at h2
    have e5 : (s == 0) = false := beq_eq_false_iff_ne.mpr hz
    by_cases hm : Int.tmod fr s = 0
    case neg =>
      rw [if_neg hm] at h2
      obtain rfl := Option.some.inj h2
      clear h2
      have e6 : (Int.tmod fr s == 0) = false := beq_eq_false_iff_ne.mpr hm
      clear hm hg hg0
      go_enter Try.func99, Try.ntmps99
      go_wp2_with (go_at_call 40; refine (key_Read.calls k A1_0 c1_0 l1_0 _ _ _ _ _ (Kd.C_below HC.out (below_alloc HB0.out _)) hc1_0 HK.out).mono ?_; rintro e w1 ⟨v0, rfl, hr, hb⟩; obtain ⟨Av, cv, hv⟩ := Kd.R_slice hr; subst hv; have HB1 := Lib.hid (below_step (below_alloc HB0.out (.cells #[.slice A1_0 l1_0.length c1_0, .int .u64 a1_1, .bool a1_2, .int .i64 a1_3, .int .u64 a1_4, .int .i64 a1_5, .int .i64 a1_6] 60)) hb); have hq1 := (blk_cell (blk_new w1 (.cells #[.slice Av ds.length cv, .int .i64 fr, .int .i64 g] 70)) 1).trans (show _ = some (Value.int .i64 fr) from rfl); have hq2 := (blk_cell (blk_new w1 (.cells #[.slice Av ds.length cv, .int .i64 fr, .int .i64 g] 70)) 2).trans (show _ = some (Value.int .i64 g) from rfl); have hbx := blk_alloc (blk_below (blk_alloc HBX.out (.cells #[.slice A1_0 l1_0.length c1_0, .int .u64 a1_1, .bool a1_2, .int .i64 a1_3, .int .u64 a1_4, .int .i64 a1_5, .int .i64 a1_6] 60)) hb) (.cells #[.slice Av ds.length cv, .int .i64 fr, .int .i64 g] 70); have hby := blk_alloc (blk_below HBY.out hb) (.cells #[.slice Av ds.length cv, .int .i64 fr, .int .i64 g] 70); have hp0 := (blk_cell hbx 0).trans (show _ = some (Value.slice (some ad) l0_0.length c0_0) from rfl); have hy1 := (blk_cell hby 1).trans (show _ = some (Value.int .u64 a1_1) from rfl); have hy2 := (blk_cell hby 2).trans (show _ = some (Value.bool a1_2) from rfl); have hy3 := (blk_cell hby 3).trans (show _ = some (Value.int .i64 a1_3) from rfl); have hy4 := (blk_cell hby 4).trans (show _ = some (Value.int .u64 a1_4) from rfl); have hy5 := (blk_cell hby 5).trans (show _ = some (Value.int .i64 a1_5) from rfl); have hy6 := (blk_cell hby 6).trans (show _ = some (Value.int .i64 a1_6) from rfl); have hs0 := ((below_alloc HB1.out (.cells #[.slice Av ds.length cv, .int .i64 fr, .int .i64 g] 70)).cell (World.block_lt_of_cell? w _ hx0)).trans hx0; clear hr hb hbx hby)
      go_quiet (fail)
      go_wp2
      go_ret
      exact ⟨rfl, pw_below_drewN (below_alloc HB1.out _) _⟩

    rw [if_pos hm] at h2
    have e6 : (Int.tmod fr s == 0) = true := beq_iff_eq.mpr hm
    by_cases hc : a1_1 = 0
    case pos =>
      rw [if_pos hc] at h2
      obtain rfl := Option.some.inj h2
      clear h2
      have e7 : (a1_1 != 0) = false := bne_eq_false_iff_eq.mpr hc
      have e8 : (a1_1 == 0) = true := beq_iff_eq.mpr hc
      clear hm hg hg0 hc
      go_enter Try.func99, Try.ntmps99
      go_wp2_with (go_at_call 40; refine (key_Read.calls k A1_0 c1_0 l1_0 _ _ _ _ _ (Kd.C_below HC.out (below_alloc HB0.out _)) hc1_0 HK.out).mono ?_; rintro e w1 ⟨v0, rfl, hr, hb⟩; obtain ⟨Av, cv, hv⟩ := Kd.R_slice hr; subst hv; have HB1 := Lib.hid (below_step (below_alloc HB0.out (.cells #[.slice A1_0 l1_0.length c1_0, .int .u64 a1_1, .bool a1_2, .int .i64 a1_3, .int .u64 a1_4, .int .i64 a1_5, .int .i64 a1_6] 60)) hb); have hq1 := (blk_cell (blk_new w1 (.cells #[.slice Av ds.length cv, .int .i64 fr, .int .i64 g] 70)) 1).trans (show _ = some (Value.int .i64 fr) from rfl); have hq2 := (blk_cell (blk_new w1 (.cells #[.slice Av ds.length cv, .int .i64 fr, .int .i64 g] 70)) 2).trans (show _ = some (Value.int .i64 g) from rfl); have hbx := blk_alloc (blk_below (blk_alloc HBX.out (.cells #[.slice A1_0 l1_0.length c1_0, .int .u64 a1_1, .bool a1_2, .int .i64 a1_3, .int .u64 a1_4, .int .i64 a1_5, .int .i64 a1_6] 60)) hb) (.cells #[.slice Av ds.length cv, .int .i64 fr, .int .i64 g] 70); have hby := blk_alloc (blk_below HBY.out hb) (.cells #[.slice Av ds.length cv, .int .i64 fr, .int .i64 g] 70); have hp0 := (blk_cell hbx 0).trans (show _ = some (Value.slice (some ad) l0_0.length c0_0) from rfl); have hy1 := (blk_cell hby 1).trans (show _ = some (Value.int .u64 a1_1) from rfl); have hy2 := (blk_cell hby 2).trans (show _ = some (Value.bool a1_2) from rfl); have hy3 := (blk_cell hby 3).trans (show _ = some (Value.int .i64 a1_3) from rfl); have hy4 := (blk_cell hby 4).trans (show _ = some (Value.int .u64 a1_4) from rfl); have hy5 := (blk_cell hby 5).trans (show _ = some (Value.int .i64 a1_5) from rfl); have hy6 := (blk_cell hby 6).trans (show _ = some (Value.int .i64 a1_6) from rfl); have hs0 := ((below_alloc HB1.out (.cells #[.slice Av ds.length cv, .int .i64 fr, .int .i64 g] 70)).cell (World.block_lt_of_cell? w _ hx0)).trans hx0; clear hr hb hbx hby)
      go_quiet (fail)
      go_wp2
      go_ret
      exact ⟨rfl, pw_below_drewN (below_alloc HB1.out _) _⟩

    rw [if_neg hc] at h2
    obtain ⟨t, hR, h3⟩ := Option.bind_eq_some_iff.mp h2
    obtain rfl := Option.some.inj h3
    have HR := Lib.hid hR
    clear h2 h3 hR
    have e7 : (a1_1 != 0) = true := bne_iff_ne.mpr hc
    have e8 : (a1_1 == 0) = false := beq_eq_false_iff_ne.mpr hc
    clear hm hg hg0 hc
    go_enter Try.func99, Try.ntmps99
    go_upto_region 2 with (go_at_call 40; refine (key_Read.calls k A1_0 c1_0 l1_0 _ _ _ _ _ (Kd.C_below HC.out (below_alloc HB0.out _)) hc1_0 HK.out).mono ?_; rintro e w1 ⟨v0, rfl, hr, hb⟩; obtain ⟨Av, cv, hv⟩ := Kd.R_slice hr; subst hv; have HB1 := Lib.hid (below_step (below_alloc HB0.out (.cells #[.slice A1_0 l1_0.length c1_0, .int .u64 a1_1, .bool a1_2, .int .i64 a1_3, .int .u64 a1_4, .int .i64 a1_5, .int .i64 a1_6] 60)) hb); have hq1 := (blk_cell (blk_new w1 (.cells #[.slice Av ds.length cv, .int .i64 fr, .int .i64 g] 70)) 1).trans (show _ = some (Value.int .i64 fr) from rfl); have hq2 := (blk_cell (blk_new w1 (.cells #[.slice Av ds.length cv, .int .i64 fr, .int .i64 g] 70)) 2).trans (show _ = some (Value.int .i64 g) from rfl); have hbx := blk_alloc (blk_below (blk_alloc HBX.out (.cells #[.slice A1_0 l1_0.length c1_0, .int .u64 a1_1, .bool a1_2, .int .i64 a1_3, .int .u64 a1_4, .int .i64 a1_5, .int .i64 a1_6] 60)) hb) (.cells #[.slice Av ds.length cv, .int .i64 fr, .int .i64 g] 70); have hby := blk_alloc (blk_below HBY.out hb) (.cells #[.slice Av ds.length cv, .int .i64 fr, .int .i64 g] 70); have hp0 := (blk_cell hbx 0).trans (show _ = some (Value.slice (some ad) l0_0.length c0_0) from rfl); have hy1 := (blk_cell hby 1).trans (show _ = some (Value.int .u64 a1_1) from rfl); have hy2 := (blk_cell hby 2).trans (show _ = some (Value.bool a1_2) from rfl); have hy3 := (blk_cell hby 3).trans (show _ = some (Value.int .i64 a1_3) from rfl); have hy4 := (blk_cell hby 4).trans (show _ = some (Value.int .u64 a1_4) from rfl); have hy5 := (blk_cell hby 5).trans (show _ = some (Value.int .i64 a1_5) from rfl); have hy6 := (blk_cell hby 6).trans (show _ = some (Value.int .i64 a1_6) from rfl); have hs0 := ((below_alloc HB1.out (.cells #[.slice Av ds.length cv, .int .i64 fr, .int .i64 g] 70)).cell (World.block_lt_of_cell? w _ hx0)).trans hx0; have HBW := Lib.hid (below_alloc HB1.out (.cells #[.slice Av ds.length cv, .int .i64 fr, .int .i64 g] 70)); clear hr hb hbx hby HB1)
    generalize w1.alloc (.cells #[.slice Av ds.length cv, .int .i64 fr, .int .i64 g] 70) = W at *
    have keepC : ∀ w', Below W.heap.size W w' → (w'.cell? ⟨w1.heap.size, 1, none⟩ = some (.int .i64 fr) ∧ w'.cell? ⟨w1.heap.size, 2, none⟩ = some (.int .i64 g) ∧ w'.cell? ⟨w.heap.size, 0, none⟩ = some (.slice (some ad) l0_0.length c0_0) ∧ w'.cell? ⟨w.heap.size + 1, 1, none⟩ = some (.int .u64 a1_1) ∧ w'.cell? ⟨w.heap.size + 1, 2, none⟩ = some (.bool a1_2) ∧ w'.cell? ⟨w.heap.size + 1, 3, none⟩ = some (.int .i64 a1_3) ∧ w'.cell? ⟨w.heap.size + 1, 4, none⟩ = some (.int .u64 a1_4) ∧ w'.cell? ⟨w.heap.size + 1, 5, none⟩ = some (.int .i64 a1_5) ∧ w'.cell? ⟨w.heap.size + 1, 6, none⟩ = some (.int .i64 a1_6) ∧ w'.cell? (ad.add (g.toNat * 2)) = some (.int .i64 s)) ∧ Below W.heap.size W w' := fun w' hb => ⟨⟨(hb.cell (World.block_lt_of_cell? W _ hq1)).trans hq1, (hb.cell (World.block_lt_of_cell? W _ hq2)).trans hq2, (hb.cell (World.block_lt_of_cell? W _ hp0)).trans hp0, (hb.cell (World.block_lt_of_cell? W _ hy1)).trans hy1, (hb.cell (World.block_lt_of_cell? W _ hy2)).trans hy2, (hb.cell (World.block_lt_of_cell? W _ hy3)).trans hy3, (hb.cell (World.block_lt_of_cell? W _ hy4)).trans hy4, (hb.cell (World.block_lt_of_cell? W _ hy5)).trans hy5, (hb.cell (World.block_lt_of_cell? W _ hy6)).trans hy6, (hb.cell (World.block_lt_of_cell? W _ hs0)).trans hs0⟩, hb⟩
    go_region_held3 (fun w' => (w'.cell? ⟨w1.heap.size, 1, none⟩ = some (.int .i64 fr) ∧ w'.cell? ⟨w1.heap.size, 2, none⟩ = some (.int .i64 g) ∧ w'.cell? ⟨w.heap.size, 0, none⟩ = some (.slice (some ad) l0_0.length c0_0) ∧ w'.cell? ⟨w.heap.size + 1, 1, none⟩ = some (.int .u64 a1_1) ∧ w'.cell? ⟨w.heap.size + 1, 2, none⟩ = some (.bool a1_2) ∧ w'.cell? ⟨w.heap.size + 1, 3, none⟩ = some (.int .i64 a1_3) ∧ w'.cell? ⟨w.heap.size + 1, 4, none⟩ = some (.int .u64 a1_4) ∧ w'.cell? ⟨w.heap.size + 1, 5, none⟩ = some (.int .i64 a1_5) ∧ w'.cell? ⟨w.heap.size + 1, 6, none⟩ = some (.int .i64 a1_6) ∧ w'.cell? (ad.add (g.toNat * 2)) = some (.int .i64 s)) ∧ Below W.heap.size W w') (first | (with_reducible assumption) | (with_reducible exact keepC _ (below_drew1 (Below.refl _ _))) | (with_reducible exact keepC _ hb1)) (first | (go_at_call 104; (with_reducible refine (agg_Right.calls _ _ _ _ _ _ _ _ HR.out).mono ?_); rintro e w3 ⟨rfl, hb0⟩; have hb1 := below_step (below_drew1 (Below.refl W.heap.size W)) hb0))
    go_wp2
    go_ret
    exact ⟨rfl, below_step HBW.out hb1⟩
def anyQ (q : S60 → Option Bool) : List S60 → Option Bool
  | [] => some false
  | x :: r => (q x).bind fun t => if t = true then some true else anyQ q r
def PredEnt (g : Nat) (lb : Array Value) (q : S60 → Option Bool) (w : World) : Prop := ∀ (W : World) (A : Option Addr) (c : Nat) (x : S60) (t : Bool), Below w.heap.size w W → Kd.C (Kd.int .u8) W A x.f0.length x.f0 → x.f0.length ≤ c → q x = some t →
  Calls Try.prog g (#[.agg #[.slice A x.f0.length c, .int .u64 x.f1.f0, .bool x.f1.f1, .int .i64 x.f1.f2.f0, .int .u64 x.f1.f2.f1, .int .i64 x.f1.f3, .int .i64 x.f1.f4]] ++ lb) W fun e w' => e = .returned (.bool t) ∧ Below W.heap.size W w'
def IdxPost (r : Bool) (w : World) (e : Ending) (w' : World) : Prop := ∃ i : Int, e = .returned (.int .i64 i) ∧ decide (i ≥ 0) = r ∧ Below w.heap.size w w'
def IdxERel (w : World) (q : S60 → Option Bool) (l : List S60) (r : Bool) (j : Nat) (wr : World) : Prop := j ≤ l.length ∧ Below w.heap.size w wr ∧ anyQ q (l.drop j) = some r
theorem index_ents (q : S60 → Option Bool) (g : Nat) (lb : Array Value) (eg : ∀ args w, (callFunc g args).run Try.prog w = .ok (.enter g args) w) (A0 : Option Addr) (c0 : Nat) (l0 : List S60) (r : Bool) (w : World) (hr0 : Kd.C k60 w A0 l0.length l0) (hl : l0.length ≤ 140737488355328) (hp : PredEnt g lb q w) (h : anyQ q l0 = some r) :
    Calls Try.prog 103 #[.slice A0 l0.length c0, .func (.func g) #[] lb] w (IdxPost r w) := by
  have HC := Lib.hid hr0; clear hr0
  have HP := Lib.hid hp; clear hp
  have HQ := Lib.hid h; clear h
  go_enter Try.func103, Try.ntmps103
  go_wp2
  go_loopw [5, 8] (fun _ v wr => ∃ j : Nat, v = .int .i64 j ∧ IdxERel w q l0 r j wr) (fun _ v _ => l0.length - (intOf v).toNat)
  case atStart => exact ⟨0, rfl, Nat.zero_le _, Below.refl _ _, HQ.out⟩
  case round =>
    obtain ⟨j, rfl, hj, hB, hq⟩ := hrel
    have HB := Lib.hid hB; have HR := Lib.hid hq; clear hB hq HQ
    by_cases hlt : j < l0.length
    · have e1 : decide ((j : Int) < (l0.length : Int)) = true := decide_eq_true (by omega)
      obtain ⟨ad, A1, c1, ha, hx0, hx1, hx2, hx3, hx4, hx5, hx6, hlc, hin⟩ := at_T60 HC.out (j : Int) (by omega) (by omega)
      subst ha
      have HIN := Lib.hid (Kd.C_below hin HB.out)
      obtain ⟨x, hx⟩ : ∃ x, x = rd_T60 l0 (j : Int) := ⟨_, rfl⟩
      have hxl : x = l0[j] := by
        rw [hx]; unfold rd_T60
        rw [show ((j : Int)).toNat = j from by omega, List.getD_eq_getElem?_getD, List.getElem?_eq_getElem hlt]
        rfl
      rw [← hx] at hx0 hx1 hx2 hx3 hx4 hx5 hx6 hlc HIN
      simp only [Int.toNat_natCast] at hx0 hx1 hx2 hx3 hx4 hx5 hx6
      replace hx0 := (HB.out.cell (World.block_lt_of_cell? w _ hx0)).trans hx0
      replace hx1 := (HB.out.cell (World.block_lt_of_cell? w _ hx1)).trans hx1
      replace hx2 := (HB.out.cell (World.block_lt_of_cell? w _ hx2)).trans hx2
      replace hx3 := (HB.out.cell (World.block_lt_of_cell? w _ hx3)).trans hx3
      replace hx4 := (HB.out.cell (World.block_lt_of_cell? w _ hx4)).trans hx4
      replace hx5 := (HB.out.cell (World.block_lt_of_cell? w _ hx5)).trans hx5
      replace hx6 := (HB.out.cell (World.block_lt_of_cell? w _ hx6)).trans hx6
      have hst : (q x).bind (fun t => if t = true then some true else anyQ q (l0.drop (j + 1))) = some r := by
        have := HR.out
        rw [List.drop_eq_getElem_cons hlt, ← hxl] at this
        exact this
      obtain ⟨t, hqx, hnext⟩ := Option.bind_eq_some_iff.mp hst
      have hcall := Lib.hid (HP.out wr A1 c1 x t HB.out HIN.out hlc hqx)
      clear hx hxl hst hqx hin hlc
      cases t with
      | true =>
        have HN : Hid (r = true) := Lib.hid (by rw [if_pos rfl] at hnext; exact (Option.some.inj hnext).symm)
        clear hnext
        go_wp2_with (go_at_fn g; refine hcall.out.mono ?_; rintro e w' ⟨rfl, hb'⟩; have HB' := Lib.hid hb'; clear hb')
        go_ret
        exact ⟨_, rfl, by rw [HN.out]; exact decide_eq_true (by omega), below_step HB.out HB'.out⟩
      | false =>
        have HN : Hid (anyQ q (l0.drop (j + 1)) = some r) := Lib.hid (by rw [if_neg (by decide)] at hnext; exact hnext)
        clear hnext
        go_wp2_with (go_at_fn g; refine hcall.out.mono ?_; rintro e w' ⟨rfl, hb'⟩; have HB' := Lib.hid hb'; clear hb')
        go_roundw
        case rel => exact ⟨j + 1, by go_num, hlt, below_step HB.out HB'.out, HN.out⟩
        case measure => simp [intOf]; omega
    · have e1 : decide ((j : Int) < (l0.length : Int)) = false := decide_eq_false (by omega)
      have HN : Hid (r = false) := Lib.hid (by have := HR.out; rw [List.drop_eq_nil_of_le (by omega)] at this; exact (Option.some.inj this).symm)
      go_wp2
      go_ret
      exact ⟨_, rfl, by rw [HN.out]; decide, HB.out⟩
theorem contains_ents (q : S60 → Option Bool) (g : Nat) (lb : Array Value) (eg : ∀ args w, (callFunc g args).run Try.prog w = .ok (.enter g args) w) (A0 : Option Addr) (c0 : Nat) (l0 : List S60) (r : Bool) (w : World) (hr0 : Kd.C k60 w A0 l0.length l0) (hl : l0.length ≤ 140737488355328) (hp : PredEnt g lb q w) (h : anyQ q l0 = some r) :
    Calls Try.prog 97 #[.slice A0 l0.length c0, .func (.func g) #[] lb] w fun e w' => e = .returned (.bool r) ∧ Below w.heap.size w w' := by
  have hcall := Lib.hid (index_ents q g lb eg A0 c0 l0 r w hr0 hl hp h)
  clear hr0 hp h
  go_enter Try.func97, Try.ntmps97
  go_wp2_with (go_at_call 103; refine hcall.out.mono ?_; rintro e w' ⟨i, rfl, hir, hb'⟩; have HB' := Lib.hid hb'; have HIR := Lib.hid hir; clear hb' hir)
  go_ret
  refine ⟨?_, HB'.out⟩
  rw [← HIR.out]
  rfl
end Go.Proofs.Ytdopbhbbpgfliaa.PAsk
end
