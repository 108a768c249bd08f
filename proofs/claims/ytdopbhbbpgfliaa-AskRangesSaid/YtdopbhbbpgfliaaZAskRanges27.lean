import Derived.Test.YtdopbhbbpgfliaaZAskRanges26
section
namespace Go.Proofs.Ytdopbhbbpgfliaa.PAsk
open Go.RowKit Go.Proofs.YtdopbhbbpgfliaaW.PrintWords Go.Proofs.YtdopbhbbpgfliaaW.PrintLast Go.Proofs.YtdopbhbbpgfliaaW.PrintMore
attribute [local go_sem] max2_int min2_int max_two min_two max_three min_three max_four min_four   -- for this text's walks alone
set_option linter.unusedVariables false
set_option linter.unusedSimpArgs false
set_option maxHeartbeats 8000000
set_option maxRecDepth 100000
mutual
def rickyardlaw17_AskRanges.j0 : Nat → Int → List (S60) → Int → Bool → List (S84) → Int → List ByteArray → Int → Int → Int → Int → Option (Bool)
 | 0, _, _, _, _, _, _, _, _, _, _, _ => none
 | k + 1, x1, x2, x4, x38, x546000, x546001, x547000, x547001, x547002, x547003, x547004 => if x38 = true then ((rickyardlaw17_alive.f k).bind fun t549 => (some t549)) else ((ask_Scan.f k x546000 x546001 x1 x2 x547000 x547002 x547003).bind fun bt550 => ((ask_Scan.f k x546000 x546001 x1 x2 x547000 x547002 x4).bind fun bt554 => ((ask_Scan.f k x546000 x546001 x1 x2 x547000 x4 x547003).bind fun bt558 => (if bt550.2 = 0 then (rickyardlaw17_AskRanges.l0 k x4 bt550.1 bt554.1 bt554.2 bt558.1 bt558.2 0 0 0) else ((rickyardlaw17_alive.f k).bind fun t562 => (if t562 = true then (some ((bt550.1.length : Int) == 0)) else (some false)))))))
def rickyardlaw17_AskRanges.l0 : Nat → Int → List (S44) → List (S44) → Int → List (S44) → Int → Int → Int → Int → Option (Bool)
 | 0, _, _, _, _, _, _, _, _, _ => none
 | k + 1, x4, x11, x13, x14, x15, x16, x17, x18, x19 => if x19 < (x11.length : Int) then (if 0 ≤ x19 then (if x19 ≤ (wrap64 (x19 + 1)) then (if (wrap64 (x19 + 1)) ≤ (x11.length : Int) then ((rickyardlaw17_As.f k ((x11.take ((wrap64 (x19 + 1)) : Int).toNat).drop (x19 : Int).toNat)).bind fun t569 => (if x17 < (x13.length : Int) then (if ((rd_T44 x11 x19).f1) < x4 then (if 0 ≤ x17 then (if x17 ≤ (wrap64 (x17 + 1)) then (if (wrap64 (x17 + 1)) ≤ (x13.length : Int) then ((rickyardlaw17_As.f k ((x13.take ((wrap64 (x17 + 1)) : Int).toNat).drop (x17 : Int).toNat)).bind fun t578 => ((rickyardref17_SameAll.f k t569 t578).bind fun t581 => (rickyardlaw17_AskRanges.j2 k x4 x11 x13 x14 x15 x16 x17 x18 x19 t569 t581))) else (none)) else (none)) else (none)) else (rickyardlaw17_AskRanges.j2 k x4 x11 x13 x14 x15 x16 x17 x18 x19 t569 false)) else (rickyardlaw17_AskRanges.j2 k x4 x11 x13 x14 x15 x16 x17 x18 x19 t569 false))) else (none)) else (none)) else (none)) else ((rickyardlaw17_alive.f k).bind fun t563 => (if t563 = true then (if x14 = 0 then (if x16 = 0 then (if x17 = (x13.length : Int) then (some (x18 == (x15.length : Int))) else (some false)) else (some false)) else (some false)) else (some false)))
def rickyardlaw17_AskRanges.j2 : Nat → Int → List (S44) → List (S44) → Int → List (S44) → Int → Int → Int → Int → List (S73) → Bool → Option (Bool)
 | 0, _, _, _, _, _, _, _, _, _, _, _ => none
 | k + 1, x4, x11, x13, x14, x15, x16, x17, x18, x19, x20, x97 => if x97 = true then (rickyardlaw17_AskRanges.l0 k x4 x11 x13 x14 x15 x16 (wrap64 (x17 + 1)) x18 (wrap64 (x19 + 1))) else (if x18 < (x15.length : Int) then (if 0 ≤ x19 then (if x19 < (x11.length : Int) then (if ((rd_T44 x11 x19).f1) ≥ x4 then (if 0 ≤ x18 then (if x18 ≤ (wrap64 (x18 + 1)) then (if (wrap64 (x18 + 1)) ≤ (x15.length : Int) then ((rickyardlaw17_As.f k ((x15.take ((wrap64 (x18 + 1)) : Int).toNat).drop (x18 : Int).toNat)).bind fun t588 => ((rickyardref17_SameAll.f k x20 t588).bind fun t591 => (if t591 = true then (rickyardlaw17_AskRanges.l0 k x4 x11 x13 x14 x15 x16 x17 (wrap64 (x18 + 1)) (wrap64 (x19 + 1))) else (some false)))) else (none)) else (none)) else (none)) else (some false)) else (none)) else (none)) else (some false))
end
def rickyardlaw17_AskRanges.f (k : Nat) (l0_0 : List (S84)) (a0_1 : Int) (a1 : Int) (l2 : List (S60)) (l3_0 : List ByteArray) (a3_1 : Int) (a3_2 : Int) (a3_3 : Int) (a3_4 : Int) (a4 : Int) : Option (Bool) := (rickyardlaw15_Great.f k l2).bind fun t547 => (if t547 = true then (rickyardlaw17_AskRanges.j0 k a1 l2 a4 true l0_0 a0_1 l3_0 a3_1 a3_2 a3_3 a3_4) else ((rickyardlaw17_Long.f k l3_0 a3_1 a3_2 a3_3 a3_4).bind fun t548 => (if t548 = true then (rickyardlaw17_AskRanges.j0 k a1 l2 a4 true l0_0 a0_1 l3_0 a3_1 a3_2 a3_3 a3_4) else (if a4 < a3_2 then (rickyardlaw17_AskRanges.j0 k a1 l2 a4 true l0_0 a0_1 l3_0 a3_1 a3_2 a3_3 a3_4) else (rickyardlaw17_AskRanges.j0 k a1 l2 a4 (decide (a4 > a3_3)) l0_0 a0_1 l3_0 a3_1 a3_2 a3_3 a3_4)))))
theorem rickyardlaw17_AskRanges.calls (k : Nat) (A0_0 : Option Addr) (c0_0 : Nat) (l0_0 : List (S84)) (a0_1 : Int) (a1 : Int) (A2 : Option Addr) (c2 : Nat) (l2 : List (S60)) (A3_0 : Option Addr) (c3_0 : Nat) (l3_0 : List ByteArray) (a3_1 : Int) (a3_2 : Int) (a3_3 : Int) (a3_4 : Int) (a4 : Int) (r : Bool) (w : World) (hr0_0 : Kd.C k84 w A0_0 l0_0.length l0_0) (hc0_0 : l0_0.length ≤ c0_0) (hr2 : Kd.C k60 w A2 l2.length l2) (hc2 : l2.length ≤ c2) (hr3_0 : Kd.C Kd.string w A3_0 l3_0.length l3_0) (hc3_0 : l3_0.length ≤ c3_0) (h : rickyardlaw17_AskRanges.f k l0_0 a0_1 a1 l2 l3_0 a3_1 a3_2 a3_3 a3_4 a4 = some r) :
  Calls Try.prog 3 #[.agg #[.slice A0_0 l0_0.length c0_0, .int .i64 a0_1], .int .i64 a1, .slice A2 l2.length c2, .agg #[.slice A3_0 l3_0.length c3_0, .int .i64 a3_1, .int .i64 a3_2, .int .i64 a3_3, .int .i64 a3_4], .int .i64 a4] w fun e w' => e = .returned (.bool r) ∧ Below w.heap.size w w' := by
 have hu24 := Try.underlying24
 have hu28 := Try.underlying28
 have HR0_0 := Aside0.mk hr0_0
 have HC0_0 := Aside0.mk hc0_0
 clear hr0_0 hc0_0
 have HR2 := Aside0.mk hr2
 have HC2 := Aside0.mk hc2
 clear hr2 hc2
 have HR3_0 := Aside0.mk hr3_0
 have HC3_0 := Aside0.mk hc3_0
 clear hr3_0 hc3_0
 have HB := Aside0.mk (Below.refl w.heap.size w)
 have H : ((rickyardlaw15_Great.f k l2).bind fun t547 => (if t547 = true then (rickyardlaw17_AskRanges.j0 k a1 l2 a4 true l0_0 a0_1 l3_0 a3_1 a3_2 a3_3 a3_4) else ((rickyardlaw17_Long.f k l3_0 a3_1 a3_2 a3_3 a3_4).bind fun t548 => (if t548 = true then (rickyardlaw17_AskRanges.j0 k a1 l2 a4 true l0_0 a0_1 l3_0 a3_1 a3_2 a3_3 a3_4) else (if a4 < a3_2 then (rickyardlaw17_AskRanges.j0 k a1 l2 a4 true l0_0 a0_1 l3_0 a3_1 a3_2 a3_3 a3_4) else (rickyardlaw17_AskRanges.j0 k a1 l2 a4 (decide (a4 > a3_3)) l0_0 a0_1 l3_0 a3_1 a3_2 a3_3 a3_4)))))) = some r := h
 clear h
 have HC6 := Aside0.mk H
 clear H
 go_enter Try.func3, Try.ntmps3
 go_upto_region 1 with (first | ((with_reducible refine gate_dst (N := 5) rfl ?_); (try (refine gate_guard (by rfl) ?_; dsimp only)); refine boxA 5 #[.slice A0_0 l0_0.length c0_0, .int .i64 a0_1] 24 ?_; intro gb545 hg w7 hbox hb; have BK545 := Aside0.mk (hbox); have GE545 := ge1 hg (belA HB.out); replace HB := bst HB hb; clear hb hbox hg) | ((with_reducible refine gate_dst (N := 8) rfl ?_); (try (refine gate_guard (by rfl) ?_; dsimp only)); refine boxA 8 #[.slice A3_0 l3_0.length c3_0, .int .i64 a3_1, .int .i64 a3_2, .int .i64 a3_3, .int .i64 a3_4] 28 ?_; intro gb546 hg w8 hbox hb; have BK546 := Aside0.mk (hbox); have GW546 := ge1 hg (belB HB.out GE545.out); have GE546 := GW546; have NB545_546 := neL hg BK545; have NB546_545 := neR hg BK545; replace BK545 := blkB BK545 hb; replace HB := bs2 HB GE545 hb; clear hb hbox hg))
 (try simp only [Act.put, List.setIfInBounds_toArray, List.set_cons_zero, List.set_cons_succ])
 go_cut [38] (fun v38 wc => ∃ (kq : Nat) (x38_5 : Bool), v38 = .bool x38_5 ∧ Aside0 (rickyardlaw17_AskRanges.j0 kq a1 l2 a4 x38_5 l0_0 a0_1 l3_0 a3_1 a3_2 a3_3 a3_4 = some r) ∧ Aside0 (kq ≤ k) ∧ Aside0 (wc.heap[gb545]? = some (.cells #[(.slice A0_0 l0_0.length c0_0), .int .i64 a0_1] 24 (0, 0))) ∧ Aside0 (wc.heap[gb546]? = some (.cells #[(.slice A3_0 l3_0.length c3_0), .int .i64 a3_1, .int .i64 a3_2, .int .i64 a3_3, .int .i64 a3_4] 28 (0, 0))) ∧ Aside0 (Below w.heap.size w wc))
 case first =>
  have H := HC6.out
  clear HC6
  replace H := bnA H
  obtain ⟨t547, A9, H⟩ := H
  by_cases c10 : t547 = true
  ·subst c10
   have H1 : (rickyardlaw17_AskRanges.j0 k a1 l2 a4 true l0_0 a0_1 l3_0 a3_1 a3_2 a3_3 a3_4) = some r := by rw [if_pos rfl] at H; exact H
   clear H
   have H := H1
   clear H1
   have H' := Aside0.mk H
   clear H
   go_wp2_with (first | ((with_reducible refine gate_callee (f := 7) rfl ?_); refine goesL_ (some 22) rfl rfl Try.func7 (by kernel_rfl) rfl #[.slice A2 l2.length c2] rfl argA ?_; (with_reducible refine (rickyardlaw15_Great.calls k _ _ l2 true _ ?side1 ?side2 A9.out).mono ?_); (case side1 => exact cb1 HR2 HB); (case side2 => exact HC2.out); rintro e w' ⟨rfl, ⟨nd, rfl⟩⟩; refine ⟨_, rfl, ?_⟩))
   go_meet
   case rel => exact ⟨_, (true), relA, H', ⟨by first | omega | exact Nat.le_refl _⟩, ⟨blkA BK545.out⟩, ⟨blkA BK546.out⟩, ⟨belC HB.out GE545.out GE546.out⟩⟩
  replace c10 := Bool.eq_false_iff.mpr c10
  subst c10
  have H1 : ((rickyardlaw17_Long.f k l3_0 a3_1 a3_2 a3_3 a3_4).bind fun t548 => (if t548 = true then (rickyardlaw17_AskRanges.j0 k a1 l2 a4 true l0_0 a0_1 l3_0 a3_1 a3_2 a3_3 a3_4) else (if a4 < a3_2 then (rickyardlaw17_AskRanges.j0 k a1 l2 a4 true l0_0 a0_1 l3_0 a3_1 a3_2 a3_3 a3_4) else (rickyardlaw17_AskRanges.j0 k a1 l2 a4 (decide (a4 > a3_3)) l0_0 a0_1 l3_0 a3_1 a3_2 a3_3 a3_4)))) = some r := by rw [if_neg (show ¬ (false = true) by decide)] at H; exact H
  clear H
  have H := H1
  clear H1
  replace H := bnA H
  obtain ⟨t548, A11, H⟩ := H
  by_cases c12 : t548 = true
  ·subst c12
   have H1 : (rickyardlaw17_AskRanges.j0 k a1 l2 a4 true l0_0 a0_1 l3_0 a3_1 a3_2 a3_3 a3_4) = some r := by rw [if_pos rfl] at H; exact H
   clear H
   have H := H1
   clear H1
   have H' := Aside0.mk H
   clear H
   go_wp2_with (first | ((with_reducible refine gate_callee (f := 7) rfl ?_); refine goesL_ (some 22) rfl rfl Try.func7 (by kernel_rfl) rfl #[.slice A2 l2.length c2] rfl argA ?_; (with_reducible refine (rickyardlaw15_Great.calls k _ _ l2 false _ ?side1 ?side2 A9.out).mono ?_); (case side1 => exact cb1 HR2 HB); (case side2 => exact HC2.out); rintro e w' ⟨rfl, ⟨nd, rfl⟩⟩; refine ⟨_, rfl, ?_⟩; have hnb13 := NB546_545.out; have hnc13 := NB545_546.out; obtain ⟨hcz14_0, hcz14_1, hcz14_2, hcz14_3, hcz14_4, hfz14_0, hfz14_1, hfz14_2, hfz14_3, hfz14_4⟩ := blk5 BK546) | (go_at_call 8; (with_reducible refine (rickyardlaw17_Long.calls k (fun k_ => k_ < w.heap.size) _ _ l3_0 a3_1 a3_2 a3_3 a3_4 true _ ?side1 A11.out).mono ?_); (case side1 => exact Kd.V_mk HC3_0.out (Kd.F_below (Kd.C_F Kd.heap_string HR3_0.out) (belC HB.out GE545.out GE546.out))); rintro e w15 ⟨rfl, hb⟩; replace BK545 := blkB BK545 hb; replace BK546 := blkB BK546 hb; replace HB := bs3 HB GE545 GE546 hb; (try clear hb)))
   go_meet
   case rel => exact ⟨_, (true), relA, H', ⟨by first | omega | exact Nat.le_refl _⟩, ⟨blkA BK545.out⟩, ⟨blkA BK546.out⟩, ⟨belC HB.out GE545.out GE546.out⟩⟩
  replace c12 := Bool.eq_false_iff.mpr c12
  subst c12
  have H1 : (if a4 < a3_2 then (rickyardlaw17_AskRanges.j0 k a1 l2 a4 true l0_0 a0_1 l3_0 a3_1 a3_2 a3_3 a3_4) else (rickyardlaw17_AskRanges.j0 k a1 l2 a4 (decide (a4 > a3_3)) l0_0 a0_1 l3_0 a3_1 a3_2 a3_3 a3_4)) = some r := by rw [if_neg (show ¬ (false = true) by decide)] at H; exact H
  clear H
  have H := H1
  clear H1
  by_cases c16 : a4 < a3_2
  rotate_left
  ·rw [if_neg c16] at H
   have c16b0 := decide_eq_false c16
   clear c16
   (first | rw [c16b0] | (simp only [i64_w, i32_w]; rw [c16b0]) | skip)
   have H' := Aside0.mk H
   clear H
   go_wp2_with (first | ((with_reducible refine gate_callee (f := 7) rfl ?_); refine goesL_ (some 22) rfl rfl Try.func7 (by kernel_rfl) rfl #[.slice A2 l2.length c2] rfl argA ?_; (with_reducible refine (rickyardlaw15_Great.calls k _ _ l2 false _ ?side1 ?side2 A9.out).mono ?_); (case side1 => exact cb1 HR2 HB); (case side2 => exact HC2.out); rintro e w' ⟨rfl, ⟨nd, rfl⟩⟩; refine ⟨_, rfl, ?_⟩; have hnb21 := NB546_545.out; have hnc21 := NB545_546.out; obtain ⟨hcz22_0, hcz22_1, hcz22_2, hcz22_3, hcz22_4, hfz22_0, hfz22_1, hfz22_2, hfz22_3, hfz22_4⟩ := blk5 BK546) | (go_at_call 8; (with_reducible refine (rickyardlaw17_Long.calls k (fun k_ => k_ < w.heap.size) _ _ l3_0 a3_1 a3_2 a3_3 a3_4 false _ ?side1 A11.out).mono ?_); (case side1 => exact Kd.V_mk HC3_0.out (Kd.F_below (Kd.C_F Kd.heap_string HR3_0.out) (belC HB.out GE545.out GE546.out))); rintro e w23 ⟨rfl, hb⟩; replace BK545 := blkB BK545 hb; replace BK546 := blkB BK546 hb; replace HB := bs3 HB GE545 GE546 hb; (try clear hb); obtain ⟨hcz24_0, hcz24_1, hcz24_2, hcz24_3, hcz24_4, hfz24_0, hfz24_1, hfz24_2, hfz24_3, hfz24_4⟩ := blk5 BK546))
   go_meet
   case rel => exact ⟨_, (decide (a4 > a3_3)), relA, H', ⟨by first | omega | exact Nat.le_refl _⟩, ⟨blkA BK545.out⟩, ⟨blkA BK546.out⟩, ⟨belC HB.out GE545.out GE546.out⟩⟩
  rw [if_pos c16] at H
  have c16b0 := decide_eq_true c16
  clear c16
  (first | rw [c16b0] | (simp only [i64_w, i32_w]; rw [c16b0]) | skip)
  have H' := Aside0.mk H
  clear H
  go_wp2_with (first | ((with_reducible refine gate_callee (f := 7) rfl ?_); refine goesL_ (some 22) rfl rfl Try.func7 (by kernel_rfl) rfl #[.slice A2 l2.length c2] rfl argA ?_; (with_reducible refine (rickyardlaw15_Great.calls k _ _ l2 false _ ?side1 ?side2 A9.out).mono ?_); (case side1 => exact cb1 HR2 HB); (case side2 => exact HC2.out); rintro e w' ⟨rfl, ⟨nd, rfl⟩⟩; refine ⟨_, rfl, ?_⟩; have hnb17 := NB546_545.out; have hnc17 := NB545_546.out; obtain ⟨hcz18_0, hcz18_1, hcz18_2, hcz18_3, hcz18_4, hfz18_0, hfz18_1, hfz18_2, hfz18_3, hfz18_4⟩ := blk5 BK546) | (go_at_call 8; (with_reducible refine (rickyardlaw17_Long.calls k (fun k_ => k_ < w.heap.size) _ _ l3_0 a3_1 a3_2 a3_3 a3_4 false _ ?side1 A11.out).mono ?_); (case side1 => exact Kd.V_mk HC3_0.out (Kd.F_below (Kd.C_F Kd.heap_string HR3_0.out) (belC HB.out GE545.out GE546.out))); rintro e w19 ⟨rfl, hb⟩; replace BK545 := blkB BK545 hb; replace BK546 := blkB BK546 hb; replace HB := bs3 HB GE545 GE546 hb; (try clear hb); obtain ⟨hcz20_0, hcz20_1, hcz20_2, hcz20_3, hcz20_4, hfz20_0, hfz20_1, hfz20_2, hfz20_3, hfz20_4⟩ := blk5 BK546))
  go_meet
  case rel => exact ⟨_, (true), relA, H', ⟨by first | omega | exact Nat.le_refl _⟩, ⟨blkA BK545.out⟩, ⟨blkA BK546.out⟩, ⟨belC HB.out GE545.out GE546.out⟩⟩
 case rest =>
  clear HC6
  try clear c1
  try clear c2
  try clear p2
  try clear c3
  try clear c7
  try clear c10
  try clear c12
  try clear c13
  try clear c16
  try clear c16b0
  try clear c17
  try clear c21
  try clear hcz14_0 hcz14_1 hcz14_2 hcz14_3 hcz14_4
  try clear hcz18_0 hcz18_1 hcz18_2 hcz18_3 hcz18_4
  try clear hcz20_0 hcz20_1 hcz20_2 hcz20_3 hcz20_4
  try clear hcz22_0 hcz22_1 hcz22_2 hcz22_3 hcz22_4
  try clear hcz24_0 hcz24_1 hcz24_2 hcz24_3 hcz24_4
  try clear hfz14_0 hfz14_1 hfz14_2 hfz14_3 hfz14_4
  try clear hfz18_0 hfz18_1 hfz18_2 hfz18_3 hfz18_4
  try clear hfz20_0 hfz20_1 hfz20_2 hfz20_3 hfz20_4
  try clear hfz22_0 hfz22_1 hfz22_2 hfz22_3 hfz22_4
  try clear hfz24_0 hfz24_1 hfz24_2 hfz24_3 hfz24_4
  obtain ⟨kq, x38_5, rfl, HA, HJ5, BK545, BK546, HB⟩ := hcut
  cases kq with
  | zero => exact absurd HA.out (by simp [rickyardlaw17_AskRanges.j0])
  | succ kj5 =>
   have H := HA.out
   clear HA
   simp only [rickyardlaw17_AskRanges.j0] at H
   by_cases c25 : x38_5 = true
   ·subst c25
    have H1 : ((rickyardlaw17_alive.f kj5).bind fun t549 => (some t549)) = some r := by rw [if_pos rfl] at H; exact H
    clear H
    have H := H1
    clear H1
    replace H := bnA H
    obtain ⟨t549, A26, H⟩ := H
    obtain rfl := Option.some.inj H
    go_wp2_with (first | ((with_reducible refine gate_callee (f := 9) rfl ?_); refine goesL_ (some 39) rfl rfl Try.func9 (by kernel_rfl) rfl #[] rfl argA ?_; (with_reducible refine (rickyardlaw17_alive.calls kj5  t549 _ A26.out).mono ?_); rintro e w27 ⟨rfl, hb⟩; refine ⟨_, rfl, ?_⟩; replace BK545 := blkB BK545 hb; replace BK546 := blkB BK546 hb; replace HB := bs3 HB GE545 GE546 hb; (try clear hb)))
    go_ret
    exact ⟨ret1, belC HB.out GE545.out GE546.out⟩
   replace c25 := Bool.eq_false_iff.mpr c25
   subst c25
   have H1 : ((ask_Scan.f kj5 l0_0 a0_1 a1 l2 l3_0 a3_2 a3_3).bind fun bt550 => ((ask_Scan.f kj5 l0_0 a0_1 a1 l2 l3_0 a3_2 a4).bind fun bt554 => ((ask_Scan.f kj5 l0_0 a0_1 a1 l2 l3_0 a4 a3_3).bind fun bt558 => (if bt550.2 = 0 then (rickyardlaw17_AskRanges.l0 kj5 a4 bt550.1 bt554.1 bt554.2 bt558.1 bt558.2 0 0 0) else ((rickyardlaw17_alive.f kj5).bind fun t562 => (if t562 = true then (some ((bt550.1.length : Int) == 0)) else (some false))))))) = some r := by rw [if_neg (show ¬ (false = true) by decide)] at H; exact H
   clear H
   have H := H1
   clear H1
   replace H := bnA H
   obtain ⟨⟨t550, t553⟩, A28, H⟩ := H
   replace H : ((ask_Scan.f kj5 l0_0 a0_1 a1 l2 l3_0 a3_2 a4).bind fun bt554 => ((ask_Scan.f kj5 l0_0 a0_1 a1 l2 l3_0 a4 a3_3).bind fun bt558 => (if t553 = 0 then (rickyardlaw17_AskRanges.l0 kj5 a4 t550 bt554.1 bt554.2 bt558.1 bt558.2 0 0 0) else ((rickyardlaw17_alive.f kj5).bind fun t562 => (if t562 = true then (some ((t550.length : Int) == 0)) else (some false)))))) = some r := H
   replace H := bnA H
   obtain ⟨⟨t554, t557⟩, A29, H⟩ := H
   replace H : ((ask_Scan.f kj5 l0_0 a0_1 a1 l2 l3_0 a4 a3_3).bind fun bt558 => (if t553 = 0 then (rickyardlaw17_AskRanges.l0 kj5 a4 t550 t554 t557 bt558.1 bt558.2 0 0 0) else ((rickyardlaw17_alive.f kj5).bind fun t562 => (if t562 = true then (some ((t550.length : Int) == 0)) else (some false))))) = some r := H
   replace H := bnA H
   obtain ⟨⟨t558, t561⟩, A30, H⟩ := H
   replace H : (if t553 = 0 then (rickyardlaw17_AskRanges.l0 kj5 a4 t550 t554 t557 t558 t561 0 0 0) else ((rickyardlaw17_alive.f kj5).bind fun t562 => (if t562 = true then (some ((t550.length : Int) == 0)) else (some false)))) = some r := H
   by_cases c31 : t553 = 0
   rotate_left
   ·rw [if_neg c31] at H
    have c31b0 := beq_eq_false_iff_ne.mpr c31
    have c31b1 := bne_iff_ne.mpr c31
    replace H := bnA H
    obtain ⟨t562, A109, H⟩ := H
    by_cases c110 : t562 = true
    ·subst c110
     have H1 : (some ((t550.length : Int) == 0)) = some r := by rw [if_pos rfl] at H; exact H
     clear H
     have H := H1
     clear H1
     obtain rfl := Option.some.inj H
     have hnb111 := NB545_546.out
     have hnc111 := NB546_545.out
     obtain ⟨hcz112_0, hcz112_1, hfz112_0, hfz112_1⟩ := blk2 BK545
     obtain ⟨hcz113_0, hcz113_1, hcz113_2, hcz113_3, hcz113_4, hfz113_0, hfz113_1, hfz113_2, hfz113_3, hfz113_4⟩ := blk5 BK546
     go_wp2_with (first | ((with_reducible refine gate_callee (f := 10) rfl ?_); refine goesL_ (some 50) rfl rfl Try.func10 (by kernel_rfl) rfl #[.agg #[.slice A0_0 l0_0.length c0_0, .int .i64 a0_1], .int .i64 a1, .slice A2 l2.length c2, .slice A3_0 l3_0.length c3_0, .int .i64 a3_2, .int .i64 a3_3] rfl argA ?_; (with_reducible refine (ask_Scan.calls kj5 _ _ l0_0 a0_1 a1 _ _ l2 _ _ l3_0 a3_2 a3_3 t550 t553 _ ?side1 ?side2 ?side3 ?side4 ?side5 ?side6 A28.out).mono ?_); (case side1 => exact cb1 HR0_0 HB); (case side2 => exact HC0_0.out); (case side3 => exact cb1 HR2 HB); (case side4 => exact HC2.out); (case side5 => exact cb1 HR3_0 HB); (case side6 => exact HC3_0.out); rintro e w114 ⟨v551, rfl, ho0, hb⟩; refine ⟨_, rfl, ?_⟩; have HO552 := Aside0.mk (Kd.N_lower (Kd.N_mono (ok' := fun k_ => k_ ≠ gb545 ∧ k_ ≠ gb546) (Kd.R_N (Kd.R_bound ho0)) (fun k_ hk_ => ⟨(frB BK545 k_ hk_.2.1), (frB BK546 k_ hk_.2.1)⟩)) (below_size (belC HB.out GE545.out GE546.out))); replace BK545 := blkB BK545 hb; replace BK546 := blkB BK546 hb; replace HB := bs3 HB GE545 GE546 hb; (try clear hb); (try clear ho0); obtain ⟨hcz115_0, hcz115_1, hfz115_0, hfz115_1⟩ := blk2 BK545; obtain ⟨hcz116_0, hcz116_1, hcz116_2, hcz116_3, hcz116_4, hfz116_0, hfz116_1, hfz116_2, hfz116_3, hfz116_4⟩ := blk5 BK546) | ((with_reducible refine gate_callee (f := 10) rfl ?_); refine goesL_ (some 62) rfl rfl Try.func10 (by kernel_rfl) rfl #[.agg #[.slice A0_0 l0_0.length c0_0, .int .i64 a0_1], .int .i64 a1, .slice A2 l2.length c2, .slice A3_0 l3_0.length c3_0, .int .i64 a3_2, .int .i64 a4] rfl argA ?_; (with_reducible refine (ask_Scan.calls kj5 _ _ l0_0 a0_1 a1 _ _ l2 _ _ l3_0 a3_2 a4 t554 t557 _ ?side1 ?side2 ?side3 ?side4 ?side5 ?side6 A29.out).mono ?_); (case side1 => exact cb1 HR0_0 HB); (case side2 => exact HC0_0.out); (case side3 => exact cb1 HR2 HB); (case side4 => exact HC2.out); (case side5 => exact cb1 HR3_0 HB); (case side6 => exact HC3_0.out); rintro e w117 ⟨v555, rfl, ho0, hb⟩; refine ⟨_, rfl, ?_⟩; have HO556 := Aside0.mk (Kd.N_lower (Kd.N_mono (ok' := fun k_ => some k_ ≠ (v551 : Value).ownBlock ∧ k_ ≠ gb545 ∧ k_ ≠ gb546) (Kd.R_N (Kd.R_bound ho0)) (fun k_ hk_ => ⟨(Kd.fresh' (Kd.N_lt (nilA HO552.out)) k_ hk_.2.1), (frB BK545 k_ hk_.2.1), (frB BK546 k_ hk_.2.1)⟩)) (below_size (belC HB.out GE545.out GE546.out))); replace HO552 := Aside0.mk (Kd.N_elder' (nilA HO552.out) (Kd.N_base (Kd.R_N ho0)) hb); replace BK545 := blkB BK545 hb; replace BK546 := blkB BK546 hb; replace HB := bs3 HB GE545 GE546 hb; (try clear hb); (try clear ho0); obtain ⟨hcz118_0, hcz118_1, hfz118_0, hfz118_1⟩ := blk2 BK545; obtain ⟨hcz119_0, hcz119_1, hcz119_2, hcz119_3, hcz119_4, hfz119_0, hfz119_1, hfz119_2, hfz119_3, hfz119_4⟩ := blk5 BK546) | ((with_reducible refine gate_callee (f := 10) rfl ?_); refine goesL_ (some 74) rfl rfl Try.func10 (by kernel_rfl) rfl #[.agg #[.slice A0_0 l0_0.length c0_0, .int .i64 a0_1], .int .i64 a1, .slice A2 l2.length c2, .slice A3_0 l3_0.length c3_0, .int .i64 a4, .int .i64 a3_3] rfl argA ?_; (with_reducible refine (ask_Scan.calls kj5 _ _ l0_0 a0_1 a1 _ _ l2 _ _ l3_0 a4 a3_3 t558 t561 _ ?side1 ?side2 ?side3 ?side4 ?side5 ?side6 A30.out).mono ?_); (case side1 => exact cb1 HR0_0 HB); (case side2 => exact HC0_0.out); (case side3 => exact cb1 HR2 HB); (case side4 => exact HC2.out); (case side5 => exact cb1 HR3_0 HB); (case side6 => exact HC3_0.out); rintro e w120 ⟨v559, rfl, ho0, hb⟩; refine ⟨_, rfl, ?_⟩; have HO560 := Aside0.mk (Kd.N_lower (Kd.N_mono (ok' := fun k_ => some k_ ≠ (v551 : Value).ownBlock ∧ some k_ ≠ (v555 : Value).ownBlock ∧ k_ ≠ gb545 ∧ k_ ≠ gb546) (Kd.R_N (Kd.R_bound ho0)) (fun k_ hk_ => ⟨(Kd.fresh' (Kd.N_lt (nilA HO552.out)) k_ hk_.2.1), (Kd.fresh' (Kd.N_lt (nilA HO556.out)) k_ hk_.2.1), (frB BK545 k_ hk_.2.1), (frB BK546 k_ hk_.2.1)⟩)) (below_size (belC HB.out GE545.out GE546.out))); replace HO552 := Aside0.mk (Kd.N_elder' (nilA HO552.out) (Kd.N_base (Kd.R_N ho0)) hb); replace HO556 := Aside0.mk (Kd.N_elder' (nilA HO556.out) (Kd.N_base (Kd.R_N ho0)) hb); replace BK545 := blkB BK545 hb; replace BK546 := blkB BK546 hb; replace HB := bs3 HB GE545 GE546 hb; (try clear hb); (try clear ho0)) | ((with_reducible refine gate_callee (f := 9) rfl ?_); refine goesL_ (some 79) rfl rfl Try.func9 (by kernel_rfl) rfl #[] rfl argA ?_; (with_reducible refine (rickyardlaw17_alive.calls kj5  true _ A109.out).mono ?_); rintro e w121 ⟨rfl, hb⟩; refine ⟨_, rfl, ?_⟩; replace HO552 := Aside0.mk (Kd.N_below (nilA HO552.out) hb); replace HO556 := Aside0.mk (Kd.N_below (nilA HO556.out) hb); replace HO560 := Aside0.mk (Kd.N_below (nilA HO560.out) hb); replace BK545 := blkB BK545 hb; replace BK546 := blkB BK546 hb; replace HB := bs3 HB GE545 GE546 hb; (try clear hb); obtain ⟨Ao122, co122, eo122⟩ := Kd.N_slice HO552.out; subst eo122))
     go_ret
     exact ⟨ret1, belC HB.out GE545.out GE546.out⟩
    replace c110 := Bool.eq_false_iff.mpr c110
    subst c110
    have H1 : (some false) = some r := by rw [if_neg (show ¬ (false = true) by decide)] at H; exact H
    clear H
    have H := H1
    clear H1
    obtain rfl := Option.some.inj H
    have hnb123 := NB545_546.out
    have hnc123 := NB546_545.out
    obtain ⟨hcz124_0, hcz124_1, hfz124_0, hfz124_1⟩ := blk2 BK545
    obtain ⟨hcz125_0, hcz125_1, hcz125_2, hcz125_3, hcz125_4, hfz125_0, hfz125_1, hfz125_2, hfz125_3, hfz125_4⟩ := blk5 BK546
    go_wp2_with (first | ((with_reducible refine gate_callee (f := 10) rfl ?_); refine goesL_ (some 50) rfl rfl Try.func10 (by kernel_rfl) rfl #[.agg #[.slice A0_0 l0_0.length c0_0, .int .i64 a0_1], .int .i64 a1, .slice A2 l2.length c2, .slice A3_0 l3_0.length c3_0, .int .i64 a3_2, .int .i64 a3_3] rfl argA ?_; (with_reducible refine (ask_Scan.calls kj5 _ _ l0_0 a0_1 a1 _ _ l2 _ _ l3_0 a3_2 a3_3 t550 t553 _ ?side1 ?side2 ?side3 ?side4 ?side5 ?side6 A28.out).mono ?_); (case side1 => exact cb1 HR0_0 HB); (case side2 => exact HC0_0.out); (case side3 => exact cb1 HR2 HB); (case side4 => exact HC2.out); (case side5 => exact cb1 HR3_0 HB); (case side6 => exact HC3_0.out); rintro e w126 ⟨v551, rfl, ho0, hb⟩; refine ⟨_, rfl, ?_⟩; have HO552 := Aside0.mk (Kd.N_lower (Kd.N_mono (ok' := fun k_ => k_ ≠ gb545 ∧ k_ ≠ gb546) (Kd.R_N (Kd.R_bound ho0)) (fun k_ hk_ => ⟨(frB BK545 k_ hk_.2.1), (frB BK546 k_ hk_.2.1)⟩)) (below_size (belC HB.out GE545.out GE546.out))); replace BK545 := blkB BK545 hb; replace BK546 := blkB BK546 hb; replace HB := bs3 HB GE545 GE546 hb; (try clear hb); (try clear ho0); obtain ⟨hcz127_0, hcz127_1, hfz127_0, hfz127_1⟩ := blk2 BK545; obtain ⟨hcz128_0, hcz128_1, hcz128_2, hcz128_3, hcz128_4, hfz128_0, hfz128_1, hfz128_2, hfz128_3, hfz128_4⟩ := blk5 BK546) | ((with_reducible refine gate_callee (f := 10) rfl ?_); refine goesL_ (some 62) rfl rfl Try.func10 (by kernel_rfl) rfl #[.agg #[.slice A0_0 l0_0.length c0_0, .int .i64 a0_1], .int .i64 a1, .slice A2 l2.length c2, .slice A3_0 l3_0.length c3_0, .int .i64 a3_2, .int .i64 a4] rfl argA ?_; (with_reducible refine (ask_Scan.calls kj5 _ _ l0_0 a0_1 a1 _ _ l2 _ _ l3_0 a3_2 a4 t554 t557 _ ?side1 ?side2 ?side3 ?side4 ?side5 ?side6 A29.out).mono ?_); (case side1 => exact cb1 HR0_0 HB); (case side2 => exact HC0_0.out); (case side3 => exact cb1 HR2 HB); (case side4 => exact HC2.out); (case side5 => exact cb1 HR3_0 HB); (case side6 => exact HC3_0.out); rintro e w129 ⟨v555, rfl, ho0, hb⟩; refine ⟨_, rfl, ?_⟩; have HO556 := Aside0.mk (Kd.N_lower (Kd.N_mono (ok' := fun k_ => some k_ ≠ (v551 : Value).ownBlock ∧ k_ ≠ gb545 ∧ k_ ≠ gb546) (Kd.R_N (Kd.R_bound ho0)) (fun k_ hk_ => ⟨(Kd.fresh' (Kd.N_lt (nilA HO552.out)) k_ hk_.2.1), (frB BK545 k_ hk_.2.1), (frB BK546 k_ hk_.2.1)⟩)) (below_size (belC HB.out GE545.out GE546.out))); replace HO552 := Aside0.mk (Kd.N_elder' (nilA HO552.out) (Kd.N_base (Kd.R_N ho0)) hb); replace BK545 := blkB BK545 hb; replace BK546 := blkB BK546 hb; replace HB := bs3 HB GE545 GE546 hb; (try clear hb); (try clear ho0); obtain ⟨hcz130_0, hcz130_1, hfz130_0, hfz130_1⟩ := blk2 BK545; obtain ⟨hcz131_0, hcz131_1, hcz131_2, hcz131_3, hcz131_4, hfz131_0, hfz131_1, hfz131_2, hfz131_3, hfz131_4⟩ := blk5 BK546) | ((with_reducible refine gate_callee (f := 10) rfl ?_); refine goesL_ (some 74) rfl rfl Try.func10 (by kernel_rfl) rfl #[.agg #[.slice A0_0 l0_0.length c0_0, .int .i64 a0_1], .int .i64 a1, .slice A2 l2.length c2, .slice A3_0 l3_0.length c3_0, .int .i64 a4, .int .i64 a3_3] rfl argA ?_; (with_reducible refine (ask_Scan.calls kj5 _ _ l0_0 a0_1 a1 _ _ l2 _ _ l3_0 a4 a3_3 t558 t561 _ ?side1 ?side2 ?side3 ?side4 ?side5 ?side6 A30.out).mono ?_); (case side1 => exact cb1 HR0_0 HB); (case side2 => exact HC0_0.out); (case side3 => exact cb1 HR2 HB); (case side4 => exact HC2.out); (case side5 => exact cb1 HR3_0 HB); (case side6 => exact HC3_0.out); rintro e w132 ⟨v559, rfl, ho0, hb⟩; refine ⟨_, rfl, ?_⟩; have HO560 := Aside0.mk (Kd.N_lower (Kd.N_mono (ok' := fun k_ => some k_ ≠ (v551 : Value).ownBlock ∧ some k_ ≠ (v555 : Value).ownBlock ∧ k_ ≠ gb545 ∧ k_ ≠ gb546) (Kd.R_N (Kd.R_bound ho0)) (fun k_ hk_ => ⟨(Kd.fresh' (Kd.N_lt (nilA HO552.out)) k_ hk_.2.1), (Kd.fresh' (Kd.N_lt (nilA HO556.out)) k_ hk_.2.1), (frB BK545 k_ hk_.2.1), (frB BK546 k_ hk_.2.1)⟩)) (below_size (belC HB.out GE545.out GE546.out))); replace HO552 := Aside0.mk (Kd.N_elder' (nilA HO552.out) (Kd.N_base (Kd.R_N ho0)) hb); replace HO556 := Aside0.mk (Kd.N_elder' (nilA HO556.out) (Kd.N_base (Kd.R_N ho0)) hb); replace BK545 := blkB BK545 hb; replace BK546 := blkB BK546 hb; replace HB := bs3 HB GE545 GE546 hb; (try clear hb); (try clear ho0)) | ((with_reducible refine gate_callee (f := 9) rfl ?_); refine goesL_ (some 79) rfl rfl Try.func9 (by kernel_rfl) rfl #[] rfl argA ?_; (with_reducible refine (rickyardlaw17_alive.calls kj5  false _ A109.out).mono ?_); rintro e w133 ⟨rfl, hb⟩; refine ⟨_, rfl, ?_⟩; replace HO552 := Aside0.mk (Kd.N_below (nilA HO552.out) hb); replace HO556 := Aside0.mk (Kd.N_below (nilA HO556.out) hb); replace HO560 := Aside0.mk (Kd.N_below (nilA HO560.out) hb); replace BK545 := blkB BK545 hb; replace BK546 := blkB BK546 hb; replace HB := bs3 HB GE545 GE546 hb; (try clear hb)))
    go_ret
    exact ⟨ret1, belC HB.out GE545.out GE546.out⟩
   rw [if_pos c31] at H
   have c31b0 := beq_iff_eq.mpr c31
   have c31b1 := bne_eq_false_iff_eq.mpr c31
   clear c31
   have H' := Aside0.mk H
   clear H
   have hnb32 := NB545_546.out
   have hnc32 := NB546_545.out
   obtain ⟨hcz33_0, hcz33_1, hfz33_0, hfz33_1⟩ := blk2 BK545
   obtain ⟨hcz34_0, hcz34_1, hcz34_2, hcz34_3, hcz34_4, hfz34_0, hfz34_1, hfz34_2, hfz34_3, hfz34_4⟩ := blk5 BK546
   go_wp2_with (first | ((with_reducible refine gate_callee (f := 10) rfl ?_); refine goesL_ (some 50) rfl rfl Try.func10 (by kernel_rfl) rfl #[.agg #[.slice A0_0 l0_0.length c0_0, .int .i64 a0_1], .int .i64 a1, .slice A2 l2.length c2, .slice A3_0 l3_0.length c3_0, .int .i64 a3_2, .int .i64 a3_3] rfl argA ?_; (with_reducible refine (ask_Scan.calls kj5 _ _ l0_0 a0_1 a1 _ _ l2 _ _ l3_0 a3_2 a3_3 t550 t553 _ ?side1 ?side2 ?side3 ?side4 ?side5 ?side6 A28.out).mono ?_); (case side1 => exact cb1 HR0_0 HB); (case side2 => exact HC0_0.out); (case side3 => exact cb1 HR2 HB); (case side4 => exact HC2.out); (case side5 => exact cb1 HR3_0 HB); (case side6 => exact HC3_0.out); rintro e w35 ⟨v551, rfl, ho0, hb⟩; refine ⟨_, rfl, ?_⟩; have HO552 := Aside0.mk (Kd.N_lower (Kd.N_mono (ok' := fun k_ => k_ ≠ gb545 ∧ k_ ≠ gb546) (Kd.R_N (Kd.R_bound ho0)) (fun k_ hk_ => ⟨(frB BK545 k_ hk_.2.1), (frB BK546 k_ hk_.2.1)⟩)) (below_size (belC HB.out GE545.out GE546.out))); replace BK545 := blkB BK545 hb; replace BK546 := blkB BK546 hb; replace HB := bs3 HB GE545 GE546 hb; (try clear hb); (try clear ho0); obtain ⟨hcz36_0, hcz36_1, hfz36_0, hfz36_1⟩ := blk2 BK545; obtain ⟨hcz37_0, hcz37_1, hcz37_2, hcz37_3, hcz37_4, hfz37_0, hfz37_1, hfz37_2, hfz37_3, hfz37_4⟩ := blk5 BK546) | ((with_reducible refine gate_callee (f := 10) rfl ?_); refine goesL_ (some 62) rfl rfl Try.func10 (by kernel_rfl) rfl #[.agg #[.slice A0_0 l0_0.length c0_0, .int .i64 a0_1], .int .i64 a1, .slice A2 l2.length c2, .slice A3_0 l3_0.length c3_0, .int .i64 a3_2, .int .i64 a4] rfl argA ?_; (with_reducible refine (ask_Scan.calls kj5 _ _ l0_0 a0_1 a1 _ _ l2 _ _ l3_0 a3_2 a4 t554 t557 _ ?side1 ?side2 ?side3 ?side4 ?side5 ?side6 A29.out).mono ?_); (case side1 => exact cb1 HR0_0 HB); (case side2 => exact HC0_0.out); (case side3 => exact cb1 HR2 HB); (case side4 => exact HC2.out); (case side5 => exact cb1 HR3_0 HB); (case side6 => exact HC3_0.out); rintro e w38 ⟨v555, rfl, ho0, hb⟩; refine ⟨_, rfl, ?_⟩; have HO556 := Aside0.mk (Kd.N_lower (Kd.N_mono (ok' := fun k_ => some k_ ≠ (v551 : Value).ownBlock ∧ k_ ≠ gb545 ∧ k_ ≠ gb546) (Kd.R_N (Kd.R_bound ho0)) (fun k_ hk_ => ⟨(Kd.fresh' (Kd.N_lt (nilA HO552.out)) k_ hk_.2.1), (frB BK545 k_ hk_.2.1), (frB BK546 k_ hk_.2.1)⟩)) (below_size (belC HB.out GE545.out GE546.out))); replace HO552 := Aside0.mk (Kd.N_elder' (nilA HO552.out) (Kd.N_base (Kd.R_N ho0)) hb); replace BK545 := blkB BK545 hb; replace BK546 := blkB BK546 hb; replace HB := bs3 HB GE545 GE546 hb; (try clear hb); (try clear ho0); obtain ⟨hcz39_0, hcz39_1, hfz39_0, hfz39_1⟩ := blk2 BK545; obtain ⟨hcz40_0, hcz40_1, hcz40_2, hcz40_3, hcz40_4, hfz40_0, hfz40_1, hfz40_2, hfz40_3, hfz40_4⟩ := blk5 BK546) | ((with_reducible refine gate_callee (f := 10) rfl ?_); refine goesL_ (some 74) rfl rfl Try.func10 (by kernel_rfl) rfl #[.agg #[.slice A0_0 l0_0.length c0_0, .int .i64 a0_1], .int .i64 a1, .slice A2 l2.length c2, .slice A3_0 l3_0.length c3_0, .int .i64 a4, .int .i64 a3_3] rfl argA ?_; (with_reducible refine (ask_Scan.calls kj5 _ _ l0_0 a0_1 a1 _ _ l2 _ _ l3_0 a4 a3_3 t558 t561 _ ?side1 ?side2 ?side3 ?side4 ?side5 ?side6 A30.out).mono ?_); (case side1 => exact cb1 HR0_0 HB); (case side2 => exact HC0_0.out); (case side3 => exact cb1 HR2 HB); (case side4 => exact HC2.out); (case side5 => exact cb1 HR3_0 HB); (case side6 => exact HC3_0.out); rintro e w41 ⟨v559, rfl, ho0, hb⟩; refine ⟨_, rfl, ?_⟩; have HO560 := Aside0.mk (Kd.N_lower (Kd.N_mono (ok' := fun k_ => some k_ ≠ (v551 : Value).ownBlock ∧ some k_ ≠ (v555 : Value).ownBlock ∧ k_ ≠ gb545 ∧ k_ ≠ gb546) (Kd.R_N (Kd.R_bound ho0)) (fun k_ hk_ => ⟨(Kd.fresh' (Kd.N_lt (nilA HO552.out)) k_ hk_.2.1), (Kd.fresh' (Kd.N_lt (nilA HO556.out)) k_ hk_.2.1), (frB BK545 k_ hk_.2.1), (frB BK546 k_ hk_.2.1)⟩)) (below_size (belC HB.out GE545.out GE546.out))); replace HO552 := Aside0.mk (Kd.N_elder' (nilA HO552.out) (Kd.N_base (Kd.R_N ho0)) hb); replace HO556 := Aside0.mk (Kd.N_elder' (nilA HO556.out) (Kd.N_base (Kd.R_N ho0)) hb); replace BK545 := blkB BK545 hb; replace BK546 := blkB BK546 hb; replace HB := bs3 HB GE545 GE546 hb; (try clear hb); (try clear ho0)))
   go_loopg [17, 18, 19] kj5 (fun kq v17 v18 v19 w' => ∃ (x17_2 : Int) (x18_2 : Int) (x19_2 : Int), v17 = .int .i64 x17_2 ∧ v18 = .int .i64 x18_2 ∧ v19 = .int .i64 x19_2 ∧ Aside0 (rickyardlaw17_AskRanges.l0 kq a4 t550 t554 t557 t558 t561 x17_2 x18_2 x19_2 = some r) ∧ Aside0 (kq ≤ kj5) ∧ Aside0 (Kd.N k44 44 w' w.heap.size (fun k_ => some k_ ≠ (v555 : Value).ownBlock ∧ some k_ ≠ (v559 : Value).ownBlock ∧ k_ ≠ gb545 ∧ k_ ≠ gb546) v551 t550) ∧ Aside0 (Kd.N k44 44 w' w.heap.size (fun k_ => some k_ ≠ (v551 : Value).ownBlock ∧ some k_ ≠ (v559 : Value).ownBlock ∧ k_ ≠ gb545 ∧ k_ ≠ gb546) v555 t554) ∧ Aside0 (Kd.N k44 44 w' w.heap.size (fun k_ => some k_ ≠ (v551 : Value).ownBlock ∧ some k_ ≠ (v555 : Value).ownBlock ∧ k_ ≠ gb545 ∧ k_ ≠ gb546) v559 t558) ∧ Aside0 (w'.heap[gb545]? = some (.cells #[(.slice A0_0 l0_0.length c0_0), .int .i64 a0_1] 24 (0, 0))) ∧ Aside0 (w'.heap[gb546]? = some (.cells #[(.slice A3_0 l3_0.length c3_0), .int .i64 a3_1, .int .i64 a3_2, .int .i64 a3_3, .int .i64 a3_4] 28 (0, 0))) ∧ Aside0 (Below w.heap.size w w'))
   case atStart => exact ⟨(0), (0), (0), relA, relA, relA, H', ⟨Nat.le_refl _⟩, ⟨by (with_reducible repeat (first | apply Kd.N_alloc | apply Kd.N_drewN | apply Kd.N_drew)); exact Kd.N_mono HO552.out (fun _ hk => ⟨hk.1.2, ⟨hk.2, ⟨hk.1.1.1, hk.1.1.2⟩⟩⟩)⟩, ⟨by (with_reducible repeat (first | apply Kd.N_alloc | apply Kd.N_drewN | apply Kd.N_drew)); exact Kd.N_mono HO556.out (fun _ hk => ⟨hk.1.1, ⟨hk.2, ⟨hk.1.2.1, hk.1.2.2⟩⟩⟩)⟩, ⟨nilA HO560.out⟩, ⟨blkA BK545.out⟩, ⟨blkA BK546.out⟩, ⟨belC HB.out GE545.out GE546.out⟩⟩
   case round =>
    clear H'
    try clear c1
    try clear c2
    try clear p2
    try clear c3
    try clear c7
    try clear c9
    try clear c10
    try clear c12
    try clear c13
    try clear c16
    try clear c16b0
    try clear c17
    try clear c21
    try clear c25
    try clear c31
    try clear c31b0
    try clear c31b1
    try clear c32
    try clear hcz14_0 hcz14_1 hcz14_2 hcz14_3 hcz14_4
    try clear hcz18_0 hcz18_1 hcz18_2 hcz18_3 hcz18_4
    try clear hcz20_0 hcz20_1 hcz20_2 hcz20_3 hcz20_4
    try clear hcz22_0 hcz22_1 hcz22_2 hcz22_3 hcz22_4
    try clear hcz24_0 hcz24_1 hcz24_2 hcz24_3 hcz24_4
    try clear hcz33_0 hcz33_1
    try clear hcz34_0 hcz34_1 hcz34_2 hcz34_3 hcz34_4
    try clear hcz36_0 hcz36_1
    try clear hcz37_0 hcz37_1 hcz37_2 hcz37_3 hcz37_4
    try clear hcz39_0 hcz39_1
    try clear hcz40_0 hcz40_1 hcz40_2 hcz40_3 hcz40_4
    try clear hfz14_0 hfz14_1 hfz14_2 hfz14_3 hfz14_4
    try clear hfz18_0 hfz18_1 hfz18_2 hfz18_3 hfz18_4
    try clear hfz20_0 hfz20_1 hfz20_2 hfz20_3 hfz20_4
    try clear hfz22_0 hfz22_1 hfz22_2 hfz22_3 hfz22_4
    try clear hfz24_0 hfz24_1 hfz24_2 hfz24_3 hfz24_4
    try clear hfz33_0 hfz33_1
    try clear hfz34_0 hfz34_1 hfz34_2 hfz34_3 hfz34_4
    try clear hfz36_0 hfz36_1
    try clear hfz37_0 hfz37_1 hfz37_2 hfz37_3 hfz37_4
    try clear hfz39_0 hfz39_1
    try clear hfz40_0 hfz40_1 hfz40_2 hfz40_3 hfz40_4
    try clear p2
    obtain ⟨x17_2, x18_2, x19_2, rfl, rfl, rfl, HA, HK2, HO_11, HO_13, HO_15, BK545, BK546, HB⟩ := hrel
    cases gk with
    | zero => exact absurd HA.out (by simp [rickyardlaw17_AskRanges.l0])
    | succ k2 =>
     have H := HA.out
     clear HA
     simp only [rickyardlaw17_AskRanges.l0] at H
     by_cases c42 : x19_2 < (t550.length : Int)
     ·rw [if_pos c42] at H
      have c42b0 := decide_eq_true c42
      clear c42
      by_cases c43 : 0 ≤ x19_2
      ·rw [if_pos c43] at H
       have c43b0 := eq_true c43
       have c43b1 := decide_eq_true c43
       clear c43
       by_cases c44 : x19_2 ≤ (wrap64 (x19_2 + 1))
       ·rw [if_pos c44] at H
        have c44b0 := eq_true c44
        have c44b1 := decide_eq_true c44
        by_cases c45 : (wrap64 (x19_2 + 1)) ≤ (t550.length : Int)
        ·rw [if_pos c45] at H
         have c45b0 := eq_true c45
         have c45b1 := decide_eq_true c45
         obtain ⟨y564, hy564⟩ : ∃ y_ : List (S44), y_ = ((t550.take ((wrap64 (x19_2 + 1)) : Int).toNat).drop (x19_2 : Int).toNat) := ⟨_, rfl⟩
         replace H : ((rickyardlaw17_As.f k2 y564).bind fun t569 => (if x17_2 < (t554.length : Int) then (if ((rd_T44 t550 x19_2).f1) < a4 then (if 0 ≤ x17_2 then (if x17_2 ≤ (wrap64 (x17_2 + 1)) then (if (wrap64 (x17_2 + 1)) ≤ (t554.length : Int) then ((rickyardlaw17_As.f k2 ((t554.take ((wrap64 (x17_2 + 1)) : Int).toNat).drop (x17_2 : Int).toNat)).bind fun t578 => ((rickyardref17_SameAll.f k2 t569 t578).bind fun t581 => (rickyardlaw17_AskRanges.j2 k2 a4 t550 t554 t557 t558 t561 x17_2 x18_2 x19_2 t569 t581))) else (none)) else (none)) else (none)) else (rickyardlaw17_AskRanges.j2 k2 a4 t550 t554 t557 t558 t561 x17_2 x18_2 x19_2 t569 false)) else (rickyardlaw17_AskRanges.j2 k2 a4 t550 t554 t557 t558 t561 x17_2 x18_2 x19_2 t569 false))) = some r := nmA hy564 H
         have Ny564 := Aside0.mk hy564
         clear hy564
         replace H := bnA H
         obtain ⟨t569, A46, H⟩ := H
         have HC47 := Aside0.mk H
         clear H
         obtain ⟨Ao48, co48, eo48⟩ := Kd.N_slice HO_11.out
         subst eo48
         have q49 : ((wrap64 (x19_2 + 1)) : Int) ≤ ((t550.length : Int) : Int) := of_decide_eq_true asmA
         obtain ⟨i049, hi049, _, hsz49, _⟩ := info_parts info44
         have hroom49 : t550.length ≤ co48 := (Kd.N_reads' HO_11.out).2.1
         have hC49 : Kd.F k44 _ _ Ao48 t550.length t550 := (Kd.V_at (base := w.heap.size) (Kd.N_V HO_11.out)).2.2
         have ql49 : (x19_2 : Int) ≤ ((wrap64 (x19_2 + 1)) : Int) := of_decide_eq_true asmA
         have q049 : (0 : Int) ≤ (x19_2 : Int) := of_decide_eq_true asmA
         have hcut49 := cut_mid (P := Try.prog) 32 44 .i64 .i64 Try.underlying32 hi049 9 hsz49 Ao48 t550.length co48 x19_2 (wrap64 (x19_2 + 1)) q049 ql49 q49 hroom49
         have hr49 := Kd.F_mid (lo := (x19_2 : Int).toNat) (hi := ((wrap64 (x19_2 + 1)) : Int).toNat) (c := co48) hC49 (by omega) (by omega) hroom49
         obtain ⟨A49, hA49⟩ : ∃ A1, A1 = (if co48 = (x19_2 : Int).toNat then Ao48 else (Ao48 : Option Addr).map (·.add ((x19_2 : Int).toNat * 9))) := ⟨_, rfl⟩
         obtain ⟨c49, hc49⟩ : ∃ c1, c1 = co48 - (x19_2 : Int).toNat := ⟨_, rfl⟩
         have hy49 : y564.length = ((wrap64 (x19_2 + 1)) : Int).toNat - (x19_2 : Int).toNat := (by rw [Ny564.out, List.length_drop, List.length_take] <;> omega)
         rw [show ((t550).take ((wrap64 (x19_2 + 1)) : Int).toNat).drop (x19_2 : Int).toNat = y564 from Ny564.out.symm] at hr49
         replace hr49 : Kd.F k44 _ _ A49 y564.length y564 := (by rw [hA49]; exact hr49)
         rw [← hy49, ← hA49, ← hc49] at hcut49
         have HO568 := Aside0.mk (show Kd.V k44 44 _ w.heap.size _ (.slice A49 y564.length c49) y564 from Kd.V_mk (by rw [hy49, hc49]; exact Nat.sub_le_sub_right (Nat.le_trans (by omega) hroom49) _) hr49)
         have HC568 := Aside0.mk (show y564.length ≤ c49 from by rw [hy49, hc49]; exact Nat.sub_le_sub_right (Nat.le_trans (by omega) hroom49) _)
         clear hr49 hC49 hroom49 hi049 hsz49 hc49
         have KY49 := Aside0.mk hy49
         have KA49 := Aside0.mk hA49
         clear hy49 hA49
         replace q49 := eq_true q49
         go_upto_region 14 with (first | ((with_reducible refine gate_callee (f := 11) rfl ?_); refine goesL_ (some 96) rfl rfl Try.func11 (by kernel_rfl) rfl #[.slice A49 y564.length c49] rfl argA ?_; (with_reducible refine (rickyardlaw17_As.calls k2 (fun k_ => (some k_ ≠ (v555 : Value).ownBlock ∧ (some k_ ≠ (v559 : Value).ownBlock ∧ (k_ ≠ gb545 ∧ k_ ≠ gb546)))) _ _ y564 t569 _ ?side1 A46.out).mono ?_); (case side1 => exact HO568.out); rintro e w50 ⟨v570, rfl, ho0, hb⟩; refine ⟨_, rfl, ?_⟩; have HO571 := Aside0.mk (Kd.N_lower (Kd.N_mono (ok' := fun k_ => some k_ ≠ (v555 : Value).ownBlock ∧ some k_ ≠ (v559 : Value).ownBlock ∧ k_ ≠ gb545 ∧ k_ ≠ gb546) ho0 (fun k_ hk_ => ⟨Or.elim hk_ (fun hs_ => hs_.1) (fun hn_ => (Kd.fresh' (Kd.N_lt (nilA HO_13.out)) k_ hn_)), Or.elim hk_ (fun hs_ => hs_.2.1) (fun hn_ => (Kd.fresh' (Kd.N_lt (nilA HO_15.out)) k_ hn_)), Or.elim hk_ (fun hs_ => hs_.2.2.1) (fun hn_ => (Kd.freshB (g := gb545) (o := .cells #[.slice A0_0 l0_0.length c0_0, .int .i64 a0_1] 24 (0, 0)) (blkA BK545.out) k_ hn_)), Or.elim hk_ (fun hs_ => hs_.2.2.2) (fun hn_ => (Kd.freshB (g := gb546) (o := .cells #[.slice A3_0 l3_0.length c3_0, .int .i64 a3_1, .int .i64 a3_2, .int .i64 a3_3, .int .i64 a3_4] 28 (0, 0)) (blkA BK546.out) k_ hn_))⟩)) (below_size (belC HB.out GE545.out GE546.out))); replace HO_11 := Aside0.mk (Kd.N_elder' (nilA HO_11.out) (Kd.N_base ho0) hb); replace HO_13 := Aside0.mk (Kd.N_elder' (nilA HO_13.out) (Kd.N_base ho0) hb); replace HO_15 := Aside0.mk (Kd.N_elder' (nilA HO_15.out) (Kd.N_base ho0) hb); replace HO568 := Aside0.mk (Kd.V_elder' (valA HO568.out) (Kd.N_base ho0) hb); replace BK545 := blkB BK545 hb; replace BK546 := blkB BK546 hb; replace HB := bs3 HB GE545 GE546 hb; (try clear hb); (try clear ho0)))
         (try simp only [Act.put, List.setIfInBounds_toArray, List.set_cons_zero, List.set_cons_succ])
         go_cut [97] (fun v97 wc => ∃ (kq : Nat) (x97_46 : Bool), v97 = .bool x97_46 ∧ Aside0 (rickyardlaw17_AskRanges.j2 kq a4 t550 t554 t557 t558 t561 x17_2 x18_2 x19_2 t569 x97_46 = some r) ∧ Aside0 (kq ≤ k2) ∧ Aside0 (Kd.N k44 44 wc w.heap.size (fun k_ => some k_ ≠ (v555 : Value).ownBlock ∧ some k_ ≠ (v559 : Value).ownBlock ∧ some k_ ≠ (v570 : Value).ownBlock ∧ k_ ≠ gb545 ∧ k_ ≠ gb546) (.slice Ao48 t550.length co48) t550) ∧ Aside0 (Kd.N k44 44 wc w.heap.size (fun k_ => some k_ ≠ ((.slice Ao48 t550.length co48) : Value).ownBlock ∧ some k_ ≠ (v559 : Value).ownBlock ∧ some k_ ≠ (v570 : Value).ownBlock ∧ k_ ≠ gb545 ∧ k_ ≠ gb546) v555 t554) ∧ Aside0 (Kd.N k44 44 wc w.heap.size (fun k_ => some k_ ≠ ((.slice Ao48 t550.length co48) : Value).ownBlock ∧ some k_ ≠ (v555 : Value).ownBlock ∧ some k_ ≠ (v570 : Value).ownBlock ∧ k_ ≠ gb545 ∧ k_ ≠ gb546) v559 t558) ∧ Aside0 (Kd.N k73 73 wc w.heap.size (fun k_ => some k_ ≠ (v555 : Value).ownBlock ∧ some k_ ≠ (v559 : Value).ownBlock ∧ k_ ≠ gb545 ∧ k_ ≠ gb546) v570 t569) ∧ Aside0 (wc.heap[gb545]? = some (.cells #[(.slice A0_0 l0_0.length c0_0), .int .i64 a0_1] 24 (0, 0))) ∧ Aside0 (wc.heap[gb546]? = some (.cells #[(.slice A3_0 l3_0.length c3_0), .int .i64 a3_1, .int .i64 a3_2, .int .i64 a3_3, .int .i64 a3_4] 28 (0, 0))) ∧ Aside0 (Below w.heap.size w wc))
         case first =>
          have H := HC47.out
          clear HC47
          by_cases c51 : x17_2 < (t554.length : Int)
          ·rw [if_pos c51] at H
           have c51b0 := decide_eq_true c51
           clear c51
           (first | rw [c51b0] | (simp only [i64_w, i32_w]; rw [c51b0]) | skip)
           by_cases c52 : ((rd_T44 t550 x19_2).f1) < a4
           ·rw [if_pos c52] at H
            have c52b0 := decide_eq_true c52
            clear c52
            by_cases c53 : 0 ≤ x17_2
            ·rw [if_pos c53] at H
             have c53b0 := eq_true c53
             have c53b1 := decide_eq_true c53
             clear c53
             by_cases c54 : x17_2 ≤ (wrap64 (x17_2 + 1))
             ·rw [if_pos c54] at H
              have c54b0 := eq_true c54
              have c54b1 := decide_eq_true c54
              by_cases c55 : (wrap64 (x17_2 + 1)) ≤ (t554.length : Int)
              ·rw [if_pos c55] at H
               have c55b0 := eq_true c55
               have c55b1 := decide_eq_true c55
               obtain ⟨y573, hy573⟩ : ∃ y_ : List (S44), y_ = ((t554.take ((wrap64 (x17_2 + 1)) : Int).toNat).drop (x17_2 : Int).toNat) := ⟨_, rfl⟩
               replace H : ((rickyardlaw17_As.f k2 y573).bind fun t578 => ((rickyardref17_SameAll.f k2 t569 t578).bind fun t581 => (rickyardlaw17_AskRanges.j2 k2 a4 t550 t554 t557 t558 t561 x17_2 x18_2 x19_2 t569 t581))) = some r := nmA hy573 H
               have Ny573 := Aside0.mk hy573
               clear hy573
               replace H := bnA H
               obtain ⟨t578, A56, H⟩ := H
               replace H := bnA H
               obtain ⟨t581, A57, H⟩ := H
               have H' := Aside0.mk H
               clear H
               obtain ⟨Ao58, co58, eo58⟩ := Kd.N_slice HO_13.out
               subst eo58
               have p572 : 0 ≤ (x19_2 : Int) := of_decide_eq_true asmA
               have q572 : x19_2 < (t550.length : Int) := of_decide_eq_true asmA
               obtain ⟨ad572, A572_0, c572_0, e572, hx572_0, hx572_1, hx572_2, hx572_3, hx572_4, hx572_5, hx572_6, hx572_7, hx572_8, hl572_0, hi572_0⟩ := at_T44 (Kd.N_reads' HO_11.out).2.2 x19_2 p572 q572
               cases e572
               obtain ⟨ce572, hce572, hMe572, hcc572⟩ := Kd.N_get HO_11.out z44 x19_2 p572 (by first | exact q572 | exact of_decide_eq_true asmA | (have e_ := (Kd.N_reads' HO_11.out).1; omega))
               obtain ⟨ua572_0, uc572_0, rfl, ul572_0, ge572_0⟩ := k44_openF hMe572
               have hv572_0 := hcc572 0 _ rfl
               rw [Nat.add_zero] at hv572_0
               replace hv572_0 := Option.some.inj (hv572_0.symm.trans hx572_0)
               injection hv572_0 with hva_ hvn_ hvc_
               rw [hva_] at ge572_0
               rw [hvc_] at ul572_0
               have HL572_0 := Aside0.mk (show Kd.V Kd.string 9 _ w.heap.size _ _ ((rd_T44 t550 x19_2).f0) from Kd.V_mk ul572_0 ge572_0)
               clear hva_ hvn_ hvc_ ge572_0 ul572_0
               clear hcc572 hce572
               have HR572_0 := Aside0.mk hi572_0
               have HC572_0 := Aside0.mk hl572_0
               clear hi572_0 hl572_0
               replace p572 := eq_true p572
               replace q572 := eq_true q572
               have q59 : ((wrap64 (x17_2 + 1)) : Int) ≤ ((t554.length : Int) : Int) := of_decide_eq_true asmA
               obtain ⟨i059, hi059, _, hsz59, _⟩ := info_parts info44
               have hroom59 : t554.length ≤ co58 := (Kd.N_reads' HO_13.out).2.1
               have hC59 : Kd.F k44 _ _ Ao58 t554.length t554 := (Kd.V_at (base := w.heap.size) (Kd.N_V HO_13.out)).2.2
               have ql59 : (x17_2 : Int) ≤ ((wrap64 (x17_2 + 1)) : Int) := of_decide_eq_true asmA
               have q059 : (0 : Int) ≤ (x17_2 : Int) := of_decide_eq_true asmA
               have hcut59 := cut_mid (P := Try.prog) 32 44 .i64 .i64 Try.underlying32 hi059 9 hsz59 Ao58 t554.length co58 x17_2 (wrap64 (x17_2 + 1)) q059 ql59 q59 hroom59
               have hr59 := Kd.F_mid (lo := (x17_2 : Int).toNat) (hi := ((wrap64 (x17_2 + 1)) : Int).toNat) (c := co58) hC59 (by omega) (by omega) hroom59
               obtain ⟨A59, hA59⟩ : ∃ A1, A1 = (if co58 = (x17_2 : Int).toNat then Ao58 else (Ao58 : Option Addr).map (·.add ((x17_2 : Int).toNat * 9))) := ⟨_, rfl⟩
               obtain ⟨c59, hc59⟩ : ∃ c1, c1 = co58 - (x17_2 : Int).toNat := ⟨_, rfl⟩
               have hy59 : y573.length = ((wrap64 (x17_2 + 1)) : Int).toNat - (x17_2 : Int).toNat := (by rw [Ny573.out, List.length_drop, List.length_take] <;> omega)
               rw [show ((t554).take ((wrap64 (x17_2 + 1)) : Int).toNat).drop (x17_2 : Int).toNat = y573 from Ny573.out.symm] at hr59
               replace hr59 : Kd.F k44 _ _ A59 y573.length y573 := (by rw [hA59]; exact hr59)
               rw [← hy59, ← hA59, ← hc59] at hcut59
               have HO577 := Aside0.mk (show Kd.V k44 44 _ w.heap.size _ (.slice A59 y573.length c59) y573 from Kd.V_mk (by rw [hy59, hc59]; exact Nat.sub_le_sub_right (Nat.le_trans (by omega) hroom59) _) hr59)
               have HC577 := Aside0.mk (show y573.length ≤ c59 from by rw [hy59, hc59]; exact Nat.sub_le_sub_right (Nat.le_trans (by omega) hroom59) _)
               clear hr59 hC59 hroom59 hi059 hsz59 hc59
               have KY59 := Aside0.mk hy59
               have KA59 := Aside0.mk hA59
               clear hy59 hA59
               replace q59 := eq_true q59
               go_wp2_with (first | (go_at_call 11; (with_reducible refine (rickyardlaw17_As.calls k2 (fun k_ => ((some k_ ≠ (.slice (some ad572) t550.length co48 : Value).ownBlock ∧ (some k_ ≠ (v559 : Value).ownBlock ∧ (k_ ≠ gb545 ∧ k_ ≠ gb546))) ∧ some k_ ≠ (v570 : Value).ownBlock)) _ _ y573 t578 _ ?side1 A56.out).mono ?_); (case side1 => exact HO577.out); rintro e w60 ⟨v579, rfl, ho0, hb⟩; have HO580 := Aside0.mk (Kd.N_lower (Kd.N_mono (ok' := fun k_ => some k_ ≠ (.slice (some ad572) t550.length co48 : Value).ownBlock ∧ some k_ ≠ (v559 : Value).ownBlock ∧ some k_ ≠ (v570 : Value).ownBlock ∧ k_ ≠ gb545 ∧ k_ ≠ gb546) ho0 (fun k_ hk_ => ⟨Or.elim hk_ (fun hs_ => hs_.1.1) (fun hn_ => (Kd.fresh' (Kd.N_lt (nilA HO_11.out)) k_ hn_)), Or.elim hk_ (fun hs_ => hs_.1.2.1) (fun hn_ => (Kd.fresh' (Kd.N_lt (nilA HO_15.out)) k_ hn_)), Or.elim hk_ (fun hs_ => hs_.2) (fun hn_ => (Kd.fresh' (Kd.N_lt (nilA HO571.out)) k_ hn_)), Or.elim hk_ (fun hs_ => hs_.1.2.2.1) (fun hn_ => (Kd.freshB (g := gb545) (o := .cells #[.slice A0_0 l0_0.length c0_0, .int .i64 a0_1] 24 (0, 0)) (blkA BK545.out) k_ hn_)), Or.elim hk_ (fun hs_ => hs_.1.2.2.2) (fun hn_ => (Kd.freshB (g := gb546) (o := .cells #[.slice A3_0 l3_0.length c3_0, .int .i64 a3_1, .int .i64 a3_2, .int .i64 a3_3, .int .i64 a3_4] 28 (0, 0)) (blkA BK546.out) k_ hn_))⟩)) (below_size (belC HB.out GE545.out GE546.out))); replace HO_11 := Aside0.mk (Kd.N_elder' (nilA HO_11.out) (Kd.N_base ho0) hb); replace HO_13 := Aside0.mk (Kd.N_elder' (nilA HO_13.out) (Kd.N_base ho0) hb); replace HO_15 := Aside0.mk (Kd.N_elder' (nilA HO_15.out) (Kd.N_base ho0) hb); replace HO568 := Aside0.mk (Kd.V_elder' (valA HO568.out) (Kd.N_base ho0) hb); replace HO571 := Aside0.mk (Kd.N_elder' (nilA HO571.out) (Kd.N_base ho0) hb); replace HL572_0 := Aside0.mk (Kd.V_elder' (valA HL572_0.out) (Kd.N_base ho0) hb); replace HO577 := Aside0.mk (Kd.V_elder' (valA HO577.out) (Kd.N_base ho0) hb); replace BK545 := blkB BK545 hb; replace BK546 := blkB BK546 hb; replace HR572_0 := Aside0.mk (Kd.C_below (celA HR572_0.out) hb); replace HB := bs3 HB GE545 GE546 hb; (try clear hb); (try clear ho0); obtain ⟨Ao61, co61, eo61⟩ := Kd.N_slice HO571.out; subst eo61; obtain ⟨Ao62, co62, eo62⟩ := Kd.N_slice HO580.out; subst eo62) | (go_at_call 12; (with_reducible refine (rickyardref17_SameAll.calls k2 _ _ t569 _ _ t578 t581 _ ?side1 ?side2 ?side3 ?side4 A57.out).mono ?_); (case side1 => repeat (first | exact (Kd.N_reads' HO571.out).2.2 | (with_reducible refine Kd.C_alloc ?_ _) | (with_reducible refine Kd.C_drewN ?_ _) | (with_reducible refine Kd.C_drew ?_))); (case side2 => exact (Kd.N_reads' HO571.out).2.1); (case side3 => repeat (first | exact (Kd.N_reads' HO580.out).2.2 | (with_reducible refine Kd.C_alloc ?_ _) | (with_reducible refine Kd.C_drewN ?_ _) | (with_reducible refine Kd.C_drew ?_))); (case side4 => exact (Kd.N_reads' HO580.out).2.1); rintro e w63 ⟨rfl, hb⟩; replace HO_11 := Aside0.mk (Kd.N_below (nilA HO_11.out) hb); replace HO_13 := Aside0.mk (Kd.N_below (nilA HO_13.out) hb); replace HO_15 := Aside0.mk (Kd.N_below (nilA HO_15.out) hb); replace HO568 := Aside0.mk (Kd.V_below (valA HO568.out) hb); replace HO571 := Aside0.mk (Kd.N_below (nilA HO571.out) hb); replace HL572_0 := Aside0.mk (Kd.V_below (valA HL572_0.out) hb); replace HO577 := Aside0.mk (Kd.V_below (valA HO577.out) hb); replace HO580 := Aside0.mk (Kd.N_below (nilA HO580.out) hb); replace BK545 := blkB BK545 hb; replace BK546 := blkB BK546 hb; replace HR572_0 := Aside0.mk (Kd.C_below (celA HR572_0.out) hb); replace HB := bs3 HB GE545 GE546 hb; (try clear hb)))
               go_meet
               case rel => exact ⟨_, (t581), relA, H', ⟨by have := HJ5.out; have := HK2.out; first | omega | exact Nat.le_refl _⟩, ⟨by (with_reducible repeat (first | apply Kd.N_alloc | apply Kd.N_drewN | apply Kd.N_drew)); exact Kd.N_mono HO_11.out (fun _ hk => ⟨hk.1.1.1, ⟨hk.1.1.2.1, ⟨hk.1.2, ⟨hk.1.1.2.2.1, hk.1.1.2.2.2⟩⟩⟩⟩)⟩, ⟨by (with_reducible repeat (first | apply Kd.N_alloc | apply Kd.N_drewN | apply Kd.N_drew)); exact Kd.N_mono HO_13.out (fun _ hk => ⟨hk.1.1.1, ⟨hk.1.1.2.1, ⟨hk.1.2, ⟨hk.1.1.2.2.1, hk.1.1.2.2.2⟩⟩⟩⟩)⟩, ⟨by (with_reducible repeat (first | apply Kd.N_alloc | apply Kd.N_drewN | apply Kd.N_drew)); exact Kd.N_mono HO_15.out (fun _ hk => ⟨hk.1.1.1, ⟨hk.1.1.2.1, ⟨hk.1.2, ⟨hk.1.1.2.2.1, hk.1.1.2.2.2⟩⟩⟩⟩)⟩, ⟨by (with_reducible repeat (first | apply Kd.N_alloc | apply Kd.N_drewN | apply Kd.N_drew)); exact Kd.N_mono HO571.out (fun _ hk => ⟨hk.1.1, ⟨hk.1.2.1, ⟨hk.1.2.2.1, hk.1.2.2.2⟩⟩⟩)⟩, ⟨blkA BK545.out⟩, ⟨blkA BK546.out⟩, ⟨belC HB.out GE545.out GE546.out⟩⟩
              ·rw [if_neg c55] at H
               exact absurd H (by simp)
             ·rw [if_neg c54] at H
              exact absurd H (by simp)
            ·rw [if_neg c53] at H
             exact absurd H (by simp)
           ·rw [if_neg c52] at H
            have c52b0 := decide_eq_false c52
            clear c52
            have H' := Aside0.mk H
            clear H
            obtain ⟨Ao64, co64, eo64⟩ := Kd.N_slice HO_13.out
            subst eo64
            have p572 : 0 ≤ (x19_2 : Int) := of_decide_eq_true asmA
            have q572 : x19_2 < (t550.length : Int) := of_decide_eq_true asmA
            obtain ⟨ad572, A572_0, c572_0, e572, hx572_0, hx572_1, hx572_2, hx572_3, hx572_4, hx572_5, hx572_6, hx572_7, hx572_8, hl572_0, hi572_0⟩ := at_T44 (Kd.N_reads' HO_11.out).2.2 x19_2 p572 q572
            cases e572
            obtain ⟨ce572, hce572, hMe572, hcc572⟩ := Kd.N_get HO_11.out z44 x19_2 p572 (by first | exact q572 | exact of_decide_eq_true asmA | (have e_ := (Kd.N_reads' HO_11.out).1; omega))
            obtain ⟨ua572_0, uc572_0, rfl, ul572_0, ge572_0⟩ := k44_openF hMe572
            have hv572_0 := hcc572 0 _ rfl
            rw [Nat.add_zero] at hv572_0
            replace hv572_0 := Option.some.inj (hv572_0.symm.trans hx572_0)
            injection hv572_0 with hva_ hvn_ hvc_
            rw [hva_] at ge572_0
            rw [hvc_] at ul572_0
            have HL572_0 := Aside0.mk (show Kd.V Kd.string 9 _ w.heap.size _ _ ((rd_T44 t550 x19_2).f0) from Kd.V_mk ul572_0 ge572_0)
            clear hva_ hvn_ hvc_ ge572_0 ul572_0
            clear hcc572 hce572
            have HR572_0 := Aside0.mk hi572_0
            have HC572_0 := Aside0.mk hl572_0
            clear hi572_0 hl572_0
            replace p572 := eq_true p572
            replace q572 := eq_true q572
            go_wp2
            go_meet
            case rel => exact ⟨_, (false), relA, H', ⟨by have := HJ5.out; have := HK2.out; first | omega | exact Nat.le_refl _⟩, ⟨by (with_reducible repeat (first | apply Kd.N_alloc | apply Kd.N_drewN | apply Kd.N_drew)); exact Kd.N_mono HO_11.out (fun _ hk => ⟨hk.1.1, ⟨hk.1.2.1, ⟨hk.2, ⟨hk.1.2.2.1, hk.1.2.2.2⟩⟩⟩⟩)⟩, ⟨by (with_reducible repeat (first | apply Kd.N_alloc | apply Kd.N_drewN | apply Kd.N_drew)); exact Kd.N_mono HO_13.out (fun _ hk => ⟨hk.1.1, ⟨hk.1.2.1, ⟨hk.2, ⟨hk.1.2.2.1, hk.1.2.2.2⟩⟩⟩⟩)⟩, ⟨by (with_reducible repeat (first | apply Kd.N_alloc | apply Kd.N_drewN | apply Kd.N_drew)); exact Kd.N_mono HO_15.out (fun _ hk => ⟨hk.1.1, ⟨hk.1.2.1, ⟨hk.2, ⟨hk.1.2.2.1, hk.1.2.2.2⟩⟩⟩⟩)⟩, ⟨nilA HO571.out⟩, ⟨blkA BK545.out⟩, ⟨blkA BK546.out⟩, ⟨belC HB.out GE545.out GE546.out⟩⟩
          ·rw [if_neg c51] at H
           have c51b0 := decide_eq_false c51
           clear c51
           (first | rw [c51b0] | (simp only [i64_w, i32_w]; rw [c51b0]) | skip)
           have H' := Aside0.mk H
           clear H
           obtain ⟨Ao65, co65, eo65⟩ := Kd.N_slice HO_13.out
           subst eo65
           go_wp2
           go_meet
           case rel => exact ⟨_, (false), relA, H', ⟨by have := HJ5.out; have := HK2.out; first | omega | exact Nat.le_refl _⟩, ⟨by (with_reducible repeat (first | apply Kd.N_alloc | apply Kd.N_drewN | apply Kd.N_drew)); exact Kd.N_mono HO_11.out (fun _ hk => ⟨hk.1.1, ⟨hk.1.2.1, ⟨hk.2, ⟨hk.1.2.2.1, hk.1.2.2.2⟩⟩⟩⟩)⟩, ⟨by (with_reducible repeat (first | apply Kd.N_alloc | apply Kd.N_drewN | apply Kd.N_drew)); exact Kd.N_mono HO_13.out (fun _ hk => ⟨hk.1.1, ⟨hk.1.2.1, ⟨hk.2, ⟨hk.1.2.2.1, hk.1.2.2.2⟩⟩⟩⟩)⟩, ⟨by (with_reducible repeat (first | apply Kd.N_alloc | apply Kd.N_drewN | apply Kd.N_drew)); exact Kd.N_mono HO_15.out (fun _ hk => ⟨hk.1.1, ⟨hk.1.2.1, ⟨hk.2, ⟨hk.1.2.2.1, hk.1.2.2.2⟩⟩⟩⟩)⟩, ⟨nilA HO571.out⟩, ⟨blkA BK545.out⟩, ⟨blkA BK546.out⟩, ⟨belC HB.out GE545.out GE546.out⟩⟩
         case rest =>
          clear HC47
          try clear c1
          try clear c2
          try clear p2
          try clear c3
          try clear c4
          try clear q4
          try clear c5
          try clear p5
          try clear q5
          try clear hx5
          try clear p6
          try clear c7
          try clear c9
          try clear c10
          try clear c11
          try clear c12
          try clear c13
          try clear c16
          try clear c16b0
          try clear c17
          try clear c21
          try clear c25
          try clear c31
          try clear c31b0
          try clear c31b1
          try clear c32
          try clear c42
          try clear c42b0
          try clear c43
          try clear c43b0
          try clear c43b1
          try clear c44
          try clear c44b0
          try clear c44b1
          try clear c45
          try clear c45b0
          try clear c45b1
          try clear c49
          try clear q49
          try clear c51
          try clear c51b0
          try clear c52
          try clear c52b0
          try clear c53
          try clear c53b0
          try clear c53b1
          try clear c54
          try clear c54b0
          try clear c54b1
          try clear c55
          try clear c55b0
          try clear c55b1
          try clear c57
          try clear p57
          try clear q57
          try clear hx57
          try clear c59
          try clear q59
          try clear p64
          try clear hcz14_0 hcz14_1 hcz14_2 hcz14_3 hcz14_4
          try clear hcz18_0 hcz18_1 hcz18_2 hcz18_3 hcz18_4
          try clear hcz20_0 hcz20_1 hcz20_2 hcz20_3 hcz20_4
          try clear hcz22_0 hcz22_1 hcz22_2 hcz22_3 hcz22_4
          try clear hcz24_0 hcz24_1 hcz24_2 hcz24_3 hcz24_4
          try clear hcz33_0 hcz33_1
          try clear hcz34_0 hcz34_1 hcz34_2 hcz34_3 hcz34_4
          try clear hcz36_0 hcz36_1
          try clear hcz37_0 hcz37_1 hcz37_2 hcz37_3 hcz37_4
          try clear hcz39_0 hcz39_1
          try clear hcz40_0 hcz40_1 hcz40_2 hcz40_3 hcz40_4
          try clear hfz14_0 hfz14_1 hfz14_2 hfz14_3 hfz14_4
          try clear hfz18_0 hfz18_1 hfz18_2 hfz18_3 hfz18_4
          try clear hfz20_0 hfz20_1 hfz20_2 hfz20_3 hfz20_4
          try clear hfz22_0 hfz22_1 hfz22_2 hfz22_3 hfz22_4
          try clear hfz24_0 hfz24_1 hfz24_2 hfz24_3 hfz24_4
          try clear hfz33_0 hfz33_1
          try clear hfz34_0 hfz34_1 hfz34_2 hfz34_3 hfz34_4
          try clear hfz36_0 hfz36_1
          try clear hfz37_0 hfz37_1 hfz37_2 hfz37_3 hfz37_4
          try clear hfz39_0 hfz39_1
          try clear hfz40_0 hfz40_1 hfz40_2 hfz40_3 hfz40_4
          try clear hx572_0
          try clear hx572_1
          try clear hx572_2
          try clear hx572_3
          try clear hx572_4
          try clear hx572_5
          try clear hx572_6
          try clear hx572_7
          try clear hx572_8
          try clear p2
          try clear p572
          try clear q049
          try clear q059
          try clear q49
          try clear q572
          try clear q59
          obtain ⟨kq, x97_46, rfl, HA, HJ46, HO_11, HO_13, HO_15, HO_20, BK545, BK546, HB⟩ := hcut
          cases kq with
          | zero => exact absurd HA.out (by simp [rickyardlaw17_AskRanges.j2])
          | succ kj46 =>
           have H := HA.out
           clear HA
           simp only [rickyardlaw17_AskRanges.j2] at H
           by_cases c66 : x97_46 = true
           ·subst c66
            have H1 : (rickyardlaw17_AskRanges.l0 kj46 a4 t550 t554 t557 t558 t561 (wrap64 (x17_2 + 1)) x18_2 (wrap64 (x19_2 + 1))) = some r := by rw [if_pos rfl] at H; exact H
            clear H
            have H := H1
            clear H1
            have H' := Aside0.mk H
            clear H
            go_wp2
            go_roundg kj46
            case measure => have := HJ5.out; have := HK2.out; have := HJ46.out; omega
            case rel => exact ⟨(wrap64 (x17_2 + 1)), (x18_2), (wrap64 (x19_2 + 1)), relA, relA, relA, H', ⟨by have := HJ5.out; have := HK2.out; have := HJ46.out; omega⟩, ⟨by (with_reducible repeat (first | apply Kd.N_alloc | apply Kd.N_drewN | apply Kd.N_drew)); exact Kd.N_mono HO_11.out (fun _ hk => ⟨hk.1, ⟨hk.2.1, ⟨hk.2.2.2.1, hk.2.2.2.2⟩⟩⟩)⟩, ⟨by (with_reducible repeat (first | apply Kd.N_alloc | apply Kd.N_drewN | apply Kd.N_drew)); exact Kd.N_mono HO_13.out (fun _ hk => ⟨hk.1, ⟨hk.2.1, ⟨hk.2.2.2.1, hk.2.2.2.2⟩⟩⟩)⟩, ⟨by (with_reducible repeat (first | apply Kd.N_alloc | apply Kd.N_drewN | apply Kd.N_drew)); exact Kd.N_mono HO_15.out (fun _ hk => ⟨hk.1, ⟨hk.2.1, ⟨hk.2.2.2.1, hk.2.2.2.2⟩⟩⟩)⟩, ⟨blkA BK545.out⟩, ⟨blkA BK546.out⟩, ⟨belC HB.out GE545.out GE546.out⟩⟩
           ·replace c66 := Bool.eq_false_iff.mpr c66
            subst c66
            have H1 : (if x18_2 < (t558.length : Int) then (if 0 ≤ x19_2 then (if x19_2 < (t550.length : Int) then (if ((rd_T44 t550 x19_2).f1) ≥ a4 then (if 0 ≤ x18_2 then (if x18_2 ≤ (wrap64 (x18_2 + 1)) then (if (wrap64 (x18_2 + 1)) ≤ (t558.length : Int) then ((rickyardlaw17_As.f kj46 ((t558.take ((wrap64 (x18_2 + 1)) : Int).toNat).drop (x18_2 : Int).toNat)).bind fun t588 => ((rickyardref17_SameAll.f kj46 t569 t588).bind fun t591 => (if t591 = true then (rickyardlaw17_AskRanges.l0 kj46 a4 t550 t554 t557 t558 t561 x17_2 (wrap64 (x18_2 + 1)) (wrap64 (x19_2 + 1))) else (some false)))) else (none)) else (none)) else (none)) else (some false)) else (none)) else (none)) else (some false)) = some r := by rw [if_neg (show ¬ (false = true) by decide)] at H; exact H
            clear H
            have H := H1
            clear H1
            by_cases c67 : x18_2 < (t558.length : Int)
            ·rw [if_pos c67] at H
             have c67b0 := decide_eq_true c67
             clear c67
             by_cases c68 : 0 ≤ x19_2
             ·rw [if_pos c68] at H
              have c68b0 := decide_eq_true c68
              clear c68
              by_cases c69 : x19_2 < (t550.length : Int)
              ·rw [if_pos c69] at H
               have c69b0 := decide_eq_true c69
               clear c69
               by_cases c70 : ((rd_T44 t550 x19_2).f1) ≥ a4
               ·rw [if_pos c70] at H
                have c70b0 := decide_eq_true c70
                clear c70
                by_cases c71 : 0 ≤ x18_2
                ·rw [if_pos c71] at H
                 have c71b0 := eq_true c71
                 have c71b1 := decide_eq_true c71
                 clear c71
                 by_cases c72 : x18_2 ≤ (wrap64 (x18_2 + 1))
                 ·rw [if_pos c72] at H
                  have c72b0 := eq_true c72
                  have c72b1 := decide_eq_true c72
                  by_cases c73 : (wrap64 (x18_2 + 1)) ≤ (t558.length : Int)
                  ·rw [if_pos c73] at H
                   have c73b0 := eq_true c73
                   have c73b1 := decide_eq_true c73
                   obtain ⟨y583, hy583⟩ : ∃ y_ : List (S44), y_ = ((t558.take ((wrap64 (x18_2 + 1)) : Int).toNat).drop (x18_2 : Int).toNat) := ⟨_, rfl⟩
                   replace H : ((rickyardlaw17_As.f kj46 y583).bind fun t588 => ((rickyardref17_SameAll.f kj46 t569 t588).bind fun t591 => (if t591 = true then (rickyardlaw17_AskRanges.l0 kj46 a4 t550 t554 t557 t558 t561 x17_2 (wrap64 (x18_2 + 1)) (wrap64 (x19_2 + 1))) else (some false)))) = some r := nmA hy583 H
                   have Ny583 := Aside0.mk hy583
                   clear hy583
                   replace H := bnA H
                   obtain ⟨t588, A74, H⟩ := H
                   replace H := bnA H
                   obtain ⟨t591, A75, H⟩ := H
                   by_cases c76 : t591 = true
                   ·subst c76
                    have H1 : (rickyardlaw17_AskRanges.l0 kj46 a4 t550 t554 t557 t558 t561 x17_2 (wrap64 (x18_2 + 1)) (wrap64 (x19_2 + 1))) = some r := by rw [if_pos rfl] at H; exact H
                    clear H
                    have H := H1
                    clear H1
                    have H' := Aside0.mk H
                    clear H
                    obtain ⟨Ao77, co77, eo77⟩ := Kd.N_slice HO_15.out
                    subst eo77
                    have p582 : 0 ≤ (x19_2 : Int) := of_decide_eq_true asmA
                    have q582 : x19_2 < (t550.length : Int) := of_decide_eq_true asmA
                    obtain ⟨ad582, A582_0, c582_0, e582, hx582_0, hx582_1, hx582_2, hx582_3, hx582_4, hx582_5, hx582_6, hx582_7, hx582_8, hl582_0, hi582_0⟩ := at_T44 (Kd.N_reads' HO_11.out).2.2 x19_2 p582 q582
                    cases e582
                    obtain ⟨ce582, hce582, hMe582, hcc582⟩ := Kd.N_get HO_11.out z44 x19_2 p582 (by first | exact q582 | exact of_decide_eq_true asmA | (have e_ := (Kd.N_reads' HO_11.out).1; omega))
                    obtain ⟨ua582_0, uc582_0, rfl, ul582_0, ge582_0⟩ := k44_openF hMe582
                    have hv582_0 := hcc582 0 _ rfl
                    rw [Nat.add_zero] at hv582_0
                    replace hv582_0 := Option.some.inj (hv582_0.symm.trans hx582_0)
                    injection hv582_0 with hva_ hvn_ hvc_
                    rw [hva_] at ge582_0
                    rw [hvc_] at ul582_0
                    have HL582_0 := Aside0.mk (show Kd.V Kd.string 9 _ w.heap.size _ _ ((rd_T44 t550 x19_2).f0) from Kd.V_mk ul582_0 ge582_0)
                    clear hva_ hvn_ hvc_ ge582_0 ul582_0
                    clear hcc582 hce582
                    have HR582_0 := Aside0.mk hi582_0
                    have HC582_0 := Aside0.mk hl582_0
                    clear hi582_0 hl582_0
                    replace p582 := eq_true p582
                    replace q582 := eq_true q582
                    have q78 : ((wrap64 (x18_2 + 1)) : Int) ≤ ((t558.length : Int) : Int) := of_decide_eq_true asmA
                    obtain ⟨i078, hi078, _, hsz78, _⟩ := info_parts info44
                    have hroom78 : t558.length ≤ co77 := (Kd.N_reads' HO_15.out).2.1
                    have hC78 : Kd.F k44 _ _ Ao77 t558.length t558 := (Kd.V_at (base := w.heap.size) (Kd.N_V HO_15.out)).2.2
                    have ql78 : (x18_2 : Int) ≤ ((wrap64 (x18_2 + 1)) : Int) := of_decide_eq_true asmA
                    have q078 : (0 : Int) ≤ (x18_2 : Int) := of_decide_eq_true asmA
                    have hcut78 := cut_mid (P := Try.prog) 32 44 .i64 .i64 Try.underlying32 hi078 9 hsz78 Ao77 t558.length co77 x18_2 (wrap64 (x18_2 + 1)) q078 ql78 q78 hroom78
                    have hr78 := Kd.F_mid (lo := (x18_2 : Int).toNat) (hi := ((wrap64 (x18_2 + 1)) : Int).toNat) (c := co77) hC78 (by omega) (by omega) hroom78
                    obtain ⟨A78, hA78⟩ : ∃ A1, A1 = (if co77 = (x18_2 : Int).toNat then Ao77 else (Ao77 : Option Addr).map (·.add ((x18_2 : Int).toNat * 9))) := ⟨_, rfl⟩
                    obtain ⟨c78, hc78⟩ : ∃ c1, c1 = co77 - (x18_2 : Int).toNat := ⟨_, rfl⟩
                    have hy78 : y583.length = ((wrap64 (x18_2 + 1)) : Int).toNat - (x18_2 : Int).toNat := (by rw [Ny583.out, List.length_drop, List.length_take] <;> omega)
                    rw [show ((t558).take ((wrap64 (x18_2 + 1)) : Int).toNat).drop (x18_2 : Int).toNat = y583 from Ny583.out.symm] at hr78
                    replace hr78 : Kd.F k44 _ _ A78 y583.length y583 := (by rw [hA78]; exact hr78)
                    rw [← hy78, ← hA78, ← hc78] at hcut78
                    have HO587 := Aside0.mk (show Kd.V k44 44 _ w.heap.size _ (.slice A78 y583.length c78) y583 from Kd.V_mk (by rw [hy78, hc78]; exact Nat.sub_le_sub_right (Nat.le_trans (by omega) hroom78) _) hr78)
                    have HC587 := Aside0.mk (show y583.length ≤ c78 from by rw [hy78, hc78]; exact Nat.sub_le_sub_right (Nat.le_trans (by omega) hroom78) _)
                    clear hr78 hC78 hroom78 hi078 hsz78 hc78
                    have KY78 := Aside0.mk hy78
                    have KA78 := Aside0.mk hA78
                    clear hy78 hA78
                    replace q78 := eq_true q78
                    go_wp2_with (first | (go_at_call 11; (with_reducible refine (rickyardlaw17_As.calls kj46 (fun k_ => (some k_ ≠ (.slice (some ad582) t550.length co48 : Value).ownBlock ∧ (some k_ ≠ (v555 : Value).ownBlock ∧ (some k_ ≠ (v570 : Value).ownBlock ∧ (k_ ≠ gb545 ∧ k_ ≠ gb546))))) _ _ y583 t588 _ ?side1 A74.out).mono ?_); (case side1 => exact HO587.out); rintro e w79 ⟨v589, rfl, ho0, hb⟩; have HO590 := Aside0.mk (Kd.N_lower (Kd.N_mono (ok' := fun k_ => some k_ ≠ (.slice (some ad582) t550.length co48 : Value).ownBlock ∧ some k_ ≠ (v555 : Value).ownBlock ∧ some k_ ≠ (v570 : Value).ownBlock ∧ k_ ≠ gb545 ∧ k_ ≠ gb546) ho0 (fun k_ hk_ => ⟨Or.elim hk_ (fun hs_ => hs_.1) (fun hn_ => (Kd.fresh' (Kd.N_lt (nilA HO_11.out)) k_ hn_)), Or.elim hk_ (fun hs_ => hs_.2.1) (fun hn_ => (Kd.fresh' (Kd.N_lt (nilA HO_13.out)) k_ hn_)), Or.elim hk_ (fun hs_ => hs_.2.2.1) (fun hn_ => (Kd.fresh' (Kd.N_lt (nilA HO_20.out)) k_ hn_)), Or.elim hk_ (fun hs_ => hs_.2.2.2.1) (fun hn_ => (Kd.freshB (g := gb545) (o := .cells #[.slice A0_0 l0_0.length c0_0, .int .i64 a0_1] 24 (0, 0)) (blkA BK545.out) k_ hn_)), Or.elim hk_ (fun hs_ => hs_.2.2.2.2) (fun hn_ => (Kd.freshB (g := gb546) (o := .cells #[.slice A3_0 l3_0.length c3_0, .int .i64 a3_1, .int .i64 a3_2, .int .i64 a3_3, .int .i64 a3_4] 28 (0, 0)) (blkA BK546.out) k_ hn_))⟩)) (below_size (belC HB.out GE545.out GE546.out))); replace HO_11 := Aside0.mk (Kd.N_elder' (nilA HO_11.out) (Kd.N_base ho0) hb); replace HO_13 := Aside0.mk (Kd.N_elder' (nilA HO_13.out) (Kd.N_base ho0) hb); replace HO_15 := Aside0.mk (Kd.N_elder' (nilA HO_15.out) (Kd.N_base ho0) hb); replace HO_20 := Aside0.mk (Kd.N_elder' (nilA HO_20.out) (Kd.N_base ho0) hb); replace HL582_0 := Aside0.mk (Kd.V_elder' (valA HL582_0.out) (Kd.N_base ho0) hb); replace HO587 := Aside0.mk (Kd.V_elder' (valA HO587.out) (Kd.N_base ho0) hb); replace BK545 := blkB BK545 hb; replace BK546 := blkB BK546 hb; replace HR582_0 := Aside0.mk (Kd.C_below (celA HR582_0.out) hb); replace HB := bs3 HB GE545 GE546 hb; (try clear hb); (try clear ho0); obtain ⟨Ao80, co80, eo80⟩ := Kd.N_slice HO_20.out; subst eo80; obtain ⟨Ao81, co81, eo81⟩ := Kd.N_slice HO590.out; subst eo81) | (go_at_call 12; (with_reducible refine (rickyardref17_SameAll.calls kj46 _ _ t569 _ _ t588 true _ ?side1 ?side2 ?side3 ?side4 A75.out).mono ?_); (case side1 => repeat (first | exact (Kd.N_reads' HO_20.out).2.2 | (with_reducible refine Kd.C_alloc ?_ _) | (with_reducible refine Kd.C_drewN ?_ _) | (with_reducible refine Kd.C_drew ?_))); (case side2 => exact (Kd.N_reads' HO_20.out).2.1); (case side3 => repeat (first | exact (Kd.N_reads' HO590.out).2.2 | (with_reducible refine Kd.C_alloc ?_ _) | (with_reducible refine Kd.C_drewN ?_ _) | (with_reducible refine Kd.C_drew ?_))); (case side4 => exact (Kd.N_reads' HO590.out).2.1); rintro e w82 ⟨rfl, hb⟩; replace HO_11 := Aside0.mk (Kd.N_below (nilA HO_11.out) hb); replace HO_13 := Aside0.mk (Kd.N_below (nilA HO_13.out) hb); replace HO_15 := Aside0.mk (Kd.N_below (nilA HO_15.out) hb); replace HO_20 := Aside0.mk (Kd.N_below (nilA HO_20.out) hb); replace HL582_0 := Aside0.mk (Kd.V_below (valA HL582_0.out) hb); replace HO587 := Aside0.mk (Kd.V_below (valA HO587.out) hb); replace HO590 := Aside0.mk (Kd.N_below (nilA HO590.out) hb); replace BK545 := blkB BK545 hb; replace BK546 := blkB BK546 hb; replace HR582_0 := Aside0.mk (Kd.C_below (celA HR582_0.out) hb); replace HB := bs3 HB GE545 GE546 hb; (try clear hb)))
                    go_roundg kj46
                    case measure => have := HJ5.out; have := HK2.out; have := HJ46.out; omega
                    case rel => exact ⟨(x17_2), (wrap64 (x18_2 + 1)), (wrap64 (x19_2 + 1)), relA, relA, relA, H', ⟨by have := HJ5.out; have := HK2.out; have := HJ46.out; omega⟩, ⟨by (with_reducible repeat (first | apply Kd.N_alloc | apply Kd.N_drewN | apply Kd.N_drew)); exact Kd.N_mono HO_11.out (fun _ hk => ⟨hk.1.1, ⟨hk.1.2.1, ⟨hk.1.2.2.2.1, hk.1.2.2.2.2⟩⟩⟩)⟩, ⟨by (with_reducible repeat (first | apply Kd.N_alloc | apply Kd.N_drewN | apply Kd.N_drew)); exact Kd.N_mono HO_13.out (fun _ hk => ⟨hk.1.1, ⟨hk.1.2.1, ⟨hk.1.2.2.2.1, hk.1.2.2.2.2⟩⟩⟩)⟩, ⟨by (with_reducible repeat (first | apply Kd.N_alloc | apply Kd.N_drewN | apply Kd.N_drew)); exact Kd.N_mono HO_15.out (fun _ hk => ⟨hk.1.1, ⟨hk.1.2.1, ⟨hk.1.2.2.2.1, hk.1.2.2.2.2⟩⟩⟩)⟩, ⟨blkA BK545.out⟩, ⟨blkA BK546.out⟩, ⟨belC HB.out GE545.out GE546.out⟩⟩
                   ·replace c76 := Bool.eq_false_iff.mpr c76
                    subst c76
                    have H1 : (some false) = some r := by rw [if_neg (show ¬ (false = true) by decide)] at H; exact H
                    clear H
                    have H := H1
                    clear H1
                    obtain rfl := Option.some.inj H
                    obtain ⟨Ao83, co83, eo83⟩ := Kd.N_slice HO_15.out
                    subst eo83
                    have p582 : 0 ≤ (x19_2 : Int) := of_decide_eq_true asmA
                    have q582 : x19_2 < (t550.length : Int) := of_decide_eq_true asmA
                    obtain ⟨ad582, A582_0, c582_0, e582, hx582_0, hx582_1, hx582_2, hx582_3, hx582_4, hx582_5, hx582_6, hx582_7, hx582_8, hl582_0, hi582_0⟩ := at_T44 (Kd.N_reads' HO_11.out).2.2 x19_2 p582 q582
                    cases e582
                    obtain ⟨ce582, hce582, hMe582, hcc582⟩ := Kd.N_get HO_11.out z44 x19_2 p582 (by first | exact q582 | exact of_decide_eq_true asmA | (have e_ := (Kd.N_reads' HO_11.out).1; omega))
                    obtain ⟨ua582_0, uc582_0, rfl, ul582_0, ge582_0⟩ := k44_openF hMe582
                    have hv582_0 := hcc582 0 _ rfl
                    rw [Nat.add_zero] at hv582_0
                    replace hv582_0 := Option.some.inj (hv582_0.symm.trans hx582_0)
                    injection hv582_0 with hva_ hvn_ hvc_
                    rw [hva_] at ge582_0
                    rw [hvc_] at ul582_0
                    have HL582_0 := Aside0.mk (show Kd.V Kd.string 9 _ w.heap.size _ _ ((rd_T44 t550 x19_2).f0) from Kd.V_mk ul582_0 ge582_0)
                    clear hva_ hvn_ hvc_ ge582_0 ul582_0
                    clear hcc582 hce582
                    have HR582_0 := Aside0.mk hi582_0
                    have HC582_0 := Aside0.mk hl582_0
                    clear hi582_0 hl582_0
                    replace p582 := eq_true p582
                    replace q582 := eq_true q582
                    have q84 : ((wrap64 (x18_2 + 1)) : Int) ≤ ((t558.length : Int) : Int) := of_decide_eq_true asmA
                    obtain ⟨i084, hi084, _, hsz84, _⟩ := info_parts info44
                    have hroom84 : t558.length ≤ co83 := (Kd.N_reads' HO_15.out).2.1
                    have hC84 : Kd.F k44 _ _ Ao83 t558.length t558 := (Kd.V_at (base := w.heap.size) (Kd.N_V HO_15.out)).2.2
                    have ql84 : (x18_2 : Int) ≤ ((wrap64 (x18_2 + 1)) : Int) := of_decide_eq_true asmA
                    have q084 : (0 : Int) ≤ (x18_2 : Int) := of_decide_eq_true asmA
                    have hcut84 := cut_mid (P := Try.prog) 32 44 .i64 .i64 Try.underlying32 hi084 9 hsz84 Ao83 t558.length co83 x18_2 (wrap64 (x18_2 + 1)) q084 ql84 q84 hroom84
                    have hr84 := Kd.F_mid (lo := (x18_2 : Int).toNat) (hi := ((wrap64 (x18_2 + 1)) : Int).toNat) (c := co83) hC84 (by omega) (by omega) hroom84
                    obtain ⟨A84, hA84⟩ : ∃ A1, A1 = (if co83 = (x18_2 : Int).toNat then Ao83 else (Ao83 : Option Addr).map (·.add ((x18_2 : Int).toNat * 9))) := ⟨_, rfl⟩
                    obtain ⟨c84, hc84⟩ : ∃ c1, c1 = co83 - (x18_2 : Int).toNat := ⟨_, rfl⟩
                    have hy84 : y583.length = ((wrap64 (x18_2 + 1)) : Int).toNat - (x18_2 : Int).toNat := (by rw [Ny583.out, List.length_drop, List.length_take] <;> omega)
                    rw [show ((t558).take ((wrap64 (x18_2 + 1)) : Int).toNat).drop (x18_2 : Int).toNat = y583 from Ny583.out.symm] at hr84
                    replace hr84 : Kd.F k44 _ _ A84 y583.length y583 := (by rw [hA84]; exact hr84)
                    rw [← hy84, ← hA84, ← hc84] at hcut84
                    have HO587 := Aside0.mk (show Kd.V k44 44 _ w.heap.size _ (.slice A84 y583.length c84) y583 from Kd.V_mk (by rw [hy84, hc84]; exact Nat.sub_le_sub_right (Nat.le_trans (by omega) hroom84) _) hr84)
                    have HC587 := Aside0.mk (show y583.length ≤ c84 from by rw [hy84, hc84]; exact Nat.sub_le_sub_right (Nat.le_trans (by omega) hroom84) _)
                    clear hr84 hC84 hroom84 hi084 hsz84 hc84
                    have KY84 := Aside0.mk hy84
                    have KA84 := Aside0.mk hA84
                    clear hy84 hA84
                    replace q84 := eq_true q84
                    go_wp2_with (first | (go_at_call 11; (with_reducible refine (rickyardlaw17_As.calls kj46 (fun k_ => (some k_ ≠ (.slice (some ad582) t550.length co48 : Value).ownBlock ∧ (some k_ ≠ (v555 : Value).ownBlock ∧ (some k_ ≠ (v570 : Value).ownBlock ∧ (k_ ≠ gb545 ∧ k_ ≠ gb546))))) _ _ y583 t588 _ ?side1 A74.out).mono ?_); (case side1 => exact HO587.out); rintro e w85 ⟨v589, rfl, ho0, hb⟩; have HO590 := Aside0.mk (Kd.N_lower (Kd.N_mono (ok' := fun k_ => some k_ ≠ (.slice (some ad582) t550.length co48 : Value).ownBlock ∧ some k_ ≠ (v555 : Value).ownBlock ∧ some k_ ≠ (v570 : Value).ownBlock ∧ k_ ≠ gb545 ∧ k_ ≠ gb546) ho0 (fun k_ hk_ => ⟨Or.elim hk_ (fun hs_ => hs_.1) (fun hn_ => (Kd.fresh' (Kd.N_lt (nilA HO_11.out)) k_ hn_)), Or.elim hk_ (fun hs_ => hs_.2.1) (fun hn_ => (Kd.fresh' (Kd.N_lt (nilA HO_13.out)) k_ hn_)), Or.elim hk_ (fun hs_ => hs_.2.2.1) (fun hn_ => (Kd.fresh' (Kd.N_lt (nilA HO_20.out)) k_ hn_)), Or.elim hk_ (fun hs_ => hs_.2.2.2.1) (fun hn_ => (Kd.freshB (g := gb545) (o := .cells #[.slice A0_0 l0_0.length c0_0, .int .i64 a0_1] 24 (0, 0)) (blkA BK545.out) k_ hn_)), Or.elim hk_ (fun hs_ => hs_.2.2.2.2) (fun hn_ => (Kd.freshB (g := gb546) (o := .cells #[.slice A3_0 l3_0.length c3_0, .int .i64 a3_1, .int .i64 a3_2, .int .i64 a3_3, .int .i64 a3_4] 28 (0, 0)) (blkA BK546.out) k_ hn_))⟩)) (below_size (belC HB.out GE545.out GE546.out))); replace HO_11 := Aside0.mk (Kd.N_elder' (nilA HO_11.out) (Kd.N_base ho0) hb); replace HO_13 := Aside0.mk (Kd.N_elder' (nilA HO_13.out) (Kd.N_base ho0) hb); replace HO_15 := Aside0.mk (Kd.N_elder' (nilA HO_15.out) (Kd.N_base ho0) hb); replace HO_20 := Aside0.mk (Kd.N_elder' (nilA HO_20.out) (Kd.N_base ho0) hb); replace HL582_0 := Aside0.mk (Kd.V_elder' (valA HL582_0.out) (Kd.N_base ho0) hb); replace HO587 := Aside0.mk (Kd.V_elder' (valA HO587.out) (Kd.N_base ho0) hb); replace BK545 := blkB BK545 hb; replace BK546 := blkB BK546 hb; replace HR582_0 := Aside0.mk (Kd.C_below (celA HR582_0.out) hb); replace HB := bs3 HB GE545 GE546 hb; (try clear hb); (try clear ho0); obtain ⟨Ao86, co86, eo86⟩ := Kd.N_slice HO_20.out; subst eo86; obtain ⟨Ao87, co87, eo87⟩ := Kd.N_slice HO590.out; subst eo87) | (go_at_call 12; (with_reducible refine (rickyardref17_SameAll.calls kj46 _ _ t569 _ _ t588 false _ ?side1 ?side2 ?side3 ?side4 A75.out).mono ?_); (case side1 => repeat (first | exact (Kd.N_reads' HO_20.out).2.2 | (with_reducible refine Kd.C_alloc ?_ _) | (with_reducible refine Kd.C_drewN ?_ _) | (with_reducible refine Kd.C_drew ?_))); (case side2 => exact (Kd.N_reads' HO_20.out).2.1); (case side3 => repeat (first | exact (Kd.N_reads' HO590.out).2.2 | (with_reducible refine Kd.C_alloc ?_ _) | (with_reducible refine Kd.C_drewN ?_ _) | (with_reducible refine Kd.C_drew ?_))); (case side4 => exact (Kd.N_reads' HO590.out).2.1); rintro e w88 ⟨rfl, hb⟩; replace HO_11 := Aside0.mk (Kd.N_below (nilA HO_11.out) hb); replace HO_13 := Aside0.mk (Kd.N_below (nilA HO_13.out) hb); replace HO_15 := Aside0.mk (Kd.N_below (nilA HO_15.out) hb); replace HO_20 := Aside0.mk (Kd.N_below (nilA HO_20.out) hb); replace HL582_0 := Aside0.mk (Kd.V_below (valA HL582_0.out) hb); replace HO587 := Aside0.mk (Kd.V_below (valA HO587.out) hb); replace HO590 := Aside0.mk (Kd.N_below (nilA HO590.out) hb); replace BK545 := blkB BK545 hb; replace BK546 := blkB BK546 hb; replace HR582_0 := Aside0.mk (Kd.C_below (celA HR582_0.out) hb); replace HB := bs3 HB GE545 GE546 hb; (try clear hb)))
                    go_ret
                    exact ⟨ret1, belC HB.out GE545.out GE546.out⟩
                  ·rw [if_neg c73] at H
                   exact absurd H (by simp)
                 ·rw [if_neg c72] at H
                  exact absurd H (by simp)
                ·rw [if_neg c71] at H
                 exact absurd H (by simp)
               ·rw [if_neg c70] at H
                have c70b0 := decide_eq_false c70
                clear c70
                obtain rfl := Option.some.inj H
                obtain ⟨Ao89, co89, eo89⟩ := Kd.N_slice HO_15.out
                subst eo89
                have p582 : 0 ≤ (x19_2 : Int) := of_decide_eq_true asmA
                have q582 : x19_2 < (t550.length : Int) := of_decide_eq_true asmA
                obtain ⟨ad582, A582_0, c582_0, e582, hx582_0, hx582_1, hx582_2, hx582_3, hx582_4, hx582_5, hx582_6, hx582_7, hx582_8, hl582_0, hi582_0⟩ := at_T44 (Kd.N_reads' HO_11.out).2.2 x19_2 p582 q582
                cases e582
                obtain ⟨ce582, hce582, hMe582, hcc582⟩ := Kd.N_get HO_11.out z44 x19_2 p582 (by first | exact q582 | exact of_decide_eq_true asmA | (have e_ := (Kd.N_reads' HO_11.out).1; omega))
                obtain ⟨ua582_0, uc582_0, rfl, ul582_0, ge582_0⟩ := k44_openF hMe582
                have hv582_0 := hcc582 0 _ rfl
                rw [Nat.add_zero] at hv582_0
                replace hv582_0 := Option.some.inj (hv582_0.symm.trans hx582_0)
                injection hv582_0 with hva_ hvn_ hvc_
                rw [hva_] at ge582_0
                rw [hvc_] at ul582_0
                have HL582_0 := Aside0.mk (show Kd.V Kd.string 9 _ w.heap.size _ _ ((rd_T44 t550 x19_2).f0) from Kd.V_mk ul582_0 ge582_0)
                clear hva_ hvn_ hvc_ ge582_0 ul582_0
                clear hcc582 hce582
                have HR582_0 := Aside0.mk hi582_0
                have HC582_0 := Aside0.mk hl582_0
                clear hi582_0 hl582_0
                replace p582 := eq_true p582
                replace q582 := eq_true q582
                go_wp2
                go_ret
                exact ⟨ret1, belC HB.out GE545.out GE546.out⟩
              ·rw [if_neg c69] at H
               exact absurd H (by simp)
             ·rw [if_neg c68] at H
              exact absurd H (by simp)
            ·rw [if_neg c67] at H
             have c67b0 := decide_eq_false c67
             clear c67
             obtain rfl := Option.some.inj H
             obtain ⟨Ao90, co90, eo90⟩ := Kd.N_slice HO_15.out
             subst eo90
             go_wp2
             go_ret
             exact ⟨ret1, belC HB.out GE545.out GE546.out⟩
        ·rw [if_neg c45] at H
         exact absurd H (by simp)
       ·rw [if_neg c44] at H
        exact absurd H (by simp)
      ·rw [if_neg c43] at H
       exact absurd H (by simp)
     ·rw [if_neg c42] at H
      have c42b0 := decide_eq_false c42
      clear c42
      replace H := bnA H
      obtain ⟨t563, A91, H⟩ := H
      by_cases c92 : t563 = true
      ·subst c92
       have H1 : (if t557 = 0 then (if t561 = 0 then (if x17_2 = (t554.length : Int) then (some (x18_2 == (t558.length : Int))) else (some false)) else (some false)) else (some false)) = some r := by rw [if_pos rfl] at H; exact H
       clear H
       have H := H1
       clear H1
       by_cases c93 : t557 = 0
       ·rw [if_pos c93] at H
        have c93b0 := beq_iff_eq.mpr c93
        have c93b1 := bne_eq_false_iff_eq.mpr c93
        clear c93
        by_cases c94 : t561 = 0
        ·rw [if_pos c94] at H
         have c94b0 := beq_iff_eq.mpr c94
         have c94b1 := bne_eq_false_iff_eq.mpr c94
         clear c94
         by_cases c95 : x17_2 = (t554.length : Int)
         ·rw [if_pos c95] at H
          have c95b0 := beq_iff_eq.mpr c95
          have c95b1 := bne_eq_false_iff_eq.mpr c95
          clear c95
          obtain rfl := Option.some.inj H
          obtain ⟨Ao96, co96, eo96⟩ := Kd.N_slice HO_11.out
          subst eo96
          go_wp2_with (first | ((with_reducible refine gate_callee (f := 9) rfl ?_); refine goesL_ (some 149) rfl rfl Try.func9 (by kernel_rfl) rfl #[] rfl argA ?_; (with_reducible refine (rickyardlaw17_alive.calls k2  true _ A91.out).mono ?_); rintro e w97 ⟨rfl, hb⟩; refine ⟨_, rfl, ?_⟩; replace HO_11 := Aside0.mk (Kd.N_below (nilA HO_11.out) hb); replace HO_13 := Aside0.mk (Kd.N_below (nilA HO_13.out) hb); replace HO_15 := Aside0.mk (Kd.N_below (nilA HO_15.out) hb); replace BK545 := blkB BK545 hb; replace BK546 := blkB BK546 hb; replace HB := bs3 HB GE545 GE546 hb; (try clear hb); obtain ⟨Ao98, co98, eo98⟩ := Kd.N_slice HO_13.out; subst eo98; obtain ⟨Ao99, co99, eo99⟩ := Kd.N_slice HO_15.out; subst eo99))
          go_ret
          exact ⟨ret1, belC HB.out GE545.out GE546.out⟩
         ·rw [if_neg c95] at H
          have c95b0 := beq_eq_false_iff_ne.mpr c95
          have c95b1 := bne_iff_ne.mpr c95
          obtain rfl := Option.some.inj H
          obtain ⟨Ao100, co100, eo100⟩ := Kd.N_slice HO_11.out
          subst eo100
          go_wp2_with (first | ((with_reducible refine gate_callee (f := 9) rfl ?_); refine goesL_ (some 149) rfl rfl Try.func9 (by kernel_rfl) rfl #[] rfl argA ?_; (with_reducible refine (rickyardlaw17_alive.calls k2  true _ A91.out).mono ?_); rintro e w101 ⟨rfl, hb⟩; refine ⟨_, rfl, ?_⟩; replace HO_11 := Aside0.mk (Kd.N_below (nilA HO_11.out) hb); replace HO_13 := Aside0.mk (Kd.N_below (nilA HO_13.out) hb); replace HO_15 := Aside0.mk (Kd.N_below (nilA HO_15.out) hb); replace BK545 := blkB BK545 hb; replace BK546 := blkB BK546 hb; replace HB := bs3 HB GE545 GE546 hb; (try clear hb); obtain ⟨Ao102, co102, eo102⟩ := Kd.N_slice HO_13.out; subst eo102))
          go_ret
          exact ⟨ret1, belC HB.out GE545.out GE546.out⟩
        ·rw [if_neg c94] at H
         have c94b0 := beq_eq_false_iff_ne.mpr c94
         have c94b1 := bne_iff_ne.mpr c94
         obtain rfl := Option.some.inj H
         obtain ⟨Ao103, co103, eo103⟩ := Kd.N_slice HO_11.out
         subst eo103
         go_wp2_with (first | ((with_reducible refine gate_callee (f := 9) rfl ?_); refine goesL_ (some 149) rfl rfl Try.func9 (by kernel_rfl) rfl #[] rfl argA ?_; (with_reducible refine (rickyardlaw17_alive.calls k2  true _ A91.out).mono ?_); rintro e w104 ⟨rfl, hb⟩; refine ⟨_, rfl, ?_⟩; replace HO_11 := Aside0.mk (Kd.N_below (nilA HO_11.out) hb); replace HO_13 := Aside0.mk (Kd.N_below (nilA HO_13.out) hb); replace HO_15 := Aside0.mk (Kd.N_below (nilA HO_15.out) hb); replace BK545 := blkB BK545 hb; replace BK546 := blkB BK546 hb; replace HB := bs3 HB GE545 GE546 hb; (try clear hb)))
         go_ret
         exact ⟨ret1, belC HB.out GE545.out GE546.out⟩
       ·rw [if_neg c93] at H
        have c93b0 := beq_eq_false_iff_ne.mpr c93
        have c93b1 := bne_iff_ne.mpr c93
        obtain rfl := Option.some.inj H
        obtain ⟨Ao105, co105, eo105⟩ := Kd.N_slice HO_11.out
        subst eo105
        go_wp2_with (first | ((with_reducible refine gate_callee (f := 9) rfl ?_); refine goesL_ (some 149) rfl rfl Try.func9 (by kernel_rfl) rfl #[] rfl argA ?_; (with_reducible refine (rickyardlaw17_alive.calls k2  true _ A91.out).mono ?_); rintro e w106 ⟨rfl, hb⟩; refine ⟨_, rfl, ?_⟩; replace HO_11 := Aside0.mk (Kd.N_below (nilA HO_11.out) hb); replace HO_13 := Aside0.mk (Kd.N_below (nilA HO_13.out) hb); replace HO_15 := Aside0.mk (Kd.N_below (nilA HO_15.out) hb); replace BK545 := blkB BK545 hb; replace BK546 := blkB BK546 hb; replace HB := bs3 HB GE545 GE546 hb; (try clear hb)))
        go_ret
        exact ⟨ret1, belC HB.out GE545.out GE546.out⟩
      ·replace c92 := Bool.eq_false_iff.mpr c92
       subst c92
       have H1 : (some false) = some r := by rw [if_neg (show ¬ (false = true) by decide)] at H; exact H
       clear H
       have H := H1
       clear H1
       obtain rfl := Option.some.inj H
       obtain ⟨Ao107, co107, eo107⟩ := Kd.N_slice HO_11.out
       subst eo107
       go_wp2_with (first | ((with_reducible refine gate_callee (f := 9) rfl ?_); refine goesL_ (some 149) rfl rfl Try.func9 (by kernel_rfl) rfl #[] rfl argA ?_; (with_reducible refine (rickyardlaw17_alive.calls k2  false _ A91.out).mono ?_); rintro e w108 ⟨rfl, hb⟩; refine ⟨_, rfl, ?_⟩; replace HO_11 := Aside0.mk (Kd.N_below (nilA HO_11.out) hb); replace HO_13 := Aside0.mk (Kd.N_below (nilA HO_13.out) hb); replace HO_15 := Aside0.mk (Kd.N_below (nilA HO_15.out) hb); replace BK545 := blkB BK545 hb; replace BK546 := blkB BK546 hb; replace HB := bs3 HB GE545 GE546 hb; (try clear hb)))
       go_ret
       exact ⟨ret1, belC HB.out GE545.out GE546.out⟩
end Go.Proofs.Ytdopbhbbpgfliaa.PAsk
end
