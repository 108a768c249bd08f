import Derived.Test.YtdopbhbbpgfliaaZAskEach05
import Derived.Test.YtdopbhbbpgfliaaZAskEach25
section
namespace Go.Proofs.Ytdopbhbbpgfliaa.PAsk
open Go.RowKit Go.Proofs.YtdopbhbbpgfliaaW.PrintWords Go.Proofs.YtdopbhbbpgfliaaW.PrintLast Go.Proofs.YtdopbhbbpgfliaaW.PrintMore
attribute [local go_sem] max2_int min2_int max_two min_two max_three min_three max_four min_four   -- for this text's walks alone
set_option linter.unusedVariables false
set_option linter.unusedSimpArgs false
set_option maxHeartbeats 8000000
set_option maxRecDepth 100000
mutual
def rickyardlaw17_AskEach.j0 : Nat → Int → List (S60) → Bool → List (S84) → Int → List ByteArray → Int → Int → Int → Int → Option (Bool)
 | 0, _, _, _, _, _, _, _, _, _, _ => none
 | k + 1, x1, x2, x25, x656000, x656001, x657000, x657001, x657002, x657003, x657004 => if x25 = true then ((rickyardlaw17_alive.f k).bind fun t659 => (some t659)) else ((ask_Scan.f k x656000 x656001 x1 x2 ([] : List ByteArray) 0 1099511627776).bind fun bt660 => (if bt660.2 = 0 then (rickyardlaw17_AskEach.l0 k x1 x2 bt660.1 0 x656000 x656001 x657000 x657001 x657002 x657003 x657004) else ((rickyardlaw17_alive.f k).bind fun t664 => (some t664))))
def rickyardlaw17_AskEach.l0 : Nat → Int → List (S60) → List (S44) → Int → List (S84) → Int → List ByteArray → Int → Int → Int → Int → Option (Bool)
 | 0, _, _, _, _, _, _, _, _, _, _, _ => none
 | k + 1, x1, x2, x9, x11, x656000, x656001, x657000, x657001, x657002, x657003, x657004 => if x11 < (x9.length : Int) then (if 0 ≤ x11 then ((ask_Get.f k x656000 x656001 x1 x2 ((rd_T44 x9 x11).f0) ((rd_T44 x9 x11).f1)).bind fun bt667 => (if bt667.2.2.2.2.2.2.2.2.2.2 = 0 then (if bt667.2.2.2.2.2.2.2.2.2.1 = true then (if bt667.2.2.2.1 < ((rd_T44 x9 x11).f3.f0) then (none) else (if bt667.2.2.1 < ((rd_T44 x9 x11).f2) then (none) else (if bt667.2.1 > ((rd_T44 x9 x11).f1) then (none) else (if ((rd_T44 x9 x11).f2) = bt667.2.2.1 then (if bt667.2.1 = ((rd_T44 x9 x11).f1) then (rickyardlaw17_AskEach.l0 k x1 x2 x9 (wrap64 (x11 + 1)) x656000 x656001 x657000 x657001 x657002 x657003 x657004) else (none)) else (rickyardlaw17_AskEach.l0 k x1 x2 x9 (wrap64 (x11 + 1)) x656000 x656001 x657000 x657001 x657002 x657003 x657004))))) else (none)) else (none))) else (none)) else ((ask_Get.f k x656000 x656001 x1 x2 x657000 x657001).bind fun bt686 => (rickyardlaw17_AskEach.l1 k x9 bt686.2.2.2.2.2.2.2.2.2.1 bt686.2.2.2.2.2.2.2.2.2.2 false 0 x657000 x657001 x657002 x657003 x657004))
def rickyardlaw17_AskEach.l1 : Nat → List (S44) → Bool → Int → Bool → Int → List ByteArray → Int → Int → Int → Int → Option (Bool)
 | 0, _, _, _, _, _, _, _, _, _, _ => none
 | k + 1, x9, x16, x17, x18, x19, x657000, x657001, x657002, x657003, x657004 => if x19 < (x9.length : Int) then (if x18 = true then (rickyardlaw17_AskEach.l1 k x9 x16 x17 true (wrap64 (x19 + 1)) x657000 x657001 x657002 x657003 x657004) else (if 0 ≤ x19 then ((rickyardref06_Order.f k ((rd_T44 x9 x19).f0) x657000).bind fun t701 => (if t701 = 0 then (if ((rd_T44 x9 x19).f1) ≤ x657001 then (rickyardlaw17_AskEach.l1 k x9 x16 x17 (decide ((wrap64 (x657001 - ((rd_T44 x9 x19).f1))) < ((rd_T44 x9 x19).f2))) (wrap64 (x19 + 1)) x657000 x657001 x657002 x657003 x657004) else (rickyardlaw17_AskEach.l1 k x9 x16 x17 false (wrap64 (x19 + 1)) x657000 x657001 x657002 x657003 x657004)) else (rickyardlaw17_AskEach.l1 k x9 x16 x17 false (wrap64 (x19 + 1)) x657000 x657001 x657002 x657003 x657004))) else (none))) else ((rickyardlaw17_alive.f k).bind fun t705 => (if t705 = true then (if x17 = 0 then (if (x16 == x18) = true then (some true) else (some (x657001 == 1099511627776))) else (some true)) else (none)))
end
def rickyardlaw17_AskEach.f (k : Nat) (l0_0 : List (S84)) (a0_1 : Int) (a1 : Int) (l2 : List (S60)) (l3_0 : List ByteArray) (a3_1 : Int) (a3_2 : Int) (a3_3 : Int) (a3_4 : Int) : Option (Bool) := (rickyardlaw15_Great.f k l2).bind fun t657 => (if t657 = true then (rickyardlaw17_AskEach.j0 k a1 l2 true l0_0 a0_1 l3_0 a3_1 a3_2 a3_3 a3_4) else ((rickyardlaw17_Long.f k l3_0 a3_1 a3_2 a3_3 a3_4).bind fun t658 => (rickyardlaw17_AskEach.j0 k a1 l2 t658 l0_0 a0_1 l3_0 a3_1 a3_2 a3_3 a3_4)))
def rickyardlaw17_AskEach.T9 : Bool × List (List Nat × List Nat) := (true, [([], []), ([], []), ([], []), ([], []), ([], []), ([3, 4], [3, 4]), ([5], [5]), ([6], [6]), ([], []), ([], []), ([8, 9], [8, 9]), ([10], [10]), ([11], [11]), ([0, 1, 2, 7, 12], [0, 1, 2, 7, 12]), ([13], [13]), ([14], [14]), ([14], [14]), ([14], [14]), ([], []), ([18, 15, 13, 0, 1, 2, 3, 4, 5, 6, 7, 8, 9, 10, 11, 12, 13, 14, 15, 18], [15, 18]), ([16, 19, 0, 1, 2, 3, 4, 5, 6, 7, 8, 9, 10, 11, 12, 13, 14, 15, 16, 18, 19], [16]), ([17, 20, 0, 1, 2, 3, 4, 5, 6, 7, 8, 9, 10, 11, 12, 13, 14, 15, 16, 17, 18, 19, 20], [17])])
def rickyardlaw17_AskEach.B9 : List Nat := [0, 0, 0, 0, 0, 24, 56, 120, 0, 0, 768, 1792, 3840, 8191, 16383, 32767, 32767, 32767, 0, 327679, 917503, 2097151]
theorem rickyardlaw17_AskEach.tab9 : rtab .any (opsOf Try.f5 9) = rickyardlaw17_AskEach.T9 := by kernel_rfl
theorem rickyardlaw17_AskEach.bits9 : waitsOk rickyardlaw17_AskEach.T9.2 rickyardlaw17_AskEach.B9 = true := by kernel_rfl
def rickyardlaw17_AskEach.T10 : Bool × List (List Nat × List Nat) := (true, [([], []), ([0], [0]), ([1], [1]), ([2], [2]), ([3, 2], [2, 3]), ([2, 4], [2, 4]), ([5, 2], [5]), ([6], [6]), ([7, 6], [6, 7]), ([8, 6], [6, 8]), ([6], [6]), ([6], [6]), ([10, 11, 6], [6, 10, 11]), ([12, 6], [6, 12]), ([13, 6], [6, 13]), ([14, 6], [6, 14]), ([9, 15, 6], [6, 9, 15]), ([6, 16], [6, 16]), ([17, 6], [17]), ([18], [18]), ([19, 18], [18, 19]), ([18], [18]), ([18], [18]), ([21, 22, 18], [18, 21, 22]), ([23, 18], [18, 23]), ([24, 18], [18, 24]), ([20, 25, 18], [18, 20, 25]), ([18, 26], [18, 26]), ([27, 18], [27]), ([28], [28]), ([29, 28], [28, 29]), ([28], [28]), ([28], [28]), ([31, 32, 28], [28, 31, 32]), ([33, 28], [28, 33]), ([34, 28], [28, 34]), ([30, 35, 28], [28, 30, 35]), ([28, 36], [28, 36]), ([37, 28], [37]), ([38], [38]), ([38], [38]), ([39, 40, 38], [38, 39, 40]), ([41, 38], [38, 41]), ([42, 38], [38, 42]), ([38], [38]), ([44, 38], [38, 44]), ([43, 45, 38], [38, 43, 45]), ([46, 38, 38], [38, 46]), ([47], [47]), ([48, 47], [47, 48]), ([47], [47]), ([47], [47]), ([50, 51, 47], [47, 50, 51]), ([52, 47], [47, 52]), ([53, 47], [47, 53]), ([49, 54, 47], [47, 49, 54]), ([47, 55, 38], [38, 47, 55]), ([38, 56], [38, 56])])
def rickyardlaw17_AskEach.B10 : List Nat := [0, 1, 3, 7, 15, 31, 63, 127, 255, 511, 127, 127, 3199, 7295, 15487, 31871, 65535, 131071, 262143, 524287, 1048575, 524287, 524287, 6815743, 15204351, 31981567, 67108863, 134217727, 268435455, 536870911, 1073741823, 536870911, 536870911, 6979321855, 15569256447, 32749125631, 68719476735, 137438953471, 274877906943, 549755813887, 549755813887, 2199023255551, 4398046511103, 8796093022207, 549755813887, 18141941858303, 70368744177663, 140737488355327, 281474976710655, 562949953421311, 281474976710655, 281474976710655, 3659174697238527, 8162774324609023, 17169973579350015, 36028797018963967, 72057594037927935, 144115188075855871]
theorem rickyardlaw17_AskEach.tab10 : rtab .any (opsOf Try.f5 10) = rickyardlaw17_AskEach.T10 := by kernel_rfl
theorem rickyardlaw17_AskEach.bits10 : waitsOk rickyardlaw17_AskEach.T10.2 rickyardlaw17_AskEach.B10 = true := by kernel_rfl
def rickyardlaw17_AskEach.T17 : Bool × List (List Nat × List Nat) := (true, [([], []), ([0], [0]), ([1], [1]), ([1], [1]), ([2, 3, 1], [1, 2, 3]), ([4, 1], [1, 4]), ([5, 1], [1, 5]), ([1], [1]), ([7, 1], [1, 7]), ([6, 8, 1, 1], [1, 6, 8]), ([9, 1], [1, 9]), ([10, 9, 1], [1, 10]), ([11], [11]), ([11], [11]), ([12, 13, 11], [11, 12, 13]), ([14, 11], [11, 14]), ([15, 11], [11, 15]), ([11], [11]), ([17, 11], [11, 17]), ([16, 18, 11], [11, 16, 18]), ([11, 19, 1], [1, 11, 19]), ([20, 11, 1], [1, 20]), ([21], [21]), ([22, 21], [21, 22]), ([21], [21]), ([21], [21]), ([24, 25, 21], [21, 24, 25]), ([26, 21], [21, 26]), ([27, 21], [21, 27]), ([23, 28, 21], [21, 23, 28]), ([21], [21]), ([21], [21]), ([30, 31, 21], [21, 30, 31]), ([32, 21], [21, 32]), ([33, 21], [21, 33]), ([29, 34, 21], [21, 29, 34]), ([21, 35, 1], [1, 21, 35]), ([1, 36], [1, 36]), ([37, 21, 0, 1, 2, 3, 4, 5, 6, 7, 8, 9, 10, 11, 12, 13, 14, 15, 16, 17, 18, 19, 20, 21, 22, 23, 24, 25, 26, 27, 28, 29, 30, 31, 32, 33, 34, 35, 36, 37], [0, 37])])
def rickyardlaw17_AskEach.B17 : List Nat := [0, 1, 3, 3, 15, 31, 63, 3, 131, 511, 1023, 2047, 4095, 4095, 16383, 32767, 65535, 4095, 135167, 524287, 1048575, 2097151, 4194303, 8388607, 4194303, 4194303, 54525951, 121634815, 255852543, 536870911, 4194303, 4194303, 3225419775, 7520387071, 16110321663, 34359738367, 68719476735, 137438953471, 274877906943]
theorem rickyardlaw17_AskEach.tab17 : rtab .any (opsOf Try.f5 17) = rickyardlaw17_AskEach.T17 := by kernel_rfl
theorem rickyardlaw17_AskEach.bits17 : waitsOk rickyardlaw17_AskEach.T17.2 rickyardlaw17_AskEach.B17 = true := by kernel_rfl
theorem rickyardlaw17_AskEach.calls (k : Nat) (A0_0 : Option Addr) (c0_0 : Nat) (l0_0 : List (S84)) (a0_1 : Int) (a1 : Int) (A2 : Option Addr) (c2 : Nat) (l2 : List (S60)) (A3_0 : Option Addr) (c3_0 : Nat) (l3_0 : List ByteArray) (a3_1 : Int) (a3_2 : Int) (a3_3 : Int) (a3_4 : Int) (r : Bool) (w : World) (hr0_0 : Kd.C k84 w A0_0 l0_0.length l0_0) (hc0_0 : l0_0.length ≤ c0_0) (hr2 : Kd.C k60 w A2 l2.length l2) (hc2 : l2.length ≤ c2) (hr3_0 : Kd.C Kd.string w A3_0 l3_0.length l3_0) (hc3_0 : l3_0.length ≤ c3_0) (h : rickyardlaw17_AskEach.f k l0_0 a0_1 a1 l2 l3_0 a3_1 a3_2 a3_3 a3_4 = some r) :
  Calls Try.prog 5 #[.agg #[.slice A0_0 l0_0.length c0_0, .int .i64 a0_1], .int .i64 a1, .slice A2 l2.length c2, .agg #[.slice A3_0 l3_0.length c3_0, .int .i64 a3_1, .int .i64 a3_2, .int .i64 a3_3, .int .i64 a3_4]] w fun e w' => e = .returned (.bool r) ∧ Below w.heap.size w w' := by
 have hu24 := Try.underlying24
 have hu28 := Try.underlying28
 have hu44 := Try.underlying44
 have HR0_0 := Aside0.mk hr0_0
 have HC0_0 := Aside0.mk hc0_0
 clear hr0_0 hc0_0
 have HR2 := Aside0.mk hr2
 have HC2 := Aside0.mk hc2
 clear hr2 hc2
 have HR3_0 := Aside0.mk hr3_0
 have HC3_0 := Aside0.mk hc3_0
 clear hr3_0 hc3_0
 have HB := Aside0.mk (Below.refl w.heap.size w)
 have H : ((rickyardlaw15_Great.f k l2).bind fun t657 => (if t657 = true then (rickyardlaw17_AskEach.j0 k a1 l2 true l0_0 a0_1 l3_0 a3_1 a3_2 a3_3 a3_4) else ((rickyardlaw17_Long.f k l3_0 a3_1 a3_2 a3_3 a3_4).bind fun t658 => (rickyardlaw17_AskEach.j0 k a1 l2 t658 l0_0 a0_1 l3_0 a3_1 a3_2 a3_3 a3_4)))) = some r := h
 clear h
 have HC5 := Aside0.mk H
 clear H
 go_enter Try.func5, Try.ntmps5
 go_upto_region 1 with (first | ((with_reducible refine gate_dst (N := 4) rfl ?_); refine boxA 4 #[.slice A0_0 l0_0.length c0_0, .int .i64 a0_1] 24 ?_; intro gb655 hg w6 hbox hb; have BK655 := Aside0.mk (hbox); have GE655 := ge1 hg (belA HB.out); replace HB := bst HB hb; clear hb hbox hg) | ((with_reducible refine gate_dst (N := 7) rfl ?_); refine boxA 7 #[.slice A3_0 l3_0.length c3_0, .int .i64 a3_1, .int .i64 a3_2, .int .i64 a3_3, .int .i64 a3_4] 28 ?_; intro gb656 hg w7 hbox hb; have BK656 := Aside0.mk (hbox); have GW656 := ge1 hg (belB HB.out GE655.out); have GE656 := GW656; have NB655_656 := neL hg BK655; have NB656_655 := neR hg BK655; replace BK655 := blkB BK655 hb; replace HB := bs2 HB GE655 hb; clear hb hbox hg))
 (try simp only [Act.put, List.setIfInBounds_toArray, List.set_cons_zero, List.set_cons_succ])
 go_cut [25] (fun v25 wc => ∃ (kq : Nat) (x25_4 : Bool), v25 = .bool x25_4 ∧ Aside0 (rickyardlaw17_AskEach.j0 kq a1 l2 x25_4 l0_0 a0_1 l3_0 a3_1 a3_2 a3_3 a3_4 = some r) ∧ Aside0 (kq ≤ k) ∧ Aside0 (wc.heap[gb655]? = some (.cells #[(.slice A0_0 l0_0.length c0_0), .int .i64 a0_1] 24 (0, 0))) ∧ Aside0 (wc.heap[gb656]? = some (.cells #[(.slice A3_0 l3_0.length c3_0), .int .i64 a3_1, .int .i64 a3_2, .int .i64 a3_3, .int .i64 a3_4] 28 (0, 0))) ∧ Aside0 (Below w.heap.size w wc))
 case first =>
  have H := HC5.out
  clear HC5
  replace H := bnA H
  obtain ⟨t657, A8, H⟩ := H
  by_cases c9 : t657 = true
  ·subst c9
   have H1 : (rickyardlaw17_AskEach.j0 k a1 l2 true l0_0 a0_1 l3_0 a3_1 a3_2 a3_3 a3_4) = some r := by rw [if_pos rfl] at H; exact H
   clear H
   have H := H1
   clear H1
   have H' := Aside0.mk H
   clear H
   go_wp2_with (first | ((with_reducible refine gate_callee (f := 7) rfl ?_); refine goesL_ (some 21) rfl rfl Try.func7 (by kernel_rfl) rfl #[.slice A2 l2.length c2] rfl argA ?_; (with_reducible refine (rickyardlaw15_Great.calls k _ _ l2 true _ ?side1 ?side2 A8.out).mono ?_); (case side1 => exact cb1 HR2 HB); (case side2 => exact HC2.out); rintro e w' ⟨rfl, ⟨nd, rfl⟩⟩; refine ⟨_, rfl, ?_⟩))
   go_meet
   case rel => exact ⟨_, (true), relA, H', ⟨by first | omega | exact Nat.le_refl _⟩, ⟨blkA BK655.out⟩, ⟨blkA BK656.out⟩, ⟨belC HB.out GE655.out GE656.out⟩⟩
  replace c9 := Bool.eq_false_iff.mpr c9
  subst c9
  have H1 : ((rickyardlaw17_Long.f k l3_0 a3_1 a3_2 a3_3 a3_4).bind fun t658 => (rickyardlaw17_AskEach.j0 k a1 l2 t658 l0_0 a0_1 l3_0 a3_1 a3_2 a3_3 a3_4)) = some r := by rw [if_neg (show ¬ (false = true) by decide)] at H; exact H
  clear H
  have H := H1
  clear H1
  replace H := bnA H
  obtain ⟨t658, A10, H⟩ := H
  have H' := Aside0.mk H
  clear H
  go_wp2_with (first | ((with_reducible refine gate_callee (f := 7) rfl ?_); refine goesL_ (some 21) rfl rfl Try.func7 (by kernel_rfl) rfl #[.slice A2 l2.length c2] rfl argA ?_; (with_reducible refine (rickyardlaw15_Great.calls k _ _ l2 false _ ?side1 ?side2 A8.out).mono ?_); (case side1 => exact cb1 HR2 HB); (case side2 => exact HC2.out); rintro e w' ⟨rfl, ⟨nd, rfl⟩⟩; refine ⟨_, rfl, ?_⟩; have hnb11 := NB656_655.out; have hnc11 := NB655_656.out; obtain ⟨hcz12_0, hcz12_1, hcz12_2, hcz12_3, hcz12_4, hfz12_0, hfz12_1, hfz12_2, hfz12_3, hfz12_4⟩ := blk5 BK656) | (go_at_call 8; (with_reducible refine (rickyardlaw17_Long.calls k (fun k_ => k_ < w.heap.size) _ _ l3_0 a3_1 a3_2 a3_3 a3_4 t658 _ ?side1 A10.out).mono ?_); (case side1 => exact Kd.V_mk HC3_0.out (Kd.F_below (Kd.C_F Kd.heap_string HR3_0.out) (belC HB.out GE655.out GE656.out))); rintro e w13 ⟨rfl, hb⟩; replace BK655 := blkB BK655 hb; replace BK656 := blkB BK656 hb; replace HB := bs3 HB GE655 GE656 hb; (try clear hb)))
  go_meet
  case rel => exact ⟨_, (t658), relA, H', ⟨by first | omega | exact Nat.le_refl _⟩, ⟨blkA BK655.out⟩, ⟨blkA BK656.out⟩, ⟨belC HB.out GE655.out GE656.out⟩⟩
 case rest =>
  clear HC5
  try clear c1
  try clear c2
  try clear p2
  try clear c3
  try clear c5
  try clear c7
  try clear c9
  try clear c11
  try clear hcz12_0 hcz12_1 hcz12_2 hcz12_3 hcz12_4 hfz12_0 hfz12_1 hfz12_2 hfz12_3 hfz12_4
  obtain ⟨kq, x25_4, rfl, HA, HJ4, BK655, BK656, HB⟩ := hcut
  cases kq with
  | zero => exact absurd HA.out (by simp [rickyardlaw17_AskEach.j0])
  | succ kj4 =>
   have H := HA.out
   clear HA
   simp only [rickyardlaw17_AskEach.j0] at H
   by_cases c14 : x25_4 = true
   ·subst c14
    have H1 : ((rickyardlaw17_alive.f kj4).bind fun t659 => (some t659)) = some r := by rw [if_pos rfl] at H; exact H
    clear H
    have H := H1
    clear H1
    replace H := bnA H
    obtain ⟨t659, A15, H⟩ := H
    obtain rfl := Option.some.inj H
    go_wp2_with (first | ((with_reducible refine gate_callee (f := 9) rfl ?_); refine goesL_ (some 26) rfl rfl Try.func9 (by kernel_rfl) rfl #[] rfl argA ?_; (with_reducible refine (rickyardlaw17_alive.calls kj4  t659 _ A15.out).mono ?_); rintro e w16 ⟨rfl, hb⟩; refine ⟨_, rfl, ?_⟩; replace BK655 := blkB BK655 hb; replace BK656 := blkB BK656 hb; replace HB := bs3 HB GE655 GE656 hb; (try clear hb)))
    go_ret
    exact ⟨ret1, belC HB.out GE655.out GE656.out⟩
   replace c14 := Bool.eq_false_iff.mpr c14
   subst c14
   have H1 : ((ask_Scan.f kj4 l0_0 a0_1 a1 l2 ([] : List ByteArray) 0 1099511627776).bind fun bt660 => (if bt660.2 = 0 then (rickyardlaw17_AskEach.l0 kj4 a1 l2 bt660.1 0 l0_0 a0_1 l3_0 a3_1 a3_2 a3_3 a3_4) else ((rickyardlaw17_alive.f kj4).bind fun t664 => (some t664)))) = some r := by rw [if_neg (show ¬ (false = true) by decide)] at H; exact H
   clear H
   have H := H1
   clear H1
   replace H := bnA H
   obtain ⟨⟨t660, t663⟩, A17, H⟩ := H
   replace H : (if t663 = 0 then (rickyardlaw17_AskEach.l0 kj4 a1 l2 t660 0 l0_0 a0_1 l3_0 a3_1 a3_2 a3_3 a3_4) else ((rickyardlaw17_alive.f kj4).bind fun t664 => (some t664))) = some r := H
   by_cases c18 : t663 = 0
   rotate_left
   ·rw [if_neg c18] at H
    have c18b0 := beq_eq_false_iff_ne.mpr c18
    have c18b1 := bne_iff_ne.mpr c18
    replace H := bnA H
    obtain ⟨t664, A200, H⟩ := H
    obtain rfl := Option.some.inj H
    have hnb201 := NB655_656.out
    have hnc201 := NB656_655.out
    obtain ⟨hcz202_0, hcz202_1, hfz202_0, hfz202_1⟩ := blk2 BK655
    go_wp2_with (first | ((with_reducible refine gate_callee (f := 10) rfl ?_); refine goesL_ (some 31) rfl rfl Try.func10 (by kernel_rfl) rfl #[.agg #[.slice A0_0 l0_0.length c0_0, .int .i64 a0_1], .int .i64 a1, .slice A2 l2.length c2, .slice none 0 0, .int .i64 0, .int .i64 1099511627776] rfl argA ?_; (refine (ask_Scan.calls kj4 _ _ l0_0 a0_1 a1 _ _ l2 _ _ ([] : List ByteArray) 0 1099511627776 t660 t663 _ ?side1 ?side2 ?side3 ?side4 ?side5 ?side6 A17.out).mono ?_); (case side1 => exact cb1 HR0_0 HB); (case side2 => exact HC0_0.out); (case side3 => exact cb1 HR2 HB); (case side4 => exact HC2.out); (case side5 => exact Kd.C_nil _ _); (case side6 => exact Nat.le_refl _); rintro e w203 ⟨v661, rfl, ho0, hb⟩; refine ⟨_, rfl, ?_⟩; have HO662 := Aside0.mk (Kd.R_lower ho0 (below_size (belC HB.out GE655.out GE656.out))); replace BK655 := blkB BK655 hb; replace BK656 := blkB BK656 hb; replace HB := bs3 HB GE655 GE656 hb; (try clear hb); (try clear ho0)) | ((with_reducible refine gate_callee (f := 9) rfl ?_); refine goesL_ (some 36) rfl rfl Try.func9 (by kernel_rfl) rfl #[] rfl argA ?_; (with_reducible refine (rickyardlaw17_alive.calls kj4  t664 _ A200.out).mono ?_); rintro e w204 ⟨rfl, hb⟩; refine ⟨_, rfl, ?_⟩; replace HO662 := Aside0.mk (Kd.R_below (rowA HO662.out) hb); replace BK655 := blkB BK655 hb; replace BK656 := blkB BK656 hb; replace HB := bs3 HB GE655 GE656 hb; (try clear hb)))
    go_ret
    exact ⟨ret1, belC HB.out GE655.out GE656.out⟩
   rw [if_pos c18] at H
   have c18b0 := beq_iff_eq.mpr c18
   have c18b1 := bne_eq_false_iff_eq.mpr c18
   clear c18
   have H' := Aside0.mk H
   clear H
   have hnb19 := NB655_656.out
   have hnc19 := NB656_655.out
   obtain ⟨hcz20_0, hcz20_1, hfz20_0, hfz20_1⟩ := blk2 BK655
   go_wp2_with (first | ((with_reducible refine gate_callee (f := 10) rfl ?_); refine goesL_ (some 31) rfl rfl Try.func10 (by kernel_rfl) rfl #[.agg #[.slice A0_0 l0_0.length c0_0, .int .i64 a0_1], .int .i64 a1, .slice A2 l2.length c2, .slice none 0 0, .int .i64 0, .int .i64 1099511627776] rfl argA ?_; (refine (ask_Scan.calls kj4 _ _ l0_0 a0_1 a1 _ _ l2 _ _ ([] : List ByteArray) 0 1099511627776 t660 t663 _ ?side1 ?side2 ?side3 ?side4 ?side5 ?side6 A17.out).mono ?_); (case side1 => exact cb1 HR0_0 HB); (case side2 => exact HC0_0.out); (case side3 => exact cb1 HR2 HB); (case side4 => exact HC2.out); (case side5 => exact Kd.C_nil _ _); (case side6 => exact Nat.le_refl _); rintro e w21 ⟨v661, rfl, ho0, hb⟩; refine ⟨_, rfl, ?_⟩; have HO662 := Aside0.mk (Kd.R_lower ho0 (below_size (belC HB.out GE655.out GE656.out))); replace BK655 := blkB BK655 hb; replace BK656 := blkB BK656 hb; replace HB := bs3 HB GE655 GE656 hb; (try clear hb); (try clear ho0)))
   go_loopg [11] kj4 (fun kq v11 w' => ∃ (x11_2 : Int), v11 = .int .i64 x11_2 ∧ Aside0 (rickyardlaw17_AskEach.l0 kq a1 l2 t660 x11_2 l0_0 a0_1 l3_0 a3_1 a3_2 a3_3 a3_4 = some r) ∧ Aside0 (kq ≤ kj4) ∧ Aside0 (Kd.R k44 44 w' w.heap.size (fun _ => True) v661 t660) ∧ Aside0 (w'.heap[gb655]? = some (.cells #[(.slice A0_0 l0_0.length c0_0), .int .i64 a0_1] 24 (0, 0))) ∧ Aside0 (w'.heap[gb656]? = some (.cells #[(.slice A3_0 l3_0.length c3_0), .int .i64 a3_1, .int .i64 a3_2, .int .i64 a3_3, .int .i64 a3_4] 28 (0, 0))) ∧ Aside0 (Below w.heap.size w w'))
   case atStart => exact ⟨(0), relA, H', ⟨Nat.le_refl _⟩, ⟨rowA HO662.out⟩, ⟨blkA BK655.out⟩, ⟨blkA BK656.out⟩, ⟨belC HB.out GE655.out GE656.out⟩⟩
   case round =>
    clear H'
    try clear c1
    try clear c2
    try clear p2
    try clear c3
    try clear c5
    try clear c7
    try clear c9
    try clear c10
    try clear c11
    try clear c14
    try clear c18
    try clear c18b0
    try clear c18b1
    try clear c19
    try clear hcz12_0 hcz12_1 hcz12_2 hcz12_3 hcz12_4
    try clear hcz20_0 hcz20_1
    try clear hfz12_0 hfz12_1 hfz12_2 hfz12_3 hfz12_4
    try clear hfz20_0 hfz20_1
    try clear p2
    obtain ⟨x11_2, rfl, HA, HK2, HO_9, BK655, BK656, HB⟩ := hrel
    cases gk with
    | zero => exact absurd HA.out (by simp [rickyardlaw17_AskEach.l0])
    | succ k2 =>
     have H := HA.out
     clear HA
     simp only [rickyardlaw17_AskEach.l0] at H
     by_cases c22 : x11_2 < (t660.length : Int)
     ·rw [if_pos c22] at H
      have c22b0 := decide_eq_true c22
      clear c22
      by_cases c23 : 0 ≤ x11_2
      ·rw [if_pos c23] at H
       have c23b0 := decide_eq_true c23
       clear c23
       replace H := bnA H
       obtain ⟨⟨t667, t670, t671, t672, t673, t674, t675, t676, t677, t678, t679⟩, A24, H⟩ := H
       replace H : (if t679 = 0 then (if t678 = true then (if t672 < ((rd_T44 t660 x11_2).f3.f0) then (none) else (if t671 < ((rd_T44 t660 x11_2).f2) then (none) else (if t670 > ((rd_T44 t660 x11_2).f1) then (none) else (if ((rd_T44 t660 x11_2).f2) = t671 then (if t670 = ((rd_T44 t660 x11_2).f1) then (rickyardlaw17_AskEach.l0 k2 a1 l2 t660 (wrap64 (x11_2 + 1)) l0_0 a0_1 l3_0 a3_1 a3_2 a3_3 a3_4) else (none)) else (rickyardlaw17_AskEach.l0 k2 a1 l2 t660 (wrap64 (x11_2 + 1)) l0_0 a0_1 l3_0 a3_1 a3_2 a3_3 a3_4))))) else (none)) else (none)) = some r := H
       by_cases c25 : t679 = 0
       ·rw [if_pos c25] at H
        have c25b0 := beq_iff_eq.mpr c25
        have c25b1 := bne_eq_false_iff_eq.mpr c25
        clear c25
        by_cases c26 : t678 = true
        ·subst c26
         have H1 : (if t672 < ((rd_T44 t660 x11_2).f3.f0) then (none) else (if t671 < ((rd_T44 t660 x11_2).f2) then (none) else (if t670 > ((rd_T44 t660 x11_2).f1) then (none) else (if ((rd_T44 t660 x11_2).f2) = t671 then (if t670 = ((rd_T44 t660 x11_2).f1) then (rickyardlaw17_AskEach.l0 k2 a1 l2 t660 (wrap64 (x11_2 + 1)) l0_0 a0_1 l3_0 a3_1 a3_2 a3_3 a3_4) else (none)) else (rickyardlaw17_AskEach.l0 k2 a1 l2 t660 (wrap64 (x11_2 + 1)) l0_0 a0_1 l3_0 a3_1 a3_2 a3_3 a3_4))))) = some r := by rw [if_pos rfl] at H; exact H
         clear H
         have H := H1
         clear H1
         by_cases c27 : t672 < ((rd_T44 t660 x11_2).f3.f0)
         ·rw [if_pos c27] at H
          cases H
         ·rw [if_neg c27] at H
          have c27b0 := decide_eq_false c27
          clear c27
          by_cases c45 : t671 < ((rd_T44 t660 x11_2).f2)
          ·rw [if_pos c45] at H
           cases H
          ·rw [if_neg c45] at H
           have c45b0 := decide_eq_false c45
           clear c45
           by_cases c63 : t670 > ((rd_T44 t660 x11_2).f1)
           ·rw [if_pos c63] at H
            cases H
           ·rw [if_neg c63] at H
            have c63b0 := decide_eq_false c63
            clear c63
            have HH := H
            replace H := ifs2 H
            obtain ⟨HPQ_, H⟩ := H
            clear HH
            have H' := Aside0.mk H
            clear H
            obtain ⟨Ao83, co83, eo83⟩ := Kd.R_slice HO_9.out
            subst eo83
            try go_wp2
            replace HO_9 := Aside0.mk (Kd.R_drew HO_9.out)
            replace BK655 := Aside0.mk (blk_drew BK655.out)
            replace BK656 := Aside0.mk (blk_drew BK656.out)
            replace HB := Aside0.mk (below_drew1 HB.out)
            have p665 : 0 ≤ (x11_2 : Int) := of_decide_eq_true asmA
            have q665 : x11_2 < (t660.length : Int) := of_decide_eq_true asmA
            obtain ⟨ad665, A665_0, c665_0, e665, hx665_0, hx665_1, hx665_2, hx665_3, hx665_4, hx665_5, hx665_6, hx665_7, hx665_8, hl665_0, hi665_0⟩ := at_T44 (Kd.R_reads' HO_9.out).2.2 x11_2 p665 q665
            cases e665
            obtain ⟨ce665, hce665, hMe665, hcc665⟩ := Kd.R_get HO_9.out z44 x11_2 p665 (by first | exact q665 | exact of_decide_eq_true asmA | (have e_ := (Kd.R_reads' HO_9.out).1; omega))
            obtain ⟨ve665_0, rfl, ge665_0⟩ := k44_openM hMe665
            have hv665_0 := hcc665 0 _ rfl
            rw [Nat.add_zero] at hv665_0
            replace hv665_0 := Option.some.inj (hv665_0.symm.trans hx665_0)
            rw [hv665_0] at ge665_0
            have HL665_0 := Aside0.mk (show Kd.R Kd.string 9 _ _ _ _ ((rd_T44 t660 x11_2).f0) from ge665_0)
            clear hv665_0 ge665_0
            clear hcc665 hce665
            have HR665_0 := Aside0.mk hi665_0
            have HC665_0 := Aside0.mk hl665_0
            clear hi665_0 hl665_0
            replace p665 := eq_true p665
            replace q665 := eq_true q665
            have p666 : 0 ≤ (x11_2 : Int) := of_decide_eq_true asmA
            have q666 : x11_2 < (t660.length : Int) := of_decide_eq_true asmA
            obtain ⟨ad666, A666_0, c666_0, e666, hx666_0, hx666_1, hx666_2, hx666_3, hx666_4, hx666_5, hx666_6, hx666_7, hx666_8, hl666_0, hi666_0⟩ := at_T44 (Kd.R_reads' HO_9.out).2.2 x11_2 p666 q666
            obtain rfl : ad665 = ad666 := (by injection e666)
            obtain ⟨ce666, hce666, hMe666, hcc666⟩ := Kd.R_get HO_9.out z44 x11_2 p666 (by first | exact q666 | exact of_decide_eq_true asmA | (have e_ := (Kd.R_reads' HO_9.out).1; omega))
            obtain ⟨ve666_0, rfl, ge666_0⟩ := k44_openM hMe666
            have hv666_0 := hcc666 0 _ rfl
            rw [Nat.add_zero] at hv666_0
            replace hv666_0 := Option.some.inj (hv666_0.symm.trans hx666_0)
            rw [hv666_0] at ge666_0
            have HL666_0 := Aside0.mk (show Kd.R Kd.string 9 _ _ _ _ ((rd_T44 t660 x11_2).f0) from ge666_0)
            clear hv666_0 ge666_0
            clear hcc666 hce666
            have HR666_0 := Aside0.mk hi666_0
            have HC666_0 := Aside0.mk hl666_0
            clear hi666_0 hl666_0
            replace p666 := eq_true p666
            replace q666 := eq_true q666
            have ea_ := Option.some.inj (hx665_0.symm.trans hx666_0)
            injection ea_ with ea_ en_ ec_
            subst ea_
            subst ec_
            clear en_
            refine start_ (n := 22) (S := fun w' => w'.cell? ⟨gb655, 0, none⟩ = some (.slice A0_0 l0_0.length c0_0) ∧ w'.cell? ⟨gb655, 1, none⟩ = some (.int .i64 a0_1) ∧ w'.cell? (ad665.add ((x11_2).toNat * 9)) = some (.slice A665_0 ((rd_T44 t660 x11_2).f0).length c665_0) ∧ w'.cell? ⟨(ad665.add ((x11_2).toNat * 9)).block, (ad665.add ((x11_2).toNat * 9)).off + 1, none⟩ = some (.int .i64 ((rd_T44 t660 x11_2).f1)) ∧ w'.cell? ⟨(ad665.add ((x11_2).toNat * 9)).block, (ad665.add ((x11_2).toNat * 9)).off + 2, none⟩ = some (.int .i64 ((rd_T44 t660 x11_2).f2)) ∧ w'.cell? ⟨(ad665.add ((x11_2).toNat * 9)).block, (ad665.add ((x11_2).toNat * 9)).off + 3, none⟩ = some (.int .u64 ((rd_T44 t660 x11_2).f3.f0)) ∧ w'.cell? ⟨(ad665.add ((x11_2).toNat * 9)).block, (ad665.add ((x11_2).toNat * 9)).off + 4, none⟩ = some (.bool ((rd_T44 t660 x11_2).f3.f1)) ∧ w'.cell? ⟨(ad665.add ((x11_2).toNat * 9)).block, (ad665.add ((x11_2).toNat * 9)).off + 5, none⟩ = some (.int .i64 ((rd_T44 t660 x11_2).f3.f2.f0)) ∧ w'.cell? ⟨(ad665.add ((x11_2).toNat * 9)).block, (ad665.add ((x11_2).toNat * 9)).off + 6, none⟩ = some (.int .u64 ((rd_T44 t660 x11_2).f3.f2.f1)) ∧ w'.cell? ⟨(ad665.add ((x11_2).toNat * 9)).block, (ad665.add ((x11_2).toNat * 9)).off + 7, none⟩ = some (.int .i64 ((rd_T44 t660 x11_2).f3.f3)) ∧ w'.cell? ⟨(ad665.add ((x11_2).toNat * 9)).block, (ad665.add ((x11_2).toNat * 9)).off + 8, none⟩ = some (.int .i64 ((rd_T44 t660 x11_2).f3.f4)) ∧ w'.cell? (ad665.add ((x11_2).toNat * 9)) = some (.slice A665_0 ((rd_T44 t660 x11_2).f0).length c665_0) ∧ w'.cell? ⟨(ad665.add ((x11_2).toNat * 9)).block, (ad665.add ((x11_2).toNat * 9)).off + 1, none⟩ = some (.int .i64 ((rd_T44 t660 x11_2).f1)) ∧ w'.cell? ⟨(ad665.add ((x11_2).toNat * 9)).block, (ad665.add ((x11_2).toNat * 9)).off + 2, none⟩ = some (.int .i64 ((rd_T44 t660 x11_2).f2)) ∧ w'.cell? ⟨(ad665.add ((x11_2).toNat * 9)).block, (ad665.add ((x11_2).toNat * 9)).off + 3, none⟩ = some (.int .u64 ((rd_T44 t660 x11_2).f3.f0)) ∧ w'.cell? ⟨(ad665.add ((x11_2).toNat * 9)).block, (ad665.add ((x11_2).toNat * 9)).off + 4, none⟩ = some (.bool ((rd_T44 t660 x11_2).f3.f1)) ∧ w'.cell? ⟨(ad665.add ((x11_2).toNat * 9)).block, (ad665.add ((x11_2).toNat * 9)).off + 5, none⟩ = some (.int .i64 ((rd_T44 t660 x11_2).f3.f2.f0)) ∧ w'.cell? ⟨(ad665.add ((x11_2).toNat * 9)).block, (ad665.add ((x11_2).toNat * 9)).off + 6, none⟩ = some (.int .u64 ((rd_T44 t660 x11_2).f3.f2.f1)) ∧ w'.cell? ⟨(ad665.add ((x11_2).toNat * 9)).block, (ad665.add ((x11_2).toNat * 9)).off + 7, none⟩ = some (.int .i64 ((rd_T44 t660 x11_2).f3.f3)) ∧ w'.cell? ⟨(ad665.add ((x11_2).toNat * 9)).block, (ad665.add ((x11_2).toNat * 9)).off + 8, none⟩ = some (.int .i64 ((rd_T44 t660 x11_2).f3.f4))) (ds := []) #[false, false, false, false, false, false, false, false, false, false, false, false, false, false, false, false, false, false, false, false, false, false] (by kernel_rfl) rfl rfl ⟨(blk_cell BK655.out 0).trans rfl, (blk_cell BK655.out 1).trans rfl, hx665_0, hx665_1, hx665_2, hx665_3, hx665_4, hx665_5, hx665_6, hx665_7, hx665_8, hx666_0, hx666_1, hx666_2, hx666_3, hx666_4, hx666_5, hx666_6, hx666_7, hx666_8⟩ (fun hHeld => ?_); refine with_tabW rickyardlaw17_AskEach.tab9 rickyardlaw17_AskEach.bits9 (fun HT_ HW_ => ?_)
            generalize wr.drew = w84 at HO_9 BK655 BK656 HB HL665_0 HL666_0 HR665_0 HR666_0 hx665_0 hx665_1 hx665_2 hx665_3 hx665_4 hx665_5 hx665_6 hx665_7 hx665_8 hx666_0 hx666_1 hx666_2 hx666_3 hx666_4 hx666_5 hx666_6 hx666_7 hx666_8 hHeld ⊢
            refine pureD 1 45 HT_ ?_
            refine pureD 2 46 HT_ ?_
            refine pureD 3 47 HT_ ?_
            refine pureD 4 48 HT_ ?_
            refine pureD 5 49 HT_ ?_
            refine pureD 6 50 HT_ ?_
            refine pureD 8 52 HT_ ?_
            refine pureD 9 53 HT_ ?_
            refine pureD 10 54 HT_ ?_
            refine pureD 11 55 HT_ ?_
            refine takeD 0 44 HT_ HW_ hHeld ?_
            refine takeD 7 51 HT_ HW_ hHeld ?_
            refine takeD 12 56 HT_ HW_ hHeld ?_
            refine join_ (σ := Value × Nat) 3 #[true, true, true, true, true, true, true, true, true, true, true, true, true, true, true, true, true, true, true, false, false, false] (fun s_ => [(57, .tuple #[.agg #[s_.1, .int .i64 t670, .int .i64 t671, .int .u64 t672, .bool t673, .int .i64 t674, .int .u64 t675, .int .i64 t676, .int .i64 t677], .bool true, .int .i64 t679]), (12, .pointer (some ⟨s_.2, 0, none⟩)), (43, .tuple #[.agg #[s_.1, .int .i64 t670, .int .i64 t671, .int .u64 t672, .bool t673, .int .i64 t674, .int .u64 t675, .int .i64 t676, .int .i64 t677], .bool true, .int .i64 t679]), (58, .agg #[s_.1, .int .i64 t670, .int .i64 t671, .int .u64 t672, .bool t673, .int .i64 t674, .int .u64 t675, .int .i64 t676, .int .i64 t677]), (59, .bool true), (60, .int .i64 t679)]) (fun s_ w' => (w'.cell? ⟨gb655, 0, none⟩ = some (.slice A0_0 l0_0.length c0_0) ∧ w'.cell? ⟨gb655, 1, none⟩ = some (.int .i64 a0_1) ∧ w'.cell? (ad665.add ((x11_2).toNat * 9)) = some (.slice A665_0 ((rd_T44 t660 x11_2).f0).length c665_0) ∧ w'.cell? ⟨(ad665.add ((x11_2).toNat * 9)).block, (ad665.add ((x11_2).toNat * 9)).off + 1, none⟩ = some (.int .i64 ((rd_T44 t660 x11_2).f1)) ∧ w'.cell? ⟨(ad665.add ((x11_2).toNat * 9)).block, (ad665.add ((x11_2).toNat * 9)).off + 2, none⟩ = some (.int .i64 ((rd_T44 t660 x11_2).f2)) ∧ w'.cell? ⟨(ad665.add ((x11_2).toNat * 9)).block, (ad665.add ((x11_2).toNat * 9)).off + 3, none⟩ = some (.int .u64 ((rd_T44 t660 x11_2).f3.f0)) ∧ w'.cell? ⟨(ad665.add ((x11_2).toNat * 9)).block, (ad665.add ((x11_2).toNat * 9)).off + 4, none⟩ = some (.bool ((rd_T44 t660 x11_2).f3.f1)) ∧ w'.cell? ⟨(ad665.add ((x11_2).toNat * 9)).block, (ad665.add ((x11_2).toNat * 9)).off + 5, none⟩ = some (.int .i64 ((rd_T44 t660 x11_2).f3.f2.f0)) ∧ w'.cell? ⟨(ad665.add ((x11_2).toNat * 9)).block, (ad665.add ((x11_2).toNat * 9)).off + 6, none⟩ = some (.int .u64 ((rd_T44 t660 x11_2).f3.f2.f1)) ∧ w'.cell? ⟨(ad665.add ((x11_2).toNat * 9)).block, (ad665.add ((x11_2).toNat * 9)).off + 7, none⟩ = some (.int .i64 ((rd_T44 t660 x11_2).f3.f3)) ∧ w'.cell? ⟨(ad665.add ((x11_2).toNat * 9)).block, (ad665.add ((x11_2).toNat * 9)).off + 8, none⟩ = some (.int .i64 ((rd_T44 t660 x11_2).f3.f4)) ∧ w'.cell? (ad665.add ((x11_2).toNat * 9)) = some (.slice A665_0 ((rd_T44 t660 x11_2).f0).length c665_0) ∧ w'.cell? ⟨(ad665.add ((x11_2).toNat * 9)).block, (ad665.add ((x11_2).toNat * 9)).off + 1, none⟩ = some (.int .i64 ((rd_T44 t660 x11_2).f1)) ∧ w'.cell? ⟨(ad665.add ((x11_2).toNat * 9)).block, (ad665.add ((x11_2).toNat * 9)).off + 2, none⟩ = some (.int .i64 ((rd_T44 t660 x11_2).f2)) ∧ w'.cell? ⟨(ad665.add ((x11_2).toNat * 9)).block, (ad665.add ((x11_2).toNat * 9)).off + 3, none⟩ = some (.int .u64 ((rd_T44 t660 x11_2).f3.f0)) ∧ w'.cell? ⟨(ad665.add ((x11_2).toNat * 9)).block, (ad665.add ((x11_2).toNat * 9)).off + 4, none⟩ = some (.bool ((rd_T44 t660 x11_2).f3.f1)) ∧ w'.cell? ⟨(ad665.add ((x11_2).toNat * 9)).block, (ad665.add ((x11_2).toNat * 9)).off + 5, none⟩ = some (.int .i64 ((rd_T44 t660 x11_2).f3.f2.f0)) ∧ w'.cell? ⟨(ad665.add ((x11_2).toNat * 9)).block, (ad665.add ((x11_2).toNat * 9)).off + 6, none⟩ = some (.int .u64 ((rd_T44 t660 x11_2).f3.f2.f1)) ∧ w'.cell? ⟨(ad665.add ((x11_2).toNat * 9)).block, (ad665.add ((x11_2).toNat * 9)).off + 7, none⟩ = some (.int .i64 ((rd_T44 t660 x11_2).f3.f3)) ∧ w'.cell? ⟨(ad665.add ((x11_2).toNat * 9)).block, (ad665.add ((x11_2).toNat * 9)).off + 8, none⟩ = some (.int .i64 ((rd_T44 t660 x11_2).f3.f4))) ∧ (Kd.R Kd.string 9 w' w.heap.size (fun k_ => some k_ ≠ (s_.1 : Value).ownBlock ∧ some k_ ≠ (.slice (some ad665) t660.length co83 : Value).ownBlock) (.slice A665_0 ((rd_T44 t660 x11_2).f0).length c665_0) ((rd_T44 t660 x11_2).f0)) ∧ (Kd.R Kd.string 9 w' w.heap.size (fun k_ => some k_ ≠ (s_.1 : Value).ownBlock ∧ some k_ ≠ (.slice (some ad665) t660.length co83 : Value).ownBlock) (.slice A665_0 ((rd_T44 t660 x11_2).f0).length c665_0) ((rd_T44 t660 x11_2).f0)) ∧ (Kd.R Kd.string 9 w' w.heap.size (fun k_ => some k_ ≠ (.slice A665_0 ((rd_T44 t660 x11_2).f0).length c665_0 : Value).ownBlock ∧ some k_ ≠ (.slice A665_0 ((rd_T44 t660 x11_2).f0).length c665_0 : Value).ownBlock) s_.1 t667) ∧ (Kd.R k44 44 w' w.heap.size (fun k_ => some k_ ≠ (s_.1 : Value).ownBlock ∧ k_ ≠ s_.2) (.slice (some ad665) t660.length co83) t660) ∧ (w'.heap[gb655]? = some (.cells #[.slice A0_0 l0_0.length c0_0, .int .i64 a0_1] 24 (0, 0))) ∧ (w'.heap[gb656]? = some (.cells #[.slice A3_0 l3_0.length c3_0, .int .i64 a3_1, .int .i64 a3_2, .int .i64 a3_3, .int .i64 a3_4] 28 (0, 0))) ∧ (w'.heap[s_.2]? = some (.cells #[.slice none 0 0, .int .i64 0, .int .i64 0, .int .u64 0, .bool false, .int .i64 0, .int .u64 0, .int .i64 0, .int .i64 0] 44 (0, 0))) ∧ (w.heap.size ≤ s_.2) ∧ (w.heap.size ≤ s_.2) ∧ (gb655 ≠ s_.2) ∧ (s_.2 ≠ gb655) ∧ (gb656 ≠ s_.2) ∧ (s_.2 ≠ gb656) ∧ (Below w.heap.size w w')) ?_ ?_
            rotate_left
            ·intro hCont
             refine two_ (i := 13) (j := 18) (Ni := some 57) (Nj := some 12) #[true, true, true, true, true, true, true, true, true, true, true, true, true, true, false, false, false, false, false, false, false, false] #[true, true, true, true, true, true, true, true, true, true, true, true, true, false, false, false, false, false, true, false, false, false] rfl rfl rfl rfl (two_of HT_.out (by kernel_rfl)) (by decide) (by decide) (fun K hK => ?_) (fun K hK => ?_)
             ·skip
              refine goes_ Try.func17 (by kernel_rfl) rfl #[.agg #[.slice A0_0 l0_0.length c0_0, .int .i64 a0_1], .int .i64 a1, .slice A2 l2.length c2, .slice A665_0 ((rd_T44 t660 x11_2).f0).length c665_0, .int .i64 ((rd_T44 t660 x11_2).f1)] (by rfl) rfl rfl argA ?_
              with_reducible refine (ask_Get.calls k2 _ _ l0_0 a0_1 a1 _ _ l2 _ _ ((rd_T44 t660 x11_2).f0) ((rd_T44 t660 x11_2).f1) t667 t670 t671 t672 t673 t674 t675 t676 t677 true t679 _ ?side1 ?side2 ?side3 ?side4 ?side5 ?side6 A24.out).mono ?_
              (case side1 => exact cb1 HR0_0 HB)
              (case side2 => exact HC0_0.out)
              (case side3 => exact cb1 HR2 HB)
              (case side4 => exact HC2.out)
              (case side5 => exact cc1 (celA HR665_0.out))
              (case side6 => exact HC665_0.out)
              rintro e w85 ⟨v668, rfl, ho0, hb⟩
              have HS2_ := hcel hb hHeld.2.2.1
              have HS3_ := hcel hb hHeld.2.2.2.1
              have HS4_ := hcel hb hHeld.2.2.2.2.1
              have HS5_ := hcel hb hHeld.2.2.2.2.2.1
              have HS6_ := hcel hb hHeld.2.2.2.2.2.2.1
              have HS7_ := hcel hb hHeld.2.2.2.2.2.2.2.1
              have HS8_ := hcel hb hHeld.2.2.2.2.2.2.2.2.1
              have HS9_ := hcel hb hHeld.2.2.2.2.2.2.2.2.2.1
              have HS10_ := hcel hb hHeld.2.2.2.2.2.2.2.2.2.2.1
              have HS11_ := hcel hb hHeld.2.2.2.2.2.2.2.2.2.2.2.1
              have HS12_ := hcel hb hHeld.2.2.2.2.2.2.2.2.2.2.2.2.1
              have HS13_ := hcel hb hHeld.2.2.2.2.2.2.2.2.2.2.2.2.2.1
              have HS14_ := hcel hb hHeld.2.2.2.2.2.2.2.2.2.2.2.2.2.2.1
              have HS15_ := hcel hb hHeld.2.2.2.2.2.2.2.2.2.2.2.2.2.2.2.1
              have HS16_ := hcel hb hHeld.2.2.2.2.2.2.2.2.2.2.2.2.2.2.2.2.1
              have HS17_ := hcel hb hHeld.2.2.2.2.2.2.2.2.2.2.2.2.2.2.2.2.2.1
              have HS18_ := hcel hb hHeld.2.2.2.2.2.2.2.2.2.2.2.2.2.2.2.2.2.2.1
              have HS19_ := hcel hb hHeld.2.2.2.2.2.2.2.2.2.2.2.2.2.2.2.2.2.2.2
              refine ⟨_, rfl, ?_⟩
              have HO669 := Aside0.mk (Kd.R_lower (Kd.R_new' (Kd.R_new' ho0 (Kd.R_lt (rowA HL665_0.out))) (Kd.R_lt (rowA HL666_0.out))) (below_size (belC HB.out GE655.out GE656.out)))
              replace HO_9 := Aside0.mk (Kd.R_elder' (rowA HO_9.out) (Kd.R_base ho0) hb)
              replace HL665_0 := Aside0.mk (Kd.R_elder' (rowA HL665_0.out) (Kd.R_base ho0) hb)
              replace HL666_0 := Aside0.mk (Kd.R_elder' (rowA HL666_0.out) (Kd.R_base ho0) hb)
              replace BK655 := blkB BK655 hb
              replace BK656 := blkB BK656 hb
              replace HR665_0 := Aside0.mk (Kd.C_below (celA HR665_0.out) hb)
              replace HR666_0 := Aside0.mk (Kd.C_below (celA HR666_0.out) hb)
              replace HB := bs3 HB GE655 GE656 hb
              (try clear hb)
              (try clear ho0)
              refine hK.out _ _ ⟨(blk_cell BK655.out 0).trans rfl, (blk_cell BK655.out 1).trans rfl, HS2_, HS3_, HS4_, HS5_, HS6_, HS7_, HS8_, HS9_, HS10_, HS11_, HS12_, HS13_, HS14_, HS15_, HS16_, HS17_, HS18_, HS19_⟩ (fun hHeld => ?_)
              clear hK K
              refine norm_ (a' := ?_) ?_ ?_
              rotate_left
              ·show Act.put _ (some 57) _ = _
               simp only [Act.put, List.setIfInBounds_toArray, List.set_cons_zero, List.set_cons_succ, i64_w, i32_w]
               rfl
              refine pureD 14 43 HT_ ?_
              refine pureD 15 58 HT_ ?_
              refine pureD 16 59 HT_ ?_
              refine pureD 17 60 HT_ ?_
              refine one_ (i := 18) (N := some 12) #[true, true, true, true, true, true, true, true, true, true, true, true, true, true, true, true, true, true, true, false, false, false] rfl rfl (one_of HT_.out (by kernel_rfl)) (by decide) (fun K hK => ?_)
              refine box_step ?hg (N := 12) ?hd (cs := #[.slice none 0 0, .int .i64 0, .int .i64 0, .int .u64 0, .bool false, .int .i64 0, .int .u64 0, .int .i64 0, .int .i64 0]) (t := 44) ?hr ?_; (case hd => rfl); (case hg => rfl); (case hr => first | (go_simp; done) | (go_simp; rfl))
              intro gb680 hg w86 hbox hb
              have HS2_ := hcel hb hHeld.2.2.1
              have HS3_ := hcel hb hHeld.2.2.2.1
              have HS4_ := hcel hb hHeld.2.2.2.2.1
              have HS5_ := hcel hb hHeld.2.2.2.2.2.1
              have HS6_ := hcel hb hHeld.2.2.2.2.2.2.1
              have HS7_ := hcel hb hHeld.2.2.2.2.2.2.2.1
              have HS8_ := hcel hb hHeld.2.2.2.2.2.2.2.2.1
              have HS9_ := hcel hb hHeld.2.2.2.2.2.2.2.2.2.1
              have HS10_ := hcel hb hHeld.2.2.2.2.2.2.2.2.2.2.1
              have HS11_ := hcel hb hHeld.2.2.2.2.2.2.2.2.2.2.2.1
              have HS12_ := hcel hb hHeld.2.2.2.2.2.2.2.2.2.2.2.2.1
              have HS13_ := hcel hb hHeld.2.2.2.2.2.2.2.2.2.2.2.2.2.1
              have HS14_ := hcel hb hHeld.2.2.2.2.2.2.2.2.2.2.2.2.2.2.1
              have HS15_ := hcel hb hHeld.2.2.2.2.2.2.2.2.2.2.2.2.2.2.2.1
              have HS16_ := hcel hb hHeld.2.2.2.2.2.2.2.2.2.2.2.2.2.2.2.2.1
              have HS17_ := hcel hb hHeld.2.2.2.2.2.2.2.2.2.2.2.2.2.2.2.2.2.1
              have HS18_ := hcel hb hHeld.2.2.2.2.2.2.2.2.2.2.2.2.2.2.2.2.2.2.1
              have HS19_ := hcel hb hHeld.2.2.2.2.2.2.2.2.2.2.2.2.2.2.2.2.2.2.2
              have BK680 := Aside0.mk (hbox)
              have GW680 := ge1 hg (belC HB.out GE655.out GE656.out)
              have GE680 := GW680
              have NB655_680 := neL hg BK655
              have NB680_655 := neR hg BK655
              have NB656_680 := neL hg BK656
              have NB680_656 := neR hg BK656
              replace HO_9 := Aside0.mk (Kd.R_below (Kd.R_elderB (rowA HO_9.out) gb680 (Nat.le_of_eq hg.symm)) hb)
              replace HL665_0 := Aside0.mk (Kd.R_below (rowA HL665_0.out) hb)
              replace HL666_0 := Aside0.mk (Kd.R_below (rowA HL666_0.out) hb)
              replace HO669 := Aside0.mk (Kd.R_below (rowA HO669.out) hb)
              replace BK655 := blkB BK655 hb
              replace BK656 := blkB BK656 hb
              replace HR665_0 := Aside0.mk (Kd.C_below (celA HR665_0.out) hb)
              replace HR666_0 := Aside0.mk (Kd.C_below (celA HR666_0.out) hb)
              replace HB := bs3 HB GE655 GE656 hb
              clear hb hbox hg
              refine hK.out _ _ ⟨(blk_cell BK655.out 0).trans rfl, (blk_cell BK655.out 1).trans rfl, HS2_, HS3_, HS4_, HS5_, HS6_, HS7_, HS8_, HS9_, HS10_, HS11_, HS12_, HS13_, HS14_, HS15_, HS16_, HS17_, HS18_, HS19_⟩ (fun hHeld => ?_)
              clear hK K
              refine norm_ (a' := ?_) ?_ ?_
              rotate_left
              ·show Act.put _ (some 12) _ = _
               simp only [Act.put, List.setIfInBounds_toArray, List.set_cons_zero, List.set_cons_succ, i64_w, i32_w]
               rfl
              exact norm_ (by simp only [putAll, Act.put, List.setIfInBounds_toArray, List.set_cons_zero, List.set_cons_succ]) (hCont (v668, gb680) _ ⟨hHeld, (by (with_reducible repeat (first | apply Kd.R_alloc | apply Kd.R_drewN | apply Kd.R_drew)); exact Kd.R_mono HL665_0.out (fun _ hk => ⟨hk.2, hk.1.2⟩)), (by (with_reducible repeat (first | apply Kd.R_alloc | apply Kd.R_drewN | apply Kd.R_drew)); exact Kd.R_mono HL666_0.out (fun _ hk => ⟨hk.2, hk.1.2⟩)), (by (with_reducible repeat (first | apply Kd.R_alloc | apply Kd.R_drewN | apply Kd.R_drew)); exact Kd.R_mono HO669.out (fun _ hk => ⟨hk.1.2, hk.2⟩)), (by (with_reducible repeat (first | apply Kd.R_alloc | apply Kd.R_drewN | apply Kd.R_drew)); exact Kd.R_mono HO_9.out (fun _ hk => ⟨hk.1.2, hk.2⟩)), (blkA BK655.out), (blkA BK656.out), (blkA BK680.out), GW680.out, GE680.out, NB655_680.out, NB680_655.out, NB656_680.out, NB680_656.out, (belD HB.out GE655.out GE656.out GE680.out)⟩)
             ·skip
              refine box_step ?hg (N := 12) ?hd (cs := #[.slice none 0 0, .int .i64 0, .int .i64 0, .int .u64 0, .bool false, .int .i64 0, .int .u64 0, .int .i64 0, .int .i64 0]) (t := 44) ?hr ?_; (case hd => rfl); (case hg => rfl); (case hr => first | (go_simp; done) | (go_simp; rfl))
              intro gb680 hg w85 hbox hb
              have HS2_ := hcel hb hHeld.2.2.1
              have HS3_ := hcel hb hHeld.2.2.2.1
              have HS4_ := hcel hb hHeld.2.2.2.2.1
              have HS5_ := hcel hb hHeld.2.2.2.2.2.1
              have HS6_ := hcel hb hHeld.2.2.2.2.2.2.1
              have HS7_ := hcel hb hHeld.2.2.2.2.2.2.2.1
              have HS8_ := hcel hb hHeld.2.2.2.2.2.2.2.2.1
              have HS9_ := hcel hb hHeld.2.2.2.2.2.2.2.2.2.1
              have HS10_ := hcel hb hHeld.2.2.2.2.2.2.2.2.2.2.1
              have HS11_ := hcel hb hHeld.2.2.2.2.2.2.2.2.2.2.2.1
              have HS12_ := hcel hb hHeld.2.2.2.2.2.2.2.2.2.2.2.2.1
              have HS13_ := hcel hb hHeld.2.2.2.2.2.2.2.2.2.2.2.2.2.1
              have HS14_ := hcel hb hHeld.2.2.2.2.2.2.2.2.2.2.2.2.2.2.1
              have HS15_ := hcel hb hHeld.2.2.2.2.2.2.2.2.2.2.2.2.2.2.2.1
              have HS16_ := hcel hb hHeld.2.2.2.2.2.2.2.2.2.2.2.2.2.2.2.2.1
              have HS17_ := hcel hb hHeld.2.2.2.2.2.2.2.2.2.2.2.2.2.2.2.2.2.1
              have HS18_ := hcel hb hHeld.2.2.2.2.2.2.2.2.2.2.2.2.2.2.2.2.2.2.1
              have HS19_ := hcel hb hHeld.2.2.2.2.2.2.2.2.2.2.2.2.2.2.2.2.2.2.2
              have BK680 := Aside0.mk (hbox)
              have GW680 := ge1 hg (belC HB.out GE655.out GE656.out)
              have GE680 := GW680
              have NB655_680 := neL hg BK655
              have NB680_655 := neR hg BK655
              have NB656_680 := neL hg BK656
              have NB680_656 := neR hg BK656
              replace HO_9 := Aside0.mk (Kd.R_below (Kd.R_elderB (rowA HO_9.out) gb680 (Nat.le_of_eq hg.symm)) hb)
              replace HL665_0 := Aside0.mk (Kd.R_below (rowA HL665_0.out) hb)
              replace HL666_0 := Aside0.mk (Kd.R_below (rowA HL666_0.out) hb)
              replace BK655 := blkB BK655 hb
              replace BK656 := blkB BK656 hb
              replace HR665_0 := Aside0.mk (Kd.C_below (celA HR665_0.out) hb)
              replace HR666_0 := Aside0.mk (Kd.C_below (celA HR666_0.out) hb)
              replace HB := bs3 HB GE655 GE656 hb
              clear hb hbox hg
              refine hK.out _ _ ⟨(blk_cell BK655.out 0).trans rfl, (blk_cell BK655.out 1).trans rfl, HS2_, HS3_, HS4_, HS5_, HS6_, HS7_, HS8_, HS9_, HS10_, HS11_, HS12_, HS13_, HS14_, HS15_, HS16_, HS17_, HS18_, HS19_⟩ (fun hHeld => ?_)
              clear hK K
              refine norm_ (a' := ?_) ?_ ?_
              rotate_left
              ·show Act.put _ (some 12) _ = _
               simp only [Act.put, List.setIfInBounds_toArray, List.set_cons_zero, List.set_cons_succ, i64_w, i32_w]
               rfl
              refine one_ (i := 13) (N := some 57) #[true, true, true, true, true, true, true, true, true, true, true, true, true, true, false, false, false, false, true, false, false, false] rfl rfl (one_of HT_.out (by kernel_rfl)) (by decide) (fun K hK => ?_)
              refine goes_ Try.func17 (by kernel_rfl) rfl #[.agg #[.slice A0_0 l0_0.length c0_0, .int .i64 a0_1], .int .i64 a1, .slice A2 l2.length c2, .slice A665_0 ((rd_T44 t660 x11_2).f0).length c665_0, .int .i64 ((rd_T44 t660 x11_2).f1)] (by rfl) rfl rfl argA ?_
              with_reducible refine (ask_Get.calls k2 _ _ l0_0 a0_1 a1 _ _ l2 _ _ ((rd_T44 t660 x11_2).f0) ((rd_T44 t660 x11_2).f1) t667 t670 t671 t672 t673 t674 t675 t676 t677 true t679 _ ?side1 ?side2 ?side3 ?side4 ?side5 ?side6 A24.out).mono ?_
              (case side1 => exact cb1 HR0_0 HB)
              (case side2 => exact HC0_0.out)
              (case side3 => exact cb1 HR2 HB)
              (case side4 => exact HC2.out)
              (case side5 => exact cc1 (celA HR665_0.out))
              (case side6 => exact HC665_0.out)
              rintro e w86 ⟨v668, rfl, ho0, hb⟩
              have HS2_ := hcel hb hHeld.2.2.1
              have HS3_ := hcel hb hHeld.2.2.2.1
              have HS4_ := hcel hb hHeld.2.2.2.2.1
              have HS5_ := hcel hb hHeld.2.2.2.2.2.1
              have HS6_ := hcel hb hHeld.2.2.2.2.2.2.1
              have HS7_ := hcel hb hHeld.2.2.2.2.2.2.2.1
              have HS8_ := hcel hb hHeld.2.2.2.2.2.2.2.2.1
              have HS9_ := hcel hb hHeld.2.2.2.2.2.2.2.2.2.1
              have HS10_ := hcel hb hHeld.2.2.2.2.2.2.2.2.2.2.1
              have HS11_ := hcel hb hHeld.2.2.2.2.2.2.2.2.2.2.2.1
              have HS12_ := hcel hb hHeld.2.2.2.2.2.2.2.2.2.2.2.2.1
              have HS13_ := hcel hb hHeld.2.2.2.2.2.2.2.2.2.2.2.2.2.1
              have HS14_ := hcel hb hHeld.2.2.2.2.2.2.2.2.2.2.2.2.2.2.1
              have HS15_ := hcel hb hHeld.2.2.2.2.2.2.2.2.2.2.2.2.2.2.2.1
              have HS16_ := hcel hb hHeld.2.2.2.2.2.2.2.2.2.2.2.2.2.2.2.2.1
              have HS17_ := hcel hb hHeld.2.2.2.2.2.2.2.2.2.2.2.2.2.2.2.2.2.1
              have HS18_ := hcel hb hHeld.2.2.2.2.2.2.2.2.2.2.2.2.2.2.2.2.2.2.1
              have HS19_ := hcel hb hHeld.2.2.2.2.2.2.2.2.2.2.2.2.2.2.2.2.2.2.2
              refine ⟨_, rfl, ?_⟩
              have HO669 := Aside0.mk (Kd.R_lower (Kd.R_new' (Kd.R_new' ho0 (Kd.R_lt (rowA HL665_0.out))) (Kd.R_lt (rowA HL666_0.out))) (below_size (belD HB.out GE655.out GE656.out GE680.out)))
              replace HO_9 := Aside0.mk (Kd.R_elder' (rowA HO_9.out) (Kd.R_base ho0) hb)
              replace HL665_0 := Aside0.mk (Kd.R_elder' (rowA HL665_0.out) (Kd.R_base ho0) hb)
              replace HL666_0 := Aside0.mk (Kd.R_elder' (rowA HL666_0.out) (Kd.R_base ho0) hb)
              replace BK655 := blkB BK655 hb
              replace BK656 := blkB BK656 hb
              replace HR665_0 := Aside0.mk (Kd.C_below (celA HR665_0.out) hb)
              replace HR666_0 := Aside0.mk (Kd.C_below (celA HR666_0.out) hb)
              replace BK680 := blkB BK680 hb
              replace HB := Aside0.mk (below_step (belD HB.out GE655.out GE656.out GE680.out) hb)
              (try clear hb)
              (try clear ho0)
              refine hK.out _ _ ⟨(blk_cell BK655.out 0).trans rfl, (blk_cell BK655.out 1).trans rfl, HS2_, HS3_, HS4_, HS5_, HS6_, HS7_, HS8_, HS9_, HS10_, HS11_, HS12_, HS13_, HS14_, HS15_, HS16_, HS17_, HS18_, HS19_⟩ (fun hHeld => ?_)
              clear hK K
              refine norm_ (a' := ?_) ?_ ?_
              rotate_left
              ·show Act.put _ (some 57) _ = _
               simp only [Act.put, List.setIfInBounds_toArray, List.set_cons_zero, List.set_cons_succ, i64_w, i32_w]
               rfl
              refine pureD 14 43 HT_ ?_
              refine pureD 15 58 HT_ ?_
              refine pureD 16 59 HT_ ?_
              refine pureD 17 60 HT_ ?_
              exact norm_ (by simp only [putAll, Act.put, List.setIfInBounds_toArray, List.set_cons_zero, List.set_cons_succ]) (hCont (v668, gb680) _ ⟨hHeld, (by (with_reducible repeat (first | apply Kd.R_alloc | apply Kd.R_drewN | apply Kd.R_drew)); exact Kd.R_mono HL665_0.out (fun _ hk => ⟨hk.2, hk.1.2⟩)), (by (with_reducible repeat (first | apply Kd.R_alloc | apply Kd.R_drewN | apply Kd.R_drew)); exact Kd.R_mono HL666_0.out (fun _ hk => ⟨hk.2, hk.1.2⟩)), (by (with_reducible repeat (first | apply Kd.R_alloc | apply Kd.R_drewN | apply Kd.R_drew)); exact Kd.R_mono HO669.out (fun _ hk => ⟨hk.1.2, hk.2⟩)), (by (with_reducible repeat (first | apply Kd.R_alloc | apply Kd.R_drewN | apply Kd.R_drew)); exact Kd.R_mono HO_9.out (fun _ hk => ⟨hk.2, hk.1.2⟩)), (blkA BK655.out), (blkA BK656.out), (blkA BK680.out), GW680.out, GE680.out, NB655_680.out, NB680_655.out, NB656_680.out, NB680_656.out, (belD HB.out GE655.out GE656.out GE680.out)⟩)
            rintro ⟨v668, gb680⟩ w87 ⟨hS_, h0_, h1_, h2_, h3_, h4_, h5_, h6_, h7_, h8_, h9_, h10_, h11_, h12_, h13_⟩
            have n0_ : Aside0 (Kd.R Kd.string 9 w87 w.heap.size (fun k_ => some k_ ≠ (v668 : Value).ownBlock ∧ some k_ ≠ (.slice (some ad665) t660.length co83 : Value).ownBlock) (.slice A665_0 ((rd_T44 t660 x11_2).f0).length c665_0) ((rd_T44 t660 x11_2).f0)) := ⟨h0_⟩
            have n1_ : Aside0 (Kd.R Kd.string 9 w87 w.heap.size (fun k_ => some k_ ≠ (v668 : Value).ownBlock ∧ some k_ ≠ (.slice (some ad665) t660.length co83 : Value).ownBlock) (.slice A665_0 ((rd_T44 t660 x11_2).f0).length c665_0) ((rd_T44 t660 x11_2).f0)) := ⟨h1_⟩
            have n2_ : Aside0 (Kd.R Kd.string 9 w87 w.heap.size (fun k_ => some k_ ≠ (.slice A665_0 ((rd_T44 t660 x11_2).f0).length c665_0 : Value).ownBlock ∧ some k_ ≠ (.slice A665_0 ((rd_T44 t660 x11_2).f0).length c665_0 : Value).ownBlock) v668 t667) := ⟨h2_⟩
            have n3_ : Aside0 (Kd.R k44 44 w87 w.heap.size (fun k_ => some k_ ≠ (v668 : Value).ownBlock ∧ k_ ≠ gb680) (.slice (some ad665) t660.length co83) t660) := ⟨h3_⟩
            have n4_ : Aside0 (w87.heap[gb655]? = some (.cells #[.slice A0_0 l0_0.length c0_0, .int .i64 a0_1] 24 (0, 0))) := ⟨h4_⟩
            have n5_ : Aside0 (w87.heap[gb656]? = some (.cells #[.slice A3_0 l3_0.length c3_0, .int .i64 a3_1, .int .i64 a3_2, .int .i64 a3_3, .int .i64 a3_4] 28 (0, 0))) := ⟨h5_⟩
            have n6_ : Aside0 (w87.heap[gb680]? = some (.cells #[.slice none 0 0, .int .i64 0, .int .i64 0, .int .u64 0, .bool false, .int .i64 0, .int .u64 0, .int .i64 0, .int .i64 0] 44 (0, 0))) := ⟨h6_⟩
            have n7_ : Aside0 (w.heap.size ≤ gb680) := ⟨h7_⟩
            have n8_ : Aside0 (w.heap.size ≤ gb680) := ⟨h8_⟩
            have n9_ : Aside0 (gb655 ≠ gb680) := ⟨h9_⟩
            have n10_ : Aside0 (gb680 ≠ gb655) := ⟨h10_⟩
            have n11_ : Aside0 (gb656 ≠ gb680) := ⟨h11_⟩
            have n12_ : Aside0 (gb680 ≠ gb656) := ⟨h12_⟩
            have n13_ : Aside0 (Below w.heap.size w w87) := ⟨h13_⟩
            clear HO_9
            clear BK655
            clear BK656
            clear HB
            clear h0_ h1_ h2_ h3_ h4_ h5_ h6_ h7_ h8_ h9_ h10_ h11_ h12_ h13_
            have HL665_0 := n0_
            have HL666_0 := n1_
            have HO669 := n2_
            have HO_9 := n3_
            have BK655 := n4_
            have BK656 := n5_
            have BK680 := n6_
            have GW680 := n7_
            have GE680 := n8_
            have NB655_680 := n9_
            have NB680_655 := n10_
            have NB656_680 := n11_
            have NB680_656 := n12_
            have HB := n13_
            clear n0_ n1_ n2_ n3_ n4_ n5_ n6_ n7_ n8_ n9_ n10_ n11_ n12_ n13_
            have hHeld : w87.cell? ⟨gb655, 0, none⟩ = some (.slice A0_0 l0_0.length c0_0) ∧ w87.cell? ⟨gb655, 1, none⟩ = some (.int .i64 a0_1) ∧ w87.cell? (ad665.add ((x11_2).toNat * 9)) = some (.slice A665_0 ((rd_T44 t660 x11_2).f0).length c665_0) ∧ w87.cell? ⟨(ad665.add ((x11_2).toNat * 9)).block, (ad665.add ((x11_2).toNat * 9)).off + 1, none⟩ = some (.int .i64 ((rd_T44 t660 x11_2).f1)) ∧ w87.cell? ⟨(ad665.add ((x11_2).toNat * 9)).block, (ad665.add ((x11_2).toNat * 9)).off + 2, none⟩ = some (.int .i64 ((rd_T44 t660 x11_2).f2)) ∧ w87.cell? ⟨(ad665.add ((x11_2).toNat * 9)).block, (ad665.add ((x11_2).toNat * 9)).off + 3, none⟩ = some (.int .u64 ((rd_T44 t660 x11_2).f3.f0)) ∧ w87.cell? ⟨(ad665.add ((x11_2).toNat * 9)).block, (ad665.add ((x11_2).toNat * 9)).off + 4, none⟩ = some (.bool ((rd_T44 t660 x11_2).f3.f1)) ∧ w87.cell? ⟨(ad665.add ((x11_2).toNat * 9)).block, (ad665.add ((x11_2).toNat * 9)).off + 5, none⟩ = some (.int .i64 ((rd_T44 t660 x11_2).f3.f2.f0)) ∧ w87.cell? ⟨(ad665.add ((x11_2).toNat * 9)).block, (ad665.add ((x11_2).toNat * 9)).off + 6, none⟩ = some (.int .u64 ((rd_T44 t660 x11_2).f3.f2.f1)) ∧ w87.cell? ⟨(ad665.add ((x11_2).toNat * 9)).block, (ad665.add ((x11_2).toNat * 9)).off + 7, none⟩ = some (.int .i64 ((rd_T44 t660 x11_2).f3.f3)) ∧ w87.cell? ⟨(ad665.add ((x11_2).toNat * 9)).block, (ad665.add ((x11_2).toNat * 9)).off + 8, none⟩ = some (.int .i64 ((rd_T44 t660 x11_2).f3.f4)) ∧ w87.cell? (ad665.add ((x11_2).toNat * 9)) = some (.slice A665_0 ((rd_T44 t660 x11_2).f0).length c665_0) ∧ w87.cell? ⟨(ad665.add ((x11_2).toNat * 9)).block, (ad665.add ((x11_2).toNat * 9)).off + 1, none⟩ = some (.int .i64 ((rd_T44 t660 x11_2).f1)) ∧ w87.cell? ⟨(ad665.add ((x11_2).toNat * 9)).block, (ad665.add ((x11_2).toNat * 9)).off + 2, none⟩ = some (.int .i64 ((rd_T44 t660 x11_2).f2)) ∧ w87.cell? ⟨(ad665.add ((x11_2).toNat * 9)).block, (ad665.add ((x11_2).toNat * 9)).off + 3, none⟩ = some (.int .u64 ((rd_T44 t660 x11_2).f3.f0)) ∧ w87.cell? ⟨(ad665.add ((x11_2).toNat * 9)).block, (ad665.add ((x11_2).toNat * 9)).off + 4, none⟩ = some (.bool ((rd_T44 t660 x11_2).f3.f1)) ∧ w87.cell? ⟨(ad665.add ((x11_2).toNat * 9)).block, (ad665.add ((x11_2).toNat * 9)).off + 5, none⟩ = some (.int .i64 ((rd_T44 t660 x11_2).f3.f2.f0)) ∧ w87.cell? ⟨(ad665.add ((x11_2).toNat * 9)).block, (ad665.add ((x11_2).toNat * 9)).off + 6, none⟩ = some (.int .u64 ((rd_T44 t660 x11_2).f3.f2.f1)) ∧ w87.cell? ⟨(ad665.add ((x11_2).toNat * 9)).block, (ad665.add ((x11_2).toNat * 9)).off + 7, none⟩ = some (.int .i64 ((rd_T44 t660 x11_2).f3.f3)) ∧ w87.cell? ⟨(ad665.add ((x11_2).toNat * 9)).block, (ad665.add ((x11_2).toNat * 9)).off + 8, none⟩ = some (.int .i64 ((rd_T44 t660 x11_2).f3.f4)) := hS_
            obtain ⟨Ao88, co88, eo88⟩ := Kd.R_slice HO669.out
            (first | subst eo88 | (injection eo88 with f1_ f2_ f3_; have f4_ := f1_.symm; have f5_ := f3_.symm; clear f1_ f2_ f3_; subst f4_; subst f5_))
            refine norm_ (a' := ?_) ?_ ?_
            rotate_left
            ·simp only [putAll, Act.put, List.setIfInBounds_toArray, List.set_cons_zero, List.set_cons_succ]
             rfl
            refine one_ (i := 19) (N := none) #[true, true, true, true, true, true, true, true, true, true, true, true, true, true, true, true, true, true, true, true, false, false] rfl rfl (one_of HT_.out (by kernel_rfl)) (by decide) (fun K hK => ?_)
            have hs89 : w87.cell? ⟨gb680, 0, none⟩ = some (.slice none 0 0) := (blk_cell BK680.out 0).trans rfl
            have hfs89 := blk_frozen BK680.out 0
            have hns89_0 := NB655_680.out
            have hns89_1 := NB656_680.out
            have hms89_0 := NB680_655.out
            have hms89_1 := NB680_656.out
            have hs90 : w87.cell? ⟨gb680, 1, none⟩ = some (.int .i64 0) := (blk_cell BK680.out 1).trans rfl
            have hfs90 := blk_frozen BK680.out 1
            have hns90_0 := NB655_680.out
            have hns90_1 := NB656_680.out
            have hms90_0 := NB680_655.out
            have hms90_1 := NB680_656.out
            have hs91 : w87.cell? ⟨gb680, 2, none⟩ = some (.int .i64 0) := (blk_cell BK680.out 2).trans rfl
            have hfs91 := blk_frozen BK680.out 2
            have hns91_0 := NB655_680.out
            have hns91_1 := NB656_680.out
            have hms91_0 := NB680_655.out
            have hms91_1 := NB680_656.out
            have hs92 : w87.cell? ⟨gb680, 3, none⟩ = some (.int .u64 0) := (blk_cell BK680.out 3).trans rfl
            have hfs92 := blk_frozen BK680.out 3
            have hns92_0 := NB655_680.out
            have hns92_1 := NB656_680.out
            have hms92_0 := NB680_655.out
            have hms92_1 := NB680_656.out
            have hs93 : w87.cell? ⟨gb680, 4, none⟩ = some (.bool false) := (blk_cell BK680.out 4).trans rfl
            have hfs93 := blk_frozen BK680.out 4
            have hns93_0 := NB655_680.out
            have hns93_1 := NB656_680.out
            have hms93_0 := NB680_655.out
            have hms93_1 := NB680_656.out
            have hs94 : w87.cell? ⟨gb680, 5, none⟩ = some (.int .i64 0) := (blk_cell BK680.out 5).trans rfl
            have hfs94 := blk_frozen BK680.out 5
            have hns94_0 := NB655_680.out
            have hns94_1 := NB656_680.out
            have hms94_0 := NB680_655.out
            have hms94_1 := NB680_656.out
            have hs95 : w87.cell? ⟨gb680, 6, none⟩ = some (.int .u64 0) := (blk_cell BK680.out 6).trans rfl
            have hfs95 := blk_frozen BK680.out 6
            have hns95_0 := NB655_680.out
            have hns95_1 := NB656_680.out
            have hms95_0 := NB680_655.out
            have hms95_1 := NB680_656.out
            have hs96 : w87.cell? ⟨gb680, 7, none⟩ = some (.int .i64 0) := (blk_cell BK680.out 7).trans rfl
            have hfs96 := blk_frozen BK680.out 7
            have hns96_0 := NB655_680.out
            have hns96_1 := NB656_680.out
            have hms96_0 := NB680_655.out
            have hms96_1 := NB680_656.out
            have hs97 : w87.cell? ⟨gb680, 8, none⟩ = some (.int .i64 0) := (blk_cell BK680.out 8).trans rfl
            have hfs97 := blk_frozen BK680.out 8
            have hns97_0 := NB655_680.out
            have hns97_1 := NB656_680.out
            have hms97_0 := NB680_655.out
            have hms97_1 := NB680_656.out
            refine skip_ (w1 := ?_) (by rfl) rfl ?_ ?_
            rotate_left
            ·go_simp
             rfl
            have hq_gb680 : ad665.block ≠ gb680 := Kd.own_blk (Kd.R_away HO_9.out (fun _ hk => hk.2))
            refine hK.out _ _ ⟨(cfar9 NB655_680.out hHeld.1), (cfar9 NB655_680.out hHeld.2.1), (cfar9 (qA hq_gb680) hHeld.2.2.1), (cfar9 (qA hq_gb680) hHeld.2.2.2.1), (cfar9 (qA hq_gb680) hHeld.2.2.2.2.1), (cfar9 (qA hq_gb680) hHeld.2.2.2.2.2.1), (cfar9 (qA hq_gb680) hHeld.2.2.2.2.2.2.1), (cfar9 (qA hq_gb680) hHeld.2.2.2.2.2.2.2.1), (cfar9 (qA hq_gb680) hHeld.2.2.2.2.2.2.2.2.1), (cfar9 (qA hq_gb680) hHeld.2.2.2.2.2.2.2.2.2.1), (cfar9 (qA hq_gb680) hHeld.2.2.2.2.2.2.2.2.2.2.1), (cfar9 (qA hq_gb680) hHeld.2.2.2.2.2.2.2.2.2.2.2.1), (cfar9 (qA hq_gb680) hHeld.2.2.2.2.2.2.2.2.2.2.2.2.1), (cfar9 (qA hq_gb680) hHeld.2.2.2.2.2.2.2.2.2.2.2.2.2.1), (cfar9 (qA hq_gb680) hHeld.2.2.2.2.2.2.2.2.2.2.2.2.2.2.1), (cfar9 (qA hq_gb680) hHeld.2.2.2.2.2.2.2.2.2.2.2.2.2.2.2.1), (cfar9 (qA hq_gb680) hHeld.2.2.2.2.2.2.2.2.2.2.2.2.2.2.2.2.1), (cfar9 (qA hq_gb680) hHeld.2.2.2.2.2.2.2.2.2.2.2.2.2.2.2.2.2.1), (cfar9 (qA hq_gb680) hHeld.2.2.2.2.2.2.2.2.2.2.2.2.2.2.2.2.2.2.1), (cfar9 (qA hq_gb680) hHeld.2.2.2.2.2.2.2.2.2.2.2.2.2.2.2.2.2.2.2)⟩ (fun hHeld => ?_)
            clear hK K
            refine pureD 20 13 HT_ ?_
            refine pureD 21 14 HT_ ?_
            refine done_ (done_of HT_.out (by kernel_rfl)) ?_
            try go_wp2
            have n0_ : Aside0 (Kd.R k44 44 (((((((((w87.setCell ⟨gb680, 0, none⟩ (.slice Ao88 t667.length co88)).setCell ⟨gb680, 1, none⟩ (.int .i64 t670)).setCell ⟨gb680, 2, none⟩ (.int .i64 t671)).setCell ⟨gb680, 3, none⟩ (.int .u64 t672)).setCell ⟨gb680, 4, none⟩ (.bool t673)).setCell ⟨gb680, 5, none⟩ (.int .i64 t674)).setCell ⟨gb680, 6, none⟩ (.int .u64 t675)).setCell ⟨gb680, 7, none⟩ (.int .i64 t676)).setCell ⟨gb680, 8, none⟩ (.int .i64 t677)) w.heap.size (fun k_ => some k_ ≠ (.slice Ao88 t667.length co88 : Value).ownBlock ∧ k_ ≠ gb680) (.slice (some ad665) t660.length co83) t660) := ⟨by (with_reducible repeat (first | apply Kd.R_alloc | apply Kd.R_drewN | apply Kd.R_drew)); exact Kd.R_mono (Kd.R_far (p := ⟨gb680, 8, none⟩) (Kd.R_far (p := ⟨gb680, 7, none⟩) (Kd.R_far (p := ⟨gb680, 6, none⟩) (Kd.R_far (p := ⟨gb680, 5, none⟩) (Kd.R_far (p := ⟨gb680, 4, none⟩) (Kd.R_far (p := ⟨gb680, 3, none⟩) (Kd.R_far (p := ⟨gb680, 2, none⟩) (Kd.R_far (p := ⟨gb680, 1, none⟩) (Kd.R_far (p := ⟨gb680, 0, none⟩) (Kd.R_mono HO_9.out (fun k_ hk => (⟨hk, hk.2⟩ : _ ∧ k_ ≠ gb680))) (fun _ hk => hk.2) (.slice Ao88 t667.length co88)) (fun _ hk => hk.2) (.int .i64 t670)) (fun _ hk => hk.2) (.int .i64 t671)) (fun _ hk => hk.2) (.int .u64 t672)) (fun _ hk => hk.2) (.bool t673)) (fun _ hk => hk.2) (.int .i64 t674)) (fun _ hk => hk.2) (.int .u64 t675)) (fun _ hk => hk.2) (.int .i64 t676)) (fun _ hk => hk.2) (.int .i64 t677)) (fun _ hk => ⟨hk.1.1, hk.1.2⟩)⟩
            have n1_ : Aside0 (Kd.R Kd.string 9 (((((((((w87.setCell ⟨gb680, 0, none⟩ (.slice Ao88 t667.length co88)).setCell ⟨gb680, 1, none⟩ (.int .i64 t670)).setCell ⟨gb680, 2, none⟩ (.int .i64 t671)).setCell ⟨gb680, 3, none⟩ (.int .u64 t672)).setCell ⟨gb680, 4, none⟩ (.bool t673)).setCell ⟨gb680, 5, none⟩ (.int .i64 t674)).setCell ⟨gb680, 6, none⟩ (.int .u64 t675)).setCell ⟨gb680, 7, none⟩ (.int .i64 t676)).setCell ⟨gb680, 8, none⟩ (.int .i64 t677)) w.heap.size (fun k_ => some k_ ≠ (.slice (some ad665) t660.length co83 : Value).ownBlock ∧ some k_ ≠ (.slice Ao88 t667.length co88 : Value).ownBlock) (.slice A665_0 ((rd_T44 t660 x11_2).f0).length c665_0) ((rd_T44 t660 x11_2).f0)) := ⟨by (with_reducible repeat (first | apply Kd.R_alloc | apply Kd.R_drewN | apply Kd.R_drew)); exact Kd.R_mono (Kd.R_far (p := ⟨gb680, 8, none⟩) (Kd.R_far (p := ⟨gb680, 7, none⟩) (Kd.R_far (p := ⟨gb680, 6, none⟩) (Kd.R_far (p := ⟨gb680, 5, none⟩) (Kd.R_far (p := ⟨gb680, 4, none⟩) (Kd.R_far (p := ⟨gb680, 3, none⟩) (Kd.R_far (p := ⟨gb680, 2, none⟩) (Kd.R_far (p := ⟨gb680, 1, none⟩) (Kd.R_far (p := ⟨gb680, 0, none⟩) (Kd.R_types HL665_0.out BK680.out (by decide)) (fun _ hk => hk.2) (.slice Ao88 t667.length co88)) (fun _ hk => hk.2) (.int .i64 t670)) (fun _ hk => hk.2) (.int .i64 t671)) (fun _ hk => hk.2) (.int .u64 t672)) (fun _ hk => hk.2) (.bool t673)) (fun _ hk => hk.2) (.int .i64 t674)) (fun _ hk => hk.2) (.int .u64 t675)) (fun _ hk => hk.2) (.int .i64 t676)) (fun _ hk => hk.2) (.int .i64 t677)) (fun _ hk => ⟨hk.1.2, hk.1.1⟩)⟩
            have n2_ : Aside0 (Kd.R Kd.string 9 (((((((((w87.setCell ⟨gb680, 0, none⟩ (.slice Ao88 t667.length co88)).setCell ⟨gb680, 1, none⟩ (.int .i64 t670)).setCell ⟨gb680, 2, none⟩ (.int .i64 t671)).setCell ⟨gb680, 3, none⟩ (.int .u64 t672)).setCell ⟨gb680, 4, none⟩ (.bool t673)).setCell ⟨gb680, 5, none⟩ (.int .i64 t674)).setCell ⟨gb680, 6, none⟩ (.int .u64 t675)).setCell ⟨gb680, 7, none⟩ (.int .i64 t676)).setCell ⟨gb680, 8, none⟩ (.int .i64 t677)) w.heap.size (fun k_ => some k_ ≠ (.slice (some ad665) t660.length co83 : Value).ownBlock ∧ some k_ ≠ (.slice Ao88 t667.length co88 : Value).ownBlock) (.slice A665_0 ((rd_T44 t660 x11_2).f0).length c665_0) ((rd_T44 t660 x11_2).f0)) := ⟨by (with_reducible repeat (first | apply Kd.R_alloc | apply Kd.R_drewN | apply Kd.R_drew)); exact Kd.R_mono (Kd.R_far (p := ⟨gb680, 8, none⟩) (Kd.R_far (p := ⟨gb680, 7, none⟩) (Kd.R_far (p := ⟨gb680, 6, none⟩) (Kd.R_far (p := ⟨gb680, 5, none⟩) (Kd.R_far (p := ⟨gb680, 4, none⟩) (Kd.R_far (p := ⟨gb680, 3, none⟩) (Kd.R_far (p := ⟨gb680, 2, none⟩) (Kd.R_far (p := ⟨gb680, 1, none⟩) (Kd.R_far (p := ⟨gb680, 0, none⟩) (Kd.R_types HL666_0.out BK680.out (by decide)) (fun _ hk => hk.2) (.slice Ao88 t667.length co88)) (fun _ hk => hk.2) (.int .i64 t670)) (fun _ hk => hk.2) (.int .i64 t671)) (fun _ hk => hk.2) (.int .u64 t672)) (fun _ hk => hk.2) (.bool t673)) (fun _ hk => hk.2) (.int .i64 t674)) (fun _ hk => hk.2) (.int .u64 t675)) (fun _ hk => hk.2) (.int .i64 t676)) (fun _ hk => hk.2) (.int .i64 t677)) (fun _ hk => ⟨hk.1.2, hk.1.1⟩)⟩
            have n3_ : Aside0 (Kd.R Kd.string 9 (((((((((w87.setCell ⟨gb680, 0, none⟩ (.slice Ao88 t667.length co88)).setCell ⟨gb680, 1, none⟩ (.int .i64 t670)).setCell ⟨gb680, 2, none⟩ (.int .i64 t671)).setCell ⟨gb680, 3, none⟩ (.int .u64 t672)).setCell ⟨gb680, 4, none⟩ (.bool t673)).setCell ⟨gb680, 5, none⟩ (.int .i64 t674)).setCell ⟨gb680, 6, none⟩ (.int .u64 t675)).setCell ⟨gb680, 7, none⟩ (.int .i64 t676)).setCell ⟨gb680, 8, none⟩ (.int .i64 t677)) w.heap.size (fun k_ => some k_ ≠ (.slice A665_0 ((rd_T44 t660 x11_2).f0).length c665_0 : Value).ownBlock ∧ some k_ ≠ (.slice A665_0 ((rd_T44 t660 x11_2).f0).length c665_0 : Value).ownBlock) (.slice Ao88 t667.length co88) t667) := ⟨by (with_reducible repeat (first | apply Kd.R_alloc | apply Kd.R_drewN | apply Kd.R_drew)); exact Kd.R_mono (Kd.R_far (p := ⟨gb680, 8, none⟩) (Kd.R_far (p := ⟨gb680, 7, none⟩) (Kd.R_far (p := ⟨gb680, 6, none⟩) (Kd.R_far (p := ⟨gb680, 5, none⟩) (Kd.R_far (p := ⟨gb680, 4, none⟩) (Kd.R_far (p := ⟨gb680, 3, none⟩) (Kd.R_far (p := ⟨gb680, 2, none⟩) (Kd.R_far (p := ⟨gb680, 1, none⟩) (Kd.R_far (p := ⟨gb680, 0, none⟩) (Kd.R_types HO669.out BK680.out (by decide)) (fun _ hk => hk.2) (.slice Ao88 t667.length co88)) (fun _ hk => hk.2) (.int .i64 t670)) (fun _ hk => hk.2) (.int .i64 t671)) (fun _ hk => hk.2) (.int .u64 t672)) (fun _ hk => hk.2) (.bool t673)) (fun _ hk => hk.2) (.int .i64 t674)) (fun _ hk => hk.2) (.int .u64 t675)) (fun _ hk => hk.2) (.int .i64 t676)) (fun _ hk => hk.2) (.int .i64 t677)) (fun _ hk => ⟨hk.1.1, hk.1.2⟩)⟩
            have n4_ : Aside0 ((((((((((w87.setCell ⟨gb680, 0, none⟩ (.slice Ao88 t667.length co88)).setCell ⟨gb680, 1, none⟩ (.int .i64 t670)).setCell ⟨gb680, 2, none⟩ (.int .i64 t671)).setCell ⟨gb680, 3, none⟩ (.int .u64 t672)).setCell ⟨gb680, 4, none⟩ (.bool t673)).setCell ⟨gb680, 5, none⟩ (.int .i64 t674)).setCell ⟨gb680, 6, none⟩ (.int .u64 t675)).setCell ⟨gb680, 7, none⟩ (.int .i64 t676)).setCell ⟨gb680, 8, none⟩ (.int .i64 t677)).heap[gb655]? = some (.cells #[.slice A0_0 l0_0.length c0_0, .int .i64 a0_1] 24 (0, 0))) := ⟨putB BK655.out NB655_680.out⟩
            have n5_ : Aside0 ((((((((((w87.setCell ⟨gb680, 0, none⟩ (.slice Ao88 t667.length co88)).setCell ⟨gb680, 1, none⟩ (.int .i64 t670)).setCell ⟨gb680, 2, none⟩ (.int .i64 t671)).setCell ⟨gb680, 3, none⟩ (.int .u64 t672)).setCell ⟨gb680, 4, none⟩ (.bool t673)).setCell ⟨gb680, 5, none⟩ (.int .i64 t674)).setCell ⟨gb680, 6, none⟩ (.int .u64 t675)).setCell ⟨gb680, 7, none⟩ (.int .i64 t676)).setCell ⟨gb680, 8, none⟩ (.int .i64 t677)).heap[gb656]? = some (.cells #[.slice A3_0 l3_0.length c3_0, .int .i64 a3_1, .int .i64 a3_2, .int .i64 a3_3, .int .i64 a3_4] 28 (0, 0))) := ⟨putB BK656.out NB656_680.out⟩
            have n6_ : Aside0 ((((((((((w87.setCell ⟨gb680, 0, none⟩ (.slice Ao88 t667.length co88)).setCell ⟨gb680, 1, none⟩ (.int .i64 t670)).setCell ⟨gb680, 2, none⟩ (.int .i64 t671)).setCell ⟨gb680, 3, none⟩ (.int .u64 t672)).setCell ⟨gb680, 4, none⟩ (.bool t673)).setCell ⟨gb680, 5, none⟩ (.int .i64 t674)).setCell ⟨gb680, 6, none⟩ (.int .u64 t675)).setCell ⟨gb680, 7, none⟩ (.int .i64 t676)).setCell ⟨gb680, 8, none⟩ (.int .i64 t677)).heap[gb680]? = some (.cells #[.slice Ao88 t667.length co88, .int .i64 t670, .int .i64 t671, .int .u64 t672, .bool t673, .int .i64 t674, .int .u64 t675, .int .i64 t676, .int .i64 t677] 44 (0, 0))) := ⟨putA BK680.out⟩
            have n7_ : Aside0 (Below w.heap.size w (((((((((w87.setCell ⟨gb680, 0, none⟩ (.slice Ao88 t667.length co88)).setCell ⟨gb680, 1, none⟩ (.int .i64 t670)).setCell ⟨gb680, 2, none⟩ (.int .i64 t671)).setCell ⟨gb680, 3, none⟩ (.int .u64 t672)).setCell ⟨gb680, 4, none⟩ (.bool t673)).setCell ⟨gb680, 5, none⟩ (.int .i64 t674)).setCell ⟨gb680, 6, none⟩ (.int .u64 t675)).setCell ⟨gb680, 7, none⟩ (.int .i64 t676)).setCell ⟨gb680, 8, none⟩ (.int .i64 t677))) := ⟨belD HB.out GE655.out GE656.out GE680.out⟩
            (try clear HO_9)
            (try clear HL665_0)
            (try clear HL666_0)
            (try clear HO669)
            (try clear BK655)
            (try clear BK656)
            (try clear BK680)
            (try clear HB)
            generalize (((((((((w87.setCell ⟨gb680, 0, none⟩ (.slice Ao88 t667.length co88)).setCell ⟨gb680, 1, none⟩ (.int .i64 t670)).setCell ⟨gb680, 2, none⟩ (.int .i64 t671)).setCell ⟨gb680, 3, none⟩ (.int .u64 t672)).setCell ⟨gb680, 4, none⟩ (.bool t673)).setCell ⟨gb680, 5, none⟩ (.int .i64 t674)).setCell ⟨gb680, 6, none⟩ (.int .u64 t675)).setCell ⟨gb680, 7, none⟩ (.int .i64 t676)).setCell ⟨gb680, 8, none⟩ (.int .i64 t677)) = w98 at n0_ n1_ n2_ n3_ n4_ n5_ n6_ n7_ ⊢
            have HO_9 := n0_
            have HL665_0 := n1_
            have HL666_0 := n2_
            have HO669 := n3_
            have BK655 := n4_
            have BK656 := n5_
            have BK680 := n6_
            have HB := n7_
            clear n0_ n1_ n2_ n3_ n4_ n5_ n6_ n7_
            replace HO_9 := Aside0.mk (Kd.R_drew HO_9.out)
            replace HL665_0 := Aside0.mk (Kd.R_drew HL665_0.out)
            replace HL666_0 := Aside0.mk (Kd.R_drew HL666_0.out)
            replace HO669 := Aside0.mk (Kd.R_drew HO669.out)
            replace BK655 := Aside0.mk (blk_drew BK655.out)
            replace BK656 := Aside0.mk (blk_drew BK656.out)
            replace BK680 := Aside0.mk (blk_drew BK680.out)
            replace HB := Aside0.mk (below_drew1 HB.out)
            have p681 : 0 ≤ (x11_2 : Int) := of_decide_eq_true asmA
            have q681 : x11_2 < (t660.length : Int) := of_decide_eq_true asmA
            obtain ⟨ad681, A681_0, c681_0, e681, hx681_0, hx681_1, hx681_2, hx681_3, hx681_4, hx681_5, hx681_6, hx681_7, hx681_8, hl681_0, hi681_0⟩ := at_T44 (Kd.R_reads' HO_9.out).2.2 x11_2 p681 q681
            obtain rfl : ad665 = ad681 := (by injection e681)
            obtain ⟨ce681, hce681, hMe681, hcc681⟩ := Kd.R_get HO_9.out z44 x11_2 p681 (by first | exact q681 | exact of_decide_eq_true asmA | (have e_ := (Kd.R_reads' HO_9.out).1; omega))
            obtain ⟨ve681_0, rfl, ge681_0⟩ := k44_openM hMe681
            have hv681_0 := hcc681 0 _ rfl
            rw [Nat.add_zero] at hv681_0
            replace hv681_0 := Option.some.inj (hv681_0.symm.trans hx681_0)
            rw [hv681_0] at ge681_0
            have HL681_0 := Aside0.mk (show Kd.R Kd.string 9 _ _ _ _ ((rd_T44 t660 x11_2).f0) from ge681_0)
            clear hv681_0 ge681_0
            clear hcc681 hce681
            have HR681_0 := Aside0.mk hi681_0
            have HC681_0 := Aside0.mk hl681_0
            clear hi681_0 hl681_0
            replace p681 := eq_true p681
            replace q681 := eq_true q681
            have p682 : 0 ≤ (x11_2 : Int) := of_decide_eq_true asmA
            have q682 : x11_2 < (t660.length : Int) := of_decide_eq_true asmA
            obtain ⟨ad682, A682_0, c682_0, e682, hx682_0, hx682_1, hx682_2, hx682_3, hx682_4, hx682_5, hx682_6, hx682_7, hx682_8, hl682_0, hi682_0⟩ := at_T44 (Kd.R_reads' HO_9.out).2.2 x11_2 p682 q682
            obtain rfl : ad665 = ad682 := (by injection e682)
            obtain ⟨ce682, hce682, hMe682, hcc682⟩ := Kd.R_get HO_9.out z44 x11_2 p682 (by first | exact q682 | exact of_decide_eq_true asmA | (have e_ := (Kd.R_reads' HO_9.out).1; omega))
            obtain ⟨ve682_0, rfl, ge682_0⟩ := k44_openM hMe682
            have hv682_0 := hcc682 0 _ rfl
            rw [Nat.add_zero] at hv682_0
            replace hv682_0 := Option.some.inj (hv682_0.symm.trans hx682_0)
            rw [hv682_0] at ge682_0
            have HL682_0 := Aside0.mk (show Kd.R Kd.string 9 _ _ _ _ ((rd_T44 t660 x11_2).f0) from ge682_0)
            clear hv682_0 ge682_0
            clear hcc682 hce682
            have HR682_0 := Aside0.mk hi682_0
            have HC682_0 := Aside0.mk hl682_0
            clear hi682_0 hl682_0
            replace p682 := eq_true p682
            replace q682 := eq_true q682
            have ea_ := Option.some.inj (hx681_0.symm.trans hx682_0)
            injection ea_ with ea_ en_ ec_
            subst ea_
            subst ec_
            clear en_
            have p683 : 0 ≤ (x11_2 : Int) := of_decide_eq_true asmA
            have q683 : x11_2 < (t660.length : Int) := of_decide_eq_true asmA
            obtain ⟨ad683, A683_0, c683_0, e683, hx683_0, hx683_1, hx683_2, hx683_3, hx683_4, hx683_5, hx683_6, hx683_7, hx683_8, hl683_0, hi683_0⟩ := at_T44 (Kd.R_reads' HO_9.out).2.2 x11_2 p683 q683
            obtain rfl : ad665 = ad683 := (by injection e683)
            obtain ⟨ce683, hce683, hMe683, hcc683⟩ := Kd.R_get HO_9.out z44 x11_2 p683 (by first | exact q683 | exact of_decide_eq_true asmA | (have e_ := (Kd.R_reads' HO_9.out).1; omega))
            obtain ⟨ve683_0, rfl, ge683_0⟩ := k44_openM hMe683
            have hv683_0 := hcc683 0 _ rfl
            rw [Nat.add_zero] at hv683_0
            replace hv683_0 := Option.some.inj (hv683_0.symm.trans hx683_0)
            rw [hv683_0] at ge683_0
            have HL683_0 := Aside0.mk (show Kd.R Kd.string 9 _ _ _ _ ((rd_T44 t660 x11_2).f0) from ge683_0)
            clear hv683_0 ge683_0
            clear hcc683 hce683
            have HR683_0 := Aside0.mk hi683_0
            have HC683_0 := Aside0.mk hl683_0
            clear hi683_0 hl683_0
            replace p683 := eq_true p683
            replace q683 := eq_true q683
            have ea_ := Option.some.inj (hx681_0.symm.trans hx683_0)
            injection ea_ with ea_ en_ ec_
            subst ea_
            subst ec_
            clear en_
            have p684 : 0 ≤ (x11_2 : Int) := of_decide_eq_true asmA
            have q684 : x11_2 < (t660.length : Int) := of_decide_eq_true asmA
            obtain ⟨ad684, A684_0, c684_0, e684, hx684_0, hx684_1, hx684_2, hx684_3, hx684_4, hx684_5, hx684_6, hx684_7, hx684_8, hl684_0, hi684_0⟩ := at_T44 (Kd.R_reads' HO_9.out).2.2 x11_2 p684 q684
            obtain rfl : ad665 = ad684 := (by injection e684)
            obtain ⟨ce684, hce684, hMe684, hcc684⟩ := Kd.R_get HO_9.out z44 x11_2 p684 (by first | exact q684 | exact of_decide_eq_true asmA | (have e_ := (Kd.R_reads' HO_9.out).1; omega))
            obtain ⟨ve684_0, rfl, ge684_0⟩ := k44_openM hMe684
            have hv684_0 := hcc684 0 _ rfl
            rw [Nat.add_zero] at hv684_0
            replace hv684_0 := Option.some.inj (hv684_0.symm.trans hx684_0)
            rw [hv684_0] at ge684_0
            have HL684_0 := Aside0.mk (show Kd.R Kd.string 9 _ _ _ _ ((rd_T44 t660 x11_2).f0) from ge684_0)
            clear hv684_0 ge684_0
            clear hcc684 hce684
            have HR684_0 := Aside0.mk hi684_0
            have HC684_0 := Aside0.mk hl684_0
            clear hi684_0 hl684_0
            replace p684 := eq_true p684
            replace q684 := eq_true q684
            have ea_ := Option.some.inj (hx681_0.symm.trans hx684_0)
            injection ea_ with ea_ en_ ec_
            subst ea_
            subst ec_
            clear en_
            by_cases c81 : ((rd_T44 t660 x11_2).f2) = t671
            ·have c82 : t670 = ((rd_T44 t660 x11_2).f1) := HPQ_ c81
             have c81b0 := beq_iff_eq.mpr c81
             have c81b1 := bne_eq_false_iff_eq.mpr c81
             have c82b0 := beq_iff_eq.mpr c82
             have c82b1 := bne_eq_false_iff_eq.mpr c82
             clear c81 c82
             have p685 : 0 ≤ (x11_2 : Int) := of_decide_eq_true asmA
             have q685 : x11_2 < (t660.length : Int) := of_decide_eq_true asmA
             obtain ⟨ad685, A685_0, c685_0, e685, hx685_0, hx685_1, hx685_2, hx685_3, hx685_4, hx685_5, hx685_6, hx685_7, hx685_8, hl685_0, hi685_0⟩ := at_T44 (Kd.R_reads' HO_9.out).2.2 x11_2 p685 q685
             obtain rfl : ad665 = ad685 := (by injection e685)
             obtain ⟨ce685, hce685, hMe685, hcc685⟩ := Kd.R_get HO_9.out z44 x11_2 p685 (by first | exact q685 | exact of_decide_eq_true asmA | (have e_ := (Kd.R_reads' HO_9.out).1; omega))
             obtain ⟨ve685_0, rfl, ge685_0⟩ := k44_openM hMe685
             have hv685_0 := hcc685 0 _ rfl
             rw [Nat.add_zero] at hv685_0
             replace hv685_0 := Option.some.inj (hv685_0.symm.trans hx685_0)
             rw [hv685_0] at ge685_0
             have HL685_0 := Aside0.mk (show Kd.R Kd.string 9 _ _ _ _ ((rd_T44 t660 x11_2).f0) from ge685_0)
             clear hv685_0 ge685_0
             clear hcc685 hce685
             have HR685_0 := Aside0.mk hi685_0
             have HC685_0 := Aside0.mk hl685_0
             clear hi685_0 hl685_0
             replace p685 := eq_true p685
             replace q685 := eq_true q685
             have ea_ := Option.some.inj (hx681_0.symm.trans hx685_0)
             injection ea_ with ea_ en_ ec_
             subst ea_
             subst ec_
             clear en_
             refine start_ (n := 58) (S := fun w' => w'.cell? ⟨gb680, 0, none⟩ = some (.slice Ao88 t667.length co88) ∧ w'.cell? ⟨gb680, 1, none⟩ = some (.int .i64 t670) ∧ w'.cell? ⟨gb680, 2, none⟩ = some (.int .i64 t671) ∧ w'.cell? ⟨gb680, 3, none⟩ = some (.int .u64 t672) ∧ w'.cell? ⟨gb680, 4, none⟩ = some (.bool t673) ∧ w'.cell? ⟨gb680, 5, none⟩ = some (.int .i64 t674) ∧ w'.cell? ⟨gb680, 6, none⟩ = some (.int .u64 t675) ∧ w'.cell? ⟨gb680, 7, none⟩ = some (.int .i64 t676) ∧ w'.cell? ⟨gb680, 8, none⟩ = some (.int .i64 t677) ∧ w'.cell? (ad665.add ((x11_2).toNat * 9)) = some (.slice A681_0 ((rd_T44 t660 x11_2).f0).length c681_0) ∧ w'.cell? ⟨(ad665.add ((x11_2).toNat * 9)).block, (ad665.add ((x11_2).toNat * 9)).off + 1, none⟩ = some (.int .i64 ((rd_T44 t660 x11_2).f1)) ∧ w'.cell? ⟨(ad665.add ((x11_2).toNat * 9)).block, (ad665.add ((x11_2).toNat * 9)).off + 2, none⟩ = some (.int .i64 ((rd_T44 t660 x11_2).f2)) ∧ w'.cell? ⟨(ad665.add ((x11_2).toNat * 9)).block, (ad665.add ((x11_2).toNat * 9)).off + 3, none⟩ = some (.int .u64 ((rd_T44 t660 x11_2).f3.f0)) ∧ w'.cell? ⟨(ad665.add ((x11_2).toNat * 9)).block, (ad665.add ((x11_2).toNat * 9)).off + 4, none⟩ = some (.bool ((rd_T44 t660 x11_2).f3.f1)) ∧ w'.cell? ⟨(ad665.add ((x11_2).toNat * 9)).block, (ad665.add ((x11_2).toNat * 9)).off + 5, none⟩ = some (.int .i64 ((rd_T44 t660 x11_2).f3.f2.f0)) ∧ w'.cell? ⟨(ad665.add ((x11_2).toNat * 9)).block, (ad665.add ((x11_2).toNat * 9)).off + 6, none⟩ = some (.int .u64 ((rd_T44 t660 x11_2).f3.f2.f1)) ∧ w'.cell? ⟨(ad665.add ((x11_2).toNat * 9)).block, (ad665.add ((x11_2).toNat * 9)).off + 7, none⟩ = some (.int .i64 ((rd_T44 t660 x11_2).f3.f3)) ∧ w'.cell? ⟨(ad665.add ((x11_2).toNat * 9)).block, (ad665.add ((x11_2).toNat * 9)).off + 8, none⟩ = some (.int .i64 ((rd_T44 t660 x11_2).f3.f4)) ∧ w'.cell? (ad665.add ((x11_2).toNat * 9)) = some (.slice A681_0 ((rd_T44 t660 x11_2).f0).length c681_0) ∧ w'.cell? ⟨(ad665.add ((x11_2).toNat * 9)).block, (ad665.add ((x11_2).toNat * 9)).off + 1, none⟩ = some (.int .i64 ((rd_T44 t660 x11_2).f1)) ∧ w'.cell? ⟨(ad665.add ((x11_2).toNat * 9)).block, (ad665.add ((x11_2).toNat * 9)).off + 2, none⟩ = some (.int .i64 ((rd_T44 t660 x11_2).f2)) ∧ w'.cell? ⟨(ad665.add ((x11_2).toNat * 9)).block, (ad665.add ((x11_2).toNat * 9)).off + 3, none⟩ = some (.int .u64 ((rd_T44 t660 x11_2).f3.f0)) ∧ w'.cell? ⟨(ad665.add ((x11_2).toNat * 9)).block, (ad665.add ((x11_2).toNat * 9)).off + 4, none⟩ = some (.bool ((rd_T44 t660 x11_2).f3.f1)) ∧ w'.cell? ⟨(ad665.add ((x11_2).toNat * 9)).block, (ad665.add ((x11_2).toNat * 9)).off + 5, none⟩ = some (.int .i64 ((rd_T44 t660 x11_2).f3.f2.f0)) ∧ w'.cell? ⟨(ad665.add ((x11_2).toNat * 9)).block, (ad665.add ((x11_2).toNat * 9)).off + 6, none⟩ = some (.int .u64 ((rd_T44 t660 x11_2).f3.f2.f1)) ∧ w'.cell? ⟨(ad665.add ((x11_2).toNat * 9)).block, (ad665.add ((x11_2).toNat * 9)).off + 7, none⟩ = some (.int .i64 ((rd_T44 t660 x11_2).f3.f3)) ∧ w'.cell? ⟨(ad665.add ((x11_2).toNat * 9)).block, (ad665.add ((x11_2).toNat * 9)).off + 8, none⟩ = some (.int .i64 ((rd_T44 t660 x11_2).f3.f4)) ∧ w'.cell? (ad665.add ((x11_2).toNat * 9)) = some (.slice A681_0 ((rd_T44 t660 x11_2).f0).length c681_0) ∧ w'.cell? ⟨(ad665.add ((x11_2).toNat * 9)).block, (ad665.add ((x11_2).toNat * 9)).off + 1, none⟩ = some (.int .i64 ((rd_T44 t660 x11_2).f1)) ∧ w'.cell? ⟨(ad665.add ((x11_2).toNat * 9)).block, (ad665.add ((x11_2).toNat * 9)).off + 2, none⟩ = some (.int .i64 ((rd_T44 t660 x11_2).f2)) ∧ w'.cell? ⟨(ad665.add ((x11_2).toNat * 9)).block, (ad665.add ((x11_2).toNat * 9)).off + 3, none⟩ = some (.int .u64 ((rd_T44 t660 x11_2).f3.f0)) ∧ w'.cell? ⟨(ad665.add ((x11_2).toNat * 9)).block, (ad665.add ((x11_2).toNat * 9)).off + 4, none⟩ = some (.bool ((rd_T44 t660 x11_2).f3.f1)) ∧ w'.cell? ⟨(ad665.add ((x11_2).toNat * 9)).block, (ad665.add ((x11_2).toNat * 9)).off + 5, none⟩ = some (.int .i64 ((rd_T44 t660 x11_2).f3.f2.f0)) ∧ w'.cell? ⟨(ad665.add ((x11_2).toNat * 9)).block, (ad665.add ((x11_2).toNat * 9)).off + 6, none⟩ = some (.int .u64 ((rd_T44 t660 x11_2).f3.f2.f1)) ∧ w'.cell? ⟨(ad665.add ((x11_2).toNat * 9)).block, (ad665.add ((x11_2).toNat * 9)).off + 7, none⟩ = some (.int .i64 ((rd_T44 t660 x11_2).f3.f3)) ∧ w'.cell? ⟨(ad665.add ((x11_2).toNat * 9)).block, (ad665.add ((x11_2).toNat * 9)).off + 8, none⟩ = some (.int .i64 ((rd_T44 t660 x11_2).f3.f4)) ∧ w'.cell? (ad665.add ((x11_2).toNat * 9)) = some (.slice A681_0 ((rd_T44 t660 x11_2).f0).length c681_0) ∧ w'.cell? ⟨(ad665.add ((x11_2).toNat * 9)).block, (ad665.add ((x11_2).toNat * 9)).off + 1, none⟩ = some (.int .i64 ((rd_T44 t660 x11_2).f1)) ∧ w'.cell? ⟨(ad665.add ((x11_2).toNat * 9)).block, (ad665.add ((x11_2).toNat * 9)).off + 2, none⟩ = some (.int .i64 ((rd_T44 t660 x11_2).f2)) ∧ w'.cell? ⟨(ad665.add ((x11_2).toNat * 9)).block, (ad665.add ((x11_2).toNat * 9)).off + 3, none⟩ = some (.int .u64 ((rd_T44 t660 x11_2).f3.f0)) ∧ w'.cell? ⟨(ad665.add ((x11_2).toNat * 9)).block, (ad665.add ((x11_2).toNat * 9)).off + 4, none⟩ = some (.bool ((rd_T44 t660 x11_2).f3.f1)) ∧ w'.cell? ⟨(ad665.add ((x11_2).toNat * 9)).block, (ad665.add ((x11_2).toNat * 9)).off + 5, none⟩ = some (.int .i64 ((rd_T44 t660 x11_2).f3.f2.f0)) ∧ w'.cell? ⟨(ad665.add ((x11_2).toNat * 9)).block, (ad665.add ((x11_2).toNat * 9)).off + 6, none⟩ = some (.int .u64 ((rd_T44 t660 x11_2).f3.f2.f1)) ∧ w'.cell? ⟨(ad665.add ((x11_2).toNat * 9)).block, (ad665.add ((x11_2).toNat * 9)).off + 7, none⟩ = some (.int .i64 ((rd_T44 t660 x11_2).f3.f3)) ∧ w'.cell? ⟨(ad665.add ((x11_2).toNat * 9)).block, (ad665.add ((x11_2).toNat * 9)).off + 8, none⟩ = some (.int .i64 ((rd_T44 t660 x11_2).f3.f4)) ∧ w'.cell? (ad665.add ((x11_2).toNat * 9)) = some (.slice A681_0 ((rd_T44 t660 x11_2).f0).length c681_0) ∧ w'.cell? ⟨(ad665.add ((x11_2).toNat * 9)).block, (ad665.add ((x11_2).toNat * 9)).off + 1, none⟩ = some (.int .i64 ((rd_T44 t660 x11_2).f1)) ∧ w'.cell? ⟨(ad665.add ((x11_2).toNat * 9)).block, (ad665.add ((x11_2).toNat * 9)).off + 2, none⟩ = some (.int .i64 ((rd_T44 t660 x11_2).f2)) ∧ w'.cell? ⟨(ad665.add ((x11_2).toNat * 9)).block, (ad665.add ((x11_2).toNat * 9)).off + 3, none⟩ = some (.int .u64 ((rd_T44 t660 x11_2).f3.f0)) ∧ w'.cell? ⟨(ad665.add ((x11_2).toNat * 9)).block, (ad665.add ((x11_2).toNat * 9)).off + 4, none⟩ = some (.bool ((rd_T44 t660 x11_2).f3.f1)) ∧ w'.cell? ⟨(ad665.add ((x11_2).toNat * 9)).block, (ad665.add ((x11_2).toNat * 9)).off + 5, none⟩ = some (.int .i64 ((rd_T44 t660 x11_2).f3.f2.f0)) ∧ w'.cell? ⟨(ad665.add ((x11_2).toNat * 9)).block, (ad665.add ((x11_2).toNat * 9)).off + 6, none⟩ = some (.int .u64 ((rd_T44 t660 x11_2).f3.f2.f1)) ∧ w'.cell? ⟨(ad665.add ((x11_2).toNat * 9)).block, (ad665.add ((x11_2).toNat * 9)).off + 7, none⟩ = some (.int .i64 ((rd_T44 t660 x11_2).f3.f3)) ∧ w'.cell? ⟨(ad665.add ((x11_2).toNat * 9)).block, (ad665.add ((x11_2).toNat * 9)).off + 8, none⟩ = some (.int .i64 ((rd_T44 t660 x11_2).f3.f4))) (ds := []) #[false, false, false, false, false, false, false, false, false, false, false, false, false, false, false, false, false, false, false, false, false, false, false, false, false, false, false, false, false, false, false, false, false, false, false, false, false, false, false, false, false, false, false, false, false, false, false, false, false, false, false, false, false, false, false, false, false, false] (by kernel_rfl) rfl rfl ⟨(blk_cell BK680.out 0).trans rfl, (blk_cell BK680.out 1).trans rfl, (blk_cell BK680.out 2).trans rfl, (blk_cell BK680.out 3).trans rfl, (blk_cell BK680.out 4).trans rfl, (blk_cell BK680.out 5).trans rfl, (blk_cell BK680.out 6).trans rfl, (blk_cell BK680.out 7).trans rfl, (blk_cell BK680.out 8).trans rfl, hx681_0, hx681_1, hx681_2, hx681_3, hx681_4, hx681_5, hx681_6, hx681_7, hx681_8, hx682_0, hx682_1, hx682_2, hx682_3, hx682_4, hx682_5, hx682_6, hx682_7, hx682_8, hx683_0, hx683_1, hx683_2, hx683_3, hx683_4, hx683_5, hx683_6, hx683_7, hx683_8, hx684_0, hx684_1, hx684_2, hx684_3, hx684_4, hx684_5, hx684_6, hx684_7, hx684_8, hx685_0, hx685_1, hx685_2, hx685_3, hx685_4, hx685_5, hx685_6, hx685_7, hx685_8⟩ (fun hHeld => ?_); refine with_tabW rickyardlaw17_AskEach.tab10 rickyardlaw17_AskEach.bits10 (fun HT_ HW_ => ?_)
             generalize w98.drew = w99 at HO_9 HL665_0 HL666_0 HO669 BK655 BK656 BK680 HB HL681_0 HL682_0 HL683_0 HL684_0 HL685_0 HR681_0 HR682_0 HR683_0 HR684_0 HR685_0 hx681_0 hx681_1 hx681_2 hx681_3 hx681_4 hx681_5 hx681_6 hx681_7 hx681_8 hx682_0 hx682_1 hx682_2 hx682_3 hx682_4 hx682_5 hx682_6 hx682_7 hx682_8 hx683_0 hx683_1 hx683_2 hx683_3 hx683_4 hx683_5 hx683_6 hx683_7 hx683_8 hx684_0 hx684_1 hx684_2 hx684_3 hx684_4 hx684_5 hx684_6 hx684_7 hx684_8 hx685_0 hx685_1 hx685_2 hx685_3 hx685_4 hx685_5 hx685_6 hx685_7 hx685_8 hHeld ⊢
             refine pureD 0 61 HT_ ?_
             refine pureD 1 62 HT_ ?_
             refine pureD 2 63 HT_ ?_
             refine pureD 3 64 HT_ ?_
             refine pureD 4 65 HT_ ?_
             refine pureD 5 66 HT_ ?_
             refine pureD 6 67 HT_ ?_
             refine pureD 7 68 HT_ ?_
             refine pureD 8 69 HT_ ?_
             refine pureD 10 71 HT_ ?_
             refine pureD 11 72 HT_ ?_
             refine pureD 12 73 HT_ ?_
             refine pureD 13 74 HT_ ?_
             refine pureD 14 75 HT_ ?_
             refine takeD 9 70 HT_ HW_ hHeld ?_
             refine takeD 15 76 HT_ HW_ hHeld ?_
             refine pureD 16 77 HT_ ?_
             refine pureD 17 78 HT_ ?_
             refine pureD 18 79 HT_ ?_
             refine pureD 19 80 HT_ ?_
             refine pureD 21 82 HT_ ?_
             refine pureD 22 83 HT_ ?_
             refine pureD 23 84 HT_ ?_
             refine pureD 24 85 HT_ ?_
             refine takeD 20 81 HT_ HW_ hHeld ?_
             refine takeD 25 86 HT_ HW_ hHeld ?_
             refine pureD 26 87 HT_ ?_
             refine pureD 27 88 HT_ ?_
             refine pureD 28 89 HT_ ?_
             refine pureD 29 90 HT_ ?_
             refine pureD 31 92 HT_ ?_
             refine pureD 32 93 HT_ ?_
             refine pureD 33 94 HT_ ?_
             refine pureD 34 95 HT_ ?_
             refine takeD 30 91 HT_ HW_ hHeld ?_
             refine takeD 35 96 HT_ HW_ hHeld ?_
             refine pureD 36 97 HT_ ?_
             refine pureD 37 98 HT_ ?_
             refine pureD 38 99 HT_ ?_
             refine pureD 39 100 HT_ ?_
             refine pureD 40 101 HT_ ?_
             refine pureD 41 102 HT_ ?_
             refine pureD 42 103 HT_ ?_
             refine pureD 44 105 HT_ ?_
             refine takeD 43 104 HT_ HW_ hHeld ?_
             refine takeD 45 106 HT_ HW_ hHeld ?_
             refine pureD 46 107 HT_ ?_
             refine pureD 47 108 HT_ ?_
             refine pureD 48 109 HT_ ?_
             refine pureD 50 111 HT_ ?_
             refine pureD 51 112 HT_ ?_
             refine pureD 52 113 HT_ ?_
             refine pureD 53 114 HT_ ?_
             refine takeD 49 110 HT_ HW_ hHeld ?_
             refine takeD 54 115 HT_ HW_ hHeld ?_
             refine pureD 55 116 HT_ ?_
             refine pureD 56 117 HT_ ?_
             refine pureD 57 118 HT_ ?_
             refine done_ (done_of HT_.out (by kernel_rfl)) ?_
             try go_wp2
             go_roundg k2
             case measure => have := HJ4.out; have := HK2.out; omega
             case rel => exact ⟨(wrap64 (x11_2 + 1)), relA, H', ⟨by have := HJ4.out; have := HK2.out; omega⟩, ⟨by (with_reducible repeat (first | apply Kd.R_alloc | apply Kd.R_drewN | apply Kd.R_drew)); exact Kd.R_mono HO_9.out (fun _ hk => trivial)⟩, ⟨blkA BK655.out⟩, ⟨blkA BK656.out⟩, ⟨belD HB.out GE655.out GE656.out GE680.out⟩⟩
            ·have c81b0 := beq_eq_false_iff_ne.mpr c81
             have c81b1 := bne_iff_ne.mpr c81
             refine start_ (n := 58) (S := fun w' => w'.cell? ⟨gb680, 0, none⟩ = some (.slice Ao88 t667.length co88) ∧ w'.cell? ⟨gb680, 1, none⟩ = some (.int .i64 t670) ∧ w'.cell? ⟨gb680, 2, none⟩ = some (.int .i64 t671) ∧ w'.cell? ⟨gb680, 3, none⟩ = some (.int .u64 t672) ∧ w'.cell? ⟨gb680, 4, none⟩ = some (.bool t673) ∧ w'.cell? ⟨gb680, 5, none⟩ = some (.int .i64 t674) ∧ w'.cell? ⟨gb680, 6, none⟩ = some (.int .u64 t675) ∧ w'.cell? ⟨gb680, 7, none⟩ = some (.int .i64 t676) ∧ w'.cell? ⟨gb680, 8, none⟩ = some (.int .i64 t677) ∧ w'.cell? (ad665.add ((x11_2).toNat * 9)) = some (.slice A681_0 ((rd_T44 t660 x11_2).f0).length c681_0) ∧ w'.cell? ⟨(ad665.add ((x11_2).toNat * 9)).block, (ad665.add ((x11_2).toNat * 9)).off + 1, none⟩ = some (.int .i64 ((rd_T44 t660 x11_2).f1)) ∧ w'.cell? ⟨(ad665.add ((x11_2).toNat * 9)).block, (ad665.add ((x11_2).toNat * 9)).off + 2, none⟩ = some (.int .i64 ((rd_T44 t660 x11_2).f2)) ∧ w'.cell? ⟨(ad665.add ((x11_2).toNat * 9)).block, (ad665.add ((x11_2).toNat * 9)).off + 3, none⟩ = some (.int .u64 ((rd_T44 t660 x11_2).f3.f0)) ∧ w'.cell? ⟨(ad665.add ((x11_2).toNat * 9)).block, (ad665.add ((x11_2).toNat * 9)).off + 4, none⟩ = some (.bool ((rd_T44 t660 x11_2).f3.f1)) ∧ w'.cell? ⟨(ad665.add ((x11_2).toNat * 9)).block, (ad665.add ((x11_2).toNat * 9)).off + 5, none⟩ = some (.int .i64 ((rd_T44 t660 x11_2).f3.f2.f0)) ∧ w'.cell? ⟨(ad665.add ((x11_2).toNat * 9)).block, (ad665.add ((x11_2).toNat * 9)).off + 6, none⟩ = some (.int .u64 ((rd_T44 t660 x11_2).f3.f2.f1)) ∧ w'.cell? ⟨(ad665.add ((x11_2).toNat * 9)).block, (ad665.add ((x11_2).toNat * 9)).off + 7, none⟩ = some (.int .i64 ((rd_T44 t660 x11_2).f3.f3)) ∧ w'.cell? ⟨(ad665.add ((x11_2).toNat * 9)).block, (ad665.add ((x11_2).toNat * 9)).off + 8, none⟩ = some (.int .i64 ((rd_T44 t660 x11_2).f3.f4)) ∧ w'.cell? (ad665.add ((x11_2).toNat * 9)) = some (.slice A681_0 ((rd_T44 t660 x11_2).f0).length c681_0) ∧ w'.cell? ⟨(ad665.add ((x11_2).toNat * 9)).block, (ad665.add ((x11_2).toNat * 9)).off + 1, none⟩ = some (.int .i64 ((rd_T44 t660 x11_2).f1)) ∧ w'.cell? ⟨(ad665.add ((x11_2).toNat * 9)).block, (ad665.add ((x11_2).toNat * 9)).off + 2, none⟩ = some (.int .i64 ((rd_T44 t660 x11_2).f2)) ∧ w'.cell? ⟨(ad665.add ((x11_2).toNat * 9)).block, (ad665.add ((x11_2).toNat * 9)).off + 3, none⟩ = some (.int .u64 ((rd_T44 t660 x11_2).f3.f0)) ∧ w'.cell? ⟨(ad665.add ((x11_2).toNat * 9)).block, (ad665.add ((x11_2).toNat * 9)).off + 4, none⟩ = some (.bool ((rd_T44 t660 x11_2).f3.f1)) ∧ w'.cell? ⟨(ad665.add ((x11_2).toNat * 9)).block, (ad665.add ((x11_2).toNat * 9)).off + 5, none⟩ = some (.int .i64 ((rd_T44 t660 x11_2).f3.f2.f0)) ∧ w'.cell? ⟨(ad665.add ((x11_2).toNat * 9)).block, (ad665.add ((x11_2).toNat * 9)).off + 6, none⟩ = some (.int .u64 ((rd_T44 t660 x11_2).f3.f2.f1)) ∧ w'.cell? ⟨(ad665.add ((x11_2).toNat * 9)).block, (ad665.add ((x11_2).toNat * 9)).off + 7, none⟩ = some (.int .i64 ((rd_T44 t660 x11_2).f3.f3)) ∧ w'.cell? ⟨(ad665.add ((x11_2).toNat * 9)).block, (ad665.add ((x11_2).toNat * 9)).off + 8, none⟩ = some (.int .i64 ((rd_T44 t660 x11_2).f3.f4)) ∧ w'.cell? (ad665.add ((x11_2).toNat * 9)) = some (.slice A681_0 ((rd_T44 t660 x11_2).f0).length c681_0) ∧ w'.cell? ⟨(ad665.add ((x11_2).toNat * 9)).block, (ad665.add ((x11_2).toNat * 9)).off + 1, none⟩ = some (.int .i64 ((rd_T44 t660 x11_2).f1)) ∧ w'.cell? ⟨(ad665.add ((x11_2).toNat * 9)).block, (ad665.add ((x11_2).toNat * 9)).off + 2, none⟩ = some (.int .i64 ((rd_T44 t660 x11_2).f2)) ∧ w'.cell? ⟨(ad665.add ((x11_2).toNat * 9)).block, (ad665.add ((x11_2).toNat * 9)).off + 3, none⟩ = some (.int .u64 ((rd_T44 t660 x11_2).f3.f0)) ∧ w'.cell? ⟨(ad665.add ((x11_2).toNat * 9)).block, (ad665.add ((x11_2).toNat * 9)).off + 4, none⟩ = some (.bool ((rd_T44 t660 x11_2).f3.f1)) ∧ w'.cell? ⟨(ad665.add ((x11_2).toNat * 9)).block, (ad665.add ((x11_2).toNat * 9)).off + 5, none⟩ = some (.int .i64 ((rd_T44 t660 x11_2).f3.f2.f0)) ∧ w'.cell? ⟨(ad665.add ((x11_2).toNat * 9)).block, (ad665.add ((x11_2).toNat * 9)).off + 6, none⟩ = some (.int .u64 ((rd_T44 t660 x11_2).f3.f2.f1)) ∧ w'.cell? ⟨(ad665.add ((x11_2).toNat * 9)).block, (ad665.add ((x11_2).toNat * 9)).off + 7, none⟩ = some (.int .i64 ((rd_T44 t660 x11_2).f3.f3)) ∧ w'.cell? ⟨(ad665.add ((x11_2).toNat * 9)).block, (ad665.add ((x11_2).toNat * 9)).off + 8, none⟩ = some (.int .i64 ((rd_T44 t660 x11_2).f3.f4)) ∧ w'.cell? (ad665.add ((x11_2).toNat * 9)) = some (.slice A681_0 ((rd_T44 t660 x11_2).f0).length c681_0) ∧ w'.cell? ⟨(ad665.add ((x11_2).toNat * 9)).block, (ad665.add ((x11_2).toNat * 9)).off + 1, none⟩ = some (.int .i64 ((rd_T44 t660 x11_2).f1)) ∧ w'.cell? ⟨(ad665.add ((x11_2).toNat * 9)).block, (ad665.add ((x11_2).toNat * 9)).off + 2, none⟩ = some (.int .i64 ((rd_T44 t660 x11_2).f2)) ∧ w'.cell? ⟨(ad665.add ((x11_2).toNat * 9)).block, (ad665.add ((x11_2).toNat * 9)).off + 3, none⟩ = some (.int .u64 ((rd_T44 t660 x11_2).f3.f0)) ∧ w'.cell? ⟨(ad665.add ((x11_2).toNat * 9)).block, (ad665.add ((x11_2).toNat * 9)).off + 4, none⟩ = some (.bool ((rd_T44 t660 x11_2).f3.f1)) ∧ w'.cell? ⟨(ad665.add ((x11_2).toNat * 9)).block, (ad665.add ((x11_2).toNat * 9)).off + 5, none⟩ = some (.int .i64 ((rd_T44 t660 x11_2).f3.f2.f0)) ∧ w'.cell? ⟨(ad665.add ((x11_2).toNat * 9)).block, (ad665.add ((x11_2).toNat * 9)).off + 6, none⟩ = some (.int .u64 ((rd_T44 t660 x11_2).f3.f2.f1)) ∧ w'.cell? ⟨(ad665.add ((x11_2).toNat * 9)).block, (ad665.add ((x11_2).toNat * 9)).off + 7, none⟩ = some (.int .i64 ((rd_T44 t660 x11_2).f3.f3)) ∧ w'.cell? ⟨(ad665.add ((x11_2).toNat * 9)).block, (ad665.add ((x11_2).toNat * 9)).off + 8, none⟩ = some (.int .i64 ((rd_T44 t660 x11_2).f3.f4))) (ds := []) #[false, false, false, false, false, false, false, false, false, false, false, false, false, false, false, false, false, false, false, false, false, false, false, false, false, false, false, false, false, false, false, false, false, false, false, false, false, false, false, false, false, false, false, false, false, false, false, false, false, false, false, false, false, false, false, false, false, false] (by kernel_rfl) rfl rfl ⟨(blk_cell BK680.out 0).trans rfl, (blk_cell BK680.out 1).trans rfl, (blk_cell BK680.out 2).trans rfl, (blk_cell BK680.out 3).trans rfl, (blk_cell BK680.out 4).trans rfl, (blk_cell BK680.out 5).trans rfl, (blk_cell BK680.out 6).trans rfl, (blk_cell BK680.out 7).trans rfl, (blk_cell BK680.out 8).trans rfl, hx681_0, hx681_1, hx681_2, hx681_3, hx681_4, hx681_5, hx681_6, hx681_7, hx681_8, hx682_0, hx682_1, hx682_2, hx682_3, hx682_4, hx682_5, hx682_6, hx682_7, hx682_8, hx683_0, hx683_1, hx683_2, hx683_3, hx683_4, hx683_5, hx683_6, hx683_7, hx683_8, hx684_0, hx684_1, hx684_2, hx684_3, hx684_4, hx684_5, hx684_6, hx684_7, hx684_8⟩ (fun hHeld => ?_); refine with_tabW rickyardlaw17_AskEach.tab10 rickyardlaw17_AskEach.bits10 (fun HT_ HW_ => ?_)
             generalize w98.drew = w133 at HO_9 HL665_0 HL666_0 HO669 BK655 BK656 BK680 HB HL681_0 HL682_0 HL683_0 HL684_0 HR681_0 HR682_0 HR683_0 HR684_0 hx681_0 hx681_1 hx681_2 hx681_3 hx681_4 hx681_5 hx681_6 hx681_7 hx681_8 hx682_0 hx682_1 hx682_2 hx682_3 hx682_4 hx682_5 hx682_6 hx682_7 hx682_8 hx683_0 hx683_1 hx683_2 hx683_3 hx683_4 hx683_5 hx683_6 hx683_7 hx683_8 hx684_0 hx684_1 hx684_2 hx684_3 hx684_4 hx684_5 hx684_6 hx684_7 hx684_8 hHeld ⊢
             refine pureD 0 61 HT_ ?_
             refine pureD 1 62 HT_ ?_
             refine pureD 2 63 HT_ ?_
             refine pureD 3 64 HT_ ?_
             refine pureD 4 65 HT_ ?_
             refine pureD 5 66 HT_ ?_
             refine pureD 6 67 HT_ ?_
             refine pureD 7 68 HT_ ?_
             refine pureD 8 69 HT_ ?_
             refine pureD 10 71 HT_ ?_
             refine pureD 11 72 HT_ ?_
             refine pureD 12 73 HT_ ?_
             refine pureD 13 74 HT_ ?_
             refine pureD 14 75 HT_ ?_
             refine takeD 9 70 HT_ HW_ hHeld ?_
             refine takeD 15 76 HT_ HW_ hHeld ?_
             refine pureD 16 77 HT_ ?_
             refine pureD 17 78 HT_ ?_
             refine pureD 18 79 HT_ ?_
             refine pureD 19 80 HT_ ?_
             refine pureD 21 82 HT_ ?_
             refine pureD 22 83 HT_ ?_
             refine pureD 23 84 HT_ ?_
             refine pureD 24 85 HT_ ?_
             refine takeD 20 81 HT_ HW_ hHeld ?_
             refine takeD 25 86 HT_ HW_ hHeld ?_
             refine pureD 26 87 HT_ ?_
             refine pureD 27 88 HT_ ?_
             refine pureD 28 89 HT_ ?_
             refine pureD 29 90 HT_ ?_
             refine pureD 31 92 HT_ ?_
             refine pureD 32 93 HT_ ?_
             refine pureD 33 94 HT_ ?_
             refine pureD 34 95 HT_ ?_
             refine takeD 30 91 HT_ HW_ hHeld ?_
             refine takeD 35 96 HT_ HW_ hHeld ?_
             refine pureD 36 97 HT_ ?_
             refine pureD 37 98 HT_ ?_
             refine pureD 38 99 HT_ ?_
             refine pureD 39 100 HT_ ?_
             refine pureD 40 101 HT_ ?_
             refine pureD 41 102 HT_ ?_
             refine pureD 42 103 HT_ ?_
             refine pureD 44 105 HT_ ?_
             refine takeD 43 104 HT_ HW_ hHeld ?_
             refine takeD 45 106 HT_ HW_ hHeld ?_
             refine pureD 46 107 HT_ ?_
             refine pureD 47 108 HT_ ?_
             refine pureU 48 109 HT_ ?_
             refine pureU 49 110 HT_ ?_
             refine pureU 50 111 HT_ ?_
             refine pureU 51 112 HT_ ?_
             refine pureU 52 113 HT_ ?_
             refine pureU 53 114 HT_ ?_
             refine pureU 54 115 HT_ ?_
             refine pureU 55 116 HT_ ?_
             refine pureD 56 117 HT_ ?_
             refine pureD 57 118 HT_ ?_
             refine done_ (done_of HT_.out (by kernel_rfl)) ?_
             try go_wp2
             go_roundg k2
             case measure => have := HJ4.out; have := HK2.out; omega
             case rel => exact ⟨(wrap64 (x11_2 + 1)), relA, H', ⟨by have := HJ4.out; have := HK2.out; omega⟩, ⟨by (with_reducible repeat (first | apply Kd.R_alloc | apply Kd.R_drewN | apply Kd.R_drew)); exact Kd.R_mono HO_9.out (fun _ hk => trivial)⟩, ⟨blkA BK655.out⟩, ⟨blkA BK656.out⟩, ⟨belD HB.out GE655.out GE656.out GE680.out⟩⟩
        ·replace c26 := Bool.eq_false_iff.mpr c26
         subst c26
         have H1 : (none) = some r := by rw [if_neg (show ¬ (false = true) by decide)] at H; exact H
         clear H
         have H := H1
         clear H1
         cases H
       ·rw [if_neg c25] at H
        cases H
      ·rw [if_neg c23] at H
       cases H
     ·rw [if_neg c22] at H
      have c22b0 := decide_eq_false c22
      clear c22
      replace H := bnA H
      obtain ⟨⟨t686, t689, t690, t691, t692, t693, t694, t695, t696, t697, t698⟩, A168, H⟩ := H
      replace H : (rickyardlaw17_AskEach.l1 k2 t660 t697 t698 false 0 l3_0 a3_1 a3_2 a3_3 a3_4) = some r := H
      have H' := Aside0.mk H
      clear H
      obtain ⟨Ao169, co169, eo169⟩ := Kd.R_slice HO_9.out
      subst eo169
      have hnb170 := NB655_656.out
      have hnc170 := NB656_655.out
      obtain ⟨hcz171_0, hcz171_1, hfz171_0, hfz171_1⟩ := blk2 BK655
      obtain ⟨hcz172_0, hcz172_1, hcz172_2, hcz172_3, hcz172_4, hfz172_0, hfz172_1, hfz172_2, hfz172_3, hfz172_4⟩ := blk5 BK656
      go_wp2_with (first | ((with_reducible refine gate_callee (f := 17) rfl ?_); refine goesL_ (some 127) rfl rfl Try.func17 (by kernel_rfl) rfl #[.agg #[.slice A0_0 l0_0.length c0_0, .int .i64 a0_1], .int .i64 a1, .slice A2 l2.length c2, .slice A3_0 l3_0.length c3_0, .int .i64 a3_1] rfl argA ?_; (with_reducible refine (ask_Get.calls k2 _ _ l0_0 a0_1 a1 _ _ l2 _ _ l3_0 a3_1 t686 t689 t690 t691 t692 t693 t694 t695 t696 t697 t698 _ ?side1 ?side2 ?side3 ?side4 ?side5 ?side6 A168.out).mono ?_); (case side1 => exact cb1 HR0_0 HB); (case side2 => exact HC0_0.out); (case side3 => exact cb1 HR2 HB); (case side4 => exact HC2.out); (case side5 => exact cb1 HR3_0 HB); (case side6 => exact HC3_0.out); rintro e w173 ⟨v687, rfl, ho0, hb⟩; refine ⟨_, rfl, ?_⟩; have HO688 := Aside0.mk (Kd.R_lower ho0 (below_size (belC HB.out GE655.out GE656.out))); replace HO_9 := Aside0.mk (Kd.R_elder' (rowA HO_9.out) (Kd.R_base ho0) hb); replace BK655 := blkB BK655 hb; replace BK656 := blkB BK656 hb; replace HB := bs3 HB GE655 GE656 hb; (try clear hb); (try clear ho0)) | ((with_reducible refine gate_dst (N := 15) rfl ?_); refine boxA 15 #[.slice none 0 0, .int .i64 0, .int .i64 0, .int .u64 0, .bool false, .int .i64 0, .int .u64 0, .int .i64 0, .int .i64 0] 44 ?_; intro gb699 hg w174 hbox hb; have BK699 := Aside0.mk (hbox); have GW699 := ge1 hg (belC HB.out GE655.out GE656.out); have GE699 := GW699; have NB655_699 := neL hg BK655; have NB699_655 := neR hg BK655; have NB656_699 := neL hg BK656; have NB699_656 := neR hg BK656; replace HO_9 := Aside0.mk (Kd.R_below (Kd.R_elderB (rowA HO_9.out) gb699 (Nat.le_of_eq hg.symm)) hb); replace HO688 := Aside0.mk (Kd.R_below (rowA HO688.out) hb); replace BK655 := blkB BK655 hb; replace BK656 := blkB BK656 hb; replace HB := bs3 HB GE655 GE656 hb; clear hb hbox hg; obtain ⟨Ao175, co175, eo175⟩ := Kd.R_slice HO688.out; subst eo175; have hnb176 := NB699_655.out; have hnc176 := NB655_699.out; have hnb177 := NB699_656.out; have hnc177 := NB656_699.out; obtain ⟨hcz178_0, hcz178_1, hcz178_2, hcz178_3, hcz178_4, hcz178_5, hcz178_6, hcz178_7, hcz178_8, hfz178_0, hfz178_1, hfz178_2, hfz178_3, hfz178_4, hfz178_5, hfz178_6, hfz178_7, hfz178_8⟩ := blk9 BK699))
      go_loopg [18, 19] k2 (fun kq v18 v19 w' => ∃ (x18_3 : Bool) (x19_3 : Int), v18 = .bool x18_3 ∧ v19 = .int .i64 x19_3 ∧ Aside0 (rickyardlaw17_AskEach.l1 kq t660 t697 t698 x18_3 x19_3 l3_0 a3_1 a3_2 a3_3 a3_4 = some r) ∧ Aside0 (kq ≤ k2) ∧ Aside0 (Kd.R k44 44 w' w.heap.size (fun k_ => some k_ ≠ ((.slice Ao175 t686.length co175) : Value).ownBlock ∧ k_ ≠ gb699) (.slice Ao169 t660.length co169) t660) ∧ Aside0 (Kd.R Kd.string 9 w' w.heap.size (fun _ => True) (.slice Ao175 t686.length co175) t686) ∧ Aside0 (w'.heap[gb655]? = some (.cells #[(.slice A0_0 l0_0.length c0_0), .int .i64 a0_1] 24 (0, 0))) ∧ Aside0 (w'.heap[gb656]? = some (.cells #[(.slice A3_0 l3_0.length c3_0), .int .i64 a3_1, .int .i64 a3_2, .int .i64 a3_3, .int .i64 a3_4] 28 (0, 0))) ∧ Aside0 (w'.heap[gb699]? = some (.cells #[(.slice Ao175 t686.length co175), .int .i64 t689, .int .i64 t690, .int .u64 t691, .bool t692, .int .i64 t693, .int .u64 t694, .int .i64 t695, .int .i64 t696] 44 (0, 0))) ∧ Aside0 (Below w.heap.size w w'))
      case atStart => exact ⟨(false), (0), relA, relA, H', ⟨Nat.le_refl _⟩, ⟨by (with_reducible repeat (first | apply Kd.R_alloc | apply Kd.R_drewN | apply Kd.R_drew)); exact Kd.R_mono (Kd.R_far (p := ⟨gb699, 8, none⟩) (Kd.R_far (p := ⟨gb699, 7, none⟩) (Kd.R_far (p := ⟨gb699, 6, none⟩) (Kd.R_far (p := ⟨gb699, 5, none⟩) (Kd.R_far (p := ⟨gb699, 4, none⟩) (Kd.R_far (p := ⟨gb699, 3, none⟩) (Kd.R_far (p := ⟨gb699, 2, none⟩) (Kd.R_far (p := ⟨gb699, 1, none⟩) (Kd.R_far (p := ⟨gb699, 0, none⟩) (Kd.R_mono HO_9.out (fun k_ hk => (⟨hk, hk.2⟩ : _ ∧ k_ ≠ gb699))) (fun _ hk => hk.2) (.slice Ao175 t686.length co175)) (fun _ hk => hk.2) (.int .i64 t689)) (fun _ hk => hk.2) (.int .i64 t690)) (fun _ hk => hk.2) (.int .u64 t691)) (fun _ hk => hk.2) (.bool t692)) (fun _ hk => hk.2) (.int .i64 t693)) (fun _ hk => hk.2) (.int .u64 t694)) (fun _ hk => hk.2) (.int .i64 t695)) (fun _ hk => hk.2) (.int .i64 t696)) (fun _ hk => ⟨hk.1.1.2, hk.1.2⟩)⟩, ⟨by (with_reducible repeat (first | apply Kd.R_alloc | apply Kd.R_drewN | apply Kd.R_drew)); exact Kd.R_mono (Kd.R_far (p := ⟨gb699, 8, none⟩) (Kd.R_far (p := ⟨gb699, 7, none⟩) (Kd.R_far (p := ⟨gb699, 6, none⟩) (Kd.R_far (p := ⟨gb699, 5, none⟩) (Kd.R_far (p := ⟨gb699, 4, none⟩) (Kd.R_far (p := ⟨gb699, 3, none⟩) (Kd.R_far (p := ⟨gb699, 2, none⟩) (Kd.R_far (p := ⟨gb699, 1, none⟩) (Kd.R_far (p := ⟨gb699, 0, none⟩) (Kd.R_types HO688.out BK699.out (by decide)) (fun _ hk => hk.2) (.slice Ao175 t686.length co175)) (fun _ hk => hk.2) (.int .i64 t689)) (fun _ hk => hk.2) (.int .i64 t690)) (fun _ hk => hk.2) (.int .u64 t691)) (fun _ hk => hk.2) (.bool t692)) (fun _ hk => hk.2) (.int .i64 t693)) (fun _ hk => hk.2) (.int .u64 t694)) (fun _ hk => hk.2) (.int .i64 t695)) (fun _ hk => hk.2) (.int .i64 t696)) (fun _ hk => trivial)⟩, ⟨putB BK655.out NB655_699.out⟩, ⟨putB BK656.out NB656_699.out⟩, ⟨putA BK699.out⟩, ⟨belD HB.out GE655.out GE656.out GE699.out⟩⟩
      case round =>
       clear H'
       try clear c1
       try clear c2
       try clear p2
       try clear c3
       try clear c6
       try clear c17
       try clear c22
       try clear c22b0
       try clear c23
       try clear c66
       try clear c170
       try clear c176
       try clear c177
       try clear hcz171_0 hcz171_1
       try clear hcz172_0 hcz172_1 hcz172_2 hcz172_3 hcz172_4
       try clear hcz178_0 hcz178_1 hcz178_2 hcz178_3 hcz178_4 hcz178_5 hcz178_6 hcz178_7 hcz178_8
       try clear hfz171_0 hfz171_1
       try clear hfz172_0 hfz172_1 hfz172_2 hfz172_3 hfz172_4
       try clear hfz178_0 hfz178_1 hfz178_2 hfz178_3 hfz178_4 hfz178_5 hfz178_6 hfz178_7 hfz178_8
       obtain ⟨x18_3, x19_3, rfl, rfl, HA, HK3, HO_9, HO_700000, BK655, BK656, BK699, HB⟩ := hrel
       cases gk with
       | zero => exact absurd HA.out (by simp [rickyardlaw17_AskEach.l1])
       | succ k3 =>
        have H := HA.out
        clear HA
        simp only [rickyardlaw17_AskEach.l1] at H
        by_cases c179 : x19_3 < (t660.length : Int)
        ·rw [if_pos c179] at H
         have c179b0 := decide_eq_true c179
         clear c179
         by_cases c180 : x18_3 = true
         ·subst c180
          have H1 : (rickyardlaw17_AskEach.l1 k3 t660 t697 t698 true (wrap64 (x19_3 + 1)) l3_0 a3_1 a3_2 a3_3 a3_4) = some r := by rw [if_pos rfl] at H; exact H
          clear H
          have H := H1
          clear H1
          have H' := Aside0.mk H
          clear H
          try go_wp2
          replace HO_9 := Aside0.mk (Kd.R_drew HO_9.out)
          replace HO_700000 := Aside0.mk (Kd.R_drew HO_700000.out)
          replace BK655 := Aside0.mk (blk_drew BK655.out)
          replace BK656 := Aside0.mk (blk_drew BK656.out)
          replace BK699 := Aside0.mk (blk_drew BK699.out)
          replace HB := Aside0.mk (below_drew1 HB.out)
          refine start_ (n := 39) (S := fun w' => True) (ds := []) #[false, false, false, false, false, false, false, false, false, false, false, false, false, false, false, false, false, false, false, false, false, false, false, false, false, false, false, false, false, false, false, false, false, false, false, false, false, false, false] (by kernel_rfl) rfl rfl trivial (fun hHeld => ?_); refine with_tabW rickyardlaw17_AskEach.tab17 rickyardlaw17_AskEach.bits17 (fun HT_ HW_ => ?_)
          generalize wr.drew = w181 at HO_9 HO_700000 BK655 BK656 BK699 HB hHeld ⊢
          refine pureD 0 137 HT_ ?_
          refine pureD 1 138 HT_ ?_
          refine pureU 2 139 HT_ ?_
          refine pureU 3 140 HT_ ?_
          refine pureU 4 141 HT_ ?_
          refine pureU 5 142 HT_ ?_
          refine pureU 6 143 HT_ ?_
          refine pureU 7 144 HT_ ?_
          refine pureU 8 145 HT_ ?_
          refine pureU 9 146 HT_ ?_
          refine pureU 10 147 HT_ ?_
          refine pureU 11 148 HT_ ?_
          refine pureU 12 149 HT_ ?_
          refine pureU 13 150 HT_ ?_
          refine pureU 14 151 HT_ ?_
          refine pureU 15 152 HT_ ?_
          refine pureU 16 153 HT_ ?_
          refine pureU 17 154 HT_ ?_
          refine pureU 18 155 HT_ ?_
          refine pureU 19 156 HT_ ?_
          refine pureU 20 157 HT_ ?_
          refine pureU 21 158 HT_ ?_
          refine pureU 22 159 HT_ ?_
          refine pureU 23 160 HT_ ?_
          refine pureU 24 161 HT_ ?_
          refine pureU 25 162 HT_ ?_
          refine pureU 26 163 HT_ ?_
          refine pureU 27 164 HT_ ?_
          refine pureU 28 165 HT_ ?_
          refine pureU 29 166 HT_ ?_
          refine pureU 30 167 HT_ ?_
          refine pureU 31 168 HT_ ?_
          refine pureU 32 169 HT_ ?_
          refine pureU 33 170 HT_ ?_
          refine pureU 34 171 HT_ ?_
          refine pureU 35 172 HT_ ?_
          refine pureU 36 173 HT_ ?_
          refine pureD 37 174 HT_ ?_
          refine pureD 38 18 HT_ ?_
          refine done_ (done_of HT_.out (by kernel_rfl)) ?_
          try go_wp2
          go_roundg k3
          case measure => have := HJ4.out; have := HK2.out; have := HK3.out; omega
          case rel => exact ⟨(true), (wrap64 (x19_3 + 1)), relA, relA, H', ⟨by have := HJ4.out; have := HK2.out; have := HK3.out; omega⟩, ⟨rowA HO_9.out⟩, ⟨rowA HO_700000.out⟩, ⟨blkA BK655.out⟩, ⟨blkA BK656.out⟩, ⟨blkA BK699.out⟩, ⟨belD HB.out GE655.out GE656.out GE699.out⟩⟩
         ·replace c180 := Bool.eq_false_iff.mpr c180
          subst c180
          have H1 : (if 0 ≤ x19_3 then ((rickyardref06_Order.f k3 ((rd_T44 t660 x19_3).f0) l3_0).bind fun t701 => (if t701 = 0 then (if ((rd_T44 t660 x19_3).f1) ≤ a3_1 then (rickyardlaw17_AskEach.l1 k3 t660 t697 t698 (decide ((wrap64 (a3_1 - ((rd_T44 t660 x19_3).f1))) < ((rd_T44 t660 x19_3).f2))) (wrap64 (x19_3 + 1)) l3_0 a3_1 a3_2 a3_3 a3_4) else (rickyardlaw17_AskEach.l1 k3 t660 t697 t698 false (wrap64 (x19_3 + 1)) l3_0 a3_1 a3_2 a3_3 a3_4)) else (rickyardlaw17_AskEach.l1 k3 t660 t697 t698 false (wrap64 (x19_3 + 1)) l3_0 a3_1 a3_2 a3_3 a3_4))) else (none)) = some r := by rw [if_neg (show ¬ (false = true) by decide)] at H; exact H
          clear H
          have H := H1
          clear H1
          by_cases c182 : 0 ≤ x19_3
          ·rw [if_pos c182] at H
           have c182b0 := decide_eq_true c182
           clear c182
           replace H := bnA H
           obtain ⟨t701, A183, H⟩ := H
           by_cases c184 : t701 = 0
           ·rw [if_pos c184] at H
            have c184b0 := beq_iff_eq.mpr c184
            have c184b1 := bne_eq_false_iff_eq.mpr c184
            clear c184
            by_cases c185 : ((rd_T44 t660 x19_3).f1) ≤ a3_1
            ·rw [if_pos c185] at H
             have c185b0 := decide_eq_true c185
             clear c185
             have H' := Aside0.mk H
             clear H
             try go_wp2
             replace HO_9 := Aside0.mk (Kd.R_drew HO_9.out)
             replace HO_700000 := Aside0.mk (Kd.R_drew HO_700000.out)
             replace BK655 := Aside0.mk (blk_drew BK655.out)
             replace BK656 := Aside0.mk (blk_drew BK656.out)
             replace BK699 := Aside0.mk (blk_drew BK699.out)
             replace HB := Aside0.mk (below_drew1 HB.out)
             have p700 : 0 ≤ (x19_3 : Int) := of_decide_eq_true asmA
             have q700 : x19_3 < (t660.length : Int) := of_decide_eq_true asmA
             obtain ⟨ad700, A700_0, c700_0, e700, hx700_0, hx700_1, hx700_2, hx700_3, hx700_4, hx700_5, hx700_6, hx700_7, hx700_8, hl700_0, hi700_0⟩ := at_T44 (Kd.R_reads' HO_9.out).2.2 x19_3 p700 q700
             cases e700
             obtain ⟨ce700, hce700, hMe700, hcc700⟩ := Kd.R_get HO_9.out z44 x19_3 p700 (by first | exact q700 | exact of_decide_eq_true asmA | (have e_ := (Kd.R_reads' HO_9.out).1; omega))
             obtain ⟨ve700_0, rfl, ge700_0⟩ := k44_openM hMe700
             have hv700_0 := hcc700 0 _ rfl
             rw [Nat.add_zero] at hv700_0
             replace hv700_0 := Option.some.inj (hv700_0.symm.trans hx700_0)
             rw [hv700_0] at ge700_0
             have HL700_0 := Aside0.mk (show Kd.R Kd.string 9 _ _ _ _ ((rd_T44 t660 x19_3).f0) from ge700_0)
             clear hv700_0 ge700_0
             clear hcc700 hce700
             have HR700_0 := Aside0.mk hi700_0
             have HC700_0 := Aside0.mk hl700_0
             clear hi700_0 hl700_0
             replace p700 := eq_true p700
             replace q700 := eq_true q700
             have p702 : 0 ≤ (x19_3 : Int) := of_decide_eq_true asmA
             have q702 : x19_3 < (t660.length : Int) := of_decide_eq_true asmA
             obtain ⟨ad702, A702_0, c702_0, e702, hx702_0, hx702_1, hx702_2, hx702_3, hx702_4, hx702_5, hx702_6, hx702_7, hx702_8, hl702_0, hi702_0⟩ := at_T44 (Kd.R_reads' HO_9.out).2.2 x19_3 p702 q702
             obtain rfl : ad700 = ad702 := (by injection e702)
             obtain ⟨ce702, hce702, hMe702, hcc702⟩ := Kd.R_get HO_9.out z44 x19_3 p702 (by first | exact q702 | exact of_decide_eq_true asmA | (have e_ := (Kd.R_reads' HO_9.out).1; omega))
             obtain ⟨ve702_0, rfl, ge702_0⟩ := k44_openM hMe702
             have hv702_0 := hcc702 0 _ rfl
             rw [Nat.add_zero] at hv702_0
             replace hv702_0 := Option.some.inj (hv702_0.symm.trans hx702_0)
             rw [hv702_0] at ge702_0
             have HL702_0 := Aside0.mk (show Kd.R Kd.string 9 _ _ _ _ ((rd_T44 t660 x19_3).f0) from ge702_0)
             clear hv702_0 ge702_0
             clear hcc702 hce702
             have HR702_0 := Aside0.mk hi702_0
             have HC702_0 := Aside0.mk hl702_0
             clear hi702_0 hl702_0
             replace p702 := eq_true p702
             replace q702 := eq_true q702
             have ea_ := Option.some.inj (hx700_0.symm.trans hx702_0)
             injection ea_ with ea_ en_ ec_
             subst ea_
             subst ec_
             clear en_
             have p703 : 0 ≤ (x19_3 : Int) := of_decide_eq_true asmA
             have q703 : x19_3 < (t660.length : Int) := of_decide_eq_true asmA
             obtain ⟨ad703, A703_0, c703_0, e703, hx703_0, hx703_1, hx703_2, hx703_3, hx703_4, hx703_5, hx703_6, hx703_7, hx703_8, hl703_0, hi703_0⟩ := at_T44 (Kd.R_reads' HO_9.out).2.2 x19_3 p703 q703
             obtain rfl : ad700 = ad703 := (by injection e703)
             obtain ⟨ce703, hce703, hMe703, hcc703⟩ := Kd.R_get HO_9.out z44 x19_3 p703 (by first | exact q703 | exact of_decide_eq_true asmA | (have e_ := (Kd.R_reads' HO_9.out).1; omega))
             obtain ⟨ve703_0, rfl, ge703_0⟩ := k44_openM hMe703
             have hv703_0 := hcc703 0 _ rfl
             rw [Nat.add_zero] at hv703_0
             replace hv703_0 := Option.some.inj (hv703_0.symm.trans hx703_0)
             rw [hv703_0] at ge703_0
             have HL703_0 := Aside0.mk (show Kd.R Kd.string 9 _ _ _ _ ((rd_T44 t660 x19_3).f0) from ge703_0)
             clear hv703_0 ge703_0
             clear hcc703 hce703
             have HR703_0 := Aside0.mk hi703_0
             have HC703_0 := Aside0.mk hl703_0
             clear hi703_0 hl703_0
             replace p703 := eq_true p703
             replace q703 := eq_true q703
             have ea_ := Option.some.inj (hx700_0.symm.trans hx703_0)
             injection ea_ with ea_ en_ ec_
             subst ea_
             subst ec_
             clear en_
             have p704 : 0 ≤ (x19_3 : Int) := of_decide_eq_true asmA
             have q704 : x19_3 < (t660.length : Int) := of_decide_eq_true asmA
             obtain ⟨ad704, A704_0, c704_0, e704, hx704_0, hx704_1, hx704_2, hx704_3, hx704_4, hx704_5, hx704_6, hx704_7, hx704_8, hl704_0, hi704_0⟩ := at_T44 (Kd.R_reads' HO_9.out).2.2 x19_3 p704 q704
             obtain rfl : ad700 = ad704 := (by injection e704)
             obtain ⟨ce704, hce704, hMe704, hcc704⟩ := Kd.R_get HO_9.out z44 x19_3 p704 (by first | exact q704 | exact of_decide_eq_true asmA | (have e_ := (Kd.R_reads' HO_9.out).1; omega))
             obtain ⟨ve704_0, rfl, ge704_0⟩ := k44_openM hMe704
             have hv704_0 := hcc704 0 _ rfl
             rw [Nat.add_zero] at hv704_0
             replace hv704_0 := Option.some.inj (hv704_0.symm.trans hx704_0)
             rw [hv704_0] at ge704_0
             have HL704_0 := Aside0.mk (show Kd.R Kd.string 9 _ _ _ _ ((rd_T44 t660 x19_3).f0) from ge704_0)
             clear hv704_0 ge704_0
             clear hcc704 hce704
             have HR704_0 := Aside0.mk hi704_0
             have HC704_0 := Aside0.mk hl704_0
             clear hi704_0 hl704_0
             replace p704 := eq_true p704
             replace q704 := eq_true q704
             have ea_ := Option.some.inj (hx700_0.symm.trans hx704_0)
             injection ea_ with ea_ en_ ec_
             subst ea_
             subst ec_
             clear en_
             refine start_ (n := 39) (S := fun w' => w'.cell? ⟨gb656, 0, none⟩ = some (.slice A3_0 l3_0.length c3_0) ∧ w'.cell? ⟨gb656, 1, none⟩ = some (.int .i64 a3_1) ∧ w'.cell? ⟨gb656, 2, none⟩ = some (.int .i64 a3_2) ∧ w'.cell? ⟨gb656, 3, none⟩ = some (.int .i64 a3_3) ∧ w'.cell? ⟨gb656, 4, none⟩ = some (.int .i64 a3_4) ∧ w'.cell? (ad700.add ((x19_3).toNat * 9)) = some (.slice A700_0 ((rd_T44 t660 x19_3).f0).length c700_0) ∧ w'.cell? ⟨(ad700.add ((x19_3).toNat * 9)).block, (ad700.add ((x19_3).toNat * 9)).off + 1, none⟩ = some (.int .i64 ((rd_T44 t660 x19_3).f1)) ∧ w'.cell? ⟨(ad700.add ((x19_3).toNat * 9)).block, (ad700.add ((x19_3).toNat * 9)).off + 2, none⟩ = some (.int .i64 ((rd_T44 t660 x19_3).f2)) ∧ w'.cell? ⟨(ad700.add ((x19_3).toNat * 9)).block, (ad700.add ((x19_3).toNat * 9)).off + 3, none⟩ = some (.int .u64 ((rd_T44 t660 x19_3).f3.f0)) ∧ w'.cell? ⟨(ad700.add ((x19_3).toNat * 9)).block, (ad700.add ((x19_3).toNat * 9)).off + 4, none⟩ = some (.bool ((rd_T44 t660 x19_3).f3.f1)) ∧ w'.cell? ⟨(ad700.add ((x19_3).toNat * 9)).block, (ad700.add ((x19_3).toNat * 9)).off + 5, none⟩ = some (.int .i64 ((rd_T44 t660 x19_3).f3.f2.f0)) ∧ w'.cell? ⟨(ad700.add ((x19_3).toNat * 9)).block, (ad700.add ((x19_3).toNat * 9)).off + 6, none⟩ = some (.int .u64 ((rd_T44 t660 x19_3).f3.f2.f1)) ∧ w'.cell? ⟨(ad700.add ((x19_3).toNat * 9)).block, (ad700.add ((x19_3).toNat * 9)).off + 7, none⟩ = some (.int .i64 ((rd_T44 t660 x19_3).f3.f3)) ∧ w'.cell? ⟨(ad700.add ((x19_3).toNat * 9)).block, (ad700.add ((x19_3).toNat * 9)).off + 8, none⟩ = some (.int .i64 ((rd_T44 t660 x19_3).f3.f4)) ∧ w'.cell? (ad700.add ((x19_3).toNat * 9)) = some (.slice A700_0 ((rd_T44 t660 x19_3).f0).length c700_0) ∧ w'.cell? ⟨(ad700.add ((x19_3).toNat * 9)).block, (ad700.add ((x19_3).toNat * 9)).off + 1, none⟩ = some (.int .i64 ((rd_T44 t660 x19_3).f1)) ∧ w'.cell? ⟨(ad700.add ((x19_3).toNat * 9)).block, (ad700.add ((x19_3).toNat * 9)).off + 2, none⟩ = some (.int .i64 ((rd_T44 t660 x19_3).f2)) ∧ w'.cell? ⟨(ad700.add ((x19_3).toNat * 9)).block, (ad700.add ((x19_3).toNat * 9)).off + 3, none⟩ = some (.int .u64 ((rd_T44 t660 x19_3).f3.f0)) ∧ w'.cell? ⟨(ad700.add ((x19_3).toNat * 9)).block, (ad700.add ((x19_3).toNat * 9)).off + 4, none⟩ = some (.bool ((rd_T44 t660 x19_3).f3.f1)) ∧ w'.cell? ⟨(ad700.add ((x19_3).toNat * 9)).block, (ad700.add ((x19_3).toNat * 9)).off + 5, none⟩ = some (.int .i64 ((rd_T44 t660 x19_3).f3.f2.f0)) ∧ w'.cell? ⟨(ad700.add ((x19_3).toNat * 9)).block, (ad700.add ((x19_3).toNat * 9)).off + 6, none⟩ = some (.int .u64 ((rd_T44 t660 x19_3).f3.f2.f1)) ∧ w'.cell? ⟨(ad700.add ((x19_3).toNat * 9)).block, (ad700.add ((x19_3).toNat * 9)).off + 7, none⟩ = some (.int .i64 ((rd_T44 t660 x19_3).f3.f3)) ∧ w'.cell? ⟨(ad700.add ((x19_3).toNat * 9)).block, (ad700.add ((x19_3).toNat * 9)).off + 8, none⟩ = some (.int .i64 ((rd_T44 t660 x19_3).f3.f4)) ∧ w'.cell? (ad700.add ((x19_3).toNat * 9)) = some (.slice A700_0 ((rd_T44 t660 x19_3).f0).length c700_0) ∧ w'.cell? ⟨(ad700.add ((x19_3).toNat * 9)).block, (ad700.add ((x19_3).toNat * 9)).off + 1, none⟩ = some (.int .i64 ((rd_T44 t660 x19_3).f1)) ∧ w'.cell? ⟨(ad700.add ((x19_3).toNat * 9)).block, (ad700.add ((x19_3).toNat * 9)).off + 2, none⟩ = some (.int .i64 ((rd_T44 t660 x19_3).f2)) ∧ w'.cell? ⟨(ad700.add ((x19_3).toNat * 9)).block, (ad700.add ((x19_3).toNat * 9)).off + 3, none⟩ = some (.int .u64 ((rd_T44 t660 x19_3).f3.f0)) ∧ w'.cell? ⟨(ad700.add ((x19_3).toNat * 9)).block, (ad700.add ((x19_3).toNat * 9)).off + 4, none⟩ = some (.bool ((rd_T44 t660 x19_3).f3.f1)) ∧ w'.cell? ⟨(ad700.add ((x19_3).toNat * 9)).block, (ad700.add ((x19_3).toNat * 9)).off + 5, none⟩ = some (.int .i64 ((rd_T44 t660 x19_3).f3.f2.f0)) ∧ w'.cell? ⟨(ad700.add ((x19_3).toNat * 9)).block, (ad700.add ((x19_3).toNat * 9)).off + 6, none⟩ = some (.int .u64 ((rd_T44 t660 x19_3).f3.f2.f1)) ∧ w'.cell? ⟨(ad700.add ((x19_3).toNat * 9)).block, (ad700.add ((x19_3).toNat * 9)).off + 7, none⟩ = some (.int .i64 ((rd_T44 t660 x19_3).f3.f3)) ∧ w'.cell? ⟨(ad700.add ((x19_3).toNat * 9)).block, (ad700.add ((x19_3).toNat * 9)).off + 8, none⟩ = some (.int .i64 ((rd_T44 t660 x19_3).f3.f4)) ∧ w'.cell? (ad700.add ((x19_3).toNat * 9)) = some (.slice A700_0 ((rd_T44 t660 x19_3).f0).length c700_0) ∧ w'.cell? ⟨(ad700.add ((x19_3).toNat * 9)).block, (ad700.add ((x19_3).toNat * 9)).off + 1, none⟩ = some (.int .i64 ((rd_T44 t660 x19_3).f1)) ∧ w'.cell? ⟨(ad700.add ((x19_3).toNat * 9)).block, (ad700.add ((x19_3).toNat * 9)).off + 2, none⟩ = some (.int .i64 ((rd_T44 t660 x19_3).f2)) ∧ w'.cell? ⟨(ad700.add ((x19_3).toNat * 9)).block, (ad700.add ((x19_3).toNat * 9)).off + 3, none⟩ = some (.int .u64 ((rd_T44 t660 x19_3).f3.f0)) ∧ w'.cell? ⟨(ad700.add ((x19_3).toNat * 9)).block, (ad700.add ((x19_3).toNat * 9)).off + 4, none⟩ = some (.bool ((rd_T44 t660 x19_3).f3.f1)) ∧ w'.cell? ⟨(ad700.add ((x19_3).toNat * 9)).block, (ad700.add ((x19_3).toNat * 9)).off + 5, none⟩ = some (.int .i64 ((rd_T44 t660 x19_3).f3.f2.f0)) ∧ w'.cell? ⟨(ad700.add ((x19_3).toNat * 9)).block, (ad700.add ((x19_3).toNat * 9)).off + 6, none⟩ = some (.int .u64 ((rd_T44 t660 x19_3).f3.f2.f1)) ∧ w'.cell? ⟨(ad700.add ((x19_3).toNat * 9)).block, (ad700.add ((x19_3).toNat * 9)).off + 7, none⟩ = some (.int .i64 ((rd_T44 t660 x19_3).f3.f3)) ∧ w'.cell? ⟨(ad700.add ((x19_3).toNat * 9)).block, (ad700.add ((x19_3).toNat * 9)).off + 8, none⟩ = some (.int .i64 ((rd_T44 t660 x19_3).f3.f4))) (ds := []) #[false, false, false, false, false, false, false, false, false, false, false, false, false, false, false, false, false, false, false, false, false, false, false, false, false, false, false, false, false, false, false, false, false, false, false, false, false, false, false] (by kernel_rfl) rfl rfl ⟨(blk_cell BK656.out 0).trans rfl, (blk_cell BK656.out 1).trans rfl, (blk_cell BK656.out 2).trans rfl, (blk_cell BK656.out 3).trans rfl, (blk_cell BK656.out 4).trans rfl, hx700_0, hx700_1, hx700_2, hx700_3, hx700_4, hx700_5, hx700_6, hx700_7, hx700_8, hx702_0, hx702_1, hx702_2, hx702_3, hx702_4, hx702_5, hx702_6, hx702_7, hx702_8, hx703_0, hx703_1, hx703_2, hx703_3, hx703_4, hx703_5, hx703_6, hx703_7, hx703_8, hx704_0, hx704_1, hx704_2, hx704_3, hx704_4, hx704_5, hx704_6, hx704_7, hx704_8⟩ (fun hHeld => ?_); refine with_tabW rickyardlaw17_AskEach.tab17 rickyardlaw17_AskEach.bits17 (fun HT_ HW_ => ?_)
             generalize wr.drew = w186 at HO_9 HO_700000 BK655 BK656 BK699 HB HL700_0 HL702_0 HL703_0 HL704_0 HR700_0 HR702_0 HR703_0 HR704_0 hx700_0 hx700_1 hx700_2 hx700_3 hx700_4 hx700_5 hx700_6 hx700_7 hx700_8 hx702_0 hx702_1 hx702_2 hx702_3 hx702_4 hx702_5 hx702_6 hx702_7 hx702_8 hx703_0 hx703_1 hx703_2 hx703_3 hx703_4 hx703_5 hx703_6 hx703_7 hx703_8 hx704_0 hx704_1 hx704_2 hx704_3 hx704_4 hx704_5 hx704_6 hx704_7 hx704_8 hHeld ⊢
             refine pureD 0 137 HT_ ?_
             refine pureD 1 138 HT_ ?_
             refine pureD 2 139 HT_ ?_
             refine pureD 3 140 HT_ ?_
             refine pureD 4 141 HT_ ?_
             refine pureD 5 142 HT_ ?_
             refine pureD 7 144 HT_ ?_
             refine takeD 6 143 HT_ HW_ hHeld ?_
             refine takeD 8 145 HT_ HW_ hHeld ?_
             refine one_ (i := 9) (N := some 146) #[true, true, true, true, true, true, true, true, true, true, false, false, false, false, false, false, false, false, false, false, false, false, false, false, false, false, false, false, false, false, false, false, false, false, false, false, false, false, false] rfl rfl (one_of HT_.out (by kernel_rfl)) (by decide) (fun K hK => ?_)
             refine goes_ Try.func16 (by kernel_rfl) rfl #[.slice A700_0 ((rd_T44 t660 x19_3).f0).length c700_0, .slice A3_0 l3_0.length c3_0] (by rfl) rfl rfl argA ?_
             with_reducible refine (rickyardref06_Order.calls k3 _ _ ((rd_T44 t660 x19_3).f0) _ _ l3_0 t701 _ ?side1 ?side2 ?side3 ?side4 A183.out).mono ?_
             (case side1 => exact cc1 (celA HR700_0.out))
             (case side2 => exact HC700_0.out)
             (case side3 => exact cb1 HR3_0 HB)
             (case side4 => exact HC3_0.out)
             rintro e w' ⟨rfl, ⟨nd, rfl⟩⟩
             refine ⟨_, rfl, ?_⟩
             refine hK.out _ _ ⟨(blk_cell BK656.out 0).trans rfl, (blk_cell BK656.out 1).trans rfl, (blk_cell BK656.out 2).trans rfl, (blk_cell BK656.out 3).trans rfl, (blk_cell BK656.out 4).trans rfl, hHeld.2.2.2.2.2.1, hHeld.2.2.2.2.2.2.1, hHeld.2.2.2.2.2.2.2.1, hHeld.2.2.2.2.2.2.2.2.1, hHeld.2.2.2.2.2.2.2.2.2.1, hHeld.2.2.2.2.2.2.2.2.2.2.1, hHeld.2.2.2.2.2.2.2.2.2.2.2.1, hHeld.2.2.2.2.2.2.2.2.2.2.2.2.1, hHeld.2.2.2.2.2.2.2.2.2.2.2.2.2.1, hHeld.2.2.2.2.2.2.2.2.2.2.2.2.2.2.1, hHeld.2.2.2.2.2.2.2.2.2.2.2.2.2.2.2.1, hHeld.2.2.2.2.2.2.2.2.2.2.2.2.2.2.2.2.1, hHeld.2.2.2.2.2.2.2.2.2.2.2.2.2.2.2.2.2.1, hHeld.2.2.2.2.2.2.2.2.2.2.2.2.2.2.2.2.2.2.1, hHeld.2.2.2.2.2.2.2.2.2.2.2.2.2.2.2.2.2.2.2.1, hHeld.2.2.2.2.2.2.2.2.2.2.2.2.2.2.2.2.2.2.2.2.1, hHeld.2.2.2.2.2.2.2.2.2.2.2.2.2.2.2.2.2.2.2.2.2.1, hHeld.2.2.2.2.2.2.2.2.2.2.2.2.2.2.2.2.2.2.2.2.2.2.1, hHeld.2.2.2.2.2.2.2.2.2.2.2.2.2.2.2.2.2.2.2.2.2.2.2.1, hHeld.2.2.2.2.2.2.2.2.2.2.2.2.2.2.2.2.2.2.2.2.2.2.2.2.1, hHeld.2.2.2.2.2.2.2.2.2.2.2.2.2.2.2.2.2.2.2.2.2.2.2.2.2.1, hHeld.2.2.2.2.2.2.2.2.2.2.2.2.2.2.2.2.2.2.2.2.2.2.2.2.2.2.1, hHeld.2.2.2.2.2.2.2.2.2.2.2.2.2.2.2.2.2.2.2.2.2.2.2.2.2.2.2.1, hHeld.2.2.2.2.2.2.2.2.2.2.2.2.2.2.2.2.2.2.2.2.2.2.2.2.2.2.2.2.1, hHeld.2.2.2.2.2.2.2.2.2.2.2.2.2.2.2.2.2.2.2.2.2.2.2.2.2.2.2.2.2.1, hHeld.2.2.2.2.2.2.2.2.2.2.2.2.2.2.2.2.2.2.2.2.2.2.2.2.2.2.2.2.2.2.1, hHeld.2.2.2.2.2.2.2.2.2.2.2.2.2.2.2.2.2.2.2.2.2.2.2.2.2.2.2.2.2.2.2.1, hHeld.2.2.2.2.2.2.2.2.2.2.2.2.2.2.2.2.2.2.2.2.2.2.2.2.2.2.2.2.2.2.2.2.1, hHeld.2.2.2.2.2.2.2.2.2.2.2.2.2.2.2.2.2.2.2.2.2.2.2.2.2.2.2.2.2.2.2.2.2.1, hHeld.2.2.2.2.2.2.2.2.2.2.2.2.2.2.2.2.2.2.2.2.2.2.2.2.2.2.2.2.2.2.2.2.2.2.1, hHeld.2.2.2.2.2.2.2.2.2.2.2.2.2.2.2.2.2.2.2.2.2.2.2.2.2.2.2.2.2.2.2.2.2.2.2.1, hHeld.2.2.2.2.2.2.2.2.2.2.2.2.2.2.2.2.2.2.2.2.2.2.2.2.2.2.2.2.2.2.2.2.2.2.2.2.1, hHeld.2.2.2.2.2.2.2.2.2.2.2.2.2.2.2.2.2.2.2.2.2.2.2.2.2.2.2.2.2.2.2.2.2.2.2.2.2.1, hHeld.2.2.2.2.2.2.2.2.2.2.2.2.2.2.2.2.2.2.2.2.2.2.2.2.2.2.2.2.2.2.2.2.2.2.2.2.2.2.1, hHeld.2.2.2.2.2.2.2.2.2.2.2.2.2.2.2.2.2.2.2.2.2.2.2.2.2.2.2.2.2.2.2.2.2.2.2.2.2.2.2.1, hHeld.2.2.2.2.2.2.2.2.2.2.2.2.2.2.2.2.2.2.2.2.2.2.2.2.2.2.2.2.2.2.2.2.2.2.2.2.2.2.2.2⟩ (fun hHeld => ?_)
             clear hK K
             refine norm_ (a' := ?_) ?_ ?_
             rotate_left
             ·show Act.put _ (some 146) _ = _
              simp only [Act.put, List.setIfInBounds_toArray, List.set_cons_zero, List.set_cons_succ, i64_w, i32_w]
              rfl
             refine pureD 10 147 HT_ ?_
             refine pureD 11 148 HT_ ?_
             refine pureD 12 149 HT_ ?_
             refine pureD 13 150 HT_ ?_
             refine pureD 14 151 HT_ ?_
             refine pureD 15 152 HT_ ?_
             refine pureD 17 154 HT_ ?_
             refine takeD 16 153 HT_ HW_ hHeld ?_
             refine takeD 18 155 HT_ HW_ hHeld ?_
             refine pureD 19 156 HT_ ?_
             refine pureD 20 157 HT_ ?_
             refine pureD 21 158 HT_ ?_
             refine pureD 22 159 HT_ ?_
             refine pureD 24 161 HT_ ?_
             refine pureD 25 162 HT_ ?_
             refine pureD 26 163 HT_ ?_
             refine pureD 27 164 HT_ ?_
             refine pureD 30 167 HT_ ?_
             refine pureD 31 168 HT_ ?_
             refine pureD 32 169 HT_ ?_
             refine pureD 33 170 HT_ ?_
             refine takeD 23 160 HT_ HW_ hHeld ?_
             refine takeD 28 165 HT_ HW_ hHeld ?_
             refine pureD 29 166 HT_ ?_
             refine takeD 34 171 HT_ HW_ hHeld ?_
             refine pureD 35 172 HT_ ?_
             refine pureD 36 173 HT_ ?_
             refine pureD 37 174 HT_ ?_
             refine pureD 38 18 HT_ ?_
             refine done_ (done_of HT_.out (by kernel_rfl)) ?_
             try go_wp2
             go_roundg k3
             case measure => have := HJ4.out; have := HK2.out; have := HK3.out; omega
             case rel => exact ⟨(decide ((wrap64 (a3_1 - ((rd_T44 t660 x19_3).f1))) < ((rd_T44 t660 x19_3).f2))), (wrap64 (x19_3 + 1)), relA, relA, H', ⟨by have := HJ4.out; have := HK2.out; have := HK3.out; omega⟩, ⟨rowA HO_9.out⟩, ⟨rowA HO_700000.out⟩, ⟨blkA BK655.out⟩, ⟨blkA BK656.out⟩, ⟨blkA BK699.out⟩, ⟨belD HB.out GE655.out GE656.out GE699.out⟩⟩
            ·rw [if_neg c185] at H
             have c185b0 := decide_eq_false c185
             clear c185
             have H' := Aside0.mk H
             clear H
             try go_wp2
             replace HO_9 := Aside0.mk (Kd.R_drew HO_9.out)
             replace HO_700000 := Aside0.mk (Kd.R_drew HO_700000.out)
             replace BK655 := Aside0.mk (blk_drew BK655.out)
             replace BK656 := Aside0.mk (blk_drew BK656.out)
             replace BK699 := Aside0.mk (blk_drew BK699.out)
             replace HB := Aside0.mk (below_drew1 HB.out)
             have p700 : 0 ≤ (x19_3 : Int) := of_decide_eq_true asmA
             have q700 : x19_3 < (t660.length : Int) := of_decide_eq_true asmA
             obtain ⟨ad700, A700_0, c700_0, e700, hx700_0, hx700_1, hx700_2, hx700_3, hx700_4, hx700_5, hx700_6, hx700_7, hx700_8, hl700_0, hi700_0⟩ := at_T44 (Kd.R_reads' HO_9.out).2.2 x19_3 p700 q700
             cases e700
             obtain ⟨ce700, hce700, hMe700, hcc700⟩ := Kd.R_get HO_9.out z44 x19_3 p700 (by first | exact q700 | exact of_decide_eq_true asmA | (have e_ := (Kd.R_reads' HO_9.out).1; omega))
             obtain ⟨ve700_0, rfl, ge700_0⟩ := k44_openM hMe700
             have hv700_0 := hcc700 0 _ rfl
             rw [Nat.add_zero] at hv700_0
             replace hv700_0 := Option.some.inj (hv700_0.symm.trans hx700_0)
             rw [hv700_0] at ge700_0
             have HL700_0 := Aside0.mk (show Kd.R Kd.string 9 _ _ _ _ ((rd_T44 t660 x19_3).f0) from ge700_0)
             clear hv700_0 ge700_0
             clear hcc700 hce700
             have HR700_0 := Aside0.mk hi700_0
             have HC700_0 := Aside0.mk hl700_0
             clear hi700_0 hl700_0
             replace p700 := eq_true p700
             replace q700 := eq_true q700
             have p702 : 0 ≤ (x19_3 : Int) := of_decide_eq_true asmA
             have q702 : x19_3 < (t660.length : Int) := of_decide_eq_true asmA
             obtain ⟨ad702, A702_0, c702_0, e702, hx702_0, hx702_1, hx702_2, hx702_3, hx702_4, hx702_5, hx702_6, hx702_7, hx702_8, hl702_0, hi702_0⟩ := at_T44 (Kd.R_reads' HO_9.out).2.2 x19_3 p702 q702
             obtain rfl : ad700 = ad702 := (by injection e702)
             obtain ⟨ce702, hce702, hMe702, hcc702⟩ := Kd.R_get HO_9.out z44 x19_3 p702 (by first | exact q702 | exact of_decide_eq_true asmA | (have e_ := (Kd.R_reads' HO_9.out).1; omega))
             obtain ⟨ve702_0, rfl, ge702_0⟩ := k44_openM hMe702
             have hv702_0 := hcc702 0 _ rfl
             rw [Nat.add_zero] at hv702_0
             replace hv702_0 := Option.some.inj (hv702_0.symm.trans hx702_0)
             rw [hv702_0] at ge702_0
             have HL702_0 := Aside0.mk (show Kd.R Kd.string 9 _ _ _ _ ((rd_T44 t660 x19_3).f0) from ge702_0)
             clear hv702_0 ge702_0
             clear hcc702 hce702
             have HR702_0 := Aside0.mk hi702_0
             have HC702_0 := Aside0.mk hl702_0
             clear hi702_0 hl702_0
             replace p702 := eq_true p702
             replace q702 := eq_true q702
             have ea_ := Option.some.inj (hx700_0.symm.trans hx702_0)
             injection ea_ with ea_ en_ ec_
             subst ea_
             subst ec_
             clear en_
             refine start_ (n := 39) (S := fun w' => w'.cell? ⟨gb656, 0, none⟩ = some (.slice A3_0 l3_0.length c3_0) ∧ w'.cell? ⟨gb656, 1, none⟩ = some (.int .i64 a3_1) ∧ w'.cell? ⟨gb656, 2, none⟩ = some (.int .i64 a3_2) ∧ w'.cell? ⟨gb656, 3, none⟩ = some (.int .i64 a3_3) ∧ w'.cell? ⟨gb656, 4, none⟩ = some (.int .i64 a3_4) ∧ w'.cell? (ad700.add ((x19_3).toNat * 9)) = some (.slice A700_0 ((rd_T44 t660 x19_3).f0).length c700_0) ∧ w'.cell? ⟨(ad700.add ((x19_3).toNat * 9)).block, (ad700.add ((x19_3).toNat * 9)).off + 1, none⟩ = some (.int .i64 ((rd_T44 t660 x19_3).f1)) ∧ w'.cell? ⟨(ad700.add ((x19_3).toNat * 9)).block, (ad700.add ((x19_3).toNat * 9)).off + 2, none⟩ = some (.int .i64 ((rd_T44 t660 x19_3).f2)) ∧ w'.cell? ⟨(ad700.add ((x19_3).toNat * 9)).block, (ad700.add ((x19_3).toNat * 9)).off + 3, none⟩ = some (.int .u64 ((rd_T44 t660 x19_3).f3.f0)) ∧ w'.cell? ⟨(ad700.add ((x19_3).toNat * 9)).block, (ad700.add ((x19_3).toNat * 9)).off + 4, none⟩ = some (.bool ((rd_T44 t660 x19_3).f3.f1)) ∧ w'.cell? ⟨(ad700.add ((x19_3).toNat * 9)).block, (ad700.add ((x19_3).toNat * 9)).off + 5, none⟩ = some (.int .i64 ((rd_T44 t660 x19_3).f3.f2.f0)) ∧ w'.cell? ⟨(ad700.add ((x19_3).toNat * 9)).block, (ad700.add ((x19_3).toNat * 9)).off + 6, none⟩ = some (.int .u64 ((rd_T44 t660 x19_3).f3.f2.f1)) ∧ w'.cell? ⟨(ad700.add ((x19_3).toNat * 9)).block, (ad700.add ((x19_3).toNat * 9)).off + 7, none⟩ = some (.int .i64 ((rd_T44 t660 x19_3).f3.f3)) ∧ w'.cell? ⟨(ad700.add ((x19_3).toNat * 9)).block, (ad700.add ((x19_3).toNat * 9)).off + 8, none⟩ = some (.int .i64 ((rd_T44 t660 x19_3).f3.f4)) ∧ w'.cell? (ad700.add ((x19_3).toNat * 9)) = some (.slice A700_0 ((rd_T44 t660 x19_3).f0).length c700_0) ∧ w'.cell? ⟨(ad700.add ((x19_3).toNat * 9)).block, (ad700.add ((x19_3).toNat * 9)).off + 1, none⟩ = some (.int .i64 ((rd_T44 t660 x19_3).f1)) ∧ w'.cell? ⟨(ad700.add ((x19_3).toNat * 9)).block, (ad700.add ((x19_3).toNat * 9)).off + 2, none⟩ = some (.int .i64 ((rd_T44 t660 x19_3).f2)) ∧ w'.cell? ⟨(ad700.add ((x19_3).toNat * 9)).block, (ad700.add ((x19_3).toNat * 9)).off + 3, none⟩ = some (.int .u64 ((rd_T44 t660 x19_3).f3.f0)) ∧ w'.cell? ⟨(ad700.add ((x19_3).toNat * 9)).block, (ad700.add ((x19_3).toNat * 9)).off + 4, none⟩ = some (.bool ((rd_T44 t660 x19_3).f3.f1)) ∧ w'.cell? ⟨(ad700.add ((x19_3).toNat * 9)).block, (ad700.add ((x19_3).toNat * 9)).off + 5, none⟩ = some (.int .i64 ((rd_T44 t660 x19_3).f3.f2.f0)) ∧ w'.cell? ⟨(ad700.add ((x19_3).toNat * 9)).block, (ad700.add ((x19_3).toNat * 9)).off + 6, none⟩ = some (.int .u64 ((rd_T44 t660 x19_3).f3.f2.f1)) ∧ w'.cell? ⟨(ad700.add ((x19_3).toNat * 9)).block, (ad700.add ((x19_3).toNat * 9)).off + 7, none⟩ = some (.int .i64 ((rd_T44 t660 x19_3).f3.f3)) ∧ w'.cell? ⟨(ad700.add ((x19_3).toNat * 9)).block, (ad700.add ((x19_3).toNat * 9)).off + 8, none⟩ = some (.int .i64 ((rd_T44 t660 x19_3).f3.f4))) (ds := []) #[false, false, false, false, false, false, false, false, false, false, false, false, false, false, false, false, false, false, false, false, false, false, false, false, false, false, false, false, false, false, false, false, false, false, false, false, false, false, false] (by kernel_rfl) rfl rfl ⟨(blk_cell BK656.out 0).trans rfl, (blk_cell BK656.out 1).trans rfl, (blk_cell BK656.out 2).trans rfl, (blk_cell BK656.out 3).trans rfl, (blk_cell BK656.out 4).trans rfl, hx700_0, hx700_1, hx700_2, hx700_3, hx700_4, hx700_5, hx700_6, hx700_7, hx700_8, hx702_0, hx702_1, hx702_2, hx702_3, hx702_4, hx702_5, hx702_6, hx702_7, hx702_8⟩ (fun hHeld => ?_); refine with_tabW rickyardlaw17_AskEach.tab17 rickyardlaw17_AskEach.bits17 (fun HT_ HW_ => ?_)
             generalize wr.drew = w187 at HO_9 HO_700000 BK655 BK656 BK699 HB HL700_0 HL702_0 HR700_0 HR702_0 hx700_0 hx700_1 hx700_2 hx700_3 hx700_4 hx700_5 hx700_6 hx700_7 hx700_8 hx702_0 hx702_1 hx702_2 hx702_3 hx702_4 hx702_5 hx702_6 hx702_7 hx702_8 hHeld ⊢
             refine pureD 0 137 HT_ ?_
             refine pureD 1 138 HT_ ?_
             refine pureD 2 139 HT_ ?_
             refine pureD 3 140 HT_ ?_
             refine pureD 4 141 HT_ ?_
             refine pureD 5 142 HT_ ?_
             refine pureD 7 144 HT_ ?_
             refine takeD 6 143 HT_ HW_ hHeld ?_
             refine takeD 8 145 HT_ HW_ hHeld ?_
             refine one_ (i := 9) (N := some 146) #[true, true, true, true, true, true, true, true, true, true, false, false, false, false, false, false, false, false, false, false, false, false, false, false, false, false, false, false, false, false, false, false, false, false, false, false, false, false, false] rfl rfl (one_of HT_.out (by kernel_rfl)) (by decide) (fun K hK => ?_)
             refine goes_ Try.func16 (by kernel_rfl) rfl #[.slice A700_0 ((rd_T44 t660 x19_3).f0).length c700_0, .slice A3_0 l3_0.length c3_0] (by rfl) rfl rfl argA ?_
             with_reducible refine (rickyardref06_Order.calls k3 _ _ ((rd_T44 t660 x19_3).f0) _ _ l3_0 t701 _ ?side1 ?side2 ?side3 ?side4 A183.out).mono ?_
             (case side1 => exact cc1 (celA HR700_0.out))
             (case side2 => exact HC700_0.out)
             (case side3 => exact cb1 HR3_0 HB)
             (case side4 => exact HC3_0.out)
             rintro e w' ⟨rfl, ⟨nd, rfl⟩⟩
             refine ⟨_, rfl, ?_⟩
             refine hK.out _ _ ⟨(blk_cell BK656.out 0).trans rfl, (blk_cell BK656.out 1).trans rfl, (blk_cell BK656.out 2).trans rfl, (blk_cell BK656.out 3).trans rfl, (blk_cell BK656.out 4).trans rfl, hHeld.2.2.2.2.2.1, hHeld.2.2.2.2.2.2.1, hHeld.2.2.2.2.2.2.2.1, hHeld.2.2.2.2.2.2.2.2.1, hHeld.2.2.2.2.2.2.2.2.2.1, hHeld.2.2.2.2.2.2.2.2.2.2.1, hHeld.2.2.2.2.2.2.2.2.2.2.2.1, hHeld.2.2.2.2.2.2.2.2.2.2.2.2.1, hHeld.2.2.2.2.2.2.2.2.2.2.2.2.2.1, hHeld.2.2.2.2.2.2.2.2.2.2.2.2.2.2.1, hHeld.2.2.2.2.2.2.2.2.2.2.2.2.2.2.2.1, hHeld.2.2.2.2.2.2.2.2.2.2.2.2.2.2.2.2.1, hHeld.2.2.2.2.2.2.2.2.2.2.2.2.2.2.2.2.2.1, hHeld.2.2.2.2.2.2.2.2.2.2.2.2.2.2.2.2.2.2.1, hHeld.2.2.2.2.2.2.2.2.2.2.2.2.2.2.2.2.2.2.2.1, hHeld.2.2.2.2.2.2.2.2.2.2.2.2.2.2.2.2.2.2.2.2.1, hHeld.2.2.2.2.2.2.2.2.2.2.2.2.2.2.2.2.2.2.2.2.2.1, hHeld.2.2.2.2.2.2.2.2.2.2.2.2.2.2.2.2.2.2.2.2.2.2⟩ (fun hHeld => ?_)
             clear hK K
             refine norm_ (a' := ?_) ?_ ?_
             rotate_left
             ·show Act.put _ (some 146) _ = _
              simp only [Act.put, List.setIfInBounds_toArray, List.set_cons_zero, List.set_cons_succ, i64_w, i32_w]
              rfl
             refine pureD 10 147 HT_ ?_
             refine pureD 11 148 HT_ ?_
             refine pureD 12 149 HT_ ?_
             refine pureD 13 150 HT_ ?_
             refine pureD 14 151 HT_ ?_
             refine pureD 15 152 HT_ ?_
             refine pureD 17 154 HT_ ?_
             refine takeD 16 153 HT_ HW_ hHeld ?_
             refine takeD 18 155 HT_ HW_ hHeld ?_
             refine pureD 19 156 HT_ ?_
             refine pureD 20 157 HT_ ?_
             refine pureD 21 158 HT_ ?_
             refine pureU 22 159 HT_ ?_
             refine pureU 23 160 HT_ ?_
             refine pureU 24 161 HT_ ?_
             refine pureU 25 162 HT_ ?_
             refine pureU 26 163 HT_ ?_
             refine pureU 27 164 HT_ ?_
             refine pureU 28 165 HT_ ?_
             refine pureU 29 166 HT_ ?_
             refine pureU 30 167 HT_ ?_
             refine pureU 31 168 HT_ ?_
             refine pureU 32 169 HT_ ?_
             refine pureU 33 170 HT_ ?_
             refine pureU 34 171 HT_ ?_
             refine pureU 35 172 HT_ ?_
             refine pureD 36 173 HT_ ?_
             refine pureD 37 174 HT_ ?_
             refine pureD 38 18 HT_ ?_
             refine done_ (done_of HT_.out (by kernel_rfl)) ?_
             try go_wp2
             go_roundg k3
             case measure => have := HJ4.out; have := HK2.out; have := HK3.out; omega
             case rel => exact ⟨(false), (wrap64 (x19_3 + 1)), relA, relA, H', ⟨by have := HJ4.out; have := HK2.out; have := HK3.out; omega⟩, ⟨rowA HO_9.out⟩, ⟨rowA HO_700000.out⟩, ⟨blkA BK655.out⟩, ⟨blkA BK656.out⟩, ⟨blkA BK699.out⟩, ⟨belD HB.out GE655.out GE656.out GE699.out⟩⟩
           ·rw [if_neg c184] at H
            have c184b0 := beq_eq_false_iff_ne.mpr c184
            have c184b1 := bne_iff_ne.mpr c184
            have H' := Aside0.mk H
            clear H
            try go_wp2
            replace HO_9 := Aside0.mk (Kd.R_drew HO_9.out)
            replace HO_700000 := Aside0.mk (Kd.R_drew HO_700000.out)
            replace BK655 := Aside0.mk (blk_drew BK655.out)
            replace BK656 := Aside0.mk (blk_drew BK656.out)
            replace BK699 := Aside0.mk (blk_drew BK699.out)
            replace HB := Aside0.mk (below_drew1 HB.out)
            have p700 : 0 ≤ (x19_3 : Int) := of_decide_eq_true asmA
            have q700 : x19_3 < (t660.length : Int) := of_decide_eq_true asmA
            obtain ⟨ad700, A700_0, c700_0, e700, hx700_0, hx700_1, hx700_2, hx700_3, hx700_4, hx700_5, hx700_6, hx700_7, hx700_8, hl700_0, hi700_0⟩ := at_T44 (Kd.R_reads' HO_9.out).2.2 x19_3 p700 q700
            cases e700
            obtain ⟨ce700, hce700, hMe700, hcc700⟩ := Kd.R_get HO_9.out z44 x19_3 p700 (by first | exact q700 | exact of_decide_eq_true asmA | (have e_ := (Kd.R_reads' HO_9.out).1; omega))
            obtain ⟨ve700_0, rfl, ge700_0⟩ := k44_openM hMe700
            have hv700_0 := hcc700 0 _ rfl
            rw [Nat.add_zero] at hv700_0
            replace hv700_0 := Option.some.inj (hv700_0.symm.trans hx700_0)
            rw [hv700_0] at ge700_0
            have HL700_0 := Aside0.mk (show Kd.R Kd.string 9 _ _ _ _ ((rd_T44 t660 x19_3).f0) from ge700_0)
            clear hv700_0 ge700_0
            clear hcc700 hce700
            have HR700_0 := Aside0.mk hi700_0
            have HC700_0 := Aside0.mk hl700_0
            clear hi700_0 hl700_0
            replace p700 := eq_true p700
            replace q700 := eq_true q700
            refine start_ (n := 39) (S := fun w' => w'.cell? ⟨gb656, 0, none⟩ = some (.slice A3_0 l3_0.length c3_0) ∧ w'.cell? ⟨gb656, 1, none⟩ = some (.int .i64 a3_1) ∧ w'.cell? ⟨gb656, 2, none⟩ = some (.int .i64 a3_2) ∧ w'.cell? ⟨gb656, 3, none⟩ = some (.int .i64 a3_3) ∧ w'.cell? ⟨gb656, 4, none⟩ = some (.int .i64 a3_4) ∧ w'.cell? (ad700.add ((x19_3).toNat * 9)) = some (.slice A700_0 ((rd_T44 t660 x19_3).f0).length c700_0) ∧ w'.cell? ⟨(ad700.add ((x19_3).toNat * 9)).block, (ad700.add ((x19_3).toNat * 9)).off + 1, none⟩ = some (.int .i64 ((rd_T44 t660 x19_3).f1)) ∧ w'.cell? ⟨(ad700.add ((x19_3).toNat * 9)).block, (ad700.add ((x19_3).toNat * 9)).off + 2, none⟩ = some (.int .i64 ((rd_T44 t660 x19_3).f2)) ∧ w'.cell? ⟨(ad700.add ((x19_3).toNat * 9)).block, (ad700.add ((x19_3).toNat * 9)).off + 3, none⟩ = some (.int .u64 ((rd_T44 t660 x19_3).f3.f0)) ∧ w'.cell? ⟨(ad700.add ((x19_3).toNat * 9)).block, (ad700.add ((x19_3).toNat * 9)).off + 4, none⟩ = some (.bool ((rd_T44 t660 x19_3).f3.f1)) ∧ w'.cell? ⟨(ad700.add ((x19_3).toNat * 9)).block, (ad700.add ((x19_3).toNat * 9)).off + 5, none⟩ = some (.int .i64 ((rd_T44 t660 x19_3).f3.f2.f0)) ∧ w'.cell? ⟨(ad700.add ((x19_3).toNat * 9)).block, (ad700.add ((x19_3).toNat * 9)).off + 6, none⟩ = some (.int .u64 ((rd_T44 t660 x19_3).f3.f2.f1)) ∧ w'.cell? ⟨(ad700.add ((x19_3).toNat * 9)).block, (ad700.add ((x19_3).toNat * 9)).off + 7, none⟩ = some (.int .i64 ((rd_T44 t660 x19_3).f3.f3)) ∧ w'.cell? ⟨(ad700.add ((x19_3).toNat * 9)).block, (ad700.add ((x19_3).toNat * 9)).off + 8, none⟩ = some (.int .i64 ((rd_T44 t660 x19_3).f3.f4))) (ds := []) #[false, false, false, false, false, false, false, false, false, false, false, false, false, false, false, false, false, false, false, false, false, false, false, false, false, false, false, false, false, false, false, false, false, false, false, false, false, false, false] (by kernel_rfl) rfl rfl ⟨(blk_cell BK656.out 0).trans rfl, (blk_cell BK656.out 1).trans rfl, (blk_cell BK656.out 2).trans rfl, (blk_cell BK656.out 3).trans rfl, (blk_cell BK656.out 4).trans rfl, hx700_0, hx700_1, hx700_2, hx700_3, hx700_4, hx700_5, hx700_6, hx700_7, hx700_8⟩ (fun hHeld => ?_); refine with_tabW rickyardlaw17_AskEach.tab17 rickyardlaw17_AskEach.bits17 (fun HT_ HW_ => ?_)
            generalize wr.drew = w188 at HO_9 HO_700000 BK655 BK656 BK699 HB HL700_0 HR700_0 hx700_0 hx700_1 hx700_2 hx700_3 hx700_4 hx700_5 hx700_6 hx700_7 hx700_8 hHeld ⊢
            refine pureD 0 137 HT_ ?_
            refine pureD 1 138 HT_ ?_
            refine pureD 2 139 HT_ ?_
            refine pureD 3 140 HT_ ?_
            refine pureD 4 141 HT_ ?_
            refine pureD 5 142 HT_ ?_
            refine pureD 7 144 HT_ ?_
            refine takeD 6 143 HT_ HW_ hHeld ?_
            refine takeD 8 145 HT_ HW_ hHeld ?_
            refine one_ (i := 9) (N := some 146) #[true, true, true, true, true, true, true, true, true, true, false, false, false, false, false, false, false, false, false, false, false, false, false, false, false, false, false, false, false, false, false, false, false, false, false, false, false, false, false] rfl rfl (one_of HT_.out (by kernel_rfl)) (by decide) (fun K hK => ?_)
            refine goes_ Try.func16 (by kernel_rfl) rfl #[.slice A700_0 ((rd_T44 t660 x19_3).f0).length c700_0, .slice A3_0 l3_0.length c3_0] (by rfl) rfl rfl argA ?_
            with_reducible refine (rickyardref06_Order.calls k3 _ _ ((rd_T44 t660 x19_3).f0) _ _ l3_0 t701 _ ?side1 ?side2 ?side3 ?side4 A183.out).mono ?_
            (case side1 => exact cc1 (celA HR700_0.out))
            (case side2 => exact HC700_0.out)
            (case side3 => exact cb1 HR3_0 HB)
            (case side4 => exact HC3_0.out)
            rintro e w' ⟨rfl, ⟨nd, rfl⟩⟩
            refine ⟨_, rfl, ?_⟩
            refine hK.out _ _ ⟨(blk_cell BK656.out 0).trans rfl, (blk_cell BK656.out 1).trans rfl, (blk_cell BK656.out 2).trans rfl, (blk_cell BK656.out 3).trans rfl, (blk_cell BK656.out 4).trans rfl, hHeld.2.2.2.2.2.1, hHeld.2.2.2.2.2.2.1, hHeld.2.2.2.2.2.2.2.1, hHeld.2.2.2.2.2.2.2.2.1, hHeld.2.2.2.2.2.2.2.2.2.1, hHeld.2.2.2.2.2.2.2.2.2.2.1, hHeld.2.2.2.2.2.2.2.2.2.2.2.1, hHeld.2.2.2.2.2.2.2.2.2.2.2.2.1, hHeld.2.2.2.2.2.2.2.2.2.2.2.2.2⟩ (fun hHeld => ?_)
            clear hK K
            refine norm_ (a' := ?_) ?_ ?_
            rotate_left
            ·show Act.put _ (some 146) _ = _
             simp only [Act.put, List.setIfInBounds_toArray, List.set_cons_zero, List.set_cons_succ, i64_w, i32_w]
             rfl
            refine pureD 10 147 HT_ ?_
            refine pureD 11 148 HT_ ?_
            refine pureU 12 149 HT_ ?_
            refine pureU 13 150 HT_ ?_
            refine pureU 14 151 HT_ ?_
            refine pureU 15 152 HT_ ?_
            refine pureU 16 153 HT_ ?_
            refine pureU 17 154 HT_ ?_
            refine pureU 18 155 HT_ ?_
            refine pureU 19 156 HT_ ?_
            refine pureD 20 157 HT_ ?_
            refine pureD 21 158 HT_ ?_
            refine pureU 22 159 HT_ ?_
            refine pureU 23 160 HT_ ?_
            refine pureU 24 161 HT_ ?_
            refine pureU 25 162 HT_ ?_
            refine pureU 26 163 HT_ ?_
            refine pureU 27 164 HT_ ?_
            refine pureU 28 165 HT_ ?_
            refine pureU 29 166 HT_ ?_
            refine pureU 30 167 HT_ ?_
            refine pureU 31 168 HT_ ?_
            refine pureU 32 169 HT_ ?_
            refine pureU 33 170 HT_ ?_
            refine pureU 34 171 HT_ ?_
            refine pureU 35 172 HT_ ?_
            refine pureD 36 173 HT_ ?_
            refine pureD 37 174 HT_ ?_
            refine pureD 38 18 HT_ ?_
            refine done_ (done_of HT_.out (by kernel_rfl)) ?_
            try go_wp2
            go_roundg k3
            case measure => have := HJ4.out; have := HK2.out; have := HK3.out; omega
            case rel => exact ⟨(false), (wrap64 (x19_3 + 1)), relA, relA, H', ⟨by have := HJ4.out; have := HK2.out; have := HK3.out; omega⟩, ⟨rowA HO_9.out⟩, ⟨rowA HO_700000.out⟩, ⟨blkA BK655.out⟩, ⟨blkA BK656.out⟩, ⟨blkA BK699.out⟩, ⟨belD HB.out GE655.out GE656.out GE699.out⟩⟩
          ·rw [if_neg c182] at H
           cases H
        ·rw [if_neg c179] at H
         have c179b0 := decide_eq_false c179
         clear c179
         replace H := bnA H
         obtain ⟨t705, A189, H⟩ := H
         by_cases c190 : t705 = true
         ·subst c190
          have H1 : (if t698 = 0 then (if (t697 == x18_3) = true then (some true) else (some (a3_1 == 1099511627776))) else (some true)) = some r := by rw [if_pos rfl] at H; exact H
          clear H
          have H := H1
          clear H1
          by_cases c191 : t698 = 0
          ·rw [if_pos c191] at H
           have c191b0 := beq_iff_eq.mpr c191
           have c191b1 := bne_eq_false_iff_eq.mpr c191
           clear c191
           by_cases c192 : (t697 == x18_3) = true
           ·rw [if_pos c192] at H
            have c192b0 : (t697 == x18_3) = true := c192
            (try (have c192b1 : decide (t697 = x18_3) = true := by simpa using c192))
            (try (have c192b2 : (t697 == x18_3) = true := by simpa using c192))
            clear c192
            obtain rfl := Option.some.inj H
            go_wp2_with (first | ((with_reducible refine gate_callee (f := 9) rfl ?_); refine goesL_ (some 175) rfl rfl Try.func9 (by kernel_rfl) rfl #[] rfl argA ?_; (with_reducible refine (rickyardlaw17_alive.calls k3  true _ A189.out).mono ?_); rintro e w193 ⟨rfl, hb⟩; refine ⟨_, rfl, ?_⟩; replace HO_9 := Aside0.mk (Kd.R_below (rowA HO_9.out) hb); replace HO_700000 := Aside0.mk (Kd.R_below (rowA HO_700000.out) hb); replace BK655 := blkB BK655 hb; replace BK656 := blkB BK656 hb; replace BK699 := blkB BK699 hb; replace HB := Aside0.mk (below_step (belD HB.out GE655.out GE656.out GE699.out) hb); (try clear hb)))
            go_ret
            exact ⟨ret1, belD HB.out GE655.out GE656.out GE699.out⟩
           ·rw [if_neg c192] at H
            have c192b0 : (t697 == x18_3) = false := by simpa using c192
            (try (have c192b1 : decide (t697 = x18_3) = false := by simpa using c192))
            (try (have c192b2 : (t697 == x18_3) = false := by simpa using c192))
            (try (have c192b3 : ¬ (t697 = x18_3) := by simpa using c192))
            clear c192
            obtain rfl := Option.some.inj H
            go_wp2_with (first | ((with_reducible refine gate_callee (f := 9) rfl ?_); refine goesL_ (some 175) rfl rfl Try.func9 (by kernel_rfl) rfl #[] rfl argA ?_; (with_reducible refine (rickyardlaw17_alive.calls k3  true _ A189.out).mono ?_); rintro e w194 ⟨rfl, hb⟩; refine ⟨_, rfl, ?_⟩; replace HO_9 := Aside0.mk (Kd.R_below (rowA HO_9.out) hb); replace HO_700000 := Aside0.mk (Kd.R_below (rowA HO_700000.out) hb); replace BK655 := blkB BK655 hb; replace BK656 := blkB BK656 hb; replace BK699 := blkB BK699 hb; replace HB := Aside0.mk (below_step (belD HB.out GE655.out GE656.out GE699.out) hb); (try clear hb); have hnb195 := NB656_655.out; have hnc195 := NB655_656.out; have hnb196 := NB656_699.out; have hnc196 := NB699_656.out; obtain ⟨hcz197_0, hcz197_1, hcz197_2, hcz197_3, hcz197_4, hfz197_0, hfz197_1, hfz197_2, hfz197_3, hfz197_4⟩ := blk5 BK656))
            go_ret
            exact ⟨ret1, belD HB.out GE655.out GE656.out GE699.out⟩
          ·rw [if_neg c191] at H
           have c191b0 := beq_eq_false_iff_ne.mpr c191
           have c191b1 := bne_iff_ne.mpr c191
           obtain rfl := Option.some.inj H
           go_wp2_with (first | ((with_reducible refine gate_callee (f := 9) rfl ?_); refine goesL_ (some 175) rfl rfl Try.func9 (by kernel_rfl) rfl #[] rfl argA ?_; (with_reducible refine (rickyardlaw17_alive.calls k3  true _ A189.out).mono ?_); rintro e w198 ⟨rfl, hb⟩; refine ⟨_, rfl, ?_⟩; replace HO_9 := Aside0.mk (Kd.R_below (rowA HO_9.out) hb); replace HO_700000 := Aside0.mk (Kd.R_below (rowA HO_700000.out) hb); replace BK655 := blkB BK655 hb; replace BK656 := blkB BK656 hb; replace BK699 := blkB BK699 hb; replace HB := Aside0.mk (below_step (belD HB.out GE655.out GE656.out GE699.out) hb); (try clear hb)))
           go_ret
           exact ⟨ret1, belD HB.out GE655.out GE656.out GE699.out⟩
         ·replace c190 := Bool.eq_false_iff.mpr c190
          subst c190
          have H1 : (none) = some r := by rw [if_neg (show ¬ (false = true) by decide)] at H; exact H
          clear H
          have H := H1
          clear H1
          cases H
end Go.Proofs.Ytdopbhbbpgfliaa.PAsk
end
