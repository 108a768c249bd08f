import Derived.Test.YtdopbhbbpgfliaaZAskAll22
section
namespace Go.Proofs.Ytdopbhbbpgfliaa.PAsk
open Go.RowKit Go.Proofs.YtdopbhbbpgfliaaW.PrintWords Go.Proofs.YtdopbhbbpgfliaaW.PrintLast Go.Proofs.YtdopbhbbpgfliaaW.PrintMore
attribute [local go_sem] max2_int min2_int max_two min_two max_three min_three max_four min_four   -- for this text's walks alone
set_option linter.unusedVariables false
set_option linter.unusedSimpArgs false
attribute [local go_sem high] eqA42
set_option maxHeartbeats 8000000
set_option maxRecDepth 100000
mutual
def rickyardlaw17_AskAll.l0 : Nat → List (S44) → List (S44) → Int → List (S44) → Int → Int → List ByteArray → Int → Int → Int → Int → Int → Bool → Int → Int → Int → Int → Int → Bool → Int → Int → Int → Int → Option (Bool)
 | 0, _, _, _, _, _, _, _, _, _, _, _, _, _, _, _, _, _, _, _, _, _, _, _ => none
 | k + 1, x9, x11, x12, x13, x14, x17, x594000, x594001, x594002, x594003, x594004, x610000, x610001, x610002, x610003, x610004, x610005, x611000, x611001, x611002, x611003, x611004, x611005 => if x17 < (x9.length : Int) then (if 0 ≤ x17 then ((agg_Merge.f x610000 x610001 x610002 x610003 x610004 x610005 ((rd_T44 x9 x17).f3.f0) ((rd_T44 x9 x17).f3.f1) ((rd_T44 x9 x17).f3.f2.f0) ((rd_T44 x9 x17).f3.f2.f1) ((rd_T44 x9 x17).f3.f3) ((rd_T44 x9 x17).f3.f4)).bind fun bt612 => (rickyardlaw17_AskAll.l0 k x9 x11 x12 x13 x14 (wrap64 (x17 + 1)) x594000 x594001 x594002 x594003 x594004 bt612.1 bt612.2.1 bt612.2.2.1 bt612.2.2.2.1 bt612.2.2.2.2.1 bt612.2.2.2.2.2 x611000 x611001 x611002 x611003 x611004 x611005)) else (none)) else (if x12 = 0 then (if (((x11.length : Int) == 1) != (decide ((x9.length : Int) > 0))) = true then (none) else (if (x11.length : Int) = 1 then (if 0 < (x11.length : Int) then (if (!(((rd_T44 x11 0).f3.f0) == x610000) || (!(((rd_T44 x11 0).f3.f1) == x610001) || ((!(((rd_T44 x11 0).f3.f2.f0) == x610002) || (!(((rd_T44 x11 0).f3.f2.f1) == x610003))) || (!(((rd_T44 x11 0).f3.f3) == x610004) || (!(((rd_T44 x11 0).f3.f4) == x610005)))))) = true then (none) else (rickyardlaw17_AskAll.j1 k x9 x13 x14 ((((rd_T44 x11 0).f0).length : Int) != 0) x594000 x594001 x594002 x594003 x594004 x610000 x610001 x610002 x610003 x610004 x610005 x611000 x611001 x611002 x611003 x611004 x611005)) else (none)) else (rickyardlaw17_AskAll.j1 k x9 x13 x14 false x594000 x594001 x594002 x594003 x594004 x610000 x610001 x610002 x610003 x610004 x610005 x611000 x611001 x611002 x611003 x611004 x611005))) else (none))
def rickyardlaw17_AskAll.j1 : Nat → List (S44) → List (S44) → Int → Bool → List ByteArray → Int → Int → Int → Int → Int → Bool → Int → Int → Int → Int → Int → Bool → Int → Int → Int → Int → Option (Bool)
 | 0, _, _, _, _, _, _, _, _, _, _, _, _, _, _, _, _, _, _, _, _, _ => none
 | k + 1, x9, x13, x14, x123, x594000, x594001, x594002, x594003, x594004, x610000, x610001, x610002, x610003, x610004, x610005, x611000, x611001, x611002, x611003, x611004, x611005 => if x123 = true then (none) else (if x14 = 0 then (rickyardlaw17_AskAll.l1 k x9 x13 0 x594000 x594001 x594002 x594003 x594004 x610000 x610001 x610002 x610003 x610004 x610005 x611000 x611001 x611002 x611003 x611004 x611005) else ((rickyardlaw17_alive.f k).bind fun t620 => (if t620 = true then (some (decide (x594004 < 0))) else (none))))
def rickyardlaw17_AskAll.l1 : Nat → List (S44) → List (S44) → Int → List ByteArray → Int → Int → Int → Int → Int → Bool → Int → Int → Int → Int → Int → Bool → Int → Int → Int → Int → Option (Bool)
 | 0, _, _, _, _, _, _, _, _, _, _, _, _, _, _, _, _, _, _, _, _ => none
 | k + 1, x9, x13, x18, x594000, x594001, x594002, x594003, x594004, x610000, x610001, x610002, x610003, x610004, x610005, x611000, x611001, x611002, x611003, x611004, x611005 => if x18 < (x13.length : Int) then (rickyardlaw17_AskAll.l2 k x9 x13 x18 0 x594000 x594001 x594002 x594003 x594004 x610000 x610001 x610002 x610003 x610004 x610005 x611000 x611001 x611002 x611003 x611004 x611005 0 false 0 0 0 0) else ((rickyardlaw17_alive.f k).bind fun t621 => (if t621 = true then (some (x611000 == x610000 && (x611001 == x610001 && ((x611002 == x610002 && (x611003 == x610003)) && (x611004 == x610004 && (x611005 == x610005)))))) else (none)))
def rickyardlaw17_AskAll.l2 : Nat → List (S44) → List (S44) → Int → Int → List ByteArray → Int → Int → Int → Int → Int → Bool → Int → Int → Int → Int → Int → Bool → Int → Int → Int → Int → Int → Bool → Int → Int → Int → Int → Option (Bool)
 | 0, _, _, _, _, _, _, _, _, _, _, _, _, _, _, _, _, _, _, _, _, _, _, _, _, _, _, _ => none
 | k + 1, x9, x13, x18, x20, x594000, x594001, x594002, x594003, x594004, x610000, x610001, x610002, x610003, x610004, x610005, x611000, x611001, x611002, x611003, x611004, x611005, x623000, x623001, x623002, x623003, x623004, x623005 => if x20 < (x9.length : Int) then (if 0 ≤ x20 then ((key_Part.f k ((rd_T44 x9 x20).f0) x594004).bind fun bt624 => (if 0 ≤ x18 then (if x18 < (x13.length : Int) then ((rickyardref06_Order.f k bt624.1 ((rd_T44 x13 x18).f0)).bind fun t629 => (if t629 = 0 then ((agg_Merge.f x623000 x623001 x623002 x623003 x623004 x623005 ((rd_T44 x9 x20).f3.f0) ((rd_T44 x9 x20).f3.f1) ((rd_T44 x9 x20).f3.f2.f0) ((rd_T44 x9 x20).f3.f2.f1) ((rd_T44 x9 x20).f3.f3) ((rd_T44 x9 x20).f3.f4)).bind fun bt631 => (rickyardlaw17_AskAll.l2 k x9 x13 x18 (wrap64 (x20 + 1)) x594000 x594001 x594002 x594003 x594004 x610000 x610001 x610002 x610003 x610004 x610005 x611000 x611001 x611002 x611003 x611004 x611005 bt631.1 bt631.2.1 bt631.2.2.1 bt631.2.2.2.1 bt631.2.2.2.2.1 bt631.2.2.2.2.2)) else (rickyardlaw17_AskAll.l2 k x9 x13 x18 (wrap64 (x20 + 1)) x594000 x594001 x594002 x594003 x594004 x610000 x610001 x610002 x610003 x610004 x610005 x611000 x611001 x611002 x611003 x611004 x611005 x623000 x623001 x623002 x623003 x623004 x623005))) else (none)) else (none))) else (none)) else (if 0 ≤ x18 then (if x18 < (x13.length : Int) then (if (!(x623000 == ((rd_T44 x13 x18).f3.f0)) || (!(x623001 == ((rd_T44 x13 x18).f3.f1)) || ((!(x623002 == ((rd_T44 x13 x18).f3.f2.f0)) || (!(x623003 == ((rd_T44 x13 x18).f3.f2.f1)))) || (!(x623004 == ((rd_T44 x13 x18).f3.f3)) || (!(x623005 == ((rd_T44 x13 x18).f3.f4))))))) = true then (none) else (if x18 > 0 then (if 0 ≤ (wrap64 (x18 - 1)) then (if (wrap64 (x18 - 1)) < (x13.length : Int) then ((rickyardref06_Order.f k ((rd_T44 x13 (wrap64 (x18 - 1))).f0) ((rd_T44 x13 x18).f0)).bind fun t640 => (if t640 ≥ 0 then (none) else ((agg_Merge.f x611000 x611001 x611002 x611003 x611004 x611005 ((rd_T44 x13 x18).f3.f0) ((rd_T44 x13 x18).f3.f1) ((rd_T44 x13 x18).f3.f2.f0) ((rd_T44 x13 x18).f3.f2.f1) ((rd_T44 x13 x18).f3.f3) ((rd_T44 x13 x18).f3.f4)).bind fun bt642 => (rickyardlaw17_AskAll.l1 k x9 x13 (wrap64 (x18 + 1)) x594000 x594001 x594002 x594003 x594004 x610000 x610001 x610002 x610003 x610004 x610005 bt642.1 bt642.2.1 bt642.2.2.1 bt642.2.2.2.1 bt642.2.2.2.2.1 bt642.2.2.2.2.2)))) else (none)) else (none)) else ((agg_Merge.f x611000 x611001 x611002 x611003 x611004 x611005 ((rd_T44 x13 x18).f3.f0) ((rd_T44 x13 x18).f3.f1) ((rd_T44 x13 x18).f3.f2.f0) ((rd_T44 x13 x18).f3.f2.f1) ((rd_T44 x13 x18).f3.f3) ((rd_T44 x13 x18).f3.f4)).bind fun bt649 => (rickyardlaw17_AskAll.l1 k x9 x13 (wrap64 (x18 + 1)) x594000 x594001 x594002 x594003 x594004 x610000 x610001 x610002 x610003 x610004 x610005 bt649.1 bt649.2.1 bt649.2.2.1 bt649.2.2.2.1 bt649.2.2.2.2.1 bt649.2.2.2.2.2)))) else (none)) else (none))
end
def rickyardlaw17_AskAll.f (k : Nat) (l0_0 : List (S84)) (a0_1 : Int) (a1 : Int) (l2 : List (S60)) (l3_0 : List ByteArray) (a3_1 : Int) (a3_2 : Int) (a3_3 : Int) (a3_4 : Int) : Option (Bool) := (rickyardlaw15_Great.f k l2).bind fun t594 => (if t594 = true then ((rickyardlaw17_alive.f k).bind fun t595 => (some t595)) else ((ask_Scan.f k l0_0 a0_1 a1 l2 ([] : List ByteArray) a3_2 a3_3).bind fun bt596 => ((ask_Rollup.f k l0_0 a0_1 a1 l2 0 a3_2 a3_3).bind fun bt600 => ((ask_Rollup.f k l0_0 a0_1 a1 l2 a3_4 a3_2 a3_3).bind fun bt604 => (if bt596.2 = 0 then (rickyardlaw17_AskAll.l0 k bt596.1 bt600.1 bt600.2 bt604.1 bt604.2 0 l3_0 a3_1 a3_2 a3_3 a3_4 0 false 0 0 0 0 0 false 0 0 0 0) else ((rickyardlaw17_alive.f k).bind fun t608 => (if t608 = true then (if bt600.2 = bt596.2 then (if bt604.2 = bt596.2 then (some true) else (some (decide (a3_4 < 0)))) else (none)) else (none))))))))
def rickyardlaw17_AskAll.T12 : Bool × List (List Nat × List Nat) := (true, [([], []), ([], []), ([], []), ([1, 2], [1, 2]), ([3], [3]), ([4], [4]), ([0, 5], [0, 5]), ([6, 6, 0, 1, 2, 3, 4, 5, 6], [6])])
def rickyardlaw17_AskAll.B12 : List Nat := [0, 0, 0, 6, 14, 30, 63, 127]
theorem rickyardlaw17_AskAll.tab12 : rtab .any (opsOf Try.f4 12) = rickyardlaw17_AskAll.T12 := by kernel_rfl
theorem rickyardlaw17_AskAll.bits12 : waitsOk rickyardlaw17_AskAll.T12.2 rickyardlaw17_AskAll.B12 = true := by kernel_rfl
def rickyardlaw17_AskAll.T13 : Bool × List (List Nat × List Nat) := (true, [([], []), ([0], [0]), ([1], [1]), ([2], [2]), ([3, 2], [2, 3]), ([4, 2], [2, 4]), ([2], [2]), ([6, 2], [2, 6]), ([7, 2], [2, 7]), ([5, 8, 2], [2, 5, 8]), ([2, 9], [2, 9]), ([10, 2], [10]), ([11], [11]), ([12, 11], [11, 12]), ([13, 11], [11, 13]), ([14, 11, 11], [11, 14]), ([15], [15]), ([16, 15], [15, 16]), ([17, 15], [15, 17]), ([18, 15], [15, 18]), ([15], [15]), ([19, 20, 15], [15, 19, 20]), ([21, 15, 15], [15, 21]), ([22], [22]), ([23, 22], [22, 23]), ([24, 22], [22, 24]), ([25, 22], [22, 25]), ([26, 22], [22, 26]), ([27, 22], [22, 27]), ([22, 28, 15], [15, 22, 28]), ([15, 29, 11], [11, 15, 29]), ([11, 30], [11, 30])])
def rickyardlaw17_AskAll.B13 : List Nat := [0, 1, 3, 7, 15, 31, 7, 71, 199, 511, 1023, 2047, 4095, 8191, 16383, 32767, 65535, 131071, 262143, 524287, 65535, 2097151, 4194303, 8388607, 16777215, 33554431, 67108863, 134217727, 268435455, 536870911, 1073741823, 2147483647]
theorem rickyardlaw17_AskAll.tab13 : rtab .any (opsOf Try.f4 13) = rickyardlaw17_AskAll.T13 := by kernel_rfl
theorem rickyardlaw17_AskAll.bits13 : waitsOk rickyardlaw17_AskAll.T13.2 rickyardlaw17_AskAll.B13 = true := by kernel_rfl
def rickyardlaw17_AskAll.T24 : Bool × List (List Nat × List Nat) := (true, [([], []), ([], []), ([0, 1], [0, 1]), ([2], [2]), ([3], [3]), ([], []), ([5], [5]), ([4, 6], [4, 6]), ([7], [7]), ([8], [8]), ([8], [8]), ([9, 7, 0, 1, 2, 3, 4, 5, 6, 7, 8, 9], [9]), ([10, 11, 0, 1, 2, 3, 4, 5, 6, 7, 8, 9, 10, 11], [10])])
def rickyardlaw17_AskAll.B24 : List Nat := [0, 0, 3, 7, 15, 0, 32, 127, 255, 511, 511, 1023, 4095]
theorem rickyardlaw17_AskAll.tab24 : rtab .any (opsOf Try.f4 24) = rickyardlaw17_AskAll.T24 := by kernel_rfl
theorem rickyardlaw17_AskAll.bits24 : waitsOk rickyardlaw17_AskAll.T24.2 rickyardlaw17_AskAll.B24 = true := by kernel_rfl
def rickyardlaw17_AskAll.T26 : Bool × List (List Nat × List Nat) := (true, [([], []), ([], []), ([], []), ([1, 2], [1, 2]), ([3], [3]), ([4], [4]), ([0, 5], [0, 5]), ([6, 6, 0, 1, 2, 3, 4, 5, 6], [6])])
def rickyardlaw17_AskAll.B26 : List Nat := [0, 0, 0, 6, 14, 30, 63, 127]
theorem rickyardlaw17_AskAll.tab26 : rtab .any (opsOf Try.f4 26) = rickyardlaw17_AskAll.T26 := by kernel_rfl
theorem rickyardlaw17_AskAll.bits26 : waitsOk rickyardlaw17_AskAll.T26.2 rickyardlaw17_AskAll.B26 = true := by kernel_rfl
def rickyardlaw17_AskAll.T27 : Bool × List (List Nat × List Nat) := (true, [([], []), ([], []), ([], []), ([1, 2], [1, 2]), ([3], [3]), ([4], [4]), ([0, 5], [0, 5]), ([6], [6]), ([7], [7]), ([8, 7], [7, 8]), ([9, 7, 7], [7, 9]), ([10], [10]), ([10], [10]), ([12, 10], [10, 12]), ([11, 13, 10], [10, 11, 13]), ([14, 10], [10, 14]), ([15, 10], [10, 15]), ([10], [10]), ([10], [10]), ([17, 18, 10], [10, 17, 18]), ([19, 10], [10, 19]), ([20, 10], [10, 20]), ([16, 21, 10, 10], [10, 16, 21]), ([22, 10], [10, 22]), ([10, 23, 7], [7, 10, 23]), ([7, 24], [7, 24])])
def rickyardlaw17_AskAll.B27 : List Nat := [0, 0, 0, 6, 14, 30, 63, 127, 255, 511, 1023, 2047, 2047, 6143, 16383, 32767, 65535, 2047, 2047, 395263, 919551, 1968127, 4194303, 8388607, 16777215, 33554431]
theorem rickyardlaw17_AskAll.tab27 : rtab .any (opsOf Try.f4 27) = rickyardlaw17_AskAll.T27 := by kernel_rfl
theorem rickyardlaw17_AskAll.bits27 : waitsOk rickyardlaw17_AskAll.T27.2 rickyardlaw17_AskAll.B27 = true := by kernel_rfl
def rickyardlaw17_AskAll.T29 : Bool × List (List Nat × List Nat) := (true, [([], []), ([], []), ([], []), ([1, 2], [1, 2]), ([3], [3]), ([4], [4]), ([0, 5], [0, 5]), ([6, 6, 0, 1, 2, 3, 4, 5, 6], [6])])
def rickyardlaw17_AskAll.B29 : List Nat := [0, 0, 0, 6, 14, 30, 63, 127]
theorem rickyardlaw17_AskAll.tab29 : rtab .any (opsOf Try.f4 29) = rickyardlaw17_AskAll.T29 := by kernel_rfl
theorem rickyardlaw17_AskAll.bits29 : waitsOk rickyardlaw17_AskAll.T29.2 rickyardlaw17_AskAll.B29 = true := by kernel_rfl
theorem rickyardlaw17_AskAll.calls (k : Nat) (A0_0 : Option Addr) (c0_0 : Nat) (l0_0 : List (S84)) (a0_1 : Int) (a1 : Int) (A2 : Option Addr) (c2 : Nat) (l2 : List (S60)) (A3_0 : Option Addr) (c3_0 : Nat) (l3_0 : List ByteArray) (a3_1 : Int) (a3_2 : Int) (a3_3 : Int) (a3_4 : Int) (r : Bool) (w : World) (hr0_0 : Kd.C k84 w A0_0 l0_0.length l0_0) (hc0_0 : l0_0.length ≤ c0_0) (hr2 : Kd.C k60 w A2 l2.length l2) (hc2 : l2.length ≤ c2) (hr3_0 : Kd.C Kd.string w A3_0 l3_0.length l3_0) (hc3_0 : l3_0.length ≤ c3_0) (h : rickyardlaw17_AskAll.f k l0_0 a0_1 a1 l2 l3_0 a3_1 a3_2 a3_3 a3_4 = some r) :
  Calls Try.prog 4 #[.agg #[.slice A0_0 l0_0.length c0_0, .int .i64 a0_1], .int .i64 a1, .slice A2 l2.length c2, .agg #[.slice A3_0 l3_0.length c3_0, .int .i64 a3_1, .int .i64 a3_2, .int .i64 a3_3, .int .i64 a3_4]] w fun e w' => e = .returned (.bool r) ∧ Below w.heap.size w w' := by
 have hu24 := Try.underlying24
 have hu28 := Try.underlying28
 have hu42 := Try.underlying42
 have HR0_0 := Aside0.mk hr0_0
 have HC0_0 := Aside0.mk hc0_0
 clear hr0_0 hc0_0
 have HR2 := Aside0.mk hr2
 have HC2 := Aside0.mk hc2
 clear hr2 hc2
 have HR3_0 := Aside0.mk hr3_0
 have HC3_0 := Aside0.mk hc3_0
 clear hr3_0 hc3_0
 have HB := Aside0.mk (Below.refl w.heap.size w)
 have H : ((rickyardlaw15_Great.f k l2).bind fun t594 => (if t594 = true then ((rickyardlaw17_alive.f k).bind fun t595 => (some t595)) else ((ask_Scan.f k l0_0 a0_1 a1 l2 ([] : List ByteArray) a3_2 a3_3).bind fun bt596 => ((ask_Rollup.f k l0_0 a0_1 a1 l2 0 a3_2 a3_3).bind fun bt600 => ((ask_Rollup.f k l0_0 a0_1 a1 l2 a3_4 a3_2 a3_3).bind fun bt604 => (if bt596.2 = 0 then (rickyardlaw17_AskAll.l0 k bt596.1 bt600.1 bt600.2 bt604.1 bt604.2 0 l3_0 a3_1 a3_2 a3_3 a3_4 0 false 0 0 0 0 0 false 0 0 0 0) else ((rickyardlaw17_alive.f k).bind fun t608 => (if t608 = true then (if bt600.2 = bt596.2 then (if bt604.2 = bt596.2 then (some true) else (some (decide (a3_4 < 0)))) else (none)) else (none))))))))) = some r := h
 clear h
 replace H := bnA H
 obtain ⟨t594, A5, H⟩ := H
 by_cases c6 : t594 = true
 ·subst c6
  have H1 : ((rickyardlaw17_alive.f k).bind fun t595 => (some t595)) = some r := by rw [if_pos rfl] at H; exact H
  clear H
  have H := H1
  clear H1
  replace H := bnA H
  obtain ⟨t595, A7, H⟩ := H
  obtain rfl := Option.some.inj H
  go_enter Try.func4, Try.ntmps4
  go_wp2_with (first | ((with_reducible refine gate_dst (N := 4) rfl ?_); (try (refine gate_guard (by rfl) ?_; dsimp only)); refine boxA 4 #[.slice A0_0 l0_0.length c0_0, .int .i64 a0_1] 24 ?_; intro gb592 hg w8 hbox hb; have BK592 := Aside0.mk (hbox); have GE592 := ge1 hg (belA HB.out); replace HB := bst HB hb; clear hb hbox hg) | ((with_reducible refine gate_dst (N := 7) rfl ?_); (try (refine gate_guard (by rfl) ?_; dsimp only)); refine boxA 7 #[.slice A3_0 l3_0.length c3_0, .int .i64 a3_1, .int .i64 a3_2, .int .i64 a3_3, .int .i64 a3_4] 28 ?_; intro gb593 hg w9 hbox hb; have BK593 := Aside0.mk (hbox); have GW593 := ge1 hg (belB HB.out GE592.out); have GE593 := GW593; have NB592_593 := neL hg BK592; have NB593_592 := neR hg BK592; replace BK592 := blkB BK592 hb; replace HB := bs2 HB GE592 hb; clear hb hbox hg) | ((with_reducible refine gate_callee (f := 7) rfl ?_); refine goesL_ (some 24) rfl rfl Try.func7 (by kernel_rfl) rfl #[.slice A2 l2.length c2] rfl argA ?_; (with_reducible refine (rickyardlaw15_Great.calls k _ _ l2 true _ ?side1 ?side2 A5.out).mono ?_); (case side1 => exact cb1 HR2 HB); (case side2 => exact HC2.out); rintro e w' ⟨rfl, ⟨nd, rfl⟩⟩; refine ⟨_, rfl, ?_⟩) | ((with_reducible refine gate_callee (f := 9) rfl ?_); refine goesL_ (some 25) rfl rfl Try.func9 (by kernel_rfl) rfl #[] rfl argA ?_; (with_reducible refine (rickyardlaw17_alive.calls k  t595 _ A7.out).mono ?_); rintro e w10 ⟨rfl, hb⟩; refine ⟨_, rfl, ?_⟩; replace BK592 := blkB BK592 hb; replace BK593 := blkB BK593 hb; replace HB := bs3 HB GE592 GE593 hb; (try clear hb)))
  go_ret
  exact ⟨ret1, belC HB.out GE592.out GE593.out⟩
 replace c6 := Bool.eq_false_iff.mpr c6
 subst c6
 have H1 : ((ask_Scan.f k l0_0 a0_1 a1 l2 ([] : List ByteArray) a3_2 a3_3).bind fun bt596 => ((ask_Rollup.f k l0_0 a0_1 a1 l2 0 a3_2 a3_3).bind fun bt600 => ((ask_Rollup.f k l0_0 a0_1 a1 l2 a3_4 a3_2 a3_3).bind fun bt604 => (if bt596.2 = 0 then (rickyardlaw17_AskAll.l0 k bt596.1 bt600.1 bt600.2 bt604.1 bt604.2 0 l3_0 a3_1 a3_2 a3_3 a3_4 0 false 0 0 0 0 0 false 0 0 0 0) else ((rickyardlaw17_alive.f k).bind fun t608 => (if t608 = true then (if bt600.2 = bt596.2 then (if bt604.2 = bt596.2 then (some true) else (some (decide (a3_4 < 0)))) else (none)) else (none))))))) = some r := by rw [if_neg (show ¬ (false = true) by decide)] at H; exact H
 clear H
 have H := H1
 clear H1
 replace H := bnA H
 obtain ⟨⟨t596, t599⟩, A11, H⟩ := H
 replace H : ((ask_Rollup.f k l0_0 a0_1 a1 l2 0 a3_2 a3_3).bind fun bt600 => ((ask_Rollup.f k l0_0 a0_1 a1 l2 a3_4 a3_2 a3_3).bind fun bt604 => (if t599 = 0 then (rickyardlaw17_AskAll.l0 k t596 bt600.1 bt600.2 bt604.1 bt604.2 0 l3_0 a3_1 a3_2 a3_3 a3_4 0 false 0 0 0 0 0 false 0 0 0 0) else ((rickyardlaw17_alive.f k).bind fun t608 => (if t608 = true then (if bt600.2 = t599 then (if bt604.2 = t599 then (some true) else (some (decide (a3_4 < 0)))) else (none)) else (none)))))) = some r := H
 replace H := bnA H
 obtain ⟨⟨t600, t603⟩, A12, H⟩ := H
 replace H : ((ask_Rollup.f k l0_0 a0_1 a1 l2 a3_4 a3_2 a3_3).bind fun bt604 => (if t599 = 0 then (rickyardlaw17_AskAll.l0 k t596 t600 t603 bt604.1 bt604.2 0 l3_0 a3_1 a3_2 a3_3 a3_4 0 false 0 0 0 0 0 false 0 0 0 0) else ((rickyardlaw17_alive.f k).bind fun t608 => (if t608 = true then (if t603 = t599 then (if bt604.2 = t599 then (some true) else (some (decide (a3_4 < 0)))) else (none)) else (none))))) = some r := H
 replace H := bnA H
 obtain ⟨⟨t604, t607⟩, A13, H⟩ := H
 replace H : (if t599 = 0 then (rickyardlaw17_AskAll.l0 k t596 t600 t603 t604 t607 0 l3_0 a3_1 a3_2 a3_3 a3_4 0 false 0 0 0 0 0 false 0 0 0 0) else ((rickyardlaw17_alive.f k).bind fun t608 => (if t608 = true then (if t603 = t599 then (if t607 = t599 then (some true) else (some (decide (a3_4 < 0)))) else (none)) else (none)))) = some r := H
 by_cases c14 : t599 = 0
 rotate_left
 ·rw [if_neg c14] at H
  have c14b0 := beq_eq_false_iff_ne.mpr c14
  have c14b1 := bne_iff_ne.mpr c14
  replace H := bnA H
  obtain ⟨t608, A136, H⟩ := H
  by_cases c137 : t608 = true
  rotate_left
  ·replace c137 := Bool.eq_false_iff.mpr c137
   subst c137
   have H1 : (none) = some r := by rw [if_neg (show ¬ (false = true) by decide)] at H; exact H
   clear H
   have H := H1
   clear H1
   cases H
  subst c137
  have H1 : (if t603 = t599 then (if t607 = t599 then (some true) else (some (decide (a3_4 < 0)))) else (none)) = some r := by rw [if_pos rfl] at H; exact H
  clear H
  have H := H1
  clear H1
  by_cases c138 : t603 = t599
  rotate_left
  ·rw [if_neg c138] at H
   cases H
  rw [if_pos c138] at H
  have c138b0 := beq_iff_eq.mpr c138
  have c138b1 := bne_eq_false_iff_eq.mpr c138
  clear c138
  by_cases c139 : t607 = t599
  rotate_left
  ·rw [if_neg c139] at H
   have c139b0 := beq_eq_false_iff_ne.mpr c139
   have c139b1 := bne_iff_ne.mpr c139
   obtain rfl := Option.some.inj H
   go_enter Try.func4, Try.ntmps4
   go_wp2_with (first | ((with_reducible refine gate_dst (N := 4) rfl ?_); (try (refine gate_guard (by rfl) ?_; dsimp only)); refine boxA 4 #[.slice A0_0 l0_0.length c0_0, .int .i64 a0_1] 24 ?_; intro gb592 hg w153 hbox hb; have BK592 := Aside0.mk (hbox); have GE592 := ge1 hg (belA HB.out); replace HB := bst HB hb; clear hb hbox hg) | ((with_reducible refine gate_dst (N := 7) rfl ?_); (try (refine gate_guard (by rfl) ?_; dsimp only)); refine boxA 7 #[.slice A3_0 l3_0.length c3_0, .int .i64 a3_1, .int .i64 a3_2, .int .i64 a3_3, .int .i64 a3_4] 28 ?_; intro gb593 hg w154 hbox hb; have BK593 := Aside0.mk (hbox); have GW593 := ge1 hg (belB HB.out GE592.out); have GE593 := GW593; have NB592_593 := neL hg BK592; have NB593_592 := neR hg BK592; replace BK592 := blkB BK592 hb; replace HB := bs2 HB GE592 hb; clear hb hbox hg) | ((with_reducible refine gate_callee (f := 7) rfl ?_); refine goesL_ (some 24) rfl rfl Try.func7 (by kernel_rfl) rfl #[.slice A2 l2.length c2] rfl argA ?_; (with_reducible refine (rickyardlaw15_Great.calls k _ _ l2 false _ ?side1 ?side2 A5.out).mono ?_); (case side1 => exact cb1 HR2 HB); (case side2 => exact HC2.out); rintro e w' ⟨rfl, ⟨nd, rfl⟩⟩; refine ⟨_, rfl, ?_⟩; have hnb155 := NB592_593.out; have hnc155 := NB593_592.out; obtain ⟨hcz156_0, hcz156_1, hfz156_0, hfz156_1⟩ := blk2 BK592; obtain ⟨hcz157_0, hcz157_1, hcz157_2, hcz157_3, hcz157_4, hfz157_0, hfz157_1, hfz157_2, hfz157_3, hfz157_4⟩ := blk5 BK593) | ((with_reducible refine gate_callee (f := 10) rfl ?_); refine goesL_ (some 34) rfl rfl Try.func10 (by kernel_rfl) rfl #[.agg #[.slice A0_0 l0_0.length c0_0, .int .i64 a0_1], .int .i64 a1, .slice A2 l2.length c2, .slice none 0 0, .int .i64 a3_2, .int .i64 a3_3] rfl argA ?_; (refine (ask_Scan.calls k _ _ l0_0 a0_1 a1 _ _ l2 _ _ ([] : List ByteArray) a3_2 a3_3 t596 t599 _ ?side1 ?side2 ?side3 ?side4 ?side5 ?side6 A11.out).mono ?_); (case side1 => repeat (first | exact (Kd.C_below HR0_0.out (belC HB.out GE592.out GE593.out)) | (with_reducible refine Kd.C_alloc ?_ _) | (with_reducible refine Kd.C_drewN ?_ _) | (with_reducible refine Kd.C_drew ?_))); (case side2 => exact HC0_0.out); (case side3 => repeat (first | exact (Kd.C_below HR2.out (belC HB.out GE592.out GE593.out)) | (with_reducible refine Kd.C_alloc ?_ _) | (with_reducible refine Kd.C_drewN ?_ _) | (with_reducible refine Kd.C_drew ?_))); (case side4 => exact HC2.out); (case side5 => exact Kd.C_nil _ _); (case side6 => exact Nat.le_refl _); rintro e w158 ⟨v597, rfl, ho0, hb⟩; refine ⟨_, rfl, ?_⟩; have HO598 := Aside0.mk (Kd.R_lower ho0 (below_size (belC HB.out GE592.out GE593.out))); replace BK592 := blkB BK592 hb; replace BK593 := blkB BK593 hb; replace HB := bs3 HB GE592 GE593 hb; (try clear hb); (try clear ho0); obtain ⟨hcz159_0, hcz159_1, hfz159_0, hfz159_1⟩ := blk2 BK592; obtain ⟨hcz160_0, hcz160_1, hcz160_2, hcz160_3, hcz160_4, hfz160_0, hfz160_1, hfz160_2, hfz160_3, hfz160_4⟩ := blk5 BK593) | ((with_reducible refine gate_callee (f := 13) rfl ?_); refine goesL_ (some 45) rfl rfl Try.func13 (by kernel_rfl) rfl #[.agg #[.slice A0_0 l0_0.length c0_0, .int .i64 a0_1], .int .i64 a1, .slice A2 l2.length c2, .int .i64 0, .int .i64 a3_2, .int .i64 a3_3] rfl argA ?_; (with_reducible refine (ask_Rollup.calls k _ _ l0_0 a0_1 a1 _ _ l2 0 a3_2 a3_3 t600 t603 _ ?side1 ?side2 ?side3 ?side4 A12.out).mono ?_); (case side1 => exact cb1 HR0_0 HB); (case side2 => exact HC0_0.out); (case side3 => exact cb1 HR2 HB); (case side4 => exact HC2.out); rintro e w161 ⟨v601, rfl, ho0, hb⟩; refine ⟨_, rfl, ?_⟩; have HO602 := Aside0.mk (Kd.R_lower (Kd.R_new' ho0 (Kd.R_lt (rowA HO598.out))) (below_size (belC HB.out GE592.out GE593.out))); replace HO598 := Aside0.mk (Kd.R_elder' (rowA HO598.out) (Kd.R_base ho0) hb); replace BK592 := blkB BK592 hb; replace BK593 := blkB BK593 hb; replace HB := bs3 HB GE592 GE593 hb; (try clear hb); (try clear ho0); obtain ⟨hcz162_0, hcz162_1, hfz162_0, hfz162_1⟩ := blk2 BK592; obtain ⟨hcz163_0, hcz163_1, hcz163_2, hcz163_3, hcz163_4, hfz163_0, hfz163_1, hfz163_2, hfz163_3, hfz163_4⟩ := blk5 BK593) | ((with_reducible refine gate_callee (f := 13) rfl ?_); refine goesL_ (some 58) rfl rfl Try.func13 (by kernel_rfl) rfl #[.agg #[.slice A0_0 l0_0.length c0_0, .int .i64 a0_1], .int .i64 a1, .slice A2 l2.length c2, .int .i64 a3_4, .int .i64 a3_2, .int .i64 a3_3] rfl argA ?_; (with_reducible refine (ask_Rollup.calls k _ _ l0_0 a0_1 a1 _ _ l2 a3_4 a3_2 a3_3 t604 t607 _ ?side1 ?side2 ?side3 ?side4 A13.out).mono ?_); (case side1 => exact cb1 HR0_0 HB); (case side2 => exact HC0_0.out); (case side3 => exact cb1 HR2 HB); (case side4 => exact HC2.out); rintro e w164 ⟨v605, rfl, ho0, hb⟩; refine ⟨_, rfl, ?_⟩; have HO606 := Aside0.mk (Kd.R_lower (Kd.R_new' (Kd.R_new' ho0 (Kd.R_lt (rowA HO598.out))) (Kd.R_lt (rowA HO602.out))) (below_size (belC HB.out GE592.out GE593.out))); replace HO598 := Aside0.mk (Kd.R_elder' (rowA HO598.out) (Kd.R_base ho0) hb); replace HO602 := Aside0.mk (Kd.R_elder' (rowA HO602.out) (Kd.R_base ho0) hb); replace BK592 := blkB BK592 hb; replace BK593 := blkB BK593 hb; replace HB := bs3 HB GE592 GE593 hb; (try clear hb); (try clear ho0)) | ((with_reducible refine gate_callee (f := 9) rfl ?_); refine goesL_ (some 63) rfl rfl Try.func9 (by kernel_rfl) rfl #[] rfl argA ?_; (with_reducible refine (rickyardlaw17_alive.calls k  true _ A136.out).mono ?_); rintro e w165 ⟨rfl, hb⟩; refine ⟨_, rfl, ?_⟩; replace HO598 := Aside0.mk (Kd.R_below (rowA HO598.out) hb); replace HO602 := Aside0.mk (Kd.R_below (rowA HO602.out) hb); replace HO606 := Aside0.mk (Kd.R_below (rowA HO606.out) hb); replace BK592 := blkB BK592 hb; replace BK593 := blkB BK593 hb; replace HB := bs3 HB GE592 GE593 hb; (try clear hb); obtain ⟨hcz166_0, hcz166_1, hcz166_2, hcz166_3, hcz166_4, hfz166_0, hfz166_1, hfz166_2, hfz166_3, hfz166_4⟩ := blk5 BK593))
   go_ret
   exact ⟨ret1, belC HB.out GE592.out GE593.out⟩
  rw [if_pos c139] at H
  have c139b0 := beq_iff_eq.mpr c139
  have c139b1 := bne_eq_false_iff_eq.mpr c139
  clear c139
  obtain rfl := Option.some.inj H
  go_enter Try.func4, Try.ntmps4
  go_wp2_with (first | ((with_reducible refine gate_dst (N := 4) rfl ?_); (try (refine gate_guard (by rfl) ?_; dsimp only)); refine boxA 4 #[.slice A0_0 l0_0.length c0_0, .int .i64 a0_1] 24 ?_; intro gb592 hg w140 hbox hb; have BK592 := Aside0.mk (hbox); have GE592 := ge1 hg (belA HB.out); replace HB := bst HB hb; clear hb hbox hg) | ((with_reducible refine gate_dst (N := 7) rfl ?_); (try (refine gate_guard (by rfl) ?_; dsimp only)); refine boxA 7 #[.slice A3_0 l3_0.length c3_0, .int .i64 a3_1, .int .i64 a3_2, .int .i64 a3_3, .int .i64 a3_4] 28 ?_; intro gb593 hg w141 hbox hb; have BK593 := Aside0.mk (hbox); have GW593 := ge1 hg (belB HB.out GE592.out); have GE593 := GW593; have NB592_593 := neL hg BK592; have NB593_592 := neR hg BK592; replace BK592 := blkB BK592 hb; replace HB := bs2 HB GE592 hb; clear hb hbox hg) | ((with_reducible refine gate_callee (f := 7) rfl ?_); refine goesL_ (some 24) rfl rfl Try.func7 (by kernel_rfl) rfl #[.slice A2 l2.length c2] rfl argA ?_; (with_reducible refine (rickyardlaw15_Great.calls k _ _ l2 false _ ?side1 ?side2 A5.out).mono ?_); (case side1 => exact cb1 HR2 HB); (case side2 => exact HC2.out); rintro e w' ⟨rfl, ⟨nd, rfl⟩⟩; refine ⟨_, rfl, ?_⟩; have hnb142 := NB592_593.out; have hnc142 := NB593_592.out; obtain ⟨hcz143_0, hcz143_1, hfz143_0, hfz143_1⟩ := blk2 BK592; obtain ⟨hcz144_0, hcz144_1, hcz144_2, hcz144_3, hcz144_4, hfz144_0, hfz144_1, hfz144_2, hfz144_3, hfz144_4⟩ := blk5 BK593) | ((with_reducible refine gate_callee (f := 10) rfl ?_); refine goesL_ (some 34) rfl rfl Try.func10 (by kernel_rfl) rfl #[.agg #[.slice A0_0 l0_0.length c0_0, .int .i64 a0_1], .int .i64 a1, .slice A2 l2.length c2, .slice none 0 0, .int .i64 a3_2, .int .i64 a3_3] rfl argA ?_; (refine (ask_Scan.calls k _ _ l0_0 a0_1 a1 _ _ l2 _ _ ([] : List ByteArray) a3_2 a3_3 t596 t599 _ ?side1 ?side2 ?side3 ?side4 ?side5 ?side6 A11.out).mono ?_); (case side1 => repeat (first | exact (Kd.C_below HR0_0.out (belC HB.out GE592.out GE593.out)) | (with_reducible refine Kd.C_alloc ?_ _) | (with_reducible refine Kd.C_drewN ?_ _) | (with_reducible refine Kd.C_drew ?_))); (case side2 => exact HC0_0.out); (case side3 => repeat (first | exact (Kd.C_below HR2.out (belC HB.out GE592.out GE593.out)) | (with_reducible refine Kd.C_alloc ?_ _) | (with_reducible refine Kd.C_drewN ?_ _) | (with_reducible refine Kd.C_drew ?_))); (case side4 => exact HC2.out); (case side5 => exact Kd.C_nil _ _); (case side6 => exact Nat.le_refl _); rintro e w145 ⟨v597, rfl, ho0, hb⟩; refine ⟨_, rfl, ?_⟩; have HO598 := Aside0.mk (Kd.R_lower ho0 (below_size (belC HB.out GE592.out GE593.out))); replace BK592 := blkB BK592 hb; replace BK593 := blkB BK593 hb; replace HB := bs3 HB GE592 GE593 hb; (try clear hb); (try clear ho0); obtain ⟨hcz146_0, hcz146_1, hfz146_0, hfz146_1⟩ := blk2 BK592; obtain ⟨hcz147_0, hcz147_1, hcz147_2, hcz147_3, hcz147_4, hfz147_0, hfz147_1, hfz147_2, hfz147_3, hfz147_4⟩ := blk5 BK593) | ((with_reducible refine gate_callee (f := 13) rfl ?_); refine goesL_ (some 45) rfl rfl Try.func13 (by kernel_rfl) rfl #[.agg #[.slice A0_0 l0_0.length c0_0, .int .i64 a0_1], .int .i64 a1, .slice A2 l2.length c2, .int .i64 0, .int .i64 a3_2, .int .i64 a3_3] rfl argA ?_; (with_reducible refine (ask_Rollup.calls k _ _ l0_0 a0_1 a1 _ _ l2 0 a3_2 a3_3 t600 t603 _ ?side1 ?side2 ?side3 ?side4 A12.out).mono ?_); (case side1 => exact cb1 HR0_0 HB); (case side2 => exact HC0_0.out); (case side3 => exact cb1 HR2 HB); (case side4 => exact HC2.out); rintro e w148 ⟨v601, rfl, ho0, hb⟩; refine ⟨_, rfl, ?_⟩; have HO602 := Aside0.mk (Kd.R_lower (Kd.R_new' ho0 (Kd.R_lt (rowA HO598.out))) (below_size (belC HB.out GE592.out GE593.out))); replace HO598 := Aside0.mk (Kd.R_elder' (rowA HO598.out) (Kd.R_base ho0) hb); replace BK592 := blkB BK592 hb; replace BK593 := blkB BK593 hb; replace HB := bs3 HB GE592 GE593 hb; (try clear hb); (try clear ho0); obtain ⟨hcz149_0, hcz149_1, hfz149_0, hfz149_1⟩ := blk2 BK592; obtain ⟨hcz150_0, hcz150_1, hcz150_2, hcz150_3, hcz150_4, hfz150_0, hfz150_1, hfz150_2, hfz150_3, hfz150_4⟩ := blk5 BK593) | ((with_reducible refine gate_callee (f := 13) rfl ?_); refine goesL_ (some 58) rfl rfl Try.func13 (by kernel_rfl) rfl #[.agg #[.slice A0_0 l0_0.length c0_0, .int .i64 a0_1], .int .i64 a1, .slice A2 l2.length c2, .int .i64 a3_4, .int .i64 a3_2, .int .i64 a3_3] rfl argA ?_; (with_reducible refine (ask_Rollup.calls k _ _ l0_0 a0_1 a1 _ _ l2 a3_4 a3_2 a3_3 t604 t607 _ ?side1 ?side2 ?side3 ?side4 A13.out).mono ?_); (case side1 => exact cb1 HR0_0 HB); (case side2 => exact HC0_0.out); (case side3 => exact cb1 HR2 HB); (case side4 => exact HC2.out); rintro e w151 ⟨v605, rfl, ho0, hb⟩; refine ⟨_, rfl, ?_⟩; have HO606 := Aside0.mk (Kd.R_lower (Kd.R_new' (Kd.R_new' ho0 (Kd.R_lt (rowA HO598.out))) (Kd.R_lt (rowA HO602.out))) (below_size (belC HB.out GE592.out GE593.out))); replace HO598 := Aside0.mk (Kd.R_elder' (rowA HO598.out) (Kd.R_base ho0) hb); replace HO602 := Aside0.mk (Kd.R_elder' (rowA HO602.out) (Kd.R_base ho0) hb); replace BK592 := blkB BK592 hb; replace BK593 := blkB BK593 hb; replace HB := bs3 HB GE592 GE593 hb; (try clear hb); (try clear ho0)) | ((with_reducible refine gate_callee (f := 9) rfl ?_); refine goesL_ (some 63) rfl rfl Try.func9 (by kernel_rfl) rfl #[] rfl argA ?_; (with_reducible refine (rickyardlaw17_alive.calls k  true _ A136.out).mono ?_); rintro e w152 ⟨rfl, hb⟩; refine ⟨_, rfl, ?_⟩; replace HO598 := Aside0.mk (Kd.R_below (rowA HO598.out) hb); replace HO602 := Aside0.mk (Kd.R_below (rowA HO602.out) hb); replace HO606 := Aside0.mk (Kd.R_below (rowA HO606.out) hb); replace BK592 := blkB BK592 hb; replace BK593 := blkB BK593 hb; replace HB := bs3 HB GE592 GE593 hb; (try clear hb)))
  go_ret
  exact ⟨ret1, belC HB.out GE592.out GE593.out⟩
 rw [if_pos c14] at H
 have c14b0 := beq_iff_eq.mpr c14
 have c14b1 := bne_eq_false_iff_eq.mpr c14
 clear c14
 have H' := Aside0.mk H
 clear H
 go_enter Try.func4, Try.ntmps4
 go_wp2_with (first | ((with_reducible refine gate_dst (N := 4) rfl ?_); (try (refine gate_guard (by rfl) ?_; dsimp only)); refine boxA 4 #[.slice A0_0 l0_0.length c0_0, .int .i64 a0_1] 24 ?_; intro gb592 hg w15 hbox hb; have BK592 := Aside0.mk (hbox); have GE592 := ge1 hg (belA HB.out); replace HB := bst HB hb; clear hb hbox hg) | ((with_reducible refine gate_dst (N := 7) rfl ?_); (try (refine gate_guard (by rfl) ?_; dsimp only)); refine boxA 7 #[.slice A3_0 l3_0.length c3_0, .int .i64 a3_1, .int .i64 a3_2, .int .i64 a3_3, .int .i64 a3_4] 28 ?_; intro gb593 hg w16 hbox hb; have BK593 := Aside0.mk (hbox); have GW593 := ge1 hg (belB HB.out GE592.out); have GE593 := GW593; have NB592_593 := neL hg BK592; have NB593_592 := neR hg BK592; replace BK592 := blkB BK592 hb; replace HB := bs2 HB GE592 hb; clear hb hbox hg) | ((with_reducible refine gate_callee (f := 7) rfl ?_); refine goesL_ (some 24) rfl rfl Try.func7 (by kernel_rfl) rfl #[.slice A2 l2.length c2] rfl argA ?_; (with_reducible refine (rickyardlaw15_Great.calls k _ _ l2 false _ ?side1 ?side2 A5.out).mono ?_); (case side1 => exact cb1 HR2 HB); (case side2 => exact HC2.out); rintro e w' ⟨rfl, ⟨nd, rfl⟩⟩; refine ⟨_, rfl, ?_⟩; have hnb17 := NB592_593.out; have hnc17 := NB593_592.out; obtain ⟨hcz18_0, hcz18_1, hfz18_0, hfz18_1⟩ := blk2 BK592; obtain ⟨hcz19_0, hcz19_1, hcz19_2, hcz19_3, hcz19_4, hfz19_0, hfz19_1, hfz19_2, hfz19_3, hfz19_4⟩ := blk5 BK593) | ((with_reducible refine gate_callee (f := 10) rfl ?_); refine goesL_ (some 34) rfl rfl Try.func10 (by kernel_rfl) rfl #[.agg #[.slice A0_0 l0_0.length c0_0, .int .i64 a0_1], .int .i64 a1, .slice A2 l2.length c2, .slice none 0 0, .int .i64 a3_2, .int .i64 a3_3] rfl argA ?_; (refine (ask_Scan.calls k _ _ l0_0 a0_1 a1 _ _ l2 _ _ ([] : List ByteArray) a3_2 a3_3 t596 t599 _ ?side1 ?side2 ?side3 ?side4 ?side5 ?side6 A11.out).mono ?_); (case side1 => repeat (first | exact (Kd.C_below HR0_0.out (belC HB.out GE592.out GE593.out)) | (with_reducible refine Kd.C_alloc ?_ _) | (with_reducible refine Kd.C_drewN ?_ _) | (with_reducible refine Kd.C_drew ?_))); (case side2 => exact HC0_0.out); (case side3 => repeat (first | exact (Kd.C_below HR2.out (belC HB.out GE592.out GE593.out)) | (with_reducible refine Kd.C_alloc ?_ _) | (with_reducible refine Kd.C_drewN ?_ _) | (with_reducible refine Kd.C_drew ?_))); (case side4 => exact HC2.out); (case side5 => exact Kd.C_nil _ _); (case side6 => exact Nat.le_refl _); rintro e w20 ⟨v597, rfl, ho0, hb⟩; refine ⟨_, rfl, ?_⟩; have HO598 := Aside0.mk (Kd.R_lower ho0 (below_size (belC HB.out GE592.out GE593.out))); replace BK592 := blkB BK592 hb; replace BK593 := blkB BK593 hb; replace HB := bs3 HB GE592 GE593 hb; (try clear hb); (try clear ho0); obtain ⟨hcz21_0, hcz21_1, hfz21_0, hfz21_1⟩ := blk2 BK592; obtain ⟨hcz22_0, hcz22_1, hcz22_2, hcz22_3, hcz22_4, hfz22_0, hfz22_1, hfz22_2, hfz22_3, hfz22_4⟩ := blk5 BK593) | ((with_reducible refine gate_callee (f := 13) rfl ?_); refine goesL_ (some 45) rfl rfl Try.func13 (by kernel_rfl) rfl #[.agg #[.slice A0_0 l0_0.length c0_0, .int .i64 a0_1], .int .i64 a1, .slice A2 l2.length c2, .int .i64 0, .int .i64 a3_2, .int .i64 a3_3] rfl argA ?_; (with_reducible refine (ask_Rollup.calls k _ _ l0_0 a0_1 a1 _ _ l2 0 a3_2 a3_3 t600 t603 _ ?side1 ?side2 ?side3 ?side4 A12.out).mono ?_); (case side1 => exact cb1 HR0_0 HB); (case side2 => exact HC0_0.out); (case side3 => exact cb1 HR2 HB); (case side4 => exact HC2.out); rintro e w23 ⟨v601, rfl, ho0, hb⟩; refine ⟨_, rfl, ?_⟩; have HO602 := Aside0.mk (Kd.R_lower (Kd.R_new' ho0 (Kd.R_lt (rowA HO598.out))) (below_size (belC HB.out GE592.out GE593.out))); replace HO598 := Aside0.mk (Kd.R_elder' (rowA HO598.out) (Kd.R_base ho0) hb); replace BK592 := blkB BK592 hb; replace BK593 := blkB BK593 hb; replace HB := bs3 HB GE592 GE593 hb; (try clear hb); (try clear ho0); obtain ⟨hcz24_0, hcz24_1, hfz24_0, hfz24_1⟩ := blk2 BK592; obtain ⟨hcz25_0, hcz25_1, hcz25_2, hcz25_3, hcz25_4, hfz25_0, hfz25_1, hfz25_2, hfz25_3, hfz25_4⟩ := blk5 BK593) | ((with_reducible refine gate_callee (f := 13) rfl ?_); refine goesL_ (some 58) rfl rfl Try.func13 (by kernel_rfl) rfl #[.agg #[.slice A0_0 l0_0.length c0_0, .int .i64 a0_1], .int .i64 a1, .slice A2 l2.length c2, .int .i64 a3_4, .int .i64 a3_2, .int .i64 a3_3] rfl argA ?_; (with_reducible refine (ask_Rollup.calls k _ _ l0_0 a0_1 a1 _ _ l2 a3_4 a3_2 a3_3 t604 t607 _ ?side1 ?side2 ?side3 ?side4 A13.out).mono ?_); (case side1 => exact cb1 HR0_0 HB); (case side2 => exact HC0_0.out); (case side3 => exact cb1 HR2 HB); (case side4 => exact HC2.out); rintro e w26 ⟨v605, rfl, ho0, hb⟩; refine ⟨_, rfl, ?_⟩; have HO606 := Aside0.mk (Kd.R_lower (Kd.R_new' (Kd.R_new' ho0 (Kd.R_lt (rowA HO598.out))) (Kd.R_lt (rowA HO602.out))) (below_size (belC HB.out GE592.out GE593.out))); replace HO598 := Aside0.mk (Kd.R_elder' (rowA HO598.out) (Kd.R_base ho0) hb); replace HO602 := Aside0.mk (Kd.R_elder' (rowA HO602.out) (Kd.R_base ho0) hb); replace BK592 := blkB BK592 hb; replace BK593 := blkB BK593 hb; replace HB := bs3 HB GE592 GE593 hb; (try clear hb); (try clear ho0)) | ((with_reducible refine gate_dst (N := 15) rfl ?_); (try (refine gate_guard (by rfl) ?_; dsimp only)); refine boxA 15 #[.int .u64 0, .bool false, .int .i64 0, .int .u64 0, .int .i64 0, .int .i64 0] 42 ?_; intro gb609 hg w27 hbox hb; have BK609 := Aside0.mk (hbox); have GW609 := ge1 hg (belC HB.out GE592.out GE593.out); have GE609 := GW609; have NB592_609 := neL hg BK592; have NB609_592 := neR hg BK592; have NB593_609 := neL hg BK593; have NB609_593 := neR hg BK593; replace HO598 := Aside0.mk (Kd.R_below (rowA HO598.out) hb); replace HO602 := Aside0.mk (Kd.R_below (rowA HO602.out) hb); replace HO606 := Aside0.mk (Kd.R_below (rowA HO606.out) hb); replace BK592 := blkB BK592 hb; replace BK593 := blkB BK593 hb; replace HB := bs3 HB GE592 GE593 hb; clear hb hbox hg) | ((with_reducible refine gate_dst (N := 16) rfl ?_); (try (refine gate_guard (by rfl) ?_; dsimp only)); refine boxA 16 #[.int .u64 0, .bool false, .int .i64 0, .int .u64 0, .int .i64 0, .int .i64 0] 42 ?_; intro gb610 hg w28 hbox hb; have BK610 := Aside0.mk (hbox); have GW610 := ge1 hg (belD HB.out GE592.out GE593.out GE609.out); have GE610 := GW610; have NB592_610 := neL hg BK592; have NB610_592 := neR hg BK592; have NB593_610 := neL hg BK593; have NB610_593 := neR hg BK593; have NB609_610 := neL hg BK609; have NB610_609 := neR hg BK609; replace HO598 := Aside0.mk (Kd.R_below (rowA HO598.out) hb); replace HO602 := Aside0.mk (Kd.R_below (rowA HO602.out) hb); replace HO606 := Aside0.mk (Kd.R_below (rowA HO606.out) hb); replace BK592 := blkB BK592 hb; replace BK593 := blkB BK593 hb; replace BK609 := blkB BK609 hb; replace HB := Aside0.mk (below_step (belD HB.out GE592.out GE593.out GE609.out) hb); clear hb hbox hg))
 go_loopg [17] k (fun kq v17 w' => ∃ (x17_1 : Int) (x610000_1 : Int) (x610001_1 : Bool) (x610002_1 : Int) (x610003_1 : Int) (x610004_1 : Int) (x610005_1 : Int), v17 = .int .i64 x17_1 ∧ Aside0 (rickyardlaw17_AskAll.l0 kq t596 t600 t603 t604 t607 x17_1 l3_0 a3_1 a3_2 a3_3 a3_4 x610000_1 x610001_1 x610002_1 x610003_1 x610004_1 x610005_1 0 false 0 0 0 0 = some r) ∧ Aside0 (kq ≤ k) ∧ Aside0 (Kd.R k44 44 w' w.heap.size (fun k_ => some k_ ≠ (v601 : Value).ownBlock ∧ some k_ ≠ (v605 : Value).ownBlock) v597 t596) ∧ Aside0 (Kd.R k44 44 w' w.heap.size (fun k_ => some k_ ≠ (v597 : Value).ownBlock ∧ some k_ ≠ (v605 : Value).ownBlock) v601 t600) ∧ Aside0 (Kd.R k44 44 w' w.heap.size (fun k_ => some k_ ≠ (v597 : Value).ownBlock ∧ some k_ ≠ (v601 : Value).ownBlock) v605 t604) ∧ Aside0 (w'.heap[gb592]? = some (.cells #[(.slice A0_0 l0_0.length c0_0), .int .i64 a0_1] 24 (0, 0))) ∧ Aside0 (w'.heap[gb593]? = some (.cells #[(.slice A3_0 l3_0.length c3_0), .int .i64 a3_1, .int .i64 a3_2, .int .i64 a3_3, .int .i64 a3_4] 28 (0, 0))) ∧ Aside0 (w'.heap[gb609]? = some (.cells #[.int .u64 x610000_1, .bool x610001_1, .int .i64 x610002_1, .int .u64 x610003_1, .int .i64 x610004_1, .int .i64 x610005_1] 42 (0, 0))) ∧ Aside0 (w'.heap[gb610]? = some (.cells #[.int .u64 0, .bool false, .int .i64 0, .int .u64 0, .int .i64 0, .int .i64 0] 42 (0, 0))) ∧ Aside0 (Below w.heap.size w w'))
 case atStart => exact ⟨(0), (0), (false), (0), (0), (0), (0), relA, H', ⟨Nat.le_refl _⟩, ⟨by (with_reducible repeat (first | apply Kd.R_alloc | apply Kd.R_drewN | apply Kd.R_drew)); exact Kd.R_mono HO598.out (fun _ hk => ⟨hk.1.2, hk.2⟩)⟩, ⟨by (with_reducible repeat (first | apply Kd.R_alloc | apply Kd.R_drewN | apply Kd.R_drew)); exact Kd.R_mono HO602.out (fun _ hk => ⟨hk.1.2, hk.2⟩)⟩, ⟨by (with_reducible repeat (first | apply Kd.R_alloc | apply Kd.R_drewN | apply Kd.R_drew)); exact Kd.R_mono HO606.out (fun _ hk => ⟨hk.1.2, hk.2⟩)⟩, ⟨blkA BK592.out⟩, ⟨blkA BK593.out⟩, ⟨blkA BK609.out⟩, ⟨blkA BK610.out⟩, ⟨by repeat (first | (with_reducible first | exact HB.out | apply below_alloc | apply pw_below_drewN | apply below_drew1 | refine below_set ?_ GE592.out | refine below_set ?_ GE593.out | refine below_set ?_ GE609.out | refine below_set ?_ GE610.out) | exact HB.out)⟩⟩
 case round =>
  clear H'
  try clear c1
  try clear c2
  try clear p2
  try clear c3
  try clear c4
  try clear c6
  try clear c7
  try clear c9
  try clear c10
  try clear c13
  try clear c14
  try clear c14b0
  try clear c14b1
  try clear c17
  try clear hcz18_0 hcz18_1
  try clear hcz19_0 hcz19_1 hcz19_2 hcz19_3 hcz19_4
  try clear hcz21_0 hcz21_1
  try clear hcz22_0 hcz22_1 hcz22_2 hcz22_3 hcz22_4
  try clear hcz24_0 hcz24_1
  try clear hcz25_0 hcz25_1 hcz25_2 hcz25_3 hcz25_4
  try clear hfz18_0 hfz18_1
  try clear hfz19_0 hfz19_1 hfz19_2 hfz19_3 hfz19_4
  try clear hfz21_0 hfz21_1
  try clear hfz22_0 hfz22_1 hfz22_2 hfz22_3 hfz22_4
  try clear hfz24_0 hfz24_1
  try clear hfz25_0 hfz25_1 hfz25_2 hfz25_3 hfz25_4
  obtain ⟨x17_1, x610000_1, x610001_1, x610002_1, x610003_1, x610004_1, x610005_1, rfl, HA, HK1, HO_9, HO_11, HO_13, BK592, BK593, BK609, BK610, HB⟩ := hrel
  cases gk with
  | zero => exact absurd HA.out (by simp [rickyardlaw17_AskAll.l0])
  | succ k1 =>
   have H := HA.out
   clear HA
   simp only [rickyardlaw17_AskAll.l0] at H
   by_cases c29 : x17_1 < (t596.length : Int)
   ·rw [if_pos c29] at H
    have c29b0 := decide_eq_true c29
    clear c29
    by_cases c30 : 0 ≤ x17_1
    ·rw [if_pos c30] at H
     have c30b0 := decide_eq_true c30
     clear c30
     replace H := bnA H
     obtain ⟨⟨t612, t613, t614, t615, t616, t617⟩, A31, H⟩ := H
     replace H : (rickyardlaw17_AskAll.l0 k1 t596 t600 t603 t604 t607 (wrap64 (x17_1 + 1)) l3_0 a3_1 a3_2 a3_3 a3_4 t612 t613 t614 t615 t616 t617 0 false 0 0 0 0) = some r := H
     have H' := Aside0.mk H
     clear H
     obtain ⟨Ao32, co32, eo32⟩ := Kd.R_slice HO_9.out
     subst eo32
     try go_wp2
     replace HO_9 := Aside0.mk (Kd.R_drew HO_9.out)
     replace HO_11 := Aside0.mk (Kd.R_drew HO_11.out)
     replace HO_13 := Aside0.mk (Kd.R_drew HO_13.out)
     replace BK592 := Aside0.mk (blk_drew BK592.out)
     replace BK593 := Aside0.mk (blk_drew BK593.out)
     replace BK609 := Aside0.mk (blk_drew BK609.out)
     replace BK610 := Aside0.mk (blk_drew BK610.out)
     replace HB := Aside0.mk (below_drew1 HB.out)
     have p611 : 0 ≤ (x17_1 : Int) := of_decide_eq_true asmA
     have q611 : x17_1 < (t596.length : Int) := of_decide_eq_true asmA
     obtain ⟨ad611, A611_0, c611_0, e611, hx611_0, hx611_1, hx611_2, hx611_3, hx611_4, hx611_5, hx611_6, hx611_7, hx611_8, hl611_0, hi611_0⟩ := at_T44 (Kd.R_reads' HO_9.out).2.2 x17_1 p611 q611
     cases e611
     obtain ⟨ce611, hce611, hMe611, hcc611⟩ := Kd.R_get HO_9.out z44 x17_1 p611 (by first | exact q611 | exact of_decide_eq_true asmA | (have e_ := (Kd.R_reads' HO_9.out).1; omega))
     obtain ⟨ve611_0, rfl, ge611_0⟩ := k44_openM hMe611
     have hv611_0 := hcc611 0 _ rfl
     rw [Nat.add_zero] at hv611_0
     replace hv611_0 := Option.some.inj (hv611_0.symm.trans hx611_0)
     rw [hv611_0] at ge611_0
     have HL611_0 := Aside0.mk (show Kd.R Kd.string 9 _ _ _ _ ((rd_T44 t596 x17_1).f0) from ge611_0)
     clear hv611_0 ge611_0
     clear hcc611 hce611
     have HR611_0 := Aside0.mk hi611_0
     have HC611_0 := Aside0.mk hl611_0
     clear hi611_0 hl611_0
     replace p611 := eq_true p611
     replace q611 := eq_true q611
     refine start_ (n := 8) (S := fun w' => w'.cell? ⟨gb609, 0, none⟩ = some (.int .u64 x610000_1) ∧ w'.cell? ⟨gb609, 1, none⟩ = some (.bool x610001_1) ∧ w'.cell? ⟨gb609, 2, none⟩ = some (.int .i64 x610002_1) ∧ w'.cell? ⟨gb609, 3, none⟩ = some (.int .u64 x610003_1) ∧ w'.cell? ⟨gb609, 4, none⟩ = some (.int .i64 x610004_1) ∧ w'.cell? ⟨gb609, 5, none⟩ = some (.int .i64 x610005_1) ∧ w'.cell? (ad611.add ((x17_1).toNat * 9)) = some (.slice A611_0 ((rd_T44 t596 x17_1).f0).length c611_0) ∧ w'.cell? ⟨(ad611.add ((x17_1).toNat * 9)).block, (ad611.add ((x17_1).toNat * 9)).off + 1, none⟩ = some (.int .i64 ((rd_T44 t596 x17_1).f1)) ∧ w'.cell? ⟨(ad611.add ((x17_1).toNat * 9)).block, (ad611.add ((x17_1).toNat * 9)).off + 2, none⟩ = some (.int .i64 ((rd_T44 t596 x17_1).f2)) ∧ w'.cell? ⟨(ad611.add ((x17_1).toNat * 9)).block, (ad611.add ((x17_1).toNat * 9)).off + 3, none⟩ = some (.int .u64 ((rd_T44 t596 x17_1).f3.f0)) ∧ w'.cell? ⟨(ad611.add ((x17_1).toNat * 9)).block, (ad611.add ((x17_1).toNat * 9)).off + 4, none⟩ = some (.bool ((rd_T44 t596 x17_1).f3.f1)) ∧ w'.cell? ⟨(ad611.add ((x17_1).toNat * 9)).block, (ad611.add ((x17_1).toNat * 9)).off + 5, none⟩ = some (.int .i64 ((rd_T44 t596 x17_1).f3.f2.f0)) ∧ w'.cell? ⟨(ad611.add ((x17_1).toNat * 9)).block, (ad611.add ((x17_1).toNat * 9)).off + 6, none⟩ = some (.int .u64 ((rd_T44 t596 x17_1).f3.f2.f1)) ∧ w'.cell? ⟨(ad611.add ((x17_1).toNat * 9)).block, (ad611.add ((x17_1).toNat * 9)).off + 7, none⟩ = some (.int .i64 ((rd_T44 t596 x17_1).f3.f3)) ∧ w'.cell? ⟨(ad611.add ((x17_1).toNat * 9)).block, (ad611.add ((x17_1).toNat * 9)).off + 8, none⟩ = some (.int .i64 ((rd_T44 t596 x17_1).f3.f4))) (ds := [7]) #[false, false, false, false, false, false, false, false] (by kernel_rfl) rfl rfl ⟨(blk_cell BK609.out 0).trans rfl, (blk_cell BK609.out 1).trans rfl, (blk_cell BK609.out 2).trans rfl, (blk_cell BK609.out 3).trans rfl, (blk_cell BK609.out 4).trans rfl, (blk_cell BK609.out 5).trans rfl, hx611_0, hx611_1, hx611_2, hx611_3, hx611_4, hx611_5, hx611_6, hx611_7, hx611_8⟩ (fun hHeld => ?_); refine with_tabW rickyardlaw17_AskAll.tab12 rickyardlaw17_AskAll.bits12 (fun HT_ HW_ => ?_)
     generalize wr.drew = w33 at HO_9 HO_11 HO_13 BK592 BK593 BK609 BK610 HB HL611_0 HR611_0 hx611_0 hx611_1 hx611_2 hx611_3 hx611_4 hx611_5 hx611_6 hx611_7 hx611_8 hHeld ⊢
     refine pureD 1 86 HT_ ?_
     refine pureD 2 87 HT_ ?_
     refine pureD 3 88 HT_ ?_
     refine pureD 4 89 HT_ ?_
     refine takeD 0 85 HT_ HW_ hHeld ?_
     refine takeD 5 90 HT_ HW_ hHeld ?_
     refine one_ (i := 6) (N := some 91) #[true, true, true, true, true, true, true, false] rfl rfl (one_of HT_.out (by kernel_rfl)) (by decide) (fun K hK => ?_)
     refine goes_ Try.func14 (by kernel_rfl) rfl #[.agg #[.int .u64 x610000_1, .bool x610001_1, .int .i64 x610002_1, .int .u64 x610003_1, .int .i64 x610004_1, .int .i64 x610005_1], .agg #[.int .u64 ((rd_T44 t596 x17_1).f3.f0), .bool ((rd_T44 t596 x17_1).f3.f1), .int .i64 ((rd_T44 t596 x17_1).f3.f2.f0), .int .u64 ((rd_T44 t596 x17_1).f3.f2.f1), .int .i64 ((rd_T44 t596 x17_1).f3.f3), .int .i64 ((rd_T44 t596 x17_1).f3.f4)]] (by rfl) rfl rfl argA ?_
     with_reducible refine (agg_Merge.calls x610000_1 x610001_1 x610002_1 x610003_1 x610004_1 x610005_1 ((rd_T44 t596 x17_1).f3.f0) ((rd_T44 t596 x17_1).f3.f1) ((rd_T44 t596 x17_1).f3.f2.f0) ((rd_T44 t596 x17_1).f3.f2.f1) ((rd_T44 t596 x17_1).f3.f3) ((rd_T44 t596 x17_1).f3.f4) t612 t613 t614 t615 t616 t617 _ A31.out).mono ?_
     rintro e w34 ⟨rfl, hb⟩
     have HS6_ := (hb.cell (World.block_lt_of_cell? _ _ (hHeld.2.2.2.2.2.2.1))).trans (hHeld.2.2.2.2.2.2.1)
     have HS7_ := (hb.cell (World.block_lt_of_cell? _ _ (hHeld.2.2.2.2.2.2.2.1))).trans (hHeld.2.2.2.2.2.2.2.1)
     have HS8_ := (hb.cell (World.block_lt_of_cell? _ _ (hHeld.2.2.2.2.2.2.2.2.1))).trans (hHeld.2.2.2.2.2.2.2.2.1)
     have HS9_ := (hb.cell (World.block_lt_of_cell? _ _ (hHeld.2.2.2.2.2.2.2.2.2.1))).trans (hHeld.2.2.2.2.2.2.2.2.2.1)
     have HS10_ := (hb.cell (World.block_lt_of_cell? _ _ (hHeld.2.2.2.2.2.2.2.2.2.2.1))).trans (hHeld.2.2.2.2.2.2.2.2.2.2.1)
     have HS11_ := (hb.cell (World.block_lt_of_cell? _ _ (hHeld.2.2.2.2.2.2.2.2.2.2.2.1))).trans (hHeld.2.2.2.2.2.2.2.2.2.2.2.1)
     have HS12_ := (hb.cell (World.block_lt_of_cell? _ _ (hHeld.2.2.2.2.2.2.2.2.2.2.2.2.1))).trans (hHeld.2.2.2.2.2.2.2.2.2.2.2.2.1)
     have HS13_ := (hb.cell (World.block_lt_of_cell? _ _ (hHeld.2.2.2.2.2.2.2.2.2.2.2.2.2.1))).trans (hHeld.2.2.2.2.2.2.2.2.2.2.2.2.2.1)
     have HS14_ := (hb.cell (World.block_lt_of_cell? _ _ (hHeld.2.2.2.2.2.2.2.2.2.2.2.2.2.2))).trans (hHeld.2.2.2.2.2.2.2.2.2.2.2.2.2.2)
     refine ⟨_, rfl, ?_⟩
     replace HO_9 := Aside0.mk (Kd.R_below (rowA HO_9.out) hb)
     replace HO_11 := Aside0.mk (Kd.R_below (rowA HO_11.out) hb)
     replace HO_13 := Aside0.mk (Kd.R_below (rowA HO_13.out) hb)
     replace HL611_0 := Aside0.mk (Kd.R_below (rowA HL611_0.out) hb)
     replace BK592 := blkB BK592 hb
     replace BK593 := blkB BK593 hb
     replace BK609 := blkB BK609 hb
     replace BK610 := blkB BK610 hb
     replace HR611_0 := Aside0.mk (Kd.C_below (celA HR611_0.out) hb)
     replace HB := Aside0.mk (below_step (by repeat (first | (with_reducible first | exact HB.out | apply below_alloc | apply pw_below_drewN | apply below_drew1 | refine below_set ?_ GE592.out | refine below_set ?_ GE593.out | refine below_set ?_ GE609.out | refine below_set ?_ GE610.out) | exact HB.out)) hb)
     (try clear hb)
     refine hK.out _ _ ⟨(blk_cell BK609.out 0).trans rfl, (blk_cell BK609.out 1).trans rfl, (blk_cell BK609.out 2).trans rfl, (blk_cell BK609.out 3).trans rfl, (blk_cell BK609.out 4).trans rfl, (blk_cell BK609.out 5).trans rfl, HS6_, HS7_, HS8_, HS9_, HS10_, HS11_, HS12_, HS13_, HS14_⟩ (fun hHeld => ?_)
     clear hK K
     refine norm_ (a' := ?_) ?_ ?_
     rotate_left
     ·show Act.put _ (some 91) _ = _
      simp only [Act.put, List.setIfInBounds_toArray, List.set_cons_zero, List.set_cons_succ, i64_w, i32_w]
      rfl
     refine last_ (i := 7) (N := none) #[true, true, true, true, true, true, true, true] rfl rfl (one_of HT_.out (by kernel_rfl)) (by decide) (fun K hK => ?_)
     have hs35 : w34.cell? ⟨gb609, 0, none⟩ = some (.int .u64 x610000_1) := (blk_cell BK609.out 0).trans rfl
     have hfs35 := blk_frozen BK609.out 0
     have hns35_0 := NB592_609.out
     have hns35_1 := NB593_609.out
     have hns35_3 := NB610_609.out
     have hms35_0 := NB609_592.out
     have hms35_1 := NB609_593.out
     have hms35_3 := NB609_610.out
     have hs36 : w34.cell? ⟨gb609, 1, none⟩ = some (.bool x610001_1) := (blk_cell BK609.out 1).trans rfl
     have hfs36 := blk_frozen BK609.out 1
     have hns36_0 := NB592_609.out
     have hns36_1 := NB593_609.out
     have hns36_3 := NB610_609.out
     have hms36_0 := NB609_592.out
     have hms36_1 := NB609_593.out
     have hms36_3 := NB609_610.out
     have hs37 : w34.cell? ⟨gb609, 2, none⟩ = some (.int .i64 x610002_1) := (blk_cell BK609.out 2).trans rfl
     have hfs37 := blk_frozen BK609.out 2
     have hns37_0 := NB592_609.out
     have hns37_1 := NB593_609.out
     have hns37_3 := NB610_609.out
     have hms37_0 := NB609_592.out
     have hms37_1 := NB609_593.out
     have hms37_3 := NB609_610.out
     have hs38 : w34.cell? ⟨gb609, 3, none⟩ = some (.int .u64 x610003_1) := (blk_cell BK609.out 3).trans rfl
     have hfs38 := blk_frozen BK609.out 3
     have hns38_0 := NB592_609.out
     have hns38_1 := NB593_609.out
     have hns38_3 := NB610_609.out
     have hms38_0 := NB609_592.out
     have hms38_1 := NB609_593.out
     have hms38_3 := NB609_610.out
     have hs39 : w34.cell? ⟨gb609, 4, none⟩ = some (.int .i64 x610004_1) := (blk_cell BK609.out 4).trans rfl
     have hfs39 := blk_frozen BK609.out 4
     have hns39_0 := NB592_609.out
     have hns39_1 := NB593_609.out
     have hns39_3 := NB610_609.out
     have hms39_0 := NB609_592.out
     have hms39_1 := NB609_593.out
     have hms39_3 := NB609_610.out
     have hs40 : w34.cell? ⟨gb609, 5, none⟩ = some (.int .i64 x610005_1) := (blk_cell BK609.out 5).trans rfl
     have hfs40 := blk_frozen BK609.out 5
     have hns40_0 := NB592_609.out
     have hns40_1 := NB593_609.out
     have hns40_3 := NB610_609.out
     have hms40_0 := NB609_592.out
     have hms40_1 := NB609_593.out
     have hms40_3 := NB609_610.out
     refine skip_ (w1 := ?_) (by rfl) rfl ?_ ?_
     rotate_left
     ·go_simp
      rfl
     refine hK.out _ _ ?_
     clear hK K
     refine done_ (done_of HT_.out (by kernel_rfl)) ?_
     try go_wp2
     go_roundg k1
     case measure => have := HK1.out; omega
     case rel => exact ⟨(wrap64 (x17_1 + 1)), (t612), (t613), (t614), (t615), (t616), (t617), relA, H', ⟨by have := HK1.out; omega⟩, ⟨by (with_reducible repeat (first | apply Kd.R_alloc | apply Kd.R_drewN | apply Kd.R_drew)); exact Kd.R_mono (Kd.R_far (p := ⟨gb609, 5, none⟩) (Kd.R_far (p := ⟨gb609, 4, none⟩) (Kd.R_far (p := ⟨gb609, 3, none⟩) (Kd.R_far (p := ⟨gb609, 2, none⟩) (Kd.R_far (p := ⟨gb609, 1, none⟩) (Kd.R_far (p := ⟨gb609, 0, none⟩) (Kd.R_types HO_9.out BK609.out (by decide)) (fun _ hk => hk.2) (.int .u64 t612)) (fun _ hk => hk.2) (.bool t613)) (fun _ hk => hk.2) (.int .i64 t614)) (fun _ hk => hk.2) (.int .u64 t615)) (fun _ hk => hk.2) (.int .i64 t616)) (fun _ hk => hk.2) (.int .i64 t617)) (fun _ hk => ⟨hk.1.1, hk.1.2⟩)⟩, ⟨by (with_reducible repeat (first | apply Kd.R_alloc | apply Kd.R_drewN | apply Kd.R_drew)); exact Kd.R_mono (Kd.R_far (p := ⟨gb609, 5, none⟩) (Kd.R_far (p := ⟨gb609, 4, none⟩) (Kd.R_far (p := ⟨gb609, 3, none⟩) (Kd.R_far (p := ⟨gb609, 2, none⟩) (Kd.R_far (p := ⟨gb609, 1, none⟩) (Kd.R_far (p := ⟨gb609, 0, none⟩) (Kd.R_types HO_11.out BK609.out (by decide)) (fun _ hk => hk.2) (.int .u64 t612)) (fun _ hk => hk.2) (.bool t613)) (fun _ hk => hk.2) (.int .i64 t614)) (fun _ hk => hk.2) (.int .u64 t615)) (fun _ hk => hk.2) (.int .i64 t616)) (fun _ hk => hk.2) (.int .i64 t617)) (fun _ hk => ⟨hk.1.1, hk.1.2⟩)⟩, ⟨by (with_reducible repeat (first | apply Kd.R_alloc | apply Kd.R_drewN | apply Kd.R_drew)); exact Kd.R_mono (Kd.R_far (p := ⟨gb609, 5, none⟩) (Kd.R_far (p := ⟨gb609, 4, none⟩) (Kd.R_far (p := ⟨gb609, 3, none⟩) (Kd.R_far (p := ⟨gb609, 2, none⟩) (Kd.R_far (p := ⟨gb609, 1, none⟩) (Kd.R_far (p := ⟨gb609, 0, none⟩) (Kd.R_types HO_13.out BK609.out (by decide)) (fun _ hk => hk.2) (.int .u64 t612)) (fun _ hk => hk.2) (.bool t613)) (fun _ hk => hk.2) (.int .i64 t614)) (fun _ hk => hk.2) (.int .u64 t615)) (fun _ hk => hk.2) (.int .i64 t616)) (fun _ hk => hk.2) (.int .i64 t617)) (fun _ hk => ⟨hk.1.1, hk.1.2⟩)⟩, ⟨putB BK592.out NB592_609.out⟩, ⟨putB BK593.out NB593_609.out⟩, ⟨putA BK609.out⟩, ⟨putB BK610.out NB610_609.out⟩, ⟨by repeat (first | (with_reducible first | exact HB.out | apply below_alloc | apply pw_below_drewN | apply below_drew1 | refine below_set ?_ GE592.out | refine below_set ?_ GE593.out | refine below_set ?_ GE609.out | refine below_set ?_ GE610.out) | exact HB.out)⟩⟩
    ·rw [if_neg c30] at H
     cases H
   ·rw [if_neg c29] at H
    have c29b0 := decide_eq_false c29
    clear c29
    have HC41 := Aside0.mk H
    clear H
    obtain ⟨Ao42, co42, eo42⟩ := Kd.R_slice HO_9.out
    subst eo42
    go_upto_region 13 with (fail)
    go_cut [123] (fun v123 wc => ∃ (kq : Nat) (x123_40 : Bool), v123 = .bool x123_40 ∧ Aside0 (rickyardlaw17_AskAll.j1 kq t596 t604 t607 x123_40 l3_0 a3_1 a3_2 a3_3 a3_4 x610000_1 x610001_1 x610002_1 x610003_1 x610004_1 x610005_1 0 false 0 0 0 0 = some r) ∧ Aside0 (kq ≤ k1) ∧ Aside0 (Kd.R k44 44 wc w.heap.size (fun k_ => some k_ ≠ (v605 : Value).ownBlock) (.slice Ao42 t596.length co42) t596) ∧ Aside0 (Kd.R k44 44 wc w.heap.size (fun k_ => some k_ ≠ ((.slice Ao42 t596.length co42) : Value).ownBlock) v605 t604) ∧ Aside0 (wc.heap[gb592]? = some (.cells #[(.slice A0_0 l0_0.length c0_0), .int .i64 a0_1] 24 (0, 0))) ∧ Aside0 (wc.heap[gb593]? = some (.cells #[(.slice A3_0 l3_0.length c3_0), .int .i64 a3_1, .int .i64 a3_2, .int .i64 a3_3, .int .i64 a3_4] 28 (0, 0))) ∧ Aside0 (wc.heap[gb609]? = some (.cells #[.int .u64 x610000_1, .bool x610001_1, .int .i64 x610002_1, .int .u64 x610003_1, .int .i64 x610004_1, .int .i64 x610005_1] 42 (0, 0))) ∧ Aside0 (wc.heap[gb610]? = some (.cells #[.int .u64 0, .bool false, .int .i64 0, .int .u64 0, .int .i64 0, .int .i64 0] 42 (0, 0))) ∧ Aside0 (Below w.heap.size w wc))
    case first =>
     have H := HC41.out
     clear HC41
     by_cases c43 : t603 = 0
     ·rw [if_pos c43] at H
      have c43b0 := beq_iff_eq.mpr c43
      have c43b1 := bne_eq_false_iff_eq.mpr c43
      clear c43
      (first | rw [c43b0] | (simp only [i64_w, i32_w]; rw [c43b0]) | skip)
      by_cases c44 : (((t600.length : Int) == 1) != (decide ((t596.length : Int) > 0))) = true
      ·rw [if_pos c44] at H
       cases H
      ·rw [if_neg c44] at H
       have c44b0 : (((t600.length : Int) == 1) != (decide ((t596.length : Int) > 0))) = false := by simpa using c44
       (try (have c44b1 : decide (((t600.length : Int) == 1) = (decide ((t596.length : Int) > 0))) = true := by simpa using c44))
       (try (have c44b2 : (((t600.length : Int) == 1) == (decide ((t596.length : Int) > 0))) = true := by simpa using c44))
       clear c44
       by_cases c47 : (t600.length : Int) = 1
       ·rw [if_pos c47] at H
        have c47b0 := beq_iff_eq.mpr c47
        have c47b1 := bne_eq_false_iff_eq.mpr c47
        have c47d0 : decide ((t596.length : Int) > 0) = true := by have h_ := c44b0; rw [c47b0] at h_; revert h_; cases decide ((t596.length : Int) > 0) <;> simp
        have c47d1 : decide (0 < t596.length) = true := decide_eq_true (by have h_ := of_decide_eq_true c47d0; omega)
        clear c47
        by_cases c48 : 0 < (t600.length : Int)
        ·rw [if_pos c48] at H
         have c48b0 := decide_eq_true c48
         have c48b1 : decide (0 < t600.length) = true := decide_eq_true (by omega)
         clear c48
         by_cases c49 : (!(((rd_T44 t600 0).f3.f0) == x610000_1) || (!(((rd_T44 t600 0).f3.f1) == x610001_1) || ((!(((rd_T44 t600 0).f3.f2.f0) == x610002_1) || (!(((rd_T44 t600 0).f3.f2.f1) == x610003_1))) || (!(((rd_T44 t600 0).f3.f3) == x610004_1) || (!(((rd_T44 t600 0).f3.f4) == x610005_1)))))) = true
         ·rw [if_pos c49] at H
          cases H
         ·rw [if_neg c49] at H
          have c49b0 : (!(((rd_T44 t600 0).f3.f0) == x610000_1) || (!(((rd_T44 t600 0).f3.f1) == x610001_1) || ((!(((rd_T44 t600 0).f3.f2.f0) == x610002_1) || (!(((rd_T44 t600 0).f3.f2.f1) == x610003_1))) || (!(((rd_T44 t600 0).f3.f3) == x610004_1) || (!(((rd_T44 t600 0).f3.f4) == x610005_1)))))) = false := by simpa using c49
          clear c49
          have H' := Aside0.mk H
          clear H
          try go_wp2
          replace HO_9 := Aside0.mk (Kd.R_drew HO_9.out)
          replace HO_11 := Aside0.mk (Kd.R_drew HO_11.out)
          replace HO_13 := Aside0.mk (Kd.R_drew HO_13.out)
          replace BK592 := Aside0.mk (blk_drew BK592.out)
          replace BK593 := Aside0.mk (blk_drew BK593.out)
          replace BK609 := Aside0.mk (blk_drew BK609.out)
          replace BK610 := Aside0.mk (blk_drew BK610.out)
          replace HB := Aside0.mk (below_drew1 HB.out)
          obtain ⟨Ao53, co53, eo53⟩ := Kd.R_slice HO_11.out
          (first | subst eo53 | (injection eo53 with f1_ f2_ f3_; have f4_ := f1_.symm; have f5_ := f3_.symm; clear f1_ f2_ f3_; subst f4_; subst f5_))
          have p618 : 0 ≤ (0 : Int) := (by omega)
          have q618 : 0 < (t600.length : Int) := of_decide_eq_true asmA
          obtain ⟨ad618, A618_0, c618_0, e618, hx618_0, hx618_1, hx618_2, hx618_3, hx618_4, hx618_5, hx618_6, hx618_7, hx618_8, hl618_0, hi618_0⟩ := at_T44 (Kd.R_reads' HO_11.out).2.2 0 p618 q618
          cases e618
          obtain ⟨ce618, hce618, hMe618, hcc618⟩ := Kd.R_get HO_11.out z44 0 p618 (by first | exact q618 | exact of_decide_eq_true asmA | (have e_ := (Kd.R_reads' HO_11.out).1; omega))
          obtain ⟨ve618_0, rfl, ge618_0⟩ := k44_openM hMe618
          have hv618_0 := hcc618 0 _ rfl
          rw [Nat.add_zero] at hv618_0
          replace hv618_0 := Option.some.inj (hv618_0.symm.trans hx618_0)
          rw [hv618_0] at ge618_0
          have HL618_0 := Aside0.mk (show Kd.R Kd.string 9 _ _ _ _ ((rd_T44 t600 0).f0) from ge618_0)
          clear hv618_0 ge618_0
          clear hcc618 hce618
          have qi618 : (0 < t600.length) = True := eq_true (by omega)
          (try rw [show ((0 : Int)).toNat = 0 from rfl] at hx618_0)
          (try rw [show 0 * 9 = 0 from rfl] at hx618_0)
          (try rw [Addr.add_zero'] at hx618_0)
          (try rw [show ((0 : Int)).toNat = 0 from rfl] at hx618_1)
          (try rw [show 0 * 9 = 0 from rfl] at hx618_1)
          (try rw [Addr.add_zero'] at hx618_1)
          (try rw [show ((0 : Int)).toNat = 0 from rfl] at hx618_2)
          (try rw [show 0 * 9 = 0 from rfl] at hx618_2)
          (try rw [Addr.add_zero'] at hx618_2)
          (try rw [show ((0 : Int)).toNat = 0 from rfl] at hx618_3)
          (try rw [show 0 * 9 = 0 from rfl] at hx618_3)
          (try rw [Addr.add_zero'] at hx618_3)
          (try rw [show ((0 : Int)).toNat = 0 from rfl] at hx618_4)
          (try rw [show 0 * 9 = 0 from rfl] at hx618_4)
          (try rw [Addr.add_zero'] at hx618_4)
          (try rw [show ((0 : Int)).toNat = 0 from rfl] at hx618_5)
          (try rw [show 0 * 9 = 0 from rfl] at hx618_5)
          (try rw [Addr.add_zero'] at hx618_5)
          (try rw [show ((0 : Int)).toNat = 0 from rfl] at hx618_6)
          (try rw [show 0 * 9 = 0 from rfl] at hx618_6)
          (try rw [Addr.add_zero'] at hx618_6)
          (try rw [show ((0 : Int)).toNat = 0 from rfl] at hx618_7)
          (try rw [show 0 * 9 = 0 from rfl] at hx618_7)
          (try rw [Addr.add_zero'] at hx618_7)
          (try rw [show ((0 : Int)).toNat = 0 from rfl] at hx618_8)
          (try rw [show 0 * 9 = 0 from rfl] at hx618_8)
          (try rw [Addr.add_zero'] at hx618_8)
          have HR618_0 := Aside0.mk hi618_0
          have HC618_0 := Aside0.mk hl618_0
          clear hi618_0 hl618_0
          replace p618 := eq_true p618
          replace q618 := eq_true q618
          have p619 : 0 ≤ (0 : Int) := (by omega)
          have q619 : 0 < (t600.length : Int) := of_decide_eq_true asmA
          obtain ⟨ad619, A619_0, c619_0, e619, hx619_0, hx619_1, hx619_2, hx619_3, hx619_4, hx619_5, hx619_6, hx619_7, hx619_8, hl619_0, hi619_0⟩ := at_T44 (Kd.R_reads' HO_11.out).2.2 0 p619 q619
          obtain rfl : ad618 = ad619 := (by injection e619)
          obtain ⟨ce619, hce619, hMe619, hcc619⟩ := Kd.R_get HO_11.out z44 0 p619 (by first | exact q619 | exact of_decide_eq_true asmA | (have e_ := (Kd.R_reads' HO_11.out).1; omega))
          obtain ⟨ve619_0, rfl, ge619_0⟩ := k44_openM hMe619
          have hv619_0 := hcc619 0 _ rfl
          rw [Nat.add_zero] at hv619_0
          replace hv619_0 := Option.some.inj (hv619_0.symm.trans hx619_0)
          rw [hv619_0] at ge619_0
          have HL619_0 := Aside0.mk (show Kd.R Kd.string 9 _ _ _ _ ((rd_T44 t600 0).f0) from ge619_0)
          clear hv619_0 ge619_0
          clear hcc619 hce619
          have qi619 : (0 < t600.length) = True := eq_true (by omega)
          (try rw [show ((0 : Int)).toNat = 0 from rfl] at hx619_0)
          (try rw [show 0 * 9 = 0 from rfl] at hx619_0)
          (try rw [Addr.add_zero'] at hx619_0)
          (try rw [show ((0 : Int)).toNat = 0 from rfl] at hx619_1)
          (try rw [show 0 * 9 = 0 from rfl] at hx619_1)
          (try rw [Addr.add_zero'] at hx619_1)
          (try rw [show ((0 : Int)).toNat = 0 from rfl] at hx619_2)
          (try rw [show 0 * 9 = 0 from rfl] at hx619_2)
          (try rw [Addr.add_zero'] at hx619_2)
          (try rw [show ((0 : Int)).toNat = 0 from rfl] at hx619_3)
          (try rw [show 0 * 9 = 0 from rfl] at hx619_3)
          (try rw [Addr.add_zero'] at hx619_3)
          (try rw [show ((0 : Int)).toNat = 0 from rfl] at hx619_4)
          (try rw [show 0 * 9 = 0 from rfl] at hx619_4)
          (try rw [Addr.add_zero'] at hx619_4)
          (try rw [show ((0 : Int)).toNat = 0 from rfl] at hx619_5)
          (try rw [show 0 * 9 = 0 from rfl] at hx619_5)
          (try rw [Addr.add_zero'] at hx619_5)
          (try rw [show ((0 : Int)).toNat = 0 from rfl] at hx619_6)
          (try rw [show 0 * 9 = 0 from rfl] at hx619_6)
          (try rw [Addr.add_zero'] at hx619_6)
          (try rw [show ((0 : Int)).toNat = 0 from rfl] at hx619_7)
          (try rw [show 0 * 9 = 0 from rfl] at hx619_7)
          (try rw [Addr.add_zero'] at hx619_7)
          (try rw [show ((0 : Int)).toNat = 0 from rfl] at hx619_8)
          (try rw [show 0 * 9 = 0 from rfl] at hx619_8)
          (try rw [Addr.add_zero'] at hx619_8)
          have HR619_0 := Aside0.mk hi619_0
          have HC619_0 := Aside0.mk hl619_0
          clear hi619_0 hl619_0
          replace p619 := eq_true p619
          replace q619 := eq_true q619
          have ea_ := Option.some.inj (hx618_0.symm.trans hx619_0)
          injection ea_ with ea_ en_ ec_
          subst ea_
          subst ec_
          clear en_
          refine start_ (n := 32) (S := fun w' => w'.cell? ⟨gb609, 0, none⟩ = some (.int .u64 x610000_1) ∧ w'.cell? ⟨gb609, 1, none⟩ = some (.bool x610001_1) ∧ w'.cell? ⟨gb609, 2, none⟩ = some (.int .i64 x610002_1) ∧ w'.cell? ⟨gb609, 3, none⟩ = some (.int .u64 x610003_1) ∧ w'.cell? ⟨gb609, 4, none⟩ = some (.int .i64 x610004_1) ∧ w'.cell? ⟨gb609, 5, none⟩ = some (.int .i64 x610005_1) ∧ w'.cell? ad618 = some (.slice A618_0 ((rd_T44 t600 0).f0).length c618_0) ∧ w'.cell? ⟨ad618.block, ad618.off + 1, none⟩ = some (.int .i64 ((rd_T44 t600 0).f1)) ∧ w'.cell? ⟨ad618.block, ad618.off + 2, none⟩ = some (.int .i64 ((rd_T44 t600 0).f2)) ∧ w'.cell? ⟨ad618.block, ad618.off + 3, none⟩ = some (.int .u64 ((rd_T44 t600 0).f3.f0)) ∧ w'.cell? ⟨ad618.block, ad618.off + 4, none⟩ = some (.bool ((rd_T44 t600 0).f3.f1)) ∧ w'.cell? ⟨ad618.block, ad618.off + 5, none⟩ = some (.int .i64 ((rd_T44 t600 0).f3.f2.f0)) ∧ w'.cell? ⟨ad618.block, ad618.off + 6, none⟩ = some (.int .u64 ((rd_T44 t600 0).f3.f2.f1)) ∧ w'.cell? ⟨ad618.block, ad618.off + 7, none⟩ = some (.int .i64 ((rd_T44 t600 0).f3.f3)) ∧ w'.cell? ⟨ad618.block, ad618.off + 8, none⟩ = some (.int .i64 ((rd_T44 t600 0).f3.f4)) ∧ w'.cell? ad618 = some (.slice A618_0 ((rd_T44 t600 0).f0).length c618_0) ∧ w'.cell? ⟨ad618.block, ad618.off + 1, none⟩ = some (.int .i64 ((rd_T44 t600 0).f1)) ∧ w'.cell? ⟨ad618.block, ad618.off + 2, none⟩ = some (.int .i64 ((rd_T44 t600 0).f2)) ∧ w'.cell? ⟨ad618.block, ad618.off + 3, none⟩ = some (.int .u64 ((rd_T44 t600 0).f3.f0)) ∧ w'.cell? ⟨ad618.block, ad618.off + 4, none⟩ = some (.bool ((rd_T44 t600 0).f3.f1)) ∧ w'.cell? ⟨ad618.block, ad618.off + 5, none⟩ = some (.int .i64 ((rd_T44 t600 0).f3.f2.f0)) ∧ w'.cell? ⟨ad618.block, ad618.off + 6, none⟩ = some (.int .u64 ((rd_T44 t600 0).f3.f2.f1)) ∧ w'.cell? ⟨ad618.block, ad618.off + 7, none⟩ = some (.int .i64 ((rd_T44 t600 0).f3.f3)) ∧ w'.cell? ⟨ad618.block, ad618.off + 8, none⟩ = some (.int .i64 ((rd_T44 t600 0).f3.f4))) (ds := []) #[false, false, false, false, false, false, false, false, false, false, false, false, false, false, false, false, false, false, false, false, false, false, false, false, false, false, false, false, false, false, false, false] (by kernel_rfl) rfl rfl ⟨(blk_cell BK609.out 0).trans rfl, (blk_cell BK609.out 1).trans rfl, (blk_cell BK609.out 2).trans rfl, (blk_cell BK609.out 3).trans rfl, (blk_cell BK609.out 4).trans rfl, (blk_cell BK609.out 5).trans rfl, hx618_0, hx618_1, hx618_2, hx618_3, hx618_4, hx618_5, hx618_6, hx618_7, hx618_8, hx619_0, hx619_1, hx619_2, hx619_3, hx619_4, hx619_5, hx619_6, hx619_7, hx619_8⟩ (fun hHeld => ?_); refine with_tabW rickyardlaw17_AskAll.tab13 rickyardlaw17_AskAll.bits13 (fun HT_ HW_ => ?_)
          generalize wr.drew = w52 at HO_9 HO_11 HO_13 BK592 BK593 BK609 BK610 HB HL618_0 HL619_0 HR618_0 HR619_0 hx618_0 hx618_1 hx618_2 hx618_3 hx618_4 hx618_5 hx618_6 hx618_7 hx618_8 hx619_0 hx619_1 hx619_2 hx619_3 hx619_4 hx619_5 hx619_6 hx619_7 hx619_8 hHeld ⊢
          refine pureD 0 92 HT_ ?_
          refine pureD 1 93 HT_ ?_
          refine pureD 2 94 HT_ ?_
          refine pureD 3 95 HT_ ?_
          refine pureD 4 96 HT_ ?_
          refine pureD 5 97 HT_ ?_
          refine pureD 6 98 HT_ ?_
          refine pureD 7 99 HT_ ?_
          refine pureD 8 100 HT_ ?_
          refine pureD 9 101 HT_ ?_
          refine pureD 10 102 HT_ ?_
          refine pureD 11 103 HT_ ?_
          refine pureD 12 104 HT_ ?_
          refine pureD 13 105 HT_ ?_
          refine pureD 14 106 HT_ ?_
          refine pureD 15 107 HT_ ?_
          refine pureD 16 108 HT_ ?_
          refine pureD 17 109 HT_ ?_
          refine pureD 18 110 HT_ ?_
          refine takeD 19 111 HT_ HW_ hHeld ?_
          refine takeD 20 112 HT_ HW_ hHeld ?_
          refine pureD 21 113 HT_ ?_
          refine pureD 22 114 HT_ ?_
          refine pureD 23 115 HT_ ?_
          refine pureD 24 116 HT_ ?_
          refine pureD 25 117 HT_ ?_
          refine takeD 26 118 HT_ HW_ hHeld ?_
          refine pureD 27 119 HT_ ?_
          refine pureD 28 120 HT_ ?_
          refine pureD 29 121 HT_ ?_
          refine pureD 30 122 HT_ ?_
          refine pureD 31 123 HT_ ?_
          refine done_ (done_of HT_.out (by kernel_rfl)) ?_
          try go_wp2
          go_meet
          case rel => exact ⟨_, (((((rd_T44 t600 0).f0).length : Int) != 0)), relA, H', ⟨by have := HK1.out; first | omega | exact Nat.le_refl _⟩, ⟨by (with_reducible repeat (first | apply Kd.R_alloc | apply Kd.R_drewN | apply Kd.R_drew)); exact Kd.R_mono HO_9.out (fun _ hk => hk.2)⟩, ⟨by (with_reducible repeat (first | apply Kd.R_alloc | apply Kd.R_drewN | apply Kd.R_drew)); exact Kd.R_mono HO_13.out (fun _ hk => hk.1)⟩, ⟨blkA BK592.out⟩, ⟨blkA BK593.out⟩, ⟨blkA BK609.out⟩, ⟨blkA BK610.out⟩, ⟨by repeat (first | (with_reducible first | exact HB.out | apply below_alloc | apply pw_below_drewN | apply below_drew1 | refine below_set ?_ GE592.out | refine below_set ?_ GE593.out | refine below_set ?_ GE609.out | refine below_set ?_ GE610.out) | exact HB.out)⟩⟩
        ·rw [if_neg c48] at H
         cases H
       ·rw [if_neg c47] at H
        have c47b0 := beq_eq_false_iff_ne.mpr c47
        have c47b1 := bne_iff_ne.mpr c47
        have c47d0 : decide ((t596.length : Int) > 0) = false := by have h_ := c44b0; rw [c47b0] at h_; revert h_; cases decide ((t596.length : Int) > 0) <;> simp
        have c47d1 : decide (0 < t596.length) = false := decide_eq_false (by have h_ := of_decide_eq_false c47d0; omega)
        have H' := Aside0.mk H
        clear H
        try go_wp2
        replace HO_9 := Aside0.mk (Kd.R_drew HO_9.out)
        replace HO_11 := Aside0.mk (Kd.R_drew HO_11.out)
        replace HO_13 := Aside0.mk (Kd.R_drew HO_13.out)
        replace BK592 := Aside0.mk (blk_drew BK592.out)
        replace BK593 := Aside0.mk (blk_drew BK593.out)
        replace BK609 := Aside0.mk (blk_drew BK609.out)
        replace BK610 := Aside0.mk (blk_drew BK610.out)
        replace HB := Aside0.mk (below_drew1 HB.out)
        obtain ⟨Ao55, co55, eo55⟩ := Kd.R_slice HO_11.out
        (first | subst eo55 | (injection eo55 with f1_ f2_ f3_; have f4_ := f1_.symm; have f5_ := f3_.symm; clear f1_ f2_ f3_; subst f4_; subst f5_))
        refine start_ (n := 32) (S := fun w' => True) (ds := []) #[false, false, false, false, false, false, false, false, false, false, false, false, false, false, false, false, false, false, false, false, false, false, false, false, false, false, false, false, false, false, false, false] (by kernel_rfl) rfl rfl trivial (fun hHeld => ?_); refine with_tabW rickyardlaw17_AskAll.tab13 rickyardlaw17_AskAll.bits13 (fun HT_ HW_ => ?_)
        generalize wr.drew = w54 at HO_9 HO_11 HO_13 BK592 BK593 BK609 BK610 HB hHeld ⊢
        refine pureD 0 92 HT_ ?_
        refine pureD 1 93 HT_ ?_
        refine pureD 2 94 HT_ ?_
        refine pureD 3 95 HT_ ?_
        refine pureD 4 96 HT_ ?_
        refine pureD 5 97 HT_ ?_
        refine pureD 6 98 HT_ ?_
        refine pureD 7 99 HT_ ?_
        refine pureD 8 100 HT_ ?_
        refine pureD 9 101 HT_ ?_
        refine pureD 10 102 HT_ ?_
        refine pureD 11 103 HT_ ?_
        refine pureD 12 104 HT_ ?_
        refine pureD 13 105 HT_ ?_
        refine pureD 14 106 HT_ ?_
        refine pureD 15 107 HT_ ?_
        refine pureU 16 108 HT_ ?_
        refine pureU 17 109 HT_ ?_
        refine pureU 18 110 HT_ ?_
        refine pureU 19 111 HT_ ?_
        refine pureU 20 112 HT_ ?_
        refine pureU 21 113 HT_ ?_
        refine pureU 22 114 HT_ ?_
        refine pureU 23 115 HT_ ?_
        refine pureU 24 116 HT_ ?_
        refine pureU 25 117 HT_ ?_
        refine pureU 26 118 HT_ ?_
        refine pureU 27 119 HT_ ?_
        refine pureU 28 120 HT_ ?_
        refine pureU 29 121 HT_ ?_
        refine pureD 30 122 HT_ ?_
        refine pureD 31 123 HT_ ?_
        refine done_ (done_of HT_.out (by kernel_rfl)) ?_
        try go_wp2
        go_meet
        case rel => exact ⟨_, (false), relA, H', ⟨by have := HK1.out; first | omega | exact Nat.le_refl _⟩, ⟨by (with_reducible repeat (first | apply Kd.R_alloc | apply Kd.R_drewN | apply Kd.R_drew)); exact Kd.R_mono HO_9.out (fun _ hk => hk.2)⟩, ⟨by (with_reducible repeat (first | apply Kd.R_alloc | apply Kd.R_drewN | apply Kd.R_drew)); exact Kd.R_mono HO_13.out (fun _ hk => hk.1)⟩, ⟨blkA BK592.out⟩, ⟨blkA BK593.out⟩, ⟨blkA BK609.out⟩, ⟨blkA BK610.out⟩, ⟨by repeat (first | (with_reducible first | exact HB.out | apply below_alloc | apply pw_below_drewN | apply below_drew1 | refine below_set ?_ GE592.out | refine below_set ?_ GE593.out | refine below_set ?_ GE609.out | refine below_set ?_ GE610.out) | exact HB.out)⟩⟩
     ·rw [if_neg c43] at H
      cases H
    case rest =>
     clear HC41
     try clear p2
     try clear c4
     try clear c43
     try clear c43b0
     try clear c43b1
     try clear c47
     try clear c47b0
     try clear c47b1
     try clear c48
     obtain ⟨kq, x123_40, rfl, HA, HJ40, HO_9, HO_13, BK592, BK593, BK609, BK610, HB⟩ := hcut
     cases kq with
     | zero => exact absurd HA.out (by simp [rickyardlaw17_AskAll.j1])
     | succ kj40 =>
      have H := HA.out
      clear HA
      simp only [rickyardlaw17_AskAll.j1] at H
      by_cases c57 : x123_40 = true
      ·subst c57
       have H1 : (none) = some r := by rw [if_pos rfl] at H; exact H
       clear H
       have H := H1
       clear H1
       cases H
      ·replace c57 := Bool.eq_false_iff.mpr c57
       subst c57
       have H1 : (if t607 = 0 then (rickyardlaw17_AskAll.l1 kj40 t596 t604 0 l3_0 a3_1 a3_2 a3_3 a3_4 x610000_1 x610001_1 x610002_1 x610003_1 x610004_1 x610005_1 0 false 0 0 0 0) else ((rickyardlaw17_alive.f kj40).bind fun t620 => (if t620 = true then (some (decide (a3_4 < 0))) else (none)))) = some r := by rw [if_neg (show ¬ (false = true) by decide)] at H; exact H
       clear H
       have H := H1
       clear H1
       by_cases c58 : t607 = 0
       ·rw [if_pos c58] at H
        have c58b0 := beq_iff_eq.mpr c58
        have c58b1 := bne_eq_false_iff_eq.mpr c58
        clear c58
        have H' := Aside0.mk H
        clear H
        go_wp2
        go_loopg [18] kj40 (fun kq v18 w' => ∃ (x18_3 : Int) (x611000_3 : Int) (x611001_3 : Bool) (x611002_3 : Int) (x611003_3 : Int) (x611004_3 : Int) (x611005_3 : Int), v18 = .int .i64 x18_3 ∧ Aside0 (rickyardlaw17_AskAll.l1 kq t596 t604 x18_3 l3_0 a3_1 a3_2 a3_3 a3_4 x610000_1 x610001_1 x610002_1 x610003_1 x610004_1 x610005_1 x611000_3 x611001_3 x611002_3 x611003_3 x611004_3 x611005_3 = some r) ∧ Aside0 (kq ≤ kj40) ∧ Aside0 (Kd.R k44 44 w' w.heap.size (fun k_ => some k_ ≠ (v605 : Value).ownBlock) (.slice Ao42 t596.length co42) t596) ∧ Aside0 (Kd.R k44 44 w' w.heap.size (fun k_ => some k_ ≠ ((.slice Ao42 t596.length co42) : Value).ownBlock) v605 t604) ∧ Aside0 (w'.heap[gb592]? = some (.cells #[(.slice A0_0 l0_0.length c0_0), .int .i64 a0_1] 24 (0, 0))) ∧ Aside0 (w'.heap[gb593]? = some (.cells #[(.slice A3_0 l3_0.length c3_0), .int .i64 a3_1, .int .i64 a3_2, .int .i64 a3_3, .int .i64 a3_4] 28 (0, 0))) ∧ Aside0 (w'.heap[gb609]? = some (.cells #[.int .u64 x610000_1, .bool x610001_1, .int .i64 x610002_1, .int .u64 x610003_1, .int .i64 x610004_1, .int .i64 x610005_1] 42 (0, 0))) ∧ Aside0 (w'.heap[gb610]? = some (.cells #[.int .u64 x611000_3, .bool x611001_3, .int .i64 x611002_3, .int .u64 x611003_3, .int .i64 x611004_3, .int .i64 x611005_3] 42 (0, 0))) ∧ Aside0 (Below w.heap.size w w'))
        case atStart => exact ⟨(0), (0), (false), (0), (0), (0), (0), relA, H', ⟨Nat.le_refl _⟩, ⟨rowA HO_9.out⟩, ⟨rowA HO_13.out⟩, ⟨blkA BK592.out⟩, ⟨blkA BK593.out⟩, ⟨blkA BK609.out⟩, ⟨blkA BK610.out⟩, ⟨by repeat (first | (with_reducible first | exact HB.out | apply below_alloc | apply pw_below_drewN | apply below_drew1 | refine below_set ?_ GE592.out | refine below_set ?_ GE593.out | refine below_set ?_ GE609.out | refine below_set ?_ GE610.out) | exact HB.out)⟩⟩
        case round =>
         clear H'
         try clear p2
         try clear c3
         try clear c4
         try clear c5
         try clear c43
         try clear c43b0
         try clear c43b1
         try clear c47
         try clear c47b0
         try clear c47b1
         try clear c48
         try clear c57
         try clear c58
         try clear c58b0
         try clear c58b1
         try clear p2
         obtain ⟨x18_3, x611000_3, x611001_3, x611002_3, x611003_3, x611004_3, x611005_3, rfl, HA, HK3, HO_9, HO_13, BK592, BK593, BK609, BK610, HB⟩ := hrel
         cases gk with
         | zero => exact absurd HA.out (by simp [rickyardlaw17_AskAll.l1])
         | succ k3 =>
          have H := HA.out
          clear HA
          simp only [rickyardlaw17_AskAll.l1] at H
          by_cases c59 : x18_3 < (t604.length : Int)
          ·rw [if_pos c59] at H
           have c59b0 := decide_eq_true c59
           clear c59
           have H' := Aside0.mk H
           clear H
           obtain ⟨Ao60, co60, eo60⟩ := Kd.R_slice HO_13.out
           subst eo60
           go_wp2_with (first | ((with_reducible refine gate_dst (N := 19) rfl ?_); (try (refine gate_guard (by rfl) ?_; dsimp only)); refine boxA 19 #[.int .u64 0, .bool false, .int .i64 0, .int .u64 0, .int .i64 0, .int .i64 0] 42 ?_; intro gb622 hg w61 hbox hb; have BK622 := Aside0.mk (hbox); have GW622 := Aside0.mk ((by rw [hg]; exact (below_size (by repeat (first | (with_reducible first | exact HB.out | apply below_alloc | apply pw_below_drewN | apply below_drew1 | refine below_set ?_ GE592.out | refine below_set ?_ GE593.out | refine below_set ?_ GE609.out | refine below_set ?_ GE610.out) | exact HB.out))) : w.heap.size ≤ gb622)); have GE622 := GW622; have NB592_622 := neL hg BK592; have NB622_592 := neR hg BK592; have NB593_622 := neL hg BK593; have NB622_593 := neR hg BK593; have NB609_622 := neL hg BK609; have NB622_609 := neR hg BK609; have NB610_622 := neL hg BK610; have NB622_610 := neR hg BK610; replace HO_9 := Aside0.mk (Kd.R_below (rowA HO_9.out) hb); replace HO_13 := Aside0.mk (Kd.R_below (rowA HO_13.out) hb); replace BK592 := blkB BK592 hb; replace BK593 := blkB BK593 hb; replace BK609 := blkB BK609 hb; replace BK610 := blkB BK610 hb; replace HB := Aside0.mk (below_step (by repeat (first | (with_reducible first | exact HB.out | apply below_alloc | apply pw_below_drewN | apply below_drew1 | refine below_set ?_ GE592.out | refine below_set ?_ GE593.out | refine below_set ?_ GE609.out | refine below_set ?_ GE610.out) | exact HB.out)) hb); clear hb hbox hg))
           go_loopg [20] k3 (fun kq v20 w' => ∃ (x20_4 : Int) (x623000_4 : Int) (x623001_4 : Bool) (x623002_4 : Int) (x623003_4 : Int) (x623004_4 : Int) (x623005_4 : Int), v20 = .int .i64 x20_4 ∧ Aside0 (rickyardlaw17_AskAll.l2 kq t596 t604 x18_3 x20_4 l3_0 a3_1 a3_2 a3_3 a3_4 x610000_1 x610001_1 x610002_1 x610003_1 x610004_1 x610005_1 x611000_3 x611001_3 x611002_3 x611003_3 x611004_3 x611005_3 x623000_4 x623001_4 x623002_4 x623003_4 x623004_4 x623005_4 = some r) ∧ Aside0 (kq ≤ k3) ∧ Aside0 (Kd.R k44 44 w' w.heap.size (fun k_ => some k_ ≠ ((.slice Ao60 t604.length co60) : Value).ownBlock) (.slice Ao42 t596.length co42) t596) ∧ Aside0 (Kd.R k44 44 w' w.heap.size (fun k_ => some k_ ≠ ((.slice Ao42 t596.length co42) : Value).ownBlock) (.slice Ao60 t604.length co60) t604) ∧ Aside0 (w'.heap[gb592]? = some (.cells #[(.slice A0_0 l0_0.length c0_0), .int .i64 a0_1] 24 (0, 0))) ∧ Aside0 (w'.heap[gb593]? = some (.cells #[(.slice A3_0 l3_0.length c3_0), .int .i64 a3_1, .int .i64 a3_2, .int .i64 a3_3, .int .i64 a3_4] 28 (0, 0))) ∧ Aside0 (w'.heap[gb609]? = some (.cells #[.int .u64 x610000_1, .bool x610001_1, .int .i64 x610002_1, .int .u64 x610003_1, .int .i64 x610004_1, .int .i64 x610005_1] 42 (0, 0))) ∧ Aside0 (w'.heap[gb610]? = some (.cells #[.int .u64 x611000_3, .bool x611001_3, .int .i64 x611002_3, .int .u64 x611003_3, .int .i64 x611004_3, .int .i64 x611005_3] 42 (0, 0))) ∧ Aside0 (w'.heap[gb622]? = some (.cells #[.int .u64 x623000_4, .bool x623001_4, .int .i64 x623002_4, .int .u64 x623003_4, .int .i64 x623004_4, .int .i64 x623005_4] 42 (0, 0))) ∧ Aside0 (Below w.heap.size w w'))
           case atStart => exact ⟨(0), (0), (false), (0), (0), (0), (0), relA, H', ⟨Nat.le_refl _⟩, ⟨rowA HO_9.out⟩, ⟨rowA HO_13.out⟩, ⟨blkA BK592.out⟩, ⟨blkA BK593.out⟩, ⟨blkA BK609.out⟩, ⟨blkA BK610.out⟩, ⟨blkA BK622.out⟩, ⟨by repeat (first | (with_reducible first | exact HB.out | apply below_alloc | apply pw_below_drewN | apply below_drew1 | refine below_set ?_ GE592.out | refine below_set ?_ GE593.out | refine below_set ?_ GE609.out | refine below_set ?_ GE610.out | refine below_set ?_ GE622.out) | exact HB.out)⟩⟩
           case round =>
            clear H'
            try clear p2
            try clear c3
            try clear c4
            try clear c5
            try clear c43
            try clear c43b0
            try clear c43b1
            try clear c47
            try clear c47b0
            try clear c47b1
            try clear c48
            try clear c57
            try clear c58
            try clear c58b0
            try clear c58b1
            try clear c59
            try clear c59b0
            try clear p2
            obtain ⟨x20_4, x623000_4, x623001_4, x623002_4, x623003_4, x623004_4, x623005_4, rfl, HA, HK4, HO_9, HO_13, BK592, BK593, BK609, BK610, BK622, HB⟩ := hrel
            cases gk with
            | zero => exact absurd HA.out (by simp [rickyardlaw17_AskAll.l2])
            | succ k4 =>
             have H := HA.out
             clear HA
             simp only [rickyardlaw17_AskAll.l2] at H
             by_cases c62 : x20_4 < (t596.length : Int)
             ·rw [if_pos c62] at H
              have c62b0 := decide_eq_true c62
              clear c62
              by_cases c63 : 0 ≤ x20_4
              ·rw [if_pos c63] at H
               have c63b0 := decide_eq_true c63
               clear c63
               replace H := bnA H
               obtain ⟨⟨t624, t625⟩, A64, H⟩ := H
               replace H : (if 0 ≤ x18_3 then (if x18_3 < (t604.length : Int) then ((rickyardref06_Order.f k4 t624 ((rd_T44 t604 x18_3).f0)).bind fun t629 => (if t629 = 0 then ((agg_Merge.f x623000_4 x623001_4 x623002_4 x623003_4 x623004_4 x623005_4 ((rd_T44 t596 x20_4).f3.f0) ((rd_T44 t596 x20_4).f3.f1) ((rd_T44 t596 x20_4).f3.f2.f0) ((rd_T44 t596 x20_4).f3.f2.f1) ((rd_T44 t596 x20_4).f3.f3) ((rd_T44 t596 x20_4).f3.f4)).bind fun bt631 => (rickyardlaw17_AskAll.l2 k4 t596 t604 x18_3 (wrap64 (x20_4 + 1)) l3_0 a3_1 a3_2 a3_3 a3_4 x610000_1 x610001_1 x610002_1 x610003_1 x610004_1 x610005_1 x611000_3 x611001_3 x611002_3 x611003_3 x611004_3 x611005_3 bt631.1 bt631.2.1 bt631.2.2.1 bt631.2.2.2.1 bt631.2.2.2.2.1 bt631.2.2.2.2.2)) else (rickyardlaw17_AskAll.l2 k4 t596 t604 x18_3 (wrap64 (x20_4 + 1)) l3_0 a3_1 a3_2 a3_3 a3_4 x610000_1 x610001_1 x610002_1 x610003_1 x610004_1 x610005_1 x611000_3 x611001_3 x611002_3 x611003_3 x611004_3 x611005_3 x623000_4 x623001_4 x623002_4 x623003_4 x623004_4 x623005_4))) else (none)) else (none)) = some r := H
               by_cases c65 : 0 ≤ x18_3
               ·rw [if_pos c65] at H
                have c65b0 := decide_eq_true c65
                clear c65
                by_cases c66 : x18_3 < (t604.length : Int)
                ·rw [if_pos c66] at H
                 have c66b0 := decide_eq_true c66
                 clear c66
                 replace H := bnA H
                 obtain ⟨t629, A67, H⟩ := H
                 by_cases c68 : t629 = 0
                 ·rw [if_pos c68] at H
                  have c68b0 := beq_iff_eq.mpr c68
                  have c68b1 := bne_eq_false_iff_eq.mpr c68
                  clear c68
                  replace H := bnA H
                  obtain ⟨⟨t631, t632, t633, t634, t635, t636⟩, A69, H⟩ := H
                  replace H : (rickyardlaw17_AskAll.l2 k4 t596 t604 x18_3 (wrap64 (x20_4 + 1)) l3_0 a3_1 a3_2 a3_3 a3_4 x610000_1 x610001_1 x610002_1 x610003_1 x610004_1 x610005_1 x611000_3 x611001_3 x611002_3 x611003_3 x611004_3 x611005_3 t631 t632 t633 t634 t635 t636) = some r := H
                  have H' := Aside0.mk H
                  clear H
                  try go_wp2
                  replace HO_9 := Aside0.mk (Kd.R_drew HO_9.out)
                  replace HO_13 := Aside0.mk (Kd.R_drew HO_13.out)
                  replace BK592 := Aside0.mk (blk_drew BK592.out)
                  replace BK593 := Aside0.mk (blk_drew BK593.out)
                  replace BK609 := Aside0.mk (blk_drew BK609.out)
                  replace BK610 := Aside0.mk (blk_drew BK610.out)
                  replace BK622 := Aside0.mk (blk_drew BK622.out)
                  replace HB := Aside0.mk (below_drew1 HB.out)
                  have p623 : 0 ≤ (x20_4 : Int) := of_decide_eq_true asmA
                  have q623 : x20_4 < (t596.length : Int) := of_decide_eq_true asmA
                  obtain ⟨ad623, A623_0, c623_0, e623, hx623_0, hx623_1, hx623_2, hx623_3, hx623_4, hx623_5, hx623_6, hx623_7, hx623_8, hl623_0, hi623_0⟩ := at_T44 (Kd.R_reads' HO_9.out).2.2 x20_4 p623 q623
                  cases e623
                  obtain ⟨ce623, hce623, hMe623, hcc623⟩ := Kd.R_get HO_9.out z44 x20_4 p623 (by first | exact q623 | exact of_decide_eq_true asmA | (have e_ := (Kd.R_reads' HO_9.out).1; omega))
                  obtain ⟨ve623_0, rfl, ge623_0⟩ := k44_openM hMe623
                  have hv623_0 := hcc623 0 _ rfl
                  rw [Nat.add_zero] at hv623_0
                  replace hv623_0 := Option.some.inj (hv623_0.symm.trans hx623_0)
                  rw [hv623_0] at ge623_0
                  have HL623_0 := Aside0.mk (show Kd.R Kd.string 9 _ _ _ _ ((rd_T44 t596 x20_4).f0) from ge623_0)
                  clear hv623_0 ge623_0
                  clear hcc623 hce623
                  have HR623_0 := Aside0.mk hi623_0
                  have HC623_0 := Aside0.mk hl623_0
                  clear hi623_0 hl623_0
                  replace p623 := eq_true p623
                  replace q623 := eq_true q623
                  refine start_ (n := 13) (S := fun w' => w'.cell? ⟨gb593, 0, none⟩ = some (.slice A3_0 l3_0.length c3_0) ∧ w'.cell? ⟨gb593, 1, none⟩ = some (.int .i64 a3_1) ∧ w'.cell? ⟨gb593, 2, none⟩ = some (.int .i64 a3_2) ∧ w'.cell? ⟨gb593, 3, none⟩ = some (.int .i64 a3_3) ∧ w'.cell? ⟨gb593, 4, none⟩ = some (.int .i64 a3_4) ∧ w'.cell? (ad623.add ((x20_4).toNat * 9)) = some (.slice A623_0 ((rd_T44 t596 x20_4).f0).length c623_0) ∧ w'.cell? ⟨(ad623.add ((x20_4).toNat * 9)).block, (ad623.add ((x20_4).toNat * 9)).off + 1, none⟩ = some (.int .i64 ((rd_T44 t596 x20_4).f1)) ∧ w'.cell? ⟨(ad623.add ((x20_4).toNat * 9)).block, (ad623.add ((x20_4).toNat * 9)).off + 2, none⟩ = some (.int .i64 ((rd_T44 t596 x20_4).f2)) ∧ w'.cell? ⟨(ad623.add ((x20_4).toNat * 9)).block, (ad623.add ((x20_4).toNat * 9)).off + 3, none⟩ = some (.int .u64 ((rd_T44 t596 x20_4).f3.f0)) ∧ w'.cell? ⟨(ad623.add ((x20_4).toNat * 9)).block, (ad623.add ((x20_4).toNat * 9)).off + 4, none⟩ = some (.bool ((rd_T44 t596 x20_4).f3.f1)) ∧ w'.cell? ⟨(ad623.add ((x20_4).toNat * 9)).block, (ad623.add ((x20_4).toNat * 9)).off + 5, none⟩ = some (.int .i64 ((rd_T44 t596 x20_4).f3.f2.f0)) ∧ w'.cell? ⟨(ad623.add ((x20_4).toNat * 9)).block, (ad623.add ((x20_4).toNat * 9)).off + 6, none⟩ = some (.int .u64 ((rd_T44 t596 x20_4).f3.f2.f1)) ∧ w'.cell? ⟨(ad623.add ((x20_4).toNat * 9)).block, (ad623.add ((x20_4).toNat * 9)).off + 7, none⟩ = some (.int .i64 ((rd_T44 t596 x20_4).f3.f3)) ∧ w'.cell? ⟨(ad623.add ((x20_4).toNat * 9)).block, (ad623.add ((x20_4).toNat * 9)).off + 8, none⟩ = some (.int .i64 ((rd_T44 t596 x20_4).f3.f4))) (ds := []) #[false, false, false, false, false, false, false, false, false, false, false, false, false] (by kernel_rfl) rfl rfl ⟨(blk_cell BK593.out 0).trans rfl, (blk_cell BK593.out 1).trans rfl, (blk_cell BK593.out 2).trans rfl, (blk_cell BK593.out 3).trans rfl, (blk_cell BK593.out 4).trans rfl, hx623_0, hx623_1, hx623_2, hx623_3, hx623_4, hx623_5, hx623_6, hx623_7, hx623_8⟩ (fun hHeld => ?_); refine with_tabW rickyardlaw17_AskAll.tab24 rickyardlaw17_AskAll.bits24 (fun HT_ HW_ => ?_)
                  generalize wr.drew = w70 at HO_9 HO_13 BK592 BK593 BK609 BK610 BK622 HB HL623_0 HR623_0 hx623_0 hx623_1 hx623_2 hx623_3 hx623_4 hx623_5 hx623_6 hx623_7 hx623_8 hHeld ⊢
                  refine pureD 0 145 HT_ ?_
                  refine pureD 1 146 HT_ ?_
                  refine pureD 2 147 HT_ ?_
                  refine pureD 3 148 HT_ ?_
                  refine pureD 5 150 HT_ ?_
                  refine takeD 4 149 HT_ HW_ hHeld ?_
                  refine takeD 6 151 HT_ HW_ hHeld ?_
                  refine one_ (i := 7) (N := some 152) #[true, true, true, true, true, true, true, true, false, false, false, false, false] rfl rfl (one_of HT_.out (by kernel_rfl)) (by decide) (fun K hK => ?_)
                  refine goes_ Try.func15 (by kernel_rfl) rfl #[.slice A623_0 ((rd_T44 t596 x20_4).f0).length c623_0, .int .i64 a3_4] (by rfl) rfl rfl argA ?_
                  with_reducible refine (key_Part.calls k4 _ _ ((rd_T44 t596 x20_4).f0) a3_4 t624 t625 _ ?side1 ?side2 A64.out).mono ?_
                  (case side1 => exact cc1 (celA HR623_0.out))
                  (case side2 => exact HC623_0.out)
                  rintro e w71 ⟨v626, rfl, ho0, hb⟩
                  have HS5_ := (hb.cell (World.block_lt_of_cell? _ _ (hHeld.2.2.2.2.2.1))).trans (hHeld.2.2.2.2.2.1)
                  have HS6_ := (hb.cell (World.block_lt_of_cell? _ _ (hHeld.2.2.2.2.2.2.1))).trans (hHeld.2.2.2.2.2.2.1)
                  have HS7_ := (hb.cell (World.block_lt_of_cell? _ _ (hHeld.2.2.2.2.2.2.2.1))).trans (hHeld.2.2.2.2.2.2.2.1)
                  have HS8_ := (hb.cell (World.block_lt_of_cell? _ _ (hHeld.2.2.2.2.2.2.2.2.1))).trans (hHeld.2.2.2.2.2.2.2.2.1)
                  have HS9_ := (hb.cell (World.block_lt_of_cell? _ _ (hHeld.2.2.2.2.2.2.2.2.2.1))).trans (hHeld.2.2.2.2.2.2.2.2.2.1)
                  have HS10_ := (hb.cell (World.block_lt_of_cell? _ _ (hHeld.2.2.2.2.2.2.2.2.2.2.1))).trans (hHeld.2.2.2.2.2.2.2.2.2.2.1)
                  have HS11_ := (hb.cell (World.block_lt_of_cell? _ _ (hHeld.2.2.2.2.2.2.2.2.2.2.2.1))).trans (hHeld.2.2.2.2.2.2.2.2.2.2.2.1)
                  have HS12_ := (hb.cell (World.block_lt_of_cell? _ _ (hHeld.2.2.2.2.2.2.2.2.2.2.2.2.1))).trans (hHeld.2.2.2.2.2.2.2.2.2.2.2.2.1)
                  have HS13_ := (hb.cell (World.block_lt_of_cell? _ _ (hHeld.2.2.2.2.2.2.2.2.2.2.2.2.2))).trans (hHeld.2.2.2.2.2.2.2.2.2.2.2.2.2)
                  refine ⟨_, rfl, ?_⟩
                  have HO627 := Aside0.mk (Kd.R_lower (Kd.R_new' ho0 (Kd.R_lt (rowA HL623_0.out))) (below_size (by repeat (first | (with_reducible first | exact HB.out | apply below_alloc | apply pw_below_drewN | apply below_drew1 | refine below_set ?_ GE592.out | refine below_set ?_ GE593.out | refine below_set ?_ GE609.out | refine below_set ?_ GE610.out | refine below_set ?_ GE622.out) | exact HB.out))))
                  replace HO_9 := Aside0.mk (Kd.R_elder' (rowA HO_9.out) (Kd.R_base ho0) hb)
                  replace HO_13 := Aside0.mk (Kd.R_elder' (rowA HO_13.out) (Kd.R_base ho0) hb)
                  replace HL623_0 := Aside0.mk (Kd.R_elder' (rowA HL623_0.out) (Kd.R_base ho0) hb)
                  replace BK592 := blkB BK592 hb
                  replace BK593 := blkB BK593 hb
                  replace BK609 := blkB BK609 hb
                  replace BK610 := blkB BK610 hb
                  replace BK622 := blkB BK622 hb
                  replace HR623_0 := Aside0.mk (Kd.C_below (celA HR623_0.out) hb)
                  replace HB := Aside0.mk (below_step (by repeat (first | (with_reducible first | exact HB.out | apply below_alloc | apply pw_below_drewN | apply below_drew1 | refine below_set ?_ GE592.out | refine below_set ?_ GE593.out | refine below_set ?_ GE609.out | refine below_set ?_ GE610.out | refine below_set ?_ GE622.out) | exact HB.out)) hb)
                  (try clear hb)
                  (try clear ho0)
                  refine hK.out _ _ ⟨(blk_cell BK593.out 0).trans rfl, (blk_cell BK593.out 1).trans rfl, (blk_cell BK593.out 2).trans rfl, (blk_cell BK593.out 3).trans rfl, (blk_cell BK593.out 4).trans rfl, HS5_, HS6_, HS7_, HS8_, HS9_, HS10_, HS11_, HS12_, HS13_⟩ (fun hHeld => ?_)
                  clear hK K
                  refine norm_ (a' := ?_) ?_ ?_
                  rotate_left
                  ·show Act.put _ (some 152) _ = _
                   simp only [Act.put, List.setIfInBounds_toArray, List.set_cons_zero, List.set_cons_succ, i64_w, i32_w]
                   rfl
                  refine pureD 8 144 HT_ ?_
                  refine pureD 9 153 HT_ ?_
                  refine pureD 10 154 HT_ ?_
                  refine pureD 11 21 HT_ ?_
                  refine pureD 12 22 HT_ ?_
                  refine done_ (done_of HT_.out (by kernel_rfl)) ?_
                  have p628 : 0 ≤ (x18_3 : Int) := of_decide_eq_true asmA
                  have q628 : x18_3 < (t604.length : Int) := of_decide_eq_true asmA
                  obtain ⟨ad628, A628_0, c628_0, e628, hx628_0, hx628_1, hx628_2, hx628_3, hx628_4, hx628_5, hx628_6, hx628_7, hx628_8, hl628_0, hi628_0⟩ := at_T44 (Kd.R_reads' HO_13.out).2.2 x18_3 p628 q628
                  cases e628
                  obtain ⟨ce628, hce628, hMe628, hcc628⟩ := Kd.R_get HO_13.out z44 x18_3 p628 (by first | exact q628 | exact of_decide_eq_true asmA | (have e_ := (Kd.R_reads' HO_13.out).1; omega))
                  obtain ⟨ve628_0, rfl, ge628_0⟩ := k44_openM hMe628
                  have hv628_0 := hcc628 0 _ rfl
                  rw [Nat.add_zero] at hv628_0
                  replace hv628_0 := Option.some.inj (hv628_0.symm.trans hx628_0)
                  rw [hv628_0] at ge628_0
                  have HL628_0 := Aside0.mk (show Kd.R Kd.string 9 _ _ _ _ ((rd_T44 t604 x18_3).f0) from ge628_0)
                  clear hv628_0 ge628_0
                  clear hcc628 hce628
                  have HR628_0 := Aside0.mk hi628_0
                  have HC628_0 := Aside0.mk hl628_0
                  clear hi628_0 hl628_0
                  replace p628 := eq_true p628
                  replace q628 := eq_true q628
                  obtain ⟨Ao72, co72, eo72⟩ := Kd.R_slice HO627.out
                  subst eo72
                  try go_wp2_with (first | ((with_reducible refine gate_callee (f := 16) rfl ?_); refine goesL_ (some 161) rfl rfl Try.func16 (by kernel_rfl) rfl #[.slice Ao72 t624.length co72, .slice A628_0 ((rd_T44 t604 x18_3).f0).length c628_0] rfl argA ?_; (with_reducible refine (rickyardref06_Order.calls k4 _ _ t624 _ _ ((rd_T44 t604 x18_3).f0) t629 _ ?side1 ?side2 ?side3 ?side4 A67.out).mono ?_); (case side1 => repeat (first | exact (Kd.R_reads' HO627.out).2.2 | (with_reducible refine Kd.C_alloc ?_ _) | (with_reducible refine Kd.C_drewN ?_ _) | (with_reducible refine Kd.C_drew ?_))); (case side2 => exact (Kd.R_reads' HO627.out).2.1); (case side3 => exact cc1 (celA HR628_0.out)); (case side4 => exact HC628_0.out); rintro e w' ⟨rfl, ⟨nd, rfl⟩⟩; refine ⟨_, rfl, ?_⟩; (try (rw [drewN_self w71]; generalize hq_ : World.drewN w71 _ = w71; have n0_ : Aside0 (Kd.R Kd.string 9 w71 w.heap.size (fun k_ => some k_ ≠ (.slice Ao72 t624.length co72 : Value).ownBlock ∧ some k_ ≠ (.slice (some ad628) t604.length co60 : Value).ownBlock ∧ some k_ ≠ (.slice (some ad623) t596.length co42 : Value).ownBlock) (.slice A623_0 ((rd_T44 t596 x20_4).f0).length c623_0) ((rd_T44 t596 x20_4).f0)) := ⟨by rw [← hq_]; exact (by (with_reducible repeat (first | apply Kd.R_alloc | apply Kd.R_drewN | apply Kd.R_drew)); exact Kd.R_mono HL623_0.out (fun _ hk => ⟨hk.2, ⟨hk.1.1, hk.1.2⟩⟩))⟩; have n1_ : Aside0 (Kd.R Kd.string 9 w71 w.heap.size (fun k_ => some k_ ≠ (.slice Ao72 t624.length co72 : Value).ownBlock ∧ some k_ ≠ (.slice (some ad628) t604.length co60 : Value).ownBlock ∧ some k_ ≠ (.slice (some ad623) t596.length co42 : Value).ownBlock) (.slice A628_0 ((rd_T44 t604 x18_3).f0).length c628_0) ((rd_T44 t604 x18_3).f0)) := ⟨by rw [← hq_]; exact (by (with_reducible repeat (first | apply Kd.R_alloc | apply Kd.R_drewN | apply Kd.R_drew)); exact Kd.R_mono HL628_0.out (fun _ hk => ⟨hk.1.2, ⟨hk.2, hk.1.1⟩⟩))⟩; have n2_ : Aside0 (Kd.R Kd.string 9 w71 w.heap.size (fun k_ => some k_ ≠ (.slice A623_0 ((rd_T44 t596 x20_4).f0).length c623_0 : Value).ownBlock) (.slice Ao72 t624.length co72) t624) := ⟨by rw [← hq_]; exact (by (with_reducible repeat (first | apply Kd.R_alloc | apply Kd.R_drewN | apply Kd.R_drew)); exact Kd.R_mono HO627.out (fun _ hk => hk.2))⟩; have n3_ : Aside0 (Kd.R k44 44 w71 w.heap.size (fun k_ => some k_ ≠ (.slice Ao72 t624.length co72 : Value).ownBlock ∧ some k_ ≠ (.slice (some ad623) t596.length co42 : Value).ownBlock) (.slice (some ad628) t604.length co60) t604) := ⟨by rw [← hq_]; exact (by (with_reducible repeat (first | apply Kd.R_alloc | apply Kd.R_drewN | apply Kd.R_drew)); exact Kd.R_mono HO_13.out (fun _ hk => ⟨hk.2, hk.1⟩))⟩; have n4_ : Aside0 (Kd.R k44 44 w71 w.heap.size (fun k_ => some k_ ≠ (.slice Ao72 t624.length co72 : Value).ownBlock ∧ some k_ ≠ (.slice (some ad628) t604.length co60 : Value).ownBlock) (.slice (some ad623) t596.length co42) t596) := ⟨by rw [← hq_]; exact (by (with_reducible repeat (first | apply Kd.R_alloc | apply Kd.R_drewN | apply Kd.R_drew)); exact Kd.R_mono HO_9.out (fun _ hk => ⟨hk.2, hk.1⟩))⟩; have n5_ : Aside0 (w71.heap[gb592]? = some (.cells #[.slice A0_0 l0_0.length c0_0, .int .i64 a0_1] 24 (0, 0))) := ⟨by rw [← hq_]; exact (blkA BK592.out)⟩; have n6_ : Aside0 (w71.heap[gb593]? = some (.cells #[.slice A3_0 l3_0.length c3_0, .int .i64 a3_1, .int .i64 a3_2, .int .i64 a3_3, .int .i64 a3_4] 28 (0, 0))) := ⟨by rw [← hq_]; exact (blkA BK593.out)⟩; have n7_ : Aside0 (w71.heap[gb609]? = some (.cells #[.int .u64 x610000_1, .bool x610001_1, .int .i64 x610002_1, .int .u64 x610003_1, .int .i64 x610004_1, .int .i64 x610005_1] 42 (0, 0))) := ⟨by rw [← hq_]; exact (blkA BK609.out)⟩; have n8_ : Aside0 (w71.heap[gb610]? = some (.cells #[.int .u64 x611000_3, .bool x611001_3, .int .i64 x611002_3, .int .u64 x611003_3, .int .i64 x611004_3, .int .i64 x611005_3] 42 (0, 0))) := ⟨by rw [← hq_]; exact (blkA BK610.out)⟩; have n9_ : Aside0 (w71.heap[gb622]? = some (.cells #[.int .u64 x623000_4, .bool x623001_4, .int .i64 x623002_4, .int .u64 x623003_4, .int .i64 x623004_4, .int .i64 x623005_4] 42 (0, 0))) := ⟨by rw [← hq_]; exact (blkA BK622.out)⟩; have n10_ : Aside0 (Below w.heap.size w w71) := ⟨by rw [← hq_]; exact (by repeat (first | (with_reducible first | exact HB.out | apply below_alloc | apply pw_below_drewN | apply below_drew1 | refine below_set ?_ GE592.out | refine below_set ?_ GE593.out | refine below_set ?_ GE609.out | refine below_set ?_ GE610.out | refine below_set ?_ GE622.out) | exact HB.out))⟩; have n11_ : Aside0 (Kd.C Kd.string w71 A623_0 ((rd_T44 t596 x20_4).f0).length ((rd_T44 t596 x20_4).f0)) := ⟨by rw [← hq_]; exact (celA HR623_0.out)⟩; have n12_ : Aside0 (Kd.C Kd.string w71 A628_0 ((rd_T44 t604 x18_3).f0).length ((rd_T44 t604 x18_3).f0)) := ⟨by rw [← hq_]; exact (celA HR628_0.out)⟩; clear HL623_0 HL628_0 HO627 HO_13 HO_9 BK592 BK593 BK609 BK610 BK622 HB HR623_0 HR628_0 hq_; have HL623_0 := n0_; have HL628_0 := n1_; have HO627 := n2_; have HO_13 := n3_; have HO_9 := n4_; have BK592 := n5_; have BK593 := n6_; have BK609 := n7_; have BK610 := n8_; have BK622 := n9_; have HB := n10_; have HR623_0 := n11_; have HR628_0 := n12_; clear n0_ n1_ n2_ n3_ n4_ n5_ n6_ n7_ n8_ n9_ n10_ n11_ n12_))))
                  replace HO_9 := Aside0.mk (Kd.R_drew HO_9.out)
                  replace HO_13 := Aside0.mk (Kd.R_drew HO_13.out)
                  replace HL623_0 := Aside0.mk (Kd.R_drew HL623_0.out)
                  replace HO627 := Aside0.mk (Kd.R_drew HO627.out)
                  replace HL628_0 := Aside0.mk (Kd.R_drew HL628_0.out)
                  replace BK592 := Aside0.mk (blk_drew BK592.out)
                  replace BK593 := Aside0.mk (blk_drew BK593.out)
                  replace BK609 := Aside0.mk (blk_drew BK609.out)
                  replace BK610 := Aside0.mk (blk_drew BK610.out)
                  replace BK622 := Aside0.mk (blk_drew BK622.out)
                  replace HR623_0 := Aside0.mk (Kd.C_drew HR623_0.out)
                  replace HR628_0 := Aside0.mk (Kd.C_drew HR628_0.out)
                  replace HB := Aside0.mk (below_drew1 HB.out)
                  have p630 : 0 ≤ (x20_4 : Int) := of_decide_eq_true asmA
                  have q630 : x20_4 < (t596.length : Int) := of_decide_eq_true asmA
                  obtain ⟨ad630, A630_0, c630_0, e630, hx630_0, hx630_1, hx630_2, hx630_3, hx630_4, hx630_5, hx630_6, hx630_7, hx630_8, hl630_0, hi630_0⟩ := at_T44 (Kd.R_reads' HO_9.out).2.2 x20_4 p630 q630
                  obtain rfl : ad623 = ad630 := (by injection e630)
                  obtain ⟨ce630, hce630, hMe630, hcc630⟩ := Kd.R_get HO_9.out z44 x20_4 p630 (by first | exact q630 | exact of_decide_eq_true asmA | (have e_ := (Kd.R_reads' HO_9.out).1; omega))
                  obtain ⟨ve630_0, rfl, ge630_0⟩ := k44_openM hMe630
                  have hv630_0 := hcc630 0 _ rfl
                  rw [Nat.add_zero] at hv630_0
                  replace hv630_0 := Option.some.inj (hv630_0.symm.trans hx630_0)
                  rw [hv630_0] at ge630_0
                  have HL630_0 := Aside0.mk (show Kd.R Kd.string 9 _ _ _ _ ((rd_T44 t596 x20_4).f0) from ge630_0)
                  clear hv630_0 ge630_0
                  clear hcc630 hce630
                  have HR630_0 := Aside0.mk hi630_0
                  have HC630_0 := Aside0.mk hl630_0
                  clear hi630_0 hl630_0
                  replace p630 := eq_true p630
                  replace q630 := eq_true q630
                  refine start_ (n := 8) (S := fun w' => w'.cell? ⟨gb622, 0, none⟩ = some (.int .u64 x623000_4) ∧ w'.cell? ⟨gb622, 1, none⟩ = some (.bool x623001_4) ∧ w'.cell? ⟨gb622, 2, none⟩ = some (.int .i64 x623002_4) ∧ w'.cell? ⟨gb622, 3, none⟩ = some (.int .u64 x623003_4) ∧ w'.cell? ⟨gb622, 4, none⟩ = some (.int .i64 x623004_4) ∧ w'.cell? ⟨gb622, 5, none⟩ = some (.int .i64 x623005_4) ∧ w'.cell? (ad623.add ((x20_4).toNat * 9)) = some (.slice A630_0 ((rd_T44 t596 x20_4).f0).length c630_0) ∧ w'.cell? ⟨(ad623.add ((x20_4).toNat * 9)).block, (ad623.add ((x20_4).toNat * 9)).off + 1, none⟩ = some (.int .i64 ((rd_T44 t596 x20_4).f1)) ∧ w'.cell? ⟨(ad623.add ((x20_4).toNat * 9)).block, (ad623.add ((x20_4).toNat * 9)).off + 2, none⟩ = some (.int .i64 ((rd_T44 t596 x20_4).f2)) ∧ w'.cell? ⟨(ad623.add ((x20_4).toNat * 9)).block, (ad623.add ((x20_4).toNat * 9)).off + 3, none⟩ = some (.int .u64 ((rd_T44 t596 x20_4).f3.f0)) ∧ w'.cell? ⟨(ad623.add ((x20_4).toNat * 9)).block, (ad623.add ((x20_4).toNat * 9)).off + 4, none⟩ = some (.bool ((rd_T44 t596 x20_4).f3.f1)) ∧ w'.cell? ⟨(ad623.add ((x20_4).toNat * 9)).block, (ad623.add ((x20_4).toNat * 9)).off + 5, none⟩ = some (.int .i64 ((rd_T44 t596 x20_4).f3.f2.f0)) ∧ w'.cell? ⟨(ad623.add ((x20_4).toNat * 9)).block, (ad623.add ((x20_4).toNat * 9)).off + 6, none⟩ = some (.int .u64 ((rd_T44 t596 x20_4).f3.f2.f1)) ∧ w'.cell? ⟨(ad623.add ((x20_4).toNat * 9)).block, (ad623.add ((x20_4).toNat * 9)).off + 7, none⟩ = some (.int .i64 ((rd_T44 t596 x20_4).f3.f3)) ∧ w'.cell? ⟨(ad623.add ((x20_4).toNat * 9)).block, (ad623.add ((x20_4).toNat * 9)).off + 8, none⟩ = some (.int .i64 ((rd_T44 t596 x20_4).f3.f4))) (ds := [7]) #[false, false, false, false, false, false, false, false] (by kernel_rfl) rfl rfl ⟨(blk_cell BK622.out 0).trans rfl, (blk_cell BK622.out 1).trans rfl, (blk_cell BK622.out 2).trans rfl, (blk_cell BK622.out 3).trans rfl, (blk_cell BK622.out 4).trans rfl, (blk_cell BK622.out 5).trans rfl, hx630_0, hx630_1, hx630_2, hx630_3, hx630_4, hx630_5, hx630_6, hx630_7, hx630_8⟩ (fun hHeld => ?_); refine with_tabW rickyardlaw17_AskAll.tab26 rickyardlaw17_AskAll.bits26 (fun HT_ HW_ => ?_)
                  generalize w71.drew = w73 at HO_9 HO_13 HL623_0 HO627 HL628_0 BK592 BK593 BK609 BK610 BK622 HR623_0 HR628_0 HB HL630_0 HR630_0 hx630_0 hx630_1 hx630_2 hx630_3 hx630_4 hx630_5 hx630_6 hx630_7 hx630_8 hHeld ⊢
                  refine pureD 1 164 HT_ ?_
                  refine pureD 2 165 HT_ ?_
                  refine pureD 3 166 HT_ ?_
                  refine pureD 4 167 HT_ ?_
                  refine takeD 0 163 HT_ HW_ hHeld ?_
                  refine takeD 5 168 HT_ HW_ hHeld ?_
                  refine one_ (i := 6) (N := some 169) #[true, true, true, true, true, true, true, false] rfl rfl (one_of HT_.out (by kernel_rfl)) (by decide) (fun K hK => ?_)
                  refine goes_ Try.func14 (by kernel_rfl) rfl #[.agg #[.int .u64 x623000_4, .bool x623001_4, .int .i64 x623002_4, .int .u64 x623003_4, .int .i64 x623004_4, .int .i64 x623005_4], .agg #[.int .u64 ((rd_T44 t596 x20_4).f3.f0), .bool ((rd_T44 t596 x20_4).f3.f1), .int .i64 ((rd_T44 t596 x20_4).f3.f2.f0), .int .u64 ((rd_T44 t596 x20_4).f3.f2.f1), .int .i64 ((rd_T44 t596 x20_4).f3.f3), .int .i64 ((rd_T44 t596 x20_4).f3.f4)]] (by rfl) rfl rfl argA ?_
                  with_reducible refine (agg_Merge.calls x623000_4 x623001_4 x623002_4 x623003_4 x623004_4 x623005_4 ((rd_T44 t596 x20_4).f3.f0) ((rd_T44 t596 x20_4).f3.f1) ((rd_T44 t596 x20_4).f3.f2.f0) ((rd_T44 t596 x20_4).f3.f2.f1) ((rd_T44 t596 x20_4).f3.f3) ((rd_T44 t596 x20_4).f3.f4) t631 t632 t633 t634 t635 t636 _ A69.out).mono ?_
                  rintro e w74 ⟨rfl, hb⟩
                  have HS6_ := (hb.cell (World.block_lt_of_cell? _ _ (hHeld.2.2.2.2.2.2.1))).trans (hHeld.2.2.2.2.2.2.1)
                  have HS7_ := (hb.cell (World.block_lt_of_cell? _ _ (hHeld.2.2.2.2.2.2.2.1))).trans (hHeld.2.2.2.2.2.2.2.1)
                  have HS8_ := (hb.cell (World.block_lt_of_cell? _ _ (hHeld.2.2.2.2.2.2.2.2.1))).trans (hHeld.2.2.2.2.2.2.2.2.1)
                  have HS9_ := (hb.cell (World.block_lt_of_cell? _ _ (hHeld.2.2.2.2.2.2.2.2.2.1))).trans (hHeld.2.2.2.2.2.2.2.2.2.1)
                  have HS10_ := (hb.cell (World.block_lt_of_cell? _ _ (hHeld.2.2.2.2.2.2.2.2.2.2.1))).trans (hHeld.2.2.2.2.2.2.2.2.2.2.1)
                  have HS11_ := (hb.cell (World.block_lt_of_cell? _ _ (hHeld.2.2.2.2.2.2.2.2.2.2.2.1))).trans (hHeld.2.2.2.2.2.2.2.2.2.2.2.1)
                  have HS12_ := (hb.cell (World.block_lt_of_cell? _ _ (hHeld.2.2.2.2.2.2.2.2.2.2.2.2.1))).trans (hHeld.2.2.2.2.2.2.2.2.2.2.2.2.1)
                  have HS13_ := (hb.cell (World.block_lt_of_cell? _ _ (hHeld.2.2.2.2.2.2.2.2.2.2.2.2.2.1))).trans (hHeld.2.2.2.2.2.2.2.2.2.2.2.2.2.1)
                  have HS14_ := (hb.cell (World.block_lt_of_cell? _ _ (hHeld.2.2.2.2.2.2.2.2.2.2.2.2.2.2))).trans (hHeld.2.2.2.2.2.2.2.2.2.2.2.2.2.2)
                  refine ⟨_, rfl, ?_⟩
                  replace HO_9 := Aside0.mk (Kd.R_below (rowA HO_9.out) hb)
                  replace HO_13 := Aside0.mk (Kd.R_below (rowA HO_13.out) hb)
                  replace HL623_0 := Aside0.mk (Kd.R_below (rowA HL623_0.out) hb)
                  replace HO627 := Aside0.mk (Kd.R_below (rowA HO627.out) hb)
                  replace HL628_0 := Aside0.mk (Kd.R_below (rowA HL628_0.out) hb)
                  replace HL630_0 := Aside0.mk (Kd.R_below (rowA HL630_0.out) hb)
                  replace BK592 := blkB BK592 hb
                  replace BK593 := blkB BK593 hb
                  replace BK609 := blkB BK609 hb
                  replace BK610 := blkB BK610 hb
                  replace BK622 := blkB BK622 hb
                  replace HR623_0 := Aside0.mk (Kd.C_below (celA HR623_0.out) hb)
                  replace HR628_0 := Aside0.mk (Kd.C_below (celA HR628_0.out) hb)
                  replace HR630_0 := Aside0.mk (Kd.C_below (celA HR630_0.out) hb)
                  replace HB := Aside0.mk (below_step (by repeat (first | (with_reducible first | exact HB.out | apply below_alloc | apply pw_below_drewN | apply below_drew1 | refine below_set ?_ GE592.out | refine below_set ?_ GE593.out | refine below_set ?_ GE609.out | refine below_set ?_ GE610.out | refine below_set ?_ GE622.out) | exact HB.out)) hb)
                  (try clear hb)
                  refine hK.out _ _ ⟨(blk_cell BK622.out 0).trans rfl, (blk_cell BK622.out 1).trans rfl, (blk_cell BK622.out 2).trans rfl, (blk_cell BK622.out 3).trans rfl, (blk_cell BK622.out 4).trans rfl, (blk_cell BK622.out 5).trans rfl, HS6_, HS7_, HS8_, HS9_, HS10_, HS11_, HS12_, HS13_, HS14_⟩ (fun hHeld => ?_)
                  clear hK K
                  refine norm_ (a' := ?_) ?_ ?_
                  rotate_left
                  ·show Act.put _ (some 169) _ = _
                   simp only [Act.put, List.setIfInBounds_toArray, List.set_cons_zero, List.set_cons_succ, i64_w, i32_w]
                   rfl
                  refine last_ (i := 7) (N := none) #[true, true, true, true, true, true, true, true] rfl rfl (one_of HT_.out (by kernel_rfl)) (by decide) (fun K hK => ?_)
                  have hs75 : w74.cell? ⟨gb622, 0, none⟩ = some (.int .u64 x623000_4) := (blk_cell BK622.out 0).trans rfl
                  have hfs75 := blk_frozen BK622.out 0
                  have hns75_0 := NB592_622.out
                  have hns75_1 := NB593_622.out
                  have hns75_2 := NB609_622.out
                  have hns75_3 := NB610_622.out
                  have hms75_0 := NB622_592.out
                  have hms75_1 := NB622_593.out
                  have hms75_2 := NB622_609.out
                  have hms75_3 := NB622_610.out
                  have hs76 : w74.cell? ⟨gb622, 1, none⟩ = some (.bool x623001_4) := (blk_cell BK622.out 1).trans rfl
                  have hfs76 := blk_frozen BK622.out 1
                  have hns76_0 := NB592_622.out
                  have hns76_1 := NB593_622.out
                  have hns76_2 := NB609_622.out
                  have hns76_3 := NB610_622.out
                  have hms76_0 := NB622_592.out
                  have hms76_1 := NB622_593.out
                  have hms76_2 := NB622_609.out
                  have hms76_3 := NB622_610.out
                  have hs77 : w74.cell? ⟨gb622, 2, none⟩ = some (.int .i64 x623002_4) := (blk_cell BK622.out 2).trans rfl
                  have hfs77 := blk_frozen BK622.out 2
                  have hns77_0 := NB592_622.out
                  have hns77_1 := NB593_622.out
                  have hns77_2 := NB609_622.out
                  have hns77_3 := NB610_622.out
                  have hms77_0 := NB622_592.out
                  have hms77_1 := NB622_593.out
                  have hms77_2 := NB622_609.out
                  have hms77_3 := NB622_610.out
                  have hs78 : w74.cell? ⟨gb622, 3, none⟩ = some (.int .u64 x623003_4) := (blk_cell BK622.out 3).trans rfl
                  have hfs78 := blk_frozen BK622.out 3
                  have hns78_0 := NB592_622.out
                  have hns78_1 := NB593_622.out
                  have hns78_2 := NB609_622.out
                  have hns78_3 := NB610_622.out
                  have hms78_0 := NB622_592.out
                  have hms78_1 := NB622_593.out
                  have hms78_2 := NB622_609.out
                  have hms78_3 := NB622_610.out
                  have hs79 : w74.cell? ⟨gb622, 4, none⟩ = some (.int .i64 x623004_4) := (blk_cell BK622.out 4).trans rfl
                  have hfs79 := blk_frozen BK622.out 4
                  have hns79_0 := NB592_622.out
                  have hns79_1 := NB593_622.out
                  have hns79_2 := NB609_622.out
                  have hns79_3 := NB610_622.out
                  have hms79_0 := NB622_592.out
                  have hms79_1 := NB622_593.out
                  have hms79_2 := NB622_609.out
                  have hms79_3 := NB622_610.out
                  have hs80 : w74.cell? ⟨gb622, 5, none⟩ = some (.int .i64 x623005_4) := (blk_cell BK622.out 5).trans rfl
                  have hfs80 := blk_frozen BK622.out 5
                  have hns80_0 := NB592_622.out
                  have hns80_1 := NB593_622.out
                  have hns80_2 := NB609_622.out
                  have hns80_3 := NB610_622.out
                  have hms80_0 := NB622_592.out
                  have hms80_1 := NB622_593.out
                  have hms80_2 := NB622_609.out
                  have hms80_3 := NB622_610.out
                  refine skip_ (w1 := ?_) (by rfl) rfl ?_ ?_
                  rotate_left
                  ·go_simp
                   rfl
                  refine hK.out _ _ ?_
                  clear hK K
                  refine done_ (done_of HT_.out (by kernel_rfl)) ?_
                  try go_wp2
                  go_roundg k4
                  case measure => have := HK1.out; have := HJ40.out; have := HK3.out; have := HK4.out; omega
                  case rel => exact ⟨(wrap64 (x20_4 + 1)), (t631), (t632), (t633), (t634), (t635), (t636), relA, H', ⟨by have := HK1.out; have := HJ40.out; have := HK3.out; have := HK4.out; omega⟩, ⟨by (with_reducible repeat (first | apply Kd.R_alloc | apply Kd.R_drewN | apply Kd.R_drew)); exact Kd.R_mono (Kd.R_far (p := ⟨gb622, 5, none⟩) (Kd.R_far (p := ⟨gb622, 4, none⟩) (Kd.R_far (p := ⟨gb622, 3, none⟩) (Kd.R_far (p := ⟨gb622, 2, none⟩) (Kd.R_far (p := ⟨gb622, 1, none⟩) (Kd.R_far (p := ⟨gb622, 0, none⟩) (Kd.R_types HO_9.out BK622.out (by decide)) (fun _ hk => hk.2) (.int .u64 t631)) (fun _ hk => hk.2) (.bool t632)) (fun _ hk => hk.2) (.int .i64 t633)) (fun _ hk => hk.2) (.int .u64 t634)) (fun _ hk => hk.2) (.int .i64 t635)) (fun _ hk => hk.2) (.int .i64 t636)) (fun _ hk => by first | exact hk.1.1 | exact hk.1.2 | exact hk.1.1.1 | exact hk.1.1.2 | exact hk.2)⟩, ⟨by (with_reducible repeat (first | apply Kd.R_alloc | apply Kd.R_drewN | apply Kd.R_drew)); exact Kd.R_mono (Kd.R_far (p := ⟨gb622, 5, none⟩) (Kd.R_far (p := ⟨gb622, 4, none⟩) (Kd.R_far (p := ⟨gb622, 3, none⟩) (Kd.R_far (p := ⟨gb622, 2, none⟩) (Kd.R_far (p := ⟨gb622, 1, none⟩) (Kd.R_far (p := ⟨gb622, 0, none⟩) (Kd.R_types HO_13.out BK622.out (by decide)) (fun _ hk => hk.2) (.int .u64 t631)) (fun _ hk => hk.2) (.bool t632)) (fun _ hk => hk.2) (.int .i64 t633)) (fun _ hk => hk.2) (.int .u64 t634)) (fun _ hk => hk.2) (.int .i64 t635)) (fun _ hk => hk.2) (.int .i64 t636)) (fun _ hk => by first | exact hk.1.1 | exact hk.1.2 | exact hk.1.1.1 | exact hk.1.1.2 | exact hk.2)⟩, ⟨putB BK592.out NB592_622.out⟩, ⟨putB BK593.out NB593_622.out⟩, ⟨putB BK609.out NB609_622.out⟩, ⟨putB BK610.out NB610_622.out⟩, ⟨putA BK622.out⟩, ⟨by repeat (first | (with_reducible first | exact HB.out | apply below_alloc | apply pw_below_drewN | apply below_drew1 | refine below_set ?_ GE592.out | refine below_set ?_ GE593.out | refine below_set ?_ GE609.out | refine below_set ?_ GE610.out | refine below_set ?_ GE622.out) | exact HB.out)⟩⟩
                 ·rw [if_neg c68] at H
                  have c68b0 := beq_eq_false_iff_ne.mpr c68
                  have c68b1 := bne_iff_ne.mpr c68
                  have H' := Aside0.mk H
                  clear H
                  try go_wp2
                  replace HO_9 := Aside0.mk (Kd.R_drew HO_9.out)
                  replace HO_13 := Aside0.mk (Kd.R_drew HO_13.out)
                  replace BK592 := Aside0.mk (blk_drew BK592.out)
                  replace BK593 := Aside0.mk (blk_drew BK593.out)
                  replace BK609 := Aside0.mk (blk_drew BK609.out)
                  replace BK610 := Aside0.mk (blk_drew BK610.out)
                  replace BK622 := Aside0.mk (blk_drew BK622.out)
                  replace HB := Aside0.mk (below_drew1 HB.out)
                  have p623 : 0 ≤ (x20_4 : Int) := of_decide_eq_true asmA
                  have q623 : x20_4 < (t596.length : Int) := of_decide_eq_true asmA
                  obtain ⟨ad623, A623_0, c623_0, e623, hx623_0, hx623_1, hx623_2, hx623_3, hx623_4, hx623_5, hx623_6, hx623_7, hx623_8, hl623_0, hi623_0⟩ := at_T44 (Kd.R_reads' HO_9.out).2.2 x20_4 p623 q623
                  cases e623
                  obtain ⟨ce623, hce623, hMe623, hcc623⟩ := Kd.R_get HO_9.out z44 x20_4 p623 (by first | exact q623 | exact of_decide_eq_true asmA | (have e_ := (Kd.R_reads' HO_9.out).1; omega))
                  obtain ⟨ve623_0, rfl, ge623_0⟩ := k44_openM hMe623
                  have hv623_0 := hcc623 0 _ rfl
                  rw [Nat.add_zero] at hv623_0
                  replace hv623_0 := Option.some.inj (hv623_0.symm.trans hx623_0)
                  rw [hv623_0] at ge623_0
                  have HL623_0 := Aside0.mk (show Kd.R Kd.string 9 _ _ _ _ ((rd_T44 t596 x20_4).f0) from ge623_0)
                  clear hv623_0 ge623_0
                  clear hcc623 hce623
                  have HR623_0 := Aside0.mk hi623_0
                  have HC623_0 := Aside0.mk hl623_0
                  clear hi623_0 hl623_0
                  replace p623 := eq_true p623
                  replace q623 := eq_true q623
                  refine start_ (n := 13) (S := fun w' => w'.cell? ⟨gb593, 0, none⟩ = some (.slice A3_0 l3_0.length c3_0) ∧ w'.cell? ⟨gb593, 1, none⟩ = some (.int .i64 a3_1) ∧ w'.cell? ⟨gb593, 2, none⟩ = some (.int .i64 a3_2) ∧ w'.cell? ⟨gb593, 3, none⟩ = some (.int .i64 a3_3) ∧ w'.cell? ⟨gb593, 4, none⟩ = some (.int .i64 a3_4) ∧ w'.cell? (ad623.add ((x20_4).toNat * 9)) = some (.slice A623_0 ((rd_T44 t596 x20_4).f0).length c623_0) ∧ w'.cell? ⟨(ad623.add ((x20_4).toNat * 9)).block, (ad623.add ((x20_4).toNat * 9)).off + 1, none⟩ = some (.int .i64 ((rd_T44 t596 x20_4).f1)) ∧ w'.cell? ⟨(ad623.add ((x20_4).toNat * 9)).block, (ad623.add ((x20_4).toNat * 9)).off + 2, none⟩ = some (.int .i64 ((rd_T44 t596 x20_4).f2)) ∧ w'.cell? ⟨(ad623.add ((x20_4).toNat * 9)).block, (ad623.add ((x20_4).toNat * 9)).off + 3, none⟩ = some (.int .u64 ((rd_T44 t596 x20_4).f3.f0)) ∧ w'.cell? ⟨(ad623.add ((x20_4).toNat * 9)).block, (ad623.add ((x20_4).toNat * 9)).off + 4, none⟩ = some (.bool ((rd_T44 t596 x20_4).f3.f1)) ∧ w'.cell? ⟨(ad623.add ((x20_4).toNat * 9)).block, (ad623.add ((x20_4).toNat * 9)).off + 5, none⟩ = some (.int .i64 ((rd_T44 t596 x20_4).f3.f2.f0)) ∧ w'.cell? ⟨(ad623.add ((x20_4).toNat * 9)).block, (ad623.add ((x20_4).toNat * 9)).off + 6, none⟩ = some (.int .u64 ((rd_T44 t596 x20_4).f3.f2.f1)) ∧ w'.cell? ⟨(ad623.add ((x20_4).toNat * 9)).block, (ad623.add ((x20_4).toNat * 9)).off + 7, none⟩ = some (.int .i64 ((rd_T44 t596 x20_4).f3.f3)) ∧ w'.cell? ⟨(ad623.add ((x20_4).toNat * 9)).block, (ad623.add ((x20_4).toNat * 9)).off + 8, none⟩ = some (.int .i64 ((rd_T44 t596 x20_4).f3.f4))) (ds := []) #[false, false, false, false, false, false, false, false, false, false, false, false, false] (by kernel_rfl) rfl rfl ⟨(blk_cell BK593.out 0).trans rfl, (blk_cell BK593.out 1).trans rfl, (blk_cell BK593.out 2).trans rfl, (blk_cell BK593.out 3).trans rfl, (blk_cell BK593.out 4).trans rfl, hx623_0, hx623_1, hx623_2, hx623_3, hx623_4, hx623_5, hx623_6, hx623_7, hx623_8⟩ (fun hHeld => ?_); refine with_tabW rickyardlaw17_AskAll.tab24 rickyardlaw17_AskAll.bits24 (fun HT_ HW_ => ?_)
                  generalize wr.drew = w81 at HO_9 HO_13 BK592 BK593 BK609 BK610 BK622 HB HL623_0 HR623_0 hx623_0 hx623_1 hx623_2 hx623_3 hx623_4 hx623_5 hx623_6 hx623_7 hx623_8 hHeld ⊢
                  refine pureD 0 145 HT_ ?_
                  refine pureD 1 146 HT_ ?_
                  refine pureD 2 147 HT_ ?_
                  refine pureD 3 148 HT_ ?_
                  refine pureD 5 150 HT_ ?_
                  refine takeD 4 149 HT_ HW_ hHeld ?_
                  refine takeD 6 151 HT_ HW_ hHeld ?_
                  refine one_ (i := 7) (N := some 152) #[true, true, true, true, true, true, true, true, false, false, false, false, false] rfl rfl (one_of HT_.out (by kernel_rfl)) (by decide) (fun K hK => ?_)
                  refine goes_ Try.func15 (by kernel_rfl) rfl #[.slice A623_0 ((rd_T44 t596 x20_4).f0).length c623_0, .int .i64 a3_4] (by rfl) rfl rfl argA ?_
                  with_reducible refine (key_Part.calls k4 _ _ ((rd_T44 t596 x20_4).f0) a3_4 t624 t625 _ ?side1 ?side2 A64.out).mono ?_
                  (case side1 => exact cc1 (celA HR623_0.out))
                  (case side2 => exact HC623_0.out)
                  rintro e w82 ⟨v626, rfl, ho0, hb⟩
                  have HS5_ := (hb.cell (World.block_lt_of_cell? _ _ (hHeld.2.2.2.2.2.1))).trans (hHeld.2.2.2.2.2.1)
                  have HS6_ := (hb.cell (World.block_lt_of_cell? _ _ (hHeld.2.2.2.2.2.2.1))).trans (hHeld.2.2.2.2.2.2.1)
                  have HS7_ := (hb.cell (World.block_lt_of_cell? _ _ (hHeld.2.2.2.2.2.2.2.1))).trans (hHeld.2.2.2.2.2.2.2.1)
                  have HS8_ := (hb.cell (World.block_lt_of_cell? _ _ (hHeld.2.2.2.2.2.2.2.2.1))).trans (hHeld.2.2.2.2.2.2.2.2.1)
                  have HS9_ := (hb.cell (World.block_lt_of_cell? _ _ (hHeld.2.2.2.2.2.2.2.2.2.1))).trans (hHeld.2.2.2.2.2.2.2.2.2.1)
                  have HS10_ := (hb.cell (World.block_lt_of_cell? _ _ (hHeld.2.2.2.2.2.2.2.2.2.2.1))).trans (hHeld.2.2.2.2.2.2.2.2.2.2.1)
                  have HS11_ := (hb.cell (World.block_lt_of_cell? _ _ (hHeld.2.2.2.2.2.2.2.2.2.2.2.1))).trans (hHeld.2.2.2.2.2.2.2.2.2.2.2.1)
                  have HS12_ := (hb.cell (World.block_lt_of_cell? _ _ (hHeld.2.2.2.2.2.2.2.2.2.2.2.2.1))).trans (hHeld.2.2.2.2.2.2.2.2.2.2.2.2.1)
                  have HS13_ := (hb.cell (World.block_lt_of_cell? _ _ (hHeld.2.2.2.2.2.2.2.2.2.2.2.2.2))).trans (hHeld.2.2.2.2.2.2.2.2.2.2.2.2.2)
                  refine ⟨_, rfl, ?_⟩
                  have HO627 := Aside0.mk (Kd.R_lower (Kd.R_new' ho0 (Kd.R_lt (rowA HL623_0.out))) (below_size (by repeat (first | (with_reducible first | exact HB.out | apply below_alloc | apply pw_below_drewN | apply below_drew1 | refine below_set ?_ GE592.out | refine below_set ?_ GE593.out | refine below_set ?_ GE609.out | refine below_set ?_ GE610.out | refine below_set ?_ GE622.out) | exact HB.out))))
                  replace HO_9 := Aside0.mk (Kd.R_elder' (rowA HO_9.out) (Kd.R_base ho0) hb)
                  replace HO_13 := Aside0.mk (Kd.R_elder' (rowA HO_13.out) (Kd.R_base ho0) hb)
                  replace HL623_0 := Aside0.mk (Kd.R_elder' (rowA HL623_0.out) (Kd.R_base ho0) hb)
                  replace BK592 := blkB BK592 hb
                  replace BK593 := blkB BK593 hb
                  replace BK609 := blkB BK609 hb
                  replace BK610 := blkB BK610 hb
                  replace BK622 := blkB BK622 hb
                  replace HR623_0 := Aside0.mk (Kd.C_below (celA HR623_0.out) hb)
                  replace HB := Aside0.mk (below_step (by repeat (first | (with_reducible first | exact HB.out | apply below_alloc | apply pw_below_drewN | apply below_drew1 | refine below_set ?_ GE592.out | refine below_set ?_ GE593.out | refine below_set ?_ GE609.out | refine below_set ?_ GE610.out | refine below_set ?_ GE622.out) | exact HB.out)) hb)
                  (try clear hb)
                  (try clear ho0)
                  refine hK.out _ _ ⟨(blk_cell BK593.out 0).trans rfl, (blk_cell BK593.out 1).trans rfl, (blk_cell BK593.out 2).trans rfl, (blk_cell BK593.out 3).trans rfl, (blk_cell BK593.out 4).trans rfl, HS5_, HS6_, HS7_, HS8_, HS9_, HS10_, HS11_, HS12_, HS13_⟩ (fun hHeld => ?_)
                  clear hK K
                  refine norm_ (a' := ?_) ?_ ?_
                  rotate_left
                  ·show Act.put _ (some 152) _ = _
                   simp only [Act.put, List.setIfInBounds_toArray, List.set_cons_zero, List.set_cons_succ, i64_w, i32_w]
                   rfl
                  refine pureD 8 144 HT_ ?_
                  refine pureD 9 153 HT_ ?_
                  refine pureD 10 154 HT_ ?_
                  refine pureD 11 21 HT_ ?_
                  refine pureD 12 22 HT_ ?_
                  refine done_ (done_of HT_.out (by kernel_rfl)) ?_
                  have p628 : 0 ≤ (x18_3 : Int) := of_decide_eq_true asmA
                  have q628 : x18_3 < (t604.length : Int) := of_decide_eq_true asmA
                  obtain ⟨ad628, A628_0, c628_0, e628, hx628_0, hx628_1, hx628_2, hx628_3, hx628_4, hx628_5, hx628_6, hx628_7, hx628_8, hl628_0, hi628_0⟩ := at_T44 (Kd.R_reads' HO_13.out).2.2 x18_3 p628 q628
                  cases e628
                  obtain ⟨ce628, hce628, hMe628, hcc628⟩ := Kd.R_get HO_13.out z44 x18_3 p628 (by first | exact q628 | exact of_decide_eq_true asmA | (have e_ := (Kd.R_reads' HO_13.out).1; omega))
                  obtain ⟨ve628_0, rfl, ge628_0⟩ := k44_openM hMe628
                  have hv628_0 := hcc628 0 _ rfl
                  rw [Nat.add_zero] at hv628_0
                  replace hv628_0 := Option.some.inj (hv628_0.symm.trans hx628_0)
                  rw [hv628_0] at ge628_0
                  have HL628_0 := Aside0.mk (show Kd.R Kd.string 9 _ _ _ _ ((rd_T44 t604 x18_3).f0) from ge628_0)
                  clear hv628_0 ge628_0
                  clear hcc628 hce628
                  have HR628_0 := Aside0.mk hi628_0
                  have HC628_0 := Aside0.mk hl628_0
                  clear hi628_0 hl628_0
                  replace p628 := eq_true p628
                  replace q628 := eq_true q628
                  obtain ⟨Ao83, co83, eo83⟩ := Kd.R_slice HO627.out
                  subst eo83
                  try go_wp2_with (first | ((with_reducible refine gate_callee (f := 16) rfl ?_); refine goesL_ (some 161) rfl rfl Try.func16 (by kernel_rfl) rfl #[.slice Ao83 t624.length co83, .slice A628_0 ((rd_T44 t604 x18_3).f0).length c628_0] rfl argA ?_; (with_reducible refine (rickyardref06_Order.calls k4 _ _ t624 _ _ ((rd_T44 t604 x18_3).f0) t629 _ ?side1 ?side2 ?side3 ?side4 A67.out).mono ?_); (case side1 => repeat (first | exact (Kd.R_reads' HO627.out).2.2 | (with_reducible refine Kd.C_alloc ?_ _) | (with_reducible refine Kd.C_drewN ?_ _) | (with_reducible refine Kd.C_drew ?_))); (case side2 => exact (Kd.R_reads' HO627.out).2.1); (case side3 => exact cc1 (celA HR628_0.out)); (case side4 => exact HC628_0.out); rintro e w' ⟨rfl, ⟨nd, rfl⟩⟩; refine ⟨_, rfl, ?_⟩))
                  go_roundg k4
                  case measure => have := HK1.out; have := HJ40.out; have := HK3.out; have := HK4.out; omega
                  case rel => exact ⟨(wrap64 (x20_4 + 1)), (x623000_4), (x623001_4), (x623002_4), (x623003_4), (x623004_4), (x623005_4), relA, H', ⟨by have := HK1.out; have := HJ40.out; have := HK3.out; have := HK4.out; omega⟩, ⟨by (with_reducible repeat (first | apply Kd.R_alloc | apply Kd.R_drewN | apply Kd.R_drew)); exact Kd.R_mono HO_9.out (fun _ hk => hk.1)⟩, ⟨by (with_reducible repeat (first | apply Kd.R_alloc | apply Kd.R_drewN | apply Kd.R_drew)); exact Kd.R_mono HO_13.out (fun _ hk => hk.1)⟩, ⟨blkA BK592.out⟩, ⟨blkA BK593.out⟩, ⟨blkA BK609.out⟩, ⟨blkA BK610.out⟩, ⟨blkA BK622.out⟩, ⟨by repeat (first | (with_reducible first | exact HB.out | apply below_alloc | apply pw_below_drewN | apply below_drew1 | refine below_set ?_ GE592.out | refine below_set ?_ GE593.out | refine below_set ?_ GE609.out | refine below_set ?_ GE610.out | refine below_set ?_ GE622.out) | exact HB.out)⟩⟩
                ·rw [if_neg c66] at H
                 cases H
               ·rw [if_neg c65] at H
                cases H
              ·rw [if_neg c63] at H
               cases H
             ·rw [if_neg c62] at H
              have c62b0 := decide_eq_false c62
              clear c62
              by_cases c84 : 0 ≤ x18_3
              ·rw [if_pos c84] at H
               have c84b0 := decide_eq_true c84
               clear c84
               by_cases c85 : x18_3 < (t604.length : Int)
               ·rw [if_pos c85] at H
                have c85b0 := decide_eq_true c85
                clear c85
                by_cases c86 : (!(x623000_4 == ((rd_T44 t604 x18_3).f3.f0)) || (!(x623001_4 == ((rd_T44 t604 x18_3).f3.f1)) || ((!(x623002_4 == ((rd_T44 t604 x18_3).f3.f2.f0)) || (!(x623003_4 == ((rd_T44 t604 x18_3).f3.f2.f1)))) || (!(x623004_4 == ((rd_T44 t604 x18_3).f3.f3)) || (!(x623005_4 == ((rd_T44 t604 x18_3).f3.f4))))))) = true
                ·rw [if_pos c86] at H
                 cases H
                ·rw [if_neg c86] at H
                 have c86b0 : (!(x623000_4 == ((rd_T44 t604 x18_3).f3.f0)) || (!(x623001_4 == ((rd_T44 t604 x18_3).f3.f1)) || ((!(x623002_4 == ((rd_T44 t604 x18_3).f3.f2.f0)) || (!(x623003_4 == ((rd_T44 t604 x18_3).f3.f2.f1)))) || (!(x623004_4 == ((rd_T44 t604 x18_3).f3.f3)) || (!(x623005_4 == ((rd_T44 t604 x18_3).f3.f4))))))) = false := by simpa using c86
                 clear c86
                 by_cases c88 : x18_3 > 0
                 ·rw [if_pos c88] at H
                  have c88b0 := decide_eq_true c88
                  clear c88
                  obtain ⟨ji89, hji89⟩ : ∃ j_ : Int, (wrap64 (x18_3 - 1)) = j_ := ⟨_, rfl⟩
                  replace H : (if 0 ≤ (ji89) then (if (ji89) < (t604.length : Int) then ((rickyardref06_Order.f k4 ((rd_T44 t604 (ji89)).f0) ((rd_T44 t604 x18_3).f0)).bind fun t640 => (if t640 ≥ 0 then (none) else ((agg_Merge.f x611000_3 x611001_3 x611002_3 x611003_3 x611004_3 x611005_3 ((rd_T44 t604 x18_3).f3.f0) ((rd_T44 t604 x18_3).f3.f1) ((rd_T44 t604 x18_3).f3.f2.f0) ((rd_T44 t604 x18_3).f3.f2.f1) ((rd_T44 t604 x18_3).f3.f3) ((rd_T44 t604 x18_3).f3.f4)).bind fun bt642 => (rickyardlaw17_AskAll.l1 k4 t596 t604 (wrap64 (x18_3 + 1)) l3_0 a3_1 a3_2 a3_3 a3_4 x610000_1 x610001_1 x610002_1 x610003_1 x610004_1 x610005_1 bt642.1 bt642.2.1 bt642.2.2.1 bt642.2.2.2.1 bt642.2.2.2.2.1 bt642.2.2.2.2.2)))) else (none)) else (none)) = some r := by first | (rw [hji89] at H; exact H) | (simp only [hji89] at H ⊢; exact H)
                  have hji89w : (IntKind.i64.wrap (x18_3 - 1)) = ji89 := (i64_w _).trans hji89
                  by_cases c90 : 0 ≤ (ji89)
                  ·rw [if_pos c90] at H
                   have c90b0 := decide_eq_true c90
                   clear c90
                   by_cases c91 : (ji89) < (t604.length : Int)
                   ·rw [if_pos c91] at H
                    have c91b0 := decide_eq_true c91
                    clear c91
                    replace H := bnA H
                    obtain ⟨t640, A92, H⟩ := H
                    by_cases c93 : t640 ≥ 0
                    ·rw [if_pos c93] at H
                     cases H
                    ·rw [if_neg c93] at H
                     have c93b0 := decide_eq_false c93
                     clear c93
                     replace H := bnA H
                     obtain ⟨⟨t642, t643, t644, t645, t646, t647⟩, A95, H⟩ := H
                     replace H : (rickyardlaw17_AskAll.l1 k4 t596 t604 (wrap64 (x18_3 + 1)) l3_0 a3_1 a3_2 a3_3 a3_4 x610000_1 x610001_1 x610002_1 x610003_1 x610004_1 x610005_1 t642 t643 t644 t645 t646 t647) = some r := H
                     have H' := Aside0.mk H
                     clear H
                     try go_wp2
                     replace HO_9 := Aside0.mk (Kd.R_drew HO_9.out)
                     replace HO_13 := Aside0.mk (Kd.R_drew HO_13.out)
                     replace BK592 := Aside0.mk (blk_drew BK592.out)
                     replace BK593 := Aside0.mk (blk_drew BK593.out)
                     replace BK609 := Aside0.mk (blk_drew BK609.out)
                     replace BK610 := Aside0.mk (blk_drew BK610.out)
                     replace BK622 := Aside0.mk (blk_drew BK622.out)
                     replace HB := Aside0.mk (below_drew1 HB.out)
                     have p637 : 0 ≤ (x18_3 : Int) := of_decide_eq_true asmA
                     have q637 : x18_3 < (t604.length : Int) := of_decide_eq_true asmA
                     obtain ⟨ad637, A637_0, c637_0, e637, hx637_0, hx637_1, hx637_2, hx637_3, hx637_4, hx637_5, hx637_6, hx637_7, hx637_8, hl637_0, hi637_0⟩ := at_T44 (Kd.R_reads' HO_13.out).2.2 x18_3 p637 q637
                     cases e637
                     obtain ⟨ce637, hce637, hMe637, hcc637⟩ := Kd.R_get HO_13.out z44 x18_3 p637 (by first | exact q637 | exact of_decide_eq_true asmA | (have e_ := (Kd.R_reads' HO_13.out).1; omega))
                     obtain ⟨ve637_0, rfl, ge637_0⟩ := k44_openM hMe637
                     have hv637_0 := hcc637 0 _ rfl
                     rw [Nat.add_zero] at hv637_0
                     replace hv637_0 := Option.some.inj (hv637_0.symm.trans hx637_0)
                     rw [hv637_0] at ge637_0
                     have HL637_0 := Aside0.mk (show Kd.R Kd.string 9 _ _ _ _ ((rd_T44 t604 x18_3).f0) from ge637_0)
                     clear hv637_0 ge637_0
                     clear hcc637 hce637
                     have HR637_0 := Aside0.mk hi637_0
                     have HC637_0 := Aside0.mk hl637_0
                     clear hi637_0 hl637_0
                     replace p637 := eq_true p637
                     replace q637 := eq_true q637
                     have p638 : 0 ≤ ((ji89) : Int) := of_decide_eq_true asmA
                     have q638 : (ji89) < (t604.length : Int) := of_decide_eq_true asmA
                     obtain ⟨ad638, A638_0, c638_0, e638, hx638_0, hx638_1, hx638_2, hx638_3, hx638_4, hx638_5, hx638_6, hx638_7, hx638_8, hl638_0, hi638_0⟩ := at_T44 (Kd.R_reads' HO_13.out).2.2 (ji89) p638 q638
                     obtain rfl : ad637 = ad638 := (by injection e638)
                     obtain ⟨ce638, hce638, hMe638, hcc638⟩ := Kd.R_get HO_13.out z44 (ji89) p638 (by first | exact q638 | exact of_decide_eq_true asmA | (have e_ := (Kd.R_reads' HO_13.out).1; omega))
                     obtain ⟨ve638_0, rfl, ge638_0⟩ := k44_openM hMe638
                     have hv638_0 := hcc638 0 _ rfl
                     rw [Nat.add_zero] at hv638_0
                     replace hv638_0 := Option.some.inj (hv638_0.symm.trans hx638_0)
                     rw [hv638_0] at ge638_0
                     have HL638_0 := Aside0.mk (show Kd.R Kd.string 9 _ _ _ _ ((rd_T44 t604 (ji89)).f0) from ge638_0)
                     clear hv638_0 ge638_0
                     clear hcc638 hce638
                     have HR638_0 := Aside0.mk hi638_0
                     have HC638_0 := Aside0.mk hl638_0
                     clear hi638_0 hl638_0
                     replace p638 := eq_true p638
                     replace q638 := eq_true q638
                     have p639 : 0 ≤ (x18_3 : Int) := of_decide_eq_true asmA
                     have q639 : x18_3 < (t604.length : Int) := of_decide_eq_true asmA
                     obtain ⟨ad639, A639_0, c639_0, e639, hx639_0, hx639_1, hx639_2, hx639_3, hx639_4, hx639_5, hx639_6, hx639_7, hx639_8, hl639_0, hi639_0⟩ := at_T44 (Kd.R_reads' HO_13.out).2.2 x18_3 p639 q639
                     obtain rfl : ad637 = ad639 := (by injection e639)
                     obtain ⟨ce639, hce639, hMe639, hcc639⟩ := Kd.R_get HO_13.out z44 x18_3 p639 (by first | exact q639 | exact of_decide_eq_true asmA | (have e_ := (Kd.R_reads' HO_13.out).1; omega))
                     obtain ⟨ve639_0, rfl, ge639_0⟩ := k44_openM hMe639
                     have hv639_0 := hcc639 0 _ rfl
                     rw [Nat.add_zero] at hv639_0
                     replace hv639_0 := Option.some.inj (hv639_0.symm.trans hx639_0)
                     rw [hv639_0] at ge639_0
                     have HL639_0 := Aside0.mk (show Kd.R Kd.string 9 _ _ _ _ ((rd_T44 t604 x18_3).f0) from ge639_0)
                     clear hv639_0 ge639_0
                     clear hcc639 hce639
                     have HR639_0 := Aside0.mk hi639_0
                     have HC639_0 := Aside0.mk hl639_0
                     clear hi639_0 hl639_0
                     replace p639 := eq_true p639
                     replace q639 := eq_true q639
                     have ea_ := Option.some.inj (hx637_0.symm.trans hx639_0)
                     injection ea_ with ea_ en_ ec_
                     subst ea_
                     subst ec_
                     clear en_
                     refine start_ (n := 26) (S := fun w' => w'.cell? ⟨gb622, 0, none⟩ = some (.int .u64 x623000_4) ∧ w'.cell? ⟨gb622, 1, none⟩ = some (.bool x623001_4) ∧ w'.cell? ⟨gb622, 2, none⟩ = some (.int .i64 x623002_4) ∧ w'.cell? ⟨gb622, 3, none⟩ = some (.int .u64 x623003_4) ∧ w'.cell? ⟨gb622, 4, none⟩ = some (.int .i64 x623004_4) ∧ w'.cell? ⟨gb622, 5, none⟩ = some (.int .i64 x623005_4) ∧ w'.cell? (ad637.add ((x18_3).toNat * 9)) = some (.slice A637_0 ((rd_T44 t604 x18_3).f0).length c637_0) ∧ w'.cell? ⟨(ad637.add ((x18_3).toNat * 9)).block, (ad637.add ((x18_3).toNat * 9)).off + 1, none⟩ = some (.int .i64 ((rd_T44 t604 x18_3).f1)) ∧ w'.cell? ⟨(ad637.add ((x18_3).toNat * 9)).block, (ad637.add ((x18_3).toNat * 9)).off + 2, none⟩ = some (.int .i64 ((rd_T44 t604 x18_3).f2)) ∧ w'.cell? ⟨(ad637.add ((x18_3).toNat * 9)).block, (ad637.add ((x18_3).toNat * 9)).off + 3, none⟩ = some (.int .u64 ((rd_T44 t604 x18_3).f3.f0)) ∧ w'.cell? ⟨(ad637.add ((x18_3).toNat * 9)).block, (ad637.add ((x18_3).toNat * 9)).off + 4, none⟩ = some (.bool ((rd_T44 t604 x18_3).f3.f1)) ∧ w'.cell? ⟨(ad637.add ((x18_3).toNat * 9)).block, (ad637.add ((x18_3).toNat * 9)).off + 5, none⟩ = some (.int .i64 ((rd_T44 t604 x18_3).f3.f2.f0)) ∧ w'.cell? ⟨(ad637.add ((x18_3).toNat * 9)).block, (ad637.add ((x18_3).toNat * 9)).off + 6, none⟩ = some (.int .u64 ((rd_T44 t604 x18_3).f3.f2.f1)) ∧ w'.cell? ⟨(ad637.add ((x18_3).toNat * 9)).block, (ad637.add ((x18_3).toNat * 9)).off + 7, none⟩ = some (.int .i64 ((rd_T44 t604 x18_3).f3.f3)) ∧ w'.cell? ⟨(ad637.add ((x18_3).toNat * 9)).block, (ad637.add ((x18_3).toNat * 9)).off + 8, none⟩ = some (.int .i64 ((rd_T44 t604 x18_3).f3.f4)) ∧ w'.cell? (ad637.add (((ji89)).toNat * 9)) = some (.slice A638_0 ((rd_T44 t604 (ji89)).f0).length c638_0) ∧ w'.cell? ⟨(ad637.add (((ji89)).toNat * 9)).block, (ad637.add (((ji89)).toNat * 9)).off + 1, none⟩ = some (.int .i64 ((rd_T44 t604 (ji89)).f1)) ∧ w'.cell? ⟨(ad637.add (((ji89)).toNat * 9)).block, (ad637.add (((ji89)).toNat * 9)).off + 2, none⟩ = some (.int .i64 ((rd_T44 t604 (ji89)).f2)) ∧ w'.cell? ⟨(ad637.add (((ji89)).toNat * 9)).block, (ad637.add (((ji89)).toNat * 9)).off + 3, none⟩ = some (.int .u64 ((rd_T44 t604 (ji89)).f3.f0)) ∧ w'.cell? ⟨(ad637.add (((ji89)).toNat * 9)).block, (ad637.add (((ji89)).toNat * 9)).off + 4, none⟩ = some (.bool ((rd_T44 t604 (ji89)).f3.f1)) ∧ w'.cell? ⟨(ad637.add (((ji89)).toNat * 9)).block, (ad637.add (((ji89)).toNat * 9)).off + 5, none⟩ = some (.int .i64 ((rd_T44 t604 (ji89)).f3.f2.f0)) ∧ w'.cell? ⟨(ad637.add (((ji89)).toNat * 9)).block, (ad637.add (((ji89)).toNat * 9)).off + 6, none⟩ = some (.int .u64 ((rd_T44 t604 (ji89)).f3.f2.f1)) ∧ w'.cell? ⟨(ad637.add (((ji89)).toNat * 9)).block, (ad637.add (((ji89)).toNat * 9)).off + 7, none⟩ = some (.int .i64 ((rd_T44 t604 (ji89)).f3.f3)) ∧ w'.cell? ⟨(ad637.add (((ji89)).toNat * 9)).block, (ad637.add (((ji89)).toNat * 9)).off + 8, none⟩ = some (.int .i64 ((rd_T44 t604 (ji89)).f3.f4)) ∧ w'.cell? (ad637.add ((x18_3).toNat * 9)) = some (.slice A637_0 ((rd_T44 t604 x18_3).f0).length c637_0) ∧ w'.cell? ⟨(ad637.add ((x18_3).toNat * 9)).block, (ad637.add ((x18_3).toNat * 9)).off + 1, none⟩ = some (.int .i64 ((rd_T44 t604 x18_3).f1)) ∧ w'.cell? ⟨(ad637.add ((x18_3).toNat * 9)).block, (ad637.add ((x18_3).toNat * 9)).off + 2, none⟩ = some (.int .i64 ((rd_T44 t604 x18_3).f2)) ∧ w'.cell? ⟨(ad637.add ((x18_3).toNat * 9)).block, (ad637.add ((x18_3).toNat * 9)).off + 3, none⟩ = some (.int .u64 ((rd_T44 t604 x18_3).f3.f0)) ∧ w'.cell? ⟨(ad637.add ((x18_3).toNat * 9)).block, (ad637.add ((x18_3).toNat * 9)).off + 4, none⟩ = some (.bool ((rd_T44 t604 x18_3).f3.f1)) ∧ w'.cell? ⟨(ad637.add ((x18_3).toNat * 9)).block, (ad637.add ((x18_3).toNat * 9)).off + 5, none⟩ = some (.int .i64 ((rd_T44 t604 x18_3).f3.f2.f0)) ∧ w'.cell? ⟨(ad637.add ((x18_3).toNat * 9)).block, (ad637.add ((x18_3).toNat * 9)).off + 6, none⟩ = some (.int .u64 ((rd_T44 t604 x18_3).f3.f2.f1)) ∧ w'.cell? ⟨(ad637.add ((x18_3).toNat * 9)).block, (ad637.add ((x18_3).toNat * 9)).off + 7, none⟩ = some (.int .i64 ((rd_T44 t604 x18_3).f3.f3)) ∧ w'.cell? ⟨(ad637.add ((x18_3).toNat * 9)).block, (ad637.add ((x18_3).toNat * 9)).off + 8, none⟩ = some (.int .i64 ((rd_T44 t604 x18_3).f3.f4))) (ds := []) #[false, false, false, false, false, false, false, false, false, false, false, false, false, false, false, false, false, false, false, false, false, false, false, false, false, false] (by kernel_rfl) rfl rfl ⟨(blk_cell BK622.out 0).trans rfl, (blk_cell BK622.out 1).trans rfl, (blk_cell BK622.out 2).trans rfl, (blk_cell BK622.out 3).trans rfl, (blk_cell BK622.out 4).trans rfl, (blk_cell BK622.out 5).trans rfl, hx637_0, hx637_1, hx637_2, hx637_3, hx637_4, hx637_5, hx637_6, hx637_7, hx637_8, hx638_0, hx638_1, hx638_2, hx638_3, hx638_4, hx638_5, hx638_6, hx638_7, hx638_8, hx639_0, hx639_1, hx639_2, hx639_3, hx639_4, hx639_5, hx639_6, hx639_7, hx639_8⟩ (fun hHeld => ?_); refine with_tabW rickyardlaw17_AskAll.tab27 rickyardlaw17_AskAll.bits27 (fun HT_ HW_ => ?_)
                     generalize wr.drew = w96 at HO_9 HO_13 BK592 BK593 BK609 BK610 BK622 HB HL637_0 HL638_0 HL639_0 HR637_0 HR638_0 HR639_0 hx637_0 hx637_1 hx637_2 hx637_3 hx637_4 hx637_5 hx637_6 hx637_7 hx637_8 hx638_0 hx638_1 hx638_2 hx638_3 hx638_4 hx638_5 hx638_6 hx638_7 hx638_8 hx639_0 hx639_1 hx639_2 hx639_3 hx639_4 hx639_5 hx639_6 hx639_7 hx639_8 hHeld ⊢
                     refine pureD 1 171 HT_ ?_
                     refine pureD 2 172 HT_ ?_
                     refine pureD 3 173 HT_ ?_
                     refine pureD 4 174 HT_ ?_
                     refine takeD 0 170 HT_ HW_ hHeld ?_
                     refine takeD 5 175 HT_ HW_ hHeld ?_
                     refine pureD 6 176 HT_ ?_
                     refine pureD 7 177 HT_ ?_
                     refine pureD 8 178 HT_ ?_
                     refine pureD 9 179 HT_ ?_
                     refine pureD 10 180 HT_ ?_
                     refine pureD 11 181 HT_ ?_
                     refine pureD 12 182 HT_ ?_
                     refine pureD 13 183 HT_ ?_
                     refine pureD 14 184 HT_ ?_
                     refine pureD 15 185 HT_ ?_
                     refine pureD 17 187 HT_ ?_
                     refine pureD 18 188 HT_ ?_
                     refine pureD 19 189 HT_ ?_
                     refine pureD 20 190 HT_ ?_
                     refine takeD 16 186 HT_ HW_ hHeld ?_
                     refine takeD 21 191 HT_ HW_ hHeld ?_
                     refine one_ (i := 22) (N := some 192) #[true, true, true, true, true, true, true, true, true, true, true, true, true, true, true, true, true, true, true, true, true, true, true, false, false, false] rfl rfl (one_of HT_.out (by kernel_rfl)) (by decide) (fun K hK => ?_)
                     refine goes_ Try.func16 (by kernel_rfl) rfl #[.slice A638_0 ((rd_T44 t604 (ji89)).f0).length c638_0, .slice A637_0 ((rd_T44 t604 x18_3).f0).length c637_0] (by rfl) rfl rfl (by (try simp only [List.map_toArray, List.map_cons, List.map_nil]); first | done | (simp only [hji89]; rfl) | rfl | (simp only [List.length_drop, List.length_take]; rfl)) ?_
                     with_reducible refine (rickyardref06_Order.calls k4 _ _ ((rd_T44 t604 (ji89)).f0) _ _ ((rd_T44 t604 x18_3).f0) t640 _ ?side1 ?side2 ?side3 ?side4 A92.out).mono ?_
                     (case side1 => exact cc1 (celA HR638_0.out))
                     (case side2 => exact HC638_0.out)
                     (case side3 => exact cc1 (celA HR639_0.out))
                     (case side4 => exact HC639_0.out)
                     rintro e w' ⟨rfl, ⟨nd, rfl⟩⟩
                     refine ⟨_, rfl, ?_⟩
                     refine hK.out _ _ ⟨(blk_cell BK622.out 0).trans rfl, (blk_cell BK622.out 1).trans rfl, (blk_cell BK622.out 2).trans rfl, (blk_cell BK622.out 3).trans rfl, (blk_cell BK622.out 4).trans rfl, (blk_cell BK622.out 5).trans rfl, hHeld.2.2.2.2.2.2.1, hHeld.2.2.2.2.2.2.2.1, hHeld.2.2.2.2.2.2.2.2.1, hHeld.2.2.2.2.2.2.2.2.2.1, hHeld.2.2.2.2.2.2.2.2.2.2.1, hHeld.2.2.2.2.2.2.2.2.2.2.2.1, hHeld.2.2.2.2.2.2.2.2.2.2.2.2.1, hHeld.2.2.2.2.2.2.2.2.2.2.2.2.2.1, hHeld.2.2.2.2.2.2.2.2.2.2.2.2.2.2.1, hHeld.2.2.2.2.2.2.2.2.2.2.2.2.2.2.2.1, hHeld.2.2.2.2.2.2.2.2.2.2.2.2.2.2.2.2.1, hHeld.2.2.2.2.2.2.2.2.2.2.2.2.2.2.2.2.2.1, hHeld.2.2.2.2.2.2.2.2.2.2.2.2.2.2.2.2.2.2.1, hHeld.2.2.2.2.2.2.2.2.2.2.2.2.2.2.2.2.2.2.2.1, hHeld.2.2.2.2.2.2.2.2.2.2.2.2.2.2.2.2.2.2.2.2.1, hHeld.2.2.2.2.2.2.2.2.2.2.2.2.2.2.2.2.2.2.2.2.2.1, hHeld.2.2.2.2.2.2.2.2.2.2.2.2.2.2.2.2.2.2.2.2.2.2.1, hHeld.2.2.2.2.2.2.2.2.2.2.2.2.2.2.2.2.2.2.2.2.2.2.2.1, hHeld.2.2.2.2.2.2.2.2.2.2.2.2.2.2.2.2.2.2.2.2.2.2.2.2.1, hHeld.2.2.2.2.2.2.2.2.2.2.2.2.2.2.2.2.2.2.2.2.2.2.2.2.2.1, hHeld.2.2.2.2.2.2.2.2.2.2.2.2.2.2.2.2.2.2.2.2.2.2.2.2.2.2.1, hHeld.2.2.2.2.2.2.2.2.2.2.2.2.2.2.2.2.2.2.2.2.2.2.2.2.2.2.2.1, hHeld.2.2.2.2.2.2.2.2.2.2.2.2.2.2.2.2.2.2.2.2.2.2.2.2.2.2.2.2.1, hHeld.2.2.2.2.2.2.2.2.2.2.2.2.2.2.2.2.2.2.2.2.2.2.2.2.2.2.2.2.2.1, hHeld.2.2.2.2.2.2.2.2.2.2.2.2.2.2.2.2.2.2.2.2.2.2.2.2.2.2.2.2.2.2.1, hHeld.2.2.2.2.2.2.2.2.2.2.2.2.2.2.2.2.2.2.2.2.2.2.2.2.2.2.2.2.2.2.2.1, hHeld.2.2.2.2.2.2.2.2.2.2.2.2.2.2.2.2.2.2.2.2.2.2.2.2.2.2.2.2.2.2.2.2⟩ (fun hHeld => ?_)
                     clear hK K
                     refine norm_ (a' := ?_) ?_ ?_
                     rotate_left
                     ·show Act.put _ (some 192) _ = _
                      simp only [Act.put, List.setIfInBounds_toArray, List.set_cons_zero, List.set_cons_succ, i64_w, i32_w]
                      rfl
                     refine pureD 23 193 HT_ ?_
                     refine pureD 24 194 HT_ ?_
                     refine pureD 25 195 HT_ ?_
                     refine done_ (done_of HT_.out (by kernel_rfl)) ?_
                     try go_wp2
                     (try (rw [drewN_self w96]; generalize hq_ : World.drewN w96 _ = w96; have n0_ : Aside0 (Kd.R Kd.string 9 w96 w.heap.size (fun k_ => some k_ ≠ (.slice (some ad637) t604.length co60 : Value).ownBlock ∧ some k_ ≠ (.slice Ao42 t596.length co42 : Value).ownBlock) (.slice A637_0 ((rd_T44 t604 x18_3).f0).length c637_0) ((rd_T44 t604 x18_3).f0)) := ⟨by rw [← hq_]; exact (by (with_reducible repeat (first | apply Kd.R_alloc | apply Kd.R_drewN | apply Kd.R_drew)); exact Kd.R_mono HL637_0.out (fun _ hk => ⟨hk.2, hk.1⟩))⟩; have n1_ : Aside0 (Kd.R Kd.string 9 w96 w.heap.size (fun k_ => some k_ ≠ (.slice (some ad637) t604.length co60 : Value).ownBlock ∧ some k_ ≠ (.slice Ao42 t596.length co42 : Value).ownBlock) (.slice A638_0 ((rd_T44 t604 (ji89)).f0).length c638_0) ((rd_T44 t604 (ji89)).f0)) := ⟨by rw [← hq_]; exact (by (with_reducible repeat (first | apply Kd.R_alloc | apply Kd.R_drewN | apply Kd.R_drew)); exact Kd.R_mono HL638_0.out (fun _ hk => ⟨hk.2, hk.1⟩))⟩; have n2_ : Aside0 (Kd.R Kd.string 9 w96 w.heap.size (fun k_ => some k_ ≠ (.slice (some ad637) t604.length co60 : Value).ownBlock ∧ some k_ ≠ (.slice Ao42 t596.length co42 : Value).ownBlock) (.slice A637_0 ((rd_T44 t604 x18_3).f0).length c637_0) ((rd_T44 t604 x18_3).f0)) := ⟨by rw [← hq_]; exact (by (with_reducible repeat (first | apply Kd.R_alloc | apply Kd.R_drewN | apply Kd.R_drew)); exact Kd.R_mono HL639_0.out (fun _ hk => ⟨hk.2, hk.1⟩))⟩; have n3_ : Aside0 (Kd.R k44 44 w96 w.heap.size (fun k_ => some k_ ≠ (.slice Ao42 t596.length co42 : Value).ownBlock) (.slice (some ad637) t604.length co60) t604) := ⟨by rw [← hq_]; exact (rowA HO_13.out)⟩; have n4_ : Aside0 (Kd.R k44 44 w96 w.heap.size (fun k_ => some k_ ≠ (.slice (some ad637) t604.length co60 : Value).ownBlock) (.slice Ao42 t596.length co42) t596) := ⟨by rw [← hq_]; exact (rowA HO_9.out)⟩; have n5_ : Aside0 (w96.heap[gb592]? = some (.cells #[.slice A0_0 l0_0.length c0_0, .int .i64 a0_1] 24 (0, 0))) := ⟨by rw [← hq_]; exact (blkA BK592.out)⟩; have n6_ : Aside0 (w96.heap[gb593]? = some (.cells #[.slice A3_0 l3_0.length c3_0, .int .i64 a3_1, .int .i64 a3_2, .int .i64 a3_3, .int .i64 a3_4] 28 (0, 0))) := ⟨by rw [← hq_]; exact (blkA BK593.out)⟩; have n7_ : Aside0 (w96.heap[gb609]? = some (.cells #[.int .u64 x610000_1, .bool x610001_1, .int .i64 x610002_1, .int .u64 x610003_1, .int .i64 x610004_1, .int .i64 x610005_1] 42 (0, 0))) := ⟨by rw [← hq_]; exact (blkA BK609.out)⟩; have n8_ : Aside0 (w96.heap[gb610]? = some (.cells #[.int .u64 x611000_3, .bool x611001_3, .int .i64 x611002_3, .int .u64 x611003_3, .int .i64 x611004_3, .int .i64 x611005_3] 42 (0, 0))) := ⟨by rw [← hq_]; exact (blkA BK610.out)⟩; have n9_ : Aside0 (w96.heap[gb622]? = some (.cells #[.int .u64 x623000_4, .bool x623001_4, .int .i64 x623002_4, .int .u64 x623003_4, .int .i64 x623004_4, .int .i64 x623005_4] 42 (0, 0))) := ⟨by rw [← hq_]; exact (blkA BK622.out)⟩; have n10_ : Aside0 (Below w.heap.size w w96) := ⟨by rw [← hq_]; exact (by repeat (first | (with_reducible first | exact HB.out | apply below_alloc | apply pw_below_drewN | apply below_drew1 | refine below_set ?_ GE592.out | refine below_set ?_ GE593.out | refine below_set ?_ GE609.out | refine below_set ?_ GE610.out | refine below_set ?_ GE622.out) | exact HB.out))⟩; have n11_ : Aside0 (Kd.C Kd.string w96 A637_0 ((rd_T44 t604 x18_3).f0).length ((rd_T44 t604 x18_3).f0)) := ⟨by rw [← hq_]; exact (celA HR637_0.out)⟩; have n12_ : Aside0 (Kd.C Kd.string w96 A638_0 ((rd_T44 t604 (ji89)).f0).length ((rd_T44 t604 (ji89)).f0)) := ⟨by rw [← hq_]; exact (celA HR638_0.out)⟩; have n13_ : Aside0 (Kd.C Kd.string w96 A637_0 ((rd_T44 t604 x18_3).f0).length ((rd_T44 t604 x18_3).f0)) := ⟨by rw [← hq_]; exact (celA HR639_0.out)⟩; clear HL637_0 HL638_0 HL639_0 HO_13 HO_9 BK592 BK593 BK609 BK610 BK622 HB HR637_0 HR638_0 HR639_0 hq_; have HL637_0 := n0_; have HL638_0 := n1_; have HL639_0 := n2_; have HO_13 := n3_; have HO_9 := n4_; have BK592 := n5_; have BK593 := n6_; have BK609 := n7_; have BK610 := n8_; have BK622 := n9_; have HB := n10_; have HR637_0 := n11_; have HR638_0 := n12_; have HR639_0 := n13_; clear n0_ n1_ n2_ n3_ n4_ n5_ n6_ n7_ n8_ n9_ n10_ n11_ n12_ n13_))
                     replace HO_9 := Aside0.mk (Kd.R_drew HO_9.out)
                     replace HO_13 := Aside0.mk (Kd.R_drew HO_13.out)
                     replace HL637_0 := Aside0.mk (Kd.R_drew HL637_0.out)
                     replace HL638_0 := Aside0.mk (Kd.R_drew HL638_0.out)
                     replace HL639_0 := Aside0.mk (Kd.R_drew HL639_0.out)
                     replace BK592 := Aside0.mk (blk_drew BK592.out)
                     replace BK593 := Aside0.mk (blk_drew BK593.out)
                     replace BK609 := Aside0.mk (blk_drew BK609.out)
                     replace BK610 := Aside0.mk (blk_drew BK610.out)
                     replace BK622 := Aside0.mk (blk_drew BK622.out)
                     replace HR637_0 := Aside0.mk (Kd.C_drew HR637_0.out)
                     replace HR638_0 := Aside0.mk (Kd.C_drew HR638_0.out)
                     replace HR639_0 := Aside0.mk (Kd.C_drew HR639_0.out)
                     replace HB := Aside0.mk (below_drew1 HB.out)
                     have p641 : 0 ≤ (x18_3 : Int) := of_decide_eq_true asmA
                     have q641 : x18_3 < (t604.length : Int) := of_decide_eq_true asmA
                     obtain ⟨ad641, A641_0, c641_0, e641, hx641_0, hx641_1, hx641_2, hx641_3, hx641_4, hx641_5, hx641_6, hx641_7, hx641_8, hl641_0, hi641_0⟩ := at_T44 (Kd.R_reads' HO_13.out).2.2 x18_3 p641 q641
                     obtain rfl : ad637 = ad641 := (by injection e641)
                     obtain ⟨ce641, hce641, hMe641, hcc641⟩ := Kd.R_get HO_13.out z44 x18_3 p641 (by first | exact q641 | exact of_decide_eq_true asmA | (have e_ := (Kd.R_reads' HO_13.out).1; omega))
                     obtain ⟨ve641_0, rfl, ge641_0⟩ := k44_openM hMe641
                     have hv641_0 := hcc641 0 _ rfl
                     rw [Nat.add_zero] at hv641_0
                     replace hv641_0 := Option.some.inj (hv641_0.symm.trans hx641_0)
                     rw [hv641_0] at ge641_0
                     have HL641_0 := Aside0.mk (show Kd.R Kd.string 9 _ _ _ _ ((rd_T44 t604 x18_3).f0) from ge641_0)
                     clear hv641_0 ge641_0
                     clear hcc641 hce641
                     have HR641_0 := Aside0.mk hi641_0
                     have HC641_0 := Aside0.mk hl641_0
                     clear hi641_0 hl641_0
                     replace p641 := eq_true p641
                     replace q641 := eq_true q641
                     refine start_ (n := 8) (S := fun w' => w'.cell? ⟨gb610, 0, none⟩ = some (.int .u64 x611000_3) ∧ w'.cell? ⟨gb610, 1, none⟩ = some (.bool x611001_3) ∧ w'.cell? ⟨gb610, 2, none⟩ = some (.int .i64 x611002_3) ∧ w'.cell? ⟨gb610, 3, none⟩ = some (.int .u64 x611003_3) ∧ w'.cell? ⟨gb610, 4, none⟩ = some (.int .i64 x611004_3) ∧ w'.cell? ⟨gb610, 5, none⟩ = some (.int .i64 x611005_3) ∧ w'.cell? (ad637.add ((x18_3).toNat * 9)) = some (.slice A641_0 ((rd_T44 t604 x18_3).f0).length c641_0) ∧ w'.cell? ⟨(ad637.add ((x18_3).toNat * 9)).block, (ad637.add ((x18_3).toNat * 9)).off + 1, none⟩ = some (.int .i64 ((rd_T44 t604 x18_3).f1)) ∧ w'.cell? ⟨(ad637.add ((x18_3).toNat * 9)).block, (ad637.add ((x18_3).toNat * 9)).off + 2, none⟩ = some (.int .i64 ((rd_T44 t604 x18_3).f2)) ∧ w'.cell? ⟨(ad637.add ((x18_3).toNat * 9)).block, (ad637.add ((x18_3).toNat * 9)).off + 3, none⟩ = some (.int .u64 ((rd_T44 t604 x18_3).f3.f0)) ∧ w'.cell? ⟨(ad637.add ((x18_3).toNat * 9)).block, (ad637.add ((x18_3).toNat * 9)).off + 4, none⟩ = some (.bool ((rd_T44 t604 x18_3).f3.f1)) ∧ w'.cell? ⟨(ad637.add ((x18_3).toNat * 9)).block, (ad637.add ((x18_3).toNat * 9)).off + 5, none⟩ = some (.int .i64 ((rd_T44 t604 x18_3).f3.f2.f0)) ∧ w'.cell? ⟨(ad637.add ((x18_3).toNat * 9)).block, (ad637.add ((x18_3).toNat * 9)).off + 6, none⟩ = some (.int .u64 ((rd_T44 t604 x18_3).f3.f2.f1)) ∧ w'.cell? ⟨(ad637.add ((x18_3).toNat * 9)).block, (ad637.add ((x18_3).toNat * 9)).off + 7, none⟩ = some (.int .i64 ((rd_T44 t604 x18_3).f3.f3)) ∧ w'.cell? ⟨(ad637.add ((x18_3).toNat * 9)).block, (ad637.add ((x18_3).toNat * 9)).off + 8, none⟩ = some (.int .i64 ((rd_T44 t604 x18_3).f3.f4))) (ds := [7]) #[false, false, false, false, false, false, false, false] (by kernel_rfl) rfl rfl ⟨(blk_cell BK610.out 0).trans rfl, (blk_cell BK610.out 1).trans rfl, (blk_cell BK610.out 2).trans rfl, (blk_cell BK610.out 3).trans rfl, (blk_cell BK610.out 4).trans rfl, (blk_cell BK610.out 5).trans rfl, hx641_0, hx641_1, hx641_2, hx641_3, hx641_4, hx641_5, hx641_6, hx641_7, hx641_8⟩ (fun hHeld => ?_); refine with_tabW rickyardlaw17_AskAll.tab29 rickyardlaw17_AskAll.bits29 (fun HT_ HW_ => ?_)
                     generalize w96.drew = w97 at HO_9 HO_13 HL637_0 HL638_0 HL639_0 BK592 BK593 BK609 BK610 BK622 HR637_0 HR638_0 HR639_0 HB HL641_0 HR641_0 hx641_0 hx641_1 hx641_2 hx641_3 hx641_4 hx641_5 hx641_6 hx641_7 hx641_8 hHeld ⊢
                     refine pureD 1 197 HT_ ?_
                     refine pureD 2 198 HT_ ?_
                     refine pureD 3 199 HT_ ?_
                     refine pureD 4 200 HT_ ?_
                     refine takeD 0 196 HT_ HW_ hHeld ?_
                     refine takeD 5 201 HT_ HW_ hHeld ?_
                     refine one_ (i := 6) (N := some 202) #[true, true, true, true, true, true, true, false] rfl rfl (one_of HT_.out (by kernel_rfl)) (by decide) (fun K hK => ?_)
                     refine goes_ Try.func14 (by kernel_rfl) rfl #[.agg #[.int .u64 x611000_3, .bool x611001_3, .int .i64 x611002_3, .int .u64 x611003_3, .int .i64 x611004_3, .int .i64 x611005_3], .agg #[.int .u64 ((rd_T44 t604 x18_3).f3.f0), .bool ((rd_T44 t604 x18_3).f3.f1), .int .i64 ((rd_T44 t604 x18_3).f3.f2.f0), .int .u64 ((rd_T44 t604 x18_3).f3.f2.f1), .int .i64 ((rd_T44 t604 x18_3).f3.f3), .int .i64 ((rd_T44 t604 x18_3).f3.f4)]] (by rfl) rfl rfl argA ?_
                     with_reducible refine (agg_Merge.calls x611000_3 x611001_3 x611002_3 x611003_3 x611004_3 x611005_3 ((rd_T44 t604 x18_3).f3.f0) ((rd_T44 t604 x18_3).f3.f1) ((rd_T44 t604 x18_3).f3.f2.f0) ((rd_T44 t604 x18_3).f3.f2.f1) ((rd_T44 t604 x18_3).f3.f3) ((rd_T44 t604 x18_3).f3.f4) t642 t643 t644 t645 t646 t647 _ A95.out).mono ?_
                     rintro e w98 ⟨rfl, hb⟩
                     have HS6_ := (hb.cell (World.block_lt_of_cell? _ _ (hHeld.2.2.2.2.2.2.1))).trans (hHeld.2.2.2.2.2.2.1)
                     have HS7_ := (hb.cell (World.block_lt_of_cell? _ _ (hHeld.2.2.2.2.2.2.2.1))).trans (hHeld.2.2.2.2.2.2.2.1)
                     have HS8_ := (hb.cell (World.block_lt_of_cell? _ _ (hHeld.2.2.2.2.2.2.2.2.1))).trans (hHeld.2.2.2.2.2.2.2.2.1)
                     have HS9_ := (hb.cell (World.block_lt_of_cell? _ _ (hHeld.2.2.2.2.2.2.2.2.2.1))).trans (hHeld.2.2.2.2.2.2.2.2.2.1)
                     have HS10_ := (hb.cell (World.block_lt_of_cell? _ _ (hHeld.2.2.2.2.2.2.2.2.2.2.1))).trans (hHeld.2.2.2.2.2.2.2.2.2.2.1)
                     have HS11_ := (hb.cell (World.block_lt_of_cell? _ _ (hHeld.2.2.2.2.2.2.2.2.2.2.2.1))).trans (hHeld.2.2.2.2.2.2.2.2.2.2.2.1)
                     have HS12_ := (hb.cell (World.block_lt_of_cell? _ _ (hHeld.2.2.2.2.2.2.2.2.2.2.2.2.1))).trans (hHeld.2.2.2.2.2.2.2.2.2.2.2.2.1)
                     have HS13_ := (hb.cell (World.block_lt_of_cell? _ _ (hHeld.2.2.2.2.2.2.2.2.2.2.2.2.2.1))).trans (hHeld.2.2.2.2.2.2.2.2.2.2.2.2.2.1)
                     have HS14_ := (hb.cell (World.block_lt_of_cell? _ _ (hHeld.2.2.2.2.2.2.2.2.2.2.2.2.2.2))).trans (hHeld.2.2.2.2.2.2.2.2.2.2.2.2.2.2)
                     refine ⟨_, rfl, ?_⟩
                     replace HO_9 := Aside0.mk (Kd.R_below (rowA HO_9.out) hb)
                     replace HO_13 := Aside0.mk (Kd.R_below (rowA HO_13.out) hb)
                     replace HL637_0 := Aside0.mk (Kd.R_below (rowA HL637_0.out) hb)
                     replace HL638_0 := Aside0.mk (Kd.R_below (rowA HL638_0.out) hb)
                     replace HL639_0 := Aside0.mk (Kd.R_below (rowA HL639_0.out) hb)
                     replace HL641_0 := Aside0.mk (Kd.R_below (rowA HL641_0.out) hb)
                     replace BK592 := blkB BK592 hb
                     replace BK593 := blkB BK593 hb
                     replace BK609 := blkB BK609 hb
                     replace BK610 := blkB BK610 hb
                     replace BK622 := blkB BK622 hb
                     replace HR637_0 := Aside0.mk (Kd.C_below (celA HR637_0.out) hb)
                     replace HR638_0 := Aside0.mk (Kd.C_below (celA HR638_0.out) hb)
                     replace HR639_0 := Aside0.mk (Kd.C_below (celA HR639_0.out) hb)
                     replace HR641_0 := Aside0.mk (Kd.C_below (celA HR641_0.out) hb)
                     replace HB := Aside0.mk (below_step (by repeat (first | (with_reducible first | exact HB.out | apply below_alloc | apply pw_below_drewN | apply below_drew1 | refine below_set ?_ GE592.out | refine below_set ?_ GE593.out | refine below_set ?_ GE609.out | refine below_set ?_ GE610.out | refine below_set ?_ GE622.out) | exact HB.out)) hb)
                     (try clear hb)
                     refine hK.out _ _ ⟨(blk_cell BK610.out 0).trans rfl, (blk_cell BK610.out 1).trans rfl, (blk_cell BK610.out 2).trans rfl, (blk_cell BK610.out 3).trans rfl, (blk_cell BK610.out 4).trans rfl, (blk_cell BK610.out 5).trans rfl, HS6_, HS7_, HS8_, HS9_, HS10_, HS11_, HS12_, HS13_, HS14_⟩ (fun hHeld => ?_)
                     clear hK K
                     refine norm_ (a' := ?_) ?_ ?_
                     rotate_left
                     ·show Act.put _ (some 202) _ = _
                      simp only [Act.put, List.setIfInBounds_toArray, List.set_cons_zero, List.set_cons_succ, i64_w, i32_w]
                      rfl
                     refine last_ (i := 7) (N := none) #[true, true, true, true, true, true, true, true] rfl rfl (one_of HT_.out (by kernel_rfl)) (by decide) (fun K hK => ?_)
                     have hs99 : w98.cell? ⟨gb610, 0, none⟩ = some (.int .u64 x611000_3) := (blk_cell BK610.out 0).trans rfl
                     have hfs99 := blk_frozen BK610.out 0
                     have hns99_0 := NB592_610.out
                     have hns99_1 := NB593_610.out
                     have hns99_2 := NB609_610.out
                     have hns99_4 := NB622_610.out
                     have hms99_0 := NB610_592.out
                     have hms99_1 := NB610_593.out
                     have hms99_2 := NB610_609.out
                     have hms99_4 := NB610_622.out
                     have hs100 : w98.cell? ⟨gb610, 1, none⟩ = some (.bool x611001_3) := (blk_cell BK610.out 1).trans rfl
                     have hfs100 := blk_frozen BK610.out 1
                     have hns100_0 := NB592_610.out
                     have hns100_1 := NB593_610.out
                     have hns100_2 := NB609_610.out
                     have hns100_4 := NB622_610.out
                     have hms100_0 := NB610_592.out
                     have hms100_1 := NB610_593.out
                     have hms100_2 := NB610_609.out
                     have hms100_4 := NB610_622.out
                     have hs101 : w98.cell? ⟨gb610, 2, none⟩ = some (.int .i64 x611002_3) := (blk_cell BK610.out 2).trans rfl
                     have hfs101 := blk_frozen BK610.out 2
                     have hns101_0 := NB592_610.out
                     have hns101_1 := NB593_610.out
                     have hns101_2 := NB609_610.out
                     have hns101_4 := NB622_610.out
                     have hms101_0 := NB610_592.out
                     have hms101_1 := NB610_593.out
                     have hms101_2 := NB610_609.out
                     have hms101_4 := NB610_622.out
                     have hs102 : w98.cell? ⟨gb610, 3, none⟩ = some (.int .u64 x611003_3) := (blk_cell BK610.out 3).trans rfl
                     have hfs102 := blk_frozen BK610.out 3
                     have hns102_0 := NB592_610.out
                     have hns102_1 := NB593_610.out
                     have hns102_2 := NB609_610.out
                     have hns102_4 := NB622_610.out
                     have hms102_0 := NB610_592.out
                     have hms102_1 := NB610_593.out
                     have hms102_2 := NB610_609.out
                     have hms102_4 := NB610_622.out
                     have hs103 : w98.cell? ⟨gb610, 4, none⟩ = some (.int .i64 x611004_3) := (blk_cell BK610.out 4).trans rfl
                     have hfs103 := blk_frozen BK610.out 4
                     have hns103_0 := NB592_610.out
                     have hns103_1 := NB593_610.out
                     have hns103_2 := NB609_610.out
                     have hns103_4 := NB622_610.out
                     have hms103_0 := NB610_592.out
                     have hms103_1 := NB610_593.out
                     have hms103_2 := NB610_609.out
                     have hms103_4 := NB610_622.out
                     have hs104 : w98.cell? ⟨gb610, 5, none⟩ = some (.int .i64 x611005_3) := (blk_cell BK610.out 5).trans rfl
                     have hfs104 := blk_frozen BK610.out 5
                     have hns104_0 := NB592_610.out
                     have hns104_1 := NB593_610.out
                     have hns104_2 := NB609_610.out
                     have hns104_4 := NB622_610.out
                     have hms104_0 := NB610_592.out
                     have hms104_1 := NB610_593.out
                     have hms104_2 := NB610_609.out
                     have hms104_4 := NB610_622.out
                     refine skip_ (w1 := ?_) (by rfl) rfl ?_ ?_
                     rotate_left
                     ·go_simp
                      rfl
                     refine hK.out _ _ ?_
                     clear hK K
                     refine done_ (done_of HT_.out (by kernel_rfl)) ?_
                     try go_wp2
                     go_roundg k4
                     case measure => have := HK1.out; have := HJ40.out; have := HK3.out; have := HK4.out; omega
                     case rel => exact ⟨(wrap64 (x18_3 + 1)), (t642), (t643), (t644), (t645), (t646), (t647), relA, H', ⟨by have := HK1.out; have := HJ40.out; have := HK3.out; have := HK4.out; omega⟩, ⟨by (with_reducible repeat (first | apply Kd.R_alloc | apply Kd.R_drewN | apply Kd.R_drew)); exact Kd.R_mono (Kd.R_far (p := ⟨gb610, 5, none⟩) (Kd.R_far (p := ⟨gb610, 4, none⟩) (Kd.R_far (p := ⟨gb610, 3, none⟩) (Kd.R_far (p := ⟨gb610, 2, none⟩) (Kd.R_far (p := ⟨gb610, 1, none⟩) (Kd.R_far (p := ⟨gb610, 0, none⟩) (Kd.R_types HO_9.out BK610.out (by decide)) (fun _ hk => hk.2) (.int .u64 t642)) (fun _ hk => hk.2) (.bool t643)) (fun _ hk => hk.2) (.int .i64 t644)) (fun _ hk => hk.2) (.int .u64 t645)) (fun _ hk => hk.2) (.int .i64 t646)) (fun _ hk => hk.2) (.int .i64 t647)) (fun _ hk => hk.1)⟩, ⟨by (with_reducible repeat (first | apply Kd.R_alloc | apply Kd.R_drewN | apply Kd.R_drew)); exact Kd.R_mono (Kd.R_far (p := ⟨gb610, 5, none⟩) (Kd.R_far (p := ⟨gb610, 4, none⟩) (Kd.R_far (p := ⟨gb610, 3, none⟩) (Kd.R_far (p := ⟨gb610, 2, none⟩) (Kd.R_far (p := ⟨gb610, 1, none⟩) (Kd.R_far (p := ⟨gb610, 0, none⟩) (Kd.R_types HO_13.out BK610.out (by decide)) (fun _ hk => hk.2) (.int .u64 t642)) (fun _ hk => hk.2) (.bool t643)) (fun _ hk => hk.2) (.int .i64 t644)) (fun _ hk => hk.2) (.int .u64 t645)) (fun _ hk => hk.2) (.int .i64 t646)) (fun _ hk => hk.2) (.int .i64 t647)) (fun _ hk => hk.1)⟩, ⟨putB BK592.out NB592_610.out⟩, ⟨putB BK593.out NB593_610.out⟩, ⟨putB BK609.out NB609_610.out⟩, ⟨putA BK610.out⟩, ⟨by repeat (first | (with_reducible first | exact HB.out | apply below_alloc | apply pw_below_drewN | apply below_drew1 | refine below_set ?_ GE592.out | refine below_set ?_ GE593.out | refine below_set ?_ GE609.out | refine below_set ?_ GE610.out | refine below_set ?_ GE622.out) | exact HB.out)⟩⟩
                   ·rw [if_neg c91] at H
                    cases H
                  ·rw [if_neg c90] at H
                   cases H
                 ·rw [if_neg c88] at H
                  have c88b0 := decide_eq_false c88
                  clear c88
                  replace H := bnA H
                  obtain ⟨⟨t649, t650, t651, t652, t653, t654⟩, A105, H⟩ := H
                  replace H : (rickyardlaw17_AskAll.l1 k4 t596 t604 (wrap64 (x18_3 + 1)) l3_0 a3_1 a3_2 a3_3 a3_4 x610000_1 x610001_1 x610002_1 x610003_1 x610004_1 x610005_1 t649 t650 t651 t652 t653 t654) = some r := H
                  have H' := Aside0.mk H
                  clear H
                  try go_wp2
                  replace HO_9 := Aside0.mk (Kd.R_drew HO_9.out)
                  replace HO_13 := Aside0.mk (Kd.R_drew HO_13.out)
                  replace BK592 := Aside0.mk (blk_drew BK592.out)
                  replace BK593 := Aside0.mk (blk_drew BK593.out)
                  replace BK609 := Aside0.mk (blk_drew BK609.out)
                  replace BK610 := Aside0.mk (blk_drew BK610.out)
                  replace BK622 := Aside0.mk (blk_drew BK622.out)
                  replace HB := Aside0.mk (below_drew1 HB.out)
                  have p637 : 0 ≤ (x18_3 : Int) := of_decide_eq_true asmA
                  have q637 : x18_3 < (t604.length : Int) := of_decide_eq_true asmA
                  obtain ⟨ad637, A637_0, c637_0, e637, hx637_0, hx637_1, hx637_2, hx637_3, hx637_4, hx637_5, hx637_6, hx637_7, hx637_8, hl637_0, hi637_0⟩ := at_T44 (Kd.R_reads' HO_13.out).2.2 x18_3 p637 q637
                  cases e637
                  obtain ⟨ce637, hce637, hMe637, hcc637⟩ := Kd.R_get HO_13.out z44 x18_3 p637 (by first | exact q637 | exact of_decide_eq_true asmA | (have e_ := (Kd.R_reads' HO_13.out).1; omega))
                  obtain ⟨ve637_0, rfl, ge637_0⟩ := k44_openM hMe637
                  have hv637_0 := hcc637 0 _ rfl
                  rw [Nat.add_zero] at hv637_0
                  replace hv637_0 := Option.some.inj (hv637_0.symm.trans hx637_0)
                  rw [hv637_0] at ge637_0
                  have HL637_0 := Aside0.mk (show Kd.R Kd.string 9 _ _ _ _ ((rd_T44 t604 x18_3).f0) from ge637_0)
                  clear hv637_0 ge637_0
                  clear hcc637 hce637
                  have HR637_0 := Aside0.mk hi637_0
                  have HC637_0 := Aside0.mk hl637_0
                  clear hi637_0 hl637_0
                  replace p637 := eq_true p637
                  replace q637 := eq_true q637
                  refine start_ (n := 26) (S := fun w' => w'.cell? ⟨gb622, 0, none⟩ = some (.int .u64 x623000_4) ∧ w'.cell? ⟨gb622, 1, none⟩ = some (.bool x623001_4) ∧ w'.cell? ⟨gb622, 2, none⟩ = some (.int .i64 x623002_4) ∧ w'.cell? ⟨gb622, 3, none⟩ = some (.int .u64 x623003_4) ∧ w'.cell? ⟨gb622, 4, none⟩ = some (.int .i64 x623004_4) ∧ w'.cell? ⟨gb622, 5, none⟩ = some (.int .i64 x623005_4) ∧ w'.cell? (ad637.add ((x18_3).toNat * 9)) = some (.slice A637_0 ((rd_T44 t604 x18_3).f0).length c637_0) ∧ w'.cell? ⟨(ad637.add ((x18_3).toNat * 9)).block, (ad637.add ((x18_3).toNat * 9)).off + 1, none⟩ = some (.int .i64 ((rd_T44 t604 x18_3).f1)) ∧ w'.cell? ⟨(ad637.add ((x18_3).toNat * 9)).block, (ad637.add ((x18_3).toNat * 9)).off + 2, none⟩ = some (.int .i64 ((rd_T44 t604 x18_3).f2)) ∧ w'.cell? ⟨(ad637.add ((x18_3).toNat * 9)).block, (ad637.add ((x18_3).toNat * 9)).off + 3, none⟩ = some (.int .u64 ((rd_T44 t604 x18_3).f3.f0)) ∧ w'.cell? ⟨(ad637.add ((x18_3).toNat * 9)).block, (ad637.add ((x18_3).toNat * 9)).off + 4, none⟩ = some (.bool ((rd_T44 t604 x18_3).f3.f1)) ∧ w'.cell? ⟨(ad637.add ((x18_3).toNat * 9)).block, (ad637.add ((x18_3).toNat * 9)).off + 5, none⟩ = some (.int .i64 ((rd_T44 t604 x18_3).f3.f2.f0)) ∧ w'.cell? ⟨(ad637.add ((x18_3).toNat * 9)).block, (ad637.add ((x18_3).toNat * 9)).off + 6, none⟩ = some (.int .u64 ((rd_T44 t604 x18_3).f3.f2.f1)) ∧ w'.cell? ⟨(ad637.add ((x18_3).toNat * 9)).block, (ad637.add ((x18_3).toNat * 9)).off + 7, none⟩ = some (.int .i64 ((rd_T44 t604 x18_3).f3.f3)) ∧ w'.cell? ⟨(ad637.add ((x18_3).toNat * 9)).block, (ad637.add ((x18_3).toNat * 9)).off + 8, none⟩ = some (.int .i64 ((rd_T44 t604 x18_3).f3.f4))) (ds := []) #[false, false, false, false, false, false, false, false, false, false, false, false, false, false, false, false, false, false, false, false, false, false, false, false, false, false] (by kernel_rfl) rfl rfl ⟨(blk_cell BK622.out 0).trans rfl, (blk_cell BK622.out 1).trans rfl, (blk_cell BK622.out 2).trans rfl, (blk_cell BK622.out 3).trans rfl, (blk_cell BK622.out 4).trans rfl, (blk_cell BK622.out 5).trans rfl, hx637_0, hx637_1, hx637_2, hx637_3, hx637_4, hx637_5, hx637_6, hx637_7, hx637_8⟩ (fun hHeld => ?_); refine with_tabW rickyardlaw17_AskAll.tab27 rickyardlaw17_AskAll.bits27 (fun HT_ HW_ => ?_)
                  generalize wr.drew = w106 at HO_9 HO_13 BK592 BK593 BK609 BK610 BK622 HB HL637_0 HR637_0 hx637_0 hx637_1 hx637_2 hx637_3 hx637_4 hx637_5 hx637_6 hx637_7 hx637_8 hHeld ⊢
                  refine pureD 1 171 HT_ ?_
                  refine pureD 2 172 HT_ ?_
                  refine pureD 3 173 HT_ ?_
                  refine pureD 4 174 HT_ ?_
                  refine takeD 0 170 HT_ HW_ hHeld ?_
                  refine takeD 5 175 HT_ HW_ hHeld ?_
                  refine pureD 6 176 HT_ ?_
                  refine pureD 7 177 HT_ ?_
                  refine pureD 8 178 HT_ ?_
                  refine pureD 9 179 HT_ ?_
                  refine pureD 10 180 HT_ ?_
                  refine pureU 11 181 HT_ ?_
                  refine pureU 12 182 HT_ ?_
                  refine pureU 13 183 HT_ ?_
                  refine pureU 14 184 HT_ ?_
                  refine pureU 15 185 HT_ ?_
                  refine pureU 16 186 HT_ ?_
                  refine pureU 17 187 HT_ ?_
                  refine pureU 18 188 HT_ ?_
                  refine pureU 19 189 HT_ ?_
                  refine pureU 20 190 HT_ ?_
                  refine pureU 21 191 HT_ ?_
                  refine pureU 22 192 HT_ ?_
                  refine pureU 23 193 HT_ ?_
                  refine pureD 24 194 HT_ ?_
                  refine pureD 25 195 HT_ ?_
                  refine done_ (done_of HT_.out (by kernel_rfl)) ?_
                  try go_wp2
                  replace HO_9 := Aside0.mk (Kd.R_drew HO_9.out)
                  replace HO_13 := Aside0.mk (Kd.R_drew HO_13.out)
                  replace HL637_0 := Aside0.mk (Kd.R_drew HL637_0.out)
                  replace BK592 := Aside0.mk (blk_drew BK592.out)
                  replace BK593 := Aside0.mk (blk_drew BK593.out)
                  replace BK609 := Aside0.mk (blk_drew BK609.out)
                  replace BK610 := Aside0.mk (blk_drew BK610.out)
                  replace BK622 := Aside0.mk (blk_drew BK622.out)
                  replace HR637_0 := Aside0.mk (Kd.C_drew HR637_0.out)
                  replace HB := Aside0.mk (below_drew1 HB.out)
                  have p648 : 0 ≤ (x18_3 : Int) := of_decide_eq_true asmA
                  have q648 : x18_3 < (t604.length : Int) := of_decide_eq_true asmA
                  obtain ⟨ad648, A648_0, c648_0, e648, hx648_0, hx648_1, hx648_2, hx648_3, hx648_4, hx648_5, hx648_6, hx648_7, hx648_8, hl648_0, hi648_0⟩ := at_T44 (Kd.R_reads' HO_13.out).2.2 x18_3 p648 q648
                  obtain rfl : ad637 = ad648 := (by injection e648)
                  obtain ⟨ce648, hce648, hMe648, hcc648⟩ := Kd.R_get HO_13.out z44 x18_3 p648 (by first | exact q648 | exact of_decide_eq_true asmA | (have e_ := (Kd.R_reads' HO_13.out).1; omega))
                  obtain ⟨ve648_0, rfl, ge648_0⟩ := k44_openM hMe648
                  have hv648_0 := hcc648 0 _ rfl
                  rw [Nat.add_zero] at hv648_0
                  replace hv648_0 := Option.some.inj (hv648_0.symm.trans hx648_0)
                  rw [hv648_0] at ge648_0
                  have HL648_0 := Aside0.mk (show Kd.R Kd.string 9 _ _ _ _ ((rd_T44 t604 x18_3).f0) from ge648_0)
                  clear hv648_0 ge648_0
                  clear hcc648 hce648
                  have HR648_0 := Aside0.mk hi648_0
                  have HC648_0 := Aside0.mk hl648_0
                  clear hi648_0 hl648_0
                  replace p648 := eq_true p648
                  replace q648 := eq_true q648
                  refine start_ (n := 8) (S := fun w' => w'.cell? ⟨gb610, 0, none⟩ = some (.int .u64 x611000_3) ∧ w'.cell? ⟨gb610, 1, none⟩ = some (.bool x611001_3) ∧ w'.cell? ⟨gb610, 2, none⟩ = some (.int .i64 x611002_3) ∧ w'.cell? ⟨gb610, 3, none⟩ = some (.int .u64 x611003_3) ∧ w'.cell? ⟨gb610, 4, none⟩ = some (.int .i64 x611004_3) ∧ w'.cell? ⟨gb610, 5, none⟩ = some (.int .i64 x611005_3) ∧ w'.cell? (ad637.add ((x18_3).toNat * 9)) = some (.slice A648_0 ((rd_T44 t604 x18_3).f0).length c648_0) ∧ w'.cell? ⟨(ad637.add ((x18_3).toNat * 9)).block, (ad637.add ((x18_3).toNat * 9)).off + 1, none⟩ = some (.int .i64 ((rd_T44 t604 x18_3).f1)) ∧ w'.cell? ⟨(ad637.add ((x18_3).toNat * 9)).block, (ad637.add ((x18_3).toNat * 9)).off + 2, none⟩ = some (.int .i64 ((rd_T44 t604 x18_3).f2)) ∧ w'.cell? ⟨(ad637.add ((x18_3).toNat * 9)).block, (ad637.add ((x18_3).toNat * 9)).off + 3, none⟩ = some (.int .u64 ((rd_T44 t604 x18_3).f3.f0)) ∧ w'.cell? ⟨(ad637.add ((x18_3).toNat * 9)).block, (ad637.add ((x18_3).toNat * 9)).off + 4, none⟩ = some (.bool ((rd_T44 t604 x18_3).f3.f1)) ∧ w'.cell? ⟨(ad637.add ((x18_3).toNat * 9)).block, (ad637.add ((x18_3).toNat * 9)).off + 5, none⟩ = some (.int .i64 ((rd_T44 t604 x18_3).f3.f2.f0)) ∧ w'.cell? ⟨(ad637.add ((x18_3).toNat * 9)).block, (ad637.add ((x18_3).toNat * 9)).off + 6, none⟩ = some (.int .u64 ((rd_T44 t604 x18_3).f3.f2.f1)) ∧ w'.cell? ⟨(ad637.add ((x18_3).toNat * 9)).block, (ad637.add ((x18_3).toNat * 9)).off + 7, none⟩ = some (.int .i64 ((rd_T44 t604 x18_3).f3.f3)) ∧ w'.cell? ⟨(ad637.add ((x18_3).toNat * 9)).block, (ad637.add ((x18_3).toNat * 9)).off + 8, none⟩ = some (.int .i64 ((rd_T44 t604 x18_3).f3.f4))) (ds := [7]) #[false, false, false, false, false, false, false, false] (by kernel_rfl) rfl rfl ⟨(blk_cell BK610.out 0).trans rfl, (blk_cell BK610.out 1).trans rfl, (blk_cell BK610.out 2).trans rfl, (blk_cell BK610.out 3).trans rfl, (blk_cell BK610.out 4).trans rfl, (blk_cell BK610.out 5).trans rfl, hx648_0, hx648_1, hx648_2, hx648_3, hx648_4, hx648_5, hx648_6, hx648_7, hx648_8⟩ (fun hHeld => ?_); refine with_tabW rickyardlaw17_AskAll.tab29 rickyardlaw17_AskAll.bits29 (fun HT_ HW_ => ?_)
                  generalize w106.drew = w107 at HO_9 HO_13 HL637_0 BK592 BK593 BK609 BK610 BK622 HR637_0 HB HL648_0 HR648_0 hx648_0 hx648_1 hx648_2 hx648_3 hx648_4 hx648_5 hx648_6 hx648_7 hx648_8 hHeld ⊢
                  refine pureD 1 197 HT_ ?_
                  refine pureD 2 198 HT_ ?_
                  refine pureD 3 199 HT_ ?_
                  refine pureD 4 200 HT_ ?_
                  refine takeD 0 196 HT_ HW_ hHeld ?_
                  refine takeD 5 201 HT_ HW_ hHeld ?_
                  refine one_ (i := 6) (N := some 202) #[true, true, true, true, true, true, true, false] rfl rfl (one_of HT_.out (by kernel_rfl)) (by decide) (fun K hK => ?_)
                  refine goes_ Try.func14 (by kernel_rfl) rfl #[.agg #[.int .u64 x611000_3, .bool x611001_3, .int .i64 x611002_3, .int .u64 x611003_3, .int .i64 x611004_3, .int .i64 x611005_3], .agg #[.int .u64 ((rd_T44 t604 x18_3).f3.f0), .bool ((rd_T44 t604 x18_3).f3.f1), .int .i64 ((rd_T44 t604 x18_3).f3.f2.f0), .int .u64 ((rd_T44 t604 x18_3).f3.f2.f1), .int .i64 ((rd_T44 t604 x18_3).f3.f3), .int .i64 ((rd_T44 t604 x18_3).f3.f4)]] (by rfl) rfl rfl argA ?_
                  with_reducible refine (agg_Merge.calls x611000_3 x611001_3 x611002_3 x611003_3 x611004_3 x611005_3 ((rd_T44 t604 x18_3).f3.f0) ((rd_T44 t604 x18_3).f3.f1) ((rd_T44 t604 x18_3).f3.f2.f0) ((rd_T44 t604 x18_3).f3.f2.f1) ((rd_T44 t604 x18_3).f3.f3) ((rd_T44 t604 x18_3).f3.f4) t649 t650 t651 t652 t653 t654 _ A105.out).mono ?_
                  rintro e w108 ⟨rfl, hb⟩
                  have HS6_ := (hb.cell (World.block_lt_of_cell? _ _ (hHeld.2.2.2.2.2.2.1))).trans (hHeld.2.2.2.2.2.2.1)
                  have HS7_ := (hb.cell (World.block_lt_of_cell? _ _ (hHeld.2.2.2.2.2.2.2.1))).trans (hHeld.2.2.2.2.2.2.2.1)
                  have HS8_ := (hb.cell (World.block_lt_of_cell? _ _ (hHeld.2.2.2.2.2.2.2.2.1))).trans (hHeld.2.2.2.2.2.2.2.2.1)
                  have HS9_ := (hb.cell (World.block_lt_of_cell? _ _ (hHeld.2.2.2.2.2.2.2.2.2.1))).trans (hHeld.2.2.2.2.2.2.2.2.2.1)
                  have HS10_ := (hb.cell (World.block_lt_of_cell? _ _ (hHeld.2.2.2.2.2.2.2.2.2.2.1))).trans (hHeld.2.2.2.2.2.2.2.2.2.2.1)
                  have HS11_ := (hb.cell (World.block_lt_of_cell? _ _ (hHeld.2.2.2.2.2.2.2.2.2.2.2.1))).trans (hHeld.2.2.2.2.2.2.2.2.2.2.2.1)
                  have HS12_ := (hb.cell (World.block_lt_of_cell? _ _ (hHeld.2.2.2.2.2.2.2.2.2.2.2.2.1))).trans (hHeld.2.2.2.2.2.2.2.2.2.2.2.2.1)
                  have HS13_ := (hb.cell (World.block_lt_of_cell? _ _ (hHeld.2.2.2.2.2.2.2.2.2.2.2.2.2.1))).trans (hHeld.2.2.2.2.2.2.2.2.2.2.2.2.2.1)
                  have HS14_ := (hb.cell (World.block_lt_of_cell? _ _ (hHeld.2.2.2.2.2.2.2.2.2.2.2.2.2.2))).trans (hHeld.2.2.2.2.2.2.2.2.2.2.2.2.2.2)
                  refine ⟨_, rfl, ?_⟩
                  replace HO_9 := Aside0.mk (Kd.R_below (rowA HO_9.out) hb)
                  replace HO_13 := Aside0.mk (Kd.R_below (rowA HO_13.out) hb)
                  replace HL637_0 := Aside0.mk (Kd.R_below (rowA HL637_0.out) hb)
                  replace HL648_0 := Aside0.mk (Kd.R_below (rowA HL648_0.out) hb)
                  replace BK592 := blkB BK592 hb
                  replace BK593 := blkB BK593 hb
                  replace BK609 := blkB BK609 hb
                  replace BK610 := blkB BK610 hb
                  replace BK622 := blkB BK622 hb
                  replace HR637_0 := Aside0.mk (Kd.C_below (celA HR637_0.out) hb)
                  replace HR648_0 := Aside0.mk (Kd.C_below (celA HR648_0.out) hb)
                  replace HB := Aside0.mk (below_step (by repeat (first | (with_reducible first | exact HB.out | apply below_alloc | apply pw_below_drewN | apply below_drew1 | refine below_set ?_ GE592.out | refine below_set ?_ GE593.out | refine below_set ?_ GE609.out | refine below_set ?_ GE610.out | refine below_set ?_ GE622.out) | exact HB.out)) hb)
                  (try clear hb)
                  refine hK.out _ _ ⟨(blk_cell BK610.out 0).trans rfl, (blk_cell BK610.out 1).trans rfl, (blk_cell BK610.out 2).trans rfl, (blk_cell BK610.out 3).trans rfl, (blk_cell BK610.out 4).trans rfl, (blk_cell BK610.out 5).trans rfl, HS6_, HS7_, HS8_, HS9_, HS10_, HS11_, HS12_, HS13_, HS14_⟩ (fun hHeld => ?_)
                  clear hK K
                  refine norm_ (a' := ?_) ?_ ?_
                  rotate_left
                  ·show Act.put _ (some 202) _ = _
                   simp only [Act.put, List.setIfInBounds_toArray, List.set_cons_zero, List.set_cons_succ, i64_w, i32_w]
                   rfl
                  refine last_ (i := 7) (N := none) #[true, true, true, true, true, true, true, true] rfl rfl (one_of HT_.out (by kernel_rfl)) (by decide) (fun K hK => ?_)
                  have hs109 : w108.cell? ⟨gb610, 0, none⟩ = some (.int .u64 x611000_3) := (blk_cell BK610.out 0).trans rfl
                  have hfs109 := blk_frozen BK610.out 0
                  have hns109_0 := NB592_610.out
                  have hns109_1 := NB593_610.out
                  have hns109_2 := NB609_610.out
                  have hns109_4 := NB622_610.out
                  have hms109_0 := NB610_592.out
                  have hms109_1 := NB610_593.out
                  have hms109_2 := NB610_609.out
                  have hms109_4 := NB610_622.out
                  have hs110 : w108.cell? ⟨gb610, 1, none⟩ = some (.bool x611001_3) := (blk_cell BK610.out 1).trans rfl
                  have hfs110 := blk_frozen BK610.out 1
                  have hns110_0 := NB592_610.out
                  have hns110_1 := NB593_610.out
                  have hns110_2 := NB609_610.out
                  have hns110_4 := NB622_610.out
                  have hms110_0 := NB610_592.out
                  have hms110_1 := NB610_593.out
                  have hms110_2 := NB610_609.out
                  have hms110_4 := NB610_622.out
                  have hs111 : w108.cell? ⟨gb610, 2, none⟩ = some (.int .i64 x611002_3) := (blk_cell BK610.out 2).trans rfl
                  have hfs111 := blk_frozen BK610.out 2
                  have hns111_0 := NB592_610.out
                  have hns111_1 := NB593_610.out
                  have hns111_2 := NB609_610.out
                  have hns111_4 := NB622_610.out
                  have hms111_0 := NB610_592.out
                  have hms111_1 := NB610_593.out
                  have hms111_2 := NB610_609.out
                  have hms111_4 := NB610_622.out
                  have hs112 : w108.cell? ⟨gb610, 3, none⟩ = some (.int .u64 x611003_3) := (blk_cell BK610.out 3).trans rfl
                  have hfs112 := blk_frozen BK610.out 3
                  have hns112_0 := NB592_610.out
                  have hns112_1 := NB593_610.out
                  have hns112_2 := NB609_610.out
                  have hns112_4 := NB622_610.out
                  have hms112_0 := NB610_592.out
                  have hms112_1 := NB610_593.out
                  have hms112_2 := NB610_609.out
                  have hms112_4 := NB610_622.out
                  have hs113 : w108.cell? ⟨gb610, 4, none⟩ = some (.int .i64 x611004_3) := (blk_cell BK610.out 4).trans rfl
                  have hfs113 := blk_frozen BK610.out 4
                  have hns113_0 := NB592_610.out
                  have hns113_1 := NB593_610.out
                  have hns113_2 := NB609_610.out
                  have hns113_4 := NB622_610.out
                  have hms113_0 := NB610_592.out
                  have hms113_1 := NB610_593.out
                  have hms113_2 := NB610_609.out
                  have hms113_4 := NB610_622.out
                  have hs114 : w108.cell? ⟨gb610, 5, none⟩ = some (.int .i64 x611005_3) := (blk_cell BK610.out 5).trans rfl
                  have hfs114 := blk_frozen BK610.out 5
                  have hns114_0 := NB592_610.out
                  have hns114_1 := NB593_610.out
                  have hns114_2 := NB609_610.out
                  have hns114_4 := NB622_610.out
                  have hms114_0 := NB610_592.out
                  have hms114_1 := NB610_593.out
                  have hms114_2 := NB610_609.out
                  have hms114_4 := NB610_622.out
                  refine skip_ (w1 := ?_) (by rfl) rfl ?_ ?_
                  rotate_left
                  ·go_simp
                   rfl
                  refine hK.out _ _ ?_
                  clear hK K
                  refine done_ (done_of HT_.out (by kernel_rfl)) ?_
                  try go_wp2
                  go_roundg k4
                  case measure => have := HK1.out; have := HJ40.out; have := HK3.out; have := HK4.out; omega
                  case rel => exact ⟨(wrap64 (x18_3 + 1)), (t649), (t650), (t651), (t652), (t653), (t654), relA, H', ⟨by have := HK1.out; have := HJ40.out; have := HK3.out; have := HK4.out; omega⟩, ⟨by (with_reducible repeat (first | apply Kd.R_alloc | apply Kd.R_drewN | apply Kd.R_drew)); exact Kd.R_mono (Kd.R_far (p := ⟨gb610, 5, none⟩) (Kd.R_far (p := ⟨gb610, 4, none⟩) (Kd.R_far (p := ⟨gb610, 3, none⟩) (Kd.R_far (p := ⟨gb610, 2, none⟩) (Kd.R_far (p := ⟨gb610, 1, none⟩) (Kd.R_far (p := ⟨gb610, 0, none⟩) (Kd.R_types HO_9.out BK610.out (by decide)) (fun _ hk => hk.2) (.int .u64 t649)) (fun _ hk => hk.2) (.bool t650)) (fun _ hk => hk.2) (.int .i64 t651)) (fun _ hk => hk.2) (.int .u64 t652)) (fun _ hk => hk.2) (.int .i64 t653)) (fun _ hk => hk.2) (.int .i64 t654)) (fun _ hk => hk.1)⟩, ⟨by (with_reducible repeat (first | apply Kd.R_alloc | apply Kd.R_drewN | apply Kd.R_drew)); exact Kd.R_mono (Kd.R_far (p := ⟨gb610, 5, none⟩) (Kd.R_far (p := ⟨gb610, 4, none⟩) (Kd.R_far (p := ⟨gb610, 3, none⟩) (Kd.R_far (p := ⟨gb610, 2, none⟩) (Kd.R_far (p := ⟨gb610, 1, none⟩) (Kd.R_far (p := ⟨gb610, 0, none⟩) (Kd.R_types HO_13.out BK610.out (by decide)) (fun _ hk => hk.2) (.int .u64 t649)) (fun _ hk => hk.2) (.bool t650)) (fun _ hk => hk.2) (.int .i64 t651)) (fun _ hk => hk.2) (.int .u64 t652)) (fun _ hk => hk.2) (.int .i64 t653)) (fun _ hk => hk.2) (.int .i64 t654)) (fun _ hk => hk.1)⟩, ⟨putB BK592.out NB592_610.out⟩, ⟨putB BK593.out NB593_610.out⟩, ⟨putB BK609.out NB609_610.out⟩, ⟨putA BK610.out⟩, ⟨by repeat (first | (with_reducible first | exact HB.out | apply below_alloc | apply pw_below_drewN | apply below_drew1 | refine below_set ?_ GE592.out | refine below_set ?_ GE593.out | refine below_set ?_ GE609.out | refine below_set ?_ GE610.out | refine below_set ?_ GE622.out) | exact HB.out)⟩⟩
               ·rw [if_neg c85] at H
                cases H
              ·rw [if_neg c84] at H
               cases H
          ·rw [if_neg c59] at H
           have c59b0 := decide_eq_false c59
           clear c59
           replace H := bnA H
           obtain ⟨t621, A115, H⟩ := H
           by_cases c116 : t621 = true
           ·subst c116
            have H1 : (some (x611000_3 == x610000_1 && (x611001_3 == x610001_1 && ((x611002_3 == x610002_1 && (x611003_3 == x610003_1)) && (x611004_3 == x610004_1 && (x611005_3 == x610005_1)))))) = some r := by rw [if_pos rfl] at H; exact H
            clear H
            have H := H1
            clear H1
            obtain rfl := Option.some.inj H
            obtain ⟨Ao117, co117, eo117⟩ := Kd.R_slice HO_13.out
            subst eo117
            go_wp2_with (first | ((with_reducible refine gate_callee (f := 9) rfl ?_); refine goesL_ (some 203) rfl rfl Try.func9 (by kernel_rfl) rfl #[] rfl argA ?_; (with_reducible refine (rickyardlaw17_alive.calls k3  true _ A115.out).mono ?_); rintro e w118 ⟨rfl, hb⟩; refine ⟨_, rfl, ?_⟩; replace HO_9 := Aside0.mk (Kd.R_below (rowA HO_9.out) hb); replace HO_13 := Aside0.mk (Kd.R_below (rowA HO_13.out) hb); replace BK592 := blkB BK592 hb; replace BK593 := blkB BK593 hb; replace BK609 := blkB BK609 hb; replace BK610 := blkB BK610 hb; replace HB := Aside0.mk (below_step (by repeat (first | (with_reducible first | exact HB.out | apply below_alloc | apply pw_below_drewN | apply below_drew1 | refine below_set ?_ GE592.out | refine below_set ?_ GE593.out | refine below_set ?_ GE609.out | refine below_set ?_ GE610.out) | exact HB.out)) hb); (try clear hb); have hnb119 := NB610_592.out; have hnc119 := NB592_610.out; have hnb120 := NB610_593.out; have hnc120 := NB593_610.out; have hnb121 := NB610_609.out; have hnc121 := NB609_610.out; obtain ⟨hcz122_0, hcz122_1, hcz122_2, hcz122_3, hcz122_4, hcz122_5, hfz122_0, hfz122_1, hfz122_2, hfz122_3, hfz122_4, hfz122_5⟩ := blk6 BK610; have hnb123 := NB609_592.out; have hnc123 := NB592_609.out; have hnb124 := NB609_593.out; have hnc124 := NB593_609.out; obtain ⟨hcz125_0, hcz125_1, hcz125_2, hcz125_3, hcz125_4, hcz125_5, hfz125_0, hfz125_1, hfz125_2, hfz125_3, hfz125_4, hfz125_5⟩ := blk6 BK609))
            go_ret
            exact ⟨ret1, by repeat (first | (with_reducible first | exact HB.out | apply below_alloc | apply pw_below_drewN | apply below_drew1 | refine below_set ?_ GE592.out | refine below_set ?_ GE593.out | refine below_set ?_ GE609.out | refine below_set ?_ GE610.out) | exact HB.out)⟩
           ·replace c116 := Bool.eq_false_iff.mpr c116
            subst c116
            have H1 : (none) = some r := by rw [if_neg (show ¬ (false = true) by decide)] at H; exact H
            clear H
            have H := H1
            clear H1
            cases H
       ·rw [if_neg c58] at H
        have c58b0 := beq_eq_false_iff_ne.mpr c58
        have c58b1 := bne_iff_ne.mpr c58
        replace H := bnA H
        obtain ⟨t620, A128, H⟩ := H
        by_cases c129 : t620 = true
        ·subst c129
         have H1 : (some (decide (a3_4 < 0))) = some r := by rw [if_pos rfl] at H; exact H
         clear H
         have H := H1
         clear H1
         obtain rfl := Option.some.inj H
         go_wp2_with (first | ((with_reducible refine gate_callee (f := 9) rfl ?_); refine goesL_ (some 126) rfl rfl Try.func9 (by kernel_rfl) rfl #[] rfl argA ?_; (with_reducible refine (rickyardlaw17_alive.calls kj40  true _ A128.out).mono ?_); rintro e w130 ⟨rfl, hb⟩; refine ⟨_, rfl, ?_⟩; replace HO_9 := Aside0.mk (Kd.R_below (rowA HO_9.out) hb); replace HO_13 := Aside0.mk (Kd.R_below (rowA HO_13.out) hb); replace BK592 := blkB BK592 hb; replace BK593 := blkB BK593 hb; replace BK609 := blkB BK609 hb; replace BK610 := blkB BK610 hb; replace HB := Aside0.mk (below_step (by repeat (first | (with_reducible first | exact HB.out | apply below_alloc | apply pw_below_drewN | apply below_drew1 | refine below_set ?_ GE592.out | refine below_set ?_ GE593.out | refine below_set ?_ GE609.out | refine below_set ?_ GE610.out) | exact HB.out)) hb); (try clear hb); have hnb131 := NB593_592.out; have hnc131 := NB592_593.out; have hnb132 := NB593_609.out; have hnc132 := NB609_593.out; have hnb133 := NB593_610.out; have hnc133 := NB610_593.out; obtain ⟨hcz134_0, hcz134_1, hcz134_2, hcz134_3, hcz134_4, hfz134_0, hfz134_1, hfz134_2, hfz134_3, hfz134_4⟩ := blk5 BK593))
         go_ret
         exact ⟨ret1, by repeat (first | (with_reducible first | exact HB.out | apply below_alloc | apply pw_below_drewN | apply below_drew1 | refine below_set ?_ GE592.out | refine below_set ?_ GE593.out | refine below_set ?_ GE609.out | refine below_set ?_ GE610.out) | exact HB.out)⟩
        ·replace c129 := Bool.eq_false_iff.mpr c129
         subst c129
         have H1 : (none) = some r := by rw [if_neg (show ¬ (false = true) by decide)] at H; exact H
         clear H
         have H := H1
         clear H1
         cases H
end Go.Proofs.Ytdopbhbbpgfliaa.PAsk
end
