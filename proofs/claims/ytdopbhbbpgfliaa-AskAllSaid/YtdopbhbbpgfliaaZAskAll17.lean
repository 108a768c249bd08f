import Derived.Test.YtdopbhbbpgfliaaZAskAll16
import Derived.Maps.OwnSet
import Derived.Maps.RangeWalk
import Derived.Sort.KeysCollected
import Derived.Shelf.Sort.Plain
import Derived.Shelf.Slices.In.SortNone
import Derived.Sort.OwnSorted
section
namespace Go.Proofs.Ytdopbhbbpgfliaa.PAsk
open Go.RowKit Go.Proofs.YtdopbhbbpgfliaaW.PrintWords Go.Proofs.YtdopbhbbpgfliaaW.PrintLast Go.Proofs.YtdopbhbbpgfliaaW.PrintMore
attribute [local go_sem] max2_int min2_int max_two min_two max_three min_three max_four min_four   -- for this text's walks alone
set_option linter.unusedVariables false
set_option linter.unusedSimpArgs false
set_option maxHeartbeats 8000000
set_option maxRecDepth 100000
def ask_isTime.f (a0 : Int) : Option (Bool) := if a0 ≥ 0 then (some (decide (a0 ≤ 1099511627776))) else (some false)
theorem ask_isTime.calls (a0 : Int) (r : Bool) (w : World) (h : ask_isTime.f a0 = some r) :
  Calls Try.prog 42 #[.int .i64 a0] w fun e w' => e = .returned (.bool r) ∧ Drawn0 w w' := by
 have H : (if a0 ≥ 0 then (some (decide (a0 ≤ 1099511627776))) else (some false)) = some r := h
 clear h
 by_cases c2 : a0 ≥ 0
 rotate_left
 ·rw [if_neg c2] at H
  have c2b0 := decide_eq_false c2
  clear c2
  obtain rfl := Option.some.inj H
  go_enter Try.func42, Try.ntmps42
  go_wp2
  go_ret
  exact ⟨by first | rfl | (simp; done) | (simp [*]; done), by repeat (first | exact Drawn0.refl _ | apply Drawn0.step)⟩
 rw [if_pos c2] at H
 have c2b0 := decide_eq_true c2
 clear c2
 obtain rfl := Option.some.inj H
 go_enter Try.func42, Try.ntmps42
 go_wp2
 go_ret
 exact ⟨by first | rfl | (simp; done) | (simp [*]; done), by repeat (first | exact Drawn0.refl _ | apply Drawn0.step)⟩
def ask_ranged.f (a0 : Int) (a1 : Int) : Option (Bool) := (ask_isTime.f a0).bind fun t258 => (if t258 = true then ((ask_isTime.f a1).bind fun t259 => (if t259 = true then (some (decide (a0 ≤ a1))) else (some false))) else (some false))
theorem ask_ranged.calls (a0 : Int) (a1 : Int) (r : Bool) (w : World) (h : ask_ranged.f a0 a1 = some r) :
  Calls Try.prog 24 #[.int .i64 a0, .int .i64 a1] w fun e w' => e = .returned (.bool r) ∧ Drawn0 w w' := by
 have H : ((ask_isTime.f a0).bind fun t258 => (if t258 = true then ((ask_isTime.f a1).bind fun t259 => (if t259 = true then (some (decide (a0 ≤ a1))) else (some false))) else (some false))) = some r := h
 clear h
 replace H := bnA H
 obtain ⟨t258, A3, H⟩ := H
 by_cases c4 : t258 = true
 rotate_left
 ·replace c4 := Bool.eq_false_iff.mpr c4
  subst c4
  have H1 : (some false) = some r := by rw [if_neg (show ¬ (false = true) by decide)] at H; exact H
  clear H
  have H := H1
  clear H1
  obtain rfl := Option.some.inj H
  go_enter Try.func24, Try.ntmps24
  go_wp2_with (first | ((with_reducible refine gate_callee (f := 42) rfl ?_); refine goesL_ (some 6) rfl rfl Try.func42 (by kernel_rfl) rfl #[.int .i64 a0] rfl argA ?_; (with_reducible refine (ask_isTime.calls a0 false _ A3.out).mono ?_); rintro e w' ⟨rfl, ⟨nd, rfl⟩⟩; refine ⟨_, rfl, ?_⟩))
  go_ret
  exact ⟨by first | rfl | (simp; done) | (simp [*]; done), by repeat (first | exact Drawn0.refl _ | apply Drawn0.step)⟩
 subst c4
 have H1 : ((ask_isTime.f a1).bind fun t259 => (if t259 = true then (some (decide (a0 ≤ a1))) else (some false))) = some r := by rw [if_pos rfl] at H; exact H
 clear H
 have H := H1
 clear H1
 replace H := bnA H
 obtain ⟨t259, A5, H⟩ := H
 by_cases c6 : t259 = true
 ·subst c6
  have H1 : (some (decide (a0 ≤ a1))) = some r := by rw [if_pos rfl] at H; exact H
  clear H
  have H := H1
  clear H1
  obtain rfl := Option.some.inj H
  go_enter Try.func24, Try.ntmps24
  go_wp2_with (first | ((with_reducible refine gate_callee (f := 42) rfl ?_); refine goesL_ (some 6) rfl rfl Try.func42 (by kernel_rfl) rfl #[.int .i64 a0] rfl argA ?_; (with_reducible refine (ask_isTime.calls a0 true _ A3.out).mono ?_); rintro e w' ⟨rfl, ⟨nd, rfl⟩⟩; refine ⟨_, rfl, ?_⟩) | (go_at_call 42; (with_reducible refine (ask_isTime.calls a1 true _ A5.out).mono ?_); rintro e w' ⟨rfl, ⟨nd, rfl⟩⟩))
  go_ret
  exact ⟨by first | rfl | (simp; done) | (simp [*]; done), by repeat (first | exact Drawn0.refl _ | apply Drawn0.step)⟩
 replace c6 := Bool.eq_false_iff.mpr c6
 subst c6
 have H1 : (some false) = some r := by rw [if_neg (show ¬ (false = true) by decide)] at H; exact H
 clear H
 have H := H1
 clear H1
 obtain rfl := Option.some.inj H
 go_enter Try.func24, Try.ntmps24
 go_wp2_with (first | ((with_reducible refine gate_callee (f := 42) rfl ?_); refine goesL_ (some 6) rfl rfl Try.func42 (by kernel_rfl) rfl #[.int .i64 a0] rfl argA ?_; (with_reducible refine (ask_isTime.calls a0 true _ A3.out).mono ?_); rintro e w' ⟨rfl, ⟨nd, rfl⟩⟩; refine ⟨_, rfl, ?_⟩) | (go_at_call 42; (with_reducible refine (ask_isTime.calls a1 false _ A5.out).mono ?_); rintro e w' ⟨rfl, ⟨nd, rfl⟩⟩))
 go_ret
 exact ⟨by first | rfl | (simp; done) | (simp [*]; done), by repeat (first | exact Drawn0.refl _ | apply Drawn0.step)⟩
def key_Group.f (k : Nat) (l0 : List ByteArray) : Option (List Int × Int) := (key_fits.f l0).bind fun t260 => (if t260 = true then ((key_group.f k l0).bind fun t261 => (some (t261, 0))) else (some (([] : List Int), 40)))
theorem key_Group.calls (k : Nat) (A0 : Option Addr) (c0 : Nat) (l0 : List ByteArray) (r1 : List Int) (r2 : Int) (w : World) (hr0 : Kd.C Kd.string w A0 l0.length l0) (hc0 : l0.length ≤ c0) (h : key_Group.f k l0 = some (r1, r2)) :
  Calls Try.prog 27 #[.slice A0 l0.length c0] w fun e w' => ∃ v0_ : Value, e = .returned (.tuple #[v0_, .int .i64 r2]) ∧ Kd.R (Kd.int .u8) 5 w' w.heap.size (fun _ => True) v0_ r1 ∧ Below w.heap.size w w' := by
 have HR0 := Aside0.mk hr0
 have HC0 := Aside0.mk hc0
 clear hr0 hc0
 have HB := Aside0.mk (Below.refl w.heap.size w)
 have H : ((key_fits.f l0).bind fun t260 => (if t260 = true then ((key_group.f k l0).bind fun t261 => (some (t261, 0))) else (some (([] : List Int), 40)))) = some (r1, r2) := h
 clear h
 replace H := bnA H
 obtain ⟨t260, A2, H⟩ := H
 by_cases c3 : t260 = true
 rotate_left
 ·replace c3 := Bool.eq_false_iff.mpr c3
  subst c3
  have H1 : (some (([] : List Int), 40)) = some (r1, r2) := by rw [if_neg (show ¬ (false = true) by decide)] at H; exact H
  clear H
  have H := H1
  clear H1
  simp only [Option.some.injEq, Prod.mk.injEq] at H
  obtain ⟨rfl, rfl⟩ := H
  go_enter Try.func27, Try.ntmps27
  go_wp2_with (first | ((with_reducible refine gate_callee (f := 41) rfl ?_); refine goesL_ (some 5) rfl rfl Try.func41 (by kernel_rfl) rfl #[.slice A0 l0.length c0] rfl argA ?_; (with_reducible refine (key_fits.calls _ _ l0 false _ ?side1 ?side2 A2.out).mono ?_); (case side1 => exact cc1 HR0.out); (case side2 => exact HC0.out); rintro e w' ⟨rfl, ⟨nd, rfl⟩⟩; refine ⟨_, rfl, ?_⟩))
  go_ret2
  exact ⟨_, ret1, by first | exact Kd.R_nil _ _ _ _ _ | exact Kd.N_nil _ _ _ _ _ | exact Kd.V_nil _ _ _ _ _ | exact Kd.Q_nil _ _ _ _ _ | exact Kd.S_nil _ _ _ _ _, belA HB.out⟩
 subst c3
 have H1 : ((key_group.f k l0).bind fun t261 => (some (t261, 0))) = some (r1, r2) := by rw [if_pos rfl] at H; exact H
 clear H
 have H := H1
 clear H1
 replace H := bnA H
 obtain ⟨t261, A4, H⟩ := H
 simp only [Option.some.injEq, Prod.mk.injEq] at H
 obtain ⟨rfl, rfl⟩ := H
 go_enter Try.func27, Try.ntmps27
 go_wp2_with (first | ((with_reducible refine gate_callee (f := 41) rfl ?_); refine goesL_ (some 5) rfl rfl Try.func41 (by kernel_rfl) rfl #[.slice A0 l0.length c0] rfl argA ?_; (with_reducible refine (key_fits.calls _ _ l0 true _ ?side1 ?side2 A2.out).mono ?_); (case side1 => exact cc1 HR0.out); (case side2 => exact HC0.out); rintro e w' ⟨rfl, ⟨nd, rfl⟩⟩; refine ⟨_, rfl, ?_⟩) | ((with_reducible refine gate_callee (f := 43) rfl ?_); refine goesL_ (some 8) rfl rfl Try.func43 (by kernel_rfl) rfl #[.slice A0 l0.length c0] rfl argA ?_; (with_reducible refine (key_group.calls k _ _ l0 t261 _ ?side1 ?side2 A4.out).mono ?_); (case side1 => exact cc1 HR0.out); (case side2 => exact HC0.out); rintro e w5 ⟨v262, rfl, ho0, hb⟩; refine ⟨_, rfl, ?_⟩; have HO263 := Aside0.mk (Kd.R_lower ho0 (below_size (belA HB.out))); replace HB := bst HB hb; (try clear hb); (try clear ho0)))
 go_ret2
 exact ⟨_, ret1, rowA HO263.out, belA HB.out⟩
end Go.Proofs.Ytdopbhbbpgfliaa.PAsk
end
section
namespace Go.Proofs.Ytdopbhbbpgfliaa.PAsk
open Go.RowKit Go.Proofs.YtdopbhbbpgfliaaW.PrintWords Go.Proofs.YtdopbhbbpgfliaaW.PrintLast Go.Proofs.YtdopbhbbpgfliaaW.PrintMore
set_option linter.unusedVariables false
set_option linter.unusedSimpArgs false
set_option maxHeartbeats 8000000
set_option maxRecDepth 100000
def scanGo (k : Nat) (dims : List ByteArray) (lo hi : Int) : List Rw → List Rw → Option (List Rw)
  | [], out => some out
  | x :: r, out => if dims.length ≤ x.f0.length then (slices_Equal_string_string.f k (x.f0.take dims.length) dims).bind fun q => if q = true ∧ lo ≤ x.f1 ∧ x.f1 < hi then (if out.length < 1000000 then scanGo k dims lo hi r (out ++ [x]) else none) else scanGo k dims lo hi r out
    else scanGo k dims lo hi r out
def ask_Scan.f (k : Nat) (l0_0 : List S84) (a0_1 a1 : Int) (l2 : List S60) (l3 : List ByteArray) (a4 a5 : Int) : Option (List Rw × Int) :=
  (ask_rows.f k l0_0 a0_1 a1 l2).bind fun a => if a.2 = 0 then (key_Right.f l3 0 0).bind fun q => if q = true then (ask_ranged.f a4 a5).bind fun t => if t = true then (scanGo k l3 a4 a5 a.1 []).bind fun o => some (o, 0)
    else some ([], 1) else some ([], 110) else some ([], a.2)
def ScanRel (k : Nat) (dims : List ByteArray) (lo hi : Int) (all : List Rw) (va : Value) (res : List Rw) (w : World) (H0 : Nat) (j : Nat) (v : Value) (wr : World) : Prop :=
  j ≤ all.length ∧ Below w.heap.size w wr ∧ H0 ≤ wr.heap.size ∧ Kd.R k44 44 wr w.heap.size (fun b => b < H0) va all ∧
  ∃ out, Kd.R k44 44 wr w.heap.size (fun _ => True) v out ∧ (∀ b, v.ownBlock = some b → H0 ≤ b) ∧ scanGo k dims lo hi (all.drop j) out = some res
theorem ask_Scan.calls (k : Nat) (A0_0 : Option Addr) (c0_0 : Nat) (l0_0 : List S84) (a0_1 : Int) (a1 : Int) (A2 : Option Addr) (c2 : Nat) (l2 : List S60) (A3 : Option Addr) (c3 : Nat) (l3 : List ByteArray) (a4 : Int) (a5 : Int) (r1 : List Rw) (r2 : Int) (w : World)
    (hr0_0 : Kd.C k84 w A0_0 l0_0.length l0_0) (hc0_0 : l0_0.length ≤ c0_0) (hr2 : Kd.C k60 w A2 l2.length l2) (hc2 : l2.length ≤ c2) (hr3 : Kd.C Kd.string w A3 l3.length l3) (hc3 : l3.length ≤ c3)
    (h : ask_Scan.f k l0_0 a0_1 a1 l2 l3 a4 a5 = some (r1, r2)) :
    Calls Try.prog 10 #[.agg #[.slice A0_0 l0_0.length c0_0, .int .i64 a0_1], .int .i64 a1, .slice A2 l2.length c2, .slice A3 l3.length c3, .int .i64 a4, .int .i64 a5] w fun e w' => ∃ v0_ : Value, e = .returned (.tuple #[v0_, .int .i64 r2]) ∧ Kd.R k44 44 w' w.heap.size (fun _ => True) v0_ r1 ∧ Below w.heap.size w w' := by
  have HG := Lib.hid hr0_0; have HL := Lib.hid hr2; have HD := Lib.hid hr3
  clear hr0_0 hr2 hr3
  have HB0 : Hid (Below w.heap.size w (w.alloc (.cells #[.slice A0_0 l0_0.length c0_0, .int .i64 a0_1] 24))) := Lib.hid ((Below.refl _ _).alloc (Nat.le_refl _) _)
  unfold ask_Scan.f at h
  obtain ⟨⟨all, e0⟩, h1, h2⟩ := Option.bind_eq_some_iff.mp h
  have HRW := Lib.hid h1
  clear h h1
  simp only at h2
  by_cases z : e0 = 0
  case neg =>
    rw [if_neg z] at h2
    simp only [Option.some.injEq, Prod.mk.injEq] at h2
    obtain ⟨rfl, rfl⟩ := h2
    have e1 : (e0 != 0) = true := bne_iff_ne.2 z
    clear z
    go_enter Try.func10, Try.ntmps10
    go_wp2_with (go_at_call 22; with_reducible refine (ask_rows.calls k A0_0 c0_0 l0_0 a0_1 a1 A2 c2 l2 _ _ _ (Kd.C_below HG.out HB0.out) hc0_0 (Kd.C_below HL.out HB0.out) hc2 HRW.out).mono ?_; rintro e w1 ⟨va, rfl, hra, hb⟩; obtain ⟨Aa, ca, eva⟩ := Kd.R_slice hra; subst eva; have HRA := Lib.hid (Kd.R_lower hra HB0.out.size); have HB1 := Lib.hid (below_step HB0.out hb); clear hra hb)
    go_ret2
    exact ⟨_, rfl, Kd.R_nil _ _ _ _ _, HB1.out⟩
  rw [if_pos z] at h2
  subst z
  obtain ⟨q, hq, h3⟩ := Option.bind_eq_some_iff.mp h2
  have HQ := Lib.hid hq
  clear h2 hq
  cases q with
  | false =>
    rw [if_neg (by decide)] at h3
    simp only [Option.some.injEq, Prod.mk.injEq] at h3
    obtain ⟨rfl, rfl⟩ := h3
    go_enter Try.func10, Try.ntmps10
    go_wp2_with (first
      | (go_at_call 22; with_reducible refine (ask_rows.calls k A0_0 c0_0 l0_0 a0_1 a1 A2 c2 l2 _ _ _ (Kd.C_below HG.out HB0.out) hc0_0 (Kd.C_below HL.out HB0.out) hc2 HRW.out).mono ?_; rintro e w1 ⟨va, rfl, hra, hb⟩; obtain ⟨Aa, ca, eva⟩ := Kd.R_slice hra; subst eva; have HRA := Lib.hid (Kd.R_lower hra HB0.out.size); have HB1 := Lib.hid (below_step HB0.out hb); clear hra hb)
      | (go_at_call 23; with_reducible refine (key_Right.calls A3 c3 l3 0 0 _ _ (Kd.C_below HD.out HB1.out) hc3 HQ.out).mono ?_; rintro e w2 ⟨rfl, hb⟩; have HB2 := Lib.hid (below_step HB1.out hb); have HRA2 := Lib.hid (Kd.R_below HRA.out hb); clear hb))
    go_ret2
    exact ⟨_, rfl, Kd.R_nil _ _ _ _ _, HB2.out⟩
  | true =>
  rw [if_pos rfl] at h3
  obtain ⟨tq, htq, h4⟩ := Option.bind_eq_some_iff.mp h3
  have HT := Lib.hid htq
  clear h3 htq
  cases tq with
  | false =>
    rw [if_neg (by decide)] at h4
    simp only [Option.some.injEq, Prod.mk.injEq] at h4
    obtain ⟨rfl, rfl⟩ := h4
    go_enter Try.func10, Try.ntmps10
    go_wp2_with (first
      | (go_at_call 22; with_reducible refine (ask_rows.calls k A0_0 c0_0 l0_0 a0_1 a1 A2 c2 l2 _ _ _ (Kd.C_below HG.out HB0.out) hc0_0 (Kd.C_below HL.out HB0.out) hc2 HRW.out).mono ?_; rintro e w1 ⟨va, rfl, hra, hb⟩; obtain ⟨Aa, ca, eva⟩ := Kd.R_slice hra; subst eva; have HRA := Lib.hid (Kd.R_lower hra HB0.out.size); have HB1 := Lib.hid (below_step HB0.out hb); clear hra hb)
      | (go_at_call 23; with_reducible refine (key_Right.calls A3 c3 l3 0 0 _ _ (Kd.C_below HD.out HB1.out) hc3 HQ.out).mono ?_; rintro e w2 ⟨rfl, hb⟩; have HB2 := Lib.hid (below_step HB1.out hb); have HRA2 := Lib.hid (Kd.R_below HRA.out hb); clear hb)
      | (go_at_call 24; with_reducible refine (ask_ranged.calls a4 a5 _ _ HT.out).mono ?_; rintro e w3 ⟨rfl, ⟨n3, rfl⟩⟩; have HB3 := Lib.hid (pw_below_drewN HB2.out n3); have HRA3 := Lib.hid (Kd.R_drewN HRA2.out n3)))
    go_ret2
    exact ⟨_, rfl, Kd.R_nil _ _ _ _ _, HB3.out⟩
  | true =>
  rw [if_pos rfl] at h4
  obtain ⟨o, ho, h5⟩ := Option.bind_eq_some_iff.mp h4
  simp only [Option.some.injEq, Prod.mk.injEq] at h5
  obtain ⟨rfl, rfl⟩ := h5
  have HO := Lib.hid ho
  clear h4 ho
  go_enter Try.func10, Try.ntmps10
  go_wp2_with (first
    | (go_at_call 22; with_reducible refine (ask_rows.calls k A0_0 c0_0 l0_0 a0_1 a1 A2 c2 l2 _ _ _ (Kd.C_below HG.out HB0.out) hc0_0 (Kd.C_below HL.out HB0.out) hc2 HRW.out).mono ?_; rintro e w1 ⟨va, rfl, hra, hb⟩; obtain ⟨Aa, ca, eva⟩ := Kd.R_slice hra; subst eva; have HRA := Lib.hid (Kd.R_lower hra HB0.out.size); have HB1 := Lib.hid (below_step HB0.out hb); clear hra hb)
    | (go_at_call 23; with_reducible refine (key_Right.calls A3 c3 l3 0 0 _ _ (Kd.C_below HD.out HB1.out) hc3 HQ.out).mono ?_; rintro e w2 ⟨rfl, hb⟩; have HB2 := Lib.hid (below_step HB1.out hb); have HRA2 := Lib.hid (Kd.R_below HRA.out hb); clear hb)
    | (go_at_call 24; with_reducible refine (ask_ranged.calls a4 a5 _ _ HT.out).mono ?_; rintro e w3 ⟨rfl, ⟨n3, rfl⟩⟩; have HB3 := Lib.hid (pw_below_drewN HB2.out n3); have HRA3 := Lib.hid (Kd.R_drewN HRA2.out n3)))
  obtain ⟨H0, hH0⟩ : ∃ H0, H0 = (w2.drewN n3).heap.size := ⟨_, rfl⟩
  have HSZ : Hid (H0 ≤ (w2.drewN n3).heap.size) := Lib.hid (Nat.le_of_eq hH0)
  have HRA4 := Lib.hid (Kd.R_mono (Kd.R_bound HRA3.out) (ok' := fun b => b < H0) (fun _ hk => by rw [hH0]; exact hk.2.2.1))
  clear hH0
  go_loopw [42, 16] (fun v u wr => ∃ j : Nat, v = .int .i64 j ∧ ScanRel k l3 a4 a5 all (.slice Aa all.length ca) o w H0 j u wr) (fun v _ _ => all.length - (intOf v).toNat)
  case atStart => exact ⟨0, rfl, Nat.zero_le _, HB3.out, HSZ.out, HRA4.out, [], Kd.R_nil _ _ _ _ _, fun b hb => by simp [Value.ownBlock] at hb, HO.out⟩
  case round =>
    obtain ⟨j, rfl, hj, hB, hS0, hR, out, hRo, hob, hF⟩ := hrel
    have HJB := Lib.hid hB; have HJR := Lib.hid hR; have HJO := Lib.hid hRo; have HOB := Lib.hid hob; have HS0 := Lib.hid hS0
    have hmx : all.length ≤ 9223372036854775807 := (Kd.R_reads' HJR.out).2.2.2.1
    obtain ⟨Av, cv, hvv⟩ := Kd.R_slice HJO.out
    subst hvv
    clear hB hR hRo hob hS0 HO HRA HRA2 HRA3 HRA4 HSZ
    by_cases hlt : j < all.length
    · have e1 : decide ((j : Int) < (all.length : Int)) = true := decide_eq_true (by omega)
      obtain ⟨ad, A1, c1, ha, hRD, hx0, hx1, hx2, hx3, hx4, hx5, hx6, hx7, hx8⟩ := row_at HJR.out rfl (j : Int) (by omega) (by omega)
      subst ha
      have hxx := rd_row hlt
      obtain ⟨x, hx⟩ : ∃ x, x = rd_T44 all (j : Int) := ⟨_, rfl⟩
      rw [← hx] at hRD hx0 hx1 hx2 hx3 hx4 hx5 hx6 hx7 hx8
      simp only [Int.toNat_natCast] at hx0 hx1 hx2 hx3 hx4 hx5 hx6 hx7 hx8
      have hF1 : scanGo k l3 a4 a5 (x :: all.drop (j + 1)) out = some o := by rw [← hF, hx, hxx, ← List.drop_eq_getElem_cons hlt]
      have HRD := Lib.hid hRD
      have HIN := Lib.hid (Kd.R_reads' hRD)
      clear hF hxx hx hRD
      unfold scanGo at hF1
      have HXB := Lib.hid (blk_new wr (.cells #[.slice A1 x.f0.length c1, .int .i64 x.f1, .int .i64 x.f2, .int .u64 x.f3.f0, .bool x.f3.f1, .int .i64 x.f3.f2.f0, .int .u64 x.f3.f2.f1, .int .i64 x.f3.f3, .int .i64 x.f3.f4] 44))
      have hs : ∀ nd : Nat, scanGo k l3 a4 a5 (all.drop (j + 1)) out = some o → ScanRel k l3 a4 a5 all (.slice (some ad) all.length ca) o w H0 (j + 1) (.slice Av out.length cv) ((wr.alloc (.cells #[.slice A1 x.f0.length c1, .int .i64 x.f1, .int .i64 x.f2, .int .u64 x.f3.f0, .bool x.f3.f1, .int .i64 x.f3.f2.f0, .int .u64 x.f3.f2.f1, .int .i64 x.f3.f3, .int .i64 x.f3.f4] 44)).drewN nd) := fun nd hF => ⟨hlt, pw_below_drewN (HJB.out.alloc HJB.out.size _) nd, by have := HS0.out; simp; omega, Kd.R_drewN (Kd.R_alloc HJR.out _) nd, out, Kd.R_drewN (Kd.R_alloc HJO.out _) nd, HOB.out, hF⟩
      have HS := Lib.hid hs
      clear hs
      by_cases hlen : l3.length ≤ x.f0.length
      case neg =>
        rw [if_neg hlen] at hF1
        have HF := Lib.hid hF1
        have d0 : decide ((l3.length : Int) ≤ (x.f0.length : Int)) = false := decide_eq_false (by omega)
        have d0n : decide (l3.length ≤ x.f0.length) = false := decide_eq_false hlen
        clear hF1 hlen
        go_wp2
        go_roundw
        case rel => exact ⟨j + 1, by go_num, HS.out 0 HF.out⟩
        case measure => simp [intOf]; omega
      rw [if_pos hlen] at hF1
      have d0 : decide ((l3.length : Int) ≤ (x.f0.length : Int)) = true := decide_eq_true (by omega)
      have d0n : decide (l3.length ≤ x.f0.length) = true := decide_eq_true hlen
      have m0 : (l3.length ≤ c1) = True := eq_true (by have := HIN.out.2.1; omega)
      have m1 : ((l3.length : Int) ≤ (c1 : Int)) = True := eq_true (by have := HIN.out.2.1; omega)
      have m2 : (0 ≤ (l3.length : Int)) = True := eq_true (by omega)
      obtain ⟨qe, hqe, hF2⟩ := Option.bind_eq_some_iff.mp hF1
      have HCE : Hid (Calls Try.prog 25 #[.slice A1 l3.length c1, .slice A3 l3.length c3] (wr.alloc (.cells #[.slice A1 x.f0.length c1, .int .i64 x.f1, .int .i64 x.f2, .int .u64 x.f3.f0, .bool x.f3.f1, .int .i64 x.f3.f2.f0, .int .u64 x.f3.f2.f1, .int .i64 x.f3.f3, .int .i64 x.f3.f4] 44)) fun e w' => e = .returned (.bool qe) ∧ Drawn0 (wr.alloc (.cells #[.slice A1 x.f0.length c1, .int .i64 x.f1, .int .i64 x.f2, .int .u64 x.f3.f0, .bool x.f3.f1, .int .i64 x.f3.f2.f0, .int .u64 x.f3.f2.f1, .int .i64 x.f3.f3, .int .i64 x.f3.f4] 44)) w') := Lib.hid (by
        have h := slices_Equal_string_string.calls k A1 c1 (x.f0.take l3.length) A3 c3 l3 qe (wr.alloc (.cells #[.slice A1 x.f0.length c1, .int .i64 x.f1, .int .i64 x.f2, .int .u64 x.f3.f0, .bool x.f3.f1, .int .i64 x.f3.f2.f0, .int .u64 x.f3.f2.f1, .int .i64 x.f3.f3, .int .i64 x.f3.f4] 44)) (Kd.C_take (Kd.C_alloc HIN.out.2.2 _) hlen) (by rw [List.length_take]; have := HIN.out.2.1; omega) (Kd.C_below HD.out (HJB.out.alloc HJB.out.size _)) hc3 hqe
        rw [List.length_take, Nat.min_eq_left hlen] at h
        exact h)
      clear hF1 hqe hlen
      by_cases hgo : qe = true ∧ a4 ≤ x.f1 ∧ x.f1 < a5
      · rw [if_pos hgo] at hF2
        obtain ⟨rfl, n1, n2⟩ := hgo
        by_cases hln : out.length < 1000000
        case neg => rw [if_neg hln] at hF2; cases hF2
        rw [if_pos hln] at hF2
        have HF := Lib.hid hF2; have HLN := Lib.hid hln
        have d1 : decide (a4 ≤ x.f1) = true := decide_eq_true n1
        have d2 : decide (x.f1 < a5) = true := decide_eq_true n2
        clear hF2 n1 n2 hln
        go_wp2_with (first
          | (go_at_call 25; with_reducible refine HCE.out.mono ?_; rintro e w4 ⟨rfl, ⟨nd, rfl⟩⟩; have hy0 := (blk_cell (blk_drewN HXB.out nd) 0).trans (show _ = some (Value.slice A1 x.f0.length c1) from rfl); have hy1 := (blk_cell (blk_drewN HXB.out nd) 1).trans (show _ = some (Value.int .i64 x.f1) from rfl); have hy2 := (blk_cell (blk_drewN HXB.out nd) 2).trans (show _ = some (Value.int .i64 x.f2) from rfl); have hy3 := (blk_cell (blk_drewN HXB.out nd) 3).trans (show _ = some (Value.int .u64 x.f3.f0) from rfl); have hy4 := (blk_cell (blk_drewN HXB.out nd) 4).trans (show _ = some (Value.bool x.f3.f1) from rfl); have hy5 := (blk_cell (blk_drewN HXB.out nd) 5).trans (show _ = some (Value.int .i64 x.f3.f2.f0) from rfl); have hy6 := (blk_cell (blk_drewN HXB.out nd) 6).trans (show _ = some (Value.int .u64 x.f3.f2.f1) from rfl); have hy7 := (blk_cell (blk_drewN HXB.out nd) 7).trans (show _ = some (Value.int .i64 x.f3.f3) from rfl); have hy8 := (blk_cell (blk_drewN HXB.out nd) 8).trans (show _ = some (Value.int .i64 x.f3.f4) from rfl))
          | ((with_reducible refine gate_builtin (b := .append) (xs := #[.tmp 73, .tmp 75]) rfl ?_); at_builtin; go_loud (refine Kd.R_append k44 (w0 := w) w.heap.size rfl (.tmp 73) (.tmp 75) 32 44 (.agg #[.slice none 0 0, .int .i64 0, .int .i64 0, .int .u64 0, .bool false, .int .i64 0, .int .u64 0, .int .i64 0, .int .i64 0]) 88 rfl Try.underlying32 info44 rfl (by decide) (by decide) (.slice Av out.length cv) out x [.slice A1 x.f0.length c1, .int .i64 x.f1, .int .i64 x.f2, .int .u64 x.f3.f0, .bool x.f3.f1, .int .i64 x.f3.f2.f0, .int .u64 x.f3.f2.f1, .int .i64 x.f3.f3, .int .i64 x.f3.f4] (fun _ => True) (fun b => b < H0) rfl (show Value.slice (some ⟨wr.heap.size + 1, 0, none⟩) 1 1 = Value.slice (some ⟨((wr.alloc (.cells #[.slice A1 x.f0.length c1, .int .i64 x.f1, .int .i64 x.f2, .int .u64 x.f3.f0, .bool x.f3.f1, .int .i64 x.f3.f2.f0, .int .u64 x.f3.f2.f1, .int .i64 x.f3.f3, .int .i64 x.f3.f4] 44)).drewN nd).heap.size, 0, none⟩) 1 1 from by simp) (k44_mkM _ _ _ x (Kd.R_drewN (Kd.R_alloc HRD.out _) nd)) (fun b hb => ⟨trivial, fun hc => by have := HOB.out b hc.symm; omega⟩) (fun _ _ => trivial) (Kd.R_drewN (Kd.R_alloc HJO.out _) nd) (pw_below_drewN (HJB.out.alloc HJB.out.size _) nd) (by have := HJB.out.size; simp; omega) (by have := HLN.out; omega) ?_); intro v5 w5 ho hb hg hat; have HO5 := Lib.hid ho; have HB5 := Lib.hid hb; have HG5 := Lib.hid hg; have HAT := Lib.hid hat; clear ho hb hg hat))
        go_roundw
        case rel =>
          refine ⟨j + 1, by go_num, hlt, HB5.out, by have h1 := HG5.out.size; have := HS0.out; simp at h1; omega, Kd.R_grown (Kd.R_drewN (Kd.R_alloc HJR.out _) nd) HG5.out (fun b hb hc => by have := HOB.out b hc.symm; omega), out ++ [x], HO5.out, fun b hb => ?_, HF.out⟩
          rcases HAT.out with h | ⟨b', h, hle⟩
          · exact HOB.out b (h ▸ hb)
          · rw [h] at hb
            obtain rfl := Option.some.inj hb
            have := HS0.out
            simp at hle
            omega
        case measure => simp [intOf]; omega
      · rw [if_neg hgo] at hF2
        have HF := Lib.hid hF2
        clear hF2
        cases qe with
        | false =>
          go_wp2_with (go_at_call 25; with_reducible refine HCE.out.mono ?_; rintro e w4 ⟨rfl, ⟨nd, rfl⟩⟩; have hy0 := (blk_cell (blk_drewN HXB.out nd) 0).trans (show _ = some (Value.slice A1 x.f0.length c1) from rfl); have hy1 := (blk_cell (blk_drewN HXB.out nd) 1).trans (show _ = some (Value.int .i64 x.f1) from rfl); have hy2 := (blk_cell (blk_drewN HXB.out nd) 2).trans (show _ = some (Value.int .i64 x.f2) from rfl); have hy3 := (blk_cell (blk_drewN HXB.out nd) 3).trans (show _ = some (Value.int .u64 x.f3.f0) from rfl); have hy4 := (blk_cell (blk_drewN HXB.out nd) 4).trans (show _ = some (Value.bool x.f3.f1) from rfl); have hy5 := (blk_cell (blk_drewN HXB.out nd) 5).trans (show _ = some (Value.int .i64 x.f3.f2.f0) from rfl); have hy6 := (blk_cell (blk_drewN HXB.out nd) 6).trans (show _ = some (Value.int .u64 x.f3.f2.f1) from rfl); have hy7 := (blk_cell (blk_drewN HXB.out nd) 7).trans (show _ = some (Value.int .i64 x.f3.f3) from rfl); have hy8 := (blk_cell (blk_drewN HXB.out nd) 8).trans (show _ = some (Value.int .i64 x.f3.f4) from rfl))
          go_roundw
          case rel => exact ⟨j + 1, by go_num, HS.out nd HF.out⟩
          case measure => simp [intOf]; omega
        | true =>
          by_cases n1 : a4 ≤ x.f1
          · have n2 : ¬ x.f1 < a5 := fun h => hgo ⟨rfl, n1, h⟩
            have d1 : decide (a4 ≤ x.f1) = true := decide_eq_true n1
            have d2 : decide (x.f1 < a5) = false := decide_eq_false n2
            clear n1 n2 hgo
            go_wp2_with (go_at_call 25; with_reducible refine HCE.out.mono ?_; rintro e w4 ⟨rfl, ⟨nd, rfl⟩⟩; have hy0 := (blk_cell (blk_drewN HXB.out nd) 0).trans (show _ = some (Value.slice A1 x.f0.length c1) from rfl); have hy1 := (blk_cell (blk_drewN HXB.out nd) 1).trans (show _ = some (Value.int .i64 x.f1) from rfl); have hy2 := (blk_cell (blk_drewN HXB.out nd) 2).trans (show _ = some (Value.int .i64 x.f2) from rfl); have hy3 := (blk_cell (blk_drewN HXB.out nd) 3).trans (show _ = some (Value.int .u64 x.f3.f0) from rfl); have hy4 := (blk_cell (blk_drewN HXB.out nd) 4).trans (show _ = some (Value.bool x.f3.f1) from rfl); have hy5 := (blk_cell (blk_drewN HXB.out nd) 5).trans (show _ = some (Value.int .i64 x.f3.f2.f0) from rfl); have hy6 := (blk_cell (blk_drewN HXB.out nd) 6).trans (show _ = some (Value.int .u64 x.f3.f2.f1) from rfl); have hy7 := (blk_cell (blk_drewN HXB.out nd) 7).trans (show _ = some (Value.int .i64 x.f3.f3) from rfl); have hy8 := (blk_cell (blk_drewN HXB.out nd) 8).trans (show _ = some (Value.int .i64 x.f3.f4) from rfl))
            go_roundw
            case rel => exact ⟨j + 1, by go_num, HS.out nd HF.out⟩
            case measure => simp [intOf]; omega
          · have d1 : decide (a4 ≤ x.f1) = false := decide_eq_false n1
            clear n1 hgo
            go_wp2_with (go_at_call 25; with_reducible refine HCE.out.mono ?_; rintro e w4 ⟨rfl, ⟨nd, rfl⟩⟩; have hy0 := (blk_cell (blk_drewN HXB.out nd) 0).trans (show _ = some (Value.slice A1 x.f0.length c1) from rfl); have hy1 := (blk_cell (blk_drewN HXB.out nd) 1).trans (show _ = some (Value.int .i64 x.f1) from rfl); have hy2 := (blk_cell (blk_drewN HXB.out nd) 2).trans (show _ = some (Value.int .i64 x.f2) from rfl); have hy3 := (blk_cell (blk_drewN HXB.out nd) 3).trans (show _ = some (Value.int .u64 x.f3.f0) from rfl); have hy4 := (blk_cell (blk_drewN HXB.out nd) 4).trans (show _ = some (Value.bool x.f3.f1) from rfl); have hy5 := (blk_cell (blk_drewN HXB.out nd) 5).trans (show _ = some (Value.int .i64 x.f3.f2.f0) from rfl); have hy6 := (blk_cell (blk_drewN HXB.out nd) 6).trans (show _ = some (Value.int .u64 x.f3.f2.f1) from rfl); have hy7 := (blk_cell (blk_drewN HXB.out nd) 7).trans (show _ = some (Value.int .i64 x.f3.f3) from rfl); have hy8 := (blk_cell (blk_drewN HXB.out nd) 8).trans (show _ = some (Value.int .i64 x.f3.f4) from rfl))
            go_roundw
            case rel => exact ⟨j + 1, by go_num, HS.out nd HF.out⟩
            case measure => simp [intOf]; omega
    · have e1 : decide ((j : Int) < (all.length : Int)) = false := decide_eq_false (by omega)
      rw [List.drop_eq_nil_of_le (by omega)] at hF
      obtain rfl := Option.some.inj hF
      clear hF
      go_wp2
      go_ret2
      exact ⟨_, rfl, HJO.out, HJB.out⟩
abbrev KeyB := List UInt8
def lookG (key : KeyB) : List (KeyB × Rw) → Option Rw
  | [] => none
  | p :: r => if p.1 = key then some p.2 else lookG key r
def putG (key : KeyB) (x : Rw) : List (KeyB × Rw) → List (KeyB × Rw)
  | [] => [(key, x)]
  | p :: r => if p.1 = key then (key, x) :: r else if key < p.1 then (key, x) :: p :: r else p :: putG key x r
def risesG (M : List (KeyB × Rw)) : Prop := M.Pairwise (fun p q => p.1 < q.1)
theorem keyB_lt {a b : KeyB} (h : ¬ a < b) (hne : a ≠ b) : b < a := by
  refine Decidable.byContradiction fun h2 => hne ?_
  exact List.le_antisymm (List.not_lt.1 h2) (List.not_lt.1 h)
theorem lookG_put_same (key : KeyB) (x : Rw) : ∀ M, lookG key (putG key x M) = some x
  | [] => by simp [putG, lookG]
  | p :: r => by
    unfold putG
    split
    · simp [lookG]
    · rename_i h
      split
      · simp [lookG]
      · unfold lookG; rw [if_neg h]; exact lookG_put_same key x r
theorem lookG_put_other {key k' : KeyB} (x : Rw) (hne : k' ≠ key) : ∀ M, lookG k' (putG key x M) = lookG k' M
  | [] => by simp [putG, lookG, hne.symm]
  | p :: r => by
    unfold putG
    split
    · rename_i h
      unfold lookG
      rw [if_neg hne.symm, if_neg (by rw [h]; exact hne.symm)]
    · split
      · conv => lhs; unfold lookG
        rw [if_neg hne.symm]
      · unfold lookG
        rw [lookG_put_other x hne r]
theorem mem_putG {key : KeyB} {x : Rw} {q : KeyB × Rw} : ∀ {M}, q ∈ putG key x M → q = (key, x) ∨ q ∈ M
  | [], h => by simp [putG] at h; exact .inl h
  | p :: r, h => by
    unfold putG at h
    split at h
    · rcases List.mem_cons.1 h with h | h
      · exact .inl h
      · exact .inr (List.mem_cons_of_mem _ h)
    · split at h
      · rcases List.mem_cons.1 h with h | h
        · exact .inl h
        · exact .inr h
      · rcases List.mem_cons.1 h with h | h
        · exact .inr (h ▸ List.mem_cons_self)
        · rcases mem_putG h with h | h
          · exact .inl h
          · exact .inr (List.mem_cons_of_mem _ h)
theorem risesG_put {key : KeyB} {x : Rw} : ∀ {M}, risesG M → risesG (putG key x M)
  | [], _ => by simp [putG, risesG]
  | p :: r, h => by
    have ⟨h1, h2⟩ := List.pairwise_cons.1 h
    unfold putG
    split
    · rename_i e
      exact List.pairwise_cons.2 ⟨fun q hq => by have := h1 q hq; rw [e] at this; exact this, h2⟩
    · rename_i hne
      split
      · rename_i hlt
        refine List.pairwise_cons.2 ⟨fun q hq => ?_, h⟩
        rcases List.mem_cons.1 hq with rfl | hq
        · exact hlt
        · exact List.lt_trans hlt (h1 q hq)
      · rename_i hnl
        refine List.pairwise_cons.2 ⟨fun q hq => ?_, risesG_put h2⟩
        rcases mem_putG hq with rfl | hq
        · exact keyB_lt hnl (fun e => hne e.symm)
        · exact h1 q hq
theorem putG_len (key : KeyB) (x : Rw) : ∀ M, (putG key x M).length ≤ M.length + 1
  | [] => by simp [putG]
  | p :: r => by
    unfold putG
    split
    · simp
    · split
      · simp
      · simpa using putG_len key x r
theorem lookG_mem {key : KeyB} {x : Rw} : ∀ {M}, risesG M → ((key, x) ∈ M ↔ lookG key M = some x)
  | [], _ => by simp [lookG]
  | p :: r, h => by
    have ⟨h1, h2⟩ := List.pairwise_cons.1 h
    unfold lookG
    by_cases e : p.1 = key
    · rw [if_pos e]
      constructor
      · intro hm
        rcases List.mem_cons.1 hm with hm | hm
        · rw [← hm]
        · have := h1 _ hm; rw [e] at this; exact absurd this (List.lt_irrefl _)
      · intro hs
        have : p = (key, x) := by rw [← e, ← Option.some.inj hs]
        rw [← this]; exact List.mem_cons_self
    · rw [if_neg e, ← lookG_mem h2]
      constructor
      · intro hm
        rcases List.mem_cons.1 hm with hm | hm
        · exact absurd (by rw [← hm]) e
        · exact hm
      · exact List.mem_cons_of_mem _
theorem keysG_nodup {M : List (KeyB × Rw)} (h : risesG M) : (M.map (·.1)).Nodup := by
  refine List.pairwise_map.2 (h.imp (fun {p q} hlt e => ?_))
  rw [e] at hlt
  exact List.lt_irrefl _ hlt
theorem keysG_mem {M : List (KeyB × Rw)} (h : risesG M) (key : KeyB) : key ∈ M.map (·.1) ↔ (lookG key M).isSome = true := by
  rw [List.mem_map]
  constructor
  · rintro ⟨p, hp, rfl⟩
    rw [(lookG_mem h).1 (show (p.1, p.2) ∈ M from hp)]
    rfl
  · intro hs
    obtain ⟨x, hx⟩ := Option.isSome_iff_exists.1 hs
    exact ⟨(key, x), (lookG_mem h).2 hx, rfl⟩
theorem keysG_sorted {M : List (KeyB × Rw)} (h : risesG M) {ss : List KeyB} (hp : ss.Perm (M.map (·.1))) : ss.mergeSort leB = M.map (·.1) := by
  rw [mergeSort_of_perm hp]
  refine List.mergeSort_of_pairwise (List.pairwise_map.2 (h.imp (fun {p q} hlt => ?_)))
  simp only [leB, decide_eq_true_eq]
  exact List.le_of_lt hlt
def heldR (v : Value) : Option (DataW Value × List MemPlace) := some (.held v, [])
def rowV (v : Value) (x : Rw) : Value := .agg #[v, .int .i64 x.f1, .int .i64 x.f2, .int .u64 x.f3.f0, .bool x.f3.f1, .int .i64 x.f3.f2.f0, .int .u64 x.f3.f2.f1, .int .i64 x.f3.f3, .int .i64 x.f3.f4]
def MapRel (w : World) (base : Nat) (ok : Nat → Prop) (b n : Nat) (M : List (KeyB × Rw)) (D : DataW Value) : Prop :=
  risesG M ∧ w.ownsMap Try.prog 9 heldR b n D ∧ (∀ key, Maps.has D (.string key) = (lookG key M).isSome) ∧ ∀ key x, lookG key M = some x → ∃ v0, (∀ z, D.atKey (.string key) z = .held (rowV v0 x)) ∧ Kd.R Kd.string 9 w base ok v0 x.f0
theorem MapRel.made (w : World) (base : Nat) (ok : Nat → Prop) : MapRel (w.alloc (.map #[] 0)) base ok w.heap.size 0 [] (.map []) :=
  ⟨List.Pairwise.nil, World.ownsMap_made w _ _ _, fun key => by simp [lookG, Maps.has], fun key x h => by simp [lookG] at h⟩
section
variable {w w1 : World} {base : Nat} {ok : Nat → Prop} {b n : Nat} {M : List (KeyB × Rw)} {D : DataW Value}
theorem MapRel.lt (h : MapRel w base ok b n M D) : b < w.heap.size := h.2.1.lt
theorem MapRel.grown (h : MapRel w base ok b n M D) {row : Option Nat} (hg : w.grownBy w1 row) (hne : some b ≠ row) (hok : ∀ k, ok k → some k ≠ row) : MapRel w1 base ok b n M D :=
  ⟨h.1, h.2.1.kept hg hne, h.2.2.1, fun key x hx => by obtain ⟨v0, h1, h2⟩ := h.2.2.2 key x hx; exact ⟨v0, h1, Kd.R_grown h2 hg hok⟩⟩
theorem MapRel.below (h : MapRel w base ok b n M D) (hb : Below w.heap.size w w1) : MapRel w1 base ok b n M D := by
  have hlt := h.lt
  obtain ⟨h1, ⟨es, clock, h2, h3⟩, h4, h5⟩ := h
  exact ⟨h1, ⟨es, clock, (hb.block b hlt).trans h2, h3⟩, h4, fun key x hx => by obtain ⟨v0, e1, e2⟩ := h5 key x hx; exact ⟨v0, e1, Kd.R_below e2 hb⟩⟩
theorem MapRel.mono (h : MapRel w base ok b n M D) {ok' : Nat → Prop} (hok : ∀ k, ok k → ok' k) : MapRel w base ok' b n M D :=
  ⟨h.1, h.2.1, h.2.2.1, fun key x hx => by obtain ⟨v0, e1, e2⟩ := h.2.2.2 key x hx; exact ⟨v0, e1, Kd.R_mono e2 hok⟩⟩
theorem MapRel.bound (h : MapRel w base ok b n M D) : MapRel w base (fun k => ok k ∧ k < w.heap.size) b n M D :=
  ⟨h.1, h.2.1, h.2.2.1, fun key x hx => by obtain ⟨v0, e1, e2⟩ := h.2.2.2 key x hx; exact ⟨v0, e1, Kd.R_mono (Kd.R_bound e2) (fun k hk => ⟨hk.1, hk.2.2.1⟩)⟩⟩
theorem MapRel.put (h : MapRel w base ok b n M D) (key : KeyB) (x : Rw) (v0 : Value) (hv : Kd.R Kd.string 9 w base ok v0 x.f0) (hok : ∀ k, ok k → some k ≠ some b) (hown : w1.ownsMap Try.prog 9 heldR b (n + 1) (D.put (.string key) (.held (rowV v0 x)))) (hg : w.grownBy w1 (some b)) :
    MapRel w1 base ok b (n + 1) (putG key x M) (D.put (.string key) (.held (rowV v0 x))) := by
  have hD := h.2.1.isMap
  have hk : WideAt.IsKeyLit (.string key) := trivial
  refine ⟨risesG_put h.1, hown, fun k' => ?_, fun k' y hy => ?_⟩
  · by_cases e : k' = key
    · subst e
      rw [Maps.has_put_same hD hk, lookG_put_same]; rfl
    · rw [Maps.has_put_other (fun hc => e (by injection hc)), lookG_put_other x e]
      exact h.2.2.1 k'
  · by_cases e : k' = key
    · subst e
      rw [lookG_put_same] at hy
      obtain rfl := Option.some.inj hy
      exact ⟨v0, fun z => Maps.atKey_put_same hD hk _ z, Kd.R_grown hv hg hok⟩
    · rw [lookG_put_other x e] at hy
      obtain ⟨v1, e1, e2⟩ := h.2.2.2 k' y hy
      exact ⟨v1, fun z => by rw [Maps.atKey_put_other (fun hc => e (by injection hc))]; exact e1 z, Kd.R_grown e2 hg hok⟩
theorem MapRel.keys (h : MapRel w base ok b n M D) : (M.map (·.1)).Perm (strKeys D) := by
  obtain ⟨h1, hown, h2, _⟩ := h
  obtain ⟨es, hD, hpw, _⟩ := hown.entries (Maps.string_keyed Try.underlying9)
  obtain ⟨es', hD', hko⟩ := hown.keysOf
  obtain rfl : es = es' := by rw [hD] at hD'; simpa using hD'
  subst hD
  refine perm_strKeys hpw (fun p hp => ?_) (keysG_nodup h1) (fun x => ?_)
  · obtain ⟨key, hk⟩ := hko p hp
    obtain ⟨x, _, hx, _⟩ := Maps.keyOf_str Try.underlying9 hk
    exact ⟨x, hx⟩
  · rw [keysG_mem h1, h2]
end
theorem wpList_look {P : Program} (w : World) {ops : Array Oper} {rest : List Oper} {o : Oper} {a : Act} {Q : Exit → Act → World → Prop}
    (hg : o.guard = none) (m x : Operand) (t : TypeId) (hop : o.op = Op.lookup t m x false)
    (k e : TypeId) (K : Maps.Keyed P k) (ht : P.underlying t = some (.map k e)) {z : Value} (hz : (zeroValue e).run P w = .ok z w) (b n : Nat) (D : DataW Value)
    (hm : a.eval m = .map (some b)) (hown : w.ownsMap P k heldR b n D) (key : Value) (kl : Lit) (hx : a.eval x = key) (hkey : keyOf P k key = some kl) (v0 : Value) (hat : D.atKey kl (.held z) = .held v0)
    (hK : wpList P ops Q rest (a.put o.dst v0) w) :
    wpList P ops Q (o :: rest) a w := by
  refine wpList_plain hg fun K' hK' => ?_
  obtain ⟨v, ps, hrun, hv⟩ := hown.lookup K ht hz (show heldR z = some (.held z, []) from rfl) hkey
  have : v = v0 := by
    unfold heldR at hv
    have := (Prod.mk.inj (Option.some.inj hv)).1
    rw [hat] at this
    injection this
  subst this
  unfold Oper.wp
  simp [execOp, hop, hm, hx, hrun, Result.andThen]
  exact hK' _ _ hK
end Go.Proofs.Ytdopbhbbpgfliaa.PAsk
end
section
namespace Go.Proofs
open Go.Shelf
set_option linter.unusedVariables false
set_option linter.unusedSimpArgs false
set_option maxHeartbeats 8000000
set_option maxRecDepth 100000
def Try.lays190_ren : Go.Shelf.Ren := ⟨fun | 190 => 28 | 125 => 45 | 258 => 44 | 128 => 75 | 129 => 76 | 302 => 66 | 303 => 67 | 304 => 68 | 305 => 69 | 306 => 70 | 307 => 71 | 308 => 72 | 309 => 73 | 310 => 74 | 333 => 89 | 329 => 90 | 330 => 91 | 334 => 92 | 335 => 93 | 336 => 94 | 344 => 102 | n => n, fun | 31 => 26 | 9 => 9 | 3 => 3 | 46 => 99 | 0 => 0 | 51 => 128 | 53 => 38 | 4 => 4 | 183 => 121 | 182 => 120 | 131 => 107 | 5 => 5 | 218 => 139 | 222 => 143 | 228 => 151 | 229 => 152 | n => n, fun | n => n⟩
theorem Try.lays190 : Go.Proofs.Lays.n190 Try.prog Try.lays190_ren := {
  mixed := by kernel_rfl
  f125 := Try.func45.trans (congrArg some (by kernel_rfl))
  f128 := Try.func75.trans (congrArg some (by kernel_rfl))
  f129 := Try.func76.trans (congrArg some (by kernel_rfl))
  f190 := Try.func28.trans (congrArg some (by kernel_rfl))
  f258 := Try.func44.trans (congrArg some (by kernel_rfl))
  f302 := Try.func66.trans (congrArg some (by kernel_rfl))
  f303 := Try.func67.trans (congrArg some (by kernel_rfl))
  f304 := Try.func68.trans (congrArg some (by kernel_rfl))
  f305 := Try.func69.trans (congrArg some (by kernel_rfl))
  f306 := Try.func70.trans (congrArg some (by kernel_rfl))
  f307 := Try.func71.trans (congrArg some (by kernel_rfl))
  f308 := Try.func72.trans (congrArg some (by kernel_rfl))
  f309 := Try.func73.trans (congrArg some (by kernel_rfl))
  f310 := Try.func74.trans (congrArg some (by kernel_rfl))
  f329 := Try.func90.trans (congrArg some (by kernel_rfl))
  f330 := Try.func91.trans (congrArg some (by kernel_rfl))
  f333 := Try.func89.trans (congrArg some (by kernel_rfl))
  f334 := Try.func92.trans (congrArg some (by kernel_rfl))
  f335 := Try.func93.trans (congrArg some (by kernel_rfl))
  f336 := Try.func94.trans (congrArg some (by kernel_rfl))
  f344 := Try.func102.trans (congrArg some (by kernel_rfl))
  t0 := Try.underlying0
  a0 := Try.isAgg0
  z0 := Try.sizeOf0
  v0 := Try.zeroValue0
  t3 := Try.underlying3
  a3 := Try.isAgg3
  z3 := Try.sizeOf3
  v3 := Try.zeroValue3
  t4 := Try.underlying4
  a4 := Try.isAgg4
  z4 := Try.sizeOf4
  v4 := Try.zeroValue4
  t5 := Try.underlying5
  a5 := Try.isAgg5
  z5 := Try.sizeOf5
  v5 := Try.zeroValue5
  t9 := Try.underlying9
  a9 := Try.isAgg9
  z9 := Try.sizeOf9
  v9 := Try.zeroValue9
  t31 := Try.underlying26
  a31 := Try.isAgg26
  z31 := Try.sizeOf26
  v31 := Try.zeroValue26
  t46 := Try.underlying99
  a46 := Try.isAgg99
  z46 := Try.sizeOf99
  v46 := Try.zeroValue99
  t51 := Try.underlying128
  a51 := Try.isAgg128
  z51 := Try.sizeOf128
  v51 := Try.zeroValue128
  t53 := Try.underlying38
  a53 := Try.isAgg38
  z53 := Try.sizeOf38
  v53 := Try.zeroValue38
  t131 := Try.underlying107
  a131 := Try.isAgg107
  z131 := Try.sizeOf107
  v131 := Try.zeroValue107
  t182 := Try.underlying120
  a182 := Try.isAgg120
  z182 := Try.sizeOf120
  v182 := Try.zeroValue120
  t183 := Try.underlying121
  a183 := Try.isAgg121
  z183 := Try.sizeOf121
  v183 := Try.zeroValue121
  t218 := Try.underlying139
  a218 := Try.isAgg139
  z218 := Try.sizeOf139
  v218 := Try.zeroValue139
  t222 := Try.underlying143
  a222 := Try.isAgg143
  z222 := Try.sizeOf143
  v222 := Try.zeroValue143
  t228 := Try.underlying151
  a228 := Try.isAgg151
  z228 := Try.sizeOf151
  v228 := Try.zeroValue151
  t229 := Try.underlying152
  a229 := Try.isAgg152
  z229 := Try.sizeOf152
  v229 := Try.zeroValue152 }
open Go.Sort Go.RowKit in
theorem Try.slices_Sort_string (blk off cap : Nat) (ss : List (List UInt8)) (w : World) (hH : Holds encStr w blk off ss.toArray) (hblk : blk < w.heap.size) (hsz : ss.length < 4611686018427387904) :
    Calls Try.prog 28 #[.slice (some ⟨blk, off, none⟩) ss.length cap] w fun e w' =>
      e = .returned (.tuple #[]) ∧ ∃ n os, w' = grow (putRow encStr (Sort.ahead w n) blk off (ss.mergeSort fun x y => decide (x ≤ y)).toArray) os := Any.slices_Sort_string Try.lays190 blk off cap ss w hH hblk hsz
open Go.RowKit Go.Sort in
theorem Try.slices_Sort_string_none (p : Option Addr) (cap : Nat) (w : World) :
    Calls Try.prog 28 #[.slice p 0 cap] w fun e w' => e = .returned (.tuple #[]) ∧ w' = w := Any.slices_Sort_string_none Try.lays190 p cap w
end Go.Proofs
end
section
namespace Go.Proofs.Ytdopbhbbpgfliaa.PAsk
open Go.RowKit Go.Proofs.YtdopbhbbpgfliaaW.PrintWords Go.Sort
set_option linter.unusedVariables false
set_option linter.unusedSimpArgs false
set_option maxHeartbeats 8000000
set_option maxRecDepth 100000
theorem sort_names {W : World} {base : Nat} {v : Value} {ss : List (List UInt8)} (h : W.ownsRow base 9 1 v ss.length (ss.map encStr)) (hsz : ss.length < 4611686018427387904) :
    Calls Try.prog 28 #[v] W fun e w' => e = .returned (.tuple #[]) ∧ w'.ownsRow base 9 1 v ss.length ((ss.mergeSort leB).map encStr) ∧ W.grownBy w' v.ownBlock := by
  rcases h.2 with ⟨hv, h0⟩ | ⟨g, cap, cur, hv, hb, hg, hl, hc, hs, ht⟩
  · have h0' : ss = [] := List.length_eq_zero_iff.1 h0
    subst hv h0'
    refine (Try.slices_Sort_string_none none 0 W).mono ?_
    rintro e w' ⟨he, rfl⟩
    refine ⟨he, ?_, ⟨rfl, rfl, rfl, Nat.le_refl _, fun _ _ _ => rfl⟩⟩
    simpa using h
  · subst hv
    have hH : Holds encStr W g 0 ss.toArray := holds_of_block hg (by simpa using ht)
    refine (Try.slices_Sort_string g 0 cap ss W hH (Array.getElem?_eq_some_iff.1 hg).1 hsz).mono ?_
    rintro e w' ⟨he, n, os, rfl⟩
    refine ⟨he, ?_, grownBy_sorted _⟩
    exact ownsRow_sorted (n := n) (os := os) (by simp) hb hg hl hc hs
theorem names_at {W : World} {base n c : Nat} {A : Option Addr} {ks : List (List UInt8)} (h : W.ownsRow base 9 1 (.slice A n c) n (ks.map Go.Proofs.encStr)) (hk : ks.length = n) {j : Nat} (hj : j < n) :
    ∃ g, A = some ⟨g, 0, none⟩ ∧ W.cell? ⟨g, j, none⟩ = some (Go.Proofs.encStr (ks[j]'(by omega))) := by
  rcases h.2 with ⟨hv, h0⟩ | ⟨g, cap, cur, hv, hb, hg, hl, hc, hs, ht⟩
  · omega
  · injection hv with h1 _ _
    refine ⟨g, h1, ?_⟩
    have hH : Holds Go.Proofs.encStr W g 0 ks.toArray := holds_of_block hg (by simpa [hk] using ht)
    have := (hH j (by simpa [hk] using hj)).1
    rw [Nat.zero_add] at this
    rw [this, getElem!_pos ks.toArray j (by simpa [hk] using hj)]
    simp
end Go.Proofs.Ytdopbhbbpgfliaa.PAsk
end
