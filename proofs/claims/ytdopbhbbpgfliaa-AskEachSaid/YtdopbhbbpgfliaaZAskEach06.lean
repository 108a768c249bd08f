import Derived.Test.YtdopbhbbpgfliaaZAskEach03
import Derived.Test.YtdopbhbbpgfliaaZAskEach04
import Derived.Lib.Hide
import Derived.Outline
import Derived.Shelf.Abstract
section
namespace Go.Proofs.Ytdopbhbbpgfliaa.PAsk
open Go.RowKit Go.Proofs.YtdopbhbbpgfliaaW.PrintWords Go.Proofs.YtdopbhbbpgfliaaW.PrintLast Go.Proofs.YtdopbhbbpgfliaaW.PrintMore
attribute [local go_sem] max2_int min2_int max_two min_two max_three min_three max_four min_four   -- for this text's walks alone
set_option linter.unusedVariables false
set_option linter.unusedSimpArgs false
set_option maxHeartbeats 8000000
set_option maxRecDepth 100000
def rickyardlaw15_Great.l0 : Nat → List (S60) → Int → Option (Bool)
 | 0, _, _ => none
 | k + 1, x0, x3 => if x3 < (x0.length : Int) then (if 0 ≤ x3 then (if (((rd_T60 x0 x3).f0).length : Int) > 300 then (some true) else (rickyardlaw15_Great.l0 k x0 (wrap64 (x3 + 1)))) else (none)) else (some false)
def rickyardlaw15_Great.f (k : Nat) (l0 : List (S60)) : Option (Bool) := if (l0.length : Int) > 60 then (some true) else (rickyardlaw15_Great.l0 k l0 0)
theorem rickyardlaw15_Great.calls (k : Nat) (A0 : Option Addr) (c0 : Nat) (l0 : List (S60)) (r : Bool) (w : World) (hr0 : Kd.C k60 w A0 l0.length l0) (hc0 : l0.length ≤ c0) (h : rickyardlaw15_Great.f k l0 = some r) :
  Calls Try.prog 7 #[.slice A0 l0.length c0] w fun e w' => e = .returned (.bool r) ∧ Drawn0 w w' := by
 have HR0 := Aside0.mk hr0
 have HC0 := Aside0.mk hc0
 clear hr0 hc0
 have H : (if (l0.length : Int) > 60 then (some true) else (rickyardlaw15_Great.l0 k l0 0)) = some r := h
 clear h
 by_cases c2 : (l0.length : Int) > 60
 ·rw [if_pos c2] at H
  have c2b0 := decide_eq_true c2
  have c2b1 : decide (60 < l0.length) = true := decide_eq_true (by omega)
  clear c2
  obtain rfl := Option.some.inj H
  go_enter Try.func7, Try.ntmps7
  go_wp2
  go_ret
  exact ⟨by first | rfl | (simp; done) | (simp [*]; done), by repeat (first | exact Drawn0.refl _ | apply Drawn0.step)⟩
 rw [if_neg c2] at H
 have c2b0 := decide_eq_false c2
 have c2b1 : decide (60 < l0.length) = false := decide_eq_false (by omega)
 clear c2
 have H' := Aside0.mk H
 clear H
 go_enter Try.func7, Try.ntmps7
 go_wp2
 go_loopg [3] k (fun kq v3 w' => ∃ (x3_1 : Int), v3 = .int .i64 x3_1 ∧ Aside0 (rickyardlaw15_Great.l0 kq l0 x3_1 = some r) ∧ Aside0 (kq ≤ k) ∧ Drawn0 w w')
 case atStart => exact ⟨(0), relA, H', ⟨Nat.le_refl _⟩, by repeat (first | exact Drawn0.refl _ | apply Drawn0.step)⟩
 case round =>
  clear H'
  try clear c2
  try clear c2b0
  try clear c2b1
  try clear p2
  obtain ⟨x3_1, rfl, HA, HK1, ⟨m1, rfl⟩⟩ := hrel
  cases gk with
  | zero => exact absurd HA.out (by simp [rickyardlaw15_Great.l0])
  | succ k1 =>
   have H := HA.out
   clear HA
   simp only [rickyardlaw15_Great.l0] at H
   by_cases c3 : x3_1 < (l0.length : Int)
   ·rw [if_pos c3] at H
    have c3b0 := decide_eq_true c3
    clear c3
    by_cases c4 : 0 ≤ x3_1
    ·rw [if_pos c4] at H
     have c4b0 := decide_eq_true c4
     clear c4
     by_cases c5 : (((rd_T60 l0 x3_1).f0).length : Int) > 300
     ·rw [if_pos c5] at H
      have c5b0 := decide_eq_true c5
      have c5b1 : decide (300 < ((rd_T60 l0 x3_1).f0).length) = true := decide_eq_true (by omega)
      clear c5
      obtain rfl := Option.some.inj H
      have p101 : 0 ≤ (x3_1 : Int) := of_decide_eq_true asmA
      have q101 : x3_1 < (l0.length : Int) := of_decide_eq_true asmA
      obtain ⟨ad101, A101_0, c101_0, e101, hx101_0, hx101_1, hx101_2, hx101_3, hx101_4, hx101_5, hx101_6, hl101_0, hi101_0⟩ := at_T60 HR0.out x3_1 p101 q101
      cases e101
      have HR101_0 := Aside0.mk hi101_0
      have HC101_0 := Aside0.mk hl101_0
      clear hi101_0 hl101_0
      replace p101 := eq_true p101
      replace q101 := eq_true q101
      go_wp2
      go_ret
      exact ⟨by first | rfl | (simp; done) | (simp [*]; done), by repeat (first | exact Drawn0.refl _ | apply Drawn0.step)⟩
     ·rw [if_neg c5] at H
      have c5b0 := decide_eq_false c5
      have c5b1 : decide (300 < ((rd_T60 l0 x3_1).f0).length) = false := decide_eq_false (by omega)
      clear c5
      have H' := Aside0.mk H
      clear H
      have p101 : 0 ≤ (x3_1 : Int) := of_decide_eq_true asmA
      have q101 : x3_1 < (l0.length : Int) := of_decide_eq_true asmA
      obtain ⟨ad101, A101_0, c101_0, e101, hx101_0, hx101_1, hx101_2, hx101_3, hx101_4, hx101_5, hx101_6, hl101_0, hi101_0⟩ := at_T60 HR0.out x3_1 p101 q101
      cases e101
      have HR101_0 := Aside0.mk hi101_0
      have HC101_0 := Aside0.mk hl101_0
      clear hi101_0 hl101_0
      replace p101 := eq_true p101
      replace q101 := eq_true q101
      go_wp2
      go_roundg k1
      case measure => have := HK1.out; omega
      case rel => exact ⟨(wrap64 (x3_1 + 1)), relA, H', ⟨by have := HK1.out; omega⟩, by repeat (first | exact Drawn0.refl _ | apply Drawn0.step)⟩
    ·rw [if_neg c4] at H
     exact absurd H (by simp)
   ·rw [if_neg c3] at H
    have c3b0 := decide_eq_false c3
    clear c3
    obtain rfl := Option.some.inj H
    go_wp2
    go_ret
    exact ⟨by first | rfl | (simp; done) | (simp [*]; done), by repeat (first | exact Drawn0.refl _ | apply Drawn0.step)⟩
mutual
def rickyardlaw15_Many.l0 : Nat → List (S63) → Int → Option (Bool)
 | 0, _, _ => none
 | k + 1, x0, x3 => if x3 < (x0.length : Int) then (if 0 ≤ x3 then (if (((rd_T63 x0 x3).f0).length : Int) > 20 then (some true) else (rickyardlaw15_Many.l1 k x0 x3 0)) else (none)) else (some false)
def rickyardlaw15_Many.l1 : Nat → List (S63) → Int → Int → Option (Bool)
 | 0, _, _, _ => none
 | k + 1, x0, x3, x4 => if 0 ≤ x3 then (if x3 < (x0.length : Int) then (if x4 < (((rd_T63 x0 x3).f0).length : Int) then (if 0 ≤ x4 then (if ((rdOf ByteArray.empty ((rd_T63 x0 x3).f0) x4).size : Int) > 100 then (some true) else (rickyardlaw15_Many.l1 k x0 x3 (wrap64 (x4 + 1)))) else (none)) else (rickyardlaw15_Many.l0 k x0 (wrap64 (x3 + 1)))) else (none)) else (none)
end
def rickyardlaw15_Many.f (k : Nat) (l0 : List (S63)) : Option (Bool) := if (l0.length : Int) > 60 then (some true) else (rickyardlaw15_Many.l0 k l0 0)
theorem rickyardlaw15_Many.calls (k : Nat) (A0 : Option Addr) (c0 : Nat) (l0 : List (S63)) (r : Bool) (w : World) (hr0 : Kd.C k63 w A0 l0.length l0) (hc0 : l0.length ≤ c0) (h : rickyardlaw15_Many.f k l0 = some r) :
  Calls Try.prog 19 #[.slice A0 l0.length c0] w fun e w' => e = .returned (.bool r) ∧ Drawn0 w w' := by
 have HR0 := Aside0.mk hr0
 have HC0 := Aside0.mk hc0
 clear hr0 hc0
 have H : (if (l0.length : Int) > 60 then (some true) else (rickyardlaw15_Many.l0 k l0 0)) = some r := h
 clear h
 by_cases c2 : (l0.length : Int) > 60
 ·rw [if_pos c2] at H
  have c2b0 := decide_eq_true c2
  have c2b1 : decide (60 < l0.length) = true := decide_eq_true (by omega)
  clear c2
  obtain rfl := Option.some.inj H
  go_enter Try.func19, Try.ntmps19
  go_wp2
  go_ret
  exact ⟨by first | rfl | (simp; done) | (simp [*]; done), by repeat (first | exact Drawn0.refl _ | apply Drawn0.step)⟩
 rw [if_neg c2] at H
 have c2b0 := decide_eq_false c2
 have c2b1 : decide (60 < l0.length) = false := decide_eq_false (by omega)
 clear c2
 have H' := Aside0.mk H
 clear H
 go_enter Try.func19, Try.ntmps19
 go_wp2
 go_loopg [3] k (fun kq v3 w' => ∃ (x3_1 : Int), v3 = .int .i64 x3_1 ∧ Aside0 (rickyardlaw15_Many.l0 kq l0 x3_1 = some r) ∧ Aside0 (kq ≤ k) ∧ Drawn0 w w')
 case atStart => exact ⟨(0), relA, H', ⟨Nat.le_refl _⟩, by repeat (first | exact Drawn0.refl _ | apply Drawn0.step)⟩
 case round =>
  clear H'
  try clear c1
  try clear c2
  try clear c2b0
  try clear c2b1
  try clear p2
  obtain ⟨x3_1, rfl, HA, HK1, ⟨m1, rfl⟩⟩ := hrel
  cases gk with
  | zero => exact absurd HA.out (by simp [rickyardlaw15_Many.l0])
  | succ k1 =>
   have H := HA.out
   clear HA
   simp only [rickyardlaw15_Many.l0] at H
   by_cases c3 : x3_1 < (l0.length : Int)
   ·rw [if_pos c3] at H
    have c3b0 := decide_eq_true c3
    clear c3
    by_cases c4 : 0 ≤ x3_1
    ·rw [if_pos c4] at H
     have c4b0 := decide_eq_true c4
     clear c4
     by_cases c5 : (((rd_T63 l0 x3_1).f0).length : Int) > 20
     ·rw [if_pos c5] at H
      have c5b0 := decide_eq_true c5
      have c5b1 : decide (20 < ((rd_T63 l0 x3_1).f0).length) = true := decide_eq_true (by omega)
      clear c5
      obtain rfl := Option.some.inj H
      have p102 : 0 ≤ (x3_1 : Int) := of_decide_eq_true asmA
      have q102 : x3_1 < (l0.length : Int) := of_decide_eq_true asmA
      obtain ⟨ad102, A102_0, c102_0, e102, hx102_0, hx102_1, hx102_2, hl102_0, hi102_0⟩ := at_T63 HR0.out x3_1 p102 q102
      cases e102
      have HR102_0 := Aside0.mk hi102_0
      have HC102_0 := Aside0.mk hl102_0
      clear hi102_0 hl102_0
      replace p102 := eq_true p102
      replace q102 := eq_true q102
      go_wp2
      go_ret
      exact ⟨by first | rfl | (simp; done) | (simp [*]; done), by repeat (first | exact Drawn0.refl _ | apply Drawn0.step)⟩
     ·rw [if_neg c5] at H
      have c5b0 := decide_eq_false c5
      have c5b1 : decide (20 < ((rd_T63 l0 x3_1).f0).length) = false := decide_eq_false (by omega)
      clear c5
      have H' := Aside0.mk H
      clear H
      have p102 : 0 ≤ (x3_1 : Int) := of_decide_eq_true asmA
      have q102 : x3_1 < (l0.length : Int) := of_decide_eq_true asmA
      obtain ⟨ad102, A102_0, c102_0, e102, hx102_0, hx102_1, hx102_2, hl102_0, hi102_0⟩ := at_T63 HR0.out x3_1 p102 q102
      cases e102
      have HR102_0 := Aside0.mk hi102_0
      have HC102_0 := Aside0.mk hl102_0
      clear hi102_0 hl102_0
      replace p102 := eq_true p102
      replace q102 := eq_true q102
      go_wp2
      go_loopg [4] k1 (fun kq v4 w' => ∃ (x4_2 : Int), v4 = .int .i64 x4_2 ∧ Aside0 (rickyardlaw15_Many.l1 kq l0 x3_1 x4_2 = some r) ∧ Aside0 (kq ≤ k1) ∧ Drawn0 w w')
      case atStart => exact ⟨(0), relA, H', ⟨Nat.le_refl _⟩, by repeat (first | exact Drawn0.refl _ | apply Drawn0.step)⟩
      case round =>
       clear H'
       try clear c1
       try clear p1
       try clear q1
       try clear hx1
       try clear c2
       try clear c2b0
       try clear c2b1
       try clear p2
       try clear c3
       try clear c3b0
       try clear c4
       try clear c4b0
       try clear c5
       try clear c5b0
       try clear c5b1
       try clear hx102_0
       try clear hx102_1
       try clear hx102_2
       try clear p102
       try clear p2
       try clear q102
       obtain ⟨x4_2, rfl, HA, HK2, ⟨m2, rfl⟩⟩ := hrel
       cases gk with
       | zero => exact absurd HA.out (by simp [rickyardlaw15_Many.l1])
       | succ k2 =>
        have H := HA.out
        clear HA
        simp only [rickyardlaw15_Many.l1] at H
        by_cases c6 : 0 ≤ x3_1
        ·rw [if_pos c6] at H
         have c6b0 := decide_eq_true c6
         clear c6
         by_cases c7 : x3_1 < (l0.length : Int)
         ·rw [if_pos c7] at H
          have c7b0 := decide_eq_true c7
          clear c7
          by_cases c8 : x4_2 < (((rd_T63 l0 x3_1).f0).length : Int)
          ·rw [if_pos c8] at H
           have c8b0 := decide_eq_true c8
           clear c8
           by_cases c9 : 0 ≤ x4_2
           ·rw [if_pos c9] at H
            have c9b0 := decide_eq_true c9
            clear c9
            by_cases c10 : ((rdOf ByteArray.empty ((rd_T63 l0 x3_1).f0) x4_2).size : Int) > 100
            ·rw [if_pos c10] at H
             have c10b0 := decide_eq_true c10
             have c10b1 : decide (100 < (rdOf ByteArray.empty ((rd_T63 l0 x3_1).f0) x4_2).size) = true := decide_eq_true (by omega)
             clear c10
             obtain rfl := Option.some.inj H
             have p103 : 0 ≤ (x3_1 : Int) := of_decide_eq_true asmA
             have q103 : x3_1 < (l0.length : Int) := of_decide_eq_true asmA
             obtain ⟨ad103, A103_0, c103_0, e103, hx103_0, hx103_1, hx103_2, hl103_0, hi103_0⟩ := at_T63 HR0.out x3_1 p103 q103
             obtain rfl : ad102 = ad103 := (by injection e103)
             have HR103_0 := Aside0.mk hi103_0
             have HC103_0 := Aside0.mk hl103_0
             clear hi103_0 hl103_0
             replace p103 := eq_true p103
             replace q103 := eq_true q103
             have p104 : 0 ≤ (x3_1 : Int) := of_decide_eq_true asmA
             have q104 : x3_1 < (l0.length : Int) := of_decide_eq_true asmA
             obtain ⟨ad104, A104_0, c104_0, e104, hx104_0, hx104_1, hx104_2, hl104_0, hi104_0⟩ := at_T63 HR0.out x3_1 p104 q104
             obtain rfl : ad102 = ad104 := (by injection e104)
             have HR104_0 := Aside0.mk hi104_0
             have HC104_0 := Aside0.mk hl104_0
             clear hi104_0 hl104_0
             replace p104 := eq_true p104
             replace q104 := eq_true q104
             have ea_ := Option.some.inj (hx103_0.symm.trans hx104_0)
             injection ea_ with ea_ en_ ec_
             subst ea_
             subst ec_
             clear en_
             have p105 : 0 ≤ (x4_2 : Int) := of_decide_eq_true asmA
             have q105 : x4_2 < (((rd_T63 l0 x3_1).f0).length : Int) := of_decide_eq_true asmA
             obtain ⟨ad105, e105, hx105_0⟩ := Kd.at_string HR104_0.out x4_2 p105 q105
             cases e105
             replace p105 := eq_true p105
             replace q105 := eq_true q105
             go_wp2
             go_ret
             exact ⟨by first | rfl | (simp; done) | (simp [*]; done), by repeat (first | exact Drawn0.refl _ | apply Drawn0.step)⟩
            ·rw [if_neg c10] at H
             have c10b0 := decide_eq_false c10
             have c10b1 : decide (100 < (rdOf ByteArray.empty ((rd_T63 l0 x3_1).f0) x4_2).size) = false := decide_eq_false (by omega)
             clear c10
             have H' := Aside0.mk H
             clear H
             have p103 : 0 ≤ (x3_1 : Int) := of_decide_eq_true asmA
             have q103 : x3_1 < (l0.length : Int) := of_decide_eq_true asmA
             obtain ⟨ad103, A103_0, c103_0, e103, hx103_0, hx103_1, hx103_2, hl103_0, hi103_0⟩ := at_T63 HR0.out x3_1 p103 q103
             obtain rfl : ad102 = ad103 := (by injection e103)
             have HR103_0 := Aside0.mk hi103_0
             have HC103_0 := Aside0.mk hl103_0
             clear hi103_0 hl103_0
             replace p103 := eq_true p103
             replace q103 := eq_true q103
             have p104 : 0 ≤ (x3_1 : Int) := of_decide_eq_true asmA
             have q104 : x3_1 < (l0.length : Int) := of_decide_eq_true asmA
             obtain ⟨ad104, A104_0, c104_0, e104, hx104_0, hx104_1, hx104_2, hl104_0, hi104_0⟩ := at_T63 HR0.out x3_1 p104 q104
             obtain rfl : ad102 = ad104 := (by injection e104)
             have HR104_0 := Aside0.mk hi104_0
             have HC104_0 := Aside0.mk hl104_0
             clear hi104_0 hl104_0
             replace p104 := eq_true p104
             replace q104 := eq_true q104
             have ea_ := Option.some.inj (hx103_0.symm.trans hx104_0)
             injection ea_ with ea_ en_ ec_
             subst ea_
             subst ec_
             clear en_
             have p105 : 0 ≤ (x4_2 : Int) := of_decide_eq_true asmA
             have q105 : x4_2 < (((rd_T63 l0 x3_1).f0).length : Int) := of_decide_eq_true asmA
             obtain ⟨ad105, e105, hx105_0⟩ := Kd.at_string HR104_0.out x4_2 p105 q105
             cases e105
             replace p105 := eq_true p105
             replace q105 := eq_true q105
             go_wp2
             go_roundg k2
             case measure => have := HK1.out; have := HK2.out; omega
             case rel => exact ⟨(wrap64 (x4_2 + 1)), relA, H', ⟨by have := HK1.out; have := HK2.out; omega⟩, by repeat (first | exact Drawn0.refl _ | apply Drawn0.step)⟩
           ·rw [if_neg c9] at H
            exact absurd H (by simp)
          ·rw [if_neg c8] at H
           have c8b0 := decide_eq_false c8
           clear c8
           have H' := Aside0.mk H
           clear H
           have p103 : 0 ≤ (x3_1 : Int) := of_decide_eq_true asmA
           have q103 : x3_1 < (l0.length : Int) := of_decide_eq_true asmA
           obtain ⟨ad103, A103_0, c103_0, e103, hx103_0, hx103_1, hx103_2, hl103_0, hi103_0⟩ := at_T63 HR0.out x3_1 p103 q103
           obtain rfl : ad102 = ad103 := (by injection e103)
           have HR103_0 := Aside0.mk hi103_0
           have HC103_0 := Aside0.mk hl103_0
           clear hi103_0 hl103_0
           replace p103 := eq_true p103
           replace q103 := eq_true q103
           go_wp2
           go_roundg k2
           case measure => have := HK1.out; have := HK2.out; omega
           case rel => exact ⟨(wrap64 (x3_1 + 1)), relA, H', ⟨by have := HK1.out; have := HK2.out; omega⟩, by repeat (first | exact Drawn0.refl _ | apply Drawn0.step)⟩
         ·rw [if_neg c7] at H
          exact absurd H (by simp)
        ·rw [if_neg c6] at H
         exact absurd H (by simp)
    ·rw [if_neg c4] at H
     exact absurd H (by simp)
   ·rw [if_neg c3] at H
    have c3b0 := decide_eq_false c3
    clear c3
    obtain rfl := Option.some.inj H
    go_wp2
    go_ret
    exact ⟨by first | rfl | (simp; done) | (simp [*]; done), by repeat (first | exact Drawn0.refl _ | apply Drawn0.step)⟩
def rickyardlaw17_Long.f (k : Nat) (l0_0 : List ByteArray) (a0_1 : Int) (a0_2 : Int) (a0_3 : Int) (a0_4 : Int) : Option (Bool) := (rickyardlaw15_Many.f k (([(⟨l0_0, 0, 0⟩ : S63)] : List (S63)))).bind fun t110 => (some t110)
theorem rickyardlaw17_Long.calls (k : Nat) (P0_0_ : Nat → Prop) (A0_0 : Option Addr) (c0_0 : Nat) (l0_0 : List ByteArray) (a0_1 : Int) (a0_2 : Int) (a0_3 : Int) (a0_4 : Int) (r : Bool) (w : World) (hs0_0 : Kd.V Kd.string 9 w w.heap.size (fun k_ => P0_0_ k_) (.slice A0_0 l0_0.length c0_0) l0_0) (h : rickyardlaw17_Long.f k l0_0 a0_1 a0_2 a0_3 a0_4 = some r) :
  Calls Try.prog 8 #[.agg #[.slice A0_0 l0_0.length c0_0, .int .i64 a0_1, .int .i64 a0_2, .int .i64 a0_3, .int .i64 a0_4]] w fun e w' => e = .returned (.bool r) ∧ Below w.heap.size w w' := by
 have hu28 := Try.underlying28
 have hu63 := Try.underlying63
 have HO0_0 := Aside0.mk (show Kd.V Kd.string 9 w w.heap.size (fun k_ => (P0_0_ k_ ∨ w.heap.size ≤ k_)) (.slice A0_0 l0_0.length c0_0) l0_0 from Kd.V_mono hs0_0 (fun k_ hk => .inl hk))
 have HB := Aside0.mk (Below.refl w.heap.size w)
 have H : ((rickyardlaw15_Many.f k (([(⟨l0_0, 0, 0⟩ : S63)] : List (S63)))).bind fun t110 => (some t110)) = some r := h
 clear h
 obtain ⟨y107, hy107⟩ : ∃ y_ : List (S63), y_ = (([(⟨l0_0, 0, 0⟩ : S63)] : List (S63))) := ⟨_, rfl⟩
 replace H : ((rickyardlaw15_Many.f k y107).bind fun t110 => (some t110)) = some r := nmA hy107 H
 have Ny107 := Aside0.mk hy107
 clear hy107
 replace H := bnA H
 obtain ⟨t110, A2, H⟩ := H
 obtain rfl := Option.some.inj H
 go_enter Try.func8, Try.ntmps8
 go_wp2_with (first | ((with_reducible refine gate_dst (N := 1) rfl ?_); refine boxA 1 #[.slice A0_0 l0_0.length c0_0, .int .i64 a0_1, .int .i64 a0_2, .int .i64 a0_3, .int .i64 a0_4] 28 ?_; intro gb106 hg w3 hbox hb; have BK106 := Aside0.mk (hbox); have GE106 := ge1 hg (belA HB.out); replace HO0_0 := Aside0.mk (Kd.V_below (Kd.V_elderB (valA HO0_0.out) gb106 (Nat.le_of_eq hg.symm)) hb); replace HB := bst HB hb; clear hb hbox hg; obtain ⟨hcz4_0, hcz4_1, hcz4_2, hcz4_3, hcz4_4, hfz4_0, hfz4_1, hfz4_2, hfz4_3, hfz4_4⟩ := blk5 BK106) | ((with_reducible refine gate_dst (N := 6) rfl ?_); refine Kd.N_lit k63 _ 63 ?hg (N' := 6) ?hd (xs := ([(⟨l0_0, 0, 0⟩ : S63)] : List (S63))) (inner := [.slice A0_0 l0_0.length c0_0, .int .i64 0, .int .i64 0]) (ok := (fun k_ => (P0_0_ k_ ∨ w.heap.size ≤ k_) ∧ k_ ≠ gb106)) (okp := (fun k_ => (P0_0_ k_ ∨ w.heap.size ≤ k_) ∧ k_ ≠ gb106)) ?hr ?hp (fun _ hk => hk) ((show ∀ k_, w3.heap.size ≤ k_ → (fun k_ => (P0_0_ k_ ∨ w.heap.size ≤ k_) ∧ k_ ≠ gb106) k_ from fun k_ hk => ⟨(.inr (Nat.le_trans (below_size (belB HB.out GE106.out)) hk)), frB BK106 k_ hk⟩) _ (Nat.le_refl _)) (Below.refl _ _) (Nat.le_refl _) (by simp) ?_; (case hd => rfl); (case hg => rfl); (case hr => first | (go_simp; done) | (go_simp; rfl)); (case hp => exact (Reps.c3 (show Kd.FK k63 _ _ (⟨l0_0, 0, 0⟩ : S63) [.slice A0_0 l0_0.length c0_0, .int .i64 0, .int .i64 0] from (k63_mkF _ _ (⟨l0_0, 0, 0⟩ : S63) (Kd.V_reads' (Kd.V_mono (ok' := (fun k_ => (P0_0_ k_ ∨ w.heap.size ≤ k_) ∧ k_ ≠ gb106)) (HO0_0.out) (fun k_ hk => ⟨hk.1, hk.2⟩))).2.1 (Kd.V_F (Kd.V_mono (ok' := (fun k_ => (P0_0_ k_ ∨ w.heap.size ≤ k_) ∧ k_ ≠ gb106)) (HO0_0.out) (fun k_ hk => ⟨hk.1, hk.2⟩))))) (Reps.none _ _))); intro v108 w5 ho6 hb hg_ hnew_; clear hg_ hnew_; (first | rw [← Ny107.out] at ho6 | (simp only [Int.reduceToNat] at ho6; rw [← Ny107.out] at ho6)); have HO109 := Aside0.mk (Kd.N_lower ho6 (below_size (belB HB.out GE106.out))); replace HO0_0 := Aside0.mk (Kd.V_elder' (valA HO0_0.out) (Kd.N_base ho6) hb); replace BK106 := blkB BK106 hb; replace HB := bs2 HB GE106 hb; clear hb ho6; obtain ⟨Ao7, co7, eo7⟩ := Kd.N_slice HO109.out; subst eo7) | ((with_reducible refine gate_callee (f := 19) rfl ?_); refine goesL_ (some 7) rfl rfl Try.func19 (by kernel_rfl) rfl #[.slice Ao7 y107.length co7] rfl argA ?_; (with_reducible refine (rickyardlaw15_Many.calls k _ _ y107 t110 _ ?side1 ?side2 A2.out).mono ?_); (case side1 => repeat (first | exact (Kd.N_reads' HO109.out).2.2 | (with_reducible refine Kd.C_alloc ?_ _) | (with_reducible refine Kd.C_drewN ?_ _) | (with_reducible refine Kd.C_drew ?_))); (case side2 => exact (Kd.N_reads' HO109.out).2.1); rintro e w' ⟨rfl, ⟨nd, rfl⟩⟩; refine ⟨_, rfl, ?_⟩))
 go_ret
 exact ⟨ret1, belB HB.out GE106.out⟩
def key_Part.l0 : Nat → List ByteArray → Int → List ByteArray → Int → Int → Option (List ByteArray × Int)
 | 0, _, _, _, _, _ => none
 | k + 1, x0, x1, x6, x11, x12 => if x12 < x11 then (if x12 < 63 then (if 0 ≤ x12 then (if (Go.bits .and .i64 (shr .i64 x1 x12) 1) = 1 then (if x12 < (x0.length : Int) then (if x6.length < 8796093022208 then (key_Part.l0 k x0 x1 (x6 ++ [rdOf ByteArray.empty x0 x12]) x11 (wrap64 (x12 + 1))) else (none)) else (none)) else (key_Part.l0 k x0 x1 x6 x11 (wrap64 (x12 + 1)))) else (none)) else (key_Part.l0 k x0 x1 x6 x11 (wrap64 (x12 + 1)))) else (some (x6, 0))
def key_Part.f (k : Nat) (l0 : List ByteArray) (a1 : Int) : Option (List ByteArray × Int) := if a1 < 0 then (some (([] : List ByteArray), 1)) else (key_Part.l0 k l0 a1 ([] : List ByteArray) (l0.length : Int) 0)
theorem key_Part.calls (k : Nat) (A0 : Option Addr) (c0 : Nat) (l0 : List ByteArray) (a1 : Int) (r1 : List ByteArray) (r2 : Int) (w : World) (hr0 : Kd.C Kd.string w A0 l0.length l0) (hc0 : l0.length ≤ c0) (h : key_Part.f k l0 a1 = some (r1, r2)) :
  Calls Try.prog 15 #[.slice A0 l0.length c0, .int .i64 a1] w fun e w' => ∃ v0_ : Value, e = .returned (.tuple #[v0_, .int .i64 r2]) ∧ Kd.R Kd.string 9 w' w.heap.size (fun _ => True) v0_ r1 ∧ Below w.heap.size w w' := by
 have HR0 := Aside0.mk hr0
 have HC0 := Aside0.mk hc0
 clear hr0 hc0
 have HB := Aside0.mk (Below.refl w.heap.size w)
 have H : (if a1 < 0 then (some (([] : List ByteArray), 1)) else (key_Part.l0 k l0 a1 ([] : List ByteArray) (l0.length : Int) 0)) = some (r1, r2) := h
 clear h
 by_cases c3 : a1 < 0
 ·rw [if_pos c3] at H
  have c3b0 := decide_eq_true c3
  clear c3
  simp only [Option.some.injEq, Prod.mk.injEq] at H
  obtain ⟨rfl, rfl⟩ := H
  go_enter Try.func15, Try.ntmps15
  go_wp2
  go_ret2
  exact ⟨_, ret1, by first | exact Kd.R_nil _ _ _ _ _ | exact Kd.N_nil _ _ _ _ _ | exact Kd.V_nil _ _ _ _ _ | exact Kd.Q_nil _ _ _ _ _ | exact Kd.S_nil _ _ _ _ _, belA HB.out⟩
 rw [if_neg c3] at H
 have c3b0 := decide_eq_false c3
 clear c3
 have H' := Aside0.mk H
 clear H
 go_enter Try.func15, Try.ntmps15
 go_wp2
 go_loopg [6, 12] k (fun kq v6 v12 w' => ∃ (x6_1 : List ByteArray) (x12_1 : Int), v12 = .int .i64 x12_1 ∧ Aside0 (key_Part.l0 kq l0 a1 x6_1 (l0.length : Int) x12_1 = some (r1, r2)) ∧ Aside0 (kq ≤ k) ∧ Aside0 (Kd.R Kd.string 9 w' w.heap.size (fun _ => True) v6 x6_1) ∧ Aside0 (Below w.heap.size w w'))
 case atStart => exact ⟨(([] : List ByteArray)), (0), relA, H', ⟨Nat.le_refl _⟩, ⟨by first | exact Kd.R_nil _ _ _ _ _ | exact Kd.N_nil _ _ _ _ _ | exact Kd.V_nil _ _ _ _ _ | exact Kd.Q_nil _ _ _ _ _ | exact Kd.S_nil _ _ _ _ _⟩, ⟨belA HB.out⟩⟩
 case round =>
  clear H'
  try clear c1
  try clear p2
  try clear c3
  try clear c3b0
  obtain ⟨x6_1, x12_1, rfl, HA, HK1, HO_6, HB⟩ := hrel
  cases gk with
  | zero => exact absurd HA.out (by simp [key_Part.l0])
  | succ k1 =>
   have H := HA.out
   clear HA
   simp only [key_Part.l0] at H
   by_cases c4 : x12_1 < (l0.length : Int)
   ·rw [if_pos c4] at H
    have c4b0 := decide_eq_true c4
    clear c4
    by_cases c5 : x12_1 < 63
    ·rw [if_pos c5] at H
     have c5b0 := decide_eq_true c5
     clear c5
     by_cases c6 : 0 ≤ x12_1
     ·rw [if_pos c6] at H
      have c6b0 := eq_true c6
      have c6b1 := decide_eq_true c6
      clear c6
      obtain ⟨ji7, hji7⟩ : ∃ j_ : Int, (shr .i64 a1 x12_1) = j_ := ⟨_, rfl⟩
      replace H : (if (Go.bits .and .i64 (ji7) 1) = 1 then (if x12_1 < (l0.length : Int) then (if x6_1.length < 8796093022208 then (key_Part.l0 k1 l0 a1 (x6_1 ++ [rdOf ByteArray.empty l0 x12_1]) (l0.length : Int) (wrap64 (x12_1 + 1))) else (none)) else (none)) else (key_Part.l0 k1 l0 a1 x6_1 (l0.length : Int) (wrap64 (x12_1 + 1)))) = some (r1, r2) := by first | (rw [hji7] at H; exact H) | (simp only [hji7] at H ⊢; exact H)
      have hji7_ : (a1 / 2 ^ min x12_1.toNat 64) = ji7 := hji7
      have hji7z : x12_1 ≤ 64 → (a1 / 2 ^ x12_1.toNat) = ji7 := shr_small hji7
      by_cases c8 : (Go.bits .and .i64 (ji7) 1) = 1
      ·rw [if_pos c8] at H
       have c8b0 := beq_iff_eq.mpr c8
       have c8b1 := bne_eq_false_iff_eq.mpr c8
       clear c8
       by_cases c9 : x12_1 < (l0.length : Int)
       ·rw [if_pos c9] at H
        have c9b0 := decide_eq_true c9
        clear c9
        by_cases c10 : x6_1.length < 8796093022208
        ·rw [if_pos c10] at H
         have LMc10 := Aside0.mk c10
         clear c10
         obtain ⟨y115, hy115⟩ : ∃ y_ : List ByteArray, y_ = (x6_1 ++ [rdOf ByteArray.empty l0 x12_1]) := ⟨_, rfl⟩
         replace H : (key_Part.l0 k1 l0 a1 y115 (l0.length : Int) (wrap64 (x12_1 + 1))) = some (r1, r2) := nmA hy115 H
         have Ny115 := Aside0.mk hy115
         clear hy115
         have H' := Aside0.mk H
         clear H
         have p114 : 0 ≤ (x12_1 : Int) := of_decide_eq_true asmA
         have q114 : x12_1 < (l0.length : Int) := of_decide_eq_true asmA
         obtain ⟨ad114, e114, hx114_0⟩ := Kd.at_string HR0.out x12_1 p114 q114
         cases e114
         replace hx114_0 := cbx HB hx114_0
         replace p114 := eq_true p114
         replace q114 := eq_true q114
         go_wp2_with (first | ((with_reducible refine gate_builtin (b := .append) (xs := #[.tmp 24, .tmp 29]) rfl ?_); at_builtin; refine Kd.R_append Kd.string (w0 := w) w.heap.size rfl (.tmp 24) (.tmp 29) 26 9 (.string ⟨#[]⟩) 16 rfl Try.underlying26 info9 rfl (by decide) (by omega) u6 x6_1 (rdOf ByteArray.empty l0 x12_1) [.string (rdOf ByteArray.empty l0 x12_1)] (fun _ => True) (fun _ => False) rfl rfl ?aP (fun _ hk => hk.elim) ?aF ?aO ?aB ?aS ?aL ?_; (case aP => exact rfl); (case aB => exact (belA HB.out)); (case aF => exact (fun _ _ => trivial)); (case aO => exact (rowA HO_6.out)); (case aS => exact (below_size (belA HB.out))); (case aL => have := LMc10.out; omega); intro v116 w11 ho hb hg hat; rw [← Ny115.out] at ho; have HO117 := Aside0.mk (ho); replace HB := Aside0.mk (hb); clear HO_6; clear ho hb hg hat))
         go_roundg k1
         case measure => have := HK1.out; omega
         case rel => exact ⟨(y115), (wrap64 (x12_1 + 1)), relA, H', ⟨by have := HK1.out; omega⟩, ⟨rowA HO117.out⟩, ⟨belA HB.out⟩⟩
        ·rw [if_neg c10] at H
         exact absurd H (by simp)
       ·rw [if_neg c9] at H
        exact absurd H (by simp)
      ·rw [if_neg c8] at H
       have c8b0 := beq_eq_false_iff_ne.mpr c8
       have c8b1 := bne_iff_ne.mpr c8
       have H' := Aside0.mk H
       clear H
       go_wp2
       go_roundg k1
       case measure => have := HK1.out; omega
       case rel => exact ⟨(x6_1), (wrap64 (x12_1 + 1)), relA, H', ⟨by have := HK1.out; omega⟩, ⟨rowA HO_6.out⟩, ⟨belA HB.out⟩⟩
     ·rw [if_neg c6] at H
      exact absurd H (by simp)
    ·rw [if_neg c5] at H
     have c5b0 := decide_eq_false c5
     clear c5
     have H' := Aside0.mk H
     clear H
     go_wp2
     go_roundg k1
     case measure => have := HK1.out; omega
     case rel => exact ⟨(x6_1), (wrap64 (x12_1 + 1)), relA, H', ⟨by have := HK1.out; omega⟩, ⟨rowA HO_6.out⟩, ⟨belA HB.out⟩⟩
   ·rw [if_neg c4] at H
    have c4b0 := decide_eq_false c4
    clear c4
    simp only [Option.some.injEq, Prod.mk.injEq] at H
    obtain ⟨rfl, rfl⟩ := H
    go_wp2
    go_ret2
    exact ⟨_, ret1, rowA HO_6.out, belA HB.out⟩
end Go.Proofs.Ytdopbhbbpgfliaa.PAsk
end
section
namespace Go.Proofs.Ytdopbhbbpgfliaa.PAsk
open Go.RowKit
set_option linter.unusedVariables false
set_option linter.unusedSimpArgs false
set_option maxHeartbeats 8000000
set_option maxRecDepth 100000
theorem bl_irr : ∀ a : List UInt8, Op.bytesLess a a = false
  | [] => rfl
  | x :: r => by
    unfold Op.bytesLess
    simp [bl_irr r]
theorem bl_tot : ∀ a b : List UInt8, Op.bytesLess a b = false → Op.bytesLess b a = false → a = b
  | [], [], _, _ => rfl
  | [], y :: s, h, _ => by simp [Op.bytesLess] at h
  | x :: r, [], _, h => by simp [Op.bytesLess] at h
  | x :: r, y :: s, h1, h2 => by
    unfold Op.bytesLess at h1 h2
    have e1 : ¬ x < y := fun h => by simp [h] at h1
    have e2 : ¬ y < x := fun h => by simp [h] at h2
    have e : x = y := UInt8.le_antisymm (UInt8.not_lt.1 e2) (UInt8.not_lt.1 e1)
    subst e
    have h3 : Op.bytesLess r s = false := by simpa using h1
    have h4 : Op.bytesLess s r = false := by simpa using h2
    rw [bl_tot r s h3 h4]
theorem bl_ne {a b : List UInt8} (h : Op.bytesLess b a = true) : (a == b) = false := by
  refine beq_eq_false_iff_ne.2 (fun e => ?_)
  subst e
  rw [bl_irr] at h
  cases h
theorem bl_eq {a b : List UInt8} (h1 : Op.bytesLess a b = false) (h2 : Op.bytesLess b a = false) : (a == b) = true := beq_iff_eq.2 (bl_tot a b h1 h2)
end Go.Proofs.Ytdopbhbbpgfliaa.PAsk
end
section
namespace Go.Proofs.Ytdopbhbbpgfliaa.PAsk
open Go.RowKit Go.Proofs.YtdopbhbbpgfliaaW.PrintWords Go.Proofs.YtdopbhbbpgfliaaW.PrintLast Go.Proofs.YtdopbhbbpgfliaaW.PrintMore
attribute [local go_sem] max2_int min2_int max_two min_two max_three min_three max_four min_four   -- for this text's walks alone
set_option linter.unusedVariables false
set_option linter.unusedSimpArgs false
set_option maxHeartbeats 8000000
set_option maxRecDepth 100000
mutual
def rickyardref06_Order.l0 : Nat → List ByteArray → List ByteArray → Int → Option (Int)
 | 0, _, _, _ => none
 | k + 1, x0, x1, x5 => if x5 < (x0.length : Int) then (rickyardref06_Order.j1 k x0 x1 x5 (decide (x5 < (x1.length : Int)))) else (rickyardref06_Order.j1 k x0 x1 x5 false)
def rickyardref06_Order.j1 : Nat → List ByteArray → List ByteArray → Int → Bool → Option (Int)
 | 0, _, _, _, _ => none
 | k + 1, x0, x1, x5, x15 => if x15 = true then (if 0 ≤ x5 then (if x5 < (x0.length : Int) then (if x5 < (x1.length : Int) then (if (Op.bytesLess ((rdOf ByteArray.empty x0 x5).toList) ((rdOf ByteArray.empty x1 x5).toList)) = true then (some (-1)) else (if (Op.bytesLess ((rdOf ByteArray.empty x1 x5).toList) ((rdOf ByteArray.empty x0 x5).toList)) = true then (some 1) else (rickyardref06_Order.l0 k x0 x1 (wrap64 (x5 + 1))))) else (none)) else (none)) else (none)) else (if (x0.length : Int) < (x1.length : Int) then (some (-1)) else (if (x0.length : Int) > (x1.length : Int) then (some 1) else (some 0)))
end
def rickyardref06_Order.f (k : Nat) (l0 : List ByteArray) (l1 : List ByteArray) : Option (Int) := rickyardref06_Order.l0 k l0 l1 0
theorem rickyardref06_Order.calls (k : Nat) (A0 : Option Addr) (c0 : Nat) (l0 : List ByteArray) (A1 : Option Addr) (c1 : Nat) (l1 : List ByteArray) (r : Int) (w : World) (hr0 : Kd.C Kd.string w A0 l0.length l0) (hc0 : l0.length ≤ c0) (hr1 : Kd.C Kd.string w A1 l1.length l1) (hc1 : l1.length ≤ c1) (h : rickyardref06_Order.f k l0 l1 = some r) :
  Calls Try.prog 16 #[.slice A0 l0.length c0, .slice A1 l1.length c1] w fun e w' => e = .returned (.int .i64 r) ∧ Drawn0 w w' := by
 have HR0 := Aside0.mk hr0
 have HC0 := Aside0.mk hc0
 clear hr0 hc0
 have HR1 := Aside0.mk hr1
 have HC1 := Aside0.mk hc1
 clear hr1 hc1
 have H : (rickyardref06_Order.l0 k l0 l1 0) = some r := h
 clear h
 have H' := Aside0.mk H
 clear H
 go_enter Try.func16, Try.ntmps16
 go_wp2
 repeat (go_quiet (fail); try go_wp2)
 go_loopg [5] k (fun kq v5 w' => ∃ (x5_1 : Int), v5 = .int .i64 x5_1 ∧ Aside0 (rickyardref06_Order.l0 kq l0 l1 x5_1 = some r) ∧ Aside0 (kq ≤ k) ∧ Drawn0 w w')
 case atStart => exact ⟨(0), relA, H', ⟨Nat.le_refl _⟩, by repeat (first | exact Drawn0.refl _ | apply Drawn0.step)⟩
 case round =>
  clear H'
  try clear c1
  try clear p2
  obtain ⟨x5_1, rfl, HA, HK1, ⟨m1, rfl⟩⟩ := hrel
  cases gk with
  | zero => exact absurd HA.out (by simp [rickyardref06_Order.l0])
  | succ k1 =>
   have H := HA.out
   clear HA
   simp only [rickyardref06_Order.l0] at H
   have HC3 := Aside0.mk H
   clear H
   go_upto_region 2 with (fail)
   repeat (go_quiet (fail); go_upto_region 2 with (fail))
   go_cut [15] (fun v15 wc => ∃ (kq : Nat) (x15_2 : Bool), v15 = .bool x15_2 ∧ Aside0 (rickyardref06_Order.j1 kq l0 l1 x5_1 x15_2 = some r) ∧ Aside0 (kq ≤ k1) ∧ Drawn0 w wc)
   case first =>
    have H := HC3.out
    clear HC3
    by_cases c4 : x5_1 < (l0.length : Int)
    rotate_left
    ·rw [if_neg c4] at H
     have c4b0 := decide_eq_false c4
     clear c4
     (first | rw [c4b0] | (simp only [i64_w, i32_w]; rw [c4b0]) | skip)
     have H' := Aside0.mk H
     clear H
     go_wp2
     repeat (go_quiet (fail); try go_wp2)
     go_meet
     case rel => exact ⟨_, (false), relA, H', ⟨by have := HK1.out; first | omega | exact Nat.le_refl _⟩, by repeat (first | exact Drawn0.refl _ | apply Drawn0.step)⟩
    rw [if_pos c4] at H
    have c4b0 := decide_eq_true c4
    clear c4
    (first | rw [c4b0] | (simp only [i64_w, i32_w]; rw [c4b0]) | skip)
    have H' := Aside0.mk H
    clear H
    go_wp2
    repeat (go_quiet (fail); try go_wp2)
    go_meet
    case rel => exact ⟨_, (decide (x5_1 < (l1.length : Int))), relA, H', ⟨by have := HK1.out; first | omega | exact Nat.le_refl _⟩, by repeat (first | exact Drawn0.refl _ | apply Drawn0.step)⟩
   case rest =>
    clear HC3
    try clear c1
    try clear p2
    try clear c4
    try clear c4b0
    try clear p2
    obtain ⟨kq, x15_2, rfl, HA, HJ2, ⟨mc2, rfl⟩⟩ := hcut
    cases kq with
    | zero => exact absurd HA.out (by simp [rickyardref06_Order.j1])
    | succ kj2 =>
     have H := HA.out
     clear HA
     simp only [rickyardref06_Order.j1] at H
     by_cases c5 : x15_2 = true
     rotate_left
     ·replace c5 := Bool.eq_false_iff.mpr c5
      subst c5
      have H1 : (if (l0.length : Int) < (l1.length : Int) then (some (-1)) else (if (l0.length : Int) > (l1.length : Int) then (some 1) else (some 0))) = some r := by rw [if_neg (show ¬ (false = true) by decide)] at H; exact H
      clear H
      have H := H1
      clear H1
      by_cases c11 : (l0.length : Int) < (l1.length : Int)
      ·rw [if_pos c11] at H
       have c11b0 := decide_eq_true c11
       have c11b1 : decide (l0.length < l1.length) = true := decide_eq_true (Int.ofNat_lt.mp c11)
       clear c11
       obtain rfl := Option.some.inj H
       go_wp2
       repeat (go_quiet (fail); try go_wp2)
       go_ret
       exact ⟨by first | rfl | (simp; done) | (simp [*]; done), by repeat (first | exact Drawn0.refl _ | apply Drawn0.step)⟩
      rw [if_neg c11] at H
      have c11b0 := decide_eq_false c11
      have c11b1 : decide (l0.length < l1.length) = false := decide_eq_false (fun h => c11 (Int.ofNat_lt.mpr h))
      clear c11
      by_cases c12 : (l0.length : Int) > (l1.length : Int)
      rotate_left
      ·rw [if_neg c12] at H
       have c12b0 := decide_eq_false c12
       have c12b1 : decide (l1.length < l0.length) = false := decide_eq_false (fun h => c12 (Int.ofNat_lt.mpr h))
       clear c12
       obtain rfl := Option.some.inj H
       go_wp2
       repeat (go_quiet (fail); try go_wp2)
       go_ret
       exact ⟨by first | rfl | (simp; done) | (simp [*]; done), by repeat (first | exact Drawn0.refl _ | apply Drawn0.step)⟩
      rw [if_pos c12] at H
      have c12b0 := decide_eq_true c12
      have c12b1 : decide (l1.length < l0.length) = true := decide_eq_true (Int.ofNat_lt.mp c12)
      clear c12
      obtain rfl := Option.some.inj H
      go_wp2
      repeat (go_quiet (fail); try go_wp2)
      go_ret
      exact ⟨by first | rfl | (simp; done) | (simp [*]; done), by repeat (first | exact Drawn0.refl _ | apply Drawn0.step)⟩
     subst c5
     have H1 : (if 0 ≤ x5_1 then (if x5_1 < (l0.length : Int) then (if x5_1 < (l1.length : Int) then (if (Op.bytesLess ((rdOf ByteArray.empty l0 x5_1).toList) ((rdOf ByteArray.empty l1 x5_1).toList)) = true then (some (-1)) else (if (Op.bytesLess ((rdOf ByteArray.empty l1 x5_1).toList) ((rdOf ByteArray.empty l0 x5_1).toList)) = true then (some 1) else (rickyardref06_Order.l0 kj2 l0 l1 (wrap64 (x5_1 + 1))))) else (none)) else (none)) else (none)) = some r := by rw [if_pos rfl] at H; exact H
     clear H
     have H := H1
     clear H1
     replace H := ifN H
     obtain ⟨c6, H⟩ := H
     have c6b0 := decide_eq_true c6
     clear c6
     replace H := ifN H
     obtain ⟨c7, H⟩ := H
     have c7b0 := decide_eq_true c7
     clear c7
     replace H := ifN H
     obtain ⟨c8, H⟩ := H
     have c8b0 := decide_eq_true c8
     clear c8
     by_cases c9 : (Op.bytesLess ((rdOf ByteArray.empty l0 x5_1).toList) ((rdOf ByteArray.empty l1 x5_1).toList)) = true
     ·rw [if_pos c9] at H
      have c9b0 : (Op.bytesLess ((rdOf ByteArray.empty l0 x5_1).toList) ((rdOf ByteArray.empty l1 x5_1).toList)) = true := c9
      clear c9
      obtain rfl := Option.some.inj H
      have p535 : 0 ≤ (x5_1 : Int) := of_decide_eq_true asmA
      have q535 : x5_1 < (l0.length : Int) := of_decide_eq_true asmA
      obtain ⟨ad535, e535, hx535_0⟩ := Kd.at_string HR0.out x5_1 p535 q535
      cases e535
      replace p535 := eq_true p535
      replace q535 := eq_true q535
      have p536 : 0 ≤ (x5_1 : Int) := of_decide_eq_true asmA
      have q536 : x5_1 < (l1.length : Int) := of_decide_eq_true asmA
      obtain ⟨ad536, e536, hx536_0⟩ := Kd.at_string HR1.out x5_1 p536 q536
      cases e536
      replace p536 := eq_true p536
      replace q536 := eq_true q536
      go_wp2
      repeat (go_quiet (fail); try go_wp2)
      go_ret
      exact ⟨by first | rfl | (simp; done) | (simp [*]; done), by repeat (first | exact Drawn0.refl _ | apply Drawn0.step)⟩
     rw [if_neg c9] at H
     have c9b0 : (Op.bytesLess ((rdOf ByteArray.empty l0 x5_1).toList) ((rdOf ByteArray.empty l1 x5_1).toList)) = false := by simpa using c9
     clear c9
     by_cases c10 : (Op.bytesLess ((rdOf ByteArray.empty l1 x5_1).toList) ((rdOf ByteArray.empty l0 x5_1).toList)) = true
     ·rw [if_pos c10] at H
      have c10b0 : (Op.bytesLess ((rdOf ByteArray.empty l1 x5_1).toList) ((rdOf ByteArray.empty l0 x5_1).toList)) = true := c10
      have c10b0e : (((rdOf ByteArray.empty l0 x5_1).toList) == ((rdOf ByteArray.empty l1 x5_1).toList)) = false := bl_ne c10b0
      clear c10
      obtain rfl := Option.some.inj H
      have p535 : 0 ≤ (x5_1 : Int) := of_decide_eq_true asmA
      have q535 : x5_1 < (l0.length : Int) := of_decide_eq_true asmA
      obtain ⟨ad535, e535, hx535_0⟩ := Kd.at_string HR0.out x5_1 p535 q535
      cases e535
      replace p535 := eq_true p535
      replace q535 := eq_true q535
      have p536 : 0 ≤ (x5_1 : Int) := of_decide_eq_true asmA
      have q536 : x5_1 < (l1.length : Int) := of_decide_eq_true asmA
      obtain ⟨ad536, e536, hx536_0⟩ := Kd.at_string HR1.out x5_1 p536 q536
      cases e536
      replace p536 := eq_true p536
      replace q536 := eq_true q536
      have p537 : 0 ≤ (x5_1 : Int) := of_decide_eq_true asmA
      have q537 : x5_1 < (l0.length : Int) := of_decide_eq_true asmA
      obtain ⟨ad537, e537, hx537_0⟩ := Kd.at_string HR0.out x5_1 p537 q537
      obtain rfl : ad535 = ad537 := (by injection e537)
      replace p537 := eq_true p537
      replace q537 := eq_true q537
      have p538 : 0 ≤ (x5_1 : Int) := of_decide_eq_true asmA
      have q538 : x5_1 < (l1.length : Int) := of_decide_eq_true asmA
      obtain ⟨ad538, e538, hx538_0⟩ := Kd.at_string HR1.out x5_1 p538 q538
      obtain rfl : ad536 = ad538 := (by injection e538)
      replace p538 := eq_true p538
      replace q538 := eq_true q538
      go_wp2
      repeat (go_quiet (fail); try go_wp2)
      go_ret
      exact ⟨by first | rfl | (simp; done) | (simp [*]; done), by repeat (first | exact Drawn0.refl _ | apply Drawn0.step)⟩
     rw [if_neg c10] at H
     have c10b0 : (Op.bytesLess ((rdOf ByteArray.empty l1 x5_1).toList) ((rdOf ByteArray.empty l0 x5_1).toList)) = false := by simpa using c10
     have c10b0e : (((rdOf ByteArray.empty l0 x5_1).toList) == ((rdOf ByteArray.empty l1 x5_1).toList)) = true := bl_eq c9b0 c10b0
     clear c10
     have H' := Aside0.mk H
     clear H
     have p535 : 0 ≤ (x5_1 : Int) := of_decide_eq_true asmA
     have q535 : x5_1 < (l0.length : Int) := of_decide_eq_true asmA
     obtain ⟨ad535, e535, hx535_0⟩ := Kd.at_string HR0.out x5_1 p535 q535
     cases e535
     replace p535 := eq_true p535
     replace q535 := eq_true q535
     have p536 : 0 ≤ (x5_1 : Int) := of_decide_eq_true asmA
     have q536 : x5_1 < (l1.length : Int) := of_decide_eq_true asmA
     obtain ⟨ad536, e536, hx536_0⟩ := Kd.at_string HR1.out x5_1 p536 q536
     cases e536
     replace p536 := eq_true p536
     replace q536 := eq_true q536
     have p537 : 0 ≤ (x5_1 : Int) := of_decide_eq_true asmA
     have q537 : x5_1 < (l0.length : Int) := of_decide_eq_true asmA
     obtain ⟨ad537, e537, hx537_0⟩ := Kd.at_string HR0.out x5_1 p537 q537
     obtain rfl : ad535 = ad537 := (by injection e537)
     replace p537 := eq_true p537
     replace q537 := eq_true q537
     have p538 : 0 ≤ (x5_1 : Int) := of_decide_eq_true asmA
     have q538 : x5_1 < (l1.length : Int) := of_decide_eq_true asmA
     obtain ⟨ad538, e538, hx538_0⟩ := Kd.at_string HR1.out x5_1 p538 q538
     obtain rfl : ad536 = ad538 := (by injection e538)
     replace p538 := eq_true p538
     replace q538 := eq_true q538
     go_wp2
     repeat (go_quiet (fail); try go_wp2)
     go_roundg kj2
     case measure => have := HK1.out; have := HJ2.out; omega
     case rel => exact ⟨(wrap64 (x5_1 + 1)), relA, H', ⟨by have := HK1.out; have := HJ2.out; omega⟩, by repeat (first | exact Drawn0.refl _ | apply Drawn0.step)⟩
end Go.Proofs.Ytdopbhbbpgfliaa.PAsk
end
section
namespace Go.Proofs.Ytdopbhbbpgfliaa.PAsk
open Go.RowKit Go.Proofs.YtdopbhbbpgfliaaW.PrintWords Go.Proofs.YtdopbhbbpgfliaaW.PrintLast Go.Proofs.YtdopbhbbpgfliaaW.PrintMore
set_option linter.unusedVariables false
set_option linter.unusedSimpArgs false
set_option maxHeartbeats 8000000
set_option maxRecDepth 100000
theorem dim_long (s : ByteArray) (w : World) : Calls Try.prog 64 #[.string s] w fun e w' => e = .returned (.bool (decide (16 < (s.size : Int)))) ∧ w = w' := by
  go_enter Try.func64, Try.ntmps64
  go_wp2
  go_ret
  exact ⟨rfl, rfl⟩
def lng (s : ByteArray) : Bool := decide (16 < (s.size : Int))
def idxS (l : List ByteArray) : Int := match l.findIdx? lng with | some i => (i : Int) | none => -1
theorem idxS_hit {l : List ByteArray} {j : Nat} (h : j < l.length) (h1 : lng l[j] = true) (h2 : ∀ i, ∀ hi : i < j, lng (l[i]'(by omega)) = false) : idxS l = j := by
  unfold idxS
  have : l.findIdx? lng = some j := by
    rw [List.findIdx?_eq_some_iff_getElem]
    exact ⟨h, h1, fun i hi => by simpa using h2 i hi⟩
  rw [this]
theorem idxS_miss {l : List ByteArray} (h2 : ∀ i, ∀ hi : i < l.length, lng l[i] = false) : idxS l = -1 := by
  unfold idxS
  have : l.findIdx? lng = none := by
    rw [List.findIdx?_eq_none_iff]
    intro x hx
    obtain ⟨i, hi, rfl⟩ := List.mem_iff_getElem.1 hx
    exact h2 i hi
  rw [this]
theorem idxS_any (l : List ByteArray) : decide (idxS l ≥ 0) = l.any lng := by
  unfold idxS
  cases h : l.findIdx? lng with
  | none =>
    rw [List.findIdx?_eq_none_iff] at h
    have : l.any lng = false := by rw [List.any_eq_false]; intro x hx; simp [h x hx]
    rw [this]; rfl
  | some i =>
    rw [List.findIdx?_eq_some_iff_getElem] at h
    obtain ⟨hi, hp, _⟩ := h
    rw [List.any_eq_true.2 ⟨_, List.getElem_mem hi, hp⟩]
    exact decide_eq_true (show ((i : Nat) : Int) ≥ 0 by omega)
def IdxSRel (w : World) (l : List ByteArray) (j : Nat) (wr : World) : Prop := j ≤ l.length ∧ wr = w ∧ ∀ i, i < j → ∀ hi : i < l.length, lng l[i] = false
theorem index_dims (A0 : Option Addr) (c0 : Nat) (l0 : List ByteArray) (w : World) (hr0 : Kd.C Kd.string w A0 l0.length l0) (hl : l0.length ≤ 1000) :
    Calls Try.prog 88 #[.slice A0 l0.length c0, .func (.func 64) #[] #[]] w fun e w' => e = .returned (.int .i64 (idxS l0)) ∧ w = w' := by
  have HC := Lib.hid hr0; clear hr0
  go_enter Try.func88, Try.ntmps88
  go_wp2
  go_loopw [5, 8] (fun _ v wr => ∃ j : Nat, v = .int .i64 j ∧ IdxSRel w l0 j wr) (fun _ v _ => l0.length - (intOf v).toNat)
  case atStart => exact ⟨0, rfl, Nat.zero_le _, rfl, fun i hi => by omega⟩
  case round =>
    obtain ⟨j, rfl, hj, rfl, hno⟩ := hrel
    have HN := Lib.hid hno; clear hno
    by_cases hlt : j < l0.length
    · have e1 : decide ((j : Int) < (l0.length : Int)) = true := decide_eq_true (by omega)
      obtain ⟨ad, ha, hx0⟩ := Kd.at_string HC.out (j : Int) (by omega) (by omega)
      subst ha
      obtain ⟨x, hx⟩ : ∃ x, x = rdOf ByteArray.empty l0 (j : Int) := ⟨_, rfl⟩
      have hxl : Hid (x = l0[j]) := Lib.hid (by
        rw [hx]; unfold rdOf
        rw [show ((j : Int)).toNat = j from by omega, List.getD_eq_getElem?_getD, List.getElem?_eq_getElem hlt]
        rfl)
      rw [← hx] at hx0
      simp only [Int.toNat_natCast] at hx0
      clear hx
      cases hq : lng x with
      | true =>
        have HQ := Lib.hid hq
        unfold lng at hq
        go_wp2_with (go_at_call 64; refine (dim_long x _).mono ?_; rintro e w' ⟨rfl, rfl⟩)
        go_ret
        refine ⟨?_, rfl⟩
        rw [idxS_hit hlt (by rw [← hxl.out]; exact HQ.out) (fun i hi => HN.out i hi (by omega))]
        rfl
      | false =>
        have HQ := Lib.hid hq
        unfold lng at hq
        go_wp2_with (go_at_call 64; refine (dim_long x _).mono ?_; rintro e w' ⟨rfl, rfl⟩)
        go_roundw
        case rel =>
          refine ⟨j + 1, by go_num, hlt, rfl, fun i hi hi' => ?_⟩
          by_cases e : i = j
          · subst e
            rw [← hxl.out]; exact HQ.out
          · exact HN.out i (by omega) hi'
        case measure => simp [intOf]; omega
    · have e1 : decide ((j : Int) < (l0.length : Int)) = false := decide_eq_false (by omega)
      go_wp2
      go_ret
      refine ⟨?_, rfl⟩
      rw [idxS_miss (fun i hi => HN.out i (by omega) hi)]
      rfl
theorem contains_dims (A0 : Option Addr) (c0 : Nat) (l0 : List ByteArray) (w : World) (hr0 : Kd.C Kd.string w A0 l0.length l0) (hl : l0.length ≤ 1000) :
    Calls Try.prog 63 #[.slice A0 l0.length c0, .func (.func 64) #[] #[]] w fun e w' => e = .returned (.bool (l0.any lng)) ∧ w = w' := by
  have HC := Lib.hid hr0; clear hr0
  have hA := Lib.hid (idxS_any l0)
  go_enter Try.func63, Try.ntmps63
  go_wp2_with (go_at_call 88; refine (index_dims A0 c0 l0 w HC.out hl).mono ?_; rintro e w' ⟨rfl, rfl⟩)
  go_ret
  refine ⟨?_, rfl⟩
  rw [← hA.out]
  rfl
def dimsB (l : List ByteArray) : Bool := decide (l.length ≤ 4) && !l.any lng
def key_fits.f (l : List ByteArray) : Option Bool := some (dimsB l)
theorem key_fits.calls (A0 : Option Addr) (c0 : Nat) (l0 : List ByteArray) (r : Bool) (w : World) (hr0 : Kd.C Kd.string w A0 l0.length l0) (_ : l0.length ≤ c0) (h : key_fits.f l0 = some r) :
    Calls Try.prog 41 #[.slice A0 l0.length c0] w fun e w' => e = .returned (.bool r) ∧ Drawn0 w w' := by
  have HC := Lib.hid hr0; clear hr0
  have H : Hid (dimsB l0 = r) := Lib.hid (Option.some.inj h)
  clear h
  by_cases hl : l0.length ≤ 4
  · have e1 : decide ((l0.length : Int) ≤ 4) = true := decide_eq_true (by omega)
    have e2 : decide (l0.length ≤ 4) = true := decide_eq_true hl
    cases hq : l0.any lng with
    | true =>
      have HQ := Lib.hid hq; clear hq
      go_enter Try.func41, Try.ntmps41
      go_wp2_with (go_at_call 63; refine (contains_dims A0 c0 l0 w HC.out (by omega)).mono ?_; rintro e w' ⟨rfl, rfl⟩; rw [HQ.out])
      go_ret
      refine ⟨?_, Drawn0.refl _⟩
      rw [← H.out]; unfold dimsB; rw [HQ.out]; simp
    | false =>
      have HQ := Lib.hid hq; clear hq
      go_enter Try.func41, Try.ntmps41
      go_wp2_with (go_at_call 63; refine (contains_dims A0 c0 l0 w HC.out (by omega)).mono ?_; rintro e w' ⟨rfl, rfl⟩; rw [HQ.out])
      go_ret
      refine ⟨?_, Drawn0.refl _⟩
      rw [← H.out]; unfold dimsB; rw [HQ.out, e2]; rfl
  · have e1 : decide ((l0.length : Int) ≤ 4) = false := decide_eq_false (by omega)
    have e2 : decide (l0.length ≤ 4) = false := decide_eq_false hl
    have H2 : Hid (r = false) := Lib.hid (by rw [← H.out]; unfold dimsB; rw [e2]; rfl)
    go_enter Try.func41, Try.ntmps41
    go_wp2
    go_ret
    exact ⟨by rw [H2.out]; rfl, Drawn0.refl _⟩
end Go.Proofs.Ytdopbhbbpgfliaa.PAsk
end
