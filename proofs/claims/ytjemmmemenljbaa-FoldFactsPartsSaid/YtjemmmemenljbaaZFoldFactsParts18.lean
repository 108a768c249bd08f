import Derived.Test.YtjemmmemenljbaaZFoldFactsParts17
section
namespace Go.Proofs.Ytjemmmemenljbaa.PFold
open Go.RowKit Go.Proofs.YtjemmmemenljbaaW.PrintWords Go.Proofs.YtjemmmemenljbaaW.PrintLast Go.Proofs.YtjemmmemenljbaaW.PrintMore
attribute [local go_sem] max2_int min2_int max_two min_two max_three min_three max_four min_four   -- for this text's walks alone
set_option linter.unusedVariables false
set_option linter.unusedSimpArgs false
set_option maxHeartbeats 8000000
set_option maxRecDepth 100000
mutual
def rickyardlaw15_Many.l0 : Nat → List (S46) → Int → Option (Bool)
 | 0, _, _ => none
 | k + 1, x0, x3 => if x3 < (x0.length : Int) then (if 0 ≤ x3 then (if (((rd_T46 x0 x3).f0).length : Int) > 20 then (some true) else (rickyardlaw15_Many.l1 k x0 x3 0)) else (none)) else (some false)
def rickyardlaw15_Many.l1 : Nat → List (S46) → Int → Int → Option (Bool)
 | 0, _, _, _ => none
 | k + 1, x0, x3, x4 => if 0 ≤ x3 then (if x3 < (x0.length : Int) then (if x4 < (((rd_T46 x0 x3).f0).length : Int) then (if 0 ≤ x4 then (if ((rdOf ByteArray.empty ((rd_T46 x0 x3).f0) x4).size : Int) > 100 then (some true) else (rickyardlaw15_Many.l1 k x0 x3 (wrap64 (x4 + 1)))) else (none)) else (rickyardlaw15_Many.l0 k x0 (wrap64 (x3 + 1)))) else (none)) else (none)
end
def rickyardlaw15_Many.f (k : Nat) (l0 : List (S46)) : Option (Bool) := if (l0.length : Int) > 60 then (some true) else (rickyardlaw15_Many.l0 k l0 0)
theorem rickyardlaw15_Many.calls (k : Nat) (A0 : Option Addr) (c0 : Nat) (l0 : List (S46)) (r : Bool) (w : World) (hr0 : Kd.C k46 w A0 l0.length l0) (hc0 : l0.length ≤ c0) (h : rickyardlaw15_Many.f k l0 = some r) :
  Calls Try.prog 10 #[.slice A0 l0.length c0] w fun e w' => e = .returned (.bool r) ∧ Drawn0 w w' := by
 have HR0 := Aside0.mk hr0
 have HC0 := Aside0.mk hc0
 clear hr0 hc0
 have H : (if (l0.length : Int) > 60 then (some true) else (rickyardlaw15_Many.l0 k l0 0)) = some r := h
 clear h
 by_cases c2 : (l0.length : Int) > 60
 ·rw [if_pos c2] at H
  have c2b0 := decide_eq_true c2
  have c2b1 : decide (60 < l0.length) = true := decide_eq_true (by omega)
  clear c2
  obtain rfl := Option.some.inj H
  go_enter Try.func10, Try.ntmps10
  go_wp2
  go_ret
  exact ⟨by first | rfl | (simp; done) | (simp [*]; done), by repeat (first | exact Drawn0.refl _ | apply Drawn0.step)⟩
 rw [if_neg c2] at H
 have c2b0 := decide_eq_false c2
 have c2b1 : decide (60 < l0.length) = false := decide_eq_false (by omega)
 clear c2
 have H' := Aside0.mk H
 clear H
 go_enter Try.func10, Try.ntmps10
 go_wp2
 go_loopg [3] k (fun kq v3 w' => ∃ (x3_1 : Int), v3 = .int .i64 x3_1 ∧ Aside0 (rickyardlaw15_Many.l0 kq l0 x3_1 = some r) ∧ Aside0 (kq ≤ k) ∧ Drawn0 w w')
 case atStart => exact ⟨(0), relA, H', ⟨Nat.le_refl _⟩, by repeat (first | exact Drawn0.refl _ | apply Drawn0.step)⟩
 case round =>
  clear H'
  try clear c1
  try clear c2
  try clear c2b0
  try clear c2b1
  try clear p2
  obtain ⟨x3_1, rfl, HA, HK1, ⟨m1, rfl⟩⟩ := hrel
  cases gk with
  | zero => exact absurd HA.out (by simp [rickyardlaw15_Many.l0])
  | succ k1 =>
   have H := HA.out
   clear HA
   simp only [rickyardlaw15_Many.l0] at H
   by_cases c3 : x3_1 < (l0.length : Int)
   ·rw [if_pos c3] at H
    have c3b0 := decide_eq_true c3
    clear c3
    by_cases c4 : 0 ≤ x3_1
    ·rw [if_pos c4] at H
     have c4b0 := decide_eq_true c4
     clear c4
     by_cases c5 : (((rd_T46 l0 x3_1).f0).length : Int) > 20
     ·rw [if_pos c5] at H
      have c5b0 := decide_eq_true c5
      have c5b1 : decide (20 < ((rd_T46 l0 x3_1).f0).length) = true := decide_eq_true (by omega)
      clear c5
      obtain rfl := Option.some.inj H
      have p101 : 0 ≤ (x3_1 : Int) := of_decide_eq_true asmA
      have q101 : x3_1 < (l0.length : Int) := of_decide_eq_true asmA
      obtain ⟨ad101, A101_0, c101_0, e101, hx101_0, hx101_1, hx101_2, hl101_0, hi101_0⟩ := at_T46 HR0.out x3_1 p101 q101
      cases e101
      have HR101_0 := Aside0.mk hi101_0
      have HC101_0 := Aside0.mk hl101_0
      clear hi101_0 hl101_0
      replace p101 := eq_true p101
      replace q101 := eq_true q101
      go_wp2
      go_ret
      exact ⟨by first | rfl | (simp; done) | (simp [*]; done), by repeat (first | exact Drawn0.refl _ | apply Drawn0.step)⟩
     ·rw [if_neg c5] at H
      have c5b0 := decide_eq_false c5
      have c5b1 : decide (20 < ((rd_T46 l0 x3_1).f0).length) = false := decide_eq_false (by omega)
      clear c5
      have H' := Aside0.mk H
      clear H
      have p101 : 0 ≤ (x3_1 : Int) := of_decide_eq_true asmA
      have q101 : x3_1 < (l0.length : Int) := of_decide_eq_true asmA
      obtain ⟨ad101, A101_0, c101_0, e101, hx101_0, hx101_1, hx101_2, hl101_0, hi101_0⟩ := at_T46 HR0.out x3_1 p101 q101
      cases e101
      have HR101_0 := Aside0.mk hi101_0
      have HC101_0 := Aside0.mk hl101_0
      clear hi101_0 hl101_0
      replace p101 := eq_true p101
      replace q101 := eq_true q101
      go_wp2
      go_loopg [4] k1 (fun kq v4 w' => ∃ (x4_2 : Int), v4 = .int .i64 x4_2 ∧ Aside0 (rickyardlaw15_Many.l1 kq l0 x3_1 x4_2 = some r) ∧ Aside0 (kq ≤ k1) ∧ Drawn0 w w')
      case atStart => exact ⟨(0), relA, H', ⟨Nat.le_refl _⟩, by repeat (first | exact Drawn0.refl _ | apply Drawn0.step)⟩
      case round =>
       clear H'
       try clear c1
       try clear p1
       try clear q1
       try clear hx1
       try clear c2
       try clear c2b0
       try clear c2b1
       try clear p2
       try clear c3
       try clear c3b0
       try clear c4
       try clear c4b0
       try clear c5
       try clear c5b0
       try clear c5b1
       try clear hx101_0
       try clear hx101_1
       try clear hx101_2
       try clear p101
       try clear p2
       try clear q101
       obtain ⟨x4_2, rfl, HA, HK2, ⟨m2, rfl⟩⟩ := hrel
       cases gk with
       | zero => exact absurd HA.out (by simp [rickyardlaw15_Many.l1])
       | succ k2 =>
        have H := HA.out
        clear HA
        simp only [rickyardlaw15_Many.l1] at H
        by_cases c6 : 0 ≤ x3_1
        ·rw [if_pos c6] at H
         have c6b0 := decide_eq_true c6
         clear c6
         by_cases c7 : x3_1 < (l0.length : Int)
         ·rw [if_pos c7] at H
          have c7b0 := decide_eq_true c7
          clear c7
          by_cases c8 : x4_2 < (((rd_T46 l0 x3_1).f0).length : Int)
          ·rw [if_pos c8] at H
           have c8b0 := decide_eq_true c8
           clear c8
           by_cases c9 : 0 ≤ x4_2
           ·rw [if_pos c9] at H
            have c9b0 := decide_eq_true c9
            clear c9
            by_cases c10 : ((rdOf ByteArray.empty ((rd_T46 l0 x3_1).f0) x4_2).size : Int) > 100
            ·rw [if_pos c10] at H
             have c10b0 := decide_eq_true c10
             have c10b1 : decide (100 < (rdOf ByteArray.empty ((rd_T46 l0 x3_1).f0) x4_2).size) = true := decide_eq_true (by omega)
             clear c10
             obtain rfl := Option.some.inj H
             have p102 : 0 ≤ (x3_1 : Int) := of_decide_eq_true asmA
             have q102 : x3_1 < (l0.length : Int) := of_decide_eq_true asmA
             obtain ⟨ad102, A102_0, c102_0, e102, hx102_0, hx102_1, hx102_2, hl102_0, hi102_0⟩ := at_T46 HR0.out x3_1 p102 q102
             obtain rfl : ad101 = ad102 := (by injection e102)
             have HR102_0 := Aside0.mk hi102_0
             have HC102_0 := Aside0.mk hl102_0
             clear hi102_0 hl102_0
             replace p102 := eq_true p102
             replace q102 := eq_true q102
             have p103 : 0 ≤ (x3_1 : Int) := of_decide_eq_true asmA
             have q103 : x3_1 < (l0.length : Int) := of_decide_eq_true asmA
             obtain ⟨ad103, A103_0, c103_0, e103, hx103_0, hx103_1, hx103_2, hl103_0, hi103_0⟩ := at_T46 HR0.out x3_1 p103 q103
             obtain rfl : ad101 = ad103 := (by injection e103)
             have HR103_0 := Aside0.mk hi103_0
             have HC103_0 := Aside0.mk hl103_0
             clear hi103_0 hl103_0
             replace p103 := eq_true p103
             replace q103 := eq_true q103
             have ea_ := Option.some.inj (hx102_0.symm.trans hx103_0)
             injection ea_ with ea_ en_ ec_
             subst ea_
             subst ec_
             clear en_
             have p104 : 0 ≤ (x4_2 : Int) := of_decide_eq_true asmA
             have q104 : x4_2 < (((rd_T46 l0 x3_1).f0).length : Int) := of_decide_eq_true asmA
             obtain ⟨ad104, e104, hx104_0⟩ := Kd.at_string HR103_0.out x4_2 p104 q104
             cases e104
             replace p104 := eq_true p104
             replace q104 := eq_true q104
             go_wp2
             go_ret
             exact ⟨by first | rfl | (simp; done) | (simp [*]; done), by repeat (first | exact Drawn0.refl _ | apply Drawn0.step)⟩
            ·rw [if_neg c10] at H
             have c10b0 := decide_eq_false c10
             have c10b1 : decide (100 < (rdOf ByteArray.empty ((rd_T46 l0 x3_1).f0) x4_2).size) = false := decide_eq_false (by omega)
             clear c10
             have H' := Aside0.mk H
             clear H
             have p102 : 0 ≤ (x3_1 : Int) := of_decide_eq_true asmA
             have q102 : x3_1 < (l0.length : Int) := of_decide_eq_true asmA
             obtain ⟨ad102, A102_0, c102_0, e102, hx102_0, hx102_1, hx102_2, hl102_0, hi102_0⟩ := at_T46 HR0.out x3_1 p102 q102
             obtain rfl : ad101 = ad102 := (by injection e102)
             have HR102_0 := Aside0.mk hi102_0
             have HC102_0 := Aside0.mk hl102_0
             clear hi102_0 hl102_0
             replace p102 := eq_true p102
             replace q102 := eq_true q102
             have p103 : 0 ≤ (x3_1 : Int) := of_decide_eq_true asmA
             have q103 : x3_1 < (l0.length : Int) := of_decide_eq_true asmA
             obtain ⟨ad103, A103_0, c103_0, e103, hx103_0, hx103_1, hx103_2, hl103_0, hi103_0⟩ := at_T46 HR0.out x3_1 p103 q103
             obtain rfl : ad101 = ad103 := (by injection e103)
             have HR103_0 := Aside0.mk hi103_0
             have HC103_0 := Aside0.mk hl103_0
             clear hi103_0 hl103_0
             replace p103 := eq_true p103
             replace q103 := eq_true q103
             have ea_ := Option.some.inj (hx102_0.symm.trans hx103_0)
             injection ea_ with ea_ en_ ec_
             subst ea_
             subst ec_
             clear en_
             have p104 : 0 ≤ (x4_2 : Int) := of_decide_eq_true asmA
             have q104 : x4_2 < (((rd_T46 l0 x3_1).f0).length : Int) := of_decide_eq_true asmA
             obtain ⟨ad104, e104, hx104_0⟩ := Kd.at_string HR103_0.out x4_2 p104 q104
             cases e104
             replace p104 := eq_true p104
             replace q104 := eq_true q104
             go_wp2
             go_roundg k2
             case measure => have := HK1.out; have := HK2.out; omega
             case rel => exact ⟨(wrap64 (x4_2 + 1)), relA, H', ⟨by have := HK1.out; have := HK2.out; omega⟩, by repeat (first | exact Drawn0.refl _ | apply Drawn0.step)⟩
           ·rw [if_neg c9] at H
            exact absurd H (by simp)
          ·rw [if_neg c8] at H
           have c8b0 := decide_eq_false c8
           clear c8
           have H' := Aside0.mk H
           clear H
           have p102 : 0 ≤ (x3_1 : Int) := of_decide_eq_true asmA
           have q102 : x3_1 < (l0.length : Int) := of_decide_eq_true asmA
           obtain ⟨ad102, A102_0, c102_0, e102, hx102_0, hx102_1, hx102_2, hl102_0, hi102_0⟩ := at_T46 HR0.out x3_1 p102 q102
           obtain rfl : ad101 = ad102 := (by injection e102)
           have HR102_0 := Aside0.mk hi102_0
           have HC102_0 := Aside0.mk hl102_0
           clear hi102_0 hl102_0
           replace p102 := eq_true p102
           replace q102 := eq_true q102
           go_wp2
           go_roundg k2
           case measure => have := HK1.out; have := HK2.out; omega
           case rel => exact ⟨(wrap64 (x3_1 + 1)), relA, H', ⟨by have := HK1.out; have := HK2.out; omega⟩, by repeat (first | exact Drawn0.refl _ | apply Drawn0.step)⟩
         ·rw [if_neg c7] at H
          exact absurd H (by simp)
        ·rw [if_neg c6] at H
         exact absurd H (by simp)
    ·rw [if_neg c4] at H
     exact absurd H (by simp)
   ·rw [if_neg c3] at H
    have c3b0 := decide_eq_false c3
    clear c3
    obtain rfl := Option.some.inj H
    go_wp2
    go_ret
    exact ⟨by first | rfl | (simp; done) | (simp [*]; done), by repeat (first | exact Drawn0.refl _ | apply Drawn0.step)⟩
end Go.Proofs.Ytjemmmemenljbaa.PFold
end
section
namespace Go.Proofs.Ytjemmmemenljbaa.PFold
open Go.RowKit Go.Proofs.YtjemmmemenljbaaW.PrintWords Go.Proofs.YtjemmmemenljbaaW.PrintLast Go.Proofs.YtjemmmemenljbaaW.PrintMore
set_option linter.unusedVariables false
set_option linter.unusedSimpArgs false
set_option maxHeartbeats 8000000
set_option maxRecDepth 100000
def rotF (l : List Fa) (t : Nat) : List Fa := (List.range l.length).map fun j => rd_T46 l (((j + t) % l.length : Nat) : Int)
theorem rotF_len (l : List Fa) (t : Nat) : (rotF l t).length = l.length := by simp [rotF]
theorem rotF_take (l : List Fa) (t j : Nat) (h : j < l.length) : (rotF l t).take (j + 1) = (rotF l t).take j ++ [rd_T46 l (((j + t) % l.length : Nat) : Int)] := by
  rw [List.take_succ_eq_append_getElem (by rw [rotF_len]; exact h)]
  simp [rotF]
theorem and1023 (n : Int) : bits .and .i64 n 1023 = n % 1024 := by
  have h127 : (BitVec.ofInt 64 1023).toNat = 2 ^ 10 - 1 := by decide
  have key : (BitVec.ofInt 64 n &&& BitVec.ofInt 64 1023).toNat = (n % ((2 ^ 64 : Nat) : Int)).toNat % 2 ^ 10 := by
    rw [BitVec.toNat_and, BitVec.toNat_ofInt, h127, Nat.and_two_pow_sub_one_eq_mod]
  show IntKind.i64.wrap ((BitVec.ofInt 64 n &&& BitVec.ofInt 64 1023).toNat : Nat) = n % 1024
  rw [key, IntKind.wrap_i64]
  omega
noncomputable def rickyardlaw15_FoldFactsParts.f (k : Nat) (l0_0 : List S67) (a0_1 a1 : Int) (l2 : List Fa) (a3 a4 : Int) : Option Bool :=
  (rickyardlaw15_Many.f k l2).bind fun t1 => if t1 = true then rickyardlaw15_alive.f k else if a3 < 0 then rickyardlaw15_alive.f k else if a3 > (l2.length : Int) then rickyardlaw15_alive.f k else if l2.length ≤ 1000 then
  (fold_Facts.f k l0_0 a0_1 a1 l2).bind fun x => if x.2 = 0 then
    ((fold_Facts.f k l0_0 a0_1 a1 (rotF l2 (a4 % 1024).toNat)).bind fun y => (fold_Facts.f k l0_0 a0_1 a1 (l2.take a3.toNat)).bind fun a => (fold_Facts.f k l0_0 a0_1 a1 (l2.drop a3.toNat)).bind fun b => (mAll k a.1 b.1).bind fun g =>
      (rickyardlaw15_alive.f k).bind fun t => (rickyardref08_Same.f k x.1 y.1).bind fun s => (rickyardref08_Same.f k x.1 g.1).bind fun s2 => if t = true ∧ y.2 = 0 ∧ a.2 = 0 ∧ b.2 = 0 ∧ g.2 = 0 ∧ s = true ∧ s2 = true then some true else none)
    else rickyardlaw15_alive.f k
  else none
def RotRel (w : World) (l : List Fa) (t : Nat) (v : Value) (j : Nat) (wr : World) : Prop :=
  j ≤ l.length ∧ Below w.heap.size w wr ∧ ∃ cs, wr.ownsRow w.heap.size 46 3 v j cs ∧ Reps (k46.K w) 3 ((rotF l t).take j) cs
def mfacts.T12 : Bool × List (List Nat × List Nat) := (true, [([], []), ([], []), ([], []), ([], []), ([2, 3], [2, 3]), ([0, 1, 4], [0, 1, 4]), ([5], [5]), ([6], [6]), ([6], [6]), ([7, 5, 0, 1, 2, 3, 4, 5, 6, 7], [7]), ([8, 9, 0, 1, 2, 3, 4, 5, 6, 7, 8, 9], [8])])
def mfacts.B12 : List Nat := [0, 0, 0, 0, 12, 31, 63, 127, 127, 255, 1023]
theorem mfacts.tab12 : rtab .any (opsOf Try.f9 12) = mfacts.T12 := by kernel_rfl
theorem mfacts.bits12 : waitsOk mfacts.T12.2 mfacts.B12 = true := by kernel_rfl
def mfacts.T13 : Bool × List (List Nat × List Nat) := (true, [([], []), ([], []), ([], []), ([], []), ([2, 3], [2, 3]), ([0, 1, 4], [0, 1, 4]), ([5], [5]), ([6], [6]), ([6], [6]), ([7, 5, 0, 1, 2, 3, 4, 5, 6, 7], [7]), ([8, 9, 0, 1, 2, 3, 4, 5, 6, 7, 8, 9], [8])])
def mfacts.B13 : List Nat := [0, 0, 0, 0, 12, 31, 63, 127, 127, 255, 1023]
theorem mfacts.tab13 : rtab .any (opsOf Try.f9 13) = mfacts.T13 := by kernel_rfl
theorem mfacts.bits13 : waitsOk mfacts.T13.2 mfacts.B13 = true := by kernel_rfl
theorem rickyardlaw15_FoldFactsParts.calls (k : Nat) (A0_0 : Option Addr) (c0_0 : Nat) (l0_0 : List S67) (a0_1 : Int) (a1 : Int) (A2 : Option Addr) (c2 : Nat) (l2 : List Fa) (a3 : Int) (a4 : Int) (r : Bool) (w : World) (hr0_0 : Kd.C k67 w A0_0 l0_0.length l0_0) (hc0_0 : l0_0.length ≤ c0_0) (hr2 : Kd.C k46 w A2 l2.length l2) (hc2 : l2.length ≤ c2) (h : rickyardlaw15_FoldFactsParts.f k l0_0 a0_1 a1 l2 a3 a4 = some r) :
    Calls Try.prog 9 #[.agg #[.slice A0_0 l0_0.length c0_0, .int .i64 a0_1], .int .i64 a1, .slice A2 l2.length c2, .int .i64 a3, .int .i64 a4] w fun e w' => e = .returned (.bool r) ∧ Below w.heap.size w w' := by
  have HG := Lib.hid hr0_0; have HL := Lib.hid hr2
  have HBX := Lib.hid (blk_new w (.cells #[.slice A0_0 l0_0.length c0_0, .int .i64 a0_1] 24 (0, 0)))
  have HB0 : Hid (Below w.heap.size w (w.alloc (.cells #[.slice A0_0 l0_0.length c0_0, .int .i64 a0_1] 24 (0, 0)))) := Lib.hid ((Below.refl _ _).alloc (Nat.le_refl _) _)
  clear hr0_0 hr2
  unfold rickyardlaw15_FoldFactsParts.f at h
  obtain ⟨t1, ht1, h1⟩ := Option.bind_eq_some_iff.mp h
  have HT1 := Lib.hid ht1
  clear h ht1
  cases t1 with
  | true =>
    rw [if_pos rfl] at h1
    have HAL := Lib.hid h1
    clear h1
    go_enter Try.func9, Try.ntmps9
    go_wp2_with (first
      | (go_at_call 10; with_reducible refine (rickyardlaw15_Many.calls k A2 c2 l2 _ _ (Kd.C_below HL.out HB0.out) hc2 HT1.out).mono ?_; rintro e w1 ⟨rfl, ⟨nd, rfl⟩⟩; have HB1 := Lib.hid (pw_below_drewN HB0.out nd))
      | (go_at_call 11; with_reducible refine (rickyardlaw15_alive.calls k _ _ HAL.out).mono ?_; rintro e w6 ⟨rfl, hb⟩; have HB6 := Lib.hid (below_step HB1.out hb); clear hb))
    go_ret
    exact ⟨by rfl, HB6.out⟩
  | false =>
  rw [if_neg (by decide)] at h1
  by_cases o1 : a3 < 0
  · rw [if_pos o1] at h1
    have HAL := Lib.hid h1
    have e1 : decide (a3 < 0) = true := decide_eq_true o1
    clear h1
    go_enter Try.func9, Try.ntmps9
    go_wp2_with (first
      | (go_at_call 10; with_reducible refine (rickyardlaw15_Many.calls k A2 c2 l2 _ _ (Kd.C_below HL.out HB0.out) hc2 HT1.out).mono ?_; rintro e w1 ⟨rfl, ⟨nd, rfl⟩⟩; have HB1 := Lib.hid (pw_below_drewN HB0.out nd))
      | (go_at_call 11; with_reducible refine (rickyardlaw15_alive.calls k _ _ HAL.out).mono ?_; rintro e w6 ⟨rfl, hb⟩; have HB6 := Lib.hid (below_step HB1.out hb); clear hb))
    go_ret
    exact ⟨by rfl, HB6.out⟩
  rw [if_neg o1] at h1
  have e1 : decide (a3 < 0) = false := decide_eq_false o1
  by_cases o2 : a3 > (l2.length : Int)
  · rw [if_pos o2] at h1
    have HAL := Lib.hid h1
    have e2 : decide ((l2.length : Int) < a3) = true := decide_eq_true o2
    clear h1
    go_enter Try.func9, Try.ntmps9
    go_wp2_with (first
      | (go_at_call 10; with_reducible refine (rickyardlaw15_Many.calls k A2 c2 l2 _ _ (Kd.C_below HL.out HB0.out) hc2 HT1.out).mono ?_; rintro e w1 ⟨rfl, ⟨nd, rfl⟩⟩; have HB1 := Lib.hid (pw_below_drewN HB0.out nd))
      | (go_at_call 11; with_reducible refine (rickyardlaw15_alive.calls k _ _ HAL.out).mono ?_; rintro e w6 ⟨rfl, hb⟩; have HB6 := Lib.hid (below_step HB1.out hb); clear hb))
    go_ret
    exact ⟨by rfl, HB6.out⟩
  rw [if_neg o2] at h1
  obtain ⟨m, rfl⟩ : ∃ m : Nat, a3 = (m : Int) := ⟨a3.toNat, by omega⟩
  have hm : m ≤ l2.length := by omega
  have e2 : decide ((l2.length : Int) < (m : Int)) = false := decide_eq_false o2
  clear o1 o2
  by_cases o3 : l2.length ≤ 1000
  case neg => rw [if_neg o3] at h1; cases h1
  rw [if_pos o3] at h1
  obtain ⟨⟨x1, x2⟩, hf1, h2⟩ := Option.bind_eq_some_iff.mp h1
  have HF1 := Lib.hid hf1
  clear h1 hf1
  simp only at h2
  by_cases z1 : x2 = 0
  case neg =>
    rw [if_neg z1] at h2
    have HAL := Lib.hid h2
    have e3 : (x2 != 0) = true := bne_iff_ne.2 z1
    clear h2 z1
    go_enter Try.func9, Try.ntmps9
    go_wp2_with (first
      | (go_at_call 10; with_reducible refine (rickyardlaw15_Many.calls k A2 c2 l2 _ _ (Kd.C_below HL.out HB0.out) hc2 HT1.out).mono ?_; rintro e w1 ⟨rfl, ⟨nd, rfl⟩⟩; have HB1 := Lib.hid (pw_below_drewN HB0.out nd); have HX1 := Lib.hid (blk_drewN HBX.out nd))
      | (go_at_call 12; with_reducible refine (fold_Facts.calls k A0_0 c0_0 l0_0 a0_1 a1 A2 c2 l2 _ _ _ (Kd.C_below HG.out HB1.out) hc0_0 (Kd.C_below HL.out HB1.out) hc2 HF1.out).mono ?_; rintro e w3 ⟨vx, rfl, hrx, hb⟩; obtain ⟨Ax, cx, evx⟩ := Kd.R_slice hrx; subst evx; have HB3 := Lib.hid (below_step HB1.out hb); clear hrx hb)
      | (go_at_call 11; with_reducible refine (rickyardlaw15_alive.calls k _ _ HAL.out).mono ?_; rintro e w6 ⟨rfl, hb⟩; have HB6 := Lib.hid (below_step HB3.out hb); clear hb))
    go_ret
    exact ⟨by rfl, HB6.out⟩
  rw [if_pos z1] at h2
  have e3 : (x2 != 0) = false := bne_eq_false_iff_eq.2 z1
  clear z1
  obtain ⟨⟨y1, y2⟩, hf2, h3⟩ := Option.bind_eq_some_iff.mp h2
  obtain ⟨⟨p1, p2⟩, hf3, h4⟩ := Option.bind_eq_some_iff.mp h3
  obtain ⟨⟨q1, q2⟩, hf4, h5⟩ := Option.bind_eq_some_iff.mp h4
  obtain ⟨⟨g1, g2⟩, hm1, h6⟩ := Option.bind_eq_some_iff.mp h5
  obtain ⟨t, hal, h7⟩ := Option.bind_eq_some_iff.mp h6
  obtain ⟨s, hsa, h8⟩ := Option.bind_eq_some_iff.mp h7
  obtain ⟨s2, hsb, h9⟩ := Option.bind_eq_some_iff.mp h8
  simp only at hf2 hf3 hf4 hm1 hsa hsb h9
  by_cases z4 : t = true ∧ y2 = 0 ∧ p2 = 0 ∧ q2 = 0 ∧ g2 = 0 ∧ s = true ∧ s2 = true
  case neg => rw [if_neg z4] at h9; cases h9
  rw [if_pos z4] at h9
  obtain rfl := Option.some.inj h9
  obtain ⟨rfl, rfl, rfl, rfl, rfl, rfl, rfl⟩ := z4
  rw [show ((m : Int)).toNat = m from by omega] at hf3 hf4
  have HF2 := Lib.hid hf2; have HF3 := Lib.hid hf3; have HF4 := Lib.hid hf4; have HM1 := Lib.hid hm1; have HAV := Lib.hid hal; have HSA := Lib.hid hsa; have HSB := Lib.hid hsb
  clear h2 h3 h4 h5 h6 h7 h8 h9 hf2 hf3 hf4 hm1 hal hsa hsb
  have HCT : Hid (∀ W, Below w.heap.size w W → Calls Try.prog 12 #[.agg #[.slice A0_0 l0_0.length c0_0, .int .i64 a0_1], .int .i64 a1, .slice A2 m c2] W fun e w' => ∃ v0_ : Value, e = .returned (.tuple #[v0_, .int .i64 0]) ∧ Kd.R k51 51 w' W.heap.size (fun _ => True) v0_ p1 ∧ Below W.heap.size W w') := Lib.hid (fun W hW => by
    have h := fold_Facts.calls k A0_0 c0_0 l0_0 a0_1 a1 A2 c2 (l2.take m) p1 0 W (Kd.C_below HG.out hW) hc0_0 (Kd.C_take (Kd.C_below HL.out hW) hm) (by rw [List.length_take]; omega) HF3.out
    rw [List.length_take, Nat.min_eq_left hm] at h
    exact h)
  have HCD : Hid (∀ W, Below w.heap.size w W → Calls Try.prog 12 #[.agg #[.slice A0_0 l0_0.length c0_0, .int .i64 a0_1], .int .i64 a1, .slice (if c2 = m then A2 else A2.map (·.add (m * 3))) (l2.length - m) (c2 - m)] W fun e w' => ∃ v0_ : Value, e = .returned (.tuple #[v0_, .int .i64 0]) ∧ Kd.R k51 51 w' W.heap.size (fun _ => True) v0_ q1 ∧ Below W.heap.size W w') := Lib.hid (fun W hW => by
    have h := fold_Facts.calls k A0_0 c0_0 l0_0 a0_1 a1 _ (c2 - m) (l2.drop m) q1 0 W (Kd.C_below HG.out hW) hc0_0 (Kd.C_drop (Kd.C_below HL.out hW) hm hc2) (by rw [List.length_drop]; omega) HF4.out
    rw [List.length_drop] at h
    exact h)
  obtain ⟨tt, htt⟩ : ∃ tt : Nat, tt = (a4 % 1024).toNat := ⟨_, rfl⟩
  rw [← htt] at HF2
  have e4 : bits .and .i64 a4 1023 = (tt : Int) := by rw [and1023]; omega
  have htl : tt < 1024 := by omega
  clear htt HF3 HF4
  go_enter Try.func9, Try.ntmps9
  go_wp2_with (first
    | (go_at_call 10; with_reducible refine (rickyardlaw15_Many.calls k A2 c2 l2 _ _ (Kd.C_below HL.out HB0.out) hc2 HT1.out).mono ?_; rintro e w1 ⟨rfl, ⟨nd, rfl⟩⟩; have HB1 := Lib.hid (pw_below_drewN HB0.out nd); have HX1 := Lib.hid (blk_drewN HBX.out nd))
    | (go_at_call 12; with_reducible refine (fold_Facts.calls k A0_0 c0_0 l0_0 a0_1 a1 A2 c2 l2 _ _ _ (Kd.C_below HG.out HB1.out) hc0_0 (Kd.C_below HL.out HB1.out) hc2 HF1.out).mono ?_; rintro e w3 ⟨vx, rfl, hrx, hb⟩; obtain ⟨Ax, cx, evx⟩ := Kd.R_slice hrx; subst evx; have HRX := Lib.hid hrx; have HB3 := Lib.hid (below_step HB1.out hb); have HX3 := Lib.hid (blk_below HX1.out hb); clear hrx hb))
  go_loopw [14, 13] (fun v u wr => ∃ j : Nat, v = .int .i64 j ∧ RotRel w3 l2 tt u j wr) (fun v _ _ => l2.length - (intOf v).toNat)
  case atStart => exact ⟨0, rfl, Nat.zero_le _, Below.refl _ _, [], World.ownsRow_nil _ _ _ _, by simp; exact Reps.none _ _⟩
  case round =>
    obtain ⟨j, rfl, hj, hB, cs, hO, hP⟩ := hrel
    have HJB := Lib.hid hB; have HO := Lib.hid hO; have HP := Lib.hid hP
    obtain ⟨Am, cm, hu⟩ := own_slice hO
    subst hu
    clear hB hO hP
    by_cases hlt : j < l2.length
    · have e5 : decide ((j : Int) < (l2.length : Int)) = true := decide_eq_true (by omega)
      have e6 : IntKind.i64.wrap ((j : Int) + (tt : Int)) = (j : Int) + (tt : Int) := by rw [IntKind.wrap_i64]; omega
      have e6b : wrap64 ((j : Int) + (tt : Int)) = (j : Int) + (tt : Int) := by unfold wrap64; omega
      obtain ⟨ji, e7⟩ : ∃ ji : Int, ((j : Int) + (tt : Int)) % (l2.length : Int) = ji := ⟨_, rfl⟩
      have p7 : 0 ≤ ji := by rw [← e7]; exact Int.emod_nonneg _ (by omega)
      have q7 : ji < (l2.length : Int) := by rw [← e7]; exact Int.emod_lt_of_pos _ (by omega)
      have HJ0 := Lib.hid (below_step HB3.out HJB.out)
      obtain ⟨ad, A1, c1, ha, hx0, hx1, hx2, hlc, hin⟩ := at_T46 HL.out ji p7 q7
      have HIN := Lib.hid hin
      obtain ⟨x, hx⟩ : ∃ x, x = rd_T46 l2 ji := ⟨_, rfl⟩
      rw [← hx] at hx0 hx1 hx2 hlc HIN
      replace hx0 := (HJ0.out.cell (World.block_lt_of_cell? w _ hx0)).trans hx0
      replace hx1 := (HJ0.out.cell (World.block_lt_of_cell? w _ hx1)).trans hx1
      replace hx2 := (HJ0.out.cell (World.block_lt_of_cell? w _ hx2)).trans hx2
      have HTK := Lib.hid (rotF_take l2 tt j hlt)
      rw [show (((j + tt) % l2.length : Nat) : Int) = ji from by rw [← e7]; simp, ← hx] at HTK
      subst ha
      replace p7 := eq_true p7
      replace q7 := eq_true q7
      have z7 : ((l2.length : Int) = 0) = False := eq_false (by omega)
      clear hin hx
      go_wp2_with ((with_reducible refine gate_builtin (b := .append) (xs := #[.tmp 52, .tmp 63]) rfl ?_); at_builtin; refine print_append_cells (w0 := w3) w3.heap.size rfl (.tmp 52) (.tmp 63) 25 46 (.agg #[.slice none 0 0, .int .i64 0, .int .i64 0]) 3 40 rfl Try.underlying25 (by kernel_rfl) rfl (by decide) (by decide) (.slice Am j cm) j _ [.slice A1 x.f0.length c1, .int .i64 x.f1, .int .i64 x.f2] rfl rfl rfl (by simp [Value.oneCell']) HO.out HJB.out HJB.out.size (by omega) ?_; intro v1 w2 ho2 hb2 hg2 _; obtain ⟨A4, c4, hs4⟩ := own_slice ho2; subst hs4; have HO2 := Lib.hid ho2; have HB2 := Lib.hid hb2; clear ho2 hb2 hg2)
      go_roundw
      case rel =>
        refine ⟨j + 1, by go_num, hlt, HB2.out, _, HO2.out, ?_⟩
        rw [HTK.out]
        exact Reps.snoc HP.out (k46_mk w3 x hlc (Kd.C_below HIN.out HB3.out)) rfl
      case measure => simp [intOf]; omega
    · have e5 : decide ((j : Int) < (l2.length : Int)) = false := decide_eq_false (by omega)
      obtain rfl : j = l2.length := by omega
      have HBr := Lib.hid (below_step HB3.out HJB.out)
      have HXr := Lib.hid (blk_below HX3.out HJB.out)
      have HCR : Hid (Calls Try.prog 12 #[.agg #[.slice A0_0 l0_0.length c0_0, .int .i64 a0_1], .int .i64 a1, .slice Am l2.length cm] wr fun e w' => ∃ v0_ : Value, e = .returned (.tuple #[v0_, .int .i64 0]) ∧ Kd.R k51 51 w' wr.heap.size (fun _ => True) v0_ y1 ∧ Below wr.heap.size wr w') := Lib.hid (by
        have hP := HP.out
        rw [List.take_of_length_le (by rw [rotF_len]; exact Nat.le_refl _)] at hP
        obtain ⟨A5, c5, e5v, hrow⟩ := own_reads_row HO.out hP (rotF_len l2 tt)
        obtain ⟨rfl, _, rfl⟩ := Value.slice.inj e5v
        have hC : Kd.C k46 wr Am l2.length (rotF l2 tt) := hrow.imp_ (Below.refl _ _) (fun p c h => k46.K_below HJB.out h)
        have h := fold_Facts.calls k A0_0 c0_0 l0_0 a0_1 a1 Am cm (rotF l2 tt) y1 0 wr (Kd.C_below HG.out HBr.out) hc0_0 (by rw [rotF_len]; exact hC) (by rw [rotF_len]; exact own_cap HO.out) HF2.out
        rw [rotF_len] at h
        exact h)
      have hx0 := (blk_cell HXr.out 0).trans (show _ = some (Value.slice A0_0 l0_0.length c0_0) from rfl)
      have hx1 := (blk_cell HXr.out 1).trans (show _ = some (Value.int .i64 a0_1) from rfl)
      clear HO HP e5
      go_wp2_with (go_at_call 12; with_reducible refine HCR.out.mono ?_; rintro e w4 ⟨vy, rfl, hry, hb⟩; obtain ⟨Ay, cy, evy⟩ := Kd.R_slice hry; subst evy; have HRY := Lib.hid hry; have HB4 := Lib.hid (below_step HBr.out hb); have HX4 := Lib.hid (blk_below HXr.out hb); have HRX4 := Lib.hid (Kd.R_below (Kd.R_below HRX.out HJB.out) hb); have hk0 := (blk_cell HX4.out 0).trans (show _ = some (Value.slice A0_0 l0_0.length c0_0) from rfl); have hk1 := (blk_cell HX4.out 1).trans (show _ = some (Value.int .i64 a0_1) from rfl); clear hry hb hx0 hx1)
      have m1 : ((m : Int) ≤ (c2 : Int)) = True := eq_true (by omega)
      have m2 : (0 ≤ (m : Int)) = True := eq_true (by omega)
      have m3 : ((m : Int) ≤ (l2.length : Int)) = True := eq_true (by omega)
      refine start_ (n := 11) (S := fun w' => w'.cell? ⟨w.heap.size, 0, none⟩ = some (.slice A0_0 l0_0.length c0_0) ∧ w'.cell? ⟨w.heap.size, 1, none⟩ = some (.int .i64 a0_1)) (ds := []) #[false, false, false, false, false, false, false, false, false, false, false] (by kernel_rfl) rfl rfl ⟨hk0, hk1⟩ (fun hHeld => ?_)
      refine with_tabW mfacts.tab12 mfacts.bits12 (fun HT_ HW_ => ?_)
      refine pureD 1 74 HT_ ?_
      refine pureD 2 75 HT_ ?_
      refine pureD 3 76 HT_ ?_
      refine pureD 4 77 HT_ ?_
      refine takeD 0 73 HT_ HW_ hHeld ?_
      refine one_ (i := 5) (N := some 78) #[true, true, true, true, true, true, false, false, false, false, false] rfl rfl (one_of HT_.out (by kernel_rfl)) (by decide) (fun K hK => ?_)
      refine goes_ Try.func12 (by kernel_rfl) rfl #[.agg #[.slice A0_0 l0_0.length c0_0, .int .i64 a0_1], .int .i64 a1, .slice A2 m c2] (by rfl) rfl rfl (by simp only [List.map_toArray, List.map_cons, List.map_nil]; rfl) ?_
      with_reducible refine (HCT.out _ (below_drew1 HB4.out)).mono ?_
      rintro e w5 ⟨vp, rfl, hrp, hb⟩
      obtain ⟨Ap, cp, evp⟩ := Kd.R_slice hrp
      subst evp
      have HRP := Lib.hid hrp
      have HB5 := Lib.hid (below_step (below_drew1 HB4.out) hb)
      have HX5 := Lib.hid (blk_below (blk_drew HX4.out) hb)
      have HRX5 := Lib.hid (Kd.R_below (Kd.R_drew HRX4.out) hb)
      have HRY5 := Lib.hid (Kd.R_below (Kd.R_drew HRY.out) hb)
      have hj0 := (blk_cell HX5.out 0).trans (show _ = some (Value.slice A0_0 l0_0.length c0_0) from rfl)
      have hj1 := (blk_cell HX5.out 1).trans (show _ = some (Value.int .i64 a0_1) from rfl)
      clear hrp hb hk0 hk1
      refine ⟨_, rfl, ?_⟩
      refine hK.out _ _ ⟨hj0, hj1⟩ (fun hHeld => ?_)
      clear hK K
      refine norm_ (a' := ?_) ?_ ?_
      rotate_left
      ·show Act.put _ (some 78) _ = _
       simp only [Act.put, List.setIfInBounds_toArray, List.set_cons_zero, List.set_cons_succ, i64_w, i32_w]
       rfl
      refine pureD 6 72 HT_ ?_
      refine pureD 7 79 HT_ ?_
      refine pureD 8 80 HT_ ?_
      refine pureD 9 17 HT_ ?_
      refine pureD 10 18 HT_ ?_
      refine done_ (done_of HT_.out (by kernel_rfl)) ?_
      clear hHeld HT_ HW_
      go_wp2
      refine start_ (n := 11) (S := fun w' => w'.cell? ⟨w.heap.size, 0, none⟩ = some (.slice A0_0 l0_0.length c0_0) ∧ w'.cell? ⟨w.heap.size, 1, none⟩ = some (.int .i64 a0_1)) (ds := []) #[false, false, false, false, false, false, false, false, false, false, false] (by kernel_rfl) rfl rfl ⟨hj0, hj1⟩ (fun hHeld => ?_)
      refine with_tabW mfacts.tab13 mfacts.bits13 (fun HT_ HW_ => ?_)
      refine pureD 1 83 HT_ ?_
      refine pureD 2 84 HT_ ?_
      refine pureD 3 85 HT_ ?_
      refine pureD 4 86 HT_ ?_
      refine takeD 0 82 HT_ HW_ hHeld ?_
      refine one_ (i := 5) (N := some 87) #[true, true, true, true, true, true, false, false, false, false, false] rfl rfl (one_of HT_.out (by kernel_rfl)) (by decide) (fun K hK => ?_)
      refine goes_ Try.func12 (by kernel_rfl) rfl #[.agg #[.slice A0_0 l0_0.length c0_0, .int .i64 a0_1], .int .i64 a1, .slice (if c2 = m then A2 else A2.map (·.add (m * 3))) (l2.length - m) (c2 - m)] (by rfl) rfl rfl (by simp only [List.map_toArray, List.map_cons, List.map_nil]; rfl) ?_
      with_reducible refine (HCD.out _ (below_drew1 HB5.out)).mono ?_
      rintro e w6 ⟨vq, rfl, hrq, hb⟩
      obtain ⟨Aq, cq, evq⟩ := Kd.R_slice hrq
      subst evq
      have HRQ := Lib.hid hrq
      have HB6 := Lib.hid (below_step (below_drew1 HB5.out) hb)
      have HX6 := Lib.hid (blk_below (blk_drew HX5.out) hb)
      have HRX6 := Lib.hid (Kd.R_below (Kd.R_drew HRX5.out) hb)
      have HRY6 := Lib.hid (Kd.R_below (Kd.R_drew HRY5.out) hb)
      have HRP6 := Lib.hid (Kd.R_below (Kd.R_drew HRP.out) hb)
      have hi0 := (blk_cell HX6.out 0).trans (show _ = some (Value.slice A0_0 l0_0.length c0_0) from rfl)
      have hi1 := (blk_cell HX6.out 1).trans (show _ = some (Value.int .i64 a0_1) from rfl)
      clear hrq hb hj0 hj1
      refine ⟨_, rfl, ?_⟩
      refine hK.out _ _ ⟨hi0, hi1⟩ (fun hHeld => ?_)
      clear hK K
      refine norm_ (a' := ?_) ?_ ?_
      rotate_left
      ·show Act.put _ (some 87) _ = _
       simp only [Act.put, List.setIfInBounds_toArray, List.set_cons_zero, List.set_cons_succ, i64_w, i32_w]
       rfl
      refine pureD 6 81 HT_ ?_
      refine pureD 7 88 HT_ ?_
      refine pureD 8 89 HT_ ?_
      refine pureD 9 19 HT_ ?_
      refine pureD 10 20 HT_ ?_
      refine done_ (done_of HT_.out (by kernel_rfl)) ?_
      clear hHeld HT_ HW_
      go_wp2_with (first
        | (go_at_call 25; with_reducible refine (mAll_calls k _ Ap cp p1 Aq cq q1 _ _ _ (blk_new w6 _) (Kd.C_alloc (Kd.R_reads' HRP6.out).2.2 _) (Kd.R_reads' HRP6.out).2.1 (Kd.C_alloc (Kd.R_reads' HRQ.out).2.2 _) (Kd.R_reads' HRQ.out).2.1 HM1.out).mono ?_; rintro e w7 ⟨vg, rfl, hrg, hb⟩; obtain ⟨Ag, cg, evg⟩ := Kd.R_slice hrg; subst evg; have HRG := Lib.hid hrg; have HB7 := Lib.hid (below_step (HB6.out.alloc HB6.out.size _) hb); have HRX7 := Lib.hid (Kd.R_below (Kd.R_alloc HRX6.out _) hb); have HRY7 := Lib.hid (Kd.R_below (Kd.R_alloc HRY6.out _) hb); clear hrg hb)
        | (go_at_call 11; with_reducible refine (rickyardlaw15_alive.calls k _ _ HAV.out).mono ?_; rintro e w8 ⟨rfl, hb⟩; have HB8 := Lib.hid (below_step HB7.out hb); have HRX8 := Lib.hid (Kd.R_below HRX7.out hb); have HRY8 := Lib.hid (Kd.R_below HRY7.out hb); have HRG8 := Lib.hid (Kd.R_below HRG.out hb); clear hb)
        | (go_at_call 14; with_reducible refine (rickyardref08_Same.calls k Ax cx x1 Ay cy y1 _ _ (Kd.R_reads' HRX8.out).2.2 (Kd.R_reads' HRX8.out).2.1 (Kd.R_reads' HRY8.out).2.2 (Kd.R_reads' HRY8.out).2.1 HSA.out).mono ?_; rintro e w9 ⟨rfl, ⟨nd3, rfl⟩⟩; have HB9 := Lib.hid (pw_below_drewN HB8.out nd3); have HRX9 := Lib.hid (Kd.R_drewN HRX8.out nd3); have HRG9 := Lib.hid (Kd.R_drewN HRG8.out nd3))
        | (go_at_call 14; with_reducible refine (rickyardref08_Same.calls k Ax cx x1 Ag cg g1 _ _ (Kd.R_reads' HRX9.out).2.2 (Kd.R_reads' HRX9.out).2.1 (Kd.R_reads' HRG9.out).2.2 (Kd.R_reads' HRG9.out).2.1 HSB.out).mono ?_; rintro e w10 ⟨rfl, ⟨nd4, rfl⟩⟩; have HB10 := Lib.hid (pw_below_drewN HB8.out (nd3 + nd4))))
      all_goals
        go_ret
        exact ⟨by rfl, HB10.out⟩
end Go.Proofs.Ytjemmmemenljbaa.PFold
end
section
namespace Go.Proofs.Ytjemmmemenljbaa.PFold
open Go.RowKit Go.Proofs.YtjemmmemenljbaaW.PrintWords Go.Proofs.YtjemmmemenljbaaW.PrintLast Go.Proofs.YtjemmmemenljbaaW.PrintMore
attribute [local go_sem] max2_int min2_int max_two min_two max_three min_three max_four min_four   -- for this text's walks alone
set_option linter.unusedVariables false
set_option linter.unusedSimpArgs false
set_option maxHeartbeats 8000000
set_option maxRecDepth 100000
def rickyardlaw15_FoldFactsParts.Pure : Prop := ∀ (l0_0 : List (S67)) (a0_1 : Int) (a1 : Int) (l2 : List (S46)) (a3 : Int) (a4 : Int), (l0_0.length * 16 ≤ 140737488351232 ∧ ∀ z4 ∈ l0_0, wfS67 z4) → (Lit.int .i64 a0_1).wf = true → (Lit.int .i64 a1).wf = true → (l2.length * 40 ≤ 140737488351232 ∧ ∀ z2 ∈ l2, wfS46 z2) → (Lit.int .i64 a3).wf = true → (Lit.int .i64 a4).wf = true → ∃ k, rickyardlaw15_FoldFactsParts.f k l0_0 a0_1 a1 l2 a3 a4 = some true
end Go.Proofs.Ytjemmmemenljbaa.PFold
end
