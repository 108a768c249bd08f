import Derived.Test.YtdopbhbbpgfliaaZAskAll03
import Derived.Lib.Hide
import Derived.Outline
import Derived.Shelf.Abstract
section
namespace Go.Proofs.Ytdopbhbbpgfliaa.PAsk
open Go.RowKit Go.Proofs.YtdopbhbbpgfliaaW.PrintWords Go.Proofs.YtdopbhbbpgfliaaW.PrintLast Go.Proofs.YtdopbhbbpgfliaaW.PrintMore
attribute [local go_sem] max2_int min2_int max_two min_two max_three min_three max_four min_four   -- for this text's walks alone
set_option linter.unusedVariables false
set_option linter.unusedSimpArgs false
set_option maxHeartbeats 8000000
set_option maxRecDepth 100000
mutual
def rickyardref06_Order.l0 : Nat → List ByteArray → List ByteArray → Int → Option (Int)
 | 0, _, _, _ => none
 | k + 1, x0, x1, x5 => if x5 < (x0.length : Int) then (rickyardref06_Order.j1 k x0 x1 x5 (decide (x5 < (x1.length : Int)))) else (rickyardref06_Order.j1 k x0 x1 x5 false)
def rickyardref06_Order.j1 : Nat → List ByteArray → List ByteArray → Int → Bool → Option (Int)
 | 0, _, _, _, _ => none
 | k + 1, x0, x1, x5, x15 => if x15 = true then (if 0 ≤ x5 then (if x5 < (x0.length : Int) then (if x5 < (x1.length : Int) then (if (Op.bytesLess ((rdOf ByteArray.empty x0 x5).toList) ((rdOf ByteArray.empty x1 x5).toList)) = true then (some (-1)) else (if (Op.bytesLess ((rdOf ByteArray.empty x1 x5).toList) ((rdOf ByteArray.empty x0 x5).toList)) = true then (some 1) else (rickyardref06_Order.l0 k x0 x1 (wrap64 (x5 + 1))))) else (none)) else (none)) else (none)) else (if (x0.length : Int) < (x1.length : Int) then (some (-1)) else (if (x0.length : Int) > (x1.length : Int) then (some 1) else (some 0)))
end
def rickyardref06_Order.f (k : Nat) (l0 : List ByteArray) (l1 : List ByteArray) : Option (Int) := rickyardref06_Order.l0 k l0 l1 0
theorem rickyardref06_Order.calls (k : Nat) (A0 : Option Addr) (c0 : Nat) (l0 : List ByteArray) (A1 : Option Addr) (c1 : Nat) (l1 : List ByteArray) (r : Int) (w : World) (hr0 : Kd.C Kd.string w A0 l0.length l0) (hc0 : l0.length ≤ c0) (hr1 : Kd.C Kd.string w A1 l1.length l1) (hc1 : l1.length ≤ c1) (h : rickyardref06_Order.f k l0 l1 = some r) :
  Calls Try.prog 16 #[.slice A0 l0.length c0, .slice A1 l1.length c1] w fun e w' => e = .returned (.int .i64 r) ∧ Drawn0 w w' := by
 have HR0 := Aside0.mk hr0
 have HC0 := Aside0.mk hc0
 clear hr0 hc0
 have HR1 := Aside0.mk hr1
 have HC1 := Aside0.mk hc1
 clear hr1 hc1
 have H : (rickyardref06_Order.l0 k l0 l1 0) = some r := h
 clear h
 have H' := Aside0.mk H
 clear H
 go_enter Try.func16, Try.ntmps16
 go_wp2
 repeat (go_quiet (fail); try go_wp2)
 go_loopg [5] k (fun kq v5 w' => ∃ (x5_1 : Int), v5 = .int .i64 x5_1 ∧ Aside0 (rickyardref06_Order.l0 kq l0 l1 x5_1 = some r) ∧ Aside0 (kq ≤ k) ∧ Drawn0 w w')
 case atStart => exact ⟨(0), relA, H', ⟨Nat.le_refl _⟩, by repeat (first | exact Drawn0.refl _ | apply Drawn0.step)⟩
 case round =>
  clear H'
  try clear c1
  try clear p2
  obtain ⟨x5_1, rfl, HA, HK1, ⟨m1, rfl⟩⟩ := hrel
  cases gk with
  | zero => exact absurd HA.out (by simp [rickyardref06_Order.l0])
  | succ k1 =>
   have H := HA.out
   clear HA
   simp only [rickyardref06_Order.l0] at H
   have HC3 := Aside0.mk H
   clear H
   go_upto_region 2 with (fail)
   repeat (go_quiet (fail); go_upto_region 2 with (fail))
   go_cut [15] (fun v15 wc => ∃ (kq : Nat) (x15_2 : Bool), v15 = .bool x15_2 ∧ Aside0 (rickyardref06_Order.j1 kq l0 l1 x5_1 x15_2 = some r) ∧ Aside0 (kq ≤ k1) ∧ Drawn0 w wc)
   case first =>
    have H := HC3.out
    clear HC3
    by_cases c4 : x5_1 < (l0.length : Int)
    rotate_left
    ·rw [if_neg c4] at H
     have c4b0 := decide_eq_false c4
     clear c4
     (first | rw [c4b0] | (simp only [i64_w, i32_w]; rw [c4b0]) | skip)
     have H' := Aside0.mk H
     clear H
     go_wp2
     repeat (go_quiet (fail); try go_wp2)
     go_meet
     case rel => exact ⟨_, (false), relA, H', ⟨by have := HK1.out; first | omega | exact Nat.le_refl _⟩, by repeat (first | exact Drawn0.refl _ | apply Drawn0.step)⟩
    rw [if_pos c4] at H
    have c4b0 := decide_eq_true c4
    clear c4
    (first | rw [c4b0] | (simp only [i64_w, i32_w]; rw [c4b0]) | skip)
    have H' := Aside0.mk H
    clear H
    go_wp2
    repeat (go_quiet (fail); try go_wp2)
    go_meet
    case rel => exact ⟨_, (decide (x5_1 < (l1.length : Int))), relA, H', ⟨by have := HK1.out; first | omega | exact Nat.le_refl _⟩, by repeat (first | exact Drawn0.refl _ | apply Drawn0.step)⟩
   case rest =>
    clear HC3
    try clear c1
    try clear p2
    try clear c4
    try clear c4b0
    try clear p2
    obtain ⟨kq, x15_2, rfl, HA, HJ2, ⟨mc2, rfl⟩⟩ := hcut
    cases kq with
    | zero => exact absurd HA.out (by simp [rickyardref06_Order.j1])
    | succ kj2 =>
     have H := HA.out
     clear HA
     simp only [rickyardref06_Order.j1] at H
     by_cases c5 : x15_2 = true
     rotate_left
     ·replace c5 := Bool.eq_false_iff.mpr c5
      subst c5
      have H1 : (if (l0.length : Int) < (l1.length : Int) then (some (-1)) else (if (l0.length : Int) > (l1.length : Int) then (some 1) else (some 0))) = some r := by rw [if_neg (show ¬ (false = true) by decide)] at H; exact H
      clear H
      have H := H1
      clear H1
      by_cases c11 : (l0.length : Int) < (l1.length : Int)
      ·rw [if_pos c11] at H
       have c11b0 := decide_eq_true c11
       have c11b1 : decide (l0.length < l1.length) = true := decide_eq_true (Int.ofNat_lt.mp c11)
       clear c11
       obtain rfl := Option.some.inj H
       go_wp2
       repeat (go_quiet (fail); try go_wp2)
       go_ret
       exact ⟨by first | rfl | (simp; done) | (simp [*]; done), by repeat (first | exact Drawn0.refl _ | apply Drawn0.step)⟩
      rw [if_neg c11] at H
      have c11b0 := decide_eq_false c11
      have c11b1 : decide (l0.length < l1.length) = false := decide_eq_false (fun h => c11 (Int.ofNat_lt.mpr h))
      clear c11
      by_cases c12 : (l0.length : Int) > (l1.length : Int)
      rotate_left
      ·rw [if_neg c12] at H
       have c12b0 := decide_eq_false c12
       have c12b1 : decide (l1.length < l0.length) = false := decide_eq_false (fun h => c12 (Int.ofNat_lt.mpr h))
       clear c12
       obtain rfl := Option.some.inj H
       go_wp2
       repeat (go_quiet (fail); try go_wp2)
       go_ret
       exact ⟨by first | rfl | (simp; done) | (simp [*]; done), by repeat (first | exact Drawn0.refl _ | apply Drawn0.step)⟩
      rw [if_pos c12] at H
      have c12b0 := decide_eq_true c12
      have c12b1 : decide (l1.length < l0.length) = true := decide_eq_true (Int.ofNat_lt.mp c12)
      clear c12
      obtain rfl := Option.some.inj H
      go_wp2
      repeat (go_quiet (fail); try go_wp2)
      go_ret
      exact ⟨by first | rfl | (simp; done) | (simp [*]; done), by repeat (first | exact Drawn0.refl _ | apply Drawn0.step)⟩
     subst c5
     have H1 : (if 0 ≤ x5_1 then (if x5_1 < (l0.length : Int) then (if x5_1 < (l1.length : Int) then (if (Op.bytesLess ((rdOf ByteArray.empty l0 x5_1).toList) ((rdOf ByteArray.empty l1 x5_1).toList)) = true then (some (-1)) else (if (Op.bytesLess ((rdOf ByteArray.empty l1 x5_1).toList) ((rdOf ByteArray.empty l0 x5_1).toList)) = true then (some 1) else (rickyardref06_Order.l0 kj2 l0 l1 (wrap64 (x5_1 + 1))))) else (none)) else (none)) else (none)) = some r := by rw [if_pos rfl] at H; exact H
     clear H
     have H := H1
     clear H1
     replace H := ifN H
     obtain ⟨c6, H⟩ := H
     have c6b0 := decide_eq_true c6
     clear c6
     replace H := ifN H
     obtain ⟨c7, H⟩ := H
     have c7b0 := decide_eq_true c7
     clear c7
     replace H := ifN H
     obtain ⟨c8, H⟩ := H
     have c8b0 := decide_eq_true c8
     clear c8
     by_cases c9 : (Op.bytesLess ((rdOf ByteArray.empty l0 x5_1).toList) ((rdOf ByteArray.empty l1 x5_1).toList)) = true
     ·rw [if_pos c9] at H
      have c9b0 : (Op.bytesLess ((rdOf ByteArray.empty l0 x5_1).toList) ((rdOf ByteArray.empty l1 x5_1).toList)) = true := c9
      clear c9
      obtain rfl := Option.some.inj H
      have p535 : 0 ≤ (x5_1 : Int) := of_decide_eq_true asmA
      have q535 : x5_1 < (l0.length : Int) := of_decide_eq_true asmA
      obtain ⟨ad535, e535, hx535_0⟩ := Kd.at_string HR0.out x5_1 p535 q535
      cases e535
      replace p535 := eq_true p535
      replace q535 := eq_true q535
      have p536 : 0 ≤ (x5_1 : Int) := of_decide_eq_true asmA
      have q536 : x5_1 < (l1.length : Int) := of_decide_eq_true asmA
      obtain ⟨ad536, e536, hx536_0⟩ := Kd.at_string HR1.out x5_1 p536 q536
      cases e536
      replace p536 := eq_true p536
      replace q536 := eq_true q536
      go_wp2
      repeat (go_quiet (fail); try go_wp2)
      go_ret
      exact ⟨by first | rfl | (simp; done) | (simp [*]; done), by repeat (first | exact Drawn0.refl _ | apply Drawn0.step)⟩
     rw [if_neg c9] at H
     have c9b0 : (Op.bytesLess ((rdOf ByteArray.empty l0 x5_1).toList) ((rdOf ByteArray.empty l1 x5_1).toList)) = false := by simpa using c9
     clear c9
     by_cases c10 : (Op.bytesLess ((rdOf ByteArray.empty l1 x5_1).toList) ((rdOf ByteArray.empty l0 x5_1).toList)) = true
     ·rw [if_pos c10] at H
      have c10b0 : (Op.bytesLess ((rdOf ByteArray.empty l1 x5_1).toList) ((rdOf ByteArray.empty l0 x5_1).toList)) = true := c10
      have c10b0e : (((rdOf ByteArray.empty l0 x5_1).toList) == ((rdOf ByteArray.empty l1 x5_1).toList)) = false := bl_ne c10b0
      clear c10
      obtain rfl := Option.some.inj H
      have p535 : 0 ≤ (x5_1 : Int) := of_decide_eq_true asmA
      have q535 : x5_1 < (l0.length : Int) := of_decide_eq_true asmA
      obtain ⟨ad535, e535, hx535_0⟩ := Kd.at_string HR0.out x5_1 p535 q535
      cases e535
      replace p535 := eq_true p535
      replace q535 := eq_true q535
      have p536 : 0 ≤ (x5_1 : Int) := of_decide_eq_true asmA
      have q536 : x5_1 < (l1.length : Int) := of_decide_eq_true asmA
      obtain ⟨ad536, e536, hx536_0⟩ := Kd.at_string HR1.out x5_1 p536 q536
      cases e536
      replace p536 := eq_true p536
      replace q536 := eq_true q536
      have p537 : 0 ≤ (x5_1 : Int) := of_decide_eq_true asmA
      have q537 : x5_1 < (l0.length : Int) := of_decide_eq_true asmA
      obtain ⟨ad537, e537, hx537_0⟩ := Kd.at_string HR0.out x5_1 p537 q537
      obtain rfl : ad535 = ad537 := (by injection e537)
      replace p537 := eq_true p537
      replace q537 := eq_true q537
      have p538 : 0 ≤ (x5_1 : Int) := of_decide_eq_true asmA
      have q538 : x5_1 < (l1.length : Int) := of_decide_eq_true asmA
      obtain ⟨ad538, e538, hx538_0⟩ := Kd.at_string HR1.out x5_1 p538 q538
      obtain rfl : ad536 = ad538 := (by injection e538)
      replace p538 := eq_true p538
      replace q538 := eq_true q538
      go_wp2
      repeat (go_quiet (fail); try go_wp2)
      go_ret
      exact ⟨by first | rfl | (simp; done) | (simp [*]; done), by repeat (first | exact Drawn0.refl _ | apply Drawn0.step)⟩
     rw [if_neg c10] at H
     have c10b0 : (Op.bytesLess ((rdOf ByteArray.empty l1 x5_1).toList) ((rdOf ByteArray.empty l0 x5_1).toList)) = false := by simpa using c10
     have c10b0e : (((rdOf ByteArray.empty l0 x5_1).toList) == ((rdOf ByteArray.empty l1 x5_1).toList)) = true := bl_eq c9b0 c10b0
     clear c10
     have H' := Aside0.mk H
     clear H
     have p535 : 0 ≤ (x5_1 : Int) := of_decide_eq_true asmA
     have q535 : x5_1 < (l0.length : Int) := of_decide_eq_true asmA
     obtain ⟨ad535, e535, hx535_0⟩ := Kd.at_string HR0.out x5_1 p535 q535
     cases e535
     replace p535 := eq_true p535
     replace q535 := eq_true q535
     have p536 : 0 ≤ (x5_1 : Int) := of_decide_eq_true asmA
     have q536 : x5_1 < (l1.length : Int) := of_decide_eq_true asmA
     obtain ⟨ad536, e536, hx536_0⟩ := Kd.at_string HR1.out x5_1 p536 q536
     cases e536
     replace p536 := eq_true p536
     replace q536 := eq_true q536
     have p537 : 0 ≤ (x5_1 : Int) := of_decide_eq_true asmA
     have q537 : x5_1 < (l0.length : Int) := of_decide_eq_true asmA
     obtain ⟨ad537, e537, hx537_0⟩ := Kd.at_string HR0.out x5_1 p537 q537
     obtain rfl : ad535 = ad537 := (by injection e537)
     replace p537 := eq_true p537
     replace q537 := eq_true q537
     have p538 : 0 ≤ (x5_1 : Int) := of_decide_eq_true asmA
     have q538 : x5_1 < (l1.length : Int) := of_decide_eq_true asmA
     obtain ⟨ad538, e538, hx538_0⟩ := Kd.at_string HR1.out x5_1 p538 q538
     obtain rfl : ad536 = ad538 := (by injection e538)
     replace p538 := eq_true p538
     replace q538 := eq_true q538
     go_wp2
     repeat (go_quiet (fail); try go_wp2)
     go_roundg kj2
     case measure => have := HK1.out; have := HJ2.out; omega
     case rel => exact ⟨(wrap64 (x5_1 + 1)), relA, H', ⟨by have := HK1.out; have := HJ2.out; omega⟩, by repeat (first | exact Drawn0.refl _ | apply Drawn0.step)⟩
end Go.Proofs.Ytdopbhbbpgfliaa.PAsk
end
section
namespace Go.Proofs.Ytdopbhbbpgfliaa.PAsk
open Go.RowKit Go.Proofs.YtdopbhbbpgfliaaW.PrintWords Go.Proofs.YtdopbhbbpgfliaaW.PrintLast Go.Proofs.YtdopbhbbpgfliaaW.PrintMore
set_option linter.unusedVariables false
set_option linter.unusedSimpArgs false
set_option maxHeartbeats 8000000
set_option maxRecDepth 100000
theorem dim_long (s : ByteArray) (w : World) : Calls Try.prog 64 #[.string s] w fun e w' => e = .returned (.bool (decide (16 < (s.size : Int)))) ∧ w = w' := by
  go_enter Try.func64, Try.ntmps64
  go_wp2
  go_ret
  exact ⟨rfl, rfl⟩
def lng (s : ByteArray) : Bool := decide (16 < (s.size : Int))
def idxS (l : List ByteArray) : Int := match l.findIdx? lng with | some i => (i : Int) | none => -1
theorem idxS_hit {l : List ByteArray} {j : Nat} (h : j < l.length) (h1 : lng l[j] = true) (h2 : ∀ i, ∀ hi : i < j, lng (l[i]'(by omega)) = false) : idxS l = j := by
  unfold idxS
  have : l.findIdx? lng = some j := by
    rw [List.findIdx?_eq_some_iff_getElem]
    exact ⟨h, h1, fun i hi => by simpa using h2 i hi⟩
  rw [this]
theorem idxS_miss {l : List ByteArray} (h2 : ∀ i, ∀ hi : i < l.length, lng l[i] = false) : idxS l = -1 := by
  unfold idxS
  have : l.findIdx? lng = none := by
    rw [List.findIdx?_eq_none_iff]
    intro x hx
    obtain ⟨i, hi, rfl⟩ := List.mem_iff_getElem.1 hx
    exact h2 i hi
  rw [this]
theorem idxS_any (l : List ByteArray) : decide (idxS l ≥ 0) = l.any lng := by
  unfold idxS
  cases h : l.findIdx? lng with
  | none =>
    rw [List.findIdx?_eq_none_iff] at h
    have : l.any lng = false := by rw [List.any_eq_false]; intro x hx; simp [h x hx]
    rw [this]; rfl
  | some i =>
    rw [List.findIdx?_eq_some_iff_getElem] at h
    obtain ⟨hi, hp, _⟩ := h
    rw [List.any_eq_true.2 ⟨_, List.getElem_mem hi, hp⟩]
    exact decide_eq_true (show ((i : Nat) : Int) ≥ 0 by omega)
def IdxSRel (w : World) (l : List ByteArray) (j : Nat) (wr : World) : Prop := j ≤ l.length ∧ wr = w ∧ ∀ i, i < j → ∀ hi : i < l.length, lng l[i] = false
theorem index_dims (A0 : Option Addr) (c0 : Nat) (l0 : List ByteArray) (w : World) (hr0 : Kd.C Kd.string w A0 l0.length l0) (hl : l0.length ≤ 1000) :
    Calls Try.prog 88 #[.slice A0 l0.length c0, .func (.func 64) #[] #[]] w fun e w' => e = .returned (.int .i64 (idxS l0)) ∧ w = w' := by
  have HC := Lib.hid hr0; clear hr0
  go_enter Try.func88, Try.ntmps88
  go_wp2
  go_loopw [5, 8] (fun _ v wr => ∃ j : Nat, v = .int .i64 j ∧ IdxSRel w l0 j wr) (fun _ v _ => l0.length - (intOf v).toNat)
  case atStart => exact ⟨0, rfl, Nat.zero_le _, rfl, fun i hi => by omega⟩
  case round =>
    obtain ⟨j, rfl, hj, rfl, hno⟩ := hrel
    have HN := Lib.hid hno; clear hno
    by_cases hlt : j < l0.length
    · have e1 : decide ((j : Int) < (l0.length : Int)) = true := decide_eq_true (by omega)
      obtain ⟨ad, ha, hx0⟩ := Kd.at_string HC.out (j : Int) (by omega) (by omega)
      subst ha
      obtain ⟨x, hx⟩ : ∃ x, x = rdOf ByteArray.empty l0 (j : Int) := ⟨_, rfl⟩
      have hxl : Hid (x = l0[j]) := Lib.hid (by
        rw [hx]; unfold rdOf
        rw [show ((j : Int)).toNat = j from by omega, List.getD_eq_getElem?_getD, List.getElem?_eq_getElem hlt]
        rfl)
      rw [← hx] at hx0
      simp only [Int.toNat_natCast] at hx0
      clear hx
      cases hq : lng x with
      | true =>
        have HQ := Lib.hid hq
        unfold lng at hq
        go_wp2_with (go_at_call 64; refine (dim_long x _).mono ?_; rintro e w' ⟨rfl, rfl⟩)
        go_ret
        refine ⟨?_, rfl⟩
        rw [idxS_hit hlt (by rw [← hxl.out]; exact HQ.out) (fun i hi => HN.out i hi (by omega))]
        rfl
      | false =>
        have HQ := Lib.hid hq
        unfold lng at hq
        go_wp2_with (go_at_call 64; refine (dim_long x _).mono ?_; rintro e w' ⟨rfl, rfl⟩)
        go_roundw
        case rel =>
          refine ⟨j + 1, by go_num, hlt, rfl, fun i hi hi' => ?_⟩
          by_cases e : i = j
          · subst e
            rw [← hxl.out]; exact HQ.out
          · exact HN.out i (by omega) hi'
        case measure => simp [intOf]; omega
    · have e1 : decide ((j : Int) < (l0.length : Int)) = false := decide_eq_false (by omega)
      go_wp2
      go_ret
      refine ⟨?_, rfl⟩
      rw [idxS_miss (fun i hi => HN.out i (by omega) hi)]
      rfl
theorem contains_dims (A0 : Option Addr) (c0 : Nat) (l0 : List ByteArray) (w : World) (hr0 : Kd.C Kd.string w A0 l0.length l0) (hl : l0.length ≤ 1000) :
    Calls Try.prog 63 #[.slice A0 l0.length c0, .func (.func 64) #[] #[]] w fun e w' => e = .returned (.bool (l0.any lng)) ∧ w = w' := by
  have HC := Lib.hid hr0; clear hr0
  have hA := Lib.hid (idxS_any l0)
  go_enter Try.func63, Try.ntmps63
  go_wp2_with (go_at_call 88; refine (index_dims A0 c0 l0 w HC.out hl).mono ?_; rintro e w' ⟨rfl, rfl⟩)
  go_ret
  refine ⟨?_, rfl⟩
  rw [← hA.out]
  rfl
def dimsB (l : List ByteArray) : Bool := decide (l.length ≤ 4) && !l.any lng
def key_fits.f (l : List ByteArray) : Option Bool := some (dimsB l)
theorem key_fits.calls (A0 : Option Addr) (c0 : Nat) (l0 : List ByteArray) (r : Bool) (w : World) (hr0 : Kd.C Kd.string w A0 l0.length l0) (_ : l0.length ≤ c0) (h : key_fits.f l0 = some r) :
    Calls Try.prog 41 #[.slice A0 l0.length c0] w fun e w' => e = .returned (.bool r) ∧ Drawn0 w w' := by
  have HC := Lib.hid hr0; clear hr0
  have H : Hid (dimsB l0 = r) := Lib.hid (Option.some.inj h)
  clear h
  by_cases hl : l0.length ≤ 4
  · have e1 : decide ((l0.length : Int) ≤ 4) = true := decide_eq_true (by omega)
    have e2 : decide (l0.length ≤ 4) = true := decide_eq_true hl
    cases hq : l0.any lng with
    | true =>
      have HQ := Lib.hid hq; clear hq
      go_enter Try.func41, Try.ntmps41
      go_wp2_with (go_at_call 63; refine (contains_dims A0 c0 l0 w HC.out (by omega)).mono ?_; rintro e w' ⟨rfl, rfl⟩; rw [HQ.out])
      go_ret
      refine ⟨?_, Drawn0.refl _⟩
      rw [← H.out]; unfold dimsB; rw [HQ.out]; simp
    | false =>
      have HQ := Lib.hid hq; clear hq
      go_enter Try.func41, Try.ntmps41
      go_wp2_with (go_at_call 63; refine (contains_dims A0 c0 l0 w HC.out (by omega)).mono ?_; rintro e w' ⟨rfl, rfl⟩; rw [HQ.out])
      go_ret
      refine ⟨?_, Drawn0.refl _⟩
      rw [← H.out]; unfold dimsB; rw [HQ.out, e2]; rfl
  · have e1 : decide ((l0.length : Int) ≤ 4) = false := decide_eq_false (by omega)
    have e2 : decide (l0.length ≤ 4) = false := decide_eq_false hl
    have H2 : Hid (r = false) := Lib.hid (by rw [← H.out]; unfold dimsB; rw [e2]; rfl)
    go_enter Try.func41, Try.ntmps41
    go_wp2
    go_ret
    exact ⟨by rw [H2.out]; rfl, Drawn0.refl _⟩
def szR (g : List S84) (i : Nat) : Int := (rd_T84 g (i : Int)).f0
def agR0 (g : List S84) (i : Nat) : Int := (rd_T84 g (i : Int)).f1
def stepR (g : List S84) (i : Nat) : Bool := decide (1 ≤ szR g i) && (decide (szR g i ≤ 1099511627776) && (decide (agR0 g i ≤ 1099511627776) && (decide (i = 0) || (decide (szR g (i - 1) < szR g i) && (decide (Int.tmod (szR g i) (szR g (i - 1)) = 0) && decide (agR0 g (i - 1) ≤ agR0 g i))))))
def rightR (g : List S84) (keep : Int) : Bool := decide (1 ≤ g.length) && (decide (g.length ≤ 4) && (decide (agR0 g 0 = 0) && ((List.range g.length).all (stepR g) && (decide (agR0 g (g.length - 1) ≤ keep) && decide (keep ≤ 2199023255552)))))
def grain_Right.f (_ : Nat) (g : List S84) (keep : Int) : Option Bool := some (rightR g keep)
def RightRel (w : World) (g : List S84) (A0 : Option Addr) (c0 : Nat) (keep : Int) (j : Nat) (wr : World) : Prop :=
  Below w.heap.size w wr ∧ wr.heap[w.heap.size]? = some (.cells #[.slice A0 g.length c0, .int .i64 keep] 24 (0, 0)) ∧ ∀ q, q < j → stepR g q = true
theorem grain_Right.calls (k : Nat) (A0_0 : Option Addr) (c0_0 : Nat) (l0_0 : List S84) (a0_1 : Int) (r : Bool) (w : World) (hr0_0 : Kd.C k84 w A0_0 l0_0.length l0_0) (hc0_0 : l0_0.length ≤ c0_0) (h : grain_Right.f k l0_0 a0_1 = some r) :
    Calls Try.prog 47 #[.agg #[.slice A0_0 l0_0.length c0_0, .int .i64 a0_1]] w fun e w' => e = .returned (.bool r) ∧ Below w.heap.size w w' := by
  unfold grain_Right.f at h
  obtain rfl := Option.some.inj h
  have HG := Lib.hid hr0_0; clear hr0_0 h
  by_cases h1 : l0_0.length < 1
  · have e1 : decide ((l0_0.length : Int) < 1) = true := decide_eq_true (by omega)
    have e2 : decide (l0_0.length < 1) = true := decide_eq_true h1
    have hR : rightR l0_0 a0_1 = false := by unfold rightR; rw [decide_eq_false (by omega)]; rfl
    rw [hR]
    go_enter Try.func47, Try.ntmps47
    (go_wp2; repeat (go_step3; try (go_wp2)))
    rw [Exit.noGoto_ret]
    go_ret
    exact ⟨rfl, below_alloc (Below.refl _ _) _⟩
  by_cases h4 : 4 < l0_0.length
  · have e1 : decide ((l0_0.length : Int) < 1) = false := decide_eq_false (by omega)
    have e2 : decide (l0_0.length < 1) = false := decide_eq_false h1
    have e3 : decide (4 < (l0_0.length : Int)) = true := decide_eq_true (by omega)
    have e4 : decide (4 < l0_0.length) = true := decide_eq_true h4
    have hR : rightR l0_0 a0_1 = false := by unfold rightR; rw [decide_eq_true (show 1 ≤ l0_0.length by omega), decide_eq_false (show ¬ l0_0.length ≤ 4 by omega)]; rfl
    rw [hR]
    go_enter Try.func47, Try.ntmps47
    (go_wp2; repeat (go_step3; try (go_wp2)))
    rw [Exit.noGoto_ret]
    go_ret
    exact ⟨rfl, below_alloc (Below.refl _ _) _⟩
  have e1 : decide ((l0_0.length : Int) < 1) = false := decide_eq_false (by omega)
  have e2 : decide (l0_0.length < 1) = false := decide_eq_false h1
  have e3 : decide (4 < (l0_0.length : Int)) = false := decide_eq_false (by omega)
  have e4 : decide (4 < l0_0.length) = false := decide_eq_false h4
  obtain ⟨ad, ha, hx0, hx1⟩ := at_T84 HG.out 0 (by omega) (by omega)
  subst ha
  have hpos : (0 < l0_0.length) = True := eq_true (by omega)
  have hpos2 : ((0 : Int) < (l0_0.length : Int)) = True := eq_true (by omega)
  simp only [Int.toNat_zero, Nat.zero_mul, Addr.add_zero'] at hx0 hx1
  replace hx0 := (Below.cell (below_alloc (Below.refl w.heap.size w) (.cells #[.slice (some ad) l0_0.length c0_0, .int .i64 a0_1] 24)) (World.block_lt_of_cell? w _ hx0)).trans hx0
  replace hx1 := (Below.cell (below_alloc (Below.refl w.heap.size w) (.cells #[.slice (some ad) l0_0.length c0_0, .int .i64 a0_1] 24)) (World.block_lt_of_cell? w _ hx1)).trans hx1
  have hz0 : (rd_T84 l0_0 0).f1 = agR0 l0_0 0 := rfl
  rw [hz0] at hx1
  by_cases h0 : agR0 l0_0 0 = 0
  case neg =>
    have e5 : (agR0 l0_0 0 != 0) = true := bne_iff_ne.mpr h0
    have e6 : (agR0 l0_0 0 == 0) = false := beq_eq_false_iff_ne.mpr h0
    have hR : rightR l0_0 a0_1 = false := by unfold rightR; rw [decide_eq_true (show 1 ≤ l0_0.length by omega), decide_eq_true (show l0_0.length ≤ 4 by omega), decide_eq_false h0]; rfl
    rw [hR]
    go_enter Try.func47, Try.ntmps47
    (go_wp2; repeat (go_step3; try (go_wp2)))
    rw [Exit.noGoto_ret]
    go_ret
    exact ⟨rfl, below_alloc (Below.refl _ _) _⟩
  case pos =>
    have e5 : (agR0 l0_0 0 != 0) = false := bne_eq_false_iff_eq.mpr h0
    have e6 : (agR0 l0_0 0 == 0) = true := beq_iff_eq.mpr h0
    have HX : Hid (w.cell? ad = w.cell? ad) := Lib.hid rfl
    go_enter Try.func47, Try.ntmps47
    (go_wp2; repeat (go_step3; try (go_wp2)))
    go_loopw [4, 26] (fun v4 v wr => ∃ j : Nat, v = .int .i64 j ∧ v4 = .bool true ∧ j ≤ l0_0.length ∧ RightRel w l0_0 (some ad) c0_0 a0_1 j wr) (fun _ v _ => l0_0.length - (intOf v).toNat)
    case atStart => exact ⟨0, rfl, rfl, Nat.zero_le _, below_alloc (Below.refl _ _) _, blk_new _ _, fun q hq => absurd hq (Nat.not_lt_zero _)⟩
    case round =>
      obtain ⟨j, rfl, rfl, hj, hB, hX, hs⟩ := hrel
      have HB := Lib.hid hB; have HXX := Lib.hid hX; have HS := Lib.hid hs; clear hB hX hs
      have hk0 := (blk_cell HXX.out 0).trans (show _ = some (Value.slice (some ad) l0_0.length c0_0) from rfl)
      have hk1 := (blk_cell HXX.out 1).trans (show _ = some (Value.int .i64 a0_1) from rfl)
      clear hx0 hx1 hz0 e5 e6
      by_cases hlt : j < l0_0.length
      · have q1 : decide ((j : Int) < (l0_0.length : Int)) = true := decide_eq_true (by omega)
        have q2 : (0 ≤ (j : Int)) = True := eq_true (by omega)
        have q3 : ((j : Int) < (l0_0.length : Int)) = True := eq_true (by omega)
        obtain ⟨ad2, ha2, hy0, hy1⟩ := at_T84 HG.out (j : Int) (by omega) (by omega)
        obtain rfl : ad = ad2 := by injection ha2
        simp only [Int.toNat_natCast] at hy0 hy1
        replace hy0 := (HB.out.cell (World.block_lt_of_cell? w _ hy0)).trans hy0
        replace hy1 := (HB.out.cell (World.block_lt_of_cell? w _ hy1)).trans hy1
        have HST := Lib.hid (show stepR l0_0 j = stepR l0_0 j from rfl)
        have hF : stepR l0_0 j = false → rightR l0_0 a0_1 = false := fun hh => by
          have ha : (List.range l0_0.length).all (stepR l0_0) = false := List.all_eq_false.2 ⟨j, List.mem_range.2 hlt, by rw [hh]; decide⟩
          unfold rightR
          rw [ha, Bool.false_and, Bool.and_false, Bool.and_false, Bool.and_false]
        have hsj : stepR l0_0 j = (decide (1 ≤ szR l0_0 j) && (decide (szR l0_0 j ≤ 1099511627776) && (decide (agR0 l0_0 j ≤ 1099511627776) && (decide (j = 0) || (decide (szR l0_0 (j - 1) < szR l0_0 j) && (decide (Int.tmod (szR l0_0 j) (szR l0_0 (j - 1)) = 0) && decide (agR0 l0_0 (j - 1) ≤ agR0 l0_0 j))))))) := rfl
        rw [show (rd_T84 l0_0 (j : Int)).f0 = szR l0_0 j from rfl] at hy0
        rw [show (rd_T84 l0_0 (j : Int)).f1 = agR0 l0_0 j from rfl] at hy1
        have HSZ := Lib.hid (below_size HB.out)
        by_cases c1 : 1 ≤ szR l0_0 j
        case neg =>
          have f1 : decide (1 ≤ szR l0_0 j) = false := decide_eq_false c1
          have HF := Lib.hid (hF (by rw [hsj, f1]; rfl))
          clear hsj hF c1
          generalize szR l0_0 j = s at *
          generalize agR0 l0_0 j = a at *
          (go_wp2; repeat (go_step3; try (go_wp2)))
          repeat (go_quiet (fail); try (go_wp2; repeat (go_step3; try (go_wp2))))
          rw [Exit.noGoto_ret]
          go_ret
          exact ⟨by rw [HF.out]; rfl, by repeat (first | (with_reducible first | exact HB.out | apply below_alloc | apply pw_below_drewN | apply below_drew1 | refine below_set ?_ HSZ.out) | exact HB.out)⟩
        have f1 : decide (1 ≤ szR l0_0 j) = true := decide_eq_true c1
        by_cases c2 : szR l0_0 j ≤ 1099511627776
        case neg =>
          have f2 : decide (szR l0_0 j ≤ 1099511627776) = false := decide_eq_false c2
          have HF := Lib.hid (hF (by rw [hsj, f1, f2]; rfl))
          clear hsj hF c1 c2
          generalize szR l0_0 j = s at *
          generalize agR0 l0_0 j = a at *
          (go_wp2; repeat (go_step3; try (go_wp2)))
          repeat (go_quiet (fail); try (go_wp2; repeat (go_step3; try (go_wp2))))
          rw [Exit.noGoto_ret]
          go_ret
          exact ⟨by rw [HF.out]; rfl, by repeat (first | (with_reducible first | exact HB.out | apply below_alloc | apply pw_below_drewN | apply below_drew1 | refine below_set ?_ HSZ.out) | exact HB.out)⟩
        have f2 : decide (szR l0_0 j ≤ 1099511627776) = true := decide_eq_true c2
        by_cases c3 : agR0 l0_0 j ≤ 1099511627776
        case neg =>
          have f3 : decide (agR0 l0_0 j ≤ 1099511627776) = false := decide_eq_false c3
          have HF := Lib.hid (hF (by rw [hsj, f1, f2, f3]; rfl))
          clear hsj hF c1 c2 c3
          generalize szR l0_0 j = s at *
          generalize agR0 l0_0 j = a at *
          (go_wp2; repeat (go_step3; try (go_wp2)))
          repeat (go_quiet (fail); try (go_wp2; repeat (go_step3; try (go_wp2))))
          rw [Exit.noGoto_ret]
          go_ret
          exact ⟨by rw [HF.out]; rfl, by repeat (first | (with_reducible first | exact HB.out | apply below_alloc | apply pw_below_drewN | apply below_drew1 | refine below_set ?_ HSZ.out) | exact HB.out)⟩
        have f3 : decide (agR0 l0_0 j ≤ 1099511627776) = true := decide_eq_true c3
        by_cases hj0 : j = 0
        case pos =>
          have HN := Lib.hid (show stepR l0_0 j = true by rw [hsj, f1, f2, f3, decide_eq_true hj0]; rfl)
          have q4 : decide ((0 : Int) < (j : Int)) = false := decide_eq_false (by omega)
          have q5 : decide (0 < j) = false := decide_eq_false (by omega)
          clear hsj hF c1 c2 c3 hj0
          generalize szR l0_0 j = s at *
          generalize agR0 l0_0 j = a at *
          (go_wp2; repeat (go_step3; try (go_wp2)))
          exact ⟨⟨j + 1, by go_num, rfl, hlt, by repeat (first | (with_reducible first | exact HB.out | apply below_alloc | apply pw_below_drewN | apply below_drew1 | refine below_set ?_ HSZ.out) | exact HB.out), blk_alloc HXX.out _, fun q hq => by
            rcases Nat.lt_or_ge q j with h | h
            · exact HS.out q h
            · obtain rfl : q = j := by omega
              exact HN.out⟩, by simp [intOf]; omega⟩
        have q4 : decide ((0 : Int) < (j : Int)) = true := decide_eq_true (by omega)
        have q5 : decide (0 < j) = true := decide_eq_true (by omega)
        have q6 : IntKind.i64.wrap ((j : Int) - 1) = ((j - 1 : Nat) : Int) := by rw [IntKind.wrap_i64]; omega
        have q7 : (0 ≤ ((j - 1 : Nat) : Int)) = True := eq_true (by omega)
        have q8 : (((j - 1 : Nat) : Int) < (l0_0.length : Int)) = True := eq_true (by omega)
        obtain ⟨ad3, ha3, hv0, hv1⟩ := at_T84 HG.out ((j - 1 : Nat) : Int) (by omega) (by omega)
        obtain rfl : ad = ad3 := by injection ha3
        simp only [Int.toNat_natCast] at hv0 hv1
        replace hv0 := (HB.out.cell (World.block_lt_of_cell? w _ hv0)).trans hv0
        replace hv1 := (HB.out.cell (World.block_lt_of_cell? w _ hv1)).trans hv1
        rw [show (rd_T84 l0_0 ((j - 1 : Nat) : Int)).f0 = szR l0_0 (j - 1) from rfl] at hv0
        rw [show (rd_T84 l0_0 ((j - 1 : Nat) : Int)).f1 = agR0 l0_0 (j - 1) from rfl] at hv1
        have hs1 : ¬ szR l0_0 (j - 1) = 0 := by
          have := HS.out (j - 1) (by omega)
          unfold stepR at this
          rw [Bool.and_eq_true, decide_eq_true_iff] at this
          have := this.1
          omega
        have f5 : (szR l0_0 (j - 1) == 0) = false := beq_eq_false_iff_ne.mpr hs1
        by_cases c4 : szR l0_0 (j - 1) < szR l0_0 j
        case neg =>
          have f6 : decide (szR l0_0 (j - 1) < szR l0_0 j) = false := decide_eq_false c4
          have HF := Lib.hid (hF (by rw [hsj, f1, f2, f3, decide_eq_false hj0, f6]; rfl))
          clear hsj hF c1 c2 c3 c4
          generalize szR l0_0 j = s at *
          generalize agR0 l0_0 j = a at *
          generalize szR l0_0 (j - 1) = s' at *
          generalize agR0 l0_0 (j - 1) = a' at *
          have hA := fun (x : Addr) (u : Value) (h : wr.cell? x = some u) => ((below_alloc (Below.refl wr.heap.size wr) (.cells #[.int .i64 s, .int .i64 a] 84)).cell (World.block_lt_of_cell? wr _ h)).trans h
          have hk0' := hA _ _ hk0; have hk1' := hA _ _ hk1; have hv0' := hA _ _ hv0; have hv1' := hA _ _ hv1
          have hg0 := (blk_cell (blk_new wr (.cells #[.int .i64 s, .int .i64 a] 84)) 0).trans (show _ = some (Value.int .i64 s) from rfl); have hg1 := (blk_cell (blk_new wr (.cells #[.int .i64 s, .int .i64 a] 84)) 1).trans (show _ = some (Value.int .i64 a) from rfl)
          have hn0 := (blk_cell (blk_alloc (blk_new wr (.cells #[.int .i64 s, .int .i64 a] 84)) (.cells #[.int .i64 s', .int .i64 a'] 84)) 0).trans (show _ = some (Value.int .i64 s) from rfl); have hn1 := (blk_cell (blk_alloc (blk_new wr (.cells #[.int .i64 s, .int .i64 a] 84)) (.cells #[.int .i64 s', .int .i64 a'] 84)) 1).trans (show _ = some (Value.int .i64 a) from rfl)
          have hm0 := (blk_cell (blk_new (wr.alloc (.cells #[.int .i64 s, .int .i64 a] 84)) (.cells #[.int .i64 s', .int .i64 a'] 84)) 0).trans (show _ = some (Value.int .i64 s') from rfl); have hm1 := (blk_cell (blk_new (wr.alloc (.cells #[.int .i64 s, .int .i64 a] 84)) (.cells #[.int .i64 s', .int .i64 a'] 84)) 1).trans (show _ = some (Value.int .i64 a') from rfl)
          clear hA
          (go_wp2; repeat (go_step3; try (go_wp2)))
          repeat (go_quiet (fail); try (go_wp2; repeat (go_step3; try (go_wp2))))
          rw [Exit.noGoto_ret]
          go_ret
          exact ⟨by rw [HF.out]; rfl, by repeat (first | (with_reducible first | exact HB.out | apply below_alloc | apply pw_below_drewN | apply below_drew1 | refine below_set ?_ HSZ.out) | exact HB.out)⟩
        have f6 : decide (szR l0_0 (j - 1) < szR l0_0 j) = true := decide_eq_true c4
        by_cases c5 : Int.tmod (szR l0_0 j) (szR l0_0 (j - 1)) = 0
        case neg =>
          have f7 : (Int.tmod (szR l0_0 j) (szR l0_0 (j - 1)) == 0) = false := beq_eq_false_iff_ne.mpr c5
          have HF := Lib.hid (hF (by rw [hsj, f1, f2, f3, decide_eq_false hj0, f6, decide_eq_false c5]; rfl))
          clear hsj hF c1 c2 c3 c4 c5
          generalize szR l0_0 j = s at *
          generalize agR0 l0_0 j = a at *
          generalize szR l0_0 (j - 1) = s' at *
          generalize agR0 l0_0 (j - 1) = a' at *
          have hA := fun (x : Addr) (u : Value) (h : wr.cell? x = some u) => ((below_alloc (Below.refl wr.heap.size wr) (.cells #[.int .i64 s, .int .i64 a] 84)).cell (World.block_lt_of_cell? wr _ h)).trans h
          have hk0' := hA _ _ hk0; have hk1' := hA _ _ hk1; have hv0' := hA _ _ hv0; have hv1' := hA _ _ hv1
          have hg0 := (blk_cell (blk_new wr (.cells #[.int .i64 s, .int .i64 a] 84)) 0).trans (show _ = some (Value.int .i64 s) from rfl); have hg1 := (blk_cell (blk_new wr (.cells #[.int .i64 s, .int .i64 a] 84)) 1).trans (show _ = some (Value.int .i64 a) from rfl)
          have hn0 := (blk_cell (blk_alloc (blk_new wr (.cells #[.int .i64 s, .int .i64 a] 84)) (.cells #[.int .i64 s', .int .i64 a'] 84)) 0).trans (show _ = some (Value.int .i64 s) from rfl); have hn1 := (blk_cell (blk_alloc (blk_new wr (.cells #[.int .i64 s, .int .i64 a] 84)) (.cells #[.int .i64 s', .int .i64 a'] 84)) 1).trans (show _ = some (Value.int .i64 a) from rfl)
          have hm0 := (blk_cell (blk_new (wr.alloc (.cells #[.int .i64 s, .int .i64 a] 84)) (.cells #[.int .i64 s', .int .i64 a'] 84)) 0).trans (show _ = some (Value.int .i64 s') from rfl); have hm1 := (blk_cell (blk_new (wr.alloc (.cells #[.int .i64 s, .int .i64 a] 84)) (.cells #[.int .i64 s', .int .i64 a'] 84)) 1).trans (show _ = some (Value.int .i64 a') from rfl)
          clear hA
          (go_wp2; repeat (go_step3; try (go_wp2)))
          repeat (go_quiet (fail); try (go_wp2; repeat (go_step3; try (go_wp2))))
          rw [Exit.noGoto_ret]
          go_ret
          exact ⟨by rw [HF.out]; rfl, by repeat (first | (with_reducible first | exact HB.out | apply below_alloc | apply pw_below_drewN | apply below_drew1 | refine below_set ?_ HSZ.out) | exact HB.out)⟩
        have f7 : (Int.tmod (szR l0_0 j) (szR l0_0 (j - 1)) == 0) = true := beq_iff_eq.mpr c5
        by_cases c6 : agR0 l0_0 (j - 1) ≤ agR0 l0_0 j
        case neg =>
          have f8 : decide (agR0 l0_0 (j - 1) ≤ agR0 l0_0 j) = false := decide_eq_false c6
          have HF := Lib.hid (hF (by rw [hsj, f1, f2, f3, decide_eq_false hj0, f6, decide_eq_true c5, f8]; rfl))
          clear hsj hF c1 c2 c3 c4 c5 c6
          generalize szR l0_0 j = s at *
          generalize agR0 l0_0 j = a at *
          generalize szR l0_0 (j - 1) = s' at *
          generalize agR0 l0_0 (j - 1) = a' at *
          have hA := fun (x : Addr) (u : Value) (h : wr.cell? x = some u) => ((below_alloc (Below.refl wr.heap.size wr) (.cells #[.int .i64 s, .int .i64 a] 84)).cell (World.block_lt_of_cell? wr _ h)).trans h
          have hk0' := hA _ _ hk0; have hk1' := hA _ _ hk1; have hv0' := hA _ _ hv0; have hv1' := hA _ _ hv1
          have hg0 := (blk_cell (blk_new wr (.cells #[.int .i64 s, .int .i64 a] 84)) 0).trans (show _ = some (Value.int .i64 s) from rfl); have hg1 := (blk_cell (blk_new wr (.cells #[.int .i64 s, .int .i64 a] 84)) 1).trans (show _ = some (Value.int .i64 a) from rfl)
          have hn0 := (blk_cell (blk_alloc (blk_new wr (.cells #[.int .i64 s, .int .i64 a] 84)) (.cells #[.int .i64 s', .int .i64 a'] 84)) 0).trans (show _ = some (Value.int .i64 s) from rfl); have hn1 := (blk_cell (blk_alloc (blk_new wr (.cells #[.int .i64 s, .int .i64 a] 84)) (.cells #[.int .i64 s', .int .i64 a'] 84)) 1).trans (show _ = some (Value.int .i64 a) from rfl)
          have hm0 := (blk_cell (blk_new (wr.alloc (.cells #[.int .i64 s, .int .i64 a] 84)) (.cells #[.int .i64 s', .int .i64 a'] 84)) 0).trans (show _ = some (Value.int .i64 s') from rfl); have hm1 := (blk_cell (blk_new (wr.alloc (.cells #[.int .i64 s, .int .i64 a] 84)) (.cells #[.int .i64 s', .int .i64 a'] 84)) 1).trans (show _ = some (Value.int .i64 a') from rfl)
          clear hA
          (go_wp2; repeat (go_step3; try (go_wp2)))
          repeat (go_quiet (fail); try (go_wp2; repeat (go_step3; try (go_wp2))))
          rw [Exit.noGoto_ret]
          go_ret
          exact ⟨by rw [HF.out]; rfl, by repeat (first | (with_reducible first | exact HB.out | apply below_alloc | apply pw_below_drewN | apply below_drew1 | refine below_set ?_ HSZ.out) | exact HB.out)⟩
        have f8 : decide (agR0 l0_0 (j - 1) ≤ agR0 l0_0 j) = true := decide_eq_true c6
        have HN := Lib.hid (show stepR l0_0 j = true by rw [hsj, f1, f2, f3, decide_eq_false hj0, f6, decide_eq_true c5, f8]; rfl)
        clear hsj hF c1 c2 c3 c4 c5 c6
        generalize szR l0_0 j = s at *
        generalize agR0 l0_0 j = a at *
        generalize szR l0_0 (j - 1) = s' at *
        generalize agR0 l0_0 (j - 1) = a' at *
        have hA := fun (x : Addr) (u : Value) (h : wr.cell? x = some u) => ((below_alloc (Below.refl wr.heap.size wr) (.cells #[.int .i64 s, .int .i64 a] 84)).cell (World.block_lt_of_cell? wr _ h)).trans h
        have hk0' := hA _ _ hk0; have hk1' := hA _ _ hk1; have hv0' := hA _ _ hv0; have hv1' := hA _ _ hv1
        have hg0 := (blk_cell (blk_new wr (.cells #[.int .i64 s, .int .i64 a] 84)) 0).trans (show _ = some (Value.int .i64 s) from rfl); have hg1 := (blk_cell (blk_new wr (.cells #[.int .i64 s, .int .i64 a] 84)) 1).trans (show _ = some (Value.int .i64 a) from rfl)
        have hn0 := (blk_cell (blk_alloc (blk_new wr (.cells #[.int .i64 s, .int .i64 a] 84)) (.cells #[.int .i64 s', .int .i64 a'] 84)) 0).trans (show _ = some (Value.int .i64 s) from rfl); have hn1 := (blk_cell (blk_alloc (blk_new wr (.cells #[.int .i64 s, .int .i64 a] 84)) (.cells #[.int .i64 s', .int .i64 a'] 84)) 1).trans (show _ = some (Value.int .i64 a) from rfl)
        have hm0 := (blk_cell (blk_new (wr.alloc (.cells #[.int .i64 s, .int .i64 a] 84)) (.cells #[.int .i64 s', .int .i64 a'] 84)) 0).trans (show _ = some (Value.int .i64 s') from rfl); have hm1 := (blk_cell (blk_new (wr.alloc (.cells #[.int .i64 s, .int .i64 a] 84)) (.cells #[.int .i64 s', .int .i64 a'] 84)) 1).trans (show _ = some (Value.int .i64 a') from rfl)
        clear hA
        (go_wp2; repeat (go_step3; try (go_wp2)))
        exact ⟨⟨j + 1, by go_num, rfl, hlt, by repeat (first | (with_reducible first | exact HB.out | apply below_alloc | apply pw_below_drewN | apply below_drew1 | refine below_set ?_ HSZ.out) | exact HB.out), blk_alloc (blk_alloc HXX.out _) _, fun q hq => by
          rcases Nat.lt_or_ge q j with h | h
          · exact HS.out q h
          · obtain rfl : q = j := by omega
            exact HN.out⟩, by simp [intOf]; omega⟩
      · obtain rfl : j = l0_0.length := by omega
        have q1 : decide ((l0_0.length : Int) < (l0_0.length : Int)) = false := decide_eq_false (by omega)
        have q6 : IntKind.i64.wrap ((l0_0.length : Int) - 1) = ((l0_0.length - 1 : Nat) : Int) := by
          have := HG.out.2.1
          rw [IntKind.wrap_i64]; omega
        have q7 : (0 ≤ ((l0_0.length - 1 : Nat) : Int)) = True := eq_true (by omega)
        have q8 : (((l0_0.length - 1 : Nat) : Int) < (l0_0.length : Int)) = True := eq_true (by omega)
        obtain ⟨ad3, ha3, hv0, hv1⟩ := at_T84 HG.out ((l0_0.length - 1 : Nat) : Int) (by omega) (by omega)
        obtain rfl : ad = ad3 := by injection ha3
        simp only [Int.toNat_natCast] at hv0 hv1
        replace hv0 := (HB.out.cell (World.block_lt_of_cell? w _ hv0)).trans hv0
        replace hv1 := (HB.out.cell (World.block_lt_of_cell? w _ hv1)).trans hv1
        rw [show (rd_T84 l0_0 ((l0_0.length - 1 : Nat) : Int)).f1 = agR0 l0_0 (l0_0.length - 1) from rfl] at hv1
        have HF : Hid (rightR l0_0 a0_1 = (decide (agR0 l0_0 (l0_0.length - 1) ≤ a0_1) && decide (a0_1 ≤ 2199023255552))) := Lib.hid (by
          unfold rightR
          rw [decide_eq_true (show 1 ≤ l0_0.length by omega), decide_eq_true (show l0_0.length ≤ 4 by omega), decide_eq_true h0, List.all_eq_true.2 (fun q hq => HS.out q (List.mem_range.1 hq))]
          rfl)
        have HSZ := Lib.hid (below_size HB.out)
        clear hv0
        by_cases c1 : agR0 l0_0 (l0_0.length - 1) ≤ a0_1
        case neg =>
          have f1 : decide (agR0 l0_0 (l0_0.length - 1) ≤ a0_1) = false := decide_eq_false c1
          rw [f1, Bool.false_and] at HF
          generalize agR0 l0_0 (l0_0.length - 1) = a at *
          (go_wp2; repeat (go_step3; try (go_wp2)))
          repeat (go_quiet (fail); try (go_wp2; repeat (go_step3; try (go_wp2))))
          rw [Exit.noGoto_ret]
          go_ret
          exact ⟨by rw [HF.out]; rfl, by repeat (first | (with_reducible first | exact HB.out | apply below_alloc | apply pw_below_drewN | apply below_drew1 | refine below_set ?_ HSZ.out) | exact HB.out)⟩
        case pos =>
          have f1 : decide (agR0 l0_0 (l0_0.length - 1) ≤ a0_1) = true := decide_eq_true c1
          rw [f1, Bool.true_and] at HF
          generalize agR0 l0_0 (l0_0.length - 1) = a at *
          (go_wp2; repeat (go_step3; try (go_wp2)))
          repeat (go_quiet (fail); try (go_wp2; repeat (go_step3; try (go_wp2))))
          rw [Exit.noGoto_ret]
          go_ret
          exact ⟨by rw [HF.out]; rfl, by repeat (first | (with_reducible first | exact HB.out | apply below_alloc | apply pw_below_drewN | apply below_drew1 | refine below_set ?_ HSZ.out) | exact HB.out)⟩
end Go.Proofs.Ytdopbhbbpgfliaa.PAsk
end
