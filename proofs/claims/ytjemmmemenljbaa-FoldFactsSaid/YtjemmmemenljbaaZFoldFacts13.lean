import Derived.Test.YtjemmmemenljbaaZFoldFacts12
import Derived.Shelf.Abstract
section
namespace Go.Proofs.Ytjemmmemenljbaa.PFold
open Go.RowKit Go.Proofs.YtjemmmemenljbaaW.PrintWords Go.Proofs.YtjemmmemenljbaaW.PrintLast Go.Proofs.YtjemmmemenljbaaW.PrintMore
attribute [local go_sem] max2_int min2_int max_two min_two max_three min_three max_four min_four   -- for this text's walks alone
set_option linter.unusedVariables false
set_option linter.unusedSimpArgs false
attribute [local go_sem high] eqA41
set_option maxHeartbeats 8000000
set_option maxRecDepth 100000
def rickyardref08_Same.l0 : Nat → List (S51) → List (S51) → Int → Option (Bool)
 | 0, _, _, _ => none
 | k + 1, x0, x1, x5 => if x5 < (x0.length : Int) then (if 0 ≤ x5 then (if x5 < (x1.length : Int) then (if (strOfNums ((rd_T51 x0 x5).f0)).toList = (strOfNums ((rd_T51 x1 x5).f0)).toList then (if (!(((rd_T51 x0 x5).f1.f0) == ((rd_T51 x1 x5).f1.f0)) || (!(((rd_T51 x0 x5).f1.f1) == ((rd_T51 x1 x5).f1.f1)) || ((!(((rd_T51 x0 x5).f1.f2.f0) == ((rd_T51 x1 x5).f1.f2.f0)) || (!(((rd_T51 x0 x5).f1.f2.f1) == ((rd_T51 x1 x5).f1.f2.f1)))) || (!(((rd_T51 x0 x5).f1.f3) == ((rd_T51 x1 x5).f1.f3)) || (!(((rd_T51 x0 x5).f1.f4) == ((rd_T51 x1 x5).f1.f4))))))) = true then (some false) else (rickyardref08_Same.l0 k x0 x1 (wrap64 (x5 + 1)))) else (some false)) else (none)) else (none)) else (some true)
def rickyardref08_Same.f (k : Nat) (l0 : List (S51)) (l1 : List (S51)) : Option (Bool) := if (l0.length : Int) = (l1.length : Int) then (rickyardref08_Same.l0 k l0 l1 0) else (some false)
theorem rickyardref08_Same.calls (k : Nat) (A0 : Option Addr) (c0 : Nat) (l0 : List (S51)) (A1 : Option Addr) (c1 : Nat) (l1 : List (S51)) (r : Bool) (w : World) (hr0 : Kd.C k51 w A0 l0.length l0) (hc0 : l0.length ≤ c0) (hr1 : Kd.C k51 w A1 l1.length l1) (hc1 : l1.length ≤ c1) (h : rickyardref08_Same.f k l0 l1 = some r) :
  Calls Try.prog 14 #[.slice A0 l0.length c0, .slice A1 l1.length c1] w fun e w' => e = .returned (.bool r) ∧ Drawn0 w w' := by
 have hu41 := Try.underlying41
 have HR0 := Aside0.mk hr0
 have HC0 := Aside0.mk hc0
 clear hr0 hc0
 have HR1 := Aside0.mk hr1
 have HC1 := Aside0.mk hc1
 clear hr1 hc1
 have H : (if (l0.length : Int) = (l1.length : Int) then (rickyardref08_Same.l0 k l0 l1 0) else (some false)) = some r := h
 clear h
 by_cases c3 : (l0.length : Int) = (l1.length : Int)
 rotate_left
 ·rw [if_neg c3] at H
  have c3b0 := beq_eq_false_iff_ne.mpr c3
  have c3b1 := bne_iff_ne.mpr c3
  have c3b2 : (l0.length == l1.length) = false := by first | simpa using c3 | (simp at c3 ⊢; omega)
  obtain rfl := Option.some.inj H
  go_enter Try.func14, Try.ntmps14
  go_wp2
  repeat (go_quiet (fail); try go_wp2)
  go_ret
  exact ⟨by first | rfl | (simp; done) | (simp [*]; done), by repeat (first | exact Drawn0.refl _ | apply Drawn0.step)⟩
 rw [if_pos c3] at H
 have c3b0 := beq_iff_eq.mpr c3
 have c3b1 := bne_eq_false_iff_eq.mpr c3
 have c3b2 : (l0.length == l1.length) = true := by first | simpa using c3 | (simp at c3 ⊢; omega)
 clear c3
 have H' := Aside0.mk H
 clear H
 go_enter Try.func14, Try.ntmps14
 go_wp2
 repeat (go_quiet (fail); try go_wp2)
 go_loopg [5] k (fun kq v5 w' => ∃ (x5_1 : Int), v5 = .int .i64 x5_1 ∧ Aside0 (rickyardref08_Same.l0 kq l0 l1 x5_1 = some r) ∧ Aside0 (kq ≤ k) ∧ Drawn0 w w')
 case atStart => exact ⟨(0), relA, H', ⟨Nat.le_refl _⟩, by repeat (first | exact Drawn0.refl _ | apply Drawn0.step)⟩
 case round =>
  clear H'
  try clear c1
  try clear p2
  try clear c3
  try clear c3b0
  try clear c3b1
  try clear c3b2
  obtain ⟨x5_1, rfl, HA, HK1, ⟨m1, rfl⟩⟩ := hrel
  cases gk with
  | zero => exact absurd HA.out (by simp [rickyardref08_Same.l0])
  | succ k1 =>
   have H := HA.out
   clear HA
   simp only [rickyardref08_Same.l0] at H
   by_cases c4 : x5_1 < (l0.length : Int)
   ·rw [if_pos c4] at H
    have c4b0 := decide_eq_true c4
    clear c4
    by_cases c5 : 0 ≤ x5_1
    ·rw [if_pos c5] at H
     have c5b0 := decide_eq_true c5
     clear c5
     by_cases c6 : x5_1 < (l1.length : Int)
     ·rw [if_pos c6] at H
      have c6b0 := decide_eq_true c6
      clear c6
      by_cases c7 : (strOfNums ((rd_T51 l0 x5_1).f0)).toList = (strOfNums ((rd_T51 l1 x5_1).f0)).toList
      ·rw [if_pos c7] at H
       have c7b0 := beq_iff_eq.mpr c7
       have c7b1 := bne_eq_false_iff_eq.mpr c7
       clear c7
       by_cases c8 : (!(((rd_T51 l0 x5_1).f1.f0) == ((rd_T51 l1 x5_1).f1.f0)) || (!(((rd_T51 l0 x5_1).f1.f1) == ((rd_T51 l1 x5_1).f1.f1)) || ((!(((rd_T51 l0 x5_1).f1.f2.f0) == ((rd_T51 l1 x5_1).f1.f2.f0)) || (!(((rd_T51 l0 x5_1).f1.f2.f1) == ((rd_T51 l1 x5_1).f1.f2.f1)))) || (!(((rd_T51 l0 x5_1).f1.f3) == ((rd_T51 l1 x5_1).f1.f3)) || (!(((rd_T51 l0 x5_1).f1.f4) == ((rd_T51 l1 x5_1).f1.f4))))))) = true
       ·rw [if_pos c8] at H
        have c8b0 : (!(((rd_T51 l0 x5_1).f1.f0) == ((rd_T51 l1 x5_1).f1.f0)) || (!(((rd_T51 l0 x5_1).f1.f1) == ((rd_T51 l1 x5_1).f1.f1)) || ((!(((rd_T51 l0 x5_1).f1.f2.f0) == ((rd_T51 l1 x5_1).f1.f2.f0)) || (!(((rd_T51 l0 x5_1).f1.f2.f1) == ((rd_T51 l1 x5_1).f1.f2.f1)))) || (!(((rd_T51 l0 x5_1).f1.f3) == ((rd_T51 l1 x5_1).f1.f3)) || (!(((rd_T51 l0 x5_1).f1.f4) == ((rd_T51 l1 x5_1).f1.f4))))))) = true := c8
        clear c8
        obtain rfl := Option.some.inj H
        have p503 : 0 ≤ (x5_1 : Int) := of_decide_eq_true asmA
        have q503 : x5_1 < (l0.length : Int) := of_decide_eq_true asmA
        obtain ⟨ad503, A503_0, c503_0, e503, hx503_0, hx503_1, hx503_2, hx503_3, hx503_4, hx503_5, hx503_6, hl503_0, hi503_0⟩ := at_T51 HR0.out x5_1 p503 q503
        cases e503
        have HR503_0 := Aside0.mk hi503_0
        have HC503_0 := Aside0.mk hl503_0
        clear hi503_0 hl503_0
        replace p503 := eq_true p503
        replace q503 := eq_true q503
        have hcv9 := Kd.C_string (P := Try.prog) (A := A503_0) (c := c503_0) Try.underlying49 Try.underlying5 Try.underlying9 HR503_0.out
        have hcv10 := fun (n_ : Nat) => Kd.C_string (P := Try.prog) (A := A503_0) (c := c503_0) Try.underlying49 Try.underlying5 Try.underlying9 (Kd.C_drewN HR503_0.out n_)
        have p504 : 0 ≤ (x5_1 : Int) := of_decide_eq_true asmA
        have q504 : x5_1 < (l1.length : Int) := of_decide_eq_true asmA
        obtain ⟨ad504, A504_0, c504_0, e504, hx504_0, hx504_1, hx504_2, hx504_3, hx504_4, hx504_5, hx504_6, hl504_0, hi504_0⟩ := at_T51 HR1.out x5_1 p504 q504
        cases e504
        have HR504_0 := Aside0.mk hi504_0
        have HC504_0 := Aside0.mk hl504_0
        clear hi504_0 hl504_0
        replace p504 := eq_true p504
        replace q504 := eq_true q504
        have hcv11 := Kd.C_string (P := Try.prog) (A := A504_0) (c := c504_0) Try.underlying49 Try.underlying5 Try.underlying9 HR504_0.out
        have hcv12 := fun (n_ : Nat) => Kd.C_string (P := Try.prog) (A := A504_0) (c := c504_0) Try.underlying49 Try.underlying5 Try.underlying9 (Kd.C_drewN HR504_0.out n_)
        have p505 : 0 ≤ (x5_1 : Int) := of_decide_eq_true asmA
        have q505 : x5_1 < (l0.length : Int) := of_decide_eq_true asmA
        obtain ⟨ad505, A505_0, c505_0, e505, hx505_0, hx505_1, hx505_2, hx505_3, hx505_4, hx505_5, hx505_6, hl505_0, hi505_0⟩ := at_T51 HR0.out x5_1 p505 q505
        obtain rfl : ad503 = ad505 := (by injection e505)
        have HR505_0 := Aside0.mk hi505_0
        have HC505_0 := Aside0.mk hl505_0
        clear hi505_0 hl505_0
        replace p505 := eq_true p505
        replace q505 := eq_true q505
        have ea_ := Option.some.inj (hx503_0.symm.trans hx505_0)
        injection ea_ with ea_ en_ ec_
        subst ea_
        subst ec_
        clear en_
        have p506 : 0 ≤ (x5_1 : Int) := of_decide_eq_true asmA
        have q506 : x5_1 < (l1.length : Int) := of_decide_eq_true asmA
        obtain ⟨ad506, A506_0, c506_0, e506, hx506_0, hx506_1, hx506_2, hx506_3, hx506_4, hx506_5, hx506_6, hl506_0, hi506_0⟩ := at_T51 HR1.out x5_1 p506 q506
        obtain rfl : ad504 = ad506 := (by injection e506)
        have HR506_0 := Aside0.mk hi506_0
        have HC506_0 := Aside0.mk hl506_0
        clear hi506_0 hl506_0
        replace p506 := eq_true p506
        replace q506 := eq_true q506
        have ea_ := Option.some.inj (hx504_0.symm.trans hx506_0)
        injection ea_ with ea_ en_ ec_
        subst ea_
        subst ec_
        clear en_
        go_wp2
        repeat (go_quiet (fail); try go_wp2)
        go_ret
        exact ⟨by first | rfl | (simp; done) | (simp [*]; done), by repeat (first | exact Drawn0.refl _ | apply Drawn0.step)⟩
       ·rw [if_neg c8] at H
        have c8b0 : (!(((rd_T51 l0 x5_1).f1.f0) == ((rd_T51 l1 x5_1).f1.f0)) || (!(((rd_T51 l0 x5_1).f1.f1) == ((rd_T51 l1 x5_1).f1.f1)) || ((!(((rd_T51 l0 x5_1).f1.f2.f0) == ((rd_T51 l1 x5_1).f1.f2.f0)) || (!(((rd_T51 l0 x5_1).f1.f2.f1) == ((rd_T51 l1 x5_1).f1.f2.f1)))) || (!(((rd_T51 l0 x5_1).f1.f3) == ((rd_T51 l1 x5_1).f1.f3)) || (!(((rd_T51 l0 x5_1).f1.f4) == ((rd_T51 l1 x5_1).f1.f4))))))) = false := by simpa using c8
        clear c8
        have H' := Aside0.mk H
        clear H
        have p503 : 0 ≤ (x5_1 : Int) := of_decide_eq_true asmA
        have q503 : x5_1 < (l0.length : Int) := of_decide_eq_true asmA
        obtain ⟨ad503, A503_0, c503_0, e503, hx503_0, hx503_1, hx503_2, hx503_3, hx503_4, hx503_5, hx503_6, hl503_0, hi503_0⟩ := at_T51 HR0.out x5_1 p503 q503
        cases e503
        have HR503_0 := Aside0.mk hi503_0
        have HC503_0 := Aside0.mk hl503_0
        clear hi503_0 hl503_0
        replace p503 := eq_true p503
        replace q503 := eq_true q503
        have hcv13 := Kd.C_string (P := Try.prog) (A := A503_0) (c := c503_0) Try.underlying49 Try.underlying5 Try.underlying9 HR503_0.out
        have hcv14 := fun (n_ : Nat) => Kd.C_string (P := Try.prog) (A := A503_0) (c := c503_0) Try.underlying49 Try.underlying5 Try.underlying9 (Kd.C_drewN HR503_0.out n_)
        have p504 : 0 ≤ (x5_1 : Int) := of_decide_eq_true asmA
        have q504 : x5_1 < (l1.length : Int) := of_decide_eq_true asmA
        obtain ⟨ad504, A504_0, c504_0, e504, hx504_0, hx504_1, hx504_2, hx504_3, hx504_4, hx504_5, hx504_6, hl504_0, hi504_0⟩ := at_T51 HR1.out x5_1 p504 q504
        cases e504
        have HR504_0 := Aside0.mk hi504_0
        have HC504_0 := Aside0.mk hl504_0
        clear hi504_0 hl504_0
        replace p504 := eq_true p504
        replace q504 := eq_true q504
        have hcv15 := Kd.C_string (P := Try.prog) (A := A504_0) (c := c504_0) Try.underlying49 Try.underlying5 Try.underlying9 HR504_0.out
        have hcv16 := fun (n_ : Nat) => Kd.C_string (P := Try.prog) (A := A504_0) (c := c504_0) Try.underlying49 Try.underlying5 Try.underlying9 (Kd.C_drewN HR504_0.out n_)
        have p505 : 0 ≤ (x5_1 : Int) := of_decide_eq_true asmA
        have q505 : x5_1 < (l0.length : Int) := of_decide_eq_true asmA
        obtain ⟨ad505, A505_0, c505_0, e505, hx505_0, hx505_1, hx505_2, hx505_3, hx505_4, hx505_5, hx505_6, hl505_0, hi505_0⟩ := at_T51 HR0.out x5_1 p505 q505
        obtain rfl : ad503 = ad505 := (by injection e505)
        have HR505_0 := Aside0.mk hi505_0
        have HC505_0 := Aside0.mk hl505_0
        clear hi505_0 hl505_0
        replace p505 := eq_true p505
        replace q505 := eq_true q505
        have ea_ := Option.some.inj (hx503_0.symm.trans hx505_0)
        injection ea_ with ea_ en_ ec_
        subst ea_
        subst ec_
        clear en_
        have p506 : 0 ≤ (x5_1 : Int) := of_decide_eq_true asmA
        have q506 : x5_1 < (l1.length : Int) := of_decide_eq_true asmA
        obtain ⟨ad506, A506_0, c506_0, e506, hx506_0, hx506_1, hx506_2, hx506_3, hx506_4, hx506_5, hx506_6, hl506_0, hi506_0⟩ := at_T51 HR1.out x5_1 p506 q506
        obtain rfl : ad504 = ad506 := (by injection e506)
        have HR506_0 := Aside0.mk hi506_0
        have HC506_0 := Aside0.mk hl506_0
        clear hi506_0 hl506_0
        replace p506 := eq_true p506
        replace q506 := eq_true q506
        have ea_ := Option.some.inj (hx504_0.symm.trans hx506_0)
        injection ea_ with ea_ en_ ec_
        subst ea_
        subst ec_
        clear en_
        go_wp2
        repeat (go_quiet (fail); try go_wp2)
        go_roundg k1
        case measure => have := HK1.out; omega
        case rel => exact ⟨(wrap64 (x5_1 + 1)), relA, H', ⟨by have := HK1.out; omega⟩, by repeat (first | exact Drawn0.refl _ | apply Drawn0.step)⟩
      ·rw [if_neg c7] at H
       have c7b0 := beq_eq_false_iff_ne.mpr c7
       have c7b1 := bne_iff_ne.mpr c7
       obtain rfl := Option.some.inj H
       have p503 : 0 ≤ (x5_1 : Int) := of_decide_eq_true asmA
       have q503 : x5_1 < (l0.length : Int) := of_decide_eq_true asmA
       obtain ⟨ad503, A503_0, c503_0, e503, hx503_0, hx503_1, hx503_2, hx503_3, hx503_4, hx503_5, hx503_6, hl503_0, hi503_0⟩ := at_T51 HR0.out x5_1 p503 q503
       cases e503
       have HR503_0 := Aside0.mk hi503_0
       have HC503_0 := Aside0.mk hl503_0
       clear hi503_0 hl503_0
       replace p503 := eq_true p503
       replace q503 := eq_true q503
       have hcv17 := Kd.C_string (P := Try.prog) (A := A503_0) (c := c503_0) Try.underlying49 Try.underlying5 Try.underlying9 HR503_0.out
       have hcv18 := fun (n_ : Nat) => Kd.C_string (P := Try.prog) (A := A503_0) (c := c503_0) Try.underlying49 Try.underlying5 Try.underlying9 (Kd.C_drewN HR503_0.out n_)
       have p504 : 0 ≤ (x5_1 : Int) := of_decide_eq_true asmA
       have q504 : x5_1 < (l1.length : Int) := of_decide_eq_true asmA
       obtain ⟨ad504, A504_0, c504_0, e504, hx504_0, hx504_1, hx504_2, hx504_3, hx504_4, hx504_5, hx504_6, hl504_0, hi504_0⟩ := at_T51 HR1.out x5_1 p504 q504
       cases e504
       have HR504_0 := Aside0.mk hi504_0
       have HC504_0 := Aside0.mk hl504_0
       clear hi504_0 hl504_0
       replace p504 := eq_true p504
       replace q504 := eq_true q504
       have hcv19 := Kd.C_string (P := Try.prog) (A := A504_0) (c := c504_0) Try.underlying49 Try.underlying5 Try.underlying9 HR504_0.out
       have hcv20 := fun (n_ : Nat) => Kd.C_string (P := Try.prog) (A := A504_0) (c := c504_0) Try.underlying49 Try.underlying5 Try.underlying9 (Kd.C_drewN HR504_0.out n_)
       go_wp2
       repeat (go_quiet (fail); try go_wp2)
       go_ret
       exact ⟨by first | rfl | (simp; done) | (simp [*]; done), by repeat (first | exact Drawn0.refl _ | apply Drawn0.step)⟩
     ·rw [if_neg c6] at H
      exact absurd H (by simp)
    ·rw [if_neg c5] at H
     exact absurd H (by simp)
   ·rw [if_neg c4] at H
    have c4b0 := decide_eq_false c4
    clear c4
    obtain rfl := Option.some.inj H
    go_wp2
    repeat (go_quiet (fail); try go_wp2)
    go_ret
    exact ⟨by first | rfl | (simp; done) | (simp [*]; done), by repeat (first | exact Drawn0.refl _ | apply Drawn0.step)⟩
end Go.Proofs.Ytjemmmemenljbaa.PFold
end
section
namespace Go.Proofs.Ytjemmmemenljbaa.PFold
open Go.RowKit Go.Proofs.YtjemmmemenljbaaW.PrintWords Go.Proofs.YtjemmmemenljbaaW.PrintLast Go.Proofs.YtjemmmemenljbaaW.PrintMore
set_option linter.unusedVariables false
set_option linter.unusedSimpArgs false
set_option maxHeartbeats 8000000
set_option maxRecDepth 100000
theorem dim_long (s : ByteArray) (w : World) : Calls Try.prog 86 #[.string s] w fun e w' => e = .returned (.bool (decide (16 < (s.size : Int)))) ∧ w = w' := by
  go_enter Try.func86, Try.ntmps86
  go_wp2
  go_ret
  exact ⟨rfl, rfl⟩
def lng (s : ByteArray) : Bool := decide (16 < (s.size : Int))
def idxS (l : List ByteArray) : Int := match l.findIdx? lng with | some i => (i : Int) | none => -1
theorem idxS_hit {l : List ByteArray} {j : Nat} (h : j < l.length) (h1 : lng l[j] = true) (h2 : ∀ i, ∀ hi : i < j, lng (l[i]'(by omega)) = false) : idxS l = j := by
  unfold idxS
  have : l.findIdx? lng = some j := by
    rw [List.findIdx?_eq_some_iff_getElem]
    exact ⟨h, h1, fun i hi => by simpa using h2 i hi⟩
  rw [this]
theorem idxS_miss {l : List ByteArray} (h2 : ∀ i, ∀ hi : i < l.length, lng l[i] = false) : idxS l = -1 := by
  unfold idxS
  have : l.findIdx? lng = none := by
    rw [List.findIdx?_eq_none_iff]
    intro x hx
    obtain ⟨i, hi, rfl⟩ := List.mem_iff_getElem.1 hx
    exact h2 i hi
  rw [this]
theorem idxS_any (l : List ByteArray) : decide (idxS l ≥ 0) = l.any lng := by
  unfold idxS
  cases h : l.findIdx? lng with
  | none =>
    rw [List.findIdx?_eq_none_iff] at h
    have : l.any lng = false := by rw [List.any_eq_false]; intro x hx; simp [h x hx]
    rw [this]; rfl
  | some i =>
    rw [List.findIdx?_eq_some_iff_getElem] at h
    obtain ⟨hi, hp, _⟩ := h
    rw [List.any_eq_true.2 ⟨_, List.getElem_mem hi, hp⟩]
    exact decide_eq_true (show ((i : Nat) : Int) ≥ 0 by omega)
def IdxSRel (w : World) (l : List ByteArray) (j : Nat) (wr : World) : Prop := j ≤ l.length ∧ wr = w ∧ ∀ i, i < j → ∀ hi : i < l.length, lng l[i] = false
theorem index_dims (A0 : Option Addr) (c0 : Nat) (l0 : List ByteArray) (w : World) (hr0 : Kd.C Kd.string w A0 l0.length l0) (hl : l0.length ≤ 1000) :
    Calls Try.prog 100 #[.slice A0 l0.length c0, .func (.func 86) #[] #[]] w fun e w' => e = .returned (.int .i64 (idxS l0)) ∧ w = w' := by
  have HC := Lib.hid hr0; clear hr0
  go_enter Try.func100, Try.ntmps100
  go_wp2
  go_loopw [5, 8] (fun _ v wr => ∃ j : Nat, v = .int .i64 j ∧ IdxSRel w l0 j wr) (fun _ v _ => l0.length - (intOf v).toNat)
  case atStart => exact ⟨0, rfl, Nat.zero_le _, rfl, fun i hi => by omega⟩
  case round =>
    obtain ⟨j, rfl, hj, rfl, hno⟩ := hrel
    have HN := Lib.hid hno; clear hno
    by_cases hlt : j < l0.length
    · have e1 : decide ((j : Int) < (l0.length : Int)) = true := decide_eq_true (by omega)
      obtain ⟨ad, ha, hx0⟩ := Kd.at_string HC.out (j : Int) (by omega) (by omega)
      subst ha
      obtain ⟨x, hx⟩ : ∃ x, x = rdOf ByteArray.empty l0 (j : Int) := ⟨_, rfl⟩
      have hxl : Hid (x = l0[j]) := Lib.hid (by
        rw [hx]; unfold rdOf
        rw [show ((j : Int)).toNat = j from by omega, List.getD_eq_getElem?_getD, List.getElem?_eq_getElem hlt]
        rfl)
      rw [← hx] at hx0
      simp only [Int.toNat_natCast] at hx0
      clear hx
      cases hq : lng x with
      | true =>
        have HQ := Lib.hid hq
        unfold lng at hq
        go_wp2_with (go_at_call 86; refine (dim_long x _).mono ?_; rintro e w' ⟨rfl, rfl⟩)
        go_ret
        refine ⟨?_, rfl⟩
        rw [idxS_hit hlt (by rw [← hxl.out]; exact HQ.out) (fun i hi => HN.out i hi (by omega))]
        rfl
      | false =>
        have HQ := Lib.hid hq
        unfold lng at hq
        go_wp2_with (go_at_call 86; refine (dim_long x _).mono ?_; rintro e w' ⟨rfl, rfl⟩)
        go_roundw
        case rel =>
          refine ⟨j + 1, by go_num, hlt, rfl, fun i hi hi' => ?_⟩
          by_cases e : i = j
          · subst e
            rw [← hxl.out]; exact HQ.out
          · exact HN.out i (by omega) hi'
        case measure => simp [intOf]; omega
    · have e1 : decide ((j : Int) < (l0.length : Int)) = false := decide_eq_false (by omega)
      go_wp2
      go_ret
      refine ⟨?_, rfl⟩
      rw [idxS_miss (fun i hi => HN.out i (by omega) hi)]
      rfl
theorem contains_dims (A0 : Option Addr) (c0 : Nat) (l0 : List ByteArray) (w : World) (hr0 : Kd.C Kd.string w A0 l0.length l0) (hl : l0.length ≤ 1000) :
    Calls Try.prog 85 #[.slice A0 l0.length c0, .func (.func 86) #[] #[]] w fun e w' => e = .returned (.bool (l0.any lng)) ∧ w = w' := by
  have HC := Lib.hid hr0; clear hr0
  have hA := Lib.hid (idxS_any l0)
  go_enter Try.func85, Try.ntmps85
  go_wp2_with (go_at_call 100; refine (index_dims A0 c0 l0 w HC.out hl).mono ?_; rintro e w' ⟨rfl, rfl⟩)
  go_ret
  refine ⟨?_, rfl⟩
  rw [← hA.out]
  rfl
def dimsB (l : List ByteArray) : Bool := decide (l.length ≤ 4) && !l.any lng
def key_fits.f (l : List ByteArray) : Option Bool := some (dimsB l)
theorem key_fits.calls (A0 : Option Addr) (c0 : Nat) (l0 : List ByteArray) (r : Bool) (w : World) (hr0 : Kd.C Kd.string w A0 l0.length l0) (_ : l0.length ≤ c0) (h : key_fits.f l0 = some r) :
    Calls Try.prog 61 #[.slice A0 l0.length c0] w fun e w' => e = .returned (.bool r) ∧ Drawn0 w w' := by
  have HC := Lib.hid hr0; clear hr0
  have H : Hid (dimsB l0 = r) := Lib.hid (Option.some.inj h)
  clear h
  by_cases hl : l0.length ≤ 4
  · have e1 : decide ((l0.length : Int) ≤ 4) = true := decide_eq_true (by omega)
    have e2 : decide (l0.length ≤ 4) = true := decide_eq_true hl
    cases hq : l0.any lng with
    | true =>
      have HQ := Lib.hid hq; clear hq
      go_enter Try.func61, Try.ntmps61
      go_wp2_with (go_at_call 85; refine (contains_dims A0 c0 l0 w HC.out (by omega)).mono ?_; rintro e w' ⟨rfl, rfl⟩; rw [HQ.out])
      go_ret
      refine ⟨?_, Drawn0.refl _⟩
      rw [← H.out]; unfold dimsB; rw [HQ.out]; simp
    | false =>
      have HQ := Lib.hid hq; clear hq
      go_enter Try.func61, Try.ntmps61
      go_wp2_with (go_at_call 85; refine (contains_dims A0 c0 l0 w HC.out (by omega)).mono ?_; rintro e w' ⟨rfl, rfl⟩; rw [HQ.out])
      go_ret
      refine ⟨?_, Drawn0.refl _⟩
      rw [← H.out]; unfold dimsB; rw [HQ.out, e2]; rfl
  · have e1 : decide ((l0.length : Int) ≤ 4) = false := decide_eq_false (by omega)
    have e2 : decide (l0.length ≤ 4) = false := decide_eq_false hl
    have H2 : Hid (r = false) := Lib.hid (by rw [← H.out]; unfold dimsB; rw [e2]; rfl)
    go_enter Try.func61, Try.ntmps61
    go_wp2
    go_ret
    exact ⟨by rw [H2.out]; rfl, Drawn0.refl _⟩
def szR (g : List S67) (i : Nat) : Int := (rd_T67 g (i : Int)).f0
def agR0 (g : List S67) (i : Nat) : Int := (rd_T67 g (i : Int)).f1
def stepR (g : List S67) (i : Nat) : Bool := decide (1 ≤ szR g i) && (decide (szR g i ≤ 1099511627776) && (decide (agR0 g i ≤ 1099511627776) && (decide (i = 0) || (decide (szR g (i - 1) < szR g i) && (decide (Int.tmod (szR g i) (szR g (i - 1)) = 0) && decide (agR0 g (i - 1) ≤ agR0 g i))))))
def rightR (g : List S67) (keep : Int) : Bool := decide (1 ≤ g.length) && (decide (g.length ≤ 4) && (decide (agR0 g 0 = 0) && ((List.range g.length).all (stepR g) && (decide (agR0 g (g.length - 1) ≤ keep) && decide (keep ≤ 2199023255552)))))
def grain_Right.f (_ : Nat) (g : List S67) (keep : Int) : Option Bool := some (rightR g keep)
def RightRel (w : World) (g : List S67) (A0 : Option Addr) (c0 : Nat) (keep : Int) (j : Nat) (wr : World) : Prop :=
  Below w.heap.size w wr ∧ wr.heap[w.heap.size]? = some (.cells #[.slice A0 g.length c0, .int .i64 keep] 24 (0, 0)) ∧ ∀ q, q < j → stepR g q = true
theorem grain_Right.calls (k : Nat) (A0_0 : Option Addr) (c0_0 : Nat) (l0_0 : List S67) (a0_1 : Int) (r : Bool) (w : World) (hr0_0 : Kd.C k67 w A0_0 l0_0.length l0_0) (hc0_0 : l0_0.length ≤ c0_0) (h : grain_Right.f k l0_0 a0_1 = some r) :
    Calls Try.prog 52 #[.agg #[.slice A0_0 l0_0.length c0_0, .int .i64 a0_1]] w fun e w' => e = .returned (.bool r) ∧ Below w.heap.size w w' := by
  unfold grain_Right.f at h
  obtain rfl := Option.some.inj h
  have HG := Lib.hid hr0_0; clear hr0_0 h
  by_cases h1 : l0_0.length < 1
  · have e1 : decide ((l0_0.length : Int) < 1) = true := decide_eq_true (by omega)
    have e2 : decide (l0_0.length < 1) = true := decide_eq_true h1
    have hR : rightR l0_0 a0_1 = false := by unfold rightR; rw [decide_eq_false (by omega)]; rfl
    rw [hR]
    go_enter Try.func52, Try.ntmps52
    (go_wp2; repeat (go_step3; try (go_wp2)))
    rw [Exit.noGoto_ret]
    go_ret
    exact ⟨rfl, below_alloc (Below.refl _ _) _⟩
  by_cases h4 : 4 < l0_0.length
  · have e1 : decide ((l0_0.length : Int) < 1) = false := decide_eq_false (by omega)
    have e2 : decide (l0_0.length < 1) = false := decide_eq_false h1
    have e3 : decide (4 < (l0_0.length : Int)) = true := decide_eq_true (by omega)
    have e4 : decide (4 < l0_0.length) = true := decide_eq_true h4
    have hR : rightR l0_0 a0_1 = false := by unfold rightR; rw [decide_eq_true (show 1 ≤ l0_0.length by omega), decide_eq_false (show ¬ l0_0.length ≤ 4 by omega)]; rfl
    rw [hR]
    go_enter Try.func52, Try.ntmps52
    (go_wp2; repeat (go_step3; try (go_wp2)))
    rw [Exit.noGoto_ret]
    go_ret
    exact ⟨rfl, below_alloc (Below.refl _ _) _⟩
  have e1 : decide ((l0_0.length : Int) < 1) = false := decide_eq_false (by omega)
  have e2 : decide (l0_0.length < 1) = false := decide_eq_false h1
  have e3 : decide (4 < (l0_0.length : Int)) = false := decide_eq_false (by omega)
  have e4 : decide (4 < l0_0.length) = false := decide_eq_false h4
  obtain ⟨ad, ha, hx0, hx1⟩ := at_T67 HG.out 0 (by omega) (by omega)
  subst ha
  have hpos : (0 < l0_0.length) = True := eq_true (by omega)
  have hpos2 : ((0 : Int) < (l0_0.length : Int)) = True := eq_true (by omega)
  simp only [Int.toNat_zero, Nat.zero_mul, Addr.add_zero'] at hx0 hx1
  replace hx0 := (Below.cell (below_alloc (Below.refl w.heap.size w) (.cells #[.slice (some ad) l0_0.length c0_0, .int .i64 a0_1] 24)) (World.block_lt_of_cell? w _ hx0)).trans hx0
  replace hx1 := (Below.cell (below_alloc (Below.refl w.heap.size w) (.cells #[.slice (some ad) l0_0.length c0_0, .int .i64 a0_1] 24)) (World.block_lt_of_cell? w _ hx1)).trans hx1
  have hz0 : (rd_T67 l0_0 0).f1 = agR0 l0_0 0 := rfl
  rw [hz0] at hx1
  by_cases h0 : agR0 l0_0 0 = 0
  case neg =>
    have e5 : (agR0 l0_0 0 != 0) = true := bne_iff_ne.mpr h0
    have e6 : (agR0 l0_0 0 == 0) = false := beq_eq_false_iff_ne.mpr h0
    have hR : rightR l0_0 a0_1 = false := by unfold rightR; rw [decide_eq_true (show 1 ≤ l0_0.length by omega), decide_eq_true (show l0_0.length ≤ 4 by omega), decide_eq_false h0]; rfl
    rw [hR]
    go_enter Try.func52, Try.ntmps52
    (go_wp2; repeat (go_step3; try (go_wp2)))
    rw [Exit.noGoto_ret]
    go_ret
    exact ⟨rfl, below_alloc (Below.refl _ _) _⟩
  case pos =>
    have e5 : (agR0 l0_0 0 != 0) = false := bne_eq_false_iff_eq.mpr h0
    have e6 : (agR0 l0_0 0 == 0) = true := beq_iff_eq.mpr h0
    have HX : Hid (w.cell? ad = w.cell? ad) := Lib.hid rfl
    go_enter Try.func52, Try.ntmps52
    (go_wp2; repeat (go_step3; try (go_wp2)))
    go_loopw [4, 26] (fun v4 v wr => ∃ j : Nat, v = .int .i64 j ∧ v4 = .bool true ∧ j ≤ l0_0.length ∧ RightRel w l0_0 (some ad) c0_0 a0_1 j wr) (fun _ v _ => l0_0.length - (intOf v).toNat)
    case atStart => exact ⟨0, rfl, rfl, Nat.zero_le _, below_alloc (Below.refl _ _) _, blk_new _ _, fun q hq => absurd hq (Nat.not_lt_zero _)⟩
    case round =>
      obtain ⟨j, rfl, rfl, hj, hB, hX, hs⟩ := hrel
      have HB := Lib.hid hB; have HXX := Lib.hid hX; have HS := Lib.hid hs; clear hB hX hs
      have hk0 := (blk_cell HXX.out 0).trans (show _ = some (Value.slice (some ad) l0_0.length c0_0) from rfl)
      have hk1 := (blk_cell HXX.out 1).trans (show _ = some (Value.int .i64 a0_1) from rfl)
      clear hx0 hx1 hz0 e5 e6
      by_cases hlt : j < l0_0.length
      · have q1 : decide ((j : Int) < (l0_0.length : Int)) = true := decide_eq_true (by omega)
        have q2 : (0 ≤ (j : Int)) = True := eq_true (by omega)
        have q3 : ((j : Int) < (l0_0.length : Int)) = True := eq_true (by omega)
        obtain ⟨ad2, ha2, hy0, hy1⟩ := at_T67 HG.out (j : Int) (by omega) (by omega)
        obtain rfl : ad = ad2 := by injection ha2
        simp only [Int.toNat_natCast] at hy0 hy1
        replace hy0 := (HB.out.cell (World.block_lt_of_cell? w _ hy0)).trans hy0
        replace hy1 := (HB.out.cell (World.block_lt_of_cell? w _ hy1)).trans hy1
        have HST := Lib.hid (show stepR l0_0 j = stepR l0_0 j from rfl)
        have hF : stepR l0_0 j = false → rightR l0_0 a0_1 = false := fun hh => by
          have ha : (List.range l0_0.length).all (stepR l0_0) = false := List.all_eq_false.2 ⟨j, List.mem_range.2 hlt, by rw [hh]; decide⟩
          unfold rightR
          rw [ha, Bool.false_and, Bool.and_false, Bool.and_false, Bool.and_false]
        have hsj : stepR l0_0 j = (decide (1 ≤ szR l0_0 j) && (decide (szR l0_0 j ≤ 1099511627776) && (decide (agR0 l0_0 j ≤ 1099511627776) && (decide (j = 0) || (decide (szR l0_0 (j - 1) < szR l0_0 j) && (decide (Int.tmod (szR l0_0 j) (szR l0_0 (j - 1)) = 0) && decide (agR0 l0_0 (j - 1) ≤ agR0 l0_0 j))))))) := rfl
        rw [show (rd_T67 l0_0 (j : Int)).f0 = szR l0_0 j from rfl] at hy0
        rw [show (rd_T67 l0_0 (j : Int)).f1 = agR0 l0_0 j from rfl] at hy1
        have HSZ := Lib.hid (below_size HB.out)
        by_cases c1 : 1 ≤ szR l0_0 j
        case neg =>
          have f1 : decide (1 ≤ szR l0_0 j) = false := decide_eq_false c1
          have HF := Lib.hid (hF (by rw [hsj, f1]; rfl))
          clear hsj hF c1
          generalize szR l0_0 j = s at *
          generalize agR0 l0_0 j = a at *
          (go_wp2; repeat (go_step3; try (go_wp2)))
          repeat (go_quiet (fail); try (go_wp2; repeat (go_step3; try (go_wp2))))
          rw [Exit.noGoto_ret]
          go_ret
          exact ⟨by rw [HF.out]; rfl, by repeat (first | (with_reducible first | exact HB.out | apply below_alloc | apply pw_below_drewN | apply below_drew1 | refine below_set ?_ HSZ.out) | exact HB.out)⟩
        have f1 : decide (1 ≤ szR l0_0 j) = true := decide_eq_true c1
        by_cases c2 : szR l0_0 j ≤ 1099511627776
        case neg =>
          have f2 : decide (szR l0_0 j ≤ 1099511627776) = false := decide_eq_false c2
          have HF := Lib.hid (hF (by rw [hsj, f1, f2]; rfl))
          clear hsj hF c1 c2
          generalize szR l0_0 j = s at *
          generalize agR0 l0_0 j = a at *
          (go_wp2; repeat (go_step3; try (go_wp2)))
          repeat (go_quiet (fail); try (go_wp2; repeat (go_step3; try (go_wp2))))
          rw [Exit.noGoto_ret]
          go_ret
          exact ⟨by rw [HF.out]; rfl, by repeat (first | (with_reducible first | exact HB.out | apply below_alloc | apply pw_below_drewN | apply below_drew1 | refine below_set ?_ HSZ.out) | exact HB.out)⟩
        have f2 : decide (szR l0_0 j ≤ 1099511627776) = true := decide_eq_true c2
        by_cases c3 : agR0 l0_0 j ≤ 1099511627776
        case neg =>
          have f3 : decide (agR0 l0_0 j ≤ 1099511627776) = false := decide_eq_false c3
          have HF := Lib.hid (hF (by rw [hsj, f1, f2, f3]; rfl))
          clear hsj hF c1 c2 c3
          generalize szR l0_0 j = s at *
          generalize agR0 l0_0 j = a at *
          (go_wp2; repeat (go_step3; try (go_wp2)))
          repeat (go_quiet (fail); try (go_wp2; repeat (go_step3; try (go_wp2))))
          rw [Exit.noGoto_ret]
          go_ret
          exact ⟨by rw [HF.out]; rfl, by repeat (first | (with_reducible first | exact HB.out | apply below_alloc | apply pw_below_drewN | apply below_drew1 | refine below_set ?_ HSZ.out) | exact HB.out)⟩
        have f3 : decide (agR0 l0_0 j ≤ 1099511627776) = true := decide_eq_true c3
        by_cases hj0 : j = 0
        case pos =>
          have HN := Lib.hid (show stepR l0_0 j = true by rw [hsj, f1, f2, f3, decide_eq_true hj0]; rfl)
          have q4 : decide ((0 : Int) < (j : Int)) = false := decide_eq_false (by omega)
          have q5 : decide (0 < j) = false := decide_eq_false (by omega)
          clear hsj hF c1 c2 c3 hj0
          generalize szR l0_0 j = s at *
          generalize agR0 l0_0 j = a at *
          (go_wp2; repeat (go_step3; try (go_wp2)))
          exact ⟨⟨j + 1, by go_num, rfl, hlt, by repeat (first | (with_reducible first | exact HB.out | apply below_alloc | apply pw_below_drewN | apply below_drew1 | refine below_set ?_ HSZ.out) | exact HB.out), blk_alloc HXX.out _, fun q hq => by
            rcases Nat.lt_or_ge q j with h | h
            · exact HS.out q h
            · obtain rfl : q = j := by omega
              exact HN.out⟩, by simp [intOf]; omega⟩
        have q4 : decide ((0 : Int) < (j : Int)) = true := decide_eq_true (by omega)
        have q5 : decide (0 < j) = true := decide_eq_true (by omega)
        have q6 : IntKind.i64.wrap ((j : Int) - 1) = ((j - 1 : Nat) : Int) := by rw [IntKind.wrap_i64]; omega
        have q7 : (0 ≤ ((j - 1 : Nat) : Int)) = True := eq_true (by omega)
        have q8 : (((j - 1 : Nat) : Int) < (l0_0.length : Int)) = True := eq_true (by omega)
        obtain ⟨ad3, ha3, hv0, hv1⟩ := at_T67 HG.out ((j - 1 : Nat) : Int) (by omega) (by omega)
        obtain rfl : ad = ad3 := by injection ha3
        simp only [Int.toNat_natCast] at hv0 hv1
        replace hv0 := (HB.out.cell (World.block_lt_of_cell? w _ hv0)).trans hv0
        replace hv1 := (HB.out.cell (World.block_lt_of_cell? w _ hv1)).trans hv1
        rw [show (rd_T67 l0_0 ((j - 1 : Nat) : Int)).f0 = szR l0_0 (j - 1) from rfl] at hv0
        rw [show (rd_T67 l0_0 ((j - 1 : Nat) : Int)).f1 = agR0 l0_0 (j - 1) from rfl] at hv1
        have hs1 : ¬ szR l0_0 (j - 1) = 0 := by
          have := HS.out (j - 1) (by omega)
          unfold stepR at this
          rw [Bool.and_eq_true, decide_eq_true_iff] at this
          have := this.1
          omega
        have f5 : (szR l0_0 (j - 1) == 0) = false := beq_eq_false_iff_ne.mpr hs1
        by_cases c4 : szR l0_0 (j - 1) < szR l0_0 j
        case neg =>
          have f6 : decide (szR l0_0 (j - 1) < szR l0_0 j) = false := decide_eq_false c4
          have HF := Lib.hid (hF (by rw [hsj, f1, f2, f3, decide_eq_false hj0, f6]; rfl))
          clear hsj hF c1 c2 c3 c4
          generalize szR l0_0 j = s at *
          generalize agR0 l0_0 j = a at *
          generalize szR l0_0 (j - 1) = s' at *
          generalize agR0 l0_0 (j - 1) = a' at *
          have hA := fun (x : Addr) (u : Value) (h : wr.cell? x = some u) => ((below_alloc (Below.refl wr.heap.size wr) (.cells #[.int .i64 s, .int .i64 a] 67)).cell (World.block_lt_of_cell? wr _ h)).trans h
          have hk0' := hA _ _ hk0; have hk1' := hA _ _ hk1; have hv0' := hA _ _ hv0; have hv1' := hA _ _ hv1
          have hg0 := (blk_cell (blk_new wr (.cells #[.int .i64 s, .int .i64 a] 67)) 0).trans (show _ = some (Value.int .i64 s) from rfl); have hg1 := (blk_cell (blk_new wr (.cells #[.int .i64 s, .int .i64 a] 67)) 1).trans (show _ = some (Value.int .i64 a) from rfl)
          have hn0 := (blk_cell (blk_alloc (blk_new wr (.cells #[.int .i64 s, .int .i64 a] 67)) (.cells #[.int .i64 s', .int .i64 a'] 67)) 0).trans (show _ = some (Value.int .i64 s) from rfl); have hn1 := (blk_cell (blk_alloc (blk_new wr (.cells #[.int .i64 s, .int .i64 a] 67)) (.cells #[.int .i64 s', .int .i64 a'] 67)) 1).trans (show _ = some (Value.int .i64 a) from rfl)
          have hm0 := (blk_cell (blk_new (wr.alloc (.cells #[.int .i64 s, .int .i64 a] 67)) (.cells #[.int .i64 s', .int .i64 a'] 67)) 0).trans (show _ = some (Value.int .i64 s') from rfl); have hm1 := (blk_cell (blk_new (wr.alloc (.cells #[.int .i64 s, .int .i64 a] 67)) (.cells #[.int .i64 s', .int .i64 a'] 67)) 1).trans (show _ = some (Value.int .i64 a') from rfl)
          clear hA
          (go_wp2; repeat (go_step3; try (go_wp2)))
          repeat (go_quiet (fail); try (go_wp2; repeat (go_step3; try (go_wp2))))
          rw [Exit.noGoto_ret]
          go_ret
          exact ⟨by rw [HF.out]; rfl, by repeat (first | (with_reducible first | exact HB.out | apply below_alloc | apply pw_below_drewN | apply below_drew1 | refine below_set ?_ HSZ.out) | exact HB.out)⟩
        have f6 : decide (szR l0_0 (j - 1) < szR l0_0 j) = true := decide_eq_true c4
        by_cases c5 : Int.tmod (szR l0_0 j) (szR l0_0 (j - 1)) = 0
        case neg =>
          have f7 : (Int.tmod (szR l0_0 j) (szR l0_0 (j - 1)) == 0) = false := beq_eq_false_iff_ne.mpr c5
          have HF := Lib.hid (hF (by rw [hsj, f1, f2, f3, decide_eq_false hj0, f6, decide_eq_false c5]; rfl))
          clear hsj hF c1 c2 c3 c4 c5
          generalize szR l0_0 j = s at *
          generalize agR0 l0_0 j = a at *
          generalize szR l0_0 (j - 1) = s' at *
          generalize agR0 l0_0 (j - 1) = a' at *
          have hA := fun (x : Addr) (u : Value) (h : wr.cell? x = some u) => ((below_alloc (Below.refl wr.heap.size wr) (.cells #[.int .i64 s, .int .i64 a] 67)).cell (World.block_lt_of_cell? wr _ h)).trans h
          have hk0' := hA _ _ hk0; have hk1' := hA _ _ hk1; have hv0' := hA _ _ hv0; have hv1' := hA _ _ hv1
          have hg0 := (blk_cell (blk_new wr (.cells #[.int .i64 s, .int .i64 a] 67)) 0).trans (show _ = some (Value.int .i64 s) from rfl); have hg1 := (blk_cell (blk_new wr (.cells #[.int .i64 s, .int .i64 a] 67)) 1).trans (show _ = some (Value.int .i64 a) from rfl)
          have hn0 := (blk_cell (blk_alloc (blk_new wr (.cells #[.int .i64 s, .int .i64 a] 67)) (.cells #[.int .i64 s', .int .i64 a'] 67)) 0).trans (show _ = some (Value.int .i64 s) from rfl); have hn1 := (blk_cell (blk_alloc (blk_new wr (.cells #[.int .i64 s, .int .i64 a] 67)) (.cells #[.int .i64 s', .int .i64 a'] 67)) 1).trans (show _ = some (Value.int .i64 a) from rfl)
          have hm0 := (blk_cell (blk_new (wr.alloc (.cells #[.int .i64 s, .int .i64 a] 67)) (.cells #[.int .i64 s', .int .i64 a'] 67)) 0).trans (show _ = some (Value.int .i64 s') from rfl); have hm1 := (blk_cell (blk_new (wr.alloc (.cells #[.int .i64 s, .int .i64 a] 67)) (.cells #[.int .i64 s', .int .i64 a'] 67)) 1).trans (show _ = some (Value.int .i64 a') from rfl)
          clear hA
          (go_wp2; repeat (go_step3; try (go_wp2)))
          repeat (go_quiet (fail); try (go_wp2; repeat (go_step3; try (go_wp2))))
          rw [Exit.noGoto_ret]
          go_ret
          exact ⟨by rw [HF.out]; rfl, by repeat (first | (with_reducible first | exact HB.out | apply below_alloc | apply pw_below_drewN | apply below_drew1 | refine below_set ?_ HSZ.out) | exact HB.out)⟩
        have f7 : (Int.tmod (szR l0_0 j) (szR l0_0 (j - 1)) == 0) = true := beq_iff_eq.mpr c5
        by_cases c6 : agR0 l0_0 (j - 1) ≤ agR0 l0_0 j
        case neg =>
          have f8 : decide (agR0 l0_0 (j - 1) ≤ agR0 l0_0 j) = false := decide_eq_false c6
          have HF := Lib.hid (hF (by rw [hsj, f1, f2, f3, decide_eq_false hj0, f6, decide_eq_true c5, f8]; rfl))
          clear hsj hF c1 c2 c3 c4 c5 c6
          generalize szR l0_0 j = s at *
          generalize agR0 l0_0 j = a at *
          generalize szR l0_0 (j - 1) = s' at *
          generalize agR0 l0_0 (j - 1) = a' at *
          have hA := fun (x : Addr) (u : Value) (h : wr.cell? x = some u) => ((below_alloc (Below.refl wr.heap.size wr) (.cells #[.int .i64 s, .int .i64 a] 67)).cell (World.block_lt_of_cell? wr _ h)).trans h
          have hk0' := hA _ _ hk0; have hk1' := hA _ _ hk1; have hv0' := hA _ _ hv0; have hv1' := hA _ _ hv1
          have hg0 := (blk_cell (blk_new wr (.cells #[.int .i64 s, .int .i64 a] 67)) 0).trans (show _ = some (Value.int .i64 s) from rfl); have hg1 := (blk_cell (blk_new wr (.cells #[.int .i64 s, .int .i64 a] 67)) 1).trans (show _ = some (Value.int .i64 a) from rfl)
          have hn0 := (blk_cell (blk_alloc (blk_new wr (.cells #[.int .i64 s, .int .i64 a] 67)) (.cells #[.int .i64 s', .int .i64 a'] 67)) 0).trans (show _ = some (Value.int .i64 s) from rfl); have hn1 := (blk_cell (blk_alloc (blk_new wr (.cells #[.int .i64 s, .int .i64 a] 67)) (.cells #[.int .i64 s', .int .i64 a'] 67)) 1).trans (show _ = some (Value.int .i64 a) from rfl)
          have hm0 := (blk_cell (blk_new (wr.alloc (.cells #[.int .i64 s, .int .i64 a] 67)) (.cells #[.int .i64 s', .int .i64 a'] 67)) 0).trans (show _ = some (Value.int .i64 s') from rfl); have hm1 := (blk_cell (blk_new (wr.alloc (.cells #[.int .i64 s, .int .i64 a] 67)) (.cells #[.int .i64 s', .int .i64 a'] 67)) 1).trans (show _ = some (Value.int .i64 a') from rfl)
          clear hA
          (go_wp2; repeat (go_step3; try (go_wp2)))
          repeat (go_quiet (fail); try (go_wp2; repeat (go_step3; try (go_wp2))))
          rw [Exit.noGoto_ret]
          go_ret
          exact ⟨by rw [HF.out]; rfl, by repeat (first | (with_reducible first | exact HB.out | apply below_alloc | apply pw_below_drewN | apply below_drew1 | refine below_set ?_ HSZ.out) | exact HB.out)⟩
        have f8 : decide (agR0 l0_0 (j - 1) ≤ agR0 l0_0 j) = true := decide_eq_true c6
        have HN := Lib.hid (show stepR l0_0 j = true by rw [hsj, f1, f2, f3, decide_eq_false hj0, f6, decide_eq_true c5, f8]; rfl)
        clear hsj hF c1 c2 c3 c4 c5 c6
        generalize szR l0_0 j = s at *
        generalize agR0 l0_0 j = a at *
        generalize szR l0_0 (j - 1) = s' at *
        generalize agR0 l0_0 (j - 1) = a' at *
        have hA := fun (x : Addr) (u : Value) (h : wr.cell? x = some u) => ((below_alloc (Below.refl wr.heap.size wr) (.cells #[.int .i64 s, .int .i64 a] 67)).cell (World.block_lt_of_cell? wr _ h)).trans h
        have hk0' := hA _ _ hk0; have hk1' := hA _ _ hk1; have hv0' := hA _ _ hv0; have hv1' := hA _ _ hv1
        have hg0 := (blk_cell (blk_new wr (.cells #[.int .i64 s, .int .i64 a] 67)) 0).trans (show _ = some (Value.int .i64 s) from rfl); have hg1 := (blk_cell (blk_new wr (.cells #[.int .i64 s, .int .i64 a] 67)) 1).trans (show _ = some (Value.int .i64 a) from rfl)
        have hn0 := (blk_cell (blk_alloc (blk_new wr (.cells #[.int .i64 s, .int .i64 a] 67)) (.cells #[.int .i64 s', .int .i64 a'] 67)) 0).trans (show _ = some (Value.int .i64 s) from rfl); have hn1 := (blk_cell (blk_alloc (blk_new wr (.cells #[.int .i64 s, .int .i64 a] 67)) (.cells #[.int .i64 s', .int .i64 a'] 67)) 1).trans (show _ = some (Value.int .i64 a) from rfl)
        have hm0 := (blk_cell (blk_new (wr.alloc (.cells #[.int .i64 s, .int .i64 a] 67)) (.cells #[.int .i64 s', .int .i64 a'] 67)) 0).trans (show _ = some (Value.int .i64 s') from rfl); have hm1 := (blk_cell (blk_new (wr.alloc (.cells #[.int .i64 s, .int .i64 a] 67)) (.cells #[.int .i64 s', .int .i64 a'] 67)) 1).trans (show _ = some (Value.int .i64 a') from rfl)
        clear hA
        (go_wp2; repeat (go_step3; try (go_wp2)))
        exact ⟨⟨j + 1, by go_num, rfl, hlt, by repeat (first | (with_reducible first | exact HB.out | apply below_alloc | apply pw_below_drewN | apply below_drew1 | refine below_set ?_ HSZ.out) | exact HB.out), blk_alloc (blk_alloc HXX.out _) _, fun q hq => by
          rcases Nat.lt_or_ge q j with h | h
          · exact HS.out q h
          · obtain rfl : q = j := by omega
            exact HN.out⟩, by simp [intOf]; omega⟩
      · obtain rfl : j = l0_0.length := by omega
        have q1 : decide ((l0_0.length : Int) < (l0_0.length : Int)) = false := decide_eq_false (by omega)
        have q6 : IntKind.i64.wrap ((l0_0.length : Int) - 1) = ((l0_0.length - 1 : Nat) : Int) := by
          have := HG.out.2.1
          rw [IntKind.wrap_i64]; omega
        have q7 : (0 ≤ ((l0_0.length - 1 : Nat) : Int)) = True := eq_true (by omega)
        have q8 : (((l0_0.length - 1 : Nat) : Int) < (l0_0.length : Int)) = True := eq_true (by omega)
        obtain ⟨ad3, ha3, hv0, hv1⟩ := at_T67 HG.out ((l0_0.length - 1 : Nat) : Int) (by omega) (by omega)
        obtain rfl : ad = ad3 := by injection ha3
        simp only [Int.toNat_natCast] at hv0 hv1
        replace hv0 := (HB.out.cell (World.block_lt_of_cell? w _ hv0)).trans hv0
        replace hv1 := (HB.out.cell (World.block_lt_of_cell? w _ hv1)).trans hv1
        rw [show (rd_T67 l0_0 ((l0_0.length - 1 : Nat) : Int)).f1 = agR0 l0_0 (l0_0.length - 1) from rfl] at hv1
        have HF : Hid (rightR l0_0 a0_1 = (decide (agR0 l0_0 (l0_0.length - 1) ≤ a0_1) && decide (a0_1 ≤ 2199023255552))) := Lib.hid (by
          unfold rightR
          rw [decide_eq_true (show 1 ≤ l0_0.length by omega), decide_eq_true (show l0_0.length ≤ 4 by omega), decide_eq_true h0, List.all_eq_true.2 (fun q hq => HS.out q (List.mem_range.1 hq))]
          rfl)
        have HSZ := Lib.hid (below_size HB.out)
        clear hv0
        by_cases c1 : agR0 l0_0 (l0_0.length - 1) ≤ a0_1
        case neg =>
          have f1 : decide (agR0 l0_0 (l0_0.length - 1) ≤ a0_1) = false := decide_eq_false c1
          rw [f1, Bool.false_and] at HF
          generalize agR0 l0_0 (l0_0.length - 1) = a at *
          (go_wp2; repeat (go_step3; try (go_wp2)))
          repeat (go_quiet (fail); try (go_wp2; repeat (go_step3; try (go_wp2))))
          rw [Exit.noGoto_ret]
          go_ret
          exact ⟨by rw [HF.out]; rfl, by repeat (first | (with_reducible first | exact HB.out | apply below_alloc | apply pw_below_drewN | apply below_drew1 | refine below_set ?_ HSZ.out) | exact HB.out)⟩
        case pos =>
          have f1 : decide (agR0 l0_0 (l0_0.length - 1) ≤ a0_1) = true := decide_eq_true c1
          rw [f1, Bool.true_and] at HF
          generalize agR0 l0_0 (l0_0.length - 1) = a at *
          (go_wp2; repeat (go_step3; try (go_wp2)))
          repeat (go_quiet (fail); try (go_wp2; repeat (go_step3; try (go_wp2))))
          rw [Exit.noGoto_ret]
          go_ret
          exact ⟨by rw [HF.out]; rfl, by repeat (first | (with_reducible first | exact HB.out | apply below_alloc | apply pw_below_drewN | apply below_drew1 | refine below_set ?_ HSZ.out) | exact HB.out)⟩
end Go.Proofs.Ytjemmmemenljbaa.PFold
end
