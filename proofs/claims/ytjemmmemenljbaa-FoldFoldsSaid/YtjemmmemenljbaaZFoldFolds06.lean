import Derived.Test.YtjemmmemenljbaaZFoldFolds03
section
namespace Go.Proofs.Ytjemmmemenljbaa.PFold
open Go.RowKit Go.Proofs.YtjemmmemenljbaaW.PrintWords Go.Proofs.YtjemmmemenljbaaW.PrintLast Go.Proofs.YtjemmmemenljbaaW.PrintMore
attribute [local go_sem] max2_int min2_int max_two min_two max_three min_three max_four min_four   -- for this text's walks alone
set_option linter.unusedVariables false
set_option linter.unusedSimpArgs false
set_option maxHeartbeats 8000000
set_option maxRecDepth 100000
mutual
def rickyardref03_Right.j0 : Nat → Bool → List (S67) → Int → Option (Bool)
 | 0, _, _, _ => none
 | k + 1, x14, x316000, x316001 => if x14 = true then (some false) else (rickyardref03_Right.l0 k 0 x316000 x316001)
def rickyardref03_Right.l0 : Nat → Int → List (S67) → Int → Option (Bool)
 | 0, _, _, _ => none
 | k + 1, x3, x316000, x316001 => if x3 < (x316000.length : Int) then (if 0 ≤ x3 then (if ((rd_T67 x316000 x3).f0) < 1 then (rickyardref03_Right.j2 k x3 true x316000 x316001 ((rd_T67 x316000 x3).f0) ((rd_T67 x316000 x3).f1)) else (if ((rd_T67 x316000 x3).f0) > 1099511627776 then (rickyardref03_Right.j2 k x3 true x316000 x316001 ((rd_T67 x316000 x3).f0) ((rd_T67 x316000 x3).f1)) else (if ((rd_T67 x316000 x3).f1) < 0 then (rickyardref03_Right.j2 k x3 true x316000 x316001 ((rd_T67 x316000 x3).f0) ((rd_T67 x316000 x3).f1)) else (if ((rd_T67 x316000 x3).f1) > 1099511627776 then (rickyardref03_Right.j2 k x3 true x316000 x316001 ((rd_T67 x316000 x3).f0) ((rd_T67 x316000 x3).f1)) else (if x3 = 0 then (rickyardref03_Right.j2 k x3 (((rd_T67 x316000 x3).f1) != 0) x316000 x316001 ((rd_T67 x316000 x3).f0) ((rd_T67 x316000 x3).f1)) else (rickyardref03_Right.j2 k x3 false x316000 x316001 ((rd_T67 x316000 x3).f0) ((rd_T67 x316000 x3).f1))))))) else (none)) else (if 0 ≤ (wrap64 ((x316000.length : Int) - 1)) then (if (wrap64 ((x316000.length : Int) - 1)) < (x316000.length : Int) then (if x316001 ≥ ((rd_T67 x316000 (wrap64 ((x316000.length : Int) - 1))).f1) then (some (decide (x316001 ≤ 2199023255552))) else (some false)) else (none)) else (none))
def rickyardref03_Right.j2 : Nat → Int → Bool → List (S67) → Int → Int → Int → Option (Bool)
 | 0, _, _, _, _, _, _ => none
 | k + 1, x3, x53, x316000, x316001, x319000, x319001 => if x53 = true then (some false) else (if x3 > 0 then (if 0 ≤ (wrap64 (x3 - 1)) then (if (wrap64 (x3 - 1)) < (x316000.length : Int) then (if ((rd_T67 x316000 (wrap64 (x3 - 1))).f0) = 0 then (none) else (if (wrap64 (Int.tdiv x319000 ((rd_T67 x316000 (wrap64 (x3 - 1))).f0))) < 2 then (some false) else (if (Int.tmod x319000 ((rd_T67 x316000 (wrap64 (x3 - 1))).f0)) = 0 then (if x319001 < ((rd_T67 x316000 (wrap64 (x3 - 1))).f1) then (some false) else (rickyardref03_Right.l0 k (wrap64 (x3 + 1)) x316000 x316001)) else (some false)))) else (none)) else (none)) else (rickyardref03_Right.l0 k (wrap64 (x3 + 1)) x316000 x316001))
end
def rickyardref03_Right.f (k : Nat) (l0_0 : List (S67)) (a0_1 : Int) : Option (Bool) := if (l0_0.length : Int) < 1 then (rickyardref03_Right.j0 k true l0_0 a0_1) else (rickyardref03_Right.j0 k (decide ((l0_0.length : Int) > 4)) l0_0 a0_1)
theorem rickyardref03_Right.calls (k : Nat) (A0_0 : Option Addr) (c0_0 : Nat) (l0_0 : List (S67)) (a0_1 : Int) (r : Bool) (w : World) (hr0_0 : Kd.C k67 w A0_0 l0_0.length l0_0) (hc0_0 : l0_0.length ≤ c0_0) (h : rickyardref03_Right.f k l0_0 a0_1 = some r) :
  Calls Try.prog 56 #[.agg #[.slice A0_0 l0_0.length c0_0, .int .i64 a0_1]] w fun e w' => e = .returned (.bool r) ∧ Below w.heap.size w w' := by
 have hu24 := Try.underlying24
 have hu67 := Try.underlying67
 have HR0_0 := Aside0.mk hr0_0
 have HC0_0 := Aside0.mk hc0_0
 clear hr0_0 hc0_0
 have HB := Aside0.mk (Below.refl w.heap.size w)
 have H : (if (l0_0.length : Int) < 1 then (rickyardref03_Right.j0 k true l0_0 a0_1) else (rickyardref03_Right.j0 k (decide ((l0_0.length : Int) > 4)) l0_0 a0_1)) = some r := h
 clear h
 have HC2 := Aside0.mk H
 clear H
 go_enter Try.func56, Try.ntmps56
 go_upto_region 1 with (first | ((with_reducible refine gate_dst (N := 1) rfl ?_); (try (refine gate_guard (by rfl) ?_; dsimp only)); refine boxA 1 #[.slice A0_0 l0_0.length c0_0, .int .i64 a0_1] 24 ?_; intro gb315 hg w3 hbox hb; have BK315 := Aside0.mk (hbox); have GE315 := ge1 hg (belA HB.out); replace HB := bst HB hb; clear hb hbox hg))
 repeat (go_quiet (fail); go_upto_region 1 with (first | ((with_reducible refine gate_dst (N := 1) rfl ?_); (try (refine gate_guard (by rfl) ?_; dsimp only)); refine boxA 1 #[.slice A0_0 l0_0.length c0_0, .int .i64 a0_1] 24 ?_; intro gb315 hg w3 hbox hb; have BK315 := Aside0.mk (hbox); have GE315 := ge1 hg (belA HB.out); replace HB := bst HB hb; clear hb hbox hg)))
 (try simp only [Act.put, List.setIfInBounds_toArray, List.set_cons_zero, List.set_cons_succ])
 go_cut [14] (fun v14 wc => ∃ (kq : Nat) (x14_1 : Bool), v14 = .bool x14_1 ∧ Aside0 (rickyardref03_Right.j0 kq x14_1 l0_0 a0_1 = some r) ∧ Aside0 (kq ≤ k) ∧ Aside0 (wc.heap[gb315]? = some (.cells #[(.slice A0_0 l0_0.length c0_0), .int .i64 a0_1] 24 (0, 0))) ∧ Aside0 (Below w.heap.size w wc))
 case first =>
  have H := HC2.out
  clear HC2
  by_cases c4 : (l0_0.length : Int) < 1
  rotate_left
  ·rw [if_neg c4] at H
   have c4b0 := decide_eq_false c4
   have c4b1 : decide (l0_0.length < 1) = false := decide_eq_false (by omega)
   clear c4
   (first | rw [c4b0] | (simp only [i64_w, i32_w]; rw [c4b0]) | skip)
   have H' := Aside0.mk H
   clear H
   obtain ⟨hcz6_0, hcz6_1, hfz6_0, hfz6_1⟩ := blk2 BK315
   go_wp2
   repeat (go_quiet (fail); try go_wp2)
   go_meet
   case rel => exact ⟨_, (decide ((l0_0.length : Int) > 4)), relA, H', ⟨by first | omega | exact Nat.le_refl _⟩, ⟨blkA BK315.out⟩, ⟨belB HB.out GE315.out⟩⟩
  rw [if_pos c4] at H
  have c4b0 := decide_eq_true c4
  have c4b1 : decide (l0_0.length < 1) = true := decide_eq_true (by omega)
  clear c4
  (first | rw [c4b0] | (simp only [i64_w, i32_w]; rw [c4b0]) | skip)
  have H' := Aside0.mk H
  clear H
  obtain ⟨hcz5_0, hcz5_1, hfz5_0, hfz5_1⟩ := blk2 BK315
  go_wp2
  repeat (go_quiet (fail); try go_wp2)
  go_meet
  case rel => exact ⟨_, (true), relA, H', ⟨by first | omega | exact Nat.le_refl _⟩, ⟨blkA BK315.out⟩, ⟨belB HB.out GE315.out⟩⟩
 case rest =>
  clear HC2
  try clear p2
  try clear c4
  try clear c4b0
  try clear c4b1
  try clear c5
  try clear hcz5_0 hcz5_1
  try clear hcz6_0 hcz6_1
  try clear hfz5_0 hfz5_1
  try clear hfz6_0 hfz6_1
  obtain ⟨kq, x14_1, rfl, HA, HJ1, BK315, HB⟩ := hcut
  cases kq with
  | zero => exact absurd HA.out (by simp [rickyardref03_Right.j0])
  | succ kj1 =>
   have H := HA.out
   clear HA
   simp only [rickyardref03_Right.j0] at H
   by_cases c7 : x14_1 = true
   ·subst c7
    have H1 : (some false) = some r := by rw [if_pos rfl] at H; exact H
    clear H
    have H := H1
    clear H1
    obtain rfl := Option.some.inj H
    go_wp2
    repeat (go_quiet (fail); try go_wp2)
    go_ret
    exact ⟨ret1, belB HB.out GE315.out⟩
   replace c7 := Bool.eq_false_iff.mpr c7
   subst c7
   have H1 : (rickyardref03_Right.l0 kj1 0 l0_0 a0_1) = some r := by rw [if_neg (show ¬ (false = true) by decide)] at H; exact H
   clear H
   have H := H1
   clear H1
   have H' := Aside0.mk H
   clear H
   go_wp2
   repeat (go_quiet (fail); try go_wp2)
   go_loopg [3] kj1 (fun kq v3 w' => ∃ (x3_2 : Int), v3 = .int .i64 x3_2 ∧ Aside0 (rickyardref03_Right.l0 kq x3_2 l0_0 a0_1 = some r) ∧ Aside0 (kq ≤ kj1) ∧ Aside0 (w'.heap[gb315]? = some (.cells #[(.slice A0_0 l0_0.length c0_0), .int .i64 a0_1] 24 (0, 0))) ∧ Aside0 (Below w.heap.size w w'))
   case atStart => exact ⟨(0), relA, H', ⟨Nat.le_refl _⟩, ⟨blkA BK315.out⟩, ⟨belB HB.out GE315.out⟩⟩
   case round =>
    clear H'
    try clear p2
    try clear c4
    try clear c4b0
    try clear c4b1
    try clear c5
    try clear c7
    try clear hcz5_0 hcz5_1
    try clear hcz6_0 hcz6_1
    try clear hfz5_0 hfz5_1
    try clear hfz6_0 hfz6_1
    try clear p2
    obtain ⟨x3_2, rfl, HA, HK2, BK315, HB⟩ := hrel
    cases gk with
    | zero => exact absurd HA.out (by simp [rickyardref03_Right.l0])
    | succ k2 =>
     have H := HA.out
     clear HA
     simp only [rickyardref03_Right.l0] at H
     by_cases c8 : x3_2 < (l0_0.length : Int)
     ·rw [if_pos c8] at H
      have c8b0 := decide_eq_true c8
      clear c8
      by_cases c9 : 0 ≤ x3_2
      ·rw [if_pos c9] at H
       have c9b0 := decide_eq_true c9
       clear c9
       have HC10 := Aside0.mk H
       clear H
       obtain ⟨hcz11_0, hcz11_1, hfz11_0, hfz11_1⟩ := blk2 BK315
       have p317 : 0 ≤ (x3_2 : Int) := of_decide_eq_true asmA
       have q317 : x3_2 < (l0_0.length : Int) := of_decide_eq_true asmA
       obtain ⟨ad317, e317, hx317_0, hx317_1⟩ := at_T67 HR0_0.out x3_2 p317 q317
       cases e317
       replace hx317_0 := cbx HB hx317_0
       replace hx317_1 := cbx HB hx317_1
       replace p317 := eq_true p317
       replace q317 := eq_true q317
       go_upto_region 7 with (first | ((with_reducible refine gate_dst (N := 4) rfl ?_); (try (refine gate_guard (by rfl) ?_; dsimp only)); refine boxA 4 #[.int .i64 0, .int .i64 0] 67 ?_; intro gb318 hg w12 hbox hb; have BK318 := Aside0.mk (hbox); have GW318 := ge1 hg (belB HB.out GE315.out); have GE318 := GW318; have NB315_318 := neL hg BK315; have NB318_315 := neR hg BK315; replace BK315 := blkB BK315 hb; replace HB := bs2 HB GE315 hb; clear hb hbox hg; have hnb13 := NB318_315.out; have hnc13 := NB315_318.out; obtain ⟨hcz14_0, hcz14_1, hfz14_0, hfz14_1⟩ := blk2 BK318))
       repeat (go_quiet (fail); go_upto_region 7 with (first | ((with_reducible refine gate_dst (N := 4) rfl ?_); (try (refine gate_guard (by rfl) ?_; dsimp only)); refine boxA 4 #[.int .i64 0, .int .i64 0] 67 ?_; intro gb318 hg w12 hbox hb; have BK318 := Aside0.mk (hbox); have GW318 := ge1 hg (belB HB.out GE315.out); have GE318 := GW318; have NB315_318 := neL hg BK315; have NB318_315 := neR hg BK315; replace BK315 := blkB BK315 hb; replace HB := bs2 HB GE315 hb; clear hb hbox hg; have hnb13 := NB318_315.out; have hnc13 := NB315_318.out; obtain ⟨hcz14_0, hcz14_1, hfz14_0, hfz14_1⟩ := blk2 BK318)))
       (try simp only [Act.put, List.setIfInBounds_toArray, List.set_cons_zero, List.set_cons_succ])
       go_cut [53] (fun v53 wc => ∃ (kq : Nat) (x53_9 : Bool), v53 = .bool x53_9 ∧ Aside0 (rickyardref03_Right.j2 kq x3_2 x53_9 l0_0 a0_1 ((rd_T67 l0_0 x3_2).f0) ((rd_T67 l0_0 x3_2).f1) = some r) ∧ Aside0 (kq ≤ k2) ∧ Aside0 (wc.heap[gb315]? = some (.cells #[(.slice (some ad317) l0_0.length c0_0), .int .i64 a0_1] 24 (0, 0))) ∧ Aside0 (wc.heap[gb318]? = some (.cells #[.int .i64 ((rd_T67 l0_0 x3_2).f0), .int .i64 ((rd_T67 l0_0 x3_2).f1)] 67 (0, 0))) ∧ Aside0 (Below w.heap.size w wc))
       case first =>
        have H := HC10.out
        clear HC10
        by_cases c15 : ((rd_T67 l0_0 x3_2).f0) < 1
        ·rw [if_pos c15] at H
         have c15b0 := decide_eq_true c15
         clear c15
         (first | rw [c15b0] | (simp only [i64_w, i32_w]; rw [c15b0]) | skip)
         have H' := Aside0.mk H
         clear H
         have hnb16 := NB318_315.out
         have hnc16 := NB315_318.out
         obtain ⟨hcz17_0, hcz17_1, hfz17_0, hfz17_1⟩ := blk2 BK318
         go_wp2
         repeat (go_quiet (fail); try go_wp2)
         go_meet
         case rel => exact ⟨_, (true), relA, H', ⟨by have := HJ1.out; have := HK2.out; first | omega | exact Nat.le_refl _⟩, ⟨putB BK315.out NB315_318.out⟩, ⟨putA BK318.out⟩, ⟨belC HB.out GE315.out GE318.out⟩⟩
        ·rw [if_neg c15] at H
         have c15b0 := decide_eq_false c15
         clear c15
         (first | rw [c15b0] | (simp only [i64_w, i32_w]; rw [c15b0]) | skip)
         by_cases c18 : ((rd_T67 l0_0 x3_2).f0) > 1099511627776
         ·rw [if_pos c18] at H
          have c18b0 := decide_eq_true c18
          clear c18
          have H' := Aside0.mk H
          clear H
          have hnb19 := NB318_315.out
          have hnc19 := NB315_318.out
          obtain ⟨hcz20_0, hcz20_1, hfz20_0, hfz20_1⟩ := blk2 BK318
          go_wp2
          repeat (go_quiet (fail); try go_wp2)
          go_meet
          case rel => exact ⟨_, (true), relA, H', ⟨by have := HJ1.out; have := HK2.out; first | omega | exact Nat.le_refl _⟩, ⟨putB BK315.out NB315_318.out⟩, ⟨putA BK318.out⟩, ⟨belC HB.out GE315.out GE318.out⟩⟩
         ·rw [if_neg c18] at H
          have c18b0 := decide_eq_false c18
          clear c18
          by_cases c21 : ((rd_T67 l0_0 x3_2).f1) < 0
          ·rw [if_pos c21] at H
           have c21b0 := decide_eq_true c21
           clear c21
           have H' := Aside0.mk H
           clear H
           have hnb22 := NB318_315.out
           have hnc22 := NB315_318.out
           obtain ⟨hcz23_0, hcz23_1, hfz23_0, hfz23_1⟩ := blk2 BK318
           go_wp2
           repeat (go_quiet (fail); try go_wp2)
           go_meet
           case rel => exact ⟨_, (true), relA, H', ⟨by have := HJ1.out; have := HK2.out; first | omega | exact Nat.le_refl _⟩, ⟨putB BK315.out NB315_318.out⟩, ⟨putA BK318.out⟩, ⟨belC HB.out GE315.out GE318.out⟩⟩
          ·rw [if_neg c21] at H
           have c21b0 := decide_eq_false c21
           clear c21
           by_cases c24 : ((rd_T67 l0_0 x3_2).f1) > 1099511627776
           ·rw [if_pos c24] at H
            have c24b0 := decide_eq_true c24
            clear c24
            have H' := Aside0.mk H
            clear H
            have hnb25 := NB318_315.out
            have hnc25 := NB315_318.out
            obtain ⟨hcz26_0, hcz26_1, hfz26_0, hfz26_1⟩ := blk2 BK318
            go_wp2
            repeat (go_quiet (fail); try go_wp2)
            go_meet
            case rel => exact ⟨_, (true), relA, H', ⟨by have := HJ1.out; have := HK2.out; first | omega | exact Nat.le_refl _⟩, ⟨putB BK315.out NB315_318.out⟩, ⟨putA BK318.out⟩, ⟨belC HB.out GE315.out GE318.out⟩⟩
           ·rw [if_neg c24] at H
            have c24b0 := decide_eq_false c24
            clear c24
            by_cases c27 : x3_2 = 0
            ·rw [if_pos c27] at H
             have c27b0 := beq_iff_eq.mpr c27
             have c27b1 := bne_eq_false_iff_eq.mpr c27
             clear c27
             have H' := Aside0.mk H
             clear H
             have hnb28 := NB318_315.out
             have hnc28 := NB315_318.out
             obtain ⟨hcz29_0, hcz29_1, hfz29_0, hfz29_1⟩ := blk2 BK318
             go_wp2
             repeat (go_quiet (fail); try go_wp2)
             go_meet
             case rel => exact ⟨_, ((((rd_T67 l0_0 x3_2).f1) != 0)), relA, H', ⟨by have := HJ1.out; have := HK2.out; first | omega | exact Nat.le_refl _⟩, ⟨putB BK315.out NB315_318.out⟩, ⟨putA BK318.out⟩, ⟨belC HB.out GE315.out GE318.out⟩⟩
            ·rw [if_neg c27] at H
             have c27b0 := beq_eq_false_iff_ne.mpr c27
             have c27b1 := bne_iff_ne.mpr c27
             have H' := Aside0.mk H
             clear H
             have hnb30 := NB318_315.out
             have hnc30 := NB315_318.out
             obtain ⟨hcz31_0, hcz31_1, hfz31_0, hfz31_1⟩ := blk2 BK318
             go_wp2
             repeat (go_quiet (fail); try go_wp2)
             go_meet
             case rel => exact ⟨_, (false), relA, H', ⟨by have := HJ1.out; have := HK2.out; first | omega | exact Nat.le_refl _⟩, ⟨putB BK315.out NB315_318.out⟩, ⟨putA BK318.out⟩, ⟨belC HB.out GE315.out GE318.out⟩⟩
       case rest =>
        clear HC10
        try clear c1
        try clear c2
        try clear p2
        try clear c3
        try clear p3
        try clear q3
        try clear hx3
        try clear c4
        try clear c4b0
        try clear c4b1
        try clear c5
        try clear c7
        try clear c8
        try clear c8b0
        try clear c9
        try clear c9b0
        try clear c13
        try clear c15
        try clear c15b0
        try clear c16
        try clear c18
        try clear c18b0
        try clear c19
        try clear c21
        try clear c21b0
        try clear c22
        try clear c24
        try clear c24b0
        try clear c25
        try clear c27
        try clear c27b0
        try clear c27b1
        try clear c28
        try clear c30
        try clear p31
        try clear q31
        try clear hx31
        try clear hcz11_0 hcz11_1
        try clear hcz14_0 hcz14_1
        try clear hcz17_0 hcz17_1
        try clear hcz20_0 hcz20_1
        try clear hcz23_0 hcz23_1
        try clear hcz26_0 hcz26_1
        try clear hcz29_0 hcz29_1
        try clear hcz31_0 hcz31_1
        try clear hcz5_0 hcz5_1
        try clear hcz6_0 hcz6_1
        try clear hfz11_0 hfz11_1
        try clear hfz14_0 hfz14_1
        try clear hfz17_0 hfz17_1
        try clear hfz20_0 hfz20_1
        try clear hfz23_0 hfz23_1
        try clear hfz26_0 hfz26_1
        try clear hfz29_0 hfz29_1
        try clear hfz31_0 hfz31_1
        try clear hfz5_0 hfz5_1
        try clear hfz6_0 hfz6_1
        try clear hx317_0
        try clear hx317_1
        try clear p2
        try clear p317
        try clear q317
        obtain ⟨kq, x53_9, rfl, HA, HJ9, BK315, BK318, HB⟩ := hcut
        cases kq with
        | zero => exact absurd HA.out (by simp [rickyardref03_Right.j2])
        | succ kj9 =>
         have H := HA.out
         clear HA
         simp only [rickyardref03_Right.j2] at H
         by_cases c32 : x53_9 = true
         ·subst c32
          have H1 : (some false) = some r := by rw [if_pos rfl] at H; exact H
          clear H
          have H := H1
          clear H1
          obtain rfl := Option.some.inj H
          go_wp2
          repeat (go_quiet (fail); try go_wp2)
          go_ret
          exact ⟨ret1, belC HB.out GE315.out GE318.out⟩
         ·replace c32 := Bool.eq_false_iff.mpr c32
          subst c32
          have H1 : (if x3_2 > 0 then (if 0 ≤ (wrap64 (x3_2 - 1)) then (if (wrap64 (x3_2 - 1)) < (l0_0.length : Int) then (if ((rd_T67 l0_0 (wrap64 (x3_2 - 1))).f0) = 0 then (none) else (if (wrap64 (Int.tdiv ((rd_T67 l0_0 x3_2).f0) ((rd_T67 l0_0 (wrap64 (x3_2 - 1))).f0))) < 2 then (some false) else (if (Int.tmod ((rd_T67 l0_0 x3_2).f0) ((rd_T67 l0_0 (wrap64 (x3_2 - 1))).f0)) = 0 then (if ((rd_T67 l0_0 x3_2).f1) < ((rd_T67 l0_0 (wrap64 (x3_2 - 1))).f1) then (some false) else (rickyardref03_Right.l0 kj9 (wrap64 (x3_2 + 1)) l0_0 a0_1)) else (some false)))) else (none)) else (none)) else (rickyardref03_Right.l0 kj9 (wrap64 (x3_2 + 1)) l0_0 a0_1)) = some r := by rw [if_neg (show ¬ (false = true) by decide)] at H; exact H
          clear H
          have H := H1
          clear H1
          by_cases c33 : x3_2 > 0
          ·rw [if_pos c33] at H
           have c33b0 := decide_eq_true c33
           clear c33
           obtain ⟨ji34, hji34⟩ : ∃ j_ : Int, (wrap64 (x3_2 - 1)) = j_ := ⟨_, rfl⟩
           replace H : (if 0 ≤ (ji34) then (if (ji34) < (l0_0.length : Int) then (if ((rd_T67 l0_0 (ji34)).f0) = 0 then (none) else (if (wrap64 (Int.tdiv ((rd_T67 l0_0 x3_2).f0) ((rd_T67 l0_0 (ji34)).f0))) < 2 then (some false) else (if (Int.tmod ((rd_T67 l0_0 x3_2).f0) ((rd_T67 l0_0 (ji34)).f0)) = 0 then (if ((rd_T67 l0_0 x3_2).f1) < ((rd_T67 l0_0 (ji34)).f1) then (some false) else (rickyardref03_Right.l0 kj9 (wrap64 (x3_2 + 1)) l0_0 a0_1)) else (some false)))) else (none)) else (none)) = some r := by first | (rw [hji34] at H; exact H) | (simp only [hji34] at H ⊢; exact H)
           have hji34w : (IntKind.i64.wrap (x3_2 - 1)) = ji34 := (i64_w _).trans hji34
           by_cases c35 : 0 ≤ (ji34)
           ·rw [if_pos c35] at H
            have c35b0 := decide_eq_true c35
            clear c35
            by_cases c36 : (ji34) < (l0_0.length : Int)
            ·rw [if_pos c36] at H
             have c36b0 := decide_eq_true c36
             clear c36
             by_cases c37 : ((rd_T67 l0_0 (ji34)).f0) = 0
             ·rw [if_pos c37] at H
              exact absurd H (by simp)
             ·rw [if_neg c37] at H
              have c37b0 := beq_eq_false_iff_ne.mpr c37
              have c37b1 := bne_iff_ne.mpr c37
              by_cases c38 : (wrap64 (Int.tdiv ((rd_T67 l0_0 x3_2).f0) ((rd_T67 l0_0 (ji34)).f0))) < 2
              ·rw [if_pos c38] at H
               have c38b0 := decide_eq_true c38
               have c38b0w : decide ((IntKind.i64.wrap (Int.tdiv ((rd_T67 l0_0 x3_2).f0) ((rd_T67 l0_0 (ji34)).f0))) < 2) = true := by first | exact c38b0 | simpa only [i64_w] using c38b0
               clear c38
               obtain rfl := Option.some.inj H
               have hnb39 := NB318_315.out
               have hnc39 := NB315_318.out
               obtain ⟨hcz40_0, hcz40_1, hfz40_0, hfz40_1⟩ := blk2 BK318
               obtain ⟨hcz41_0, hcz41_1, hfz41_0, hfz41_1⟩ := blk2 BK315
               have p319 : 0 ≤ ((ji34) : Int) := of_decide_eq_true asmA
               have q319 : (ji34) < (l0_0.length : Int) := of_decide_eq_true asmA
               obtain ⟨ad319, e319, hx319_0, hx319_1⟩ := at_T67 HR0_0.out (ji34) p319 q319
               obtain rfl : ad317 = ad319 := (by injection e319)
               replace hx319_0 := cbx HB hx319_0
               replace hx319_1 := cbx HB hx319_1
               replace p319 := eq_true p319
               replace q319 := eq_true q319
               go_wp2
               repeat (go_quiet (fail); try go_wp2)
               go_ret
               exact ⟨by first | rfl | (simp [errW_none, errW_some] <;> rfl) | (simp only [← hji34]; first | rfl | (simp [errW_none, errW_some] <;> rfl)) | (simp [*, errW_none, errW_some] <;> rfl) | (exfalso; simp_all; done), belC HB.out GE315.out GE318.out⟩
              ·rw [if_neg c38] at H
               have c38b0 := decide_eq_false c38
               have c38b0w : decide ((IntKind.i64.wrap (Int.tdiv ((rd_T67 l0_0 x3_2).f0) ((rd_T67 l0_0 (ji34)).f0))) < 2) = false := by first | exact c38b0 | simpa only [i64_w] using c38b0
               clear c38
               by_cases c42 : (Int.tmod ((rd_T67 l0_0 x3_2).f0) ((rd_T67 l0_0 (ji34)).f0)) = 0
               ·rw [if_pos c42] at H
                have c42b0 := beq_iff_eq.mpr c42
                have c42b1 := bne_eq_false_iff_eq.mpr c42
                clear c42
                by_cases c43 : ((rd_T67 l0_0 x3_2).f1) < ((rd_T67 l0_0 (ji34)).f1)
                ·rw [if_pos c43] at H
                 have c43b0 := decide_eq_true c43
                 clear c43
                 obtain rfl := Option.some.inj H
                 have hnb44 := NB318_315.out
                 have hnc44 := NB315_318.out
                 obtain ⟨hcz45_0, hcz45_1, hfz45_0, hfz45_1⟩ := blk2 BK318
                 obtain ⟨hcz46_0, hcz46_1, hfz46_0, hfz46_1⟩ := blk2 BK315
                 have p319 : 0 ≤ ((ji34) : Int) := of_decide_eq_true asmA
                 have q319 : (ji34) < (l0_0.length : Int) := of_decide_eq_true asmA
                 obtain ⟨ad319, e319, hx319_0, hx319_1⟩ := at_T67 HR0_0.out (ji34) p319 q319
                 obtain rfl : ad317 = ad319 := (by injection e319)
                 replace hx319_0 := cbx HB hx319_0
                 replace hx319_1 := cbx HB hx319_1
                 replace p319 := eq_true p319
                 replace q319 := eq_true q319
                 have p320 : 0 ≤ ((ji34) : Int) := of_decide_eq_true asmA
                 have q320 : (ji34) < (l0_0.length : Int) := of_decide_eq_true asmA
                 obtain ⟨ad320, e320, hx320_0, hx320_1⟩ := at_T67 HR0_0.out (ji34) p320 q320
                 obtain rfl : ad317 = ad320 := (by injection e320)
                 replace hx320_0 := cbx HB hx320_0
                 replace hx320_1 := cbx HB hx320_1
                 replace p320 := eq_true p320
                 replace q320 := eq_true q320
                 have p321 : 0 ≤ ((ji34) : Int) := of_decide_eq_true asmA
                 have q321 : (ji34) < (l0_0.length : Int) := of_decide_eq_true asmA
                 obtain ⟨ad321, e321, hx321_0, hx321_1⟩ := at_T67 HR0_0.out (ji34) p321 q321
                 obtain rfl : ad317 = ad321 := (by injection e321)
                 replace hx321_0 := cbx HB hx321_0
                 replace hx321_1 := cbx HB hx321_1
                 replace p321 := eq_true p321
                 replace q321 := eq_true q321
                 go_wp2
                 repeat (go_quiet (fail); try go_wp2)
                 go_ret
                 exact ⟨by first | rfl | (simp [errW_none, errW_some] <;> rfl) | (simp only [← hji34]; first | rfl | (simp [errW_none, errW_some] <;> rfl)) | (simp [*, errW_none, errW_some] <;> rfl) | (exfalso; simp_all; done), belC HB.out GE315.out GE318.out⟩
                ·rw [if_neg c43] at H
                 have c43b0 := decide_eq_false c43
                 clear c43
                 have H' := Aside0.mk H
                 clear H
                 have hnb47 := NB318_315.out
                 have hnc47 := NB315_318.out
                 obtain ⟨hcz48_0, hcz48_1, hfz48_0, hfz48_1⟩ := blk2 BK318
                 obtain ⟨hcz49_0, hcz49_1, hfz49_0, hfz49_1⟩ := blk2 BK315
                 have p319 : 0 ≤ ((ji34) : Int) := of_decide_eq_true asmA
                 have q319 : (ji34) < (l0_0.length : Int) := of_decide_eq_true asmA
                 obtain ⟨ad319, e319, hx319_0, hx319_1⟩ := at_T67 HR0_0.out (ji34) p319 q319
                 obtain rfl : ad317 = ad319 := (by injection e319)
                 replace hx319_0 := cbx HB hx319_0
                 replace hx319_1 := cbx HB hx319_1
                 replace p319 := eq_true p319
                 replace q319 := eq_true q319
                 have p320 : 0 ≤ ((ji34) : Int) := of_decide_eq_true asmA
                 have q320 : (ji34) < (l0_0.length : Int) := of_decide_eq_true asmA
                 obtain ⟨ad320, e320, hx320_0, hx320_1⟩ := at_T67 HR0_0.out (ji34) p320 q320
                 obtain rfl : ad317 = ad320 := (by injection e320)
                 replace hx320_0 := cbx HB hx320_0
                 replace hx320_1 := cbx HB hx320_1
                 replace p320 := eq_true p320
                 replace q320 := eq_true q320
                 have p321 : 0 ≤ ((ji34) : Int) := of_decide_eq_true asmA
                 have q321 : (ji34) < (l0_0.length : Int) := of_decide_eq_true asmA
                 obtain ⟨ad321, e321, hx321_0, hx321_1⟩ := at_T67 HR0_0.out (ji34) p321 q321
                 obtain rfl : ad317 = ad321 := (by injection e321)
                 replace hx321_0 := cbx HB hx321_0
                 replace hx321_1 := cbx HB hx321_1
                 replace p321 := eq_true p321
                 replace q321 := eq_true q321
                 go_wp2
                 repeat (go_quiet (fail); try go_wp2)
                 go_roundg kj9
                 case measure => have := HJ1.out; have := HK2.out; have := HJ9.out; omega
                 case rel => exact ⟨(wrap64 (x3_2 + 1)), relA, H', ⟨by have := HJ1.out; have := HK2.out; have := HJ9.out; omega⟩, ⟨blkA BK315.out⟩, ⟨belC HB.out GE315.out GE318.out⟩⟩
               ·rw [if_neg c42] at H
                have c42b0 := beq_eq_false_iff_ne.mpr c42
                have c42b1 := bne_iff_ne.mpr c42
                obtain rfl := Option.some.inj H
                have hnb50 := NB318_315.out
                have hnc50 := NB315_318.out
                obtain ⟨hcz51_0, hcz51_1, hfz51_0, hfz51_1⟩ := blk2 BK318
                obtain ⟨hcz52_0, hcz52_1, hfz52_0, hfz52_1⟩ := blk2 BK315
                have p319 : 0 ≤ ((ji34) : Int) := of_decide_eq_true asmA
                have q319 : (ji34) < (l0_0.length : Int) := of_decide_eq_true asmA
                obtain ⟨ad319, e319, hx319_0, hx319_1⟩ := at_T67 HR0_0.out (ji34) p319 q319
                obtain rfl : ad317 = ad319 := (by injection e319)
                replace hx319_0 := cbx HB hx319_0
                replace hx319_1 := cbx HB hx319_1
                replace p319 := eq_true p319
                replace q319 := eq_true q319
                have p320 : 0 ≤ ((ji34) : Int) := of_decide_eq_true asmA
                have q320 : (ji34) < (l0_0.length : Int) := of_decide_eq_true asmA
                obtain ⟨ad320, e320, hx320_0, hx320_1⟩ := at_T67 HR0_0.out (ji34) p320 q320
                obtain rfl : ad317 = ad320 := (by injection e320)
                replace hx320_0 := cbx HB hx320_0
                replace hx320_1 := cbx HB hx320_1
                replace p320 := eq_true p320
                replace q320 := eq_true q320
                go_wp2
                repeat (go_quiet (fail); try go_wp2)
                go_ret
                exact ⟨by first | rfl | (simp [errW_none, errW_some] <;> rfl) | (simp only [← hji34]; first | rfl | (simp [errW_none, errW_some] <;> rfl)) | (simp [*, errW_none, errW_some] <;> rfl) | (exfalso; simp_all; done), belC HB.out GE315.out GE318.out⟩
            ·rw [if_neg c36] at H
             exact absurd H (by simp)
           ·rw [if_neg c35] at H
            exact absurd H (by simp)
          ·rw [if_neg c33] at H
           have c33b0 := decide_eq_false c33
           clear c33
           have H' := Aside0.mk H
           clear H
           go_wp2
           repeat (go_quiet (fail); try go_wp2)
           go_roundg kj9
           case measure => have := HJ1.out; have := HK2.out; have := HJ9.out; omega
           case rel => exact ⟨(wrap64 (x3_2 + 1)), relA, H', ⟨by have := HJ1.out; have := HK2.out; have := HJ9.out; omega⟩, ⟨blkA BK315.out⟩, ⟨belC HB.out GE315.out GE318.out⟩⟩
      ·rw [if_neg c9] at H
       exact absurd H (by simp)
     ·rw [if_neg c8] at H
      have c8b0 := decide_eq_false c8
      clear c8
      obtain ⟨ji53, hji53⟩ : ∃ j_ : Int, (wrap64 ((l0_0.length : Int) - 1)) = j_ := ⟨_, rfl⟩
      replace H : (if 0 ≤ (ji53) then (if (ji53) < (l0_0.length : Int) then (if a0_1 ≥ ((rd_T67 l0_0 (ji53)).f1) then (some (decide (a0_1 ≤ 2199023255552))) else (some false)) else (none)) else (none)) = some r := by first | (rw [hji53] at H; exact H) | (simp only [hji53] at H ⊢; exact H)
      have hji53w : (IntKind.i64.wrap ((l0_0.length : Int) - 1)) = ji53 := (i64_w _).trans hji53
      by_cases c54 : 0 ≤ (ji53)
      ·rw [if_pos c54] at H
       have c54b0 := decide_eq_true c54
       clear c54
       by_cases c55 : (ji53) < (l0_0.length : Int)
       ·rw [if_pos c55] at H
        have c55b0 := decide_eq_true c55
        clear c55
        by_cases c56 : a0_1 ≥ ((rd_T67 l0_0 (ji53)).f1)
        ·rw [if_pos c56] at H
         have c56b0 := decide_eq_true c56
         clear c56
         obtain rfl := Option.some.inj H
         obtain ⟨hcz57_0, hcz57_1, hfz57_0, hfz57_1⟩ := blk2 BK315
         have p316 : 0 ≤ ((ji53) : Int) := of_decide_eq_true asmA
         have q316 : (ji53) < (l0_0.length : Int) := of_decide_eq_true asmA
         obtain ⟨ad316, e316, hx316_0, hx316_1⟩ := at_T67 HR0_0.out (ji53) p316 q316
         cases e316
         replace hx316_0 := cbx HB hx316_0
         replace hx316_1 := cbx HB hx316_1
         replace p316 := eq_true p316
         replace q316 := eq_true q316
         go_wp2
         repeat (go_quiet (fail); try go_wp2)
         go_ret
         exact ⟨by first | rfl | (simp [errW_none, errW_some] <;> rfl) | (simp only [← hji53]; first | rfl | (simp [errW_none, errW_some] <;> rfl)) | (simp [*, errW_none, errW_some] <;> rfl) | (exfalso; simp_all; done), belB HB.out GE315.out⟩
        ·rw [if_neg c56] at H
         have c56b0 := decide_eq_false c56
         clear c56
         obtain rfl := Option.some.inj H
         obtain ⟨hcz58_0, hcz58_1, hfz58_0, hfz58_1⟩ := blk2 BK315
         have p316 : 0 ≤ ((ji53) : Int) := of_decide_eq_true asmA
         have q316 : (ji53) < (l0_0.length : Int) := of_decide_eq_true asmA
         obtain ⟨ad316, e316, hx316_0, hx316_1⟩ := at_T67 HR0_0.out (ji53) p316 q316
         cases e316
         replace hx316_0 := cbx HB hx316_0
         replace hx316_1 := cbx HB hx316_1
         replace p316 := eq_true p316
         replace q316 := eq_true q316
         go_wp2
         repeat (go_quiet (fail); try go_wp2)
         go_ret
         exact ⟨by first | rfl | (simp [errW_none, errW_some] <;> rfl) | (simp only [← hji53]; first | rfl | (simp [errW_none, errW_some] <;> rfl)) | (simp [*, errW_none, errW_some] <;> rfl) | (exfalso; simp_all; done), belB HB.out GE315.out⟩
       ·rw [if_neg c55] at H
        exact absurd H (by simp)
      ·rw [if_neg c54] at H
       exact absurd H (by simp)
def rickyardref03_Time.f (a0 : Int) : Option (Bool) := if a0 ≥ 0 then (some (decide (a0 ≤ 1099511627776))) else (some false)
theorem rickyardref03_Time.calls (a0 : Int) (r : Bool) (w : World) (h : rickyardref03_Time.f a0 = some r) :
  Calls Try.prog 68 #[.int .i64 a0] w fun e w' => e = .returned (.bool r) ∧ Drawn0 w w' := by
 have H : (if a0 ≥ 0 then (some (decide (a0 ≤ 1099511627776))) else (some false)) = some r := h
 clear h
 by_cases c2 : a0 ≥ 0
 rotate_left
 ·rw [if_neg c2] at H
  have c2b0 := decide_eq_false c2
  clear c2
  obtain rfl := Option.some.inj H
  go_enter Try.func68, Try.ntmps68
  go_wp2
  go_ret
  exact ⟨by first | rfl | (simp; done) | (simp [*]; done), by repeat (first | exact Drawn0.refl _ | apply Drawn0.step)⟩
 rw [if_pos c2] at H
 have c2b0 := decide_eq_true c2
 clear c2
 obtain rfl := Option.some.inj H
 go_enter Try.func68, Try.ntmps68
 go_wp2
 go_ret
 exact ⟨by first | rfl | (simp; done) | (simp [*]; done), by repeat (first | exact Drawn0.refl _ | apply Drawn0.step)⟩
def rickyardref03_Floor.f (a0 : Int) (a1 : Int) : Option (Int × Int) := (rickyardref03_Time.f a0).bind fun t322 => (if t322 = true then (if a1 < 1 then (some (0, 1)) else (if a1 > 1099511627776 then (some (0, 1)) else (if a1 = 0 then (none) else (some (wrap64 ((wrap64 (Int.tdiv a0 a1)) * a1), 0))))) else (some (0, 1)))
theorem rickyardref03_Floor.calls (a0 : Int) (a1 : Int) (r1 : Int) (r2 : Int) (w : World) (h : rickyardref03_Floor.f a0 a1 = some (r1, r2)) :
  Calls Try.prog 57 #[.int .i64 a0, .int .i64 a1] w fun e w' => e = .returned (.tuple #[.int .i64 r1, .int .i64 r2]) ∧ Drawn0 w w' := by
 have H : ((rickyardref03_Time.f a0).bind fun t322 => (if t322 = true then (if a1 < 1 then (some (0, 1)) else (if a1 > 1099511627776 then (some (0, 1)) else (if a1 = 0 then (none) else (some (wrap64 ((wrap64 (Int.tdiv a0 a1)) * a1), 0))))) else (some (0, 1)))) = some (r1, r2) := h
 clear h
 replace H := bnA H
 obtain ⟨t322, A3, H⟩ := H
 by_cases c4 : t322 = true
 rotate_left
 ·replace c4 := Bool.eq_false_iff.mpr c4
  subst c4
  have H1 : (some (0, 1)) = some (r1, r2) := by rw [if_neg (show ¬ (false = true) by decide)] at H; exact H
  clear H
  have H := H1
  clear H1
  simp only [Option.some.injEq, Prod.mk.injEq] at H
  obtain ⟨rfl, rfl⟩ := H
  go_enter Try.func57, Try.ntmps57
  go_wp2_with (first | ((with_reducible refine gate_callee (f := 68) rfl ?_); refine goesL_ (some 7) rfl rfl Try.func68 (by kernel_rfl) rfl #[.int .i64 a0] rfl argA ?_; (with_reducible refine (rickyardref03_Time.calls a0 false _ A3.out).mono ?_); rintro e w' ⟨rfl, ⟨nd, rfl⟩⟩; refine ⟨_, rfl, ?_⟩))
  go_ret2
  exact ⟨by first | rfl | (simp; done) | (simp [*]; done), by repeat (first | exact Drawn0.refl _ | apply Drawn0.step)⟩
 subst c4
 have H1 : (if a1 < 1 then (some (0, 1)) else (if a1 > 1099511627776 then (some (0, 1)) else (if a1 = 0 then (none) else (some (wrap64 ((wrap64 (Int.tdiv a0 a1)) * a1), 0))))) = some (r1, r2) := by rw [if_pos rfl] at H; exact H
 clear H
 have H := H1
 clear H1
 by_cases c5 : a1 < 1
 ·rw [if_pos c5] at H
  have c5b0 := decide_eq_true c5
  clear c5
  simp only [Option.some.injEq, Prod.mk.injEq] at H
  obtain ⟨rfl, rfl⟩ := H
  go_enter Try.func57, Try.ntmps57
  go_wp2_with (first | ((with_reducible refine gate_callee (f := 68) rfl ?_); refine goesL_ (some 7) rfl rfl Try.func68 (by kernel_rfl) rfl #[.int .i64 a0] rfl argA ?_; (with_reducible refine (rickyardref03_Time.calls a0 true _ A3.out).mono ?_); rintro e w' ⟨rfl, ⟨nd, rfl⟩⟩; refine ⟨_, rfl, ?_⟩))
  go_ret2
  exact ⟨by first | rfl | (simp; done) | (simp [*]; done), by repeat (first | exact Drawn0.refl _ | apply Drawn0.step)⟩
 rw [if_neg c5] at H
 have c5b0 := decide_eq_false c5
 clear c5
 by_cases c6 : a1 > 1099511627776
 ·rw [if_pos c6] at H
  have c6b0 := decide_eq_true c6
  clear c6
  simp only [Option.some.injEq, Prod.mk.injEq] at H
  obtain ⟨rfl, rfl⟩ := H
  go_enter Try.func57, Try.ntmps57
  go_wp2_with (first | ((with_reducible refine gate_callee (f := 68) rfl ?_); refine goesL_ (some 7) rfl rfl Try.func68 (by kernel_rfl) rfl #[.int .i64 a0] rfl argA ?_; (with_reducible refine (rickyardref03_Time.calls a0 true _ A3.out).mono ?_); rintro e w' ⟨rfl, ⟨nd, rfl⟩⟩; refine ⟨_, rfl, ?_⟩))
  go_ret2
  exact ⟨by first | rfl | (simp; done) | (simp [*]; done), by repeat (first | exact Drawn0.refl _ | apply Drawn0.step)⟩
 rw [if_neg c6] at H
 have c6b0 := decide_eq_false c6
 clear c6
 by_cases c7 : a1 = 0
 ·rw [if_pos c7] at H
  exact absurd H (by simp)
 rw [if_neg c7] at H
 have c7b0 := beq_eq_false_iff_ne.mpr c7
 have c7b1 := bne_iff_ne.mpr c7
 simp only [Option.some.injEq, Prod.mk.injEq] at H
 obtain ⟨rfl, rfl⟩ := H
 go_enter Try.func57, Try.ntmps57
 go_wp2_with (first | ((with_reducible refine gate_callee (f := 68) rfl ?_); refine goesL_ (some 7) rfl rfl Try.func68 (by kernel_rfl) rfl #[.int .i64 a0] rfl argA ?_; (with_reducible refine (rickyardref03_Time.calls a0 true _ A3.out).mono ?_); rintro e w' ⟨rfl, ⟨nd, rfl⟩⟩; refine ⟨_, rfl, ?_⟩))
 go_ret2
 exact ⟨by first | rfl | (simp; done) | (simp [*]; done), by repeat (first | exact Drawn0.refl _ | apply Drawn0.step)⟩
def rickyardref02_Right.f (a0_0 : Int) (a0_1 : Bool) (a0_2 : Int) (a0_3 : Int) (a0_4 : Int) (a0_5 : Int) : Option (Bool) := if a0_0 = 0 then (if a0_1 = true then (some false) else (if a0_2 = 0 then (if a0_3 = 0 then (if a0_4 = 0 then (some (a0_5 == 0)) else (some false)) else (some false)) else (some false))) else (if a0_1 = true then (if a0_0 = 18446744073709551615 then (some (decide (a0_4 ≤ a0_5))) else (some false)) else (some (decide (a0_4 ≤ a0_5))))
theorem rickyardref02_Right.calls (a0_0 : Int) (a0_1 : Bool) (a0_2 : Int) (a0_3 : Int) (a0_4 : Int) (a0_5 : Int) (r : Bool) (w : World) (h : rickyardref02_Right.f a0_0 a0_1 a0_2 a0_3 a0_4 a0_5 = some r) :
  Calls Try.prog 58 #[.agg #[.int .u64 a0_0, .bool a0_1, .int .i64 a0_2, .int .u64 a0_3, .int .i64 a0_4, .int .i64 a0_5]] w fun e w' => e = .returned (.bool r) ∧ Below w.heap.size w w' := by
 have hu41 := Try.underlying41
 have HB := Aside0.mk (Below.refl w.heap.size w)
 have H : (if a0_0 = 0 then (if a0_1 = true then (some false) else (if a0_2 = 0 then (if a0_3 = 0 then (if a0_4 = 0 then (some (a0_5 == 0)) else (some false)) else (some false)) else (some false))) else (if a0_1 = true then (if a0_0 = 18446744073709551615 then (some (decide (a0_4 ≤ a0_5))) else (some false)) else (some (decide (a0_4 ≤ a0_5))))) = some r := h
 clear h
 by_cases c2 : a0_0 = 0
 rotate_left
 ·rw [if_neg c2] at H
  have c2b0 := beq_eq_false_iff_ne.mpr c2
  have c2b1 := bne_iff_ne.mpr c2
  by_cases c17 : a0_1 = true
  rotate_left
  ·replace c17 := Bool.eq_false_iff.mpr c17
   subst c17
   have H1 : (some (decide (a0_4 ≤ a0_5))) = some r := by rw [if_neg (show ¬ (false = true) by decide)] at H; exact H
   clear H
   have H := H1
   clear H1
   obtain rfl := Option.some.inj H
   go_enter Try.func58, Try.ntmps58
   go_wp2_with (first | ((with_reducible refine gate_dst (N := 1) rfl ?_); refine boxA 1 #[.int .u64 a0_0, .bool false, .int .i64 a0_2, .int .u64 a0_3, .int .i64 a0_4, .int .i64 a0_5] 41 ?_; intro gb323 hg w23 hbox hb; have BK323 := Aside0.mk (hbox); have GE323 := ge1 hg (belA HB.out); replace HB := bst HB hb; clear hb hbox hg; obtain ⟨hcz24_0, hcz24_1, hcz24_2, hcz24_3, hcz24_4, hcz24_5, hfz24_0, hfz24_1, hfz24_2, hfz24_3, hfz24_4, hfz24_5⟩ := blk6 BK323))
   go_ret
   exact ⟨ret1, belB HB.out GE323.out⟩
  subst c17
  have H1 : (if a0_0 = 18446744073709551615 then (some (decide (a0_4 ≤ a0_5))) else (some false)) = some r := by rw [if_pos rfl] at H; exact H
  clear H
  have H := H1
  clear H1
  by_cases c18 : a0_0 = 18446744073709551615
  rotate_left
  ·rw [if_neg c18] at H
   have c18b0 := beq_eq_false_iff_ne.mpr c18
   have c18b1 := bne_iff_ne.mpr c18
   obtain rfl := Option.some.inj H
   go_enter Try.func58, Try.ntmps58
   go_wp2_with (first | ((with_reducible refine gate_dst (N := 1) rfl ?_); refine boxA 1 #[.int .u64 a0_0, .bool true, .int .i64 a0_2, .int .u64 a0_3, .int .i64 a0_4, .int .i64 a0_5] 41 ?_; intro gb323 hg w21 hbox hb; have BK323 := Aside0.mk (hbox); have GE323 := ge1 hg (belA HB.out); replace HB := bst HB hb; clear hb hbox hg; obtain ⟨hcz22_0, hcz22_1, hcz22_2, hcz22_3, hcz22_4, hcz22_5, hfz22_0, hfz22_1, hfz22_2, hfz22_3, hfz22_4, hfz22_5⟩ := blk6 BK323))
   go_ret
   exact ⟨ret1, belB HB.out GE323.out⟩
  rw [if_pos c18] at H
  have c18b0 := beq_iff_eq.mpr c18
  have c18b1 := bne_eq_false_iff_eq.mpr c18
  clear c18
  obtain rfl := Option.some.inj H
  go_enter Try.func58, Try.ntmps58
  go_wp2_with (first | ((with_reducible refine gate_dst (N := 1) rfl ?_); refine boxA 1 #[.int .u64 a0_0, .bool true, .int .i64 a0_2, .int .u64 a0_3, .int .i64 a0_4, .int .i64 a0_5] 41 ?_; intro gb323 hg w19 hbox hb; have BK323 := Aside0.mk (hbox); have GE323 := ge1 hg (belA HB.out); replace HB := bst HB hb; clear hb hbox hg; obtain ⟨hcz20_0, hcz20_1, hcz20_2, hcz20_3, hcz20_4, hcz20_5, hfz20_0, hfz20_1, hfz20_2, hfz20_3, hfz20_4, hfz20_5⟩ := blk6 BK323))
  go_ret
  exact ⟨ret1, belB HB.out GE323.out⟩
 rw [if_pos c2] at H
 have c2b0 := beq_iff_eq.mpr c2
 have c2b1 := bne_eq_false_iff_eq.mpr c2
 clear c2
 by_cases c3 : a0_1 = true
 ·subst c3
  have H1 : (some false) = some r := by rw [if_pos rfl] at H; exact H
  clear H
  have H := H1
  clear H1
  obtain rfl := Option.some.inj H
  go_enter Try.func58, Try.ntmps58
  go_wp2_with (first | ((with_reducible refine gate_dst (N := 1) rfl ?_); refine boxA 1 #[.int .u64 a0_0, .bool true, .int .i64 a0_2, .int .u64 a0_3, .int .i64 a0_4, .int .i64 a0_5] 41 ?_; intro gb323 hg w4 hbox hb; have BK323 := Aside0.mk (hbox); have GE323 := ge1 hg (belA HB.out); replace HB := bst HB hb; clear hb hbox hg; obtain ⟨hcz5_0, hcz5_1, hcz5_2, hcz5_3, hcz5_4, hcz5_5, hfz5_0, hfz5_1, hfz5_2, hfz5_3, hfz5_4, hfz5_5⟩ := blk6 BK323))
  go_ret
  exact ⟨ret1, belB HB.out GE323.out⟩
 replace c3 := Bool.eq_false_iff.mpr c3
 subst c3
 have H1 : (if a0_2 = 0 then (if a0_3 = 0 then (if a0_4 = 0 then (some (a0_5 == 0)) else (some false)) else (some false)) else (some false)) = some r := by rw [if_neg (show ¬ (false = true) by decide)] at H; exact H
 clear H
 have H := H1
 clear H1
 by_cases c6 : a0_2 = 0
 rotate_left
 ·rw [if_neg c6] at H
  have c6b0 := beq_eq_false_iff_ne.mpr c6
  have c6b1 := bne_iff_ne.mpr c6
  obtain rfl := Option.some.inj H
  go_enter Try.func58, Try.ntmps58
  go_wp2_with (first | ((with_reducible refine gate_dst (N := 1) rfl ?_); refine boxA 1 #[.int .u64 a0_0, .bool false, .int .i64 a0_2, .int .u64 a0_3, .int .i64 a0_4, .int .i64 a0_5] 41 ?_; intro gb323 hg w15 hbox hb; have BK323 := Aside0.mk (hbox); have GE323 := ge1 hg (belA HB.out); replace HB := bst HB hb; clear hb hbox hg; obtain ⟨hcz16_0, hcz16_1, hcz16_2, hcz16_3, hcz16_4, hcz16_5, hfz16_0, hfz16_1, hfz16_2, hfz16_3, hfz16_4, hfz16_5⟩ := blk6 BK323))
  go_ret
  exact ⟨ret1, belB HB.out GE323.out⟩
 rw [if_pos c6] at H
 have c6b0 := beq_iff_eq.mpr c6
 have c6b1 := bne_eq_false_iff_eq.mpr c6
 clear c6
 by_cases c7 : a0_3 = 0
 rotate_left
 ·rw [if_neg c7] at H
  have c7b0 := beq_eq_false_iff_ne.mpr c7
  have c7b1 := bne_iff_ne.mpr c7
  obtain rfl := Option.some.inj H
  go_enter Try.func58, Try.ntmps58
  go_wp2_with (first | ((with_reducible refine gate_dst (N := 1) rfl ?_); refine boxA 1 #[.int .u64 a0_0, .bool false, .int .i64 a0_2, .int .u64 a0_3, .int .i64 a0_4, .int .i64 a0_5] 41 ?_; intro gb323 hg w13 hbox hb; have BK323 := Aside0.mk (hbox); have GE323 := ge1 hg (belA HB.out); replace HB := bst HB hb; clear hb hbox hg; obtain ⟨hcz14_0, hcz14_1, hcz14_2, hcz14_3, hcz14_4, hcz14_5, hfz14_0, hfz14_1, hfz14_2, hfz14_3, hfz14_4, hfz14_5⟩ := blk6 BK323))
  go_ret
  exact ⟨ret1, belB HB.out GE323.out⟩
 rw [if_pos c7] at H
 have c7b0 := beq_iff_eq.mpr c7
 have c7b1 := bne_eq_false_iff_eq.mpr c7
 clear c7
 by_cases c8 : a0_4 = 0
 rotate_left
 ·rw [if_neg c8] at H
  have c8b0 := beq_eq_false_iff_ne.mpr c8
  have c8b1 := bne_iff_ne.mpr c8
  obtain rfl := Option.some.inj H
  go_enter Try.func58, Try.ntmps58
  go_wp2_with (first | ((with_reducible refine gate_dst (N := 1) rfl ?_); refine boxA 1 #[.int .u64 a0_0, .bool false, .int .i64 a0_2, .int .u64 a0_3, .int .i64 a0_4, .int .i64 a0_5] 41 ?_; intro gb323 hg w11 hbox hb; have BK323 := Aside0.mk (hbox); have GE323 := ge1 hg (belA HB.out); replace HB := bst HB hb; clear hb hbox hg; obtain ⟨hcz12_0, hcz12_1, hcz12_2, hcz12_3, hcz12_4, hcz12_5, hfz12_0, hfz12_1, hfz12_2, hfz12_3, hfz12_4, hfz12_5⟩ := blk6 BK323))
  go_ret
  exact ⟨ret1, belB HB.out GE323.out⟩
 rw [if_pos c8] at H
 have c8b0 := beq_iff_eq.mpr c8
 have c8b1 := bne_eq_false_iff_eq.mpr c8
 clear c8
 obtain rfl := Option.some.inj H
 go_enter Try.func58, Try.ntmps58
 go_wp2_with (first | ((with_reducible refine gate_dst (N := 1) rfl ?_); refine boxA 1 #[.int .u64 a0_0, .bool false, .int .i64 a0_2, .int .u64 a0_3, .int .i64 a0_4, .int .i64 a0_5] 41 ?_; intro gb323 hg w9 hbox hb; have BK323 := Aside0.mk (hbox); have GE323 := ge1 hg (belA HB.out); replace HB := bst HB hb; clear hb hbox hg; obtain ⟨hcz10_0, hcz10_1, hcz10_2, hcz10_3, hcz10_4, hcz10_5, hfz10_0, hfz10_1, hfz10_2, hfz10_3, hfz10_4, hfz10_5⟩ := blk6 BK323))
 go_ret
 exact ⟨ret1, belB HB.out GE323.out⟩
end Go.Proofs.Ytjemmmemenljbaa.PFold
end
