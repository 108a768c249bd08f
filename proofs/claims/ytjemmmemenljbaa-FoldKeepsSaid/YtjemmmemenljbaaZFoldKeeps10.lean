import Derived.Test.YtjemmmemenljbaaZFoldKeeps01
import Derived.Test.YtjemmmemenljbaaZFoldKeeps02
import Derived.Test.YtjemmmemenljbaaZFoldKeeps05
import Derived.Test.YtjemmmemenljbaaZFoldKeeps08
import Derived.Test.YtjemmmemenljbaaZFoldKeeps09
section
namespace Go.Proofs.Ytjemmmemenljbaa.PFold
open Go.RowKit Go.Proofs.YtjemmmemenljbaaW.PrintWords Go.Proofs.YtjemmmemenljbaaW.PrintLast Go.Proofs.YtjemmmemenljbaaW.PrintMore
attribute [local go_sem] max2_int min2_int max_two min_two max_three min_three max_four min_four   -- for this text's walks alone
set_option linter.unusedVariables false
set_option linter.unusedSimpArgs false
mutual
def key_Read.j2 : Nat → List Int → Int → Bool → List ByteArray → Int → Int → Option (List ByteArray × Int × Int × Int)
 | 0, _, _, _, _, _, _ => none
 | k + 1, x0, x5, x6, x199000, x199001, x199002 => if x6 = true then (key_Read.j3 k x0 x5 ((x0.length : Int) != (wrap64 (x5 + 9))) x199000 x199001 x199002) else (key_Read.j3 k x0 x5 true x199000 x199001 x199002)
def key_Read.j3 : Nat → List Int → Int → Bool → List ByteArray → Int → Int → Option (List ByteArray × Int × Int × Int)
 | 0, _, _, _, _, _, _ => none
 | k + 1, x0, x5, x59, x199000, x199001, x199002 => if x59 = true then (some (([] : List ByteArray), 0, 0, 40)) else (if 0 ≤ x5 then (if x5 ≤ (x0.length : Int) then ((code_ReadNumber.f (x0.drop (x5 : Int).toNat)).bind fun bt209 => (if 0 ≤ (wrap64 (x5 + 8)) then (if (wrap64 (x5 + 8)) < (x0.length : Int) then ((key_Right.f x199000 bt209.1 (wrap64 (rd x0 (wrap64 (x5 + 8))))).bind fun t213 => (if t213 = true then (some (x199000, bt209.1, wrap64 (rd x0 (wrap64 (x5 + 8))), 0)) else (some (([] : List ByteArray), 0, 0, 40)))) else (none)) else (none))) else (none)) else (none))
def key_Read.l0 : Nat → List Int → Int → Bool → List ByteArray → Int → Int → Option (List ByteArray × Int × Int × Int)
 | 0, _, _, _, _, _, _ => none
 | k + 1, x0, x5, x6, x199000, x199001, x199002 => if x5 ≥ (x0.length : Int) then (key_Read.j1 k x0 x5 x6 true x199000 x199001 x199002) else (if 0 ≤ x5 then (if x5 < (x0.length : Int) then (key_Read.j1 k x0 x5 x6 (decide ((rd x0 x5) > 1)) x199000 x199001 x199002) else (none)) else (none))
def key_Read.j1 : Nat → List Int → Int → Bool → Bool → List ByteArray → Int → Int → Option (List ByteArray × Int × Int × Int)
 | 0, _, _, _, _, _, _, _ => none
 | k + 1, x0, x5, x6, x10, x199000, x199001, x199002 => if x10 = true then (key_Read.j2 k x0 x5 false x199000 x199001 x199002) else (if 0 ≤ x5 then (if x5 < (x0.length : Int) then (if (rd x0 x5) = 0 then (key_Read.j2 k x0 (wrap64 (x5 + 1)) x6 x199000 x199001 x199002) else (if 0 ≤ (wrap64 (x5 + 1)) then (if (wrap64 (x5 + 1)) ≤ (x0.length : Int) then ((code_ReadText.f k (x0.drop ((wrap64 (x5 + 1)) : Int).toNat)).bind fun bt202 => (if bt202.2.2 = 0 then (if x199000.length < 8796093022208 then (key_Read.l0 k x0 (wrap64 (x5 + (wrap64 (bt202.2.1 + 1)))) x6 (x199000 ++ [bt202.1]) x199001 x199002) else (none)) else (key_Read.j2 k x0 x5 false x199000 x199001 x199002))) else (none)) else (none))) else (none)) else (none))
end
def key_Read.f (k : Nat) (l0 : List Int) : Option (List ByteArray × Int × Int × Int) := key_Read.l0 k l0 0 true ([] : List ByteArray) 0 0
set_option maxHeartbeats 8000000 in
set_option maxRecDepth 100000 in
theorem key_Read.calls (k : Nat) (A0 : Option Addr) (c0 : Nat) (l0 : List Int) (r1 : List ByteArray) (r2 : Int) (r3 : Int) (r4 : Int) (w : World) (hr0 : Kd.C (Kd.int .u8) w A0 l0.length l0) (hc0 : l0.length ≤ c0) (h : key_Read.f k l0 = some (r1, r2, r3, r4)) :
  Calls Try.prog 72 #[.slice A0 l0.length c0] w fun e w' => ∃ v0_ : Value, e = .returned (.tuple #[.agg #[v0_, .int .i64 r2, .int .i64 r3], .int .i64 r4]) ∧ Kd.R Kd.string 9 w' w.heap.size (fun _ => True) v0_ r1 ∧ Below w.heap.size w w' := by
 have hu62 := Try.underlying62
 have HR0 := Aside0.mk hr0
 have HC0 := Aside0.mk hc0
 clear hr0 hc0
 have HB := Aside0.mk (Below.refl w.heap.size w)
 have H : (key_Read.l0 k l0 0 true ([] : List ByteArray) 0 0) = some (r1, r2, r3, r4) := h
 clear h
 have HC2 := Aside0.mk H
 clear H
 go_enter Try.func72, Try.ntmps72; try go_step3
 (go_upto_block 0 with (first | ((with_reducible refine gate_dst (N := 2) rfl ?_); (try (refine gate_guard (by rfl) ?_; dsimp only)); refine box_event ?hg (N := 2) ?hd (cs := #[.slice none 0 0, .int .i64 0, .int .i64 0]) (t := 62) ?hr ?_; (case hd => rfl); (case hg => rfl); (case hr => first | (go_simp; done) | (go_simp; rfl)); intro gb197 hg w3 hbox hb; have n0_ := Aside0.mk (below_step (belA HB.out) hb); have n1_ := Aside0.mk (hbox); have n2_ := Aside0.mk ((by rw [hg]; exact (below_size (belA HB.out)) : w.heap.size ≤ gb197)); have n3_ := Aside0.mk ((by rw [hg]; exact (below_size (belA HB.out)) : w.heap.size ≤ gb197)); clear HB; have HB := n0_; have BK197 := n1_; have GW197 := n2_; have GE197 := n3_; clear n0_ n1_ n2_ n3_; clear hb hbox hg) | ((with_reducible refine gate_dst (N := 4) rfl ?_); (try (refine gate_guard (by rfl) ?_; dsimp only)); refine box_event ?hg (N := 4) ?hd (cs := #[.slice none 0 0, .int .i64 0, .int .i64 0]) (t := 62) ?hr ?_; (case hd => rfl); (case hg => rfl); (case hr => first | (go_simp; done) | (go_simp; rfl)); intro gb198 hg w4 hbox hb; have n0_ := Aside0.mk (blk_below (g := gb197) (o := .cells #[.slice none 0 0, .int .i64 0, .int .i64 0] 62 (0, 0)) (blkA BK197.out) hb); have n1_ := Aside0.mk (below_step (belB HB.out GE197.out) hb); have n2_ := Aside0.mk (hbox); have n3_ := Aside0.mk ((by rw [hg]; exact (below_size (belB HB.out GE197.out)) : w.heap.size ≤ gb198)); have n4_ := Aside0.mk ((by rw [hg]; exact (below_size (belB HB.out GE197.out)) : w.heap.size ≤ gb198)); have n5_ := Aside0.mk ((by rw [hg]; exact Nat.ne_of_lt (blk_lt (g := gb197) (o := .cells #[.slice none 0 0, .int .i64 0, .int .i64 0] 62 (0, 0)) (blkA BK197.out)) : gb197 ≠ gb198)); have n6_ := Aside0.mk ((by rw [hg]; exact Nat.ne_of_gt (blk_lt (g := gb197) (o := .cells #[.slice none 0 0, .int .i64 0, .int .i64 0] 62 (0, 0)) (blkA BK197.out)) : gb198 ≠ gb197)); clear BK197; clear HB; have BK197 := n0_; have HB := n1_; have BK198 := n2_; have GW198 := n3_; have GE198 := n4_; have NB197_198 := n5_; have NB198_197 := n6_; clear n0_ n1_ n2_ n3_ n4_ n5_ n6_; clear hb hbox hg)); repeat (go_step3; try (go_upto_block 0 with (first | ((with_reducible refine gate_dst (N := 2) rfl ?_); (try (refine gate_guard (by rfl) ?_; dsimp only)); refine box_event ?hg (N := 2) ?hd (cs := #[.slice none 0 0, .int .i64 0, .int .i64 0]) (t := 62) ?hr ?_; (case hd => rfl); (case hg => rfl); (case hr => first | (go_simp; done) | (go_simp; rfl)); intro gb197 hg w3 hbox hb; have n0_ := Aside0.mk (below_step (belA HB.out) hb); have n1_ := Aside0.mk (hbox); have n2_ := Aside0.mk ((by rw [hg]; exact (below_size (belA HB.out)) : w.heap.size ≤ gb197)); have n3_ := Aside0.mk ((by rw [hg]; exact (below_size (belA HB.out)) : w.heap.size ≤ gb197)); clear HB; have HB := n0_; have BK197 := n1_; have GW197 := n2_; have GE197 := n3_; clear n0_ n1_ n2_ n3_; clear hb hbox hg) | ((with_reducible refine gate_dst (N := 4) rfl ?_); (try (refine gate_guard (by rfl) ?_; dsimp only)); refine box_event ?hg (N := 4) ?hd (cs := #[.slice none 0 0, .int .i64 0, .int .i64 0]) (t := 62) ?hr ?_; (case hd => rfl); (case hg => rfl); (case hr => first | (go_simp; done) | (go_simp; rfl)); intro gb198 hg w4 hbox hb; have n0_ := Aside0.mk (blk_below (g := gb197) (o := .cells #[.slice none 0 0, .int .i64 0, .int .i64 0] 62 (0, 0)) (blkA BK197.out) hb); have n1_ := Aside0.mk (below_step (belB HB.out GE197.out) hb); have n2_ := Aside0.mk (hbox); have n3_ := Aside0.mk ((by rw [hg]; exact (below_size (belB HB.out GE197.out)) : w.heap.size ≤ gb198)); have n4_ := Aside0.mk ((by rw [hg]; exact (below_size (belB HB.out GE197.out)) : w.heap.size ≤ gb198)); have n5_ := Aside0.mk ((by rw [hg]; exact Nat.ne_of_lt (blk_lt (g := gb197) (o := .cells #[.slice none 0 0, .int .i64 0, .int .i64 0] 62 (0, 0)) (blkA BK197.out)) : gb197 ≠ gb198)); have n6_ := Aside0.mk ((by rw [hg]; exact Nat.ne_of_gt (blk_lt (g := gb197) (o := .cells #[.slice none 0 0, .int .i64 0, .int .i64 0] 62 (0, 0)) (blkA BK197.out)) : gb198 ≠ gb197)); clear BK197; clear HB; have BK197 := n0_; have HB := n1_; have BK198 := n2_; have GW198 := n3_; have GE198 := n4_; have NB197_198 := n5_; have NB198_197 := n6_; clear n0_ n1_ n2_ n3_ n4_ n5_ n6_; clear hb hbox hg)))))
 (try simp only [Act.put, List.setIfInBounds_toArray, List.set_cons_zero, List.set_cons_succ])
 go_cut [5, 6] (fun v5 v6 wc => ∃ (kq : Nat) (x5_1 : Int) (x6_1 : Bool) (x199000_1 : List ByteArray) (u199000 : Value), v5 = .int .i64 x5_1 ∧ v6 = .bool x6_1 ∧ Aside0 (key_Read.j2 kq l0 x5_1 x6_1 x199000_1 0 0 = some (r1, r2, r3, r4)) ∧ Aside0 (kq ≤ k) ∧ Aside0 (Kd.R Kd.string 9 wc w.heap.size (fun _ => True) u199000 x199000_1) ∧ Aside0 (wc.heap[gb197]? = some (.cells #[(.slice none 0 0), .int .i64 0, .int .i64 0] 62 (0, 0))) ∧ Aside0 (wc.heap[gb198]? = some (.cells #[u199000, .int .i64 0, .int .i64 0] 62 (0, 0))) ∧ Aside0 (Below w.heap.size w wc))
 case first =>
  have H := HC2.out
  clear HC2
  have H' := Aside0.mk H
  clear H
  (go_wp2; repeat (go_step3; try (go_wp2)))
  go_loopg [5, 6] k (fun kq v5 v6 w' => ∃ (x5_1 : Int) (x6_1 : Bool) (x199000_1 : List ByteArray) (u199000 : Value), v5 = .int .i64 x5_1 ∧ v6 = .bool x6_1 ∧ Aside0 (key_Read.l0 kq l0 x5_1 x6_1 x199000_1 0 0 = some (r1, r2, r3, r4)) ∧ Aside0 (kq ≤ k) ∧ Aside0 (Kd.R Kd.string 9 w' w.heap.size (fun _ => True) u199000 x199000_1) ∧ Aside0 (w'.heap[gb197]? = some (.cells #[(.slice none 0 0), .int .i64 0, .int .i64 0] 62 (0, 0))) ∧ Aside0 (w'.heap[gb198]? = some (.cells #[u199000, .int .i64 0, .int .i64 0] 62 (0, 0))) ∧ Aside0 (Below w.heap.size w w'))
  case atStart => exact ⟨(0), (true), (([] : List ByteArray)), (.slice none 0 0), relA, relA, H', ⟨Nat.le_refl _⟩, ⟨by first | exact Kd.R_nil _ _ _ _ _ | exact Kd.N_nil _ _ _ _ _ | exact Kd.V_nil _ _ _ _ _ | exact Kd.Q_nil _ _ _ _ _ | exact Kd.S_nil _ _ _ _ _⟩, ⟨blkA BK197.out⟩, ⟨blkA BK198.out⟩, ⟨belC HB.out GE197.out GE198.out⟩⟩
  case round =>
   clear H'
   try clear p2
   try clear p3
   obtain ⟨x5_1, x6_1, x199000_1, u199000, rfl, rfl, HA, HK1, HO_199000, BK197, BK198, HB⟩ := hrel
   cases gk with
   | zero => exact absurd HA.out (by simp [key_Read.l0])
   | succ k1 =>
    have H := HA.out
    clear HA
    simp only [key_Read.l0] at H
    have HC5 := Aside0.mk H
    clear H
    (go_upto_region 3 with (fail); repeat (go_step3; try (go_upto_region 3 with (fail))))
    go_cut [10] (fun v10 wc => ∃ (kq : Nat) (x10_4 : Bool), v10 = .bool x10_4 ∧ Aside0 (key_Read.j1 kq l0 x5_1 x6_1 x10_4 x199000_1 0 0 = some (r1, r2, r3, r4)) ∧ Aside0 (kq ≤ k1) ∧ Aside0 (Kd.R Kd.string 9 wc w.heap.size (fun _ => True) u199000 x199000_1) ∧ Aside0 (wc.heap[gb197]? = some (.cells #[(.slice none 0 0), .int .i64 0, .int .i64 0] 62 (0, 0))) ∧ Aside0 (wc.heap[gb198]? = some (.cells #[u199000, .int .i64 0, .int .i64 0] 62 (0, 0))) ∧ Aside0 (Below w.heap.size w wc))
    case first =>
     have H := HC5.out
     clear HC5
     by_cases c6 : x5_1 ≥ (l0.length : Int)
     ·rw [if_pos c6] at H
      have c6b0 : decide ((l0.length : Int) ≤ x5_1) = true := decide_eq_true c6
      clear c6
      (first | rw [c6b0] | (simp only [i64_w, i32_w]; rw [c6b0]) | skip)
      have H' := Aside0.mk H
      clear H
      (go_wp2; repeat (go_step3; try (go_wp2)))
      go_meet
      case rel => exact ⟨_, (true), relA, H', ⟨by have := HK1.out; first | omega | exact Nat.le_refl _⟩, ⟨rowA HO_199000.out⟩, ⟨blkA BK197.out⟩, ⟨blkA BK198.out⟩, ⟨belC HB.out GE197.out GE198.out⟩⟩
     ·rw [if_neg c6] at H
      have c6b0 : decide ((l0.length : Int) ≤ x5_1) = false := decide_eq_false c6
      clear c6
      (first | rw [c6b0] | (simp only [i64_w, i32_w]; rw [c6b0]) | skip)
      by_cases c7 : 0 ≤ x5_1
      ·rw [if_pos c7] at H
       have c7b0 : decide (0 ≤ x5_1) = true := decide_eq_true c7
       clear c7
       by_cases c8 : x5_1 < (l0.length : Int)
       ·rw [if_pos c8] at H
        have c8b0 : decide (x5_1 < (l0.length : Int)) = true := decide_eq_true c8
        clear c8
        have H' := Aside0.mk H
        clear H
        have p199 : 0 ≤ (x5_1 : Int) := of_decide_eq_true asmA
        have q199 : x5_1 < (l0.length : Int) := of_decide_eq_true asmA
        obtain ⟨ad199, e199, hx199_0⟩ := Kd.at_int HR0.out x5_1 p199 q199
        cases e199
        replace hx199_0 := (HB.out.cell (World.block_lt_of_cell? w _ hx199_0)).trans hx199_0
        replace p199 := eq_true p199
        replace q199 := eq_true q199
        (go_wp2; repeat (go_step3; try (go_wp2)))
        go_meet
        case rel => exact ⟨_, (decide ((rd l0 x5_1) > 1)), relA, H', ⟨by have := HK1.out; first | omega | exact Nat.le_refl _⟩, ⟨rowA HO_199000.out⟩, ⟨blkA BK197.out⟩, ⟨blkA BK198.out⟩, ⟨belC HB.out GE197.out GE198.out⟩⟩
       ·rw [if_neg c8] at H
        exact absurd H (by simp)
      ·rw [if_neg c7] at H
       exact absurd H (by simp)
    case rest =>
     clear HC5
     try clear p1
     try clear q1
     try clear hx1
     try clear p2
     try clear p3
     try clear c6
     try clear c6b0
     try clear c7
     try clear c7b0
     try clear c8
     try clear c8b0
     try clear hx199_0
     try clear p199
     try clear p2
     try clear p3
     try clear q199
     obtain ⟨kq, x10_4, rfl, HA, HJ4, HO_199000, BK197, BK198, HB⟩ := hcut
     cases kq with
     | zero => exact absurd HA.out (by simp [key_Read.j1])
     | succ kj4 =>
      have H := HA.out
      clear HA
      simp only [key_Read.j1] at H
      by_cases c9 : x10_4 = true
      ·subst c9
       have H1 : (key_Read.j2 kj4 l0 x5_1 false x199000_1 0 0) = some (r1, r2, r3, r4) := by rw [if_pos rfl] at H; exact H
       clear H
       have H := H1
       clear H1
       have H' := Aside0.mk H
       clear H
       (go_wp2; repeat (go_step3; try (go_wp2)))
       go_meet
       case rel => exact ⟨_, (x5_1), (false), (x199000_1), (u199000), relA, relA, H', ⟨by have := HK1.out; have := HJ4.out; first | omega | exact Nat.le_refl _⟩, ⟨rowA HO_199000.out⟩, ⟨blkA BK197.out⟩, ⟨blkA BK198.out⟩, ⟨belC HB.out GE197.out GE198.out⟩⟩
      ·replace c9 := Bool.eq_false_iff.mpr c9
       subst c9
       have H1 : (if 0 ≤ x5_1 then (if x5_1 < (l0.length : Int) then (if (rd l0 x5_1) = 0 then (key_Read.j2 kj4 l0 (wrap64 (x5_1 + 1)) x6_1 x199000_1 0 0) else (if 0 ≤ (wrap64 (x5_1 + 1)) then (if (wrap64 (x5_1 + 1)) ≤ (l0.length : Int) then ((code_ReadText.f kj4 (l0.drop ((wrap64 (x5_1 + 1)) : Int).toNat)).bind fun bt202 => (if bt202.2.2 = 0 then (if x199000_1.length < 8796093022208 then (key_Read.l0 kj4 l0 (wrap64 (x5_1 + (wrap64 (bt202.2.1 + 1)))) x6_1 (x199000_1 ++ [bt202.1]) 0 0) else (none)) else (key_Read.j2 kj4 l0 x5_1 false x199000_1 0 0))) else (none)) else (none))) else (none)) else (none)) = some (r1, r2, r3, r4) := by rw [if_neg (show ¬ (false = true) by decide)] at H; exact H
       clear H
       have H := H1
       clear H1
       by_cases c10 : 0 ≤ x5_1
       ·rw [if_pos c10] at H
        have c10b0 : decide (0 ≤ x5_1) = true := decide_eq_true c10
        clear c10
        by_cases c11 : x5_1 < (l0.length : Int)
        ·rw [if_pos c11] at H
         have c11b0 : decide (x5_1 < (l0.length : Int)) = true := decide_eq_true c11
         clear c11
         by_cases c12 : (rd l0 x5_1) = 0
         ·rw [if_pos c12] at H
          have c12b0 : ((rd l0 x5_1) == 0) = true := beq_iff_eq.mpr c12
          have c12b1 : ((rd l0 x5_1) != 0) = false := bne_eq_false_iff_eq.mpr c12
          clear c12
          have H' := Aside0.mk H
          clear H
          have p200 : 0 ≤ (x5_1 : Int) := of_decide_eq_true asmA
          have q200 : x5_1 < (l0.length : Int) := of_decide_eq_true asmA
          obtain ⟨ad200, e200, hx200_0⟩ := Kd.at_int HR0.out x5_1 p200 q200
          cases e200
          replace hx200_0 := (HB.out.cell (World.block_lt_of_cell? w _ hx200_0)).trans hx200_0
          replace p200 := eq_true p200
          replace q200 := eq_true q200
          (go_wp2; repeat (go_step3; try (go_wp2)))
          go_meet
          case rel => exact ⟨_, (wrap64 (x5_1 + 1)), (x6_1), (x199000_1), (u199000), relA, relA, H', ⟨by have := HK1.out; have := HJ4.out; first | omega | exact Nat.le_refl _⟩, ⟨rowA HO_199000.out⟩, ⟨blkA BK197.out⟩, ⟨blkA BK198.out⟩, ⟨belC HB.out GE197.out GE198.out⟩⟩
         ·rw [if_neg c12] at H
          have c12b0 : ((rd l0 x5_1) == 0) = false := beq_eq_false_iff_ne.mpr c12
          have c12b1 : ((rd l0 x5_1) != 0) = true := bne_iff_ne.mpr c12
          obtain ⟨ji13, hji13⟩ : ∃ j_ : Int, (wrap64 (x5_1 + 1)) = j_ := ⟨_, rfl⟩
          replace H : (if 0 ≤ (ji13) then (if (ji13) ≤ (l0.length : Int) then ((code_ReadText.f kj4 (l0.drop ((ji13) : Int).toNat)).bind fun bt202 => (if bt202.2.2 = 0 then (if x199000_1.length < 8796093022208 then (key_Read.l0 kj4 l0 (wrap64 (x5_1 + (wrap64 (bt202.2.1 + 1)))) x6_1 (x199000_1 ++ [bt202.1]) 0 0) else (none)) else (key_Read.j2 kj4 l0 x5_1 false x199000_1 0 0))) else (none)) else (none)) = some (r1, r2, r3, r4) := by first | (rw [hji13] at H; exact H) | (simp only [hji13] at H ⊢; exact H)
          have hji13w : (IntKind.i64.wrap (x5_1 + 1)) = ji13 := (i64_w _).trans hji13
          by_cases c14 : 0 ≤ (ji13)
          ·rw [if_pos c14] at H
           have c14b0 := eq_true c14
           have c14b1 : decide (0 ≤ (ji13)) = true := decide_eq_true c14
           clear c14
           by_cases c15 : (ji13) ≤ (l0.length : Int)
           ·rw [if_pos c15] at H
            have c15b0 := eq_true c15
            have c15b1 : decide ((ji13) ≤ (l0.length : Int)) = true := decide_eq_true c15
            clear c15
            replace H := Option.bind_eq_some_iff.mp H
            obtain ⟨⟨t202, t203, t204⟩, A160, H⟩ := H
            replace H : (if t204 = 0 then (if x199000_1.length < 8796093022208 then (key_Read.l0 kj4 l0 (wrap64 (x5_1 + (wrap64 (t203 + 1)))) x6_1 (x199000_1 ++ [t202]) 0 0) else (none)) else (key_Read.j2 kj4 l0 x5_1 false x199000_1 0 0)) = some (r1, r2, r3, r4) := H
            have A16 := Aside0.mk A160
            clear A160
            by_cases c17 : t204 = 0
            ·rw [if_pos c17] at H
             have c17b0 : (t204 == 0) = true := beq_iff_eq.mpr c17
             have c17b1 : (t204 != 0) = false := bne_eq_false_iff_eq.mpr c17
             clear c17
             by_cases c18 : x199000_1.length < 8796093022208
             ·rw [if_pos c18] at H
              have LMc18 := Aside0.mk c18
              clear c18
              obtain ⟨y205, hy205⟩ : ∃ y_ : List ByteArray, y_ = (x199000_1 ++ [t202]) := ⟨_, rfl⟩
              replace H : (key_Read.l0 kj4 l0 (wrap64 (x5_1 + (wrap64 (t203 + 1)))) x6_1 y205 0 0) = some (r1, r2, r3, r4) := by first | (rw [hy205]; with_reducible exact H) | (have H2_ := (Option.bind_some _ _).symm.trans H; rw [hy205]; with_reducible exact H2_) | (have H2_ := (Option.bind_some _ _).symm.trans H; with_reducible exact H2_) | with_reducible exact H | (rw [hy205]; exact H) | exact H
              have Ny205 := Aside0.mk hy205
              clear hy205
              have H' := Aside0.mk H
              clear H
              have p200 : 0 ≤ (x5_1 : Int) := of_decide_eq_true asmA
              have q200 : x5_1 < (l0.length : Int) := of_decide_eq_true asmA
              obtain ⟨ad200, e200, hx200_0⟩ := Kd.at_int HR0.out x5_1 p200 q200
              cases e200
              replace hx200_0 := (HB.out.cell (World.block_lt_of_cell? w _ hx200_0)).trans hx200_0
              replace p200 := eq_true p200
              replace q200 := eq_true q200
              obtain ⟨i019, hi019, _, hsz19, _⟩ := info_parts info5
              obtain ⟨A19, hcut19, hA19, hC19⟩ := print_drop_of (P := Try.prog) (Value.int .u8) 0 49 5 .i64 Try.underlying49 hi019 hsz19 (some ad200) c0 l0 (ji13) (of_decide_eq_true asmA) (of_decide_eq_true asmA) HC0.out
              have HR201 := Aside0.mk (Kd.C_of_reads (h1 := fun _ => rfl) (hA19 _ (Kd.reads_of_C HR0.out)))
              have HC201 := Aside0.mk hC19
              clear hA19 hC19 hi019 hsz19
              (go_wp2_with (first | ((with_reducible refine gate_callee (f := 93) rfl ?_); refine goesL_ (some 35) rfl rfl Try.func93 (by kernel_rfl) rfl #[.slice A19 (l0.drop ((ji13) : Int).toNat).length (c0 - (ji13).toNat)] rfl (by (try simp only [List.map_toArray, List.map_cons, List.map_nil]); first | done | (rw [show (l0.drop ((ji13) : Int).toNat).length = (l0.length - (ji13).toNat) from List.length_drop] <;> rfl) | (simp only [hji13]; rfl) | rfl | (simp only [List.length_drop, List.length_take]; rfl)) ?_; (with_reducible refine (code_ReadText.calls kj4 _ _ (l0.drop ((ji13) : Int).toNat) t202 t203 t204 _ ?side1 ?side2 A16.out).mono ?_); (case side1 => repeat (first | exact (Kd.C_below HR201.out HB.out) | (with_reducible refine Kd.C_alloc ?_ _) | (with_reducible refine Kd.C_drewN ?_ _) | (with_reducible refine Kd.C_drew ?_))); (case side2 => exact HC201.out); rintro e w20 ⟨rfl, hb⟩; refine ⟨_, rfl, ?_⟩; have n0_ := Aside0.mk (Kd.R_below (rowA HO_199000.out) hb); have n1_ := Aside0.mk (blk_below (g := gb197) (o := .cells #[.slice none 0 0, .int .i64 0, .int .i64 0] 62 (0, 0)) (blkA BK197.out) hb); have n2_ := Aside0.mk (blk_below (g := gb198) (o := .cells #[u199000, .int .i64 0, .int .i64 0] 62 (0, 0)) (blkA BK198.out) hb); have n3_ := Aside0.mk (below_step (belC HB.out GE197.out GE198.out) hb); clear HO_199000; clear BK197; clear BK198; clear HB; have HO_199000 := n0_; have BK197 := n1_; have BK198 := n2_; have HB := n3_; clear n0_ n1_ n2_ n3_; (try clear hb); (try clear hb2); (try clear hk); (try clear hi); have hnb21 := NB198_197.out; have hnc21 := NB197_198.out; have hcz22_0 : w20.cell? ⟨gb198, 0, none⟩ = some (u199000) := (blk_cell BK198.out 0).trans rfl; have hcz22_1 : w20.cell? ⟨gb198, 1, none⟩ = some (.int .i64 0) := (blk_cell BK198.out 1).trans rfl; have hcz22_2 : w20.cell? ⟨gb198, 2, none⟩ = some (.int .i64 0) := (blk_cell BK198.out 2).trans rfl; have hfz22_0 := blk_frozen BK198.out 0; have hfz22_1 := blk_frozen BK198.out 1; have hfz22_2 := blk_frozen BK198.out 2) | ((with_reducible refine gate_builtin (b := .append) (xs := #[.tmp 42, .tmp 44]) rfl ?_); (try (refine gate_guard (by rfl) ?_; dsimp only)); at_builtin; refine Kd.R_append Kd.string (w0 := w) w.heap.size rfl (.tmp 42) (.tmp 44) 44 9 (.string ⟨#[]⟩) 16 rfl Try.underlying44 info9 rfl (by decide) (by omega) u199000 x199000_1 t202 [.string t202] (fun _ => True) (fun _ => False) rfl rfl ?aP (fun _ hk => hk.elim) ?aF ?aO ?aB ?aS ?aL ?_; (case aP => exact rfl); (case aB => exact (belC HB.out GE197.out GE198.out)); (case aF => exact (fun _ _ => trivial)); (case aO => exact (rowA HO_199000.out)); (case aS => exact (below_size (belC HB.out GE197.out GE198.out))); (case aL => have := LMc18.out; omega); intro v206 w23 ho hb hg hat; rw [← Ny205.out] at ho; have n0_ := Aside0.mk (blk_grown (g := gb197) (o := .cells #[.slice none 0 0, .int .i64 0, .int .i64 0] 62 (0, 0)) (blkA BK197.out) hg (Kd.R_ne HO_199000.out BK197.out (by decide))); have n1_ := Aside0.mk (blk_grown (g := gb198) (o := .cells #[u199000, .int .i64 0, .int .i64 0] 62 (0, 0)) (blkA BK198.out) hg (Kd.R_ne HO_199000.out BK198.out (by decide))); have n2_ := Aside0.mk (hb); have n3_ := Aside0.mk (ho); clear BK197; clear BK198; clear HB; clear HO_199000; have BK197 := n0_; have BK198 := n1_; have HB := n2_; have HO207 := n3_; clear n0_ n1_ n2_ n3_; clear ho hb hg hat; obtain ⟨Ao24, co24, eo24⟩ := Kd.R_slice HO207.out; subst eo24; have hcz25_0 : w23.cell? ⟨gb198, 0, none⟩ = some (u199000) := (blk_cell BK198.out 0).trans rfl; have hcz25_1 : w23.cell? ⟨gb198, 1, none⟩ = some (.int .i64 0) := (blk_cell BK198.out 1).trans rfl; have hcz25_2 : w23.cell? ⟨gb198, 2, none⟩ = some (.int .i64 0) := (blk_cell BK198.out 2).trans rfl; have hfz25_0 := blk_frozen BK198.out 0; have hfz25_1 := blk_frozen BK198.out 1; have hfz25_2 := blk_frozen BK198.out 2)); repeat (go_step3; try (go_wp2_with (first | ((with_reducible refine gate_callee (f := 93) rfl ?_); refine goesL_ (some 35) rfl rfl Try.func93 (by kernel_rfl) rfl #[.slice A19 (l0.drop ((ji13) : Int).toNat).length (c0 - (ji13).toNat)] rfl (by (try simp only [List.map_toArray, List.map_cons, List.map_nil]); first | done | (rw [show (l0.drop ((ji13) : Int).toNat).length = (l0.length - (ji13).toNat) from List.length_drop] <;> rfl) | (simp only [hji13]; rfl) | rfl | (simp only [List.length_drop, List.length_take]; rfl)) ?_; (with_reducible refine (code_ReadText.calls kj4 _ _ (l0.drop ((ji13) : Int).toNat) t202 t203 t204 _ ?side1 ?side2 A16.out).mono ?_); (case side1 => repeat (first | exact (Kd.C_below HR201.out HB.out) | (with_reducible refine Kd.C_alloc ?_ _) | (with_reducible refine Kd.C_drewN ?_ _) | (with_reducible refine Kd.C_drew ?_))); (case side2 => exact HC201.out); rintro e w20 ⟨rfl, hb⟩; refine ⟨_, rfl, ?_⟩; have n0_ := Aside0.mk (Kd.R_below (rowA HO_199000.out) hb); have n1_ := Aside0.mk (blk_below (g := gb197) (o := .cells #[.slice none 0 0, .int .i64 0, .int .i64 0] 62 (0, 0)) (blkA BK197.out) hb); have n2_ := Aside0.mk (blk_below (g := gb198) (o := .cells #[u199000, .int .i64 0, .int .i64 0] 62 (0, 0)) (blkA BK198.out) hb); have n3_ := Aside0.mk (below_step (belC HB.out GE197.out GE198.out) hb); clear HO_199000; clear BK197; clear BK198; clear HB; have HO_199000 := n0_; have BK197 := n1_; have BK198 := n2_; have HB := n3_; clear n0_ n1_ n2_ n3_; (try clear hb); (try clear hb2); (try clear hk); (try clear hi); have hnb21 := NB198_197.out; have hnc21 := NB197_198.out; have hcz22_0 : w20.cell? ⟨gb198, 0, none⟩ = some (u199000) := (blk_cell BK198.out 0).trans rfl; have hcz22_1 : w20.cell? ⟨gb198, 1, none⟩ = some (.int .i64 0) := (blk_cell BK198.out 1).trans rfl; have hcz22_2 : w20.cell? ⟨gb198, 2, none⟩ = some (.int .i64 0) := (blk_cell BK198.out 2).trans rfl; have hfz22_0 := blk_frozen BK198.out 0; have hfz22_1 := blk_frozen BK198.out 1; have hfz22_2 := blk_frozen BK198.out 2) | ((with_reducible refine gate_builtin (b := .append) (xs := #[.tmp 42, .tmp 44]) rfl ?_); (try (refine gate_guard (by rfl) ?_; dsimp only)); at_builtin; refine Kd.R_append Kd.string (w0 := w) w.heap.size rfl (.tmp 42) (.tmp 44) 44 9 (.string ⟨#[]⟩) 16 rfl Try.underlying44 info9 rfl (by decide) (by omega) u199000 x199000_1 t202 [.string t202] (fun _ => True) (fun _ => False) rfl rfl ?aP (fun _ hk => hk.elim) ?aF ?aO ?aB ?aS ?aL ?_; (case aP => exact rfl); (case aB => exact (belC HB.out GE197.out GE198.out)); (case aF => exact (fun _ _ => trivial)); (case aO => exact (rowA HO_199000.out)); (case aS => exact (below_size (belC HB.out GE197.out GE198.out))); (case aL => have := LMc18.out; omega); intro v206 w23 ho hb hg hat; rw [← Ny205.out] at ho; have n0_ := Aside0.mk (blk_grown (g := gb197) (o := .cells #[.slice none 0 0, .int .i64 0, .int .i64 0] 62 (0, 0)) (blkA BK197.out) hg (Kd.R_ne HO_199000.out BK197.out (by decide))); have n1_ := Aside0.mk (blk_grown (g := gb198) (o := .cells #[u199000, .int .i64 0, .int .i64 0] 62 (0, 0)) (blkA BK198.out) hg (Kd.R_ne HO_199000.out BK198.out (by decide))); have n2_ := Aside0.mk (hb); have n3_ := Aside0.mk (ho); clear BK197; clear BK198; clear HB; clear HO_199000; have BK197 := n0_; have BK198 := n1_; have HB := n2_; have HO207 := n3_; clear n0_ n1_ n2_ n3_; clear ho hb hg hat; obtain ⟨Ao24, co24, eo24⟩ := Kd.R_slice HO207.out; subst eo24; have hcz25_0 : w23.cell? ⟨gb198, 0, none⟩ = some (u199000) := (blk_cell BK198.out 0).trans rfl; have hcz25_1 : w23.cell? ⟨gb198, 1, none⟩ = some (.int .i64 0) := (blk_cell BK198.out 1).trans rfl; have hcz25_2 : w23.cell? ⟨gb198, 2, none⟩ = some (.int .i64 0) := (blk_cell BK198.out 2).trans rfl; have hfz25_0 := blk_frozen BK198.out 0; have hfz25_1 := blk_frozen BK198.out 1; have hfz25_2 := blk_frozen BK198.out 2)))))
              go_roundg kj4
              case measure => have := HK1.out; have := HJ4.out; omega
              case rel => exact ⟨(wrap64 (x5_1 + (wrap64 (t203 + 1)))), (x6_1), (y205), (.slice Ao24 y205.length co24), relA, relA, H', ⟨by have := HK1.out; have := HJ4.out; omega⟩, ⟨by (with_reducible repeat (first | apply Kd.R_alloc | apply Kd.R_drewN | apply Kd.R_drew)); exact Kd.R_mono (Kd.R_far (p := ⟨gb198, 0, none⟩) (Kd.R_types HO207.out BK198.out (by decide)) (fun _ hk => hk.2) (.slice Ao24 y205.length co24)) (fun _ hk => trivial)⟩, ⟨by (with_reducible repeat (first | refine blk_drewN ?_ _ | refine blk_drew ?_ | refine blk_alloc ?_ _)); refine blk_far ?_ NB197_198.out _; (with_reducible repeat (first | refine blk_drewN ?_ _ | refine blk_drew ?_ | refine blk_alloc ?_ _)); exact BK197.out⟩, ⟨by (with_reducible repeat (first | refine blk_drewN ?_ _ | refine blk_drew ?_ | refine blk_alloc ?_ _)); refine blk_put (cs := #[u199000, .int .i64 0, .int .i64 0]) ?_ 0 _ rfl; (with_reducible repeat (first | refine blk_drewN ?_ _ | refine blk_drew ?_ | refine blk_alloc ?_ _)); exact BK198.out⟩, ⟨belC HB.out GE197.out GE198.out⟩⟩
             ·rw [if_neg c18] at H
              exact absurd H (by simp)
            ·rw [if_neg c17] at H
             have c17b0 : (t204 == 0) = false := beq_eq_false_iff_ne.mpr c17
             have c17b1 : (t204 != 0) = true := bne_iff_ne.mpr c17
             have H' := Aside0.mk H
             clear H
             have p200 : 0 ≤ (x5_1 : Int) := of_decide_eq_true asmA
             have q200 : x5_1 < (l0.length : Int) := of_decide_eq_true asmA
             obtain ⟨ad200, e200, hx200_0⟩ := Kd.at_int HR0.out x5_1 p200 q200
             cases e200
             replace hx200_0 := (HB.out.cell (World.block_lt_of_cell? w _ hx200_0)).trans hx200_0
             replace p200 := eq_true p200
             replace q200 := eq_true q200
             obtain ⟨i026, hi026, _, hsz26, _⟩ := info_parts info5
             obtain ⟨A26, hcut26, hA26, hC26⟩ := print_drop_of (P := Try.prog) (Value.int .u8) 0 49 5 .i64 Try.underlying49 hi026 hsz26 (some ad200) c0 l0 (ji13) (of_decide_eq_true asmA) (of_decide_eq_true asmA) HC0.out
             have HR201 := Aside0.mk (Kd.C_of_reads (h1 := fun _ => rfl) (hA26 _ (Kd.reads_of_C HR0.out)))
             have HC201 := Aside0.mk hC26
             clear hA26 hC26 hi026 hsz26
             (go_wp2_with (first | ((with_reducible refine gate_callee (f := 93) rfl ?_); refine goesL_ (some 35) rfl rfl Try.func93 (by kernel_rfl) rfl #[.slice A26 (l0.drop ((ji13) : Int).toNat).length (c0 - (ji13).toNat)] rfl (by (try simp only [List.map_toArray, List.map_cons, List.map_nil]); first | done | (rw [show (l0.drop ((ji13) : Int).toNat).length = (l0.length - (ji13).toNat) from List.length_drop] <;> rfl) | (simp only [hji13]; rfl) | rfl | (simp only [List.length_drop, List.length_take]; rfl)) ?_; (with_reducible refine (code_ReadText.calls kj4 _ _ (l0.drop ((ji13) : Int).toNat) t202 t203 t204 _ ?side1 ?side2 A16.out).mono ?_); (case side1 => repeat (first | exact (Kd.C_below HR201.out HB.out) | (with_reducible refine Kd.C_alloc ?_ _) | (with_reducible refine Kd.C_drewN ?_ _) | (with_reducible refine Kd.C_drew ?_))); (case side2 => exact HC201.out); rintro e w27 ⟨rfl, hb⟩; refine ⟨_, rfl, ?_⟩; have n0_ := Aside0.mk (Kd.R_below (rowA HO_199000.out) hb); have n1_ := Aside0.mk (blk_below (g := gb197) (o := .cells #[.slice none 0 0, .int .i64 0, .int .i64 0] 62 (0, 0)) (blkA BK197.out) hb); have n2_ := Aside0.mk (blk_below (g := gb198) (o := .cells #[u199000, .int .i64 0, .int .i64 0] 62 (0, 0)) (blkA BK198.out) hb); have n3_ := Aside0.mk (below_step (belC HB.out GE197.out GE198.out) hb); clear HO_199000; clear BK197; clear BK198; clear HB; have HO_199000 := n0_; have BK197 := n1_; have BK198 := n2_; have HB := n3_; clear n0_ n1_ n2_ n3_; (try clear hb); (try clear hb2); (try clear hk); (try clear hi))); repeat (go_step3; try (go_wp2_with (first | ((with_reducible refine gate_callee (f := 93) rfl ?_); refine goesL_ (some 35) rfl rfl Try.func93 (by kernel_rfl) rfl #[.slice A26 (l0.drop ((ji13) : Int).toNat).length (c0 - (ji13).toNat)] rfl (by (try simp only [List.map_toArray, List.map_cons, List.map_nil]); first | done | (rw [show (l0.drop ((ji13) : Int).toNat).length = (l0.length - (ji13).toNat) from List.length_drop] <;> rfl) | (simp only [hji13]; rfl) | rfl | (simp only [List.length_drop, List.length_take]; rfl)) ?_; (with_reducible refine (code_ReadText.calls kj4 _ _ (l0.drop ((ji13) : Int).toNat) t202 t203 t204 _ ?side1 ?side2 A16.out).mono ?_); (case side1 => repeat (first | exact (Kd.C_below HR201.out HB.out) | (with_reducible refine Kd.C_alloc ?_ _) | (with_reducible refine Kd.C_drewN ?_ _) | (with_reducible refine Kd.C_drew ?_))); (case side2 => exact HC201.out); rintro e w27 ⟨rfl, hb⟩; refine ⟨_, rfl, ?_⟩; have n0_ := Aside0.mk (Kd.R_below (rowA HO_199000.out) hb); have n1_ := Aside0.mk (blk_below (g := gb197) (o := .cells #[.slice none 0 0, .int .i64 0, .int .i64 0] 62 (0, 0)) (blkA BK197.out) hb); have n2_ := Aside0.mk (blk_below (g := gb198) (o := .cells #[u199000, .int .i64 0, .int .i64 0] 62 (0, 0)) (blkA BK198.out) hb); have n3_ := Aside0.mk (below_step (belC HB.out GE197.out GE198.out) hb); clear HO_199000; clear BK197; clear BK198; clear HB; have HO_199000 := n0_; have BK197 := n1_; have BK198 := n2_; have HB := n3_; clear n0_ n1_ n2_ n3_; (try clear hb); (try clear hb2); (try clear hk); (try clear hi))))))
             go_meet
             case rel => exact ⟨_, (x5_1), (false), (x199000_1), (u199000), relA, relA, H', ⟨by have := HK1.out; have := HJ4.out; first | omega | exact Nat.le_refl _⟩, ⟨rowA HO_199000.out⟩, ⟨blkA BK197.out⟩, ⟨blkA BK198.out⟩, ⟨belC HB.out GE197.out GE198.out⟩⟩
           ·rw [if_neg c15] at H
            exact absurd H (by simp)
          ·rw [if_neg c14] at H
           exact absurd H (by simp)
        ·rw [if_neg c11] at H
         exact absurd H (by simp)
       ·rw [if_neg c10] at H
        exact absurd H (by simp)
 case rest =>
  clear HC2
  try clear c1
  try clear p1
  try clear q1
  try clear hx1
  try clear c2
  try clear p2
  try clear q2
  try clear hx2
  try clear p3
  try clear c6
  try clear c6b0
  try clear p6
  try clear c7
  try clear c7b0
  try clear c8
  try clear c8b0
  try clear c9
  try clear c10
  try clear c10b0
  try clear c11
  try clear c11b0
  try clear c12
  try clear c12b0
  try clear c12b1
  try clear c14
  try clear c14b0
  try clear c14b1
  try clear c15
  try clear c15b0
  try clear c15b1
  try clear c17
  try clear c17b0
  try clear c17b1
  try clear c18
  try clear p19
  try clear q19
  try clear hx19
  try clear p20
  try clear q20
  try clear hx20
  try clear c21
  try clear hcz22_0
  try clear hcz22_1
  try clear hcz22_2
  try clear hcz25_0
  try clear hcz25_1
  try clear hcz25_2
  try clear hfz22_0
  try clear hfz22_1
  try clear hfz22_2
  try clear hfz25_0
  try clear hfz25_1
  try clear hfz25_2
  try clear hx199_0
  try clear hx200_0
  try clear p1
  try clear p199
  try clear p2
  try clear p200
  try clear p3
  try clear q1
  try clear q199
  try clear q200
  obtain ⟨kq, x5_1, x6_1, x199000_1, u199000, rfl, rfl, HA, HJ1, HO_199000, BK197, BK198, HB⟩ := hcut
  cases kq with
  | zero => exact absurd HA.out (by simp [key_Read.j2])
  | succ kj1 =>
   have H := HA.out
   clear HA
   simp only [key_Read.j2] at H
   have HC28 := Aside0.mk H
   clear H
   (go_upto_region 12 with (fail); repeat (go_step3; try (go_upto_region 12 with (fail))))
   go_cut [59] (fun v59 wc => ∃ (kq : Nat) (x59_27 : Bool), v59 = .bool x59_27 ∧ Aside0 (key_Read.j3 kq l0 x5_1 x59_27 x199000_1 0 0 = some (r1, r2, r3, r4)) ∧ Aside0 (kq ≤ kj1) ∧ Aside0 (Kd.R Kd.string 9 wc w.heap.size (fun _ => True) u199000 x199000_1) ∧ Aside0 (wc.heap[gb197]? = some (.cells #[(.slice none 0 0), .int .i64 0, .int .i64 0] 62 (0, 0))) ∧ Aside0 (wc.heap[gb198]? = some (.cells #[u199000, .int .i64 0, .int .i64 0] 62 (0, 0))) ∧ Aside0 (Below w.heap.size w wc))
   case first =>
    have H := HC28.out
    clear HC28
    by_cases c29 : x6_1 = true
    ·subst c29
     have H1 : (key_Read.j3 kj1 l0 x5_1 ((l0.length : Int) != (wrap64 (x5_1 + 9))) x199000_1 0 0) = some (r1, r2, r3, r4) := by rw [if_pos rfl] at H; exact H
     clear H
     have H := H1
     clear H1
     have H' := Aside0.mk H
     clear H
     (go_wp2; repeat (go_step3; try (go_wp2)))
     go_meet
     case rel => exact ⟨_, (((l0.length : Int) != (wrap64 (x5_1 + 9)))), relA, H', ⟨by have := HJ1.out; first | omega | exact Nat.le_refl _⟩, ⟨rowA HO_199000.out⟩, ⟨blkA BK197.out⟩, ⟨blkA BK198.out⟩, ⟨belC HB.out GE197.out GE198.out⟩⟩
    ·replace c29 := Bool.eq_false_iff.mpr c29
     subst c29
     have H1 : (key_Read.j3 kj1 l0 x5_1 true x199000_1 0 0) = some (r1, r2, r3, r4) := by rw [if_neg (show ¬ (false = true) by decide)] at H; exact H
     clear H
     have H := H1
     clear H1
     have H' := Aside0.mk H
     clear H
     (go_wp2; repeat (go_step3; try (go_wp2)))
     go_meet
     case rel => exact ⟨_, (true), relA, H', ⟨by have := HJ1.out; first | omega | exact Nat.le_refl _⟩, ⟨rowA HO_199000.out⟩, ⟨blkA BK197.out⟩, ⟨blkA BK198.out⟩, ⟨belC HB.out GE197.out GE198.out⟩⟩
   case rest =>
    clear HC28
    try clear c1
    try clear p1
    try clear q1
    try clear hx1
    try clear c2
    try clear p2
    try clear q2
    try clear hx2
    try clear p3
    try clear c6
    try clear c6b0
    try clear p6
    try clear c7
    try clear c7b0
    try clear c8
    try clear c8b0
    try clear c9
    try clear c10
    try clear c10b0
    try clear c11
    try clear c11b0
    try clear c12
    try clear c12b0
    try clear c12b1
    try clear c14
    try clear c14b0
    try clear c14b1
    try clear c15
    try clear c15b0
    try clear c15b1
    try clear c17
    try clear c17b0
    try clear c17b1
    try clear c18
    try clear p19
    try clear q19
    try clear hx19
    try clear p20
    try clear q20
    try clear hx20
    try clear c21
    try clear c29
    try clear hcz22_0
    try clear hcz22_1
    try clear hcz22_2
    try clear hcz25_0
    try clear hcz25_1
    try clear hcz25_2
    try clear hfz22_0
    try clear hfz22_1
    try clear hfz22_2
    try clear hfz25_0
    try clear hfz25_1
    try clear hfz25_2
    try clear hx199_0
    try clear hx200_0
    try clear p1
    try clear p19
    try clear p199
    try clear p2
    try clear p20
    try clear p200
    try clear p3
    try clear p6
    try clear q1
    try clear q19
    try clear q199
    try clear q2
    try clear q20
    try clear q200
    obtain ⟨kq, x59_27, rfl, HA, HJ27, HO_199000, BK197, BK198, HB⟩ := hcut
    cases kq with
    | zero => exact absurd HA.out (by simp [key_Read.j3])
    | succ kj27 =>
     have H := HA.out
     clear HA
     simp only [key_Read.j3] at H
     by_cases c30 : x59_27 = true
     ·subst c30
      have H1 : (some (([] : List ByteArray), 0, 0, 40)) = some (r1, r2, r3, r4) := by rw [if_pos rfl] at H; exact H
      clear H
      have H := H1
      clear H1
      simp only [Option.some.injEq, Prod.mk.injEq] at H
      obtain ⟨rfl, rfl, rfl, rfl⟩ := H
      have hnb31 := NB197_198.out
      have hnc31 := NB198_197.out
      have hcz32_0 : wc.cell? ⟨gb197, 0, none⟩ = some (.slice none 0 0) := (blk_cell BK197.out 0).trans rfl
      have hcz32_1 : wc.cell? ⟨gb197, 1, none⟩ = some (.int .i64 0) := (blk_cell BK197.out 1).trans rfl
      have hcz32_2 : wc.cell? ⟨gb197, 2, none⟩ = some (.int .i64 0) := (blk_cell BK197.out 2).trans rfl
      have hfz32_0 := blk_frozen BK197.out 0
      have hfz32_1 := blk_frozen BK197.out 1
      have hfz32_2 := blk_frozen BK197.out 2
      (go_wp2; repeat (go_step3; try (go_wp2)))
      (try rw [Exit.noGoto_ret]); refine bodyPost_ret (results_ct rfl _ _ gb197 62 #[.slice none 0 0, .int .i64 0, .int .i64 0] (0, 0) _ rfl (by (with_reducible repeat (first | refine blk_drewN ?_ _ | refine blk_drew ?_ | refine blk_alloc ?_ _)); refine blk_put (cs := #[.slice none 0 0, .int .i64 0, .int .i64 0]) ?_ 2 _ rfl; (with_reducible repeat (first | refine blk_drewN ?_ _ | refine blk_drew ?_ | refine blk_alloc ?_ _)); refine blk_put (cs := #[.slice none 0 0, .int .i64 0, .int .i64 0]) ?_ 1 _ rfl; (with_reducible repeat (first | refine blk_drewN ?_ _ | refine blk_drew ?_ | refine blk_alloc ?_ _)); refine blk_put (cs := #[.slice none 0 0, .int .i64 0, .int .i64 0]) ?_ 0 _ rfl; (with_reducible repeat (first | refine blk_drewN ?_ _ | refine blk_drew ?_ | refine blk_alloc ?_ _)); exact BK197.out) Try.underlying62 rfl (by kernel_rfl)) rfl ?_
      exact ⟨_, by first | rfl | (simp [errW_none, errW_some] <;> rfl) | (simp [*, errW_none, errW_some] <;> rfl) | (exfalso; simp_all; done), by first | exact Kd.R_nil _ _ _ _ _ | exact Kd.N_nil _ _ _ _ _ | exact Kd.V_nil _ _ _ _ _ | exact Kd.Q_nil _ _ _ _ _ | exact Kd.S_nil _ _ _ _ _, belC HB.out GE197.out GE198.out⟩
     ·replace c30 := Bool.eq_false_iff.mpr c30
      subst c30
      have H1 : (if 0 ≤ x5_1 then (if x5_1 ≤ (l0.length : Int) then ((code_ReadNumber.f (l0.drop (x5_1 : Int).toNat)).bind fun bt209 => (if 0 ≤ (wrap64 (x5_1 + 8)) then (if (wrap64 (x5_1 + 8)) < (l0.length : Int) then ((key_Right.f x199000_1 bt209.1 (wrap64 (rd l0 (wrap64 (x5_1 + 8))))).bind fun t213 => (if t213 = true then (some (x199000_1, bt209.1, wrap64 (rd l0 (wrap64 (x5_1 + 8))), 0)) else (some (([] : List ByteArray), 0, 0, 40)))) else (none)) else (none))) else (none)) else (none)) = some (r1, r2, r3, r4) := by rw [if_neg (show ¬ (false = true) by decide)] at H; exact H
      clear H
      have H := H1
      clear H1
      by_cases c33 : 0 ≤ x5_1
      ·rw [if_pos c33] at H
       have c33b0 := eq_true c33
       have c33b1 : decide (0 ≤ x5_1) = true := decide_eq_true c33
       clear c33
       by_cases c34 : x5_1 ≤ (l0.length : Int)
       ·rw [if_pos c34] at H
        have c34b0 := eq_true c34
        have c34b1 : decide (x5_1 ≤ (l0.length : Int)) = true := decide_eq_true c34
        clear c34
        replace H := Option.bind_eq_some_iff.mp H
        obtain ⟨⟨t209, t210, t211⟩, A350, H⟩ := H
        replace H : (if 0 ≤ (wrap64 (x5_1 + 8)) then (if (wrap64 (x5_1 + 8)) < (l0.length : Int) then ((key_Right.f x199000_1 t209 (wrap64 (rd l0 (wrap64 (x5_1 + 8))))).bind fun t213 => (if t213 = true then (some (x199000_1, t209, wrap64 (rd l0 (wrap64 (x5_1 + 8))), 0)) else (some (([] : List ByteArray), 0, 0, 40)))) else (none)) else (none)) = some (r1, r2, r3, r4) := H
        have A35 := Aside0.mk A350
        clear A350
        obtain ⟨ji36, hji36⟩ : ∃ j_ : Int, (wrap64 (x5_1 + 8)) = j_ := ⟨_, rfl⟩
        replace H : (if 0 ≤ (ji36) then (if (ji36) < (l0.length : Int) then ((key_Right.f x199000_1 t209 (wrap64 (rd l0 (ji36)))).bind fun t213 => (if t213 = true then (some (x199000_1, t209, wrap64 (rd l0 (ji36)), 0)) else (some (([] : List ByteArray), 0, 0, 40)))) else (none)) else (none)) = some (r1, r2, r3, r4) := by first | (rw [hji36] at H; exact H) | (simp only [hji36] at H ⊢; exact H)
        (try rw [hji36] at A35)
        have hji36w : (IntKind.i64.wrap (x5_1 + 8)) = ji36 := (i64_w _).trans hji36
        by_cases c37 : 0 ≤ (ji36)
        ·rw [if_pos c37] at H
         have c37b0 : decide (0 ≤ (ji36)) = true := decide_eq_true c37
         clear c37
         by_cases c38 : (ji36) < (l0.length : Int)
         ·rw [if_pos c38] at H
          have c38b0 : decide ((ji36) < (l0.length : Int)) = true := decide_eq_true c38
          clear c38
          replace H := Option.bind_eq_some_iff.mp H
          obtain ⟨t213, A390, H⟩ := H
          replace H : (if t213 = true then (some (x199000_1, t209, wrap64 (rd l0 (ji36)), 0)) else (some (([] : List ByteArray), 0, 0, 40))) = some (r1, r2, r3, r4) := H
          have A39 := Aside0.mk A390
          clear A390
          by_cases c40 : t213 = true
          ·subst c40
           have H1 : (some (x199000_1, t209, wrap64 (rd l0 (ji36)), 0)) = some (r1, r2, r3, r4) := by rw [if_pos rfl] at H; exact H
           clear H
           have H := H1
           clear H1
           simp only [Option.some.injEq, Prod.mk.injEq] at H
           obtain ⟨rfl, rfl, rfl, rfl⟩ := H
           obtain ⟨i041, hi041, _, hsz41, _⟩ := info_parts info5
           obtain ⟨A41, hcut41, hA41, hC41⟩ := print_drop_of (P := Try.prog) (Value.int .u8) 0 49 5 .i64 Try.underlying49 hi041 hsz41 A0 c0 l0 x5_1 (of_decide_eq_true asmA) (of_decide_eq_true asmA) HC0.out
           have HR208 := Aside0.mk (Kd.C_of_reads (h1 := fun _ => rfl) (hA41 _ (Kd.reads_of_C HR0.out)))
           have HC208 := Aside0.mk hC41
           clear hA41 hC41 hi041 hsz41
           (go_wp2_with (first | ((with_reducible refine gate_callee (f := 94) rfl ?_); refine goesL_ (some 65) rfl rfl Try.func94 (by kernel_rfl) rfl #[.slice A41 (l0.drop (x5_1 : Int).toNat).length (c0 - x5_1.toNat)] rfl (by (try simp only [List.map_toArray, List.map_cons, List.map_nil]); first | done | (rw [show (l0.drop (x5_1 : Int).toNat).length = (l0.length - x5_1.toNat) from List.length_drop] <;> rfl) | rfl | (simp only [List.length_drop, List.length_take]; rfl)) ?_; (with_reducible refine (code_ReadNumber.calls _ _ (l0.drop (x5_1 : Int).toNat) t209 t210 t211 _ ?side1 ?side2 A35.out).mono ?_); (case side1 => repeat (first | exact (Kd.C_below HR208.out HB.out) | (with_reducible refine Kd.C_alloc ?_ _) | (with_reducible refine Kd.C_drewN ?_ _) | (with_reducible refine Kd.C_drew ?_))); (case side2 => exact HC208.out); rintro e w' ⟨rfl, ⟨nd, rfl⟩⟩; refine ⟨_, rfl, ?_⟩; (try (rw [drewN_self wc]; generalize hq_ : World.drewN wc _ = wc; have n0_ : Aside0 (Kd.R Kd.string 9 wc w.heap.size (fun _ => True) u199000 x199000_1) := ⟨by rw [← hq_]; exact (rowA HO_199000.out)⟩; have n1_ : Aside0 (wc.heap[gb197]? = some (.cells #[.slice none 0 0, .int .i64 0, .int .i64 0] 62 (0, 0))) := ⟨by rw [← hq_]; exact (blkA BK197.out)⟩; have n2_ : Aside0 (wc.heap[gb198]? = some (.cells #[u199000, .int .i64 0, .int .i64 0] 62 (0, 0))) := ⟨by rw [← hq_]; exact (blkA BK198.out)⟩; have n3_ : Aside0 (Below w.heap.size w wc) := ⟨by rw [← hq_]; exact (belC HB.out GE197.out GE198.out)⟩; clear HO_199000 BK197 BK198 HB hq_; have HO_199000 := n0_; have BK197 := n1_; have BK198 := n2_; have HB := n3_; clear n0_ n1_ n2_ n3_)); have hnb42 := NB198_197.out; have hnc42 := NB197_198.out; have hcz43_0 : wc.cell? ⟨gb198, 0, none⟩ = some (u199000) := (blk_cell BK198.out 0).trans rfl; have hcz43_1 : wc.cell? ⟨gb198, 1, none⟩ = some (.int .i64 0) := (blk_cell BK198.out 1).trans rfl; have hcz43_2 : wc.cell? ⟨gb198, 2, none⟩ = some (.int .i64 0) := (blk_cell BK198.out 2).trans rfl; have hfz43_0 := blk_frozen BK198.out 0; have hfz43_1 := blk_frozen BK198.out 1; have hfz43_2 := blk_frozen BK198.out 2; have p212 : 0 ≤ ((ji36) : Int) := of_decide_eq_true asmA; have q212 : (ji36) < (l0.length : Int) := of_decide_eq_true asmA; obtain ⟨ad212, e212, hx212_0⟩ := Kd.at_int HR0.out (ji36) p212 q212; cases e212; have hn212_0 : ad212.block ≠ gb198 := Nat.ne_of_lt (Nat.lt_of_lt_of_le (by have := World.block_lt_of_cell? _ _ hx212_0; first | rwa [add_block] at this | exact this) GW198.out); replace hx212_0 := (HB.out.cell (World.block_lt_of_cell? w _ hx212_0)).trans hx212_0; replace hx212_0 := (cell_far (p := ⟨gb198, 1, none⟩) (by first | (rw [add_block]; exact hn212_0) | (show (Addr.add _ _).block ≠ _; rw [add_block]; exact hn212_0) | exact hn212_0) (.int .i64 t209)).trans hx212_0; clear hn212_0; replace p212 := eq_true p212; replace q212 := eq_true q212; obtain ⟨Ao44, co44, eo44⟩ := Kd.R_slice HO_199000.out; subst eo44) | ((with_reducible refine gate_callee (f := 28) rfl ?_); refine goesL_ (some 78) rfl rfl Try.func28 (by kernel_rfl) rfl #[.agg #[.slice Ao44 x199000_1.length co44, .int .i64 t209, .int .i64 (wrap64 (rd l0 (ji36)))]] rfl (by (try simp only [List.map_toArray, List.map_cons, List.map_nil]); first | done | (simp only [hji36]; rfl) | rfl | (simp only [List.length_drop, List.length_take]; rfl)) ?_; (with_reducible refine (key_Right.calls _ _ x199000_1 t209 (wrap64 (rd l0 (ji36))) true _ ?side1 ?side2 A39.out).mono ?_); (case side1 => refine (Kd.R_reads' (e := 9) (base := w.heap.size) (ok := fun k_ => True) (n := x199000_1.length) (c := co44) ?_).2.2; exact (by (with_reducible repeat (first | apply Kd.R_alloc | apply Kd.R_drewN | apply Kd.R_drew)); exact (Kd.R_mono (Kd.R_far (p := ⟨gb198, 2, none⟩) (Kd.R_far (p := ⟨gb198, 1, none⟩) (Kd.R_types HO_199000.out BK198.out (by decide)) (fun _ hk => hk.2) (.int .i64 t209)) (fun _ hk => hk.2) (.int .i64 (wrap64 (rd l0 (ji36))))) (fun _ h_ => h_.1)))); (case side2 => exact (Kd.R_reads' HO_199000.out).2.1); rintro e w45 ⟨rfl, hb⟩; refine ⟨_, rfl, ?_⟩; have n0_ := Aside0.mk (Kd.R_below (by (with_reducible repeat (first | apply Kd.R_alloc | apply Kd.R_drewN | apply Kd.R_drew)); exact (Kd.R_mono (Kd.R_far (p := ⟨gb198, 2, none⟩) (Kd.R_far (p := ⟨gb198, 1, none⟩) (Kd.R_types HO_199000.out BK198.out (by decide)) (fun _ hk => hk.2) (.int .i64 t209)) (fun _ hk => hk.2) (.int .i64 (wrap64 (rd l0 (ji36))))) (fun _ h_ => h_.1))) hb); have n1_ := Aside0.mk (blk_below (g := gb197) (o := .cells #[.slice none 0 0, .int .i64 0, .int .i64 0] 62 (0, 0)) (by (with_reducible repeat (first | refine blk_drewN ?_ _ | refine blk_drew ?_ | refine blk_alloc ?_ _)); refine blk_far ?_ NB197_198.out _; (with_reducible repeat (first | refine blk_drewN ?_ _ | refine blk_drew ?_ | refine blk_alloc ?_ _)); refine blk_far ?_ NB197_198.out _; (with_reducible repeat (first | refine blk_drewN ?_ _ | refine blk_drew ?_ | refine blk_alloc ?_ _)); exact BK197.out) hb); have n2_ := Aside0.mk (blk_below (g := gb198) (o := .cells #[.slice Ao44 x199000_1.length co44, .int .i64 t209, .int .i64 (wrap64 (rd l0 (ji36)))] 62 (0, 0)) (by (with_reducible repeat (first | refine blk_drewN ?_ _ | refine blk_drew ?_ | refine blk_alloc ?_ _)); refine blk_put (cs := #[.slice Ao44 x199000_1.length co44, .int .i64 t209, .int .i64 0]) ?_ 2 _ rfl; (with_reducible repeat (first | refine blk_drewN ?_ _ | refine blk_drew ?_ | refine blk_alloc ?_ _)); refine blk_put (cs := #[.slice Ao44 x199000_1.length co44, .int .i64 0, .int .i64 0]) ?_ 1 _ rfl; (with_reducible repeat (first | refine blk_drewN ?_ _ | refine blk_drew ?_ | refine blk_alloc ?_ _)); exact BK198.out) hb); have n3_ := Aside0.mk (below_step (belC HB.out GE197.out GE198.out) hb); clear HO_199000; clear BK197; clear BK198; clear HB; have HO_199000 := n0_; have BK197 := n1_; have BK198 := n2_; have HB := n3_; clear n0_ n1_ n2_ n3_; (try clear hb); (try clear hb2); (try clear hk); (try clear hi); have hcz46_0 : w45.cell? ⟨gb198, 0, none⟩ = some (.slice Ao44 x199000_1.length co44) := (blk_cell BK198.out 0).trans rfl; have hcz46_1 : w45.cell? ⟨gb198, 1, none⟩ = some (.int .i64 t209) := (blk_cell BK198.out 1).trans rfl; have hcz46_2 : w45.cell? ⟨gb198, 2, none⟩ = some (.int .i64 (wrap64 (rd l0 (ji36)))) := (blk_cell BK198.out 2).trans rfl; have hfz46_0 := blk_frozen BK198.out 0; have hfz46_1 := blk_frozen BK198.out 1; have hfz46_2 := blk_frozen BK198.out 2; have hcz47_0 : w45.cell? ⟨gb197, 0, none⟩ = some (.slice none 0 0) := (blk_cell BK197.out 0).trans rfl; have hcz47_1 : w45.cell? ⟨gb197, 1, none⟩ = some (.int .i64 0) := (blk_cell BK197.out 1).trans rfl; have hcz47_2 : w45.cell? ⟨gb197, 2, none⟩ = some (.int .i64 0) := (blk_cell BK197.out 2).trans rfl; have hfz47_0 := blk_frozen BK197.out 0; have hfz47_1 := blk_frozen BK197.out 1; have hfz47_2 := blk_frozen BK197.out 2)); repeat (go_step3; try (go_wp2_with (first | ((with_reducible refine gate_callee (f := 94) rfl ?_); refine goesL_ (some 65) rfl rfl Try.func94 (by kernel_rfl) rfl #[.slice A41 (l0.drop (x5_1 : Int).toNat).length (c0 - x5_1.toNat)] rfl (by (try simp only [List.map_toArray, List.map_cons, List.map_nil]); first | done | (rw [show (l0.drop (x5_1 : Int).toNat).length = (l0.length - x5_1.toNat) from List.length_drop] <;> rfl) | rfl | (simp only [List.length_drop, List.length_take]; rfl)) ?_; (with_reducible refine (code_ReadNumber.calls _ _ (l0.drop (x5_1 : Int).toNat) t209 t210 t211 _ ?side1 ?side2 A35.out).mono ?_); (case side1 => repeat (first | exact (Kd.C_below HR208.out HB.out) | (with_reducible refine Kd.C_alloc ?_ _) | (with_reducible refine Kd.C_drewN ?_ _) | (with_reducible refine Kd.C_drew ?_))); (case side2 => exact HC208.out); rintro e w' ⟨rfl, ⟨nd, rfl⟩⟩; refine ⟨_, rfl, ?_⟩; (try (rw [drewN_self wc]; generalize hq_ : World.drewN wc _ = wc; have n0_ : Aside0 (Kd.R Kd.string 9 wc w.heap.size (fun _ => True) u199000 x199000_1) := ⟨by rw [← hq_]; exact (rowA HO_199000.out)⟩; have n1_ : Aside0 (wc.heap[gb197]? = some (.cells #[.slice none 0 0, .int .i64 0, .int .i64 0] 62 (0, 0))) := ⟨by rw [← hq_]; exact (blkA BK197.out)⟩; have n2_ : Aside0 (wc.heap[gb198]? = some (.cells #[u199000, .int .i64 0, .int .i64 0] 62 (0, 0))) := ⟨by rw [← hq_]; exact (blkA BK198.out)⟩; have n3_ : Aside0 (Below w.heap.size w wc) := ⟨by rw [← hq_]; exact (belC HB.out GE197.out GE198.out)⟩; clear HO_199000 BK197 BK198 HB hq_; have HO_199000 := n0_; have BK197 := n1_; have BK198 := n2_; have HB := n3_; clear n0_ n1_ n2_ n3_)); have hnb42 := NB198_197.out; have hnc42 := NB197_198.out; have hcz43_0 : wc.cell? ⟨gb198, 0, none⟩ = some (u199000) := (blk_cell BK198.out 0).trans rfl; have hcz43_1 : wc.cell? ⟨gb198, 1, none⟩ = some (.int .i64 0) := (blk_cell BK198.out 1).trans rfl; have hcz43_2 : wc.cell? ⟨gb198, 2, none⟩ = some (.int .i64 0) := (blk_cell BK198.out 2).trans rfl; have hfz43_0 := blk_frozen BK198.out 0; have hfz43_1 := blk_frozen BK198.out 1; have hfz43_2 := blk_frozen BK198.out 2; have p212 : 0 ≤ ((ji36) : Int) := of_decide_eq_true asmA; have q212 : (ji36) < (l0.length : Int) := of_decide_eq_true asmA; obtain ⟨ad212, e212, hx212_0⟩ := Kd.at_int HR0.out (ji36) p212 q212; cases e212; have hn212_0 : ad212.block ≠ gb198 := Nat.ne_of_lt (Nat.lt_of_lt_of_le (by have := World.block_lt_of_cell? _ _ hx212_0; first | rwa [add_block] at this | exact this) GW198.out); replace hx212_0 := (HB.out.cell (World.block_lt_of_cell? w _ hx212_0)).trans hx212_0; replace hx212_0 := (cell_far (p := ⟨gb198, 1, none⟩) (by first | (rw [add_block]; exact hn212_0) | (show (Addr.add _ _).block ≠ _; rw [add_block]; exact hn212_0) | exact hn212_0) (.int .i64 t209)).trans hx212_0; clear hn212_0; replace p212 := eq_true p212; replace q212 := eq_true q212; obtain ⟨Ao44, co44, eo44⟩ := Kd.R_slice HO_199000.out; subst eo44) | ((with_reducible refine gate_callee (f := 28) rfl ?_); refine goesL_ (some 78) rfl rfl Try.func28 (by kernel_rfl) rfl #[.agg #[.slice Ao44 x199000_1.length co44, .int .i64 t209, .int .i64 (wrap64 (rd l0 (ji36)))]] rfl (by (try simp only [List.map_toArray, List.map_cons, List.map_nil]); first | done | (simp only [hji36]; rfl) | rfl | (simp only [List.length_drop, List.length_take]; rfl)) ?_; (with_reducible refine (key_Right.calls _ _ x199000_1 t209 (wrap64 (rd l0 (ji36))) true _ ?side1 ?side2 A39.out).mono ?_); (case side1 => refine (Kd.R_reads' (e := 9) (base := w.heap.size) (ok := fun k_ => True) (n := x199000_1.length) (c := co44) ?_).2.2; exact (by (with_reducible repeat (first | apply Kd.R_alloc | apply Kd.R_drewN | apply Kd.R_drew)); exact (Kd.R_mono (Kd.R_far (p := ⟨gb198, 2, none⟩) (Kd.R_far (p := ⟨gb198, 1, none⟩) (Kd.R_types HO_199000.out BK198.out (by decide)) (fun _ hk => hk.2) (.int .i64 t209)) (fun _ hk => hk.2) (.int .i64 (wrap64 (rd l0 (ji36))))) (fun _ h_ => h_.1)))); (case side2 => exact (Kd.R_reads' HO_199000.out).2.1); rintro e w45 ⟨rfl, hb⟩; refine ⟨_, rfl, ?_⟩; have n0_ := Aside0.mk (Kd.R_below (by (with_reducible repeat (first | apply Kd.R_alloc | apply Kd.R_drewN | apply Kd.R_drew)); exact (Kd.R_mono (Kd.R_far (p := ⟨gb198, 2, none⟩) (Kd.R_far (p := ⟨gb198, 1, none⟩) (Kd.R_types HO_199000.out BK198.out (by decide)) (fun _ hk => hk.2) (.int .i64 t209)) (fun _ hk => hk.2) (.int .i64 (wrap64 (rd l0 (ji36))))) (fun _ h_ => h_.1))) hb); have n1_ := Aside0.mk (blk_below (g := gb197) (o := .cells #[.slice none 0 0, .int .i64 0, .int .i64 0] 62 (0, 0)) (by (with_reducible repeat (first | refine blk_drewN ?_ _ | refine blk_drew ?_ | refine blk_alloc ?_ _)); refine blk_far ?_ NB197_198.out _; (with_reducible repeat (first | refine blk_drewN ?_ _ | refine blk_drew ?_ | refine blk_alloc ?_ _)); refine blk_far ?_ NB197_198.out _; (with_reducible repeat (first | refine blk_drewN ?_ _ | refine blk_drew ?_ | refine blk_alloc ?_ _)); exact BK197.out) hb); have n2_ := Aside0.mk (blk_below (g := gb198) (o := .cells #[.slice Ao44 x199000_1.length co44, .int .i64 t209, .int .i64 (wrap64 (rd l0 (ji36)))] 62 (0, 0)) (by (with_reducible repeat (first | refine blk_drewN ?_ _ | refine blk_drew ?_ | refine blk_alloc ?_ _)); refine blk_put (cs := #[.slice Ao44 x199000_1.length co44, .int .i64 t209, .int .i64 0]) ?_ 2 _ rfl; (with_reducible repeat (first | refine blk_drewN ?_ _ | refine blk_drew ?_ | refine blk_alloc ?_ _)); refine blk_put (cs := #[.slice Ao44 x199000_1.length co44, .int .i64 0, .int .i64 0]) ?_ 1 _ rfl; (with_reducible repeat (first | refine blk_drewN ?_ _ | refine blk_drew ?_ | refine blk_alloc ?_ _)); exact BK198.out) hb); have n3_ := Aside0.mk (below_step (belC HB.out GE197.out GE198.out) hb); clear HO_199000; clear BK197; clear BK198; clear HB; have HO_199000 := n0_; have BK197 := n1_; have BK198 := n2_; have HB := n3_; clear n0_ n1_ n2_ n3_; (try clear hb); (try clear hb2); (try clear hk); (try clear hi); have hcz46_0 : w45.cell? ⟨gb198, 0, none⟩ = some (.slice Ao44 x199000_1.length co44) := (blk_cell BK198.out 0).trans rfl; have hcz46_1 : w45.cell? ⟨gb198, 1, none⟩ = some (.int .i64 t209) := (blk_cell BK198.out 1).trans rfl; have hcz46_2 : w45.cell? ⟨gb198, 2, none⟩ = some (.int .i64 (wrap64 (rd l0 (ji36)))) := (blk_cell BK198.out 2).trans rfl; have hfz46_0 := blk_frozen BK198.out 0; have hfz46_1 := blk_frozen BK198.out 1; have hfz46_2 := blk_frozen BK198.out 2; have hcz47_0 : w45.cell? ⟨gb197, 0, none⟩ = some (.slice none 0 0) := (blk_cell BK197.out 0).trans rfl; have hcz47_1 : w45.cell? ⟨gb197, 1, none⟩ = some (.int .i64 0) := (blk_cell BK197.out 1).trans rfl; have hcz47_2 : w45.cell? ⟨gb197, 2, none⟩ = some (.int .i64 0) := (blk_cell BK197.out 2).trans rfl; have hfz47_0 := blk_frozen BK197.out 0; have hfz47_1 := blk_frozen BK197.out 1; have hfz47_2 := blk_frozen BK197.out 2)))))
           (try rw [Exit.noGoto_ret]); refine bodyPost_ret (results_ct rfl _ _ gb197 62 #[.slice Ao44 x199000_1.length co44, .int .i64 t209, .int .i64 (wrap64 (rd l0 (ji36)))] (0, 0) _ rfl (by (with_reducible repeat (first | refine blk_drewN ?_ _ | refine blk_drew ?_ | refine blk_alloc ?_ _)); refine blk_put (cs := #[.slice Ao44 x199000_1.length co44, .int .i64 t209, .int .i64 0]) ?_ 2 _ rfl; (with_reducible repeat (first | refine blk_drewN ?_ _ | refine blk_drew ?_ | refine blk_alloc ?_ _)); refine blk_put (cs := #[.slice Ao44 x199000_1.length co44, .int .i64 0, .int .i64 0]) ?_ 1 _ rfl; (with_reducible repeat (first | refine blk_drewN ?_ _ | refine blk_drew ?_ | refine blk_alloc ?_ _)); refine blk_put (cs := #[.slice none 0 0, .int .i64 0, .int .i64 0]) ?_ 0 _ rfl; (with_reducible repeat (first | refine blk_drewN ?_ _ | refine blk_drew ?_ | refine blk_alloc ?_ _)); exact BK197.out) Try.underlying62 rfl (by kernel_rfl)) rfl ?_
           exact ⟨_, by first | rfl | (simp [errW_none, errW_some] <;> rfl) | (simp only [← hji36]; first | rfl | (simp [errW_none, errW_some] <;> rfl)) | (simp [*, errW_none, errW_some] <;> rfl) | (exfalso; simp_all; done), by (with_reducible repeat (first | apply Kd.R_alloc | apply Kd.R_drewN | apply Kd.R_drew)); exact Kd.R_mono (Kd.R_far (p := ⟨gb197, 2, none⟩) (Kd.R_far (p := ⟨gb197, 1, none⟩) (Kd.R_far (p := ⟨gb197, 0, none⟩) (Kd.R_types HO_199000.out BK197.out (by decide)) (fun _ hk => hk.2) (.slice Ao44 x199000_1.length co44)) (fun _ hk => hk.2) (.int .i64 t209)) (fun _ hk => hk.2) (.int .i64 (wrap64 (rd l0 (ji36))))) (fun _ hk => trivial), belC HB.out GE197.out GE198.out⟩
          ·replace c40 := Bool.eq_false_iff.mpr c40
           subst c40
           have H1 : (some (([] : List ByteArray), 0, 0, 40)) = some (r1, r2, r3, r4) := by rw [if_neg (show ¬ (false = true) by decide)] at H; exact H
           clear H
           have H := H1
           clear H1
           simp only [Option.some.injEq, Prod.mk.injEq] at H
           obtain ⟨rfl, rfl, rfl, rfl⟩ := H
           obtain ⟨i048, hi048, _, hsz48, _⟩ := info_parts info5
           obtain ⟨A48, hcut48, hA48, hC48⟩ := print_drop_of (P := Try.prog) (Value.int .u8) 0 49 5 .i64 Try.underlying49 hi048 hsz48 A0 c0 l0 x5_1 (of_decide_eq_true asmA) (of_decide_eq_true asmA) HC0.out
           have HR208 := Aside0.mk (Kd.C_of_reads (h1 := fun _ => rfl) (hA48 _ (Kd.reads_of_C HR0.out)))
           have HC208 := Aside0.mk hC48
           clear hA48 hC48 hi048 hsz48
           (go_wp2_with (first | ((with_reducible refine gate_callee (f := 94) rfl ?_); refine goesL_ (some 65) rfl rfl Try.func94 (by kernel_rfl) rfl #[.slice A48 (l0.drop (x5_1 : Int).toNat).length (c0 - x5_1.toNat)] rfl (by (try simp only [List.map_toArray, List.map_cons, List.map_nil]); first | done | (rw [show (l0.drop (x5_1 : Int).toNat).length = (l0.length - x5_1.toNat) from List.length_drop] <;> rfl) | rfl | (simp only [List.length_drop, List.length_take]; rfl)) ?_; (with_reducible refine (code_ReadNumber.calls _ _ (l0.drop (x5_1 : Int).toNat) t209 t210 t211 _ ?side1 ?side2 A35.out).mono ?_); (case side1 => repeat (first | exact (Kd.C_below HR208.out HB.out) | (with_reducible refine Kd.C_alloc ?_ _) | (with_reducible refine Kd.C_drewN ?_ _) | (with_reducible refine Kd.C_drew ?_))); (case side2 => exact HC208.out); rintro e w' ⟨rfl, ⟨nd, rfl⟩⟩; refine ⟨_, rfl, ?_⟩; (try (rw [drewN_self wc]; generalize hq_ : World.drewN wc _ = wc; have n0_ : Aside0 (Kd.R Kd.string 9 wc w.heap.size (fun _ => True) u199000 x199000_1) := ⟨by rw [← hq_]; exact (rowA HO_199000.out)⟩; have n1_ : Aside0 (wc.heap[gb197]? = some (.cells #[.slice none 0 0, .int .i64 0, .int .i64 0] 62 (0, 0))) := ⟨by rw [← hq_]; exact (blkA BK197.out)⟩; have n2_ : Aside0 (wc.heap[gb198]? = some (.cells #[u199000, .int .i64 0, .int .i64 0] 62 (0, 0))) := ⟨by rw [← hq_]; exact (blkA BK198.out)⟩; have n3_ : Aside0 (Below w.heap.size w wc) := ⟨by rw [← hq_]; exact (belC HB.out GE197.out GE198.out)⟩; clear HO_199000 BK197 BK198 HB hq_; have HO_199000 := n0_; have BK197 := n1_; have BK198 := n2_; have HB := n3_; clear n0_ n1_ n2_ n3_)); have hnb49 := NB198_197.out; have hnc49 := NB197_198.out; have hcz50_0 : wc.cell? ⟨gb198, 0, none⟩ = some (u199000) := (blk_cell BK198.out 0).trans rfl; have hcz50_1 : wc.cell? ⟨gb198, 1, none⟩ = some (.int .i64 0) := (blk_cell BK198.out 1).trans rfl; have hcz50_2 : wc.cell? ⟨gb198, 2, none⟩ = some (.int .i64 0) := (blk_cell BK198.out 2).trans rfl; have hfz50_0 := blk_frozen BK198.out 0; have hfz50_1 := blk_frozen BK198.out 1; have hfz50_2 := blk_frozen BK198.out 2; have p212 : 0 ≤ ((ji36) : Int) := of_decide_eq_true asmA; have q212 : (ji36) < (l0.length : Int) := of_decide_eq_true asmA; obtain ⟨ad212, e212, hx212_0⟩ := Kd.at_int HR0.out (ji36) p212 q212; cases e212; have hn212_0 : ad212.block ≠ gb198 := Nat.ne_of_lt (Nat.lt_of_lt_of_le (by have := World.block_lt_of_cell? _ _ hx212_0; first | rwa [add_block] at this | exact this) GW198.out); replace hx212_0 := (HB.out.cell (World.block_lt_of_cell? w _ hx212_0)).trans hx212_0; replace hx212_0 := (cell_far (p := ⟨gb198, 1, none⟩) (by first | (rw [add_block]; exact hn212_0) | (show (Addr.add _ _).block ≠ _; rw [add_block]; exact hn212_0) | exact hn212_0) (.int .i64 t209)).trans hx212_0; clear hn212_0; replace p212 := eq_true p212; replace q212 := eq_true q212; obtain ⟨Ao51, co51, eo51⟩ := Kd.R_slice HO_199000.out; subst eo51) | ((with_reducible refine gate_callee (f := 28) rfl ?_); refine goesL_ (some 78) rfl rfl Try.func28 (by kernel_rfl) rfl #[.agg #[.slice Ao51 x199000_1.length co51, .int .i64 t209, .int .i64 (wrap64 (rd l0 (ji36)))]] rfl (by (try simp only [List.map_toArray, List.map_cons, List.map_nil]); first | done | (simp only [hji36]; rfl) | rfl | (simp only [List.length_drop, List.length_take]; rfl)) ?_; (with_reducible refine (key_Right.calls _ _ x199000_1 t209 (wrap64 (rd l0 (ji36))) false _ ?side1 ?side2 A39.out).mono ?_); (case side1 => refine (Kd.R_reads' (e := 9) (base := w.heap.size) (ok := fun k_ => True) (n := x199000_1.length) (c := co51) ?_).2.2; exact (by (with_reducible repeat (first | apply Kd.R_alloc | apply Kd.R_drewN | apply Kd.R_drew)); exact (Kd.R_mono (Kd.R_far (p := ⟨gb198, 2, none⟩) (Kd.R_far (p := ⟨gb198, 1, none⟩) (Kd.R_types HO_199000.out BK198.out (by decide)) (fun _ hk => hk.2) (.int .i64 t209)) (fun _ hk => hk.2) (.int .i64 (wrap64 (rd l0 (ji36))))) (fun _ h_ => h_.1)))); (case side2 => exact (Kd.R_reads' HO_199000.out).2.1); rintro e w52 ⟨rfl, hb⟩; refine ⟨_, rfl, ?_⟩; have n0_ := Aside0.mk (Kd.R_below (by (with_reducible repeat (first | apply Kd.R_alloc | apply Kd.R_drewN | apply Kd.R_drew)); exact (Kd.R_mono (Kd.R_far (p := ⟨gb198, 2, none⟩) (Kd.R_far (p := ⟨gb198, 1, none⟩) (Kd.R_types HO_199000.out BK198.out (by decide)) (fun _ hk => hk.2) (.int .i64 t209)) (fun _ hk => hk.2) (.int .i64 (wrap64 (rd l0 (ji36))))) (fun _ h_ => h_.1))) hb); have n1_ := Aside0.mk (blk_below (g := gb197) (o := .cells #[.slice none 0 0, .int .i64 0, .int .i64 0] 62 (0, 0)) (by (with_reducible repeat (first | refine blk_drewN ?_ _ | refine blk_drew ?_ | refine blk_alloc ?_ _)); refine blk_far ?_ NB197_198.out _; (with_reducible repeat (first | refine blk_drewN ?_ _ | refine blk_drew ?_ | refine blk_alloc ?_ _)); refine blk_far ?_ NB197_198.out _; (with_reducible repeat (first | refine blk_drewN ?_ _ | refine blk_drew ?_ | refine blk_alloc ?_ _)); exact BK197.out) hb); have n2_ := Aside0.mk (blk_below (g := gb198) (o := .cells #[.slice Ao51 x199000_1.length co51, .int .i64 t209, .int .i64 (wrap64 (rd l0 (ji36)))] 62 (0, 0)) (by (with_reducible repeat (first | refine blk_drewN ?_ _ | refine blk_drew ?_ | refine blk_alloc ?_ _)); refine blk_put (cs := #[.slice Ao51 x199000_1.length co51, .int .i64 t209, .int .i64 0]) ?_ 2 _ rfl; (with_reducible repeat (first | refine blk_drewN ?_ _ | refine blk_drew ?_ | refine blk_alloc ?_ _)); refine blk_put (cs := #[.slice Ao51 x199000_1.length co51, .int .i64 0, .int .i64 0]) ?_ 1 _ rfl; (with_reducible repeat (first | refine blk_drewN ?_ _ | refine blk_drew ?_ | refine blk_alloc ?_ _)); exact BK198.out) hb); have n3_ := Aside0.mk (below_step (belC HB.out GE197.out GE198.out) hb); clear HO_199000; clear BK197; clear BK198; clear HB; have HO_199000 := n0_; have BK197 := n1_; have BK198 := n2_; have HB := n3_; clear n0_ n1_ n2_ n3_; (try clear hb); (try clear hb2); (try clear hk); (try clear hi); have hcz53_0 : w52.cell? ⟨gb197, 0, none⟩ = some (.slice none 0 0) := (blk_cell BK197.out 0).trans rfl; have hcz53_1 : w52.cell? ⟨gb197, 1, none⟩ = some (.int .i64 0) := (blk_cell BK197.out 1).trans rfl; have hcz53_2 : w52.cell? ⟨gb197, 2, none⟩ = some (.int .i64 0) := (blk_cell BK197.out 2).trans rfl; have hfz53_0 := blk_frozen BK197.out 0; have hfz53_1 := blk_frozen BK197.out 1; have hfz53_2 := blk_frozen BK197.out 2)); repeat (go_step3; try (go_wp2_with (first | ((with_reducible refine gate_callee (f := 94) rfl ?_); refine goesL_ (some 65) rfl rfl Try.func94 (by kernel_rfl) rfl #[.slice A48 (l0.drop (x5_1 : Int).toNat).length (c0 - x5_1.toNat)] rfl (by (try simp only [List.map_toArray, List.map_cons, List.map_nil]); first | done | (rw [show (l0.drop (x5_1 : Int).toNat).length = (l0.length - x5_1.toNat) from List.length_drop] <;> rfl) | rfl | (simp only [List.length_drop, List.length_take]; rfl)) ?_; (with_reducible refine (code_ReadNumber.calls _ _ (l0.drop (x5_1 : Int).toNat) t209 t210 t211 _ ?side1 ?side2 A35.out).mono ?_); (case side1 => repeat (first | exact (Kd.C_below HR208.out HB.out) | (with_reducible refine Kd.C_alloc ?_ _) | (with_reducible refine Kd.C_drewN ?_ _) | (with_reducible refine Kd.C_drew ?_))); (case side2 => exact HC208.out); rintro e w' ⟨rfl, ⟨nd, rfl⟩⟩; refine ⟨_, rfl, ?_⟩; (try (rw [drewN_self wc]; generalize hq_ : World.drewN wc _ = wc; have n0_ : Aside0 (Kd.R Kd.string 9 wc w.heap.size (fun _ => True) u199000 x199000_1) := ⟨by rw [← hq_]; exact (rowA HO_199000.out)⟩; have n1_ : Aside0 (wc.heap[gb197]? = some (.cells #[.slice none 0 0, .int .i64 0, .int .i64 0] 62 (0, 0))) := ⟨by rw [← hq_]; exact (blkA BK197.out)⟩; have n2_ : Aside0 (wc.heap[gb198]? = some (.cells #[u199000, .int .i64 0, .int .i64 0] 62 (0, 0))) := ⟨by rw [← hq_]; exact (blkA BK198.out)⟩; have n3_ : Aside0 (Below w.heap.size w wc) := ⟨by rw [← hq_]; exact (belC HB.out GE197.out GE198.out)⟩; clear HO_199000 BK197 BK198 HB hq_; have HO_199000 := n0_; have BK197 := n1_; have BK198 := n2_; have HB := n3_; clear n0_ n1_ n2_ n3_)); have hnb49 := NB198_197.out; have hnc49 := NB197_198.out; have hcz50_0 : wc.cell? ⟨gb198, 0, none⟩ = some (u199000) := (blk_cell BK198.out 0).trans rfl; have hcz50_1 : wc.cell? ⟨gb198, 1, none⟩ = some (.int .i64 0) := (blk_cell BK198.out 1).trans rfl; have hcz50_2 : wc.cell? ⟨gb198, 2, none⟩ = some (.int .i64 0) := (blk_cell BK198.out 2).trans rfl; have hfz50_0 := blk_frozen BK198.out 0; have hfz50_1 := blk_frozen BK198.out 1; have hfz50_2 := blk_frozen BK198.out 2; have p212 : 0 ≤ ((ji36) : Int) := of_decide_eq_true asmA; have q212 : (ji36) < (l0.length : Int) := of_decide_eq_true asmA; obtain ⟨ad212, e212, hx212_0⟩ := Kd.at_int HR0.out (ji36) p212 q212; cases e212; have hn212_0 : ad212.block ≠ gb198 := Nat.ne_of_lt (Nat.lt_of_lt_of_le (by have := World.block_lt_of_cell? _ _ hx212_0; first | rwa [add_block] at this | exact this) GW198.out); replace hx212_0 := (HB.out.cell (World.block_lt_of_cell? w _ hx212_0)).trans hx212_0; replace hx212_0 := (cell_far (p := ⟨gb198, 1, none⟩) (by first | (rw [add_block]; exact hn212_0) | (show (Addr.add _ _).block ≠ _; rw [add_block]; exact hn212_0) | exact hn212_0) (.int .i64 t209)).trans hx212_0; clear hn212_0; replace p212 := eq_true p212; replace q212 := eq_true q212; obtain ⟨Ao51, co51, eo51⟩ := Kd.R_slice HO_199000.out; subst eo51) | ((with_reducible refine gate_callee (f := 28) rfl ?_); refine goesL_ (some 78) rfl rfl Try.func28 (by kernel_rfl) rfl #[.agg #[.slice Ao51 x199000_1.length co51, .int .i64 t209, .int .i64 (wrap64 (rd l0 (ji36)))]] rfl (by (try simp only [List.map_toArray, List.map_cons, List.map_nil]); first | done | (simp only [hji36]; rfl) | rfl | (simp only [List.length_drop, List.length_take]; rfl)) ?_; (with_reducible refine (key_Right.calls _ _ x199000_1 t209 (wrap64 (rd l0 (ji36))) false _ ?side1 ?side2 A39.out).mono ?_); (case side1 => refine (Kd.R_reads' (e := 9) (base := w.heap.size) (ok := fun k_ => True) (n := x199000_1.length) (c := co51) ?_).2.2; exact (by (with_reducible repeat (first | apply Kd.R_alloc | apply Kd.R_drewN | apply Kd.R_drew)); exact (Kd.R_mono (Kd.R_far (p := ⟨gb198, 2, none⟩) (Kd.R_far (p := ⟨gb198, 1, none⟩) (Kd.R_types HO_199000.out BK198.out (by decide)) (fun _ hk => hk.2) (.int .i64 t209)) (fun _ hk => hk.2) (.int .i64 (wrap64 (rd l0 (ji36))))) (fun _ h_ => h_.1)))); (case side2 => exact (Kd.R_reads' HO_199000.out).2.1); rintro e w52 ⟨rfl, hb⟩; refine ⟨_, rfl, ?_⟩; have n0_ := Aside0.mk (Kd.R_below (by (with_reducible repeat (first | apply Kd.R_alloc | apply Kd.R_drewN | apply Kd.R_drew)); exact (Kd.R_mono (Kd.R_far (p := ⟨gb198, 2, none⟩) (Kd.R_far (p := ⟨gb198, 1, none⟩) (Kd.R_types HO_199000.out BK198.out (by decide)) (fun _ hk => hk.2) (.int .i64 t209)) (fun _ hk => hk.2) (.int .i64 (wrap64 (rd l0 (ji36))))) (fun _ h_ => h_.1))) hb); have n1_ := Aside0.mk (blk_below (g := gb197) (o := .cells #[.slice none 0 0, .int .i64 0, .int .i64 0] 62 (0, 0)) (by (with_reducible repeat (first | refine blk_drewN ?_ _ | refine blk_drew ?_ | refine blk_alloc ?_ _)); refine blk_far ?_ NB197_198.out _; (with_reducible repeat (first | refine blk_drewN ?_ _ | refine blk_drew ?_ | refine blk_alloc ?_ _)); refine blk_far ?_ NB197_198.out _; (with_reducible repeat (first | refine blk_drewN ?_ _ | refine blk_drew ?_ | refine blk_alloc ?_ _)); exact BK197.out) hb); have n2_ := Aside0.mk (blk_below (g := gb198) (o := .cells #[.slice Ao51 x199000_1.length co51, .int .i64 t209, .int .i64 (wrap64 (rd l0 (ji36)))] 62 (0, 0)) (by (with_reducible repeat (first | refine blk_drewN ?_ _ | refine blk_drew ?_ | refine blk_alloc ?_ _)); refine blk_put (cs := #[.slice Ao51 x199000_1.length co51, .int .i64 t209, .int .i64 0]) ?_ 2 _ rfl; (with_reducible repeat (first | refine blk_drewN ?_ _ | refine blk_drew ?_ | refine blk_alloc ?_ _)); refine blk_put (cs := #[.slice Ao51 x199000_1.length co51, .int .i64 0, .int .i64 0]) ?_ 1 _ rfl; (with_reducible repeat (first | refine blk_drewN ?_ _ | refine blk_drew ?_ | refine blk_alloc ?_ _)); exact BK198.out) hb); have n3_ := Aside0.mk (below_step (belC HB.out GE197.out GE198.out) hb); clear HO_199000; clear BK197; clear BK198; clear HB; have HO_199000 := n0_; have BK197 := n1_; have BK198 := n2_; have HB := n3_; clear n0_ n1_ n2_ n3_; (try clear hb); (try clear hb2); (try clear hk); (try clear hi); have hcz53_0 : w52.cell? ⟨gb197, 0, none⟩ = some (.slice none 0 0) := (blk_cell BK197.out 0).trans rfl; have hcz53_1 : w52.cell? ⟨gb197, 1, none⟩ = some (.int .i64 0) := (blk_cell BK197.out 1).trans rfl; have hcz53_2 : w52.cell? ⟨gb197, 2, none⟩ = some (.int .i64 0) := (blk_cell BK197.out 2).trans rfl; have hfz53_0 := blk_frozen BK197.out 0; have hfz53_1 := blk_frozen BK197.out 1; have hfz53_2 := blk_frozen BK197.out 2)))))
           (try rw [Exit.noGoto_ret]); refine bodyPost_ret (results_ct rfl _ _ gb197 62 #[.slice none 0 0, .int .i64 0, .int .i64 0] (0, 0) _ rfl (by (with_reducible repeat (first | refine blk_drewN ?_ _ | refine blk_drew ?_ | refine blk_alloc ?_ _)); refine blk_put (cs := #[.slice none 0 0, .int .i64 0, .int .i64 0]) ?_ 2 _ rfl; (with_reducible repeat (first | refine blk_drewN ?_ _ | refine blk_drew ?_ | refine blk_alloc ?_ _)); refine blk_put (cs := #[.slice none 0 0, .int .i64 0, .int .i64 0]) ?_ 1 _ rfl; (with_reducible repeat (first | refine blk_drewN ?_ _ | refine blk_drew ?_ | refine blk_alloc ?_ _)); refine blk_put (cs := #[.slice none 0 0, .int .i64 0, .int .i64 0]) ?_ 0 _ rfl; (with_reducible repeat (first | refine blk_drewN ?_ _ | refine blk_drew ?_ | refine blk_alloc ?_ _)); exact BK197.out) Try.underlying62 rfl (by kernel_rfl)) rfl ?_
           exact ⟨_, by first | rfl | (simp [errW_none, errW_some] <;> rfl) | (simp only [← hji36]; first | rfl | (simp [errW_none, errW_some] <;> rfl)) | (simp [*, errW_none, errW_some] <;> rfl) | (exfalso; simp_all; done), by first | exact Kd.R_nil _ _ _ _ _ | exact Kd.N_nil _ _ _ _ _ | exact Kd.V_nil _ _ _ _ _ | exact Kd.Q_nil _ _ _ _ _ | exact Kd.S_nil _ _ _ _ _, belC HB.out GE197.out GE198.out⟩
         ·rw [if_neg c38] at H
          exact absurd H (by simp)
        ·rw [if_neg c37] at H
         exact absurd H (by simp)
       ·rw [if_neg c34] at H
        exact absurd H (by simp)
      ·rw [if_neg c33] at H
       exact absurd H (by simp)
end Go.Proofs.Ytjemmmemenljbaa.PFold
end
