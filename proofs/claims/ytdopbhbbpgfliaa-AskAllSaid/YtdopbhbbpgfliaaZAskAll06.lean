import Derived.Test.YtdopbhbbpgfliaaZAskAll05
section
namespace Go.Proofs.Ytdopbhbbpgfliaa.PAsk
open Go.RowKit Go.Proofs.YtdopbhbbpgfliaaW.PrintWords Go.Proofs.YtdopbhbbpgfliaaW.PrintLast Go.Proofs.YtdopbhbbpgfliaaW.PrintMore
attribute [local go_sem] max2_int min2_int max_two min_two max_three min_three max_four min_four   -- for this text's walks alone
set_option linter.unusedVariables false
set_option linter.unusedSimpArgs false
set_option maxHeartbeats 8000000
set_option maxRecDepth 100000
mutual
def key_Read.j2 : Nat → List Int → Int → Bool → List ByteArray → Int → Int → Option (List ByteArray × Int × Int × Int)
 | 0, _, _, _, _, _, _ => none
 | k + 1, x0, x5, x6, x145000, x145001, x145002 => if x6 = true then (key_Read.j3 k x0 x5 ((x0.length : Int) != (wrap64 (x5 + 9))) x145000 x145001 x145002) else (key_Read.j3 k x0 x5 true x145000 x145001 x145002)
def key_Read.j3 : Nat → List Int → Int → Bool → List ByteArray → Int → Int → Option (List ByteArray × Int × Int × Int)
 | 0, _, _, _, _, _, _ => none
 | k + 1, x0, x5, x59, x145000, x145001, x145002 => if x59 = true then (some (([] : List ByteArray), 0, 0, 40)) else (if 0 ≤ x5 then (if x5 ≤ (x0.length : Int) then ((code_ReadNumber.f (x0.drop (x5 : Int).toNat)).bind fun bt155 => (if 0 ≤ (wrap64 (x5 + 8)) then (if (wrap64 (x5 + 8)) < (x0.length : Int) then ((key_Right.f x145000 bt155.1 (wrap64 (rd x0 (wrap64 (x5 + 8))))).bind fun t159 => (if t159 = true then (some (x145000, bt155.1, wrap64 (rd x0 (wrap64 (x5 + 8))), 0)) else (some (([] : List ByteArray), 0, 0, 40)))) else (none)) else (none))) else (none)) else (none))
def key_Read.l0 : Nat → List Int → Int → Bool → List ByteArray → Int → Int → Option (List ByteArray × Int × Int × Int)
 | 0, _, _, _, _, _, _ => none
 | k + 1, x0, x5, x6, x145000, x145001, x145002 => if x5 ≥ (x0.length : Int) then (key_Read.j1 k x0 x5 x6 true x145000 x145001 x145002) else (if 0 ≤ x5 then (if x5 < (x0.length : Int) then (key_Read.j1 k x0 x5 x6 (decide ((rd x0 x5) > 1)) x145000 x145001 x145002) else (none)) else (none))
def key_Read.j1 : Nat → List Int → Int → Bool → Bool → List ByteArray → Int → Int → Option (List ByteArray × Int × Int × Int)
 | 0, _, _, _, _, _, _, _ => none
 | k + 1, x0, x5, x6, x10, x145000, x145001, x145002 => if x10 = true then (key_Read.j2 k x0 x5 false x145000 x145001 x145002) else (if 0 ≤ x5 then (if x5 < (x0.length : Int) then (if (rd x0 x5) = 0 then (key_Read.j2 k x0 (wrap64 (x5 + 1)) x6 x145000 x145001 x145002) else (if 0 ≤ (wrap64 (x5 + 1)) then (if (wrap64 (x5 + 1)) ≤ (x0.length : Int) then ((code_ReadText.f k (x0.drop ((wrap64 (x5 + 1)) : Int).toNat)).bind fun bt148 => (if bt148.2.2 = 0 then (if x145000.length < 8796093022208 then (key_Read.l0 k x0 (wrap64 (x5 + (wrap64 (bt148.2.1 + 1)))) x6 (x145000 ++ [bt148.1]) x145001 x145002) else (none)) else (key_Read.j2 k x0 x5 false x145000 x145001 x145002))) else (none)) else (none))) else (none)) else (none))
end
def key_Read.f (k : Nat) (l0 : List Int) : Option (List ByteArray × Int × Int × Int) := key_Read.l0 k l0 0 true ([] : List ByteArray) 0 0
theorem key_Read.calls (k : Nat) (A0 : Option Addr) (c0 : Nat) (l0 : List Int) (r1 : List ByteArray) (r2 : Int) (r3 : Int) (r4 : Int) (w : World) (hr0 : Kd.C (Kd.int .u8) w A0 l0.length l0) (hc0 : l0.length ≤ c0) (h : key_Read.f k l0 = some (r1, r2, r3, r4)) :
  Calls Try.prog 40 #[.slice A0 l0.length c0] w fun e w' => ∃ v0_ : Value, e = .returned (.tuple #[.agg #[v0_, .int .i64 r2, .int .i64 r3], .int .i64 r4]) ∧ Kd.R Kd.string 9 w' w.heap.size (fun _ => True) v0_ r1 ∧ Below w.heap.size w w' := by
 have hu70 := Try.underlying70
 have HR0 := Aside0.mk hr0
 have HC0 := Aside0.mk hc0
 clear hr0 hc0
 have HB := Aside0.mk (Below.refl w.heap.size w)
 have H : (key_Read.l0 k l0 0 true ([] : List ByteArray) 0 0) = some (r1, r2, r3, r4) := h
 clear h
 have HC2 := Aside0.mk H
 clear H
 go_enter Try.func40, Try.ntmps40; try go_step3
 (go_upto_block 0 with (first | ((with_reducible refine gate_dst (N := 2) rfl ?_); (try (refine gate_guard (by rfl) ?_; dsimp only)); refine boxA 2 #[.slice none 0 0, .int .i64 0, .int .i64 0] 70 ?_; intro gb143 hg w3 hbox hb; have BK143 := Aside0.mk (hbox); have GE143 := ge1 hg (belA HB.out); replace HB := bst HB hb; clear hb hbox hg) | ((with_reducible refine gate_dst (N := 4) rfl ?_); (try (refine gate_guard (by rfl) ?_; dsimp only)); refine boxA 4 #[.slice none 0 0, .int .i64 0, .int .i64 0] 70 ?_; intro gb144 hg w4 hbox hb; have BK144 := Aside0.mk (hbox); have GW144 := ge1 hg (belB HB.out GE143.out); have GE144 := GW144; have NB143_144 := neL hg BK143; have NB144_143 := neR hg BK143; replace BK143 := blkB BK143 hb; replace HB := bs2 HB GE143 hb; clear hb hbox hg)); repeat (go_step3; try (go_upto_block 0 with (first | ((with_reducible refine gate_dst (N := 2) rfl ?_); (try (refine gate_guard (by rfl) ?_; dsimp only)); refine boxA 2 #[.slice none 0 0, .int .i64 0, .int .i64 0] 70 ?_; intro gb143 hg w3 hbox hb; have BK143 := Aside0.mk (hbox); have GE143 := ge1 hg (belA HB.out); replace HB := bst HB hb; clear hb hbox hg) | ((with_reducible refine gate_dst (N := 4) rfl ?_); (try (refine gate_guard (by rfl) ?_; dsimp only)); refine boxA 4 #[.slice none 0 0, .int .i64 0, .int .i64 0] 70 ?_; intro gb144 hg w4 hbox hb; have BK144 := Aside0.mk (hbox); have GW144 := ge1 hg (belB HB.out GE143.out); have GE144 := GW144; have NB143_144 := neL hg BK143; have NB144_143 := neR hg BK143; replace BK143 := blkB BK143 hb; replace HB := bs2 HB GE143 hb; clear hb hbox hg)))))
 (try simp only [Act.put, List.setIfInBounds_toArray, List.set_cons_zero, List.set_cons_succ])
 go_cut [5, 6] (fun v5 v6 wc => ∃ (kq : Nat) (x5_1 : Int) (x6_1 : Bool) (x145000_1 : List ByteArray) (u145000 : Value), v5 = .int .i64 x5_1 ∧ v6 = .bool x6_1 ∧ Aside0 (key_Read.j2 kq l0 x5_1 x6_1 x145000_1 0 0 = some (r1, r2, r3, r4)) ∧ Aside0 (kq ≤ k) ∧ Aside0 (Kd.R Kd.string 9 wc w.heap.size (fun _ => True) u145000 x145000_1) ∧ Aside0 (wc.heap[gb143]? = some (.cells #[(.slice none 0 0), .int .i64 0, .int .i64 0] 70 (0, 0))) ∧ Aside0 (wc.heap[gb144]? = some (.cells #[u145000, .int .i64 0, .int .i64 0] 70 (0, 0))) ∧ Aside0 (Below w.heap.size w wc))
 case first =>
  have H := HC2.out
  clear HC2
  have H' := Aside0.mk H
  clear H
  (go_wp2; repeat (go_step3; try (go_wp2)))
  go_loopg [5, 6] k (fun kq v5 v6 w' => ∃ (x5_1 : Int) (x6_1 : Bool) (x145000_1 : List ByteArray) (u145000 : Value), v5 = .int .i64 x5_1 ∧ v6 = .bool x6_1 ∧ Aside0 (key_Read.l0 kq l0 x5_1 x6_1 x145000_1 0 0 = some (r1, r2, r3, r4)) ∧ Aside0 (kq ≤ k) ∧ Aside0 (Kd.R Kd.string 9 w' w.heap.size (fun _ => True) u145000 x145000_1) ∧ Aside0 (w'.heap[gb143]? = some (.cells #[(.slice none 0 0), .int .i64 0, .int .i64 0] 70 (0, 0))) ∧ Aside0 (w'.heap[gb144]? = some (.cells #[u145000, .int .i64 0, .int .i64 0] 70 (0, 0))) ∧ Aside0 (Below w.heap.size w w'))
  case atStart => exact ⟨(0), (true), (([] : List ByteArray)), (.slice none 0 0), relA, relA, H', ⟨Nat.le_refl _⟩, ⟨by first | exact Kd.R_nil _ _ _ _ _ | exact Kd.N_nil _ _ _ _ _ | exact Kd.V_nil _ _ _ _ _ | exact Kd.Q_nil _ _ _ _ _ | exact Kd.S_nil _ _ _ _ _⟩, ⟨blkA BK143.out⟩, ⟨blkA BK144.out⟩, ⟨belC HB.out GE143.out GE144.out⟩⟩
  case round =>
   clear H'
   try clear p2
   try clear p3
   try clear c4
   obtain ⟨x5_1, x6_1, x145000_1, u145000, rfl, rfl, HA, HK1, HO_145000, BK143, BK144, HB⟩ := hrel
   cases gk with
   | zero => exact absurd HA.out (by simp [key_Read.l0])
   | succ k1 =>
    have H := HA.out
    clear HA
    simp only [key_Read.l0] at H
    have HC5 := Aside0.mk H
    clear H
    (go_upto_region 3 with (fail); repeat (go_step3; try (go_upto_region 3 with (fail))))
    go_cut [10] (fun v10 wc => ∃ (kq : Nat) (x10_4 : Bool), v10 = .bool x10_4 ∧ Aside0 (key_Read.j1 kq l0 x5_1 x6_1 x10_4 x145000_1 0 0 = some (r1, r2, r3, r4)) ∧ Aside0 (kq ≤ k1) ∧ Aside0 (Kd.R Kd.string 9 wc w.heap.size (fun _ => True) u145000 x145000_1) ∧ Aside0 (wc.heap[gb143]? = some (.cells #[(.slice none 0 0), .int .i64 0, .int .i64 0] 70 (0, 0))) ∧ Aside0 (wc.heap[gb144]? = some (.cells #[u145000, .int .i64 0, .int .i64 0] 70 (0, 0))) ∧ Aside0 (Below w.heap.size w wc))
    case first =>
     have H := HC5.out
     clear HC5
     by_cases c6 : x5_1 ≥ (l0.length : Int)
     ·rw [if_pos c6] at H
      have c6b0 := decide_eq_true c6
      clear c6
      (first | rw [c6b0] | (simp only [i64_w, i32_w]; rw [c6b0]) | skip)
      have H' := Aside0.mk H
      clear H
      (go_wp2; repeat (go_step3; try (go_wp2)))
      go_meet
      case rel => exact ⟨_, (true), relA, H', ⟨by have := HK1.out; first | omega | exact Nat.le_refl _⟩, ⟨rowA HO_145000.out⟩, ⟨blkA BK143.out⟩, ⟨blkA BK144.out⟩, ⟨belC HB.out GE143.out GE144.out⟩⟩
     rw [if_neg c6] at H
     have c6b0 := decide_eq_false c6
     clear c6
     (first | rw [c6b0] | (simp only [i64_w, i32_w]; rw [c6b0]) | skip)
     replace H := ifN H
     obtain ⟨c7, H⟩ := H
     have c7b0 := decide_eq_true c7
     clear c7
     replace H := ifN H
     obtain ⟨c8, H⟩ := H
     have c8b0 := decide_eq_true c8
     clear c8
     have H' := Aside0.mk H
     clear H
     have p145 : 0 ≤ (x5_1 : Int) := of_decide_eq_true asmA
     have q145 : x5_1 < (l0.length : Int) := of_decide_eq_true asmA
     obtain ⟨ad145, e145, hx145_0⟩ := Kd.at_int HR0.out x5_1 p145 q145
     cases e145
     replace hx145_0 := cbx HB hx145_0
     replace p145 := eq_true p145
     replace q145 := eq_true q145
     (go_wp2; repeat (go_step3; try (go_wp2)))
     go_meet
     case rel => exact ⟨_, (decide ((rd l0 x5_1) > 1)), relA, H', ⟨by have := HK1.out; first | omega | exact Nat.le_refl _⟩, ⟨rowA HO_145000.out⟩, ⟨blkA BK143.out⟩, ⟨blkA BK144.out⟩, ⟨belC HB.out GE143.out GE144.out⟩⟩
    case rest =>
     clear HC5
     try clear p1
     try clear q1
     try clear hx1
     try clear p2
     try clear p3
     try clear c4
     try clear c6
     try clear c6b0
     try clear c7
     try clear c7b0
     try clear c8
     try clear c8b0
     try clear hx145_0
     try clear p145
     try clear p2
     try clear p3
     try clear q145
     obtain ⟨kq, x10_4, rfl, HA, HJ4, HO_145000, BK143, BK144, HB⟩ := hcut
     cases kq with
     | zero => exact absurd HA.out (by simp [key_Read.j1])
     | succ kj4 =>
      have H := HA.out
      clear HA
      simp only [key_Read.j1] at H
      by_cases c9 : x10_4 = true
      ·subst c9
       have H1 : (key_Read.j2 kj4 l0 x5_1 false x145000_1 0 0) = some (r1, r2, r3, r4) := by rw [if_pos rfl] at H; exact H
       clear H
       have H := H1
       clear H1
       have H' := Aside0.mk H
       clear H
       (go_wp2; repeat (go_step3; try (go_wp2)))
       go_meet
       case rel => exact ⟨_, (x5_1), (false), (x145000_1), (u145000), relA, relA, H', ⟨by have := HK1.out; have := HJ4.out; first | omega | exact Nat.le_refl _⟩, ⟨rowA HO_145000.out⟩, ⟨blkA BK143.out⟩, ⟨blkA BK144.out⟩, ⟨belC HB.out GE143.out GE144.out⟩⟩
      replace c9 := Bool.eq_false_iff.mpr c9
      subst c9
      have H1 : (if 0 ≤ x5_1 then (if x5_1 < (l0.length : Int) then (if (rd l0 x5_1) = 0 then (key_Read.j2 kj4 l0 (wrap64 (x5_1 + 1)) x6_1 x145000_1 0 0) else (if 0 ≤ (wrap64 (x5_1 + 1)) then (if (wrap64 (x5_1 + 1)) ≤ (l0.length : Int) then ((code_ReadText.f kj4 (l0.drop ((wrap64 (x5_1 + 1)) : Int).toNat)).bind fun bt148 => (if bt148.2.2 = 0 then (if x145000_1.length < 8796093022208 then (key_Read.l0 kj4 l0 (wrap64 (x5_1 + (wrap64 (bt148.2.1 + 1)))) x6_1 (x145000_1 ++ [bt148.1]) 0 0) else (none)) else (key_Read.j2 kj4 l0 x5_1 false x145000_1 0 0))) else (none)) else (none))) else (none)) else (none)) = some (r1, r2, r3, r4) := by rw [if_neg (show ¬ (false = true) by decide)] at H; exact H
      clear H
      have H := H1
      clear H1
      replace H := ifN H
      obtain ⟨c10, H⟩ := H
      have c10b0 := decide_eq_true c10
      clear c10
      replace H := ifN H
      obtain ⟨c11, H⟩ := H
      have c11b0 := decide_eq_true c11
      clear c11
      by_cases c12 : (rd l0 x5_1) = 0
      ·rw [if_pos c12] at H
       have c12b0 := beq_iff_eq.mpr c12
       have c12b1 := bne_eq_false_iff_eq.mpr c12
       clear c12
       have H' := Aside0.mk H
       clear H
       have p146 : 0 ≤ (x5_1 : Int) := of_decide_eq_true asmA
       have q146 : x5_1 < (l0.length : Int) := of_decide_eq_true asmA
       obtain ⟨ad146, e146, hx146_0⟩ := Kd.at_int HR0.out x5_1 p146 q146
       cases e146
       replace hx146_0 := cbx HB hx146_0
       replace p146 := eq_true p146
       replace q146 := eq_true q146
       (go_wp2; repeat (go_step3; try (go_wp2)))
       go_meet
       case rel => exact ⟨_, (wrap64 (x5_1 + 1)), (x6_1), (x145000_1), (u145000), relA, relA, H', ⟨by have := HK1.out; have := HJ4.out; first | omega | exact Nat.le_refl _⟩, ⟨rowA HO_145000.out⟩, ⟨blkA BK143.out⟩, ⟨blkA BK144.out⟩, ⟨belC HB.out GE143.out GE144.out⟩⟩
      rw [if_neg c12] at H
      have c12b0 := beq_eq_false_iff_ne.mpr c12
      have c12b1 := bne_iff_ne.mpr c12
      obtain ⟨ji13, hji13⟩ : ∃ j_ : Int, (wrap64 (x5_1 + 1)) = j_ := ⟨_, rfl⟩
      replace H : (if 0 ≤ (ji13) then (if (ji13) ≤ (l0.length : Int) then ((code_ReadText.f kj4 (l0.drop ((ji13) : Int).toNat)).bind fun bt148 => (if bt148.2.2 = 0 then (if x145000_1.length < 8796093022208 then (key_Read.l0 kj4 l0 (wrap64 (x5_1 + (wrap64 (bt148.2.1 + 1)))) x6_1 (x145000_1 ++ [bt148.1]) 0 0) else (none)) else (key_Read.j2 kj4 l0 x5_1 false x145000_1 0 0))) else (none)) else (none)) = some (r1, r2, r3, r4) := by first | (rw [hji13] at H; exact H) | (simp only [hji13] at H ⊢; exact H)
      have hji13w : (IntKind.i64.wrap (x5_1 + 1)) = ji13 := (i64_w _).trans hji13
      replace H := ifN H
      obtain ⟨c14, H⟩ := H
      have c14b0 := eq_true c14
      have c14b1 := decide_eq_true c14
      clear c14
      replace H := ifN H
      obtain ⟨c15, H⟩ := H
      have c15b0 := eq_true c15
      have c15b1 := decide_eq_true c15
      clear c15
      replace H := bnA H
      obtain ⟨⟨t148, t149, t150⟩, A16, H⟩ := H
      replace H : (if t150 = 0 then (if x145000_1.length < 8796093022208 then (key_Read.l0 kj4 l0 (wrap64 (x5_1 + (wrap64 (t149 + 1)))) x6_1 (x145000_1 ++ [t148]) 0 0) else (none)) else (key_Read.j2 kj4 l0 x5_1 false x145000_1 0 0)) = some (r1, r2, r3, r4) := H
      by_cases c17 : t150 = 0
      rotate_left
      ·rw [if_neg c17] at H
       have c17b0 := beq_eq_false_iff_ne.mpr c17
       have c17b1 := bne_iff_ne.mpr c17
       have H' := Aside0.mk H
       clear H
       have p146 : 0 ≤ (x5_1 : Int) := of_decide_eq_true asmA
       have q146 : x5_1 < (l0.length : Int) := of_decide_eq_true asmA
       obtain ⟨ad146, e146, hx146_0⟩ := Kd.at_int HR0.out x5_1 p146 q146
       cases e146
       replace hx146_0 := cbx HB hx146_0
       replace p146 := eq_true p146
       replace q146 := eq_true q146
       obtain ⟨i026, hi026, _, hsz26, _⟩ := info_parts info5
       obtain ⟨A26, hcut26, hA26, hC26⟩ := print_drop_of (P := Try.prog) (Value.int .u8) 0 58 5 .i64 Try.underlying58 hi026 hsz26 (some ad146) c0 l0 (ji13) (of_decide_eq_true asmA) (of_decide_eq_true asmA) HC0.out
       have HR147 := Aside0.mk (Kd.C_of_reads (h1 := fun _ => rfl) (hA26 _ (Kd.reads_of_C HR0.out)))
       have HC147 := Aside0.mk hC26
       clear hA26 hC26 hi026 hsz26
       (go_wp2_with (first | ((with_reducible refine gate_callee (f := 61) rfl ?_); refine goesL_ (some 35) rfl rfl Try.func61 (by kernel_rfl) rfl #[.slice A26 (l0.drop ((ji13) : Int).toNat).length (c0 - (ji13).toNat)] rfl (by (try simp only [List.map_toArray, List.map_cons, List.map_nil]); first | done | (rw [show (l0.drop ((ji13) : Int).toNat).length = (l0.length - (ji13).toNat) from List.length_drop] <;> rfl) | (simp only [hji13]; rfl) | rfl | (simp only [List.length_drop, List.length_take]; rfl)) ?_; (with_reducible refine (code_ReadText.calls kj4 _ _ (l0.drop ((ji13) : Int).toNat) t148 t149 t150 _ ?side1 ?side2 A16.out).mono ?_); (case side1 => exact cb1 HR147 HB); (case side2 => exact HC147.out); rintro e w27 ⟨rfl, hb⟩; refine ⟨_, rfl, ?_⟩; replace HO_145000 := Aside0.mk (Kd.R_below (rowA HO_145000.out) hb); replace BK143 := blkB BK143 hb; replace BK144 := blkB BK144 hb; replace HB := bs3 HB GE143 GE144 hb; (try clear hb))); repeat (go_step3; try (go_wp2_with (first | ((with_reducible refine gate_callee (f := 61) rfl ?_); refine goesL_ (some 35) rfl rfl Try.func61 (by kernel_rfl) rfl #[.slice A26 (l0.drop ((ji13) : Int).toNat).length (c0 - (ji13).toNat)] rfl (by (try simp only [List.map_toArray, List.map_cons, List.map_nil]); first | done | (rw [show (l0.drop ((ji13) : Int).toNat).length = (l0.length - (ji13).toNat) from List.length_drop] <;> rfl) | (simp only [hji13]; rfl) | rfl | (simp only [List.length_drop, List.length_take]; rfl)) ?_; (with_reducible refine (code_ReadText.calls kj4 _ _ (l0.drop ((ji13) : Int).toNat) t148 t149 t150 _ ?side1 ?side2 A16.out).mono ?_); (case side1 => exact cb1 HR147 HB); (case side2 => exact HC147.out); rintro e w27 ⟨rfl, hb⟩; refine ⟨_, rfl, ?_⟩; replace HO_145000 := Aside0.mk (Kd.R_below (rowA HO_145000.out) hb); replace BK143 := blkB BK143 hb; replace BK144 := blkB BK144 hb; replace HB := bs3 HB GE143 GE144 hb; (try clear hb))))))
       go_meet
       case rel => exact ⟨_, (x5_1), (false), (x145000_1), (u145000), relA, relA, H', ⟨by have := HK1.out; have := HJ4.out; first | omega | exact Nat.le_refl _⟩, ⟨rowA HO_145000.out⟩, ⟨blkA BK143.out⟩, ⟨blkA BK144.out⟩, ⟨belC HB.out GE143.out GE144.out⟩⟩
      rw [if_pos c17] at H
      have c17b0 := beq_iff_eq.mpr c17
      have c17b1 := bne_eq_false_iff_eq.mpr c17
      clear c17
      replace H := ifN H
      obtain ⟨c18, H⟩ := H
      have LMc18 := Aside0.mk c18
      clear c18
      obtain ⟨y151, hy151⟩ : ∃ y_ : List ByteArray, y_ = (x145000_1 ++ [t148]) := ⟨_, rfl⟩
      replace H : (key_Read.l0 kj4 l0 (wrap64 (x5_1 + (wrap64 (t149 + 1)))) x6_1 y151 0 0) = some (r1, r2, r3, r4) := nmA hy151 H
      have Ny151 := Aside0.mk hy151
      clear hy151
      have H' := Aside0.mk H
      clear H
      have p146 : 0 ≤ (x5_1 : Int) := of_decide_eq_true asmA
      have q146 : x5_1 < (l0.length : Int) := of_decide_eq_true asmA
      obtain ⟨ad146, e146, hx146_0⟩ := Kd.at_int HR0.out x5_1 p146 q146
      cases e146
      replace hx146_0 := cbx HB hx146_0
      replace p146 := eq_true p146
      replace q146 := eq_true q146
      obtain ⟨i019, hi019, _, hsz19, _⟩ := info_parts info5
      obtain ⟨A19, hcut19, hA19, hC19⟩ := print_drop_of (P := Try.prog) (Value.int .u8) 0 58 5 .i64 Try.underlying58 hi019 hsz19 (some ad146) c0 l0 (ji13) (of_decide_eq_true asmA) (of_decide_eq_true asmA) HC0.out
      have HR147 := Aside0.mk (Kd.C_of_reads (h1 := fun _ => rfl) (hA19 _ (Kd.reads_of_C HR0.out)))
      have HC147 := Aside0.mk hC19
      clear hA19 hC19 hi019 hsz19
      (go_wp2_with (first | ((with_reducible refine gate_callee (f := 61) rfl ?_); refine goesL_ (some 35) rfl rfl Try.func61 (by kernel_rfl) rfl #[.slice A19 (l0.drop ((ji13) : Int).toNat).length (c0 - (ji13).toNat)] rfl (by (try simp only [List.map_toArray, List.map_cons, List.map_nil]); first | done | (rw [show (l0.drop ((ji13) : Int).toNat).length = (l0.length - (ji13).toNat) from List.length_drop] <;> rfl) | (simp only [hji13]; rfl) | rfl | (simp only [List.length_drop, List.length_take]; rfl)) ?_; (with_reducible refine (code_ReadText.calls kj4 _ _ (l0.drop ((ji13) : Int).toNat) t148 t149 t150 _ ?side1 ?side2 A16.out).mono ?_); (case side1 => exact cb1 HR147 HB); (case side2 => exact HC147.out); rintro e w20 ⟨rfl, hb⟩; refine ⟨_, rfl, ?_⟩; replace HO_145000 := Aside0.mk (Kd.R_below (rowA HO_145000.out) hb); replace BK143 := blkB BK143 hb; replace BK144 := blkB BK144 hb; replace HB := bs3 HB GE143 GE144 hb; (try clear hb); have hnb21 := NB144_143.out; have hnc21 := NB143_144.out; obtain ⟨hcz22_0, hcz22_1, hcz22_2, hfz22_0, hfz22_1, hfz22_2⟩ := blk3 BK144) | ((with_reducible refine gate_builtin (b := .append) (xs := #[.tmp 42, .tmp 44]) rfl ?_); (try (refine gate_guard (by rfl) ?_; dsimp only)); at_builtin; refine Kd.R_append Kd.string (w0 := w) w.heap.size rfl (.tmp 42) (.tmp 44) 26 9 (.string ⟨#[]⟩) 16 rfl Try.underlying26 info9 rfl (by decide) (by omega) u145000 x145000_1 t148 [.string t148] (fun _ => True) (fun _ => False) rfl rfl ?aP (fun _ hk => hk.elim) ?aF ?aO ?aB ?aS ?aL ?_; (case aP => exact rfl); (case aB => exact (belC HB.out GE143.out GE144.out)); (case aF => exact (fun _ _ => trivial)); (case aO => exact (rowA HO_145000.out)); (case aS => exact (below_size (belC HB.out GE143.out GE144.out))); (case aL => have := LMc18.out; omega); intro v152 w23 ho hb hg hat; rw [← Ny151.out] at ho; have HO153 := Aside0.mk (ho); replace BK143 := grB BK143 hg (hne := (Kd.R_ne HO_145000.out BK143.out (by decide))); replace BK144 := grB BK144 hg (hne := (Kd.R_ne HO_145000.out BK144.out (by decide))); replace HB := Aside0.mk (hb); clear HO_145000; clear ho hb hg hat; obtain ⟨Ao24, co24, eo24⟩ := Kd.R_slice HO153.out; subst eo24; obtain ⟨hcz25_0, hcz25_1, hcz25_2, hfz25_0, hfz25_1, hfz25_2⟩ := blk3 BK144)); repeat (go_step3; try (go_wp2_with (first | ((with_reducible refine gate_callee (f := 61) rfl ?_); refine goesL_ (some 35) rfl rfl Try.func61 (by kernel_rfl) rfl #[.slice A19 (l0.drop ((ji13) : Int).toNat).length (c0 - (ji13).toNat)] rfl (by (try simp only [List.map_toArray, List.map_cons, List.map_nil]); first | done | (rw [show (l0.drop ((ji13) : Int).toNat).length = (l0.length - (ji13).toNat) from List.length_drop] <;> rfl) | (simp only [hji13]; rfl) | rfl | (simp only [List.length_drop, List.length_take]; rfl)) ?_; (with_reducible refine (code_ReadText.calls kj4 _ _ (l0.drop ((ji13) : Int).toNat) t148 t149 t150 _ ?side1 ?side2 A16.out).mono ?_); (case side1 => exact cb1 HR147 HB); (case side2 => exact HC147.out); rintro e w20 ⟨rfl, hb⟩; refine ⟨_, rfl, ?_⟩; replace HO_145000 := Aside0.mk (Kd.R_below (rowA HO_145000.out) hb); replace BK143 := blkB BK143 hb; replace BK144 := blkB BK144 hb; replace HB := bs3 HB GE143 GE144 hb; (try clear hb); have hnb21 := NB144_143.out; have hnc21 := NB143_144.out; obtain ⟨hcz22_0, hcz22_1, hcz22_2, hfz22_0, hfz22_1, hfz22_2⟩ := blk3 BK144) | ((with_reducible refine gate_builtin (b := .append) (xs := #[.tmp 42, .tmp 44]) rfl ?_); (try (refine gate_guard (by rfl) ?_; dsimp only)); at_builtin; refine Kd.R_append Kd.string (w0 := w) w.heap.size rfl (.tmp 42) (.tmp 44) 26 9 (.string ⟨#[]⟩) 16 rfl Try.underlying26 info9 rfl (by decide) (by omega) u145000 x145000_1 t148 [.string t148] (fun _ => True) (fun _ => False) rfl rfl ?aP (fun _ hk => hk.elim) ?aF ?aO ?aB ?aS ?aL ?_; (case aP => exact rfl); (case aB => exact (belC HB.out GE143.out GE144.out)); (case aF => exact (fun _ _ => trivial)); (case aO => exact (rowA HO_145000.out)); (case aS => exact (below_size (belC HB.out GE143.out GE144.out))); (case aL => have := LMc18.out; omega); intro v152 w23 ho hb hg hat; rw [← Ny151.out] at ho; have HO153 := Aside0.mk (ho); replace BK143 := grB BK143 hg (hne := (Kd.R_ne HO_145000.out BK143.out (by decide))); replace BK144 := grB BK144 hg (hne := (Kd.R_ne HO_145000.out BK144.out (by decide))); replace HB := Aside0.mk (hb); clear HO_145000; clear ho hb hg hat; obtain ⟨Ao24, co24, eo24⟩ := Kd.R_slice HO153.out; subst eo24; obtain ⟨hcz25_0, hcz25_1, hcz25_2, hfz25_0, hfz25_1, hfz25_2⟩ := blk3 BK144)))))
      go_roundg kj4
      case measure => have := HK1.out; have := HJ4.out; omega
      case rel => exact ⟨(wrap64 (x5_1 + (wrap64 (t149 + 1)))), (x6_1), (y151), (.slice Ao24 y151.length co24), relA, relA, H', ⟨by have := HK1.out; have := HJ4.out; omega⟩, ⟨by (with_reducible repeat (first | apply Kd.R_alloc | apply Kd.R_drewN | apply Kd.R_drew)); exact Kd.R_mono (Kd.R_far (p := ⟨gb144, 0, none⟩) (Kd.R_types HO153.out BK144.out (by decide)) (fun _ hk => hk.2) (.slice Ao24 y151.length co24)) (fun _ hk => trivial)⟩, ⟨putB BK143.out NB143_144.out⟩, ⟨putA BK144.out⟩, ⟨belC HB.out GE143.out GE144.out⟩⟩
 case rest =>
  clear HC2
  try clear c1
  try clear p1
  try clear q1
  try clear hx1
  try clear c2
  try clear p2
  try clear p3
  try clear c4
  try clear c6
  try clear c6b0
  try clear p6
  try clear c7
  try clear c7b0
  try clear c8
  try clear c8b0
  try clear c9
  try clear c10
  try clear c10b0
  try clear c11
  try clear c11b0
  try clear c12
  try clear c12b0
  try clear c12b1
  try clear c14
  try clear c14b0
  try clear c14b1
  try clear p14
  try clear q14
  try clear hx14
  try clear c15
  try clear c15b0
  try clear c15b1
  try clear c17
  try clear c17b0
  try clear c17b1
  try clear c18
  try clear c21
  try clear hcz22_0 hcz22_1 hcz22_2
  try clear hcz25_0 hcz25_1 hcz25_2
  try clear hfz22_0 hfz22_1 hfz22_2
  try clear hfz25_0 hfz25_1 hfz25_2
  try clear hx145_0
  try clear hx146_0
  try clear p1
  try clear p145
  try clear p146
  try clear p2
  try clear p3
  try clear q1
  try clear q145
  try clear q146
  obtain ⟨kq, x5_1, x6_1, x145000_1, u145000, rfl, rfl, HA, HJ1, HO_145000, BK143, BK144, HB⟩ := hcut
  cases kq with
  | zero => exact absurd HA.out (by simp [key_Read.j2])
  | succ kj1 =>
   have H := HA.out
   clear HA
   simp only [key_Read.j2] at H
   have HC28 := Aside0.mk H
   clear H
   (go_upto_region 12 with (fail); repeat (go_step3; try (go_upto_region 12 with (fail))))
   go_cut [59] (fun v59 wc => ∃ (kq : Nat) (x59_27 : Bool), v59 = .bool x59_27 ∧ Aside0 (key_Read.j3 kq l0 x5_1 x59_27 x145000_1 0 0 = some (r1, r2, r3, r4)) ∧ Aside0 (kq ≤ kj1) ∧ Aside0 (Kd.R Kd.string 9 wc w.heap.size (fun _ => True) u145000 x145000_1) ∧ Aside0 (wc.heap[gb143]? = some (.cells #[(.slice none 0 0), .int .i64 0, .int .i64 0] 70 (0, 0))) ∧ Aside0 (wc.heap[gb144]? = some (.cells #[u145000, .int .i64 0, .int .i64 0] 70 (0, 0))) ∧ Aside0 (Below w.heap.size w wc))
   case first =>
    have H := HC28.out
    clear HC28
    by_cases c29 : x6_1 = true
    ·subst c29
     have H1 : (key_Read.j3 kj1 l0 x5_1 ((l0.length : Int) != (wrap64 (x5_1 + 9))) x145000_1 0 0) = some (r1, r2, r3, r4) := by rw [if_pos rfl] at H; exact H
     clear H
     have H := H1
     clear H1
     have H' := Aside0.mk H
     clear H
     (go_wp2; repeat (go_step3; try (go_wp2)))
     go_meet
     case rel => exact ⟨_, (((l0.length : Int) != (wrap64 (x5_1 + 9)))), relA, H', ⟨by have := HJ1.out; first | omega | exact Nat.le_refl _⟩, ⟨rowA HO_145000.out⟩, ⟨blkA BK143.out⟩, ⟨blkA BK144.out⟩, ⟨belC HB.out GE143.out GE144.out⟩⟩
    replace c29 := Bool.eq_false_iff.mpr c29
    subst c29
    have H1 : (key_Read.j3 kj1 l0 x5_1 true x145000_1 0 0) = some (r1, r2, r3, r4) := by rw [if_neg (show ¬ (false = true) by decide)] at H; exact H
    clear H
    have H := H1
    clear H1
    have H' := Aside0.mk H
    clear H
    (go_wp2; repeat (go_step3; try (go_wp2)))
    go_meet
    case rel => exact ⟨_, (true), relA, H', ⟨by have := HJ1.out; first | omega | exact Nat.le_refl _⟩, ⟨rowA HO_145000.out⟩, ⟨blkA BK143.out⟩, ⟨blkA BK144.out⟩, ⟨belC HB.out GE143.out GE144.out⟩⟩
   case rest =>
    clear HC28
    try clear c1
    try clear p1
    try clear q1
    try clear hx1
    try clear c2
    try clear p2
    try clear p3
    try clear c4
    try clear c6
    try clear c6b0
    try clear p6
    try clear c7
    try clear c7b0
    try clear c8
    try clear c8b0
    try clear c9
    try clear c10
    try clear c10b0
    try clear c11
    try clear c11b0
    try clear c12
    try clear c12b0
    try clear c12b1
    try clear c14
    try clear c14b0
    try clear c14b1
    try clear p14
    try clear q14
    try clear hx14
    try clear c15
    try clear c15b0
    try clear c15b1
    try clear c17
    try clear c17b0
    try clear c17b1
    try clear c18
    try clear c21
    try clear c29
    try clear hcz22_0 hcz22_1 hcz22_2
    try clear hcz25_0 hcz25_1 hcz25_2
    try clear hfz22_0 hfz22_1 hfz22_2
    try clear hfz25_0 hfz25_1 hfz25_2
    try clear hx145_0
    try clear hx146_0
    try clear p1
    try clear p14
    try clear p145
    try clear p146
    try clear p2
    try clear p3
    try clear p6
    try clear q1
    try clear q14
    try clear q145
    try clear q146
    obtain ⟨kq, x59_27, rfl, HA, HJ27, HO_145000, BK143, BK144, HB⟩ := hcut
    cases kq with
    | zero => exact absurd HA.out (by simp [key_Read.j3])
    | succ kj27 =>
     have H := HA.out
     clear HA
     simp only [key_Read.j3] at H
     by_cases c30 : x59_27 = true
     ·subst c30
      have H1 : (some (([] : List ByteArray), 0, 0, 40)) = some (r1, r2, r3, r4) := by rw [if_pos rfl] at H; exact H
      clear H
      have H := H1
      clear H1
      simp only [Option.some.injEq, Prod.mk.injEq] at H
      obtain ⟨rfl, rfl, rfl, rfl⟩ := H
      have hnb31 := NB143_144.out
      have hnc31 := NB144_143.out
      obtain ⟨hcz32_0, hcz32_1, hcz32_2, hfz32_0, hfz32_1, hfz32_2⟩ := blk3 BK143
      (go_wp2; repeat (go_step3; try (go_wp2)))
      (try rw [Exit.noGoto_ret]); refine bodyPost_ret (results_ct rfl _ _ gb143 70 #[.slice none 0 0, .int .i64 0, .int .i64 0] (0, 0) _ rfl (putA BK143.out) Try.underlying70 rfl (by kernel_rfl)) rfl ?_
      exact ⟨_, ret1, by first | exact Kd.R_nil _ _ _ _ _ | exact Kd.N_nil _ _ _ _ _ | exact Kd.V_nil _ _ _ _ _ | exact Kd.Q_nil _ _ _ _ _ | exact Kd.S_nil _ _ _ _ _, belC HB.out GE143.out GE144.out⟩
     replace c30 := Bool.eq_false_iff.mpr c30
     subst c30
     have H1 : (if 0 ≤ x5_1 then (if x5_1 ≤ (l0.length : Int) then ((code_ReadNumber.f (l0.drop (x5_1 : Int).toNat)).bind fun bt155 => (if 0 ≤ (wrap64 (x5_1 + 8)) then (if (wrap64 (x5_1 + 8)) < (l0.length : Int) then ((key_Right.f x145000_1 bt155.1 (wrap64 (rd l0 (wrap64 (x5_1 + 8))))).bind fun t159 => (if t159 = true then (some (x145000_1, bt155.1, wrap64 (rd l0 (wrap64 (x5_1 + 8))), 0)) else (some (([] : List ByteArray), 0, 0, 40)))) else (none)) else (none))) else (none)) else (none)) = some (r1, r2, r3, r4) := by rw [if_neg (show ¬ (false = true) by decide)] at H; exact H
     clear H
     have H := H1
     clear H1
     replace H := ifN H
     obtain ⟨c33, H⟩ := H
     have c33b0 := eq_true c33
     have c33b1 := decide_eq_true c33
     clear c33
     replace H := ifN H
     obtain ⟨c34, H⟩ := H
     have c34b0 := eq_true c34
     have c34b1 := decide_eq_true c34
     clear c34
     replace H := bnA H
     obtain ⟨⟨t155, t156, t157⟩, A35, H⟩ := H
     replace H : (if 0 ≤ (wrap64 (x5_1 + 8)) then (if (wrap64 (x5_1 + 8)) < (l0.length : Int) then ((key_Right.f x145000_1 t155 (wrap64 (rd l0 (wrap64 (x5_1 + 8))))).bind fun t159 => (if t159 = true then (some (x145000_1, t155, wrap64 (rd l0 (wrap64 (x5_1 + 8))), 0)) else (some (([] : List ByteArray), 0, 0, 40)))) else (none)) else (none)) = some (r1, r2, r3, r4) := H
     obtain ⟨ji36, hji36⟩ : ∃ j_ : Int, (wrap64 (x5_1 + 8)) = j_ := ⟨_, rfl⟩
     replace H : (if 0 ≤ (ji36) then (if (ji36) < (l0.length : Int) then ((key_Right.f x145000_1 t155 (wrap64 (rd l0 (ji36)))).bind fun t159 => (if t159 = true then (some (x145000_1, t155, wrap64 (rd l0 (ji36)), 0)) else (some (([] : List ByteArray), 0, 0, 40)))) else (none)) else (none)) = some (r1, r2, r3, r4) := by first | (rw [hji36] at H; exact H) | (simp only [hji36] at H ⊢; exact H)
     (try rw [hji36] at A35)
     have hji36w : (IntKind.i64.wrap (x5_1 + 8)) = ji36 := (i64_w _).trans hji36
     replace H := ifN H
     obtain ⟨c37, H⟩ := H
     have c37b0 := decide_eq_true c37
     clear c37
     replace H := ifN H
     obtain ⟨c38, H⟩ := H
     have c38b0 := decide_eq_true c38
     clear c38
     replace H := bnA H
     obtain ⟨t159, A39, H⟩ := H
     by_cases c40 : t159 = true
     ·subst c40
      have H1 : (some (x145000_1, t155, wrap64 (rd l0 (ji36)), 0)) = some (r1, r2, r3, r4) := by rw [if_pos rfl] at H; exact H
      clear H
      have H := H1
      clear H1
      simp only [Option.some.injEq, Prod.mk.injEq] at H
      obtain ⟨rfl, rfl, rfl, rfl⟩ := H
      obtain ⟨i041, hi041, _, hsz41, _⟩ := info_parts info5
      obtain ⟨A41, hcut41, hA41, hC41⟩ := print_drop_of (P := Try.prog) (Value.int .u8) 0 58 5 .i64 Try.underlying58 hi041 hsz41 A0 c0 l0 x5_1 (of_decide_eq_true asmA) (of_decide_eq_true asmA) HC0.out
      have HR154 := Aside0.mk (Kd.C_of_reads (h1 := fun _ => rfl) (hA41 _ (Kd.reads_of_C HR0.out)))
      have HC154 := Aside0.mk hC41
      clear hA41 hC41 hi041 hsz41
      (go_wp2_with (first | ((with_reducible refine gate_callee (f := 62) rfl ?_); refine goesL_ (some 65) rfl rfl Try.func62 (by kernel_rfl) rfl #[.slice A41 (l0.drop (x5_1 : Int).toNat).length (c0 - x5_1.toNat)] rfl (by (try simp only [List.map_toArray, List.map_cons, List.map_nil]); first | done | (rw [show (l0.drop (x5_1 : Int).toNat).length = (l0.length - x5_1.toNat) from List.length_drop] <;> rfl) | rfl | (simp only [List.length_drop, List.length_take]; rfl)) ?_; (with_reducible refine (code_ReadNumber.calls _ _ (l0.drop (x5_1 : Int).toNat) t155 t156 t157 _ ?side1 ?side2 A35.out).mono ?_); (case side1 => exact cb1 HR154 HB); (case side2 => exact HC154.out); rintro e w' ⟨rfl, ⟨nd, rfl⟩⟩; refine ⟨_, rfl, ?_⟩; (try (rw [drewN_self wc]; generalize hq_ : World.drewN wc _ = wc; have n0_ : Aside0 (Kd.R Kd.string 9 wc w.heap.size (fun _ => True) u145000 x145000_1) := ⟨by rw [← hq_]; exact (rowA HO_145000.out)⟩; have n1_ : Aside0 (wc.heap[gb143]? = some (.cells #[.slice none 0 0, .int .i64 0, .int .i64 0] 70 (0, 0))) := ⟨by rw [← hq_]; exact (blkA BK143.out)⟩; have n2_ : Aside0 (wc.heap[gb144]? = some (.cells #[u145000, .int .i64 0, .int .i64 0] 70 (0, 0))) := ⟨by rw [← hq_]; exact (blkA BK144.out)⟩; have n3_ : Aside0 (Below w.heap.size w wc) := ⟨by rw [← hq_]; exact (belC HB.out GE143.out GE144.out)⟩; clear HO_145000 BK143 BK144 HB hq_; have HO_145000 := n0_; have BK143 := n1_; have BK144 := n2_; have HB := n3_; clear n0_ n1_ n2_ n3_)); have hnb42 := NB144_143.out; have hnc42 := NB143_144.out; obtain ⟨hcz43_0, hcz43_1, hcz43_2, hfz43_0, hfz43_1, hfz43_2⟩ := blk3 BK144; have p158 : 0 ≤ ((ji36) : Int) := of_decide_eq_true asmA; have q158 : (ji36) < (l0.length : Int) := of_decide_eq_true asmA; obtain ⟨ad158, e158, hx158_0⟩ := Kd.at_int HR0.out (ji36) p158 q158; cases e158; have hn158_0 : ad158.block ≠ gb144 := Nat.ne_of_lt (Nat.lt_of_lt_of_le (by have := World.block_lt_of_cell? _ _ hx158_0; first | rwa [add_block] at this | exact this) GW144.out); replace hx158_0 := cbx HB hx158_0; replace hx158_0 := (cell_far (p := ⟨gb144, 1, none⟩) (by first | (rw [add_block]; exact hn158_0) | (show (Addr.add _ _).block ≠ _; rw [add_block]; exact hn158_0) | exact hn158_0) (.int .i64 t155)).trans hx158_0; clear hn158_0; replace p158 := eq_true p158; replace q158 := eq_true q158; obtain ⟨Ao44, co44, eo44⟩ := Kd.R_slice HO_145000.out; subst eo44) | ((with_reducible refine gate_callee (f := 23) rfl ?_); refine goesL_ (some 78) rfl rfl Try.func23 (by kernel_rfl) rfl #[.agg #[.slice Ao44 x145000_1.length co44, .int .i64 t155, .int .i64 (wrap64 (rd l0 (ji36)))]] rfl (by (try simp only [List.map_toArray, List.map_cons, List.map_nil]); first | done | (simp only [hji36]; rfl) | rfl | (simp only [List.length_drop, List.length_take]; rfl)) ?_; (with_reducible refine (key_Right.calls _ _ x145000_1 t155 (wrap64 (rd l0 (ji36))) true _ ?side1 ?side2 A39.out).mono ?_); (case side1 => refine (Kd.R_reads' (e := 9) (base := w.heap.size) (ok := fun k_ => True) (n := x145000_1.length) (c := co44) ?_).2.2; exact (by (with_reducible repeat (first | apply Kd.R_alloc | apply Kd.R_drewN | apply Kd.R_drew)); exact (Kd.R_mono (Kd.R_far (p := ⟨gb144, 2, none⟩) (Kd.R_far (p := ⟨gb144, 1, none⟩) (Kd.R_types HO_145000.out BK144.out (by decide)) (fun _ hk => hk.2) (.int .i64 t155)) (fun _ hk => hk.2) (.int .i64 (wrap64 (rd l0 (ji36))))) (fun _ h_ => h_.1)))); (case side2 => exact (Kd.R_reads' HO_145000.out).2.1); rintro e w45 ⟨rfl, hb⟩; refine ⟨_, rfl, ?_⟩; replace HO_145000 := Aside0.mk (Kd.R_below (by (with_reducible repeat (first | apply Kd.R_alloc | apply Kd.R_drewN | apply Kd.R_drew)); exact (Kd.R_mono (Kd.R_far (p := ⟨gb144, 2, none⟩) (Kd.R_far (p := ⟨gb144, 1, none⟩) (Kd.R_types HO_145000.out BK144.out (by decide)) (fun _ hk => hk.2) (.int .i64 t155)) (fun _ hk => hk.2) (.int .i64 (wrap64 (rd l0 (ji36))))) (fun _ h_ => h_.1))) hb); replace BK143 := Aside0.mk (blk_below (g := gb143) (o := .cells #[.slice none 0 0, .int .i64 0, .int .i64 0] 70 (0, 0)) (putB BK143.out NB143_144.out) hb); replace BK144 := Aside0.mk (blk_below (g := gb144) (o := .cells #[.slice Ao44 x145000_1.length co44, .int .i64 t155, .int .i64 (wrap64 (rd l0 (ji36)))] 70 (0, 0)) (putA BK144.out) hb); replace HB := bs3 HB GE143 GE144 hb; (try clear hb); obtain ⟨hcz46_0, hcz46_1, hcz46_2, hfz46_0, hfz46_1, hfz46_2⟩ := blk3 BK144; obtain ⟨hcz47_0, hcz47_1, hcz47_2, hfz47_0, hfz47_1, hfz47_2⟩ := blk3 BK143)); repeat (go_step3; try (go_wp2_with (first | ((with_reducible refine gate_callee (f := 62) rfl ?_); refine goesL_ (some 65) rfl rfl Try.func62 (by kernel_rfl) rfl #[.slice A41 (l0.drop (x5_1 : Int).toNat).length (c0 - x5_1.toNat)] rfl (by (try simp only [List.map_toArray, List.map_cons, List.map_nil]); first | done | (rw [show (l0.drop (x5_1 : Int).toNat).length = (l0.length - x5_1.toNat) from List.length_drop] <;> rfl) | rfl | (simp only [List.length_drop, List.length_take]; rfl)) ?_; (with_reducible refine (code_ReadNumber.calls _ _ (l0.drop (x5_1 : Int).toNat) t155 t156 t157 _ ?side1 ?side2 A35.out).mono ?_); (case side1 => exact cb1 HR154 HB); (case side2 => exact HC154.out); rintro e w' ⟨rfl, ⟨nd, rfl⟩⟩; refine ⟨_, rfl, ?_⟩; (try (rw [drewN_self wc]; generalize hq_ : World.drewN wc _ = wc; have n0_ : Aside0 (Kd.R Kd.string 9 wc w.heap.size (fun _ => True) u145000 x145000_1) := ⟨by rw [← hq_]; exact (rowA HO_145000.out)⟩; have n1_ : Aside0 (wc.heap[gb143]? = some (.cells #[.slice none 0 0, .int .i64 0, .int .i64 0] 70 (0, 0))) := ⟨by rw [← hq_]; exact (blkA BK143.out)⟩; have n2_ : Aside0 (wc.heap[gb144]? = some (.cells #[u145000, .int .i64 0, .int .i64 0] 70 (0, 0))) := ⟨by rw [← hq_]; exact (blkA BK144.out)⟩; have n3_ : Aside0 (Below w.heap.size w wc) := ⟨by rw [← hq_]; exact (belC HB.out GE143.out GE144.out)⟩; clear HO_145000 BK143 BK144 HB hq_; have HO_145000 := n0_; have BK143 := n1_; have BK144 := n2_; have HB := n3_; clear n0_ n1_ n2_ n3_)); have hnb42 := NB144_143.out; have hnc42 := NB143_144.out; obtain ⟨hcz43_0, hcz43_1, hcz43_2, hfz43_0, hfz43_1, hfz43_2⟩ := blk3 BK144; have p158 : 0 ≤ ((ji36) : Int) := of_decide_eq_true asmA; have q158 : (ji36) < (l0.length : Int) := of_decide_eq_true asmA; obtain ⟨ad158, e158, hx158_0⟩ := Kd.at_int HR0.out (ji36) p158 q158; cases e158; have hn158_0 : ad158.block ≠ gb144 := Nat.ne_of_lt (Nat.lt_of_lt_of_le (by have := World.block_lt_of_cell? _ _ hx158_0; first | rwa [add_block] at this | exact this) GW144.out); replace hx158_0 := cbx HB hx158_0; replace hx158_0 := (cell_far (p := ⟨gb144, 1, none⟩) (by first | (rw [add_block]; exact hn158_0) | (show (Addr.add _ _).block ≠ _; rw [add_block]; exact hn158_0) | exact hn158_0) (.int .i64 t155)).trans hx158_0; clear hn158_0; replace p158 := eq_true p158; replace q158 := eq_true q158; obtain ⟨Ao44, co44, eo44⟩ := Kd.R_slice HO_145000.out; subst eo44) | ((with_reducible refine gate_callee (f := 23) rfl ?_); refine goesL_ (some 78) rfl rfl Try.func23 (by kernel_rfl) rfl #[.agg #[.slice Ao44 x145000_1.length co44, .int .i64 t155, .int .i64 (wrap64 (rd l0 (ji36)))]] rfl (by (try simp only [List.map_toArray, List.map_cons, List.map_nil]); first | done | (simp only [hji36]; rfl) | rfl | (simp only [List.length_drop, List.length_take]; rfl)) ?_; (with_reducible refine (key_Right.calls _ _ x145000_1 t155 (wrap64 (rd l0 (ji36))) true _ ?side1 ?side2 A39.out).mono ?_); (case side1 => refine (Kd.R_reads' (e := 9) (base := w.heap.size) (ok := fun k_ => True) (n := x145000_1.length) (c := co44) ?_).2.2; exact (by (with_reducible repeat (first | apply Kd.R_alloc | apply Kd.R_drewN | apply Kd.R_drew)); exact (Kd.R_mono (Kd.R_far (p := ⟨gb144, 2, none⟩) (Kd.R_far (p := ⟨gb144, 1, none⟩) (Kd.R_types HO_145000.out BK144.out (by decide)) (fun _ hk => hk.2) (.int .i64 t155)) (fun _ hk => hk.2) (.int .i64 (wrap64 (rd l0 (ji36))))) (fun _ h_ => h_.1)))); (case side2 => exact (Kd.R_reads' HO_145000.out).2.1); rintro e w45 ⟨rfl, hb⟩; refine ⟨_, rfl, ?_⟩; replace HO_145000 := Aside0.mk (Kd.R_below (by (with_reducible repeat (first | apply Kd.R_alloc | apply Kd.R_drewN | apply Kd.R_drew)); exact (Kd.R_mono (Kd.R_far (p := ⟨gb144, 2, none⟩) (Kd.R_far (p := ⟨gb144, 1, none⟩) (Kd.R_types HO_145000.out BK144.out (by decide)) (fun _ hk => hk.2) (.int .i64 t155)) (fun _ hk => hk.2) (.int .i64 (wrap64 (rd l0 (ji36))))) (fun _ h_ => h_.1))) hb); replace BK143 := Aside0.mk (blk_below (g := gb143) (o := .cells #[.slice none 0 0, .int .i64 0, .int .i64 0] 70 (0, 0)) (putB BK143.out NB143_144.out) hb); replace BK144 := Aside0.mk (blk_below (g := gb144) (o := .cells #[.slice Ao44 x145000_1.length co44, .int .i64 t155, .int .i64 (wrap64 (rd l0 (ji36)))] 70 (0, 0)) (putA BK144.out) hb); replace HB := bs3 HB GE143 GE144 hb; (try clear hb); obtain ⟨hcz46_0, hcz46_1, hcz46_2, hfz46_0, hfz46_1, hfz46_2⟩ := blk3 BK144; obtain ⟨hcz47_0, hcz47_1, hcz47_2, hfz47_0, hfz47_1, hfz47_2⟩ := blk3 BK143)))))
      (try rw [Exit.noGoto_ret]); refine bodyPost_ret (results_ct rfl _ _ gb143 70 #[.slice Ao44 x145000_1.length co44, .int .i64 t155, .int .i64 (wrap64 (rd l0 (ji36)))] (0, 0) _ rfl (putA BK143.out) Try.underlying70 rfl (by kernel_rfl)) rfl ?_
      exact ⟨_, by first | rfl | (simp [errW_none, errW_some] <;> rfl) | (simp only [← hji36]; first | rfl | (simp [errW_none, errW_some] <;> rfl)) | (simp [*, errW_none, errW_some] <;> rfl) | (exfalso; simp_all; done), by (with_reducible repeat (first | apply Kd.R_alloc | apply Kd.R_drewN | apply Kd.R_drew)); exact Kd.R_mono (Kd.R_far (p := ⟨gb143, 2, none⟩) (Kd.R_far (p := ⟨gb143, 1, none⟩) (Kd.R_far (p := ⟨gb143, 0, none⟩) (Kd.R_types HO_145000.out BK143.out (by decide)) (fun _ hk => hk.2) (.slice Ao44 x145000_1.length co44)) (fun _ hk => hk.2) (.int .i64 t155)) (fun _ hk => hk.2) (.int .i64 (wrap64 (rd l0 (ji36))))) (fun _ hk => trivial), belC HB.out GE143.out GE144.out⟩
     replace c40 := Bool.eq_false_iff.mpr c40
     subst c40
     have H1 : (some (([] : List ByteArray), 0, 0, 40)) = some (r1, r2, r3, r4) := by rw [if_neg (show ¬ (false = true) by decide)] at H; exact H
     clear H
     have H := H1
     clear H1
     simp only [Option.some.injEq, Prod.mk.injEq] at H
     obtain ⟨rfl, rfl, rfl, rfl⟩ := H
     obtain ⟨i048, hi048, _, hsz48, _⟩ := info_parts info5
     obtain ⟨A48, hcut48, hA48, hC48⟩ := print_drop_of (P := Try.prog) (Value.int .u8) 0 58 5 .i64 Try.underlying58 hi048 hsz48 A0 c0 l0 x5_1 (of_decide_eq_true asmA) (of_decide_eq_true asmA) HC0.out
     have HR154 := Aside0.mk (Kd.C_of_reads (h1 := fun _ => rfl) (hA48 _ (Kd.reads_of_C HR0.out)))
     have HC154 := Aside0.mk hC48
     clear hA48 hC48 hi048 hsz48
     (go_wp2_with (first | ((with_reducible refine gate_callee (f := 62) rfl ?_); refine goesL_ (some 65) rfl rfl Try.func62 (by kernel_rfl) rfl #[.slice A48 (l0.drop (x5_1 : Int).toNat).length (c0 - x5_1.toNat)] rfl (by (try simp only [List.map_toArray, List.map_cons, List.map_nil]); first | done | (rw [show (l0.drop (x5_1 : Int).toNat).length = (l0.length - x5_1.toNat) from List.length_drop] <;> rfl) | rfl | (simp only [List.length_drop, List.length_take]; rfl)) ?_; (with_reducible refine (code_ReadNumber.calls _ _ (l0.drop (x5_1 : Int).toNat) t155 t156 t157 _ ?side1 ?side2 A35.out).mono ?_); (case side1 => exact cb1 HR154 HB); (case side2 => exact HC154.out); rintro e w' ⟨rfl, ⟨nd, rfl⟩⟩; refine ⟨_, rfl, ?_⟩; (try (rw [drewN_self wc]; generalize hq_ : World.drewN wc _ = wc; have n0_ : Aside0 (Kd.R Kd.string 9 wc w.heap.size (fun _ => True) u145000 x145000_1) := ⟨by rw [← hq_]; exact (rowA HO_145000.out)⟩; have n1_ : Aside0 (wc.heap[gb143]? = some (.cells #[.slice none 0 0, .int .i64 0, .int .i64 0] 70 (0, 0))) := ⟨by rw [← hq_]; exact (blkA BK143.out)⟩; have n2_ : Aside0 (wc.heap[gb144]? = some (.cells #[u145000, .int .i64 0, .int .i64 0] 70 (0, 0))) := ⟨by rw [← hq_]; exact (blkA BK144.out)⟩; have n3_ : Aside0 (Below w.heap.size w wc) := ⟨by rw [← hq_]; exact (belC HB.out GE143.out GE144.out)⟩; clear HO_145000 BK143 BK144 HB hq_; have HO_145000 := n0_; have BK143 := n1_; have BK144 := n2_; have HB := n3_; clear n0_ n1_ n2_ n3_)); have hnb49 := NB144_143.out; have hnc49 := NB143_144.out; obtain ⟨hcz50_0, hcz50_1, hcz50_2, hfz50_0, hfz50_1, hfz50_2⟩ := blk3 BK144; have p158 : 0 ≤ ((ji36) : Int) := of_decide_eq_true asmA; have q158 : (ji36) < (l0.length : Int) := of_decide_eq_true asmA; obtain ⟨ad158, e158, hx158_0⟩ := Kd.at_int HR0.out (ji36) p158 q158; cases e158; have hn158_0 : ad158.block ≠ gb144 := Nat.ne_of_lt (Nat.lt_of_lt_of_le (by have := World.block_lt_of_cell? _ _ hx158_0; first | rwa [add_block] at this | exact this) GW144.out); replace hx158_0 := cbx HB hx158_0; replace hx158_0 := (cell_far (p := ⟨gb144, 1, none⟩) (by first | (rw [add_block]; exact hn158_0) | (show (Addr.add _ _).block ≠ _; rw [add_block]; exact hn158_0) | exact hn158_0) (.int .i64 t155)).trans hx158_0; clear hn158_0; replace p158 := eq_true p158; replace q158 := eq_true q158; obtain ⟨Ao51, co51, eo51⟩ := Kd.R_slice HO_145000.out; subst eo51) | ((with_reducible refine gate_callee (f := 23) rfl ?_); refine goesL_ (some 78) rfl rfl Try.func23 (by kernel_rfl) rfl #[.agg #[.slice Ao51 x145000_1.length co51, .int .i64 t155, .int .i64 (wrap64 (rd l0 (ji36)))]] rfl (by (try simp only [List.map_toArray, List.map_cons, List.map_nil]); first | done | (simp only [hji36]; rfl) | rfl | (simp only [List.length_drop, List.length_take]; rfl)) ?_; (with_reducible refine (key_Right.calls _ _ x145000_1 t155 (wrap64 (rd l0 (ji36))) false _ ?side1 ?side2 A39.out).mono ?_); (case side1 => refine (Kd.R_reads' (e := 9) (base := w.heap.size) (ok := fun k_ => True) (n := x145000_1.length) (c := co51) ?_).2.2; exact (by (with_reducible repeat (first | apply Kd.R_alloc | apply Kd.R_drewN | apply Kd.R_drew)); exact (Kd.R_mono (Kd.R_far (p := ⟨gb144, 2, none⟩) (Kd.R_far (p := ⟨gb144, 1, none⟩) (Kd.R_types HO_145000.out BK144.out (by decide)) (fun _ hk => hk.2) (.int .i64 t155)) (fun _ hk => hk.2) (.int .i64 (wrap64 (rd l0 (ji36))))) (fun _ h_ => h_.1)))); (case side2 => exact (Kd.R_reads' HO_145000.out).2.1); rintro e w52 ⟨rfl, hb⟩; refine ⟨_, rfl, ?_⟩; replace HO_145000 := Aside0.mk (Kd.R_below (by (with_reducible repeat (first | apply Kd.R_alloc | apply Kd.R_drewN | apply Kd.R_drew)); exact (Kd.R_mono (Kd.R_far (p := ⟨gb144, 2, none⟩) (Kd.R_far (p := ⟨gb144, 1, none⟩) (Kd.R_types HO_145000.out BK144.out (by decide)) (fun _ hk => hk.2) (.int .i64 t155)) (fun _ hk => hk.2) (.int .i64 (wrap64 (rd l0 (ji36))))) (fun _ h_ => h_.1))) hb); replace BK143 := Aside0.mk (blk_below (g := gb143) (o := .cells #[.slice none 0 0, .int .i64 0, .int .i64 0] 70 (0, 0)) (putB BK143.out NB143_144.out) hb); replace BK144 := Aside0.mk (blk_below (g := gb144) (o := .cells #[.slice Ao51 x145000_1.length co51, .int .i64 t155, .int .i64 (wrap64 (rd l0 (ji36)))] 70 (0, 0)) (putA BK144.out) hb); replace HB := bs3 HB GE143 GE144 hb; (try clear hb); obtain ⟨hcz53_0, hcz53_1, hcz53_2, hfz53_0, hfz53_1, hfz53_2⟩ := blk3 BK143)); repeat (go_step3; try (go_wp2_with (first | ((with_reducible refine gate_callee (f := 62) rfl ?_); refine goesL_ (some 65) rfl rfl Try.func62 (by kernel_rfl) rfl #[.slice A48 (l0.drop (x5_1 : Int).toNat).length (c0 - x5_1.toNat)] rfl (by (try simp only [List.map_toArray, List.map_cons, List.map_nil]); first | done | (rw [show (l0.drop (x5_1 : Int).toNat).length = (l0.length - x5_1.toNat) from List.length_drop] <;> rfl) | rfl | (simp only [List.length_drop, List.length_take]; rfl)) ?_; (with_reducible refine (code_ReadNumber.calls _ _ (l0.drop (x5_1 : Int).toNat) t155 t156 t157 _ ?side1 ?side2 A35.out).mono ?_); (case side1 => exact cb1 HR154 HB); (case side2 => exact HC154.out); rintro e w' ⟨rfl, ⟨nd, rfl⟩⟩; refine ⟨_, rfl, ?_⟩; (try (rw [drewN_self wc]; generalize hq_ : World.drewN wc _ = wc; have n0_ : Aside0 (Kd.R Kd.string 9 wc w.heap.size (fun _ => True) u145000 x145000_1) := ⟨by rw [← hq_]; exact (rowA HO_145000.out)⟩; have n1_ : Aside0 (wc.heap[gb143]? = some (.cells #[.slice none 0 0, .int .i64 0, .int .i64 0] 70 (0, 0))) := ⟨by rw [← hq_]; exact (blkA BK143.out)⟩; have n2_ : Aside0 (wc.heap[gb144]? = some (.cells #[u145000, .int .i64 0, .int .i64 0] 70 (0, 0))) := ⟨by rw [← hq_]; exact (blkA BK144.out)⟩; have n3_ : Aside0 (Below w.heap.size w wc) := ⟨by rw [← hq_]; exact (belC HB.out GE143.out GE144.out)⟩; clear HO_145000 BK143 BK144 HB hq_; have HO_145000 := n0_; have BK143 := n1_; have BK144 := n2_; have HB := n3_; clear n0_ n1_ n2_ n3_)); have hnb49 := NB144_143.out; have hnc49 := NB143_144.out; obtain ⟨hcz50_0, hcz50_1, hcz50_2, hfz50_0, hfz50_1, hfz50_2⟩ := blk3 BK144; have p158 : 0 ≤ ((ji36) : Int) := of_decide_eq_true asmA; have q158 : (ji36) < (l0.length : Int) := of_decide_eq_true asmA; obtain ⟨ad158, e158, hx158_0⟩ := Kd.at_int HR0.out (ji36) p158 q158; cases e158; have hn158_0 : ad158.block ≠ gb144 := Nat.ne_of_lt (Nat.lt_of_lt_of_le (by have := World.block_lt_of_cell? _ _ hx158_0; first | rwa [add_block] at this | exact this) GW144.out); replace hx158_0 := cbx HB hx158_0; replace hx158_0 := (cell_far (p := ⟨gb144, 1, none⟩) (by first | (rw [add_block]; exact hn158_0) | (show (Addr.add _ _).block ≠ _; rw [add_block]; exact hn158_0) | exact hn158_0) (.int .i64 t155)).trans hx158_0; clear hn158_0; replace p158 := eq_true p158; replace q158 := eq_true q158; obtain ⟨Ao51, co51, eo51⟩ := Kd.R_slice HO_145000.out; subst eo51) | ((with_reducible refine gate_callee (f := 23) rfl ?_); refine goesL_ (some 78) rfl rfl Try.func23 (by kernel_rfl) rfl #[.agg #[.slice Ao51 x145000_1.length co51, .int .i64 t155, .int .i64 (wrap64 (rd l0 (ji36)))]] rfl (by (try simp only [List.map_toArray, List.map_cons, List.map_nil]); first | done | (simp only [hji36]; rfl) | rfl | (simp only [List.length_drop, List.length_take]; rfl)) ?_; (with_reducible refine (key_Right.calls _ _ x145000_1 t155 (wrap64 (rd l0 (ji36))) false _ ?side1 ?side2 A39.out).mono ?_); (case side1 => refine (Kd.R_reads' (e := 9) (base := w.heap.size) (ok := fun k_ => True) (n := x145000_1.length) (c := co51) ?_).2.2; exact (by (with_reducible repeat (first | apply Kd.R_alloc | apply Kd.R_drewN | apply Kd.R_drew)); exact (Kd.R_mono (Kd.R_far (p := ⟨gb144, 2, none⟩) (Kd.R_far (p := ⟨gb144, 1, none⟩) (Kd.R_types HO_145000.out BK144.out (by decide)) (fun _ hk => hk.2) (.int .i64 t155)) (fun _ hk => hk.2) (.int .i64 (wrap64 (rd l0 (ji36))))) (fun _ h_ => h_.1)))); (case side2 => exact (Kd.R_reads' HO_145000.out).2.1); rintro e w52 ⟨rfl, hb⟩; refine ⟨_, rfl, ?_⟩; replace HO_145000 := Aside0.mk (Kd.R_below (by (with_reducible repeat (first | apply Kd.R_alloc | apply Kd.R_drewN | apply Kd.R_drew)); exact (Kd.R_mono (Kd.R_far (p := ⟨gb144, 2, none⟩) (Kd.R_far (p := ⟨gb144, 1, none⟩) (Kd.R_types HO_145000.out BK144.out (by decide)) (fun _ hk => hk.2) (.int .i64 t155)) (fun _ hk => hk.2) (.int .i64 (wrap64 (rd l0 (ji36))))) (fun _ h_ => h_.1))) hb); replace BK143 := Aside0.mk (blk_below (g := gb143) (o := .cells #[.slice none 0 0, .int .i64 0, .int .i64 0] 70 (0, 0)) (putB BK143.out NB143_144.out) hb); replace BK144 := Aside0.mk (blk_below (g := gb144) (o := .cells #[.slice Ao51 x145000_1.length co51, .int .i64 t155, .int .i64 (wrap64 (rd l0 (ji36)))] 70 (0, 0)) (putA BK144.out) hb); replace HB := bs3 HB GE143 GE144 hb; (try clear hb); obtain ⟨hcz53_0, hcz53_1, hcz53_2, hfz53_0, hfz53_1, hfz53_2⟩ := blk3 BK143)))))
     (try rw [Exit.noGoto_ret]); refine bodyPost_ret (results_ct rfl _ _ gb143 70 #[.slice none 0 0, .int .i64 0, .int .i64 0] (0, 0) _ rfl (putA BK143.out) Try.underlying70 rfl (by kernel_rfl)) rfl ?_
     exact ⟨_, by first | rfl | (simp [errW_none, errW_some] <;> rfl) | (simp only [← hji36]; first | rfl | (simp [errW_none, errW_some] <;> rfl)) | (simp [*, errW_none, errW_some] <;> rfl) | (exfalso; simp_all; done), by first | exact Kd.R_nil _ _ _ _ _ | exact Kd.N_nil _ _ _ _ _ | exact Kd.V_nil _ _ _ _ _ | exact Kd.Q_nil _ _ _ _ _ | exact Kd.S_nil _ _ _ _ _, belC HB.out GE143.out GE144.out⟩
end Go.Proofs.Ytdopbhbbpgfliaa.PAsk
end
