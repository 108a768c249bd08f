import Derived.Test.YtdopbhbbpgfliaaZAskAll09
section
namespace Go.Proofs.Ytdopbhbbpgfliaa.PAsk
open Go.RowKit Go.Proofs.YtdopbhbbpgfliaaW.PrintWords Go.Proofs.YtdopbhbbpgfliaaW.PrintLast Go.Proofs.YtdopbhbbpgfliaaW.PrintMore
set_option linter.unusedVariables false
set_option linter.unusedSimpArgs false
set_option maxHeartbeats 8000000
set_option maxRecDepth 100000
abbrev Gr := S84
def unfit (k : Nat) (g : List Gr) (keep : Int) (x : S60) : Option Bool := (fold_fits.f k g keep x.f0 x.f1.f0 x.f1.f1 x.f1.f2.f0 x.f1.f2.f1 x.f1.f3 x.f1.f4).bind fun t => some (!t)
def fold_Fits.f (k : Nat) (g : List Gr) (keep : Int) (l : List S60) : Option Bool :=
  if l.length = 0 then some true else (grain_Right.f k g keep).bind fun t => if t = true then (if l.length ≤ 140737488355328 then (anyQ (unfit k g keep) l).bind fun b => some (!b) else none) else some false
theorem fits_pred (k : Nat) (b : Nat) (A0 : Option Addr) (c0 : Nat) (g : List Gr) (keep : Int) (w : World) (hg : Kd.C k84 w A0 g.length g) (hc : g.length ≤ c0) (hb : w.heap[b]? = some (.cells #[.slice A0 g.length c0, .int .i64 keep] 24 (0, 0))) :
    PredEnt 98 #[.pointer (some ⟨b, 0, none⟩)] (unfit k g keep) w := by
  intro W A c x t hB hx hxc hq
  have HG := Lib.hid (Kd.C_below hg hB)
  have hlt := Nat.lt_of_lt_of_le (blk_lt hb) hB.size
  have hbb := blk_below hb hB
  have hc0 := (blk_cell hbb 0).trans (show _ = some (Value.slice A0 g.length c0) from rfl)
  have hc1 := (blk_cell hbb 1).trans (show _ = some (Value.int .i64 keep) from rfl)
  have HX := Lib.hid hx
  unfold unfit at hq
  obtain ⟨u, hu, he⟩ := Option.bind_eq_some_iff.mp hq
  have HU := Lib.hid hu
  obtain rfl := Option.some.inj he
  clear hg hB hb hbb hx hq hu he
  show Calls Try.prog 98 #[.agg #[.slice A x.f0.length c, .int .u64 x.f1.f0, .bool x.f1.f1, .int .i64 x.f1.f2.f0, .int .u64 x.f1.f2.f1, .int .i64 x.f1.f3, .int .i64 x.f1.f4], .pointer (some ⟨b, 0, none⟩)] W _
  cases u
  all_goals
    go_enter Try.func98, Try.ntmps98
    go_wp2_with (go_at_call 99; refine (fold_fits.calls k A0 c0 g keep A c x.f0 _ _ _ _ _ _ _ _ (Kd.C_below HG.out ((Below.refl _ _).alloc (Nat.le_refl _) _)) hc (Kd.C_below HX.out ((Below.refl _ _).alloc (Nat.le_refl _) _)) hxc HU.out).mono ?_; rintro e w' ⟨rfl, hw⟩; have HW := Lib.hid hw; clear hw)
    go_ret
    exact ⟨rfl, below_step ((Below.refl _ _).alloc (Nat.le_refl _) _) HW.out⟩
theorem enter_fits (args : Array Value) (w : World) : (callFunc 98 args).run Try.prog w = .ok (.enter 98 args) w := enters_ Try.func98 (by kernel_rfl) (by kernel_rfl) args w
theorem fold_Fits.calls (k : Nat) (A0_0 : Option Addr) (c0_0 : Nat) (l0_0 : List Gr) (a0_1 : Int) (A1 : Option Addr) (c1 : Nat) (l1 : List S60) (r : Bool) (w : World) (hr0_0 : Kd.C k84 w A0_0 l0_0.length l0_0) (hc0_0 : l0_0.length ≤ c0_0) (hr1 : Kd.C k60 w A1 l1.length l1) (_ : l1.length ≤ c1) (h : fold_Fits.f k l0_0 a0_1 l1 = some r) :
    Calls Try.prog 81 #[.agg #[.slice A0_0 l0_0.length c0_0, .int .i64 a0_1], .slice A1 l1.length c1] w fun e w' => e = .returned (.bool r) ∧ Below w.heap.size w w' := by
  have HG := Lib.hid hr0_0; have HE := Lib.hid hr1; clear hr0_0 hr1
  have HBX := Lib.hid (blk_new w (.cells #[.slice A0_0 l0_0.length c0_0, .int .i64 a0_1] 24))
  have HB0 : Hid (Below w.heap.size w (w.alloc (.cells #[.slice A0_0 l0_0.length c0_0, .int .i64 a0_1] 24))) := Lib.hid ((Below.refl _ _).alloc (Nat.le_refl _) _)
  unfold fold_Fits.f at h
  by_cases hl : l1.length = 0
  · rw [if_pos hl] at h
    obtain rfl := Option.some.inj h
    have e1 : ((l1.length : Int) == 0) = true := beq_iff_eq.2 (by omega)
    have e2 : (l1.length == 0) = true := beq_iff_eq.2 hl
    clear h hl
    go_enter Try.func81, Try.ntmps81
    go_wp2
    go_ret
    exact ⟨by first | rfl | (simp [e1, e2]; done), HB0.out⟩
  · rw [if_neg hl] at h
    have e1 : ((l1.length : Int) == 0) = false := beq_eq_false_iff_ne.2 (by omega)
    have e2 : (l1.length == 0) = false := beq_eq_false_iff_ne.2 hl
    obtain ⟨t, ht, h2⟩ := Option.bind_eq_some_iff.mp h
    have HT := Lib.hid ht
    cases t with
    | false =>
      rw [if_neg (by decide)] at h2
      obtain rfl := Option.some.inj h2
      clear h hl ht h2
      go_enter Try.func81, Try.ntmps81
      go_wp2_with (go_at_call 47; refine (grain_Right.calls k A0_0 c0_0 l0_0 a0_1 _ _ (Kd.C_below HG.out HB0.out) hc0_0 HT.out).mono ?_; rintro e w1 ⟨rfl, hb⟩; have HB1 := Lib.hid (below_step HB0.out hb); clear hb)
      go_ret
      exact ⟨rfl, HB1.out⟩
    | true =>
      rw [if_pos rfl] at h2
      by_cases hbig : l1.length ≤ 140737488355328
      case neg => rw [if_neg hbig] at h2; cases h2
      rw [if_pos hbig] at h2
      obtain ⟨b, hb, h3⟩ := Option.bind_eq_some_iff.mp h2
      obtain rfl := Option.some.inj h3
      have HQ := Lib.hid hb
      clear h hl ht h2 h3 hb
      cases b
      all_goals
        go_enter Try.func81, Try.ntmps81
        go_wp2_with (first
          | (go_at_call 47; refine (grain_Right.calls k A0_0 c0_0 l0_0 a0_1 _ _ (Kd.C_below HG.out HB0.out) hc0_0 HT.out).mono ?_; rintro e w1 ⟨rfl, hb⟩; have HB1 := Lib.hid (below_step HB0.out hb); have HBX1 := Lib.hid (blk_below HBX.out hb); clear hb)
          | (go_at_call 97; refine (contains_ents (unfit k l0_0 a0_1) 98 #[.pointer (some ⟨w.heap.size, 0, none⟩)] enter_fits A1 c1 l1 _ _ (Kd.C_below HE.out HB1.out) hbig (fits_pred k w.heap.size A0_0 c0_0 l0_0 a0_1 _ (Kd.C_below HG.out HB1.out) hc0_0 HBX1.out) HQ.out).mono ?_; rintro e w2 ⟨rfl, hb⟩; have HB2 := Lib.hid (below_step HB1.out hb); clear hb))
        go_ret
        exact ⟨rfl, HB2.out⟩
end Go.Proofs.Ytdopbhbbpgfliaa.PAsk
end
section
namespace Go.Proofs.Ytdopbhbbpgfliaa.PAsk
open Go.RowKit Go.Proofs.YtdopbhbbpgfliaaW.PrintWords Go.Proofs.YtdopbhbbpgfliaaW.PrintLast Go.Proofs.YtdopbhbbpgfliaaW.PrintMore
attribute [local go_sem] max2_int min2_int max_two min_two max_three min_three max_four min_four   -- for this text's walks alone
set_option linter.unusedVariables false
set_option linter.unusedSimpArgs false
set_option maxHeartbeats 8000000
set_option maxRecDepth 100000
def fold_check.l0 : Nat → List (S60) → Int → Int → List (S84) → Int → Option (Int)
 | 0, _, _, _, _, _ => none
 | k + 1, x2, x20, x21, x119000, x119001 => if x21 < x20 then (if x21 > 0 then (if 0 ≤ (wrap64 (x21 - 1)) then (if (wrap64 (x21 - 1)) < (x2.length : Int) then (if 0 ≤ x21 then (if x21 < (x2.length : Int) then ((bytes_Compare.f ((rd_T60 x2 (wrap64 (x21 - 1))).f0) ((rd_T60 x2 x21).f0)).bind fun t122 => (if t122 ≥ 0 then (some 50) else (fold_check.l0 k x2 x20 (wrap64 (x21 + 1)) x119000 x119001))) else (none)) else (none)) else (none)) else (none)) else (fold_check.l0 k x2 x20 (wrap64 (x21 + 1)) x119000 x119001)) else ((fold_Fits.f k x119000 x119001 x2).bind fun t123 => (if t123 = true then (some 0) else (some 3)))
def fold_check.f (k : Nat) (l0_0 : List (S84)) (a0_1 : Int) (a1 : Int) (l2 : List (S60)) : Option (Int) := (grain_Right.f k l0_0 a0_1).bind fun t119 => (if t119 = true then (if a1 < 0 then (some 1) else (if a1 > 1099511627776 then (some 1) else (fold_check.l0 k l2 (l2.length : Int) 0 l0_0 a0_1))) else (some 30))
theorem fold_check.calls (k : Nat) (A0_0 : Option Addr) (c0_0 : Nat) (l0_0 : List (S84)) (a0_1 : Int) (a1 : Int) (A2 : Option Addr) (c2 : Nat) (l2 : List (S60)) (r : Int) (w : World) (hr0_0 : Kd.C k84 w A0_0 l0_0.length l0_0) (hc0_0 : l0_0.length ≤ c0_0) (hr2 : Kd.C k60 w A2 l2.length l2) (hc2 : l2.length ≤ c2) (h : fold_check.f k l0_0 a0_1 a1 l2 = some r) :
  Calls Try.prog 55 #[.agg #[.slice A0_0 l0_0.length c0_0, .int .i64 a0_1], .int .i64 a1, .slice A2 l2.length c2] w fun e w' => e = .returned (.int .i64 r) ∧ Below w.heap.size w w' := by
 have hu24 := Try.underlying24
 have HR0_0 := Aside0.mk hr0_0
 have HC0_0 := Aside0.mk hc0_0
 clear hr0_0 hc0_0
 have HR2 := Aside0.mk hr2
 have HC2 := Aside0.mk hc2
 clear hr2 hc2
 have HB := Aside0.mk (Below.refl w.heap.size w)
 have H : ((grain_Right.f k l0_0 a0_1).bind fun t119 => (if t119 = true then (if a1 < 0 then (some 1) else (if a1 > 1099511627776 then (some 1) else (fold_check.l0 k l2 (l2.length : Int) 0 l0_0 a0_1))) else (some 30))) = some r := h
 clear h
 replace H := bnA H
 obtain ⟨t119, A4, H⟩ := H
 by_cases c5 : t119 = true
 rotate_left
 ·replace c5 := Bool.eq_false_iff.mpr c5
  subst c5
  have H1 : (some 30) = some r := by rw [if_neg (show ¬ (false = true) by decide)] at H; exact H
  clear H
  have H := H1
  clear H1
  obtain rfl := Option.some.inj H
  go_enter Try.func55, Try.ntmps55
  go_wp2_with (first | ((with_reducible refine gate_dst (N := 3) rfl ?_); refine boxA 3 #[.slice A0_0 l0_0.length c0_0, .int .i64 a0_1] 24 ?_; intro gb118 hg w32 hbox hb; have BK118 := Aside0.mk (hbox); have GE118 := ge1 hg (belA HB.out); replace HB := bst HB hb; clear hb hbox hg; obtain ⟨hcz33_0, hcz33_1, hfz33_0, hfz33_1⟩ := blk2 BK118) | (go_at_call 47; (with_reducible refine (grain_Right.calls k _ _ l0_0 a0_1 false _ ?side1 ?side2 A4.out).mono ?_); (case side1 => exact cb1 HR0_0 HB); (case side2 => exact HC0_0.out); rintro e w34 ⟨rfl, hb⟩; replace BK118 := blkB BK118 hb; replace HB := bs2 HB GE118 hb; (try clear hb)))
  repeat (go_quiet (fail); try go_wp2_with (first | ((with_reducible refine gate_dst (N := 3) rfl ?_); refine boxA 3 #[.slice A0_0 l0_0.length c0_0, .int .i64 a0_1] 24 ?_; intro gb118 hg w32 hbox hb; have BK118 := Aside0.mk (hbox); have GE118 := ge1 hg (belA HB.out); replace HB := bst HB hb; clear hb hbox hg; obtain ⟨hcz33_0, hcz33_1, hfz33_0, hfz33_1⟩ := blk2 BK118) | (go_at_call 47; (with_reducible refine (grain_Right.calls k _ _ l0_0 a0_1 false _ ?side1 ?side2 A4.out).mono ?_); (case side1 => exact cb1 HR0_0 HB); (case side2 => exact HC0_0.out); rintro e w34 ⟨rfl, hb⟩; replace BK118 := blkB BK118 hb; replace HB := bs2 HB GE118 hb; (try clear hb))))
  go_ret
  exact ⟨ret1, belB HB.out GE118.out⟩
 subst c5
 have H1 : (if a1 < 0 then (some 1) else (if a1 > 1099511627776 then (some 1) else (fold_check.l0 k l2 (l2.length : Int) 0 l0_0 a0_1))) = some r := by rw [if_pos rfl] at H; exact H
 clear H
 have H := H1
 clear H1
 by_cases c6 : a1 < 0
 ·rw [if_pos c6] at H
  have c6b0 := decide_eq_true c6
  clear c6
  obtain rfl := Option.some.inj H
  go_enter Try.func55, Try.ntmps55
  go_wp2_with (first | ((with_reducible refine gate_dst (N := 3) rfl ?_); refine boxA 3 #[.slice A0_0 l0_0.length c0_0, .int .i64 a0_1] 24 ?_; intro gb118 hg w7 hbox hb; have BK118 := Aside0.mk (hbox); have GE118 := ge1 hg (belA HB.out); replace HB := bst HB hb; clear hb hbox hg; obtain ⟨hcz8_0, hcz8_1, hfz8_0, hfz8_1⟩ := blk2 BK118) | (go_at_call 47; (with_reducible refine (grain_Right.calls k _ _ l0_0 a0_1 true _ ?side1 ?side2 A4.out).mono ?_); (case side1 => exact cb1 HR0_0 HB); (case side2 => exact HC0_0.out); rintro e w9 ⟨rfl, hb⟩; replace BK118 := blkB BK118 hb; replace HB := bs2 HB GE118 hb; (try clear hb)))
  repeat (go_quiet (fail); try go_wp2_with (first | ((with_reducible refine gate_dst (N := 3) rfl ?_); refine boxA 3 #[.slice A0_0 l0_0.length c0_0, .int .i64 a0_1] 24 ?_; intro gb118 hg w7 hbox hb; have BK118 := Aside0.mk (hbox); have GE118 := ge1 hg (belA HB.out); replace HB := bst HB hb; clear hb hbox hg; obtain ⟨hcz8_0, hcz8_1, hfz8_0, hfz8_1⟩ := blk2 BK118) | (go_at_call 47; (with_reducible refine (grain_Right.calls k _ _ l0_0 a0_1 true _ ?side1 ?side2 A4.out).mono ?_); (case side1 => exact cb1 HR0_0 HB); (case side2 => exact HC0_0.out); rintro e w9 ⟨rfl, hb⟩; replace BK118 := blkB BK118 hb; replace HB := bs2 HB GE118 hb; (try clear hb))))
  go_ret
  exact ⟨ret1, belB HB.out GE118.out⟩
 rw [if_neg c6] at H
 have c6b0 := decide_eq_false c6
 clear c6
 by_cases c10 : a1 > 1099511627776
 ·rw [if_pos c10] at H
  have c10b0 := decide_eq_true c10
  clear c10
  obtain rfl := Option.some.inj H
  go_enter Try.func55, Try.ntmps55
  go_wp2_with (first | ((with_reducible refine gate_dst (N := 3) rfl ?_); refine boxA 3 #[.slice A0_0 l0_0.length c0_0, .int .i64 a0_1] 24 ?_; intro gb118 hg w11 hbox hb; have BK118 := Aside0.mk (hbox); have GE118 := ge1 hg (belA HB.out); replace HB := bst HB hb; clear hb hbox hg; obtain ⟨hcz12_0, hcz12_1, hfz12_0, hfz12_1⟩ := blk2 BK118) | (go_at_call 47; (with_reducible refine (grain_Right.calls k _ _ l0_0 a0_1 true _ ?side1 ?side2 A4.out).mono ?_); (case side1 => exact cb1 HR0_0 HB); (case side2 => exact HC0_0.out); rintro e w13 ⟨rfl, hb⟩; replace BK118 := blkB BK118 hb; replace HB := bs2 HB GE118 hb; (try clear hb)))
  repeat (go_quiet (fail); try go_wp2_with (first | ((with_reducible refine gate_dst (N := 3) rfl ?_); refine boxA 3 #[.slice A0_0 l0_0.length c0_0, .int .i64 a0_1] 24 ?_; intro gb118 hg w11 hbox hb; have BK118 := Aside0.mk (hbox); have GE118 := ge1 hg (belA HB.out); replace HB := bst HB hb; clear hb hbox hg; obtain ⟨hcz12_0, hcz12_1, hfz12_0, hfz12_1⟩ := blk2 BK118) | (go_at_call 47; (with_reducible refine (grain_Right.calls k _ _ l0_0 a0_1 true _ ?side1 ?side2 A4.out).mono ?_); (case side1 => exact cb1 HR0_0 HB); (case side2 => exact HC0_0.out); rintro e w13 ⟨rfl, hb⟩; replace BK118 := blkB BK118 hb; replace HB := bs2 HB GE118 hb; (try clear hb))))
  go_ret
  exact ⟨ret1, belB HB.out GE118.out⟩
 rw [if_neg c10] at H
 have c10b0 := decide_eq_false c10
 clear c10
 have H' := Aside0.mk H
 clear H
 go_enter Try.func55, Try.ntmps55
 go_wp2_with (first | ((with_reducible refine gate_dst (N := 3) rfl ?_); refine boxA 3 #[.slice A0_0 l0_0.length c0_0, .int .i64 a0_1] 24 ?_; intro gb118 hg w14 hbox hb; have BK118 := Aside0.mk (hbox); have GE118 := ge1 hg (belA HB.out); replace HB := bst HB hb; clear hb hbox hg; obtain ⟨hcz15_0, hcz15_1, hfz15_0, hfz15_1⟩ := blk2 BK118) | (go_at_call 47; (with_reducible refine (grain_Right.calls k _ _ l0_0 a0_1 true _ ?side1 ?side2 A4.out).mono ?_); (case side1 => exact cb1 HR0_0 HB); (case side2 => exact HC0_0.out); rintro e w16 ⟨rfl, hb⟩; replace BK118 := blkB BK118 hb; replace HB := bs2 HB GE118 hb; (try clear hb)))
 repeat (go_quiet (fail); try go_wp2_with (first | ((with_reducible refine gate_dst (N := 3) rfl ?_); refine boxA 3 #[.slice A0_0 l0_0.length c0_0, .int .i64 a0_1] 24 ?_; intro gb118 hg w14 hbox hb; have BK118 := Aside0.mk (hbox); have GE118 := ge1 hg (belA HB.out); replace HB := bst HB hb; clear hb hbox hg; obtain ⟨hcz15_0, hcz15_1, hfz15_0, hfz15_1⟩ := blk2 BK118) | (go_at_call 47; (with_reducible refine (grain_Right.calls k _ _ l0_0 a0_1 true _ ?side1 ?side2 A4.out).mono ?_); (case side1 => exact cb1 HR0_0 HB); (case side2 => exact HC0_0.out); rintro e w16 ⟨rfl, hb⟩; replace BK118 := blkB BK118 hb; replace HB := bs2 HB GE118 hb; (try clear hb))))
 go_loopg [21] k (fun kq v21 w' => ∃ (x21_1 : Int), v21 = .int .i64 x21_1 ∧ Aside0 (fold_check.l0 kq l2 (l2.length : Int) x21_1 l0_0 a0_1 = some r) ∧ Aside0 (kq ≤ k) ∧ Aside0 (w'.heap[gb118]? = some (.cells #[(.slice A0_0 l0_0.length c0_0), .int .i64 a0_1] 24 (0, 0))) ∧ Aside0 (Below w.heap.size w w'))
 case atStart => exact ⟨(0), relA, H', ⟨Nat.le_refl _⟩, ⟨blkA BK118.out⟩, ⟨belB HB.out GE118.out⟩⟩
 case round =>
  clear H'
  try clear c1
  try clear c2
  try clear p2
  try clear c5
  try clear c6
  try clear c6b0
  try clear c10
  try clear c10b0
  try clear hcz12_0 hcz12_1
  try clear hcz15_0 hcz15_1
  try clear hcz8_0 hcz8_1
  try clear hfz12_0 hfz12_1
  try clear hfz15_0 hfz15_1
  try clear hfz8_0 hfz8_1
  obtain ⟨x21_1, rfl, HA, HK1, BK118, HB⟩ := hrel
  cases gk with
  | zero => exact absurd HA.out (by simp [fold_check.l0])
  | succ k1 =>
   have H := HA.out
   clear HA
   simp only [fold_check.l0] at H
   by_cases c17 : x21_1 < (l2.length : Int)
   ·rw [if_pos c17] at H
    have c17b0 := decide_eq_true c17
    clear c17
    by_cases c18 : x21_1 > 0
    ·rw [if_pos c18] at H
     have c18b0 := decide_eq_true c18
     clear c18
     obtain ⟨ji19, hji19⟩ : ∃ j_ : Int, (wrap64 (x21_1 - 1)) = j_ := ⟨_, rfl⟩
     replace H : (if 0 ≤ (ji19) then (if (ji19) < (l2.length : Int) then (if 0 ≤ x21_1 then (if x21_1 < (l2.length : Int) then ((bytes_Compare.f ((rd_T60 l2 (ji19)).f0) ((rd_T60 l2 x21_1).f0)).bind fun t122 => (if t122 ≥ 0 then (some 50) else (fold_check.l0 k1 l2 (l2.length : Int) (wrap64 (x21_1 + 1)) l0_0 a0_1))) else (none)) else (none)) else (none)) else (none)) = some r := by first | (rw [hji19] at H; exact H) | (simp only [hji19] at H ⊢; exact H)
     have hji19w : (IntKind.i64.wrap (x21_1 - 1)) = ji19 := (i64_w _).trans hji19
     by_cases c20 : 0 ≤ (ji19)
     ·rw [if_pos c20] at H
      have c20b0 := decide_eq_true c20
      clear c20
      by_cases c21 : (ji19) < (l2.length : Int)
      ·rw [if_pos c21] at H
       have c21b0 := decide_eq_true c21
       clear c21
       by_cases c22 : 0 ≤ x21_1
       ·rw [if_pos c22] at H
        have c22b0 := decide_eq_true c22
        clear c22
        by_cases c23 : x21_1 < (l2.length : Int)
        ·rw [if_pos c23] at H
         have c23b0 := decide_eq_true c23
         clear c23
         replace H := bnA H
         obtain ⟨t122, A24, H⟩ := H
         by_cases c25 : t122 ≥ 0
         ·rw [if_pos c25] at H
          have c25b0 := decide_eq_true c25
          clear c25
          obtain rfl := Option.some.inj H
          have p120 : 0 ≤ ((ji19) : Int) := of_decide_eq_true asmA
          have q120 : (ji19) < (l2.length : Int) := of_decide_eq_true asmA
          obtain ⟨ad120, A120_0, c120_0, e120, hx120_0, hx120_1, hx120_2, hx120_3, hx120_4, hx120_5, hx120_6, hl120_0, hi120_0⟩ := at_T60 HR2.out (ji19) p120 q120
          cases e120
          replace hx120_0 := cbx HB hx120_0
          replace hx120_1 := cbx HB hx120_1
          replace hx120_2 := cbx HB hx120_2
          replace hx120_3 := cbx HB hx120_3
          replace hx120_4 := cbx HB hx120_4
          replace hx120_5 := cbx HB hx120_5
          replace hx120_6 := cbx HB hx120_6
          have HR120_0 := Aside0.mk hi120_0
          have HC120_0 := Aside0.mk hl120_0
          clear hi120_0 hl120_0
          replace p120 := eq_true p120
          replace q120 := eq_true q120
          have p121 : 0 ≤ (x21_1 : Int) := of_decide_eq_true asmA
          have q121 : x21_1 < (l2.length : Int) := of_decide_eq_true asmA
          obtain ⟨ad121, A121_0, c121_0, e121, hx121_0, hx121_1, hx121_2, hx121_3, hx121_4, hx121_5, hx121_6, hl121_0, hi121_0⟩ := at_T60 HR2.out x21_1 p121 q121
          obtain rfl : ad120 = ad121 := (by injection e121)
          replace hx121_0 := cbx HB hx121_0
          replace hx121_1 := cbx HB hx121_1
          replace hx121_2 := cbx HB hx121_2
          replace hx121_3 := cbx HB hx121_3
          replace hx121_4 := cbx HB hx121_4
          replace hx121_5 := cbx HB hx121_5
          replace hx121_6 := cbx HB hx121_6
          have HR121_0 := Aside0.mk hi121_0
          have HC121_0 := Aside0.mk hl121_0
          clear hi121_0 hl121_0
          replace p121 := eq_true p121
          replace q121 := eq_true q121
          go_wp2_with (first | (go_at_call 59; (with_reducible refine (bytes_Compare.calls _ _ ((rd_T60 l2 (ji19)).f0) _ _ ((rd_T60 l2 x21_1).f0) t122 _ ?side1 ?side2 ?side3 ?side4 A24.out).mono ?_); (case side1 => exact cb1 HR120_0 HB); (case side2 => exact HC120_0.out); (case side3 => exact cb1 HR121_0 HB); (case side4 => exact HC121_0.out); rintro e w' ⟨rfl, ⟨nd, rfl⟩⟩; (try exact drA)))
          repeat (go_quiet ((go_at_call 59; (with_reducible refine (bytes_Compare.calls _ _ ((rd_T60 l2 (ji19)).f0) _ _ ((rd_T60 l2 x21_1).f0) t122 _ ?side1 ?side2 ?side3 ?side4 A24.out).mono ?_); (case side1 => exact cb1 HR120_0 HB); (case side2 => exact HC120_0.out); (case side3 => exact cb1 HR121_0 HB); (case side4 => exact HC121_0.out); rintro e w' ⟨rfl, ⟨nd, rfl⟩⟩; (try exact drA))); try go_wp2_with (first | (go_at_call 59; (with_reducible refine (bytes_Compare.calls _ _ ((rd_T60 l2 (ji19)).f0) _ _ ((rd_T60 l2 x21_1).f0) t122 _ ?side1 ?side2 ?side3 ?side4 A24.out).mono ?_); (case side1 => exact cb1 HR120_0 HB); (case side2 => exact HC120_0.out); (case side3 => exact cb1 HR121_0 HB); (case side4 => exact HC121_0.out); rintro e w' ⟨rfl, ⟨nd, rfl⟩⟩; (try exact drA))))
          go_ret
          exact ⟨by first | rfl | (simp [errW_none, errW_some] <;> rfl) | (simp only [← hji19]; first | rfl | (simp [errW_none, errW_some] <;> rfl)) | (simp [*, errW_none, errW_some] <;> rfl) | (exfalso; simp_all; done), belB HB.out GE118.out⟩
         ·rw [if_neg c25] at H
          have c25b0 := decide_eq_false c25
          clear c25
          have H' := Aside0.mk H
          clear H
          have p120 : 0 ≤ ((ji19) : Int) := of_decide_eq_true asmA
          have q120 : (ji19) < (l2.length : Int) := of_decide_eq_true asmA
          obtain ⟨ad120, A120_0, c120_0, e120, hx120_0, hx120_1, hx120_2, hx120_3, hx120_4, hx120_5, hx120_6, hl120_0, hi120_0⟩ := at_T60 HR2.out (ji19) p120 q120
          cases e120
          replace hx120_0 := cbx HB hx120_0
          replace hx120_1 := cbx HB hx120_1
          replace hx120_2 := cbx HB hx120_2
          replace hx120_3 := cbx HB hx120_3
          replace hx120_4 := cbx HB hx120_4
          replace hx120_5 := cbx HB hx120_5
          replace hx120_6 := cbx HB hx120_6
          have HR120_0 := Aside0.mk hi120_0
          have HC120_0 := Aside0.mk hl120_0
          clear hi120_0 hl120_0
          replace p120 := eq_true p120
          replace q120 := eq_true q120
          have p121 : 0 ≤ (x21_1 : Int) := of_decide_eq_true asmA
          have q121 : x21_1 < (l2.length : Int) := of_decide_eq_true asmA
          obtain ⟨ad121, A121_0, c121_0, e121, hx121_0, hx121_1, hx121_2, hx121_3, hx121_4, hx121_5, hx121_6, hl121_0, hi121_0⟩ := at_T60 HR2.out x21_1 p121 q121
          obtain rfl : ad120 = ad121 := (by injection e121)
          replace hx121_0 := cbx HB hx121_0
          replace hx121_1 := cbx HB hx121_1
          replace hx121_2 := cbx HB hx121_2
          replace hx121_3 := cbx HB hx121_3
          replace hx121_4 := cbx HB hx121_4
          replace hx121_5 := cbx HB hx121_5
          replace hx121_6 := cbx HB hx121_6
          have HR121_0 := Aside0.mk hi121_0
          have HC121_0 := Aside0.mk hl121_0
          clear hi121_0 hl121_0
          replace p121 := eq_true p121
          replace q121 := eq_true q121
          go_wp2_with (first | (go_at_call 59; (with_reducible refine (bytes_Compare.calls _ _ ((rd_T60 l2 (ji19)).f0) _ _ ((rd_T60 l2 x21_1).f0) t122 _ ?side1 ?side2 ?side3 ?side4 A24.out).mono ?_); (case side1 => exact cb1 HR120_0 HB); (case side2 => exact HC120_0.out); (case side3 => exact cb1 HR121_0 HB); (case side4 => exact HC121_0.out); rintro e w' ⟨rfl, ⟨nd, rfl⟩⟩; (try exact drA)))
          repeat (go_quiet ((go_at_call 59; (with_reducible refine (bytes_Compare.calls _ _ ((rd_T60 l2 (ji19)).f0) _ _ ((rd_T60 l2 x21_1).f0) t122 _ ?side1 ?side2 ?side3 ?side4 A24.out).mono ?_); (case side1 => exact cb1 HR120_0 HB); (case side2 => exact HC120_0.out); (case side3 => exact cb1 HR121_0 HB); (case side4 => exact HC121_0.out); rintro e w' ⟨rfl, ⟨nd, rfl⟩⟩; (try exact drA))); try go_wp2_with (first | (go_at_call 59; (with_reducible refine (bytes_Compare.calls _ _ ((rd_T60 l2 (ji19)).f0) _ _ ((rd_T60 l2 x21_1).f0) t122 _ ?side1 ?side2 ?side3 ?side4 A24.out).mono ?_); (case side1 => exact cb1 HR120_0 HB); (case side2 => exact HC120_0.out); (case side3 => exact cb1 HR121_0 HB); (case side4 => exact HC121_0.out); rintro e w' ⟨rfl, ⟨nd, rfl⟩⟩; (try exact drA))))
          go_roundg k1
          case measure => have := HK1.out; omega
          case rel => exact ⟨(wrap64 (x21_1 + 1)), relA, H', ⟨by have := HK1.out; omega⟩, ⟨blkA BK118.out⟩, ⟨belB HB.out GE118.out⟩⟩
        ·rw [if_neg c23] at H
         exact absurd H (by simp)
       ·rw [if_neg c22] at H
        exact absurd H (by simp)
      ·rw [if_neg c21] at H
       exact absurd H (by simp)
     ·rw [if_neg c20] at H
      exact absurd H (by simp)
    ·rw [if_neg c18] at H
     have c18b0 := decide_eq_false c18
     clear c18
     have H' := Aside0.mk H
     clear H
     go_wp2
     repeat (go_quiet (fail); try go_wp2)
     go_roundg k1
     case measure => have := HK1.out; omega
     case rel => exact ⟨(wrap64 (x21_1 + 1)), relA, H', ⟨by have := HK1.out; omega⟩, ⟨blkA BK118.out⟩, ⟨belB HB.out GE118.out⟩⟩
   ·rw [if_neg c17] at H
    have c17b0 := decide_eq_false c17
    clear c17
    replace H := bnA H
    obtain ⟨t123, A26, H⟩ := H
    by_cases c27 : t123 = true
    ·subst c27
     have H1 : (some 0) = some r := by rw [if_pos rfl] at H; exact H
     clear H
     have H := H1
     clear H1
     obtain rfl := Option.some.inj H
     obtain ⟨hcz28_0, hcz28_1, hfz28_0, hfz28_1⟩ := blk2 BK118
     go_wp2_with (first | (go_at_call 81; (with_reducible refine (fold_Fits.calls k1 _ _ l0_0 a0_1 _ _ l2 true _ ?side1 ?side2 ?side3 ?side4 A26.out).mono ?_); (case side1 => exact cb1 HR0_0 HB); (case side2 => exact HC0_0.out); (case side3 => exact cb1 HR2 HB); (case side4 => exact HC2.out); rintro e w29 ⟨rfl, hb⟩; replace BK118 := blkB BK118 hb; replace HB := bs2 HB GE118 hb; (try clear hb)))
     repeat (go_quiet (fail); try go_wp2_with (first | (go_at_call 81; (with_reducible refine (fold_Fits.calls k1 _ _ l0_0 a0_1 _ _ l2 true _ ?side1 ?side2 ?side3 ?side4 A26.out).mono ?_); (case side1 => exact cb1 HR0_0 HB); (case side2 => exact HC0_0.out); (case side3 => exact cb1 HR2 HB); (case side4 => exact HC2.out); rintro e w29 ⟨rfl, hb⟩; replace BK118 := blkB BK118 hb; replace HB := bs2 HB GE118 hb; (try clear hb))))
     go_ret
     exact ⟨ret1, belB HB.out GE118.out⟩
    ·replace c27 := Bool.eq_false_iff.mpr c27
     subst c27
     have H1 : (some 3) = some r := by rw [if_neg (show ¬ (false = true) by decide)] at H; exact H
     clear H
     have H := H1
     clear H1
     obtain rfl := Option.some.inj H
     obtain ⟨hcz30_0, hcz30_1, hfz30_0, hfz30_1⟩ := blk2 BK118
     go_wp2_with (first | (go_at_call 81; (with_reducible refine (fold_Fits.calls k1 _ _ l0_0 a0_1 _ _ l2 false _ ?side1 ?side2 ?side3 ?side4 A26.out).mono ?_); (case side1 => exact cb1 HR0_0 HB); (case side2 => exact HC0_0.out); (case side3 => exact cb1 HR2 HB); (case side4 => exact HC2.out); rintro e w31 ⟨rfl, hb⟩; replace BK118 := blkB BK118 hb; replace HB := bs2 HB GE118 hb; (try clear hb)))
     repeat (go_quiet (fail); try go_wp2_with (first | (go_at_call 81; (with_reducible refine (fold_Fits.calls k1 _ _ l0_0 a0_1 _ _ l2 false _ ?side1 ?side2 ?side3 ?side4 A26.out).mono ?_); (case side1 => exact cb1 HR0_0 HB); (case side2 => exact HC0_0.out); (case side3 => exact cb1 HR2 HB); (case side4 => exact HC2.out); rintro e w31 ⟨rfl, hb⟩; replace BK118 := blkB BK118 hb; replace HB := bs2 HB GE118 hb; (try clear hb))))
     go_ret
     exact ⟨ret1, belB HB.out GE118.out⟩
end Go.Proofs.Ytdopbhbbpgfliaa.PAsk
end
section
namespace Go.Proofs.Ytdopbhbbpgfliaa.PAsk
open Go.RowKit Go.Proofs.YtdopbhbbpgfliaaW.PrintWords Go.Proofs.YtdopbhbbpgfliaaW.PrintLast Go.Proofs.YtdopbhbbpgfliaaW.PrintMore
set_option linter.unusedVariables false
set_option linter.unusedSimpArgs false
set_option maxHeartbeats 8000000
set_option maxRecDepth 100000
def mW : Int := 18446744073709551616
def stW (s : Int × Int) (x : S40) : Int × Int := ((s.1 + IntKind.u64.wrap x.f0 + (s.2 + x.f1) / mW) % mW, (s.2 + x.f1) % mW)
theorem mod_mW (x : Int) : 0 ≤ x % mW ∧ x % mW < mW := ⟨Int.emod_nonneg _ (by decide), Int.emod_lt_of_pos _ (by decide)⟩
theorem u64_wrap (x : Int) : IntKind.u64.wrap x = x % mW := by
  unfold mW; show x % 18446744073709551616 = _; rfl
def inU (x : Int) : Prop := 0 ≤ x ∧ x < mW
theorem run_add (x y c : Int) (hx : 0 ≤ x) (hy : 0 ≤ y) (hc0 : 0 ≤ c) (hc : c ≤ 1) (w : World) :
    (callFunc 77 #[.int .u64 x, .int .u64 y, .int .u64 c]).run Try.prog w = .ok (.value (.tuple #[.int .u64 ((x + y + c) % mW), .int .u64 ((x + y + c) / mW)])) w := by
  rw [run_callFunc_extern Try.func77 (by kernel_rfl) (by kernel_rfl) (by kernel_rfl) (e := add64Entry) (by kernel_rfl), run_add64 x y c hx hy hc0 hc]
  rfl
theorem wrap_bd (x : Int) : inU (IntKind.u64.wrap x) := by rw [u64_wrap]; exact mod_mW x
theorem carry_bd {a b : Int} (ha : inU a) (hb : inU b) : 0 ≤ (a + b) / mW ∧ (a + b) / mW ≤ 1 := by
  unfold inU mW at *
  omega
def sumW (l : List S40) : Int × Int := l.foldl stW (0, 0)
theorem sumW_snoc {l : List S40} {j : Nat} (h : j < l.length) : sumW (l.take (j + 1)) = stW (sumW (l.take j)) l[j] := by
  unfold sumW
  rw [List.take_succ_eq_append_getElem h, List.foldl_append]
  rfl
theorem sumW_bd (l : List S40) : inU (sumW l).1 ∧ inU (sumW l).2 := by
  rcases List.eq_nil_or_concat l with rfl | ⟨l', x, rfl⟩
  · exact ⟨⟨Int.le_refl _, by decide⟩, ⟨Int.le_refl _, by decide⟩⟩
  · unfold sumW
    rw [List.concat_eq_append, List.foldl_append]
    exact ⟨mod_mW _, mod_mW _⟩
def SumRel (w : World) (gr : Nat) (wr : World) : Prop := Below w.heap.size w wr ∧ wr.heap[gr]? = some (.cells #[.int .i64 0, .int .u64 0] 40 (0, 0))
theorem wide_sum_calls (A0 : Option Addr) (c0 : Nat) (l0 : List S40) (w : World) (hr0 : Kd.C k40 w A0 l0.length l0) (hl : l0.length ≤ 1000) (hu : ∀ x ∈ l0, inU x.f1) :
    Calls Try.prog 46 #[.slice A0 l0.length c0] w fun e w' => e = .returned (.agg #[.int .i64 (wrap64 (sumW l0).1), .int .u64 (sumW l0).2]) ∧ Below w.heap.size w w' := by
  have HC := Lib.hid hr0; have HU := Lib.hid hu; clear hr0 hu
  go_enter Try.func46, Try.ntmps46
  go_wp2
  go_loopw [3, 4, 10] (fun v3 v4 v wr => ∃ j : Nat, v = .int .i64 j ∧ j ≤ l0.length ∧ v3 = .int .u64 (sumW (l0.take j)).1 ∧ v4 = .int .u64 (sumW (l0.take j)).2 ∧ SumRel w w.heap.size wr) (fun _ _ v _ => l0.length - (intOf v).toNat)
  case atStart => exact ⟨0, rfl, Nat.zero_le _, rfl, rfl, (Below.refl _ _).alloc (Nat.le_refl _) _, blk_new _ _⟩
  case round =>
    obtain ⟨j, rfl, hj, rfl, rfl, hB, hG⟩ := hrel
    have HB := Lib.hid hB; have HG := Lib.hid hG; clear hB hG
    have hs := sumW_bd (l0.take j)
    by_cases hlt : j < l0.length
    · have e1 : decide ((j : Int) < (l0.length : Int)) = true := decide_eq_true (by omega)
      obtain ⟨ad, ha, hx0, hx1⟩ := at_T40 HC.out (j : Int) (by omega) (by omega)
      subst ha
      obtain ⟨x, hx⟩ : ∃ x, x = rd_T40 l0 (j : Int) := ⟨_, rfl⟩
      have hxl : x = l0[j] := by
        rw [hx]; unfold rd_T40
        rw [show ((j : Int)).toNat = j from by omega, List.getD_eq_getElem?_getD, List.getElem?_eq_getElem hlt]
        rfl
      rw [← hx] at hx0 hx1
      simp only [Int.toNat_natCast] at hx0 hx1
      have hux : inU x.f1 := HU.out x (by rw [hxl]; exact List.getElem_mem hlt)
      have hn : sumW (l0.take (j + 1)) = stW (sumW (l0.take j)) x := by rw [sumW_snoc hlt, hxl]
      unfold stW at hn
      generalize sumW (l0.take j) = s at *
      have hr1 : ∀ w, (callFunc 77 #[.int .u64 s.2, .int .u64 x.f1, .int .u64 0]).run Try.prog w = .ok (.value (.tuple #[.int .u64 ((s.2 + x.f1) % mW), .int .u64 ((s.2 + x.f1) / mW)])) w := fun w => by
        have := run_add s.2 x.f1 0 hs.2.1 hux.1 (by omega) (by omega) w
        rw [Int.add_zero] at this; exact this
      have hcb := carry_bd hs.2 hux
      generalize (s.2 + x.f1) / mW = cy at *
      generalize (s.2 + x.f1) % mW = lo at *
      have hr2 : ∀ w, (callFunc 77 #[.int .u64 s.1, .int .u64 (IntKind.u64.wrap x.f0), .int .u64 cy]).run Try.prog w = .ok (.value (.tuple #[.int .u64 ((s.1 + IntKind.u64.wrap x.f0 + cy) % mW), .int .u64 ((s.1 + IntKind.u64.wrap x.f0 + cy) / mW)])) w := fun w => run_add _ _ _ hs.1.1 (wrap_bd x.f0).1 hcb.1 hcb.2 w
      generalize (s.1 + IntKind.u64.wrap x.f0 + cy) % mW = hi at *
      generalize (s.1 + IntKind.u64.wrap x.f0 + cy) / mW = over at *
      have HN := Lib.hid hn
      replace hx0 := (HB.out.cell (World.block_lt_of_cell? w _ hx0)).trans hx0
      replace hx1 := (HB.out.cell (World.block_lt_of_cell? w _ hx1)).trans hx1
      clear hn hxl hx hux hcb hs
      go_wp2
      go_roundw
      case rel => exact ⟨j + 1, by go_num, hlt, by rw [HN.out], by rw [HN.out], HB.out.alloc HB.out.size _, blk_alloc HG.out _⟩
      case measure => simp [intOf]; omega
    · have e1 : decide ((j : Int) < (l0.length : Int)) = false := decide_eq_false (by omega)
      have ht : Hid (l0.take j = l0) := Lib.hid (List.take_of_length_le (by omega))
      have hg0 := (blk_cell HG.out 0).trans (show _ = some (Value.int .i64 0) from rfl)
      have hg1 := (blk_cell HG.out 1).trans (show _ = some (Value.int .u64 0) from rfl)
      have hf0 := blk_frozen HG.out 0
      have hf1 := blk_frozen HG.out 1
      clear hs
      go_wp2
      refine bodyPost_ret (v := .agg #[.int .i64 (wrap64 (sumW (l0.take j)).1), .int .u64 (sumW (l0.take j)).2]) (by simp [results, Try.results46, go_sem, hg0, hg1]) rfl ?_
      rw [ht.out]
      exact ⟨rfl, below_set (below_set HB.out (Nat.le_refl _)) (Nat.le_refl _)⟩
theorem two_wide (w : World) (b : Nat) (x y : S40) (h : w.heap[b]? = some (.cells #[.int .i64 x.f0, .int .u64 x.f1, .int .i64 y.f0, .int .u64 y.f1] 40 (0, 0))) : Kd.C k40 w (some ⟨b, 0, none⟩) [x, y].length [x, y] := by
  refine ⟨rfl, by simp, fun _ => ⟨_, rfl, fun j p hj => ?_⟩⟩
  rcases j with _ | _ | j
  · cases hj
    refine ⟨_, rfl, k40_mk w x, fun i u hu => ?_⟩
    rw [add_plain, blk_cell h]
    rcases i with _ | _ | i
    · exact hu
    · exact hu
    · simp at hu
  · cases hj
    refine ⟨_, rfl, k40_mk w y, fun i u hu => ?_⟩
    rw [add_plain, blk_cell h]
    rcases i with _ | _ | i
    · exact hu
    · exact hu
    · simp at hu
  · simp at hj
def addW (a b : S40) : S40 := ⟨wrap64 (sumW [a, b]).1, (sumW [a, b]).2⟩
instance (x : Int) : Decidable (inU x) := by unfold inU; infer_instance
def wide_Add.f (a0_0 a0_1 a1_0 a1_1 : Int) : Option (Int × Int) := if inU a0_1 ∧ inU a1_1 then some ((addW ⟨a0_0, a0_1⟩ ⟨a1_0, a1_1⟩).f0, (addW ⟨a0_0, a0_1⟩ ⟨a1_0, a1_1⟩).f1) else none
theorem wide_Add.calls (a0_0 a0_1 a1_0 a1_1 : Int) (r1 r2 : Int) (w : World) (h : wide_Add.f a0_0 a0_1 a1_0 a1_1 = some (r1, r2)) :
    Calls Try.prog 31 #[.agg #[.int .i64 a0_0, .int .u64 a0_1], .agg #[.int .i64 a1_0, .int .u64 a1_1]] w fun e w' => e = .returned (.agg #[.int .i64 r1, .int .u64 r2]) ∧ Below w.heap.size w w' := by
  unfold wide_Add.f at h
  by_cases hu : inU a0_1 ∧ inU a1_1
  case neg => rw [if_neg hu] at h; cases h
  rw [if_pos hu] at h
  simp only [Option.some.injEq, Prod.mk.injEq] at h
  obtain ⟨h1, h2⟩ := h
  have HU := Lib.hid hu; have H1 := Lib.hid h1; have H2 := Lib.hid h2
  clear hu h1 h2
  go_enter Try.func31, Try.ntmps31
  go_wp2_with (go_at_call 46; refine (wide_sum_calls (some ⟨w.heap.size + 1 + 1 + 1, 0, none⟩) 2 [⟨a0_0, a0_1⟩, ⟨a1_0, a1_1⟩] _ (two_wide _ _ ⟨a0_0, a0_1⟩ ⟨a1_0, a1_1⟩ (by have := blk_new (((w.alloc (.cells #[.int .i64 a0_0, .int .u64 a0_1] 40)).alloc (.cells #[.int .i64 a1_0, .int .u64 a1_1] 40)).alloc (.cells #[.int .i64 0, .int .u64 0] 40)) (.cells #[.int .i64 a0_0, .int .u64 a0_1, .int .i64 a1_0, .int .u64 a1_1] 40); simpa using this)) (by simp) (by intro x hx; simp at hx; rcases hx with rfl | rfl; exact HU.out.1; exact HU.out.2)).mono ?_; rintro e w1 ⟨rfl, hb⟩; have hk := Lib.hid (blk_below (blk_alloc (blk_new ((w.alloc (.cells #[.int .i64 a0_0, .int .u64 a0_1] 40)).alloc (.cells #[.int .i64 a1_0, .int .u64 a1_1] 40)) (.cells #[.int .i64 0, .int .u64 0] 40)) _) hb); have hB := Lib.hid (below_step ((((Below.refl w.heap.size w).alloc (Nat.le_refl _) _).alloc (by simp) _ |>.alloc (by simp; omega) _).alloc (by simp; omega) _) hb); clear hb; have hc0 := (blk_cell hk.out 0).trans (show _ = some (Value.int .i64 0) from rfl); have hc1 := (blk_cell hk.out 1).trans (show _ = some (Value.int .u64 0) from rfl); have hf0 := blk_frozen hk.out 0; have hf1 := blk_frozen hk.out 1; simp at hc0 hc1 hf0 hf1)
  refine bodyPost_ret (v := .agg #[.int .i64 (wrap64 (sumW [⟨a0_0, a0_1⟩, ⟨a1_0, a1_1⟩]).1), .int .u64 (sumW [⟨a0_0, a0_1⟩, ⟨a1_0, a1_1⟩]).2]) (by simp [results, Try.results31, go_sem, hc0, hc1]) rfl ?_
  rw [← H1.out, ← H2.out]
  exact ⟨rfl, below_set (below_set hB.out (by omega)) (by omega)⟩
end Go.Proofs.Ytdopbhbbpgfliaa.PAsk
end
