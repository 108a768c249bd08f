import Derived.Test.YtjemmmemenljbaaZFoldFolds17
section
namespace Go.Proofs.Ytjemmmemenljbaa.PFold
open Go.RowKit Go.Proofs.YtjemmmemenljbaaW.PrintWords Go.Proofs.YtjemmmemenljbaaW.PrintLast Go.Proofs.YtjemmmemenljbaaW.PrintMore
set_option linter.unusedVariables false
set_option linter.unusedSimpArgs false
set_option maxHeartbeats 8000000
set_option maxRecDepth 100000
abbrev Gr := S67
def unfit (k : Nat) (g : List Gr) (keep : Int) (x : S51) : Option Bool := (fold_fits.f k g keep x.f0 x.f1.f0 x.f1.f1 x.f1.f2.f0 x.f1.f2.f1 x.f1.f3 x.f1.f4).bind fun t => some (!t)
def fold_Fits.f (k : Nat) (g : List Gr) (keep : Int) (l : List S51) : Option Bool :=
  if l.length = 0 then some true else (grain_Right.f k g keep).bind fun t => if t = true then (if l.length ≤ 140737488355328 then (anyQ (unfit k g keep) l).bind fun b => some (!b) else none) else some false
theorem fits_pred (k : Nat) (b : Nat) (A0 : Option Addr) (c0 : Nat) (g : List Gr) (keep : Int) (w : World) (hg : Kd.C k67 w A0 g.length g) (hc : g.length ≤ c0) (hb : w.heap[b]? = some (.cells #[.slice A0 g.length c0, .int .i64 keep] 24 (0, 0))) :
    PredEnt 53 #[.pointer (some ⟨b, 0, none⟩)] (unfit k g keep) w := by
  intro W A c x t hB hx hxc hq
  have HG := Lib.hid (Kd.C_below hg hB)
  have hlt := Nat.lt_of_lt_of_le (blk_lt hb) hB.size
  have hbb := blk_below hb hB
  have hc0 := (blk_cell hbb 0).trans (show _ = some (Value.slice A0 g.length c0) from rfl)
  have hc1 := (blk_cell hbb 1).trans (show _ = some (Value.int .i64 keep) from rfl)
  have HX := Lib.hid hx
  unfold unfit at hq
  obtain ⟨u, hu, he⟩ := Option.bind_eq_some_iff.mp hq
  have HU := Lib.hid hu
  obtain rfl := Option.some.inj he
  clear hg hB hb hbb hx hq hu he
  show Calls Try.prog 53 #[.agg #[.slice A x.f0.length c, .int .u64 x.f1.f0, .bool x.f1.f1, .int .i64 x.f1.f2.f0, .int .u64 x.f1.f2.f1, .int .i64 x.f1.f3, .int .i64 x.f1.f4], .pointer (some ⟨b, 0, none⟩)] W _
  cases u
  all_goals
    go_enter Try.func53, Try.ntmps53
    go_wp2_with (go_at_call 54; refine (fold_fits.calls k A0 c0 g keep A c x.f0 _ _ _ _ _ _ _ _ (Kd.C_below HG.out ((Below.refl _ _).alloc (Nat.le_refl _) _)) hc (Kd.C_below HX.out ((Below.refl _ _).alloc (Nat.le_refl _) _)) hxc HU.out).mono ?_; rintro e w' ⟨rfl, hw⟩; have HW := Lib.hid hw; clear hw)
    go_ret
    exact ⟨rfl, below_step ((Below.refl _ _).alloc (Nat.le_refl _) _) HW.out⟩
theorem enter_fits (args : Array Value) (w : World) : (callFunc 53 args).run Try.prog w = .ok (.enter 53 args) w := enters_ Try.func53 (by kernel_rfl) (by kernel_rfl) args w
theorem fold_Fits.calls (k : Nat) (A0_0 : Option Addr) (c0_0 : Nat) (l0_0 : List Gr) (a0_1 : Int) (A1 : Option Addr) (c1 : Nat) (l1 : List S51) (r : Bool) (w : World) (hr0_0 : Kd.C k67 w A0_0 l0_0.length l0_0) (hc0_0 : l0_0.length ≤ c0_0) (hr1 : Kd.C k51 w A1 l1.length l1) (_ : l1.length ≤ c1) (h : fold_Fits.f k l0_0 a0_1 l1 = some r) :
    Calls Try.prog 23 #[.agg #[.slice A0_0 l0_0.length c0_0, .int .i64 a0_1], .slice A1 l1.length c1] w fun e w' => e = .returned (.bool r) ∧ Below w.heap.size w w' := by
  have HG := Lib.hid hr0_0; have HE := Lib.hid hr1; clear hr0_0 hr1
  have HBX := Lib.hid (blk_new w (.cells #[.slice A0_0 l0_0.length c0_0, .int .i64 a0_1] 24))
  have HB0 : Hid (Below w.heap.size w (w.alloc (.cells #[.slice A0_0 l0_0.length c0_0, .int .i64 a0_1] 24))) := Lib.hid ((Below.refl _ _).alloc (Nat.le_refl _) _)
  unfold fold_Fits.f at h
  by_cases hl : l1.length = 0
  · rw [if_pos hl] at h
    obtain rfl := Option.some.inj h
    have e1 : ((l1.length : Int) == 0) = true := beq_iff_eq.2 (by omega)
    have e2 : (l1.length == 0) = true := beq_iff_eq.2 hl
    clear h hl
    go_enter Try.func23, Try.ntmps23
    go_wp2
    go_ret
    exact ⟨by first | rfl | (simp [e1, e2]; done), HB0.out⟩
  · rw [if_neg hl] at h
    have e1 : ((l1.length : Int) == 0) = false := beq_eq_false_iff_ne.2 (by omega)
    have e2 : (l1.length == 0) = false := beq_eq_false_iff_ne.2 hl
    obtain ⟨t, ht, h2⟩ := Option.bind_eq_some_iff.mp h
    have HT := Lib.hid ht
    cases t with
    | false =>
      rw [if_neg (by decide)] at h2
      obtain rfl := Option.some.inj h2
      clear h hl ht h2
      go_enter Try.func23, Try.ntmps23
      go_wp2_with (go_at_call 52; refine (grain_Right.calls k A0_0 c0_0 l0_0 a0_1 _ _ (Kd.C_below HG.out HB0.out) hc0_0 HT.out).mono ?_; rintro e w1 ⟨rfl, hb⟩; have HB1 := Lib.hid (below_step HB0.out hb); clear hb)
      go_ret
      exact ⟨rfl, HB1.out⟩
    | true =>
      rw [if_pos rfl] at h2
      by_cases hbig : l1.length ≤ 140737488355328
      case neg => rw [if_neg hbig] at h2; cases h2
      rw [if_pos hbig] at h2
      obtain ⟨b, hb, h3⟩ := Option.bind_eq_some_iff.mp h2
      obtain rfl := Option.some.inj h3
      have HQ := Lib.hid hb
      clear h hl ht h2 h3 hb
      cases b
      all_goals
        go_enter Try.func23, Try.ntmps23
        go_wp2_with (first
          | (go_at_call 52; refine (grain_Right.calls k A0_0 c0_0 l0_0 a0_1 _ _ (Kd.C_below HG.out HB0.out) hc0_0 HT.out).mono ?_; rintro e w1 ⟨rfl, hb⟩; have HB1 := Lib.hid (below_step HB0.out hb); have HBX1 := Lib.hid (blk_below HBX.out hb); clear hb)
          | (go_at_call 49; refine (contains_ents (unfit k l0_0 a0_1) 53 #[.pointer (some ⟨w.heap.size, 0, none⟩)] enter_fits A1 c1 l1 _ _ (Kd.C_below HE.out HB1.out) hbig (fits_pred k w.heap.size A0_0 c0_0 l0_0 a0_1 _ (Kd.C_below HG.out HB1.out) hc0_0 HBX1.out) HQ.out).mono ?_; rintro e w2 ⟨rfl, hb⟩; have HB2 := Lib.hid (below_step HB1.out hb); clear hb))
        go_ret
        exact ⟨rfl, HB2.out⟩
end Go.Proofs.Ytjemmmemenljbaa.PFold
end
section
namespace Go.Proofs.Ytjemmmemenljbaa.PFold
open Go.RowKit Go.Proofs.YtjemmmemenljbaaW.PrintWords Go.Proofs.YtjemmmemenljbaaW.PrintLast Go.Proofs.YtjemmmemenljbaaW.PrintMore
attribute [local go_sem] max2_int min2_int max_two min_two max_three min_three max_four min_four   -- for this text's walks alone
set_option linter.unusedVariables false
set_option linter.unusedSimpArgs false
set_option maxHeartbeats 8000000
set_option maxRecDepth 100000
def fold_check.l0 : Nat → List (S51) → Int → Int → List (S67) → Int → Option (Int)
 | 0, _, _, _, _, _ => none
 | k + 1, x2, x20, x21, x109000, x109001 => if x21 < x20 then (if x21 > 0 then (if 0 ≤ (wrap64 (x21 - 1)) then (if (wrap64 (x21 - 1)) < (x2.length : Int) then (if 0 ≤ x21 then (if x21 < (x2.length : Int) then ((bytes_Compare.f ((rd_T51 x2 (wrap64 (x21 - 1))).f0) ((rd_T51 x2 x21).f0)).bind fun t112 => (if t112 ≥ 0 then (some 50) else (fold_check.l0 k x2 x20 (wrap64 (x21 + 1)) x109000 x109001))) else (none)) else (none)) else (none)) else (none)) else (fold_check.l0 k x2 x20 (wrap64 (x21 + 1)) x109000 x109001)) else ((fold_Fits.f k x109000 x109001 x2).bind fun t113 => (if t113 = true then (some 0) else (some 3)))
def fold_check.f (k : Nat) (l0_0 : List (S67)) (a0_1 : Int) (a1 : Int) (l2 : List (S51)) : Option (Int) := (grain_Right.f k l0_0 a0_1).bind fun t109 => (if t109 = true then (if a1 < 0 then (some 1) else (if a1 > 1099511627776 then (some 1) else (fold_check.l0 k l2 (l2.length : Int) 0 l0_0 a0_1))) else (some 30))
theorem fold_check.calls (k : Nat) (A0_0 : Option Addr) (c0_0 : Nat) (l0_0 : List (S67)) (a0_1 : Int) (a1 : Int) (A2 : Option Addr) (c2 : Nat) (l2 : List (S51)) (r : Int) (w : World) (hr0_0 : Kd.C k67 w A0_0 l0_0.length l0_0) (hc0_0 : l0_0.length ≤ c0_0) (hr2 : Kd.C k51 w A2 l2.length l2) (hc2 : l2.length ≤ c2) (h : fold_check.f k l0_0 a0_1 a1 l2 = some r) :
  Calls Try.prog 27 #[.agg #[.slice A0_0 l0_0.length c0_0, .int .i64 a0_1], .int .i64 a1, .slice A2 l2.length c2] w fun e w' => e = .returned (.int .i64 r) ∧ Below w.heap.size w w' := by
 have hu24 := Try.underlying24
 have HR0_0 := Aside0.mk hr0_0
 have HC0_0 := Aside0.mk hc0_0
 clear hr0_0 hc0_0
 have HR2 := Aside0.mk hr2
 have HC2 := Aside0.mk hc2
 clear hr2 hc2
 have HB := Aside0.mk (Below.refl w.heap.size w)
 have H : ((grain_Right.f k l0_0 a0_1).bind fun t109 => (if t109 = true then (if a1 < 0 then (some 1) else (if a1 > 1099511627776 then (some 1) else (fold_check.l0 k l2 (l2.length : Int) 0 l0_0 a0_1))) else (some 30))) = some r := h
 clear h
 replace H := bnA H
 obtain ⟨t109, A4, H⟩ := H
 by_cases c5 : t109 = true
 rotate_left
 ·replace c5 := Bool.eq_false_iff.mpr c5
  subst c5
  have H1 : (some 30) = some r := by rw [if_neg (show ¬ (false = true) by decide)] at H; exact H
  clear H
  have H := H1
  clear H1
  obtain rfl := Option.some.inj H
  go_enter Try.func27, Try.ntmps27
  go_wp2_with (first | ((with_reducible refine gate_dst (N := 3) rfl ?_); refine boxA 3 #[.slice A0_0 l0_0.length c0_0, .int .i64 a0_1] 24 ?_; intro gb108 hg w32 hbox hb; have BK108 := Aside0.mk (hbox); have GE108 := ge1 hg (belA HB.out); replace HB := bst HB hb; clear hb hbox hg; obtain ⟨hcz33_0, hcz33_1, hfz33_0, hfz33_1⟩ := blk2 BK108) | (go_at_call 52; (with_reducible refine (grain_Right.calls k _ _ l0_0 a0_1 false _ ?side1 ?side2 A4.out).mono ?_); (case side1 => exact cb1 HR0_0 HB); (case side2 => exact HC0_0.out); rintro e w34 ⟨rfl, hb⟩; replace BK108 := blkB BK108 hb; replace HB := bs2 HB GE108 hb; (try clear hb)))
  repeat (go_quiet (fail); try go_wp2_with (first | ((with_reducible refine gate_dst (N := 3) rfl ?_); refine boxA 3 #[.slice A0_0 l0_0.length c0_0, .int .i64 a0_1] 24 ?_; intro gb108 hg w32 hbox hb; have BK108 := Aside0.mk (hbox); have GE108 := ge1 hg (belA HB.out); replace HB := bst HB hb; clear hb hbox hg; obtain ⟨hcz33_0, hcz33_1, hfz33_0, hfz33_1⟩ := blk2 BK108) | (go_at_call 52; (with_reducible refine (grain_Right.calls k _ _ l0_0 a0_1 false _ ?side1 ?side2 A4.out).mono ?_); (case side1 => exact cb1 HR0_0 HB); (case side2 => exact HC0_0.out); rintro e w34 ⟨rfl, hb⟩; replace BK108 := blkB BK108 hb; replace HB := bs2 HB GE108 hb; (try clear hb))))
  go_ret
  exact ⟨ret1, belB HB.out GE108.out⟩
 subst c5
 have H1 : (if a1 < 0 then (some 1) else (if a1 > 1099511627776 then (some 1) else (fold_check.l0 k l2 (l2.length : Int) 0 l0_0 a0_1))) = some r := by rw [if_pos rfl] at H; exact H
 clear H
 have H := H1
 clear H1
 by_cases c6 : a1 < 0
 ·rw [if_pos c6] at H
  have c6b0 := decide_eq_true c6
  clear c6
  obtain rfl := Option.some.inj H
  go_enter Try.func27, Try.ntmps27
  go_wp2_with (first | ((with_reducible refine gate_dst (N := 3) rfl ?_); refine boxA 3 #[.slice A0_0 l0_0.length c0_0, .int .i64 a0_1] 24 ?_; intro gb108 hg w7 hbox hb; have BK108 := Aside0.mk (hbox); have GE108 := ge1 hg (belA HB.out); replace HB := bst HB hb; clear hb hbox hg; obtain ⟨hcz8_0, hcz8_1, hfz8_0, hfz8_1⟩ := blk2 BK108) | (go_at_call 52; (with_reducible refine (grain_Right.calls k _ _ l0_0 a0_1 true _ ?side1 ?side2 A4.out).mono ?_); (case side1 => exact cb1 HR0_0 HB); (case side2 => exact HC0_0.out); rintro e w9 ⟨rfl, hb⟩; replace BK108 := blkB BK108 hb; replace HB := bs2 HB GE108 hb; (try clear hb)))
  repeat (go_quiet (fail); try go_wp2_with (first | ((with_reducible refine gate_dst (N := 3) rfl ?_); refine boxA 3 #[.slice A0_0 l0_0.length c0_0, .int .i64 a0_1] 24 ?_; intro gb108 hg w7 hbox hb; have BK108 := Aside0.mk (hbox); have GE108 := ge1 hg (belA HB.out); replace HB := bst HB hb; clear hb hbox hg; obtain ⟨hcz8_0, hcz8_1, hfz8_0, hfz8_1⟩ := blk2 BK108) | (go_at_call 52; (with_reducible refine (grain_Right.calls k _ _ l0_0 a0_1 true _ ?side1 ?side2 A4.out).mono ?_); (case side1 => exact cb1 HR0_0 HB); (case side2 => exact HC0_0.out); rintro e w9 ⟨rfl, hb⟩; replace BK108 := blkB BK108 hb; replace HB := bs2 HB GE108 hb; (try clear hb))))
  go_ret
  exact ⟨ret1, belB HB.out GE108.out⟩
 rw [if_neg c6] at H
 have c6b0 := decide_eq_false c6
 clear c6
 by_cases c10 : a1 > 1099511627776
 ·rw [if_pos c10] at H
  have c10b0 := decide_eq_true c10
  clear c10
  obtain rfl := Option.some.inj H
  go_enter Try.func27, Try.ntmps27
  go_wp2_with (first | ((with_reducible refine gate_dst (N := 3) rfl ?_); refine boxA 3 #[.slice A0_0 l0_0.length c0_0, .int .i64 a0_1] 24 ?_; intro gb108 hg w11 hbox hb; have BK108 := Aside0.mk (hbox); have GE108 := ge1 hg (belA HB.out); replace HB := bst HB hb; clear hb hbox hg; obtain ⟨hcz12_0, hcz12_1, hfz12_0, hfz12_1⟩ := blk2 BK108) | (go_at_call 52; (with_reducible refine (grain_Right.calls k _ _ l0_0 a0_1 true _ ?side1 ?side2 A4.out).mono ?_); (case side1 => exact cb1 HR0_0 HB); (case side2 => exact HC0_0.out); rintro e w13 ⟨rfl, hb⟩; replace BK108 := blkB BK108 hb; replace HB := bs2 HB GE108 hb; (try clear hb)))
  repeat (go_quiet (fail); try go_wp2_with (first | ((with_reducible refine gate_dst (N := 3) rfl ?_); refine boxA 3 #[.slice A0_0 l0_0.length c0_0, .int .i64 a0_1] 24 ?_; intro gb108 hg w11 hbox hb; have BK108 := Aside0.mk (hbox); have GE108 := ge1 hg (belA HB.out); replace HB := bst HB hb; clear hb hbox hg; obtain ⟨hcz12_0, hcz12_1, hfz12_0, hfz12_1⟩ := blk2 BK108) | (go_at_call 52; (with_reducible refine (grain_Right.calls k _ _ l0_0 a0_1 true _ ?side1 ?side2 A4.out).mono ?_); (case side1 => exact cb1 HR0_0 HB); (case side2 => exact HC0_0.out); rintro e w13 ⟨rfl, hb⟩; replace BK108 := blkB BK108 hb; replace HB := bs2 HB GE108 hb; (try clear hb))))
  go_ret
  exact ⟨ret1, belB HB.out GE108.out⟩
 rw [if_neg c10] at H
 have c10b0 := decide_eq_false c10
 clear c10
 have H' := Aside0.mk H
 clear H
 go_enter Try.func27, Try.ntmps27
 go_wp2_with (first | ((with_reducible refine gate_dst (N := 3) rfl ?_); refine boxA 3 #[.slice A0_0 l0_0.length c0_0, .int .i64 a0_1] 24 ?_; intro gb108 hg w14 hbox hb; have BK108 := Aside0.mk (hbox); have GE108 := ge1 hg (belA HB.out); replace HB := bst HB hb; clear hb hbox hg; obtain ⟨hcz15_0, hcz15_1, hfz15_0, hfz15_1⟩ := blk2 BK108) | (go_at_call 52; (with_reducible refine (grain_Right.calls k _ _ l0_0 a0_1 true _ ?side1 ?side2 A4.out).mono ?_); (case side1 => exact cb1 HR0_0 HB); (case side2 => exact HC0_0.out); rintro e w16 ⟨rfl, hb⟩; replace BK108 := blkB BK108 hb; replace HB := bs2 HB GE108 hb; (try clear hb)))
 repeat (go_quiet (fail); try go_wp2_with (first | ((with_reducible refine gate_dst (N := 3) rfl ?_); refine boxA 3 #[.slice A0_0 l0_0.length c0_0, .int .i64 a0_1] 24 ?_; intro gb108 hg w14 hbox hb; have BK108 := Aside0.mk (hbox); have GE108 := ge1 hg (belA HB.out); replace HB := bst HB hb; clear hb hbox hg; obtain ⟨hcz15_0, hcz15_1, hfz15_0, hfz15_1⟩ := blk2 BK108) | (go_at_call 52; (with_reducible refine (grain_Right.calls k _ _ l0_0 a0_1 true _ ?side1 ?side2 A4.out).mono ?_); (case side1 => exact cb1 HR0_0 HB); (case side2 => exact HC0_0.out); rintro e w16 ⟨rfl, hb⟩; replace BK108 := blkB BK108 hb; replace HB := bs2 HB GE108 hb; (try clear hb))))
 go_loopg [21] k (fun kq v21 w' => ∃ (x21_1 : Int), v21 = .int .i64 x21_1 ∧ Aside0 (fold_check.l0 kq l2 (l2.length : Int) x21_1 l0_0 a0_1 = some r) ∧ Aside0 (kq ≤ k) ∧ Aside0 (w'.heap[gb108]? = some (.cells #[(.slice A0_0 l0_0.length c0_0), .int .i64 a0_1] 24 (0, 0))) ∧ Aside0 (Below w.heap.size w w'))
 case atStart => exact ⟨(0), relA, H', ⟨Nat.le_refl _⟩, ⟨blkA BK108.out⟩, ⟨belB HB.out GE108.out⟩⟩
 case round =>
  clear H'
  try clear c1
  try clear c2
  try clear p2
  try clear c5
  try clear c6
  try clear c6b0
  try clear c10
  try clear c10b0
  try clear hcz12_0 hcz12_1
  try clear hcz15_0 hcz15_1
  try clear hcz8_0 hcz8_1
  try clear hfz12_0 hfz12_1
  try clear hfz15_0 hfz15_1
  try clear hfz8_0 hfz8_1
  obtain ⟨x21_1, rfl, HA, HK1, BK108, HB⟩ := hrel
  cases gk with
  | zero => exact absurd HA.out (by simp [fold_check.l0])
  | succ k1 =>
   have H := HA.out
   clear HA
   simp only [fold_check.l0] at H
   by_cases c17 : x21_1 < (l2.length : Int)
   ·rw [if_pos c17] at H
    have c17b0 := decide_eq_true c17
    clear c17
    by_cases c18 : x21_1 > 0
    ·rw [if_pos c18] at H
     have c18b0 := decide_eq_true c18
     clear c18
     obtain ⟨ji19, hji19⟩ : ∃ j_ : Int, (wrap64 (x21_1 - 1)) = j_ := ⟨_, rfl⟩
     replace H : (if 0 ≤ (ji19) then (if (ji19) < (l2.length : Int) then (if 0 ≤ x21_1 then (if x21_1 < (l2.length : Int) then ((bytes_Compare.f ((rd_T51 l2 (ji19)).f0) ((rd_T51 l2 x21_1).f0)).bind fun t112 => (if t112 ≥ 0 then (some 50) else (fold_check.l0 k1 l2 (l2.length : Int) (wrap64 (x21_1 + 1)) l0_0 a0_1))) else (none)) else (none)) else (none)) else (none)) = some r := by first | (rw [hji19] at H; exact H) | (simp only [hji19] at H ⊢; exact H)
     have hji19w : (IntKind.i64.wrap (x21_1 - 1)) = ji19 := (i64_w _).trans hji19
     by_cases c20 : 0 ≤ (ji19)
     ·rw [if_pos c20] at H
      have c20b0 := decide_eq_true c20
      clear c20
      by_cases c21 : (ji19) < (l2.length : Int)
      ·rw [if_pos c21] at H
       have c21b0 := decide_eq_true c21
       clear c21
       by_cases c22 : 0 ≤ x21_1
       ·rw [if_pos c22] at H
        have c22b0 := decide_eq_true c22
        clear c22
        by_cases c23 : x21_1 < (l2.length : Int)
        ·rw [if_pos c23] at H
         have c23b0 := decide_eq_true c23
         clear c23
         replace H := bnA H
         obtain ⟨t112, A24, H⟩ := H
         by_cases c25 : t112 ≥ 0
         ·rw [if_pos c25] at H
          have c25b0 := decide_eq_true c25
          clear c25
          obtain rfl := Option.some.inj H
          have p110 : 0 ≤ ((ji19) : Int) := of_decide_eq_true asmA
          have q110 : (ji19) < (l2.length : Int) := of_decide_eq_true asmA
          obtain ⟨ad110, A110_0, c110_0, e110, hx110_0, hx110_1, hx110_2, hx110_3, hx110_4, hx110_5, hx110_6, hl110_0, hi110_0⟩ := at_T51 HR2.out (ji19) p110 q110
          cases e110
          replace hx110_0 := cbx HB hx110_0
          replace hx110_1 := cbx HB hx110_1
          replace hx110_2 := cbx HB hx110_2
          replace hx110_3 := cbx HB hx110_3
          replace hx110_4 := cbx HB hx110_4
          replace hx110_5 := cbx HB hx110_5
          replace hx110_6 := cbx HB hx110_6
          have HR110_0 := Aside0.mk hi110_0
          have HC110_0 := Aside0.mk hl110_0
          clear hi110_0 hl110_0
          replace p110 := eq_true p110
          replace q110 := eq_true q110
          have p111 : 0 ≤ (x21_1 : Int) := of_decide_eq_true asmA
          have q111 : x21_1 < (l2.length : Int) := of_decide_eq_true asmA
          obtain ⟨ad111, A111_0, c111_0, e111, hx111_0, hx111_1, hx111_2, hx111_3, hx111_4, hx111_5, hx111_6, hl111_0, hi111_0⟩ := at_T51 HR2.out x21_1 p111 q111
          obtain rfl : ad110 = ad111 := (by injection e111)
          replace hx111_0 := cbx HB hx111_0
          replace hx111_1 := cbx HB hx111_1
          replace hx111_2 := cbx HB hx111_2
          replace hx111_3 := cbx HB hx111_3
          replace hx111_4 := cbx HB hx111_4
          replace hx111_5 := cbx HB hx111_5
          replace hx111_6 := cbx HB hx111_6
          have HR111_0 := Aside0.mk hi111_0
          have HC111_0 := Aside0.mk hl111_0
          clear hi111_0 hl111_0
          replace p111 := eq_true p111
          replace q111 := eq_true q111
          go_wp2_with (first | (go_at_call 33; (with_reducible refine (bytes_Compare.calls _ _ ((rd_T51 l2 (ji19)).f0) _ _ ((rd_T51 l2 x21_1).f0) t112 _ ?side1 ?side2 ?side3 ?side4 A24.out).mono ?_); (case side1 => exact cb1 HR110_0 HB); (case side2 => exact HC110_0.out); (case side3 => exact cb1 HR111_0 HB); (case side4 => exact HC111_0.out); rintro e w' ⟨rfl, ⟨nd, rfl⟩⟩; (try exact drA)))
          repeat (go_quiet ((go_at_call 33; (with_reducible refine (bytes_Compare.calls _ _ ((rd_T51 l2 (ji19)).f0) _ _ ((rd_T51 l2 x21_1).f0) t112 _ ?side1 ?side2 ?side3 ?side4 A24.out).mono ?_); (case side1 => exact cb1 HR110_0 HB); (case side2 => exact HC110_0.out); (case side3 => exact cb1 HR111_0 HB); (case side4 => exact HC111_0.out); rintro e w' ⟨rfl, ⟨nd, rfl⟩⟩; (try exact drA))); try go_wp2_with (first | (go_at_call 33; (with_reducible refine (bytes_Compare.calls _ _ ((rd_T51 l2 (ji19)).f0) _ _ ((rd_T51 l2 x21_1).f0) t112 _ ?side1 ?side2 ?side3 ?side4 A24.out).mono ?_); (case side1 => exact cb1 HR110_0 HB); (case side2 => exact HC110_0.out); (case side3 => exact cb1 HR111_0 HB); (case side4 => exact HC111_0.out); rintro e w' ⟨rfl, ⟨nd, rfl⟩⟩; (try exact drA))))
          go_ret
          exact ⟨by first | rfl | (simp [errW_none, errW_some] <;> rfl) | (simp only [← hji19]; first | rfl | (simp [errW_none, errW_some] <;> rfl)) | (simp [*, errW_none, errW_some] <;> rfl) | (exfalso; simp_all; done), belB HB.out GE108.out⟩
         ·rw [if_neg c25] at H
          have c25b0 := decide_eq_false c25
          clear c25
          have H' := Aside0.mk H
          clear H
          have p110 : 0 ≤ ((ji19) : Int) := of_decide_eq_true asmA
          have q110 : (ji19) < (l2.length : Int) := of_decide_eq_true asmA
          obtain ⟨ad110, A110_0, c110_0, e110, hx110_0, hx110_1, hx110_2, hx110_3, hx110_4, hx110_5, hx110_6, hl110_0, hi110_0⟩ := at_T51 HR2.out (ji19) p110 q110
          cases e110
          replace hx110_0 := cbx HB hx110_0
          replace hx110_1 := cbx HB hx110_1
          replace hx110_2 := cbx HB hx110_2
          replace hx110_3 := cbx HB hx110_3
          replace hx110_4 := cbx HB hx110_4
          replace hx110_5 := cbx HB hx110_5
          replace hx110_6 := cbx HB hx110_6
          have HR110_0 := Aside0.mk hi110_0
          have HC110_0 := Aside0.mk hl110_0
          clear hi110_0 hl110_0
          replace p110 := eq_true p110
          replace q110 := eq_true q110
          have p111 : 0 ≤ (x21_1 : Int) := of_decide_eq_true asmA
          have q111 : x21_1 < (l2.length : Int) := of_decide_eq_true asmA
          obtain ⟨ad111, A111_0, c111_0, e111, hx111_0, hx111_1, hx111_2, hx111_3, hx111_4, hx111_5, hx111_6, hl111_0, hi111_0⟩ := at_T51 HR2.out x21_1 p111 q111
          obtain rfl : ad110 = ad111 := (by injection e111)
          replace hx111_0 := cbx HB hx111_0
          replace hx111_1 := cbx HB hx111_1
          replace hx111_2 := cbx HB hx111_2
          replace hx111_3 := cbx HB hx111_3
          replace hx111_4 := cbx HB hx111_4
          replace hx111_5 := cbx HB hx111_5
          replace hx111_6 := cbx HB hx111_6
          have HR111_0 := Aside0.mk hi111_0
          have HC111_0 := Aside0.mk hl111_0
          clear hi111_0 hl111_0
          replace p111 := eq_true p111
          replace q111 := eq_true q111
          go_wp2_with (first | (go_at_call 33; (with_reducible refine (bytes_Compare.calls _ _ ((rd_T51 l2 (ji19)).f0) _ _ ((rd_T51 l2 x21_1).f0) t112 _ ?side1 ?side2 ?side3 ?side4 A24.out).mono ?_); (case side1 => exact cb1 HR110_0 HB); (case side2 => exact HC110_0.out); (case side3 => exact cb1 HR111_0 HB); (case side4 => exact HC111_0.out); rintro e w' ⟨rfl, ⟨nd, rfl⟩⟩; (try exact drA)))
          repeat (go_quiet ((go_at_call 33; (with_reducible refine (bytes_Compare.calls _ _ ((rd_T51 l2 (ji19)).f0) _ _ ((rd_T51 l2 x21_1).f0) t112 _ ?side1 ?side2 ?side3 ?side4 A24.out).mono ?_); (case side1 => exact cb1 HR110_0 HB); (case side2 => exact HC110_0.out); (case side3 => exact cb1 HR111_0 HB); (case side4 => exact HC111_0.out); rintro e w' ⟨rfl, ⟨nd, rfl⟩⟩; (try exact drA))); try go_wp2_with (first | (go_at_call 33; (with_reducible refine (bytes_Compare.calls _ _ ((rd_T51 l2 (ji19)).f0) _ _ ((rd_T51 l2 x21_1).f0) t112 _ ?side1 ?side2 ?side3 ?side4 A24.out).mono ?_); (case side1 => exact cb1 HR110_0 HB); (case side2 => exact HC110_0.out); (case side3 => exact cb1 HR111_0 HB); (case side4 => exact HC111_0.out); rintro e w' ⟨rfl, ⟨nd, rfl⟩⟩; (try exact drA))))
          go_roundg k1
          case measure => have := HK1.out; omega
          case rel => exact ⟨(wrap64 (x21_1 + 1)), relA, H', ⟨by have := HK1.out; omega⟩, ⟨blkA BK108.out⟩, ⟨belB HB.out GE108.out⟩⟩
        ·rw [if_neg c23] at H
         exact absurd H (by simp)
       ·rw [if_neg c22] at H
        exact absurd H (by simp)
      ·rw [if_neg c21] at H
       exact absurd H (by simp)
     ·rw [if_neg c20] at H
      exact absurd H (by simp)
    ·rw [if_neg c18] at H
     have c18b0 := decide_eq_false c18
     clear c18
     have H' := Aside0.mk H
     clear H
     go_wp2
     repeat (go_quiet (fail); try go_wp2)
     go_roundg k1
     case measure => have := HK1.out; omega
     case rel => exact ⟨(wrap64 (x21_1 + 1)), relA, H', ⟨by have := HK1.out; omega⟩, ⟨blkA BK108.out⟩, ⟨belB HB.out GE108.out⟩⟩
   ·rw [if_neg c17] at H
    have c17b0 := decide_eq_false c17
    clear c17
    replace H := bnA H
    obtain ⟨t113, A26, H⟩ := H
    by_cases c27 : t113 = true
    ·subst c27
     have H1 : (some 0) = some r := by rw [if_pos rfl] at H; exact H
     clear H
     have H := H1
     clear H1
     obtain rfl := Option.some.inj H
     obtain ⟨hcz28_0, hcz28_1, hfz28_0, hfz28_1⟩ := blk2 BK108
     go_wp2_with (first | (go_at_call 23; (with_reducible refine (fold_Fits.calls k1 _ _ l0_0 a0_1 _ _ l2 true _ ?side1 ?side2 ?side3 ?side4 A26.out).mono ?_); (case side1 => exact cb1 HR0_0 HB); (case side2 => exact HC0_0.out); (case side3 => exact cb1 HR2 HB); (case side4 => exact HC2.out); rintro e w29 ⟨rfl, hb⟩; replace BK108 := blkB BK108 hb; replace HB := bs2 HB GE108 hb; (try clear hb)))
     repeat (go_quiet (fail); try go_wp2_with (first | (go_at_call 23; (with_reducible refine (fold_Fits.calls k1 _ _ l0_0 a0_1 _ _ l2 true _ ?side1 ?side2 ?side3 ?side4 A26.out).mono ?_); (case side1 => exact cb1 HR0_0 HB); (case side2 => exact HC0_0.out); (case side3 => exact cb1 HR2 HB); (case side4 => exact HC2.out); rintro e w29 ⟨rfl, hb⟩; replace BK108 := blkB BK108 hb; replace HB := bs2 HB GE108 hb; (try clear hb))))
     go_ret
     exact ⟨ret1, belB HB.out GE108.out⟩
    ·replace c27 := Bool.eq_false_iff.mpr c27
     subst c27
     have H1 : (some 3) = some r := by rw [if_neg (show ¬ (false = true) by decide)] at H; exact H
     clear H
     have H := H1
     clear H1
     obtain rfl := Option.some.inj H
     obtain ⟨hcz30_0, hcz30_1, hfz30_0, hfz30_1⟩ := blk2 BK108
     go_wp2_with (first | (go_at_call 23; (with_reducible refine (fold_Fits.calls k1 _ _ l0_0 a0_1 _ _ l2 false _ ?side1 ?side2 ?side3 ?side4 A26.out).mono ?_); (case side1 => exact cb1 HR0_0 HB); (case side2 => exact HC0_0.out); (case side3 => exact cb1 HR2 HB); (case side4 => exact HC2.out); rintro e w31 ⟨rfl, hb⟩; replace BK108 := blkB BK108 hb; replace HB := bs2 HB GE108 hb; (try clear hb)))
     repeat (go_quiet (fail); try go_wp2_with (first | (go_at_call 23; (with_reducible refine (fold_Fits.calls k1 _ _ l0_0 a0_1 _ _ l2 false _ ?side1 ?side2 ?side3 ?side4 A26.out).mono ?_); (case side1 => exact cb1 HR0_0 HB); (case side2 => exact HC0_0.out); (case side3 => exact cb1 HR2 HB); (case side4 => exact HC2.out); rintro e w31 ⟨rfl, hb⟩; replace BK108 := blkB BK108 hb; replace HB := bs2 HB GE108 hb; (try clear hb))))
     go_ret
     exact ⟨ret1, belB HB.out GE108.out⟩
end Go.Proofs.Ytjemmmemenljbaa.PFold
end
