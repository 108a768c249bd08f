import Derived.Test.YtjemmmemenljbaaZFoldFolds05
import Derived.Test.YtjemmmemenljbaaZFoldFolds06
section
namespace Go.Proofs.Ytjemmmemenljbaa.PFold
open Go.RowKit Go.Proofs.YtjemmmemenljbaaW.PrintWords Go.Proofs.YtjemmmemenljbaaW.PrintLast Go.Proofs.YtjemmmemenljbaaW.PrintMore
attribute [local go_sem] max2_int min2_int max_two min_two max_three min_three max_four min_four   -- for this text's walks alone
set_option linter.unusedVariables false
set_option linter.unusedSimpArgs false
set_option maxHeartbeats 8000000
set_option maxRecDepth 100000
mutual
def rickyardref15_Fits.l0 : Nat → List (S51) → Int → List (S67) → Int → Option (Bool)
 | 0, _, _, _, _ => none
 | k + 1, x1, x5, x325000, x325001 => if x5 < (x1.length : Int) then (if 0 ≤ x5 then ((rickyardref06_Read.f k ((rd_T51 x1 x5).f0)).bind fun bt326 => (if bt326.2.2.2 = 0 then ((rickyardref03_Right.f k x325000 x325001).bind fun t333 => (if t333 = true then (rickyardref15_Fits.j1 k x1 x5 (decide (bt326.2.2.1 ≥ (x325000.length : Int))) x325000 x325001 bt326.1 bt326.2.1 bt326.2.2.1) else (rickyardref15_Fits.j1 k x1 x5 true x325000 x325001 bt326.1 bt326.2.1 bt326.2.2.1))) else (rickyardref15_Fits.j1 k x1 x5 true x325000 x325001 bt326.1 bt326.2.1 bt326.2.2.1))) else (none)) else (some true)
def rickyardref15_Fits.j1 : Nat → List (S51) → Int → Bool → List (S67) → Int → List ByteArray → Int → Int → Option (Bool)
 | 0, _, _, _, _, _, _, _, _ => none
 | k + 1, x1, x5, x39, x325000, x325001, x333000, x333001, x333002 => if x39 = true then (some false) else (if 0 ≤ x333002 then (if x333002 < (x325000.length : Int) then ((rickyardref03_Floor.f x333001 ((rd_T67 x325000 x333002).f0)).bind fun bt335 => (if bt335.1 = x333001 then (if 0 ≤ x5 then (if x5 < (x1.length : Int) then (if ((rd_T51 x1 x5).f1.f0) = 0 then (some false) else ((rickyardref02_Right.f ((rd_T51 x1 x5).f1.f0) ((rd_T51 x1 x5).f1.f1) ((rd_T51 x1 x5).f1.f2.f0) ((rd_T51 x1 x5).f1.f2.f1) ((rd_T51 x1 x5).f1.f3) ((rd_T51 x1 x5).f1.f4)).bind fun t339 => (if t339 = true then (rickyardref15_Fits.l0 k x1 (wrap64 (x5 + 1)) x325000 x325001) else (some false)))) else (none)) else (none)) else (some false))) else (none)) else (none))
end
def rickyardref15_Fits.f (k : Nat) (l0_0 : List (S67)) (a0_1 : Int) (l1 : List (S51)) : Option (Bool) := rickyardref15_Fits.l0 k l1 0 l0_0 a0_1
theorem rickyardref15_Fits.calls (k : Nat) (A0_0 : Option Addr) (c0_0 : Nat) (l0_0 : List (S67)) (a0_1 : Int) (A1 : Option Addr) (c1 : Nat) (l1 : List (S51)) (r : Bool) (w : World) (hr0_0 : Kd.C k67 w A0_0 l0_0.length l0_0) (hc0_0 : l0_0.length ≤ c0_0) (hr1 : Kd.C k51 w A1 l1.length l1) (hc1 : l1.length ≤ c1) (h : rickyardref15_Fits.f k l0_0 a0_1 l1 = some r) :
  Calls Try.prog 24 #[.agg #[.slice A0_0 l0_0.length c0_0, .int .i64 a0_1], .slice A1 l1.length c1] w fun e w' => e = .returned (.bool r) ∧ Below w.heap.size w w' := by
 have hu24 := Try.underlying24
 have hu62 := Try.underlying62
 have hu41 := Try.underlying41
 have HR0_0 := Aside0.mk hr0_0
 have HC0_0 := Aside0.mk hc0_0
 clear hr0_0 hc0_0
 have HR1 := Aside0.mk hr1
 have HC1 := Aside0.mk hc1
 clear hr1 hc1
 have HB := Aside0.mk (Below.refl w.heap.size w)
 have H : (rickyardref15_Fits.l0 k l1 0 l0_0 a0_1) = some r := h
 clear h
 have H' := Aside0.mk H
 clear H
 go_enter Try.func24, Try.ntmps24
 go_wp2_with (first | ((with_reducible refine gate_dst (N := 2) rfl ?_); (try (refine gate_guard (by rfl) ?_; dsimp only)); refine boxA 2 #[.slice A0_0 l0_0.length c0_0, .int .i64 a0_1] 24 ?_; intro gb324 hg w3 hbox hb; have BK324 := Aside0.mk (hbox); have GE324 := ge1 hg (belA HB.out); replace HB := bst HB hb; clear hb hbox hg))
 repeat (go_quiet (fail); try go_wp2_with (first | ((with_reducible refine gate_dst (N := 2) rfl ?_); (try (refine gate_guard (by rfl) ?_; dsimp only)); refine boxA 2 #[.slice A0_0 l0_0.length c0_0, .int .i64 a0_1] 24 ?_; intro gb324 hg w3 hbox hb; have BK324 := Aside0.mk (hbox); have GE324 := ge1 hg (belA HB.out); replace HB := bst HB hb; clear hb hbox hg)))
 go_loopg [5] k (fun kq v5 w' => ∃ (x5_1 : Int), v5 = .int .i64 x5_1 ∧ Aside0 (rickyardref15_Fits.l0 kq l1 x5_1 l0_0 a0_1 = some r) ∧ Aside0 (kq ≤ k) ∧ Aside0 (w'.heap[gb324]? = some (.cells #[(.slice A0_0 l0_0.length c0_0), .int .i64 a0_1] 24 (0, 0))) ∧ Aside0 (Below w.heap.size w w'))
 case atStart => exact ⟨(0), relA, H', ⟨Nat.le_refl _⟩, ⟨blkA BK324.out⟩, ⟨belB HB.out GE324.out⟩⟩
 case round =>
  clear H'
  try clear c1
  try clear c2
  try clear p2
  obtain ⟨x5_1, rfl, HA, HK1, BK324, HB⟩ := hrel
  cases gk with
  | zero => exact absurd HA.out (by simp [rickyardref15_Fits.l0])
  | succ k1 =>
   have H := HA.out
   clear HA
   simp only [rickyardref15_Fits.l0] at H
   by_cases c4 : x5_1 < (l1.length : Int)
   rotate_left
   ·rw [if_neg c4] at H
    have c4b0 := decide_eq_false c4
    clear c4
    obtain rfl := Option.some.inj H
    go_wp2
    repeat (go_quiet (fail); try go_wp2)
    go_ret
    exact ⟨ret1, belB HB.out GE324.out⟩
   rw [if_pos c4] at H
   have c4b0 := decide_eq_true c4
   clear c4
   replace H := ifN H
   obtain ⟨c5, H⟩ := H
   have c5b0 := decide_eq_true c5
   clear c5
   replace H := bnA H
   obtain ⟨⟨t326, t329, t330, t331⟩, A6, H⟩ := H
   replace H : (if t331 = 0 then ((rickyardref03_Right.f k1 l0_0 a0_1).bind fun t333 => (if t333 = true then (rickyardref15_Fits.j1 k1 l1 x5_1 (decide (t330 ≥ (l0_0.length : Int))) l0_0 a0_1 t326 t329 t330) else (rickyardref15_Fits.j1 k1 l1 x5_1 true l0_0 a0_1 t326 t329 t330))) else (rickyardref15_Fits.j1 k1 l1 x5_1 true l0_0 a0_1 t326 t329 t330)) = some r := H
   have HC7 := Aside0.mk H
   clear H
   have p325 : 0 ≤ (x5_1 : Int) := of_decide_eq_true asmA
   have q325 : x5_1 < (l1.length : Int) := of_decide_eq_true asmA
   obtain ⟨ad325, A325_0, c325_0, e325, hx325_0, hx325_1, hx325_2, hx325_3, hx325_4, hx325_5, hx325_6, hl325_0, hi325_0⟩ := at_T51 HR1.out x5_1 p325 q325
   cases e325
   replace hx325_0 := cbx HB hx325_0
   replace hx325_1 := cbx HB hx325_1
   replace hx325_2 := cbx HB hx325_2
   replace hx325_3 := cbx HB hx325_3
   replace hx325_4 := cbx HB hx325_4
   replace hx325_5 := cbx HB hx325_5
   replace hx325_6 := cbx HB hx325_6
   have HR325_0 := Aside0.mk hi325_0
   have HC325_0 := Aside0.mk hl325_0
   clear hi325_0 hl325_0
   replace p325 := eq_true p325
   replace q325 := eq_true q325
   go_upto_region 5 with (first | (go_at_call 55; (with_reducible refine (rickyardref06_Read.calls k1 _ _ ((rd_T51 l1 x5_1).f0) t326 t329 t330 t331 _ ?side1 ?side2 A6.out).mono ?_); (case side1 => exact cb1 HR325_0 HB); (case side2 => exact HC325_0.out); rintro e w8 ⟨v327, rfl, ho0, hb⟩; have HO328 := Aside0.mk (Kd.R_lower ho0 (below_size (belB HB.out GE324.out))); replace BK324 := blkB BK324 hb; replace HB := bs2 HB GE324 hb; (try clear hb); (try clear ho0)) | ((with_reducible refine gate_dst (N := 6) rfl ?_); (try (refine gate_guard (by rfl) ?_; dsimp only)); refine boxA 6 #[.slice none 0 0, .int .i64 0, .int .i64 0] 62 ?_; intro gb332 hg w9 hbox hb; have BK332 := Aside0.mk (hbox); have GW332 := ge1 hg (belB HB.out GE324.out); have GE332 := GW332; have NB324_332 := neL hg BK324; have NB332_324 := neR hg BK324; replace HO328 := Aside0.mk (Kd.R_below (rowA HO328.out) hb); replace BK324 := blkB BK324 hb; replace HB := bs2 HB GE324 hb; clear hb hbox hg; obtain ⟨Ao10, co10, eo10⟩ := Kd.R_slice HO328.out; subst eo10; have hnb11 := NB332_324.out; have hnc11 := NB324_332.out; obtain ⟨hcz12_0, hcz12_1, hcz12_2, hfz12_0, hfz12_1, hfz12_2⟩ := blk3 BK332))
   repeat (go_quiet (fail); go_upto_region 5 with (first | (go_at_call 55; (with_reducible refine (rickyardref06_Read.calls k1 _ _ ((rd_T51 l1 x5_1).f0) t326 t329 t330 t331 _ ?side1 ?side2 A6.out).mono ?_); (case side1 => exact cb1 HR325_0 HB); (case side2 => exact HC325_0.out); rintro e w8 ⟨v327, rfl, ho0, hb⟩; have HO328 := Aside0.mk (Kd.R_lower ho0 (below_size (belB HB.out GE324.out))); replace BK324 := blkB BK324 hb; replace HB := bs2 HB GE324 hb; (try clear hb); (try clear ho0)) | ((with_reducible refine gate_dst (N := 6) rfl ?_); (try (refine gate_guard (by rfl) ?_; dsimp only)); refine boxA 6 #[.slice none 0 0, .int .i64 0, .int .i64 0] 62 ?_; intro gb332 hg w9 hbox hb; have BK332 := Aside0.mk (hbox); have GW332 := ge1 hg (belB HB.out GE324.out); have GE332 := GW332; have NB324_332 := neL hg BK324; have NB332_324 := neR hg BK324; replace HO328 := Aside0.mk (Kd.R_below (rowA HO328.out) hb); replace BK324 := blkB BK324 hb; replace HB := bs2 HB GE324 hb; clear hb hbox hg; obtain ⟨Ao10, co10, eo10⟩ := Kd.R_slice HO328.out; subst eo10; have hnb11 := NB332_324.out; have hnc11 := NB324_332.out; obtain ⟨hcz12_0, hcz12_1, hcz12_2, hfz12_0, hfz12_1, hfz12_2⟩ := blk3 BK332)))
   (try simp only [Act.put, List.setIfInBounds_toArray, List.set_cons_zero, List.set_cons_succ])
   go_cut [39] (fun v39 wc => ∃ (kq : Nat) (x39_6 : Bool), v39 = .bool x39_6 ∧ Aside0 (rickyardref15_Fits.j1 kq l1 x5_1 x39_6 l0_0 a0_1 t326 t329 t330 = some r) ∧ Aside0 (kq ≤ k1) ∧ Aside0 (Kd.R Kd.string 9 wc w.heap.size (fun _ => True) (.slice Ao10 t326.length co10) t326) ∧ Aside0 (wc.heap[gb324]? = some (.cells #[(.slice A0_0 l0_0.length c0_0), .int .i64 a0_1] 24 (0, 0))) ∧ Aside0 (wc.heap[gb332]? = some (.cells #[(.slice Ao10 t326.length co10), .int .i64 t329, .int .i64 t330] 62 (0, 0))) ∧ Aside0 (Below w.heap.size w wc))
   case first =>
    have H := HC7.out
    clear HC7
    by_cases c13 : t331 = 0
    ·rw [if_pos c13] at H
     have c13b0 := beq_iff_eq.mpr c13
     have c13b1 := bne_eq_false_iff_eq.mpr c13
     clear c13
     (first | rw [c13b0] | (simp only [i64_w, i32_w]; rw [c13b0]) | skip)
     replace H := bnA H
     obtain ⟨t333, A14, H⟩ := H
     by_cases c15 : t333 = true
     ·subst c15
      have H1 : (rickyardref15_Fits.j1 k1 l1 x5_1 (decide (t330 ≥ (l0_0.length : Int))) l0_0 a0_1 t326 t329 t330) = some r := by rw [if_pos rfl] at H; exact H
      clear H
      have H := H1
      clear H1
      have H' := Aside0.mk H
      clear H
      have hnb16 := NB324_332.out
      have hnc16 := NB332_324.out
      obtain ⟨hcz17_0, hcz17_1, hfz17_0, hfz17_1⟩ := blk2 BK324
      go_wp2_with (first | (go_at_call 56; (with_reducible refine (rickyardref03_Right.calls k1 _ _ l0_0 a0_1 true _ ?side1 ?side2 A14.out).mono ?_); (case side1 => exact Kd.C_below HR0_0.out (belC HB.out GE324.out GE332.out)); (case side2 => exact HC0_0.out); rintro e w18 ⟨rfl, hb⟩; replace HO328 := Aside0.mk (Kd.R_below (by (with_reducible repeat (first | apply Kd.R_alloc | apply Kd.R_drewN | apply Kd.R_drew)); exact (Kd.R_mono (Kd.R_far (p := ⟨gb332, 2, none⟩) (Kd.R_far (p := ⟨gb332, 1, none⟩) (Kd.R_far (p := ⟨gb332, 0, none⟩) (Kd.R_types HO328.out BK332.out (by decide)) (fun _ hk => hk.2) (.slice Ao10 t326.length co10)) (fun _ hk => hk.2) (.int .i64 t329)) (fun _ hk => hk.2) (.int .i64 t330)) (fun _ h_ => h_.1))) hb); replace BK324 := Aside0.mk (blk_below (g := gb324) (o := .cells #[.slice A0_0 l0_0.length c0_0, .int .i64 a0_1] 24 (0, 0)) (putB BK324.out NB324_332.out) hb); replace BK332 := Aside0.mk (blk_below (g := gb332) (o := .cells #[.slice Ao10 t326.length co10, .int .i64 t329, .int .i64 t330] 62 (0, 0)) (putA BK332.out) hb); replace HB := bs3 HB GE324 GE332 hb; (try clear hb); obtain ⟨hcz19_0, hcz19_1, hcz19_2, hfz19_0, hfz19_1, hfz19_2⟩ := blk3 BK332; obtain ⟨hcz20_0, hcz20_1, hfz20_0, hfz20_1⟩ := blk2 BK324))
      repeat (go_quiet (fail); try go_wp2_with (first | (go_at_call 56; (with_reducible refine (rickyardref03_Right.calls k1 _ _ l0_0 a0_1 true _ ?side1 ?side2 A14.out).mono ?_); (case side1 => exact Kd.C_below HR0_0.out (belC HB.out GE324.out GE332.out)); (case side2 => exact HC0_0.out); rintro e w18 ⟨rfl, hb⟩; replace HO328 := Aside0.mk (Kd.R_below (by (with_reducible repeat (first | apply Kd.R_alloc | apply Kd.R_drewN | apply Kd.R_drew)); exact (Kd.R_mono (Kd.R_far (p := ⟨gb332, 2, none⟩) (Kd.R_far (p := ⟨gb332, 1, none⟩) (Kd.R_far (p := ⟨gb332, 0, none⟩) (Kd.R_types HO328.out BK332.out (by decide)) (fun _ hk => hk.2) (.slice Ao10 t326.length co10)) (fun _ hk => hk.2) (.int .i64 t329)) (fun _ hk => hk.2) (.int .i64 t330)) (fun _ h_ => h_.1))) hb); replace BK324 := Aside0.mk (blk_below (g := gb324) (o := .cells #[.slice A0_0 l0_0.length c0_0, .int .i64 a0_1] 24 (0, 0)) (putB BK324.out NB324_332.out) hb); replace BK332 := Aside0.mk (blk_below (g := gb332) (o := .cells #[.slice Ao10 t326.length co10, .int .i64 t329, .int .i64 t330] 62 (0, 0)) (putA BK332.out) hb); replace HB := bs3 HB GE324 GE332 hb; (try clear hb); obtain ⟨hcz19_0, hcz19_1, hcz19_2, hfz19_0, hfz19_1, hfz19_2⟩ := blk3 BK332; obtain ⟨hcz20_0, hcz20_1, hfz20_0, hfz20_1⟩ := blk2 BK324)))
      go_meet
      case rel => exact ⟨_, (decide (t330 ≥ (l0_0.length : Int))), relA, H', ⟨by have := HK1.out; first | omega | exact Nat.le_refl _⟩, ⟨rowA HO328.out⟩, ⟨blkA BK324.out⟩, ⟨blkA BK332.out⟩, ⟨belC HB.out GE324.out GE332.out⟩⟩
     ·replace c15 := Bool.eq_false_iff.mpr c15
      subst c15
      have H1 : (rickyardref15_Fits.j1 k1 l1 x5_1 true l0_0 a0_1 t326 t329 t330) = some r := by rw [if_neg (show ¬ (false = true) by decide)] at H; exact H
      clear H
      have H := H1
      clear H1
      have H' := Aside0.mk H
      clear H
      have hnb21 := NB324_332.out
      have hnc21 := NB332_324.out
      obtain ⟨hcz22_0, hcz22_1, hfz22_0, hfz22_1⟩ := blk2 BK324
      go_wp2_with (first | (go_at_call 56; (with_reducible refine (rickyardref03_Right.calls k1 _ _ l0_0 a0_1 false _ ?side1 ?side2 A14.out).mono ?_); (case side1 => exact Kd.C_below HR0_0.out (belC HB.out GE324.out GE332.out)); (case side2 => exact HC0_0.out); rintro e w23 ⟨rfl, hb⟩; replace HO328 := Aside0.mk (Kd.R_below (by (with_reducible repeat (first | apply Kd.R_alloc | apply Kd.R_drewN | apply Kd.R_drew)); exact (Kd.R_mono (Kd.R_far (p := ⟨gb332, 2, none⟩) (Kd.R_far (p := ⟨gb332, 1, none⟩) (Kd.R_far (p := ⟨gb332, 0, none⟩) (Kd.R_types HO328.out BK332.out (by decide)) (fun _ hk => hk.2) (.slice Ao10 t326.length co10)) (fun _ hk => hk.2) (.int .i64 t329)) (fun _ hk => hk.2) (.int .i64 t330)) (fun _ h_ => h_.1))) hb); replace BK324 := Aside0.mk (blk_below (g := gb324) (o := .cells #[.slice A0_0 l0_0.length c0_0, .int .i64 a0_1] 24 (0, 0)) (putB BK324.out NB324_332.out) hb); replace BK332 := Aside0.mk (blk_below (g := gb332) (o := .cells #[.slice Ao10 t326.length co10, .int .i64 t329, .int .i64 t330] 62 (0, 0)) (putA BK332.out) hb); replace HB := bs3 HB GE324 GE332 hb; (try clear hb)))
      repeat (go_quiet (fail); try go_wp2_with (first | (go_at_call 56; (with_reducible refine (rickyardref03_Right.calls k1 _ _ l0_0 a0_1 false _ ?side1 ?side2 A14.out).mono ?_); (case side1 => exact Kd.C_below HR0_0.out (belC HB.out GE324.out GE332.out)); (case side2 => exact HC0_0.out); rintro e w23 ⟨rfl, hb⟩; replace HO328 := Aside0.mk (Kd.R_below (by (with_reducible repeat (first | apply Kd.R_alloc | apply Kd.R_drewN | apply Kd.R_drew)); exact (Kd.R_mono (Kd.R_far (p := ⟨gb332, 2, none⟩) (Kd.R_far (p := ⟨gb332, 1, none⟩) (Kd.R_far (p := ⟨gb332, 0, none⟩) (Kd.R_types HO328.out BK332.out (by decide)) (fun _ hk => hk.2) (.slice Ao10 t326.length co10)) (fun _ hk => hk.2) (.int .i64 t329)) (fun _ hk => hk.2) (.int .i64 t330)) (fun _ h_ => h_.1))) hb); replace BK324 := Aside0.mk (blk_below (g := gb324) (o := .cells #[.slice A0_0 l0_0.length c0_0, .int .i64 a0_1] 24 (0, 0)) (putB BK324.out NB324_332.out) hb); replace BK332 := Aside0.mk (blk_below (g := gb332) (o := .cells #[.slice Ao10 t326.length co10, .int .i64 t329, .int .i64 t330] 62 (0, 0)) (putA BK332.out) hb); replace HB := bs3 HB GE324 GE332 hb; (try clear hb))))
      go_meet
      case rel => exact ⟨_, (true), relA, H', ⟨by have := HK1.out; first | omega | exact Nat.le_refl _⟩, ⟨rowA HO328.out⟩, ⟨blkA BK324.out⟩, ⟨blkA BK332.out⟩, ⟨belC HB.out GE324.out GE332.out⟩⟩
    ·rw [if_neg c13] at H
     have c13b0 := beq_eq_false_iff_ne.mpr c13
     have c13b1 := bne_iff_ne.mpr c13
     (first | rw [c13b0] | (simp only [i64_w, i32_w]; rw [c13b0]) | skip)
     have H' := Aside0.mk H
     clear H
     go_wp2
     repeat (go_quiet (fail); try go_wp2)
     go_meet
     case rel => exact ⟨_, (true), relA, H', ⟨by have := HK1.out; first | omega | exact Nat.le_refl _⟩, ⟨by (with_reducible repeat (first | apply Kd.R_alloc | apply Kd.R_drewN | apply Kd.R_drew)); exact Kd.R_mono (Kd.R_far (p := ⟨gb332, 2, none⟩) (Kd.R_far (p := ⟨gb332, 1, none⟩) (Kd.R_far (p := ⟨gb332, 0, none⟩) (Kd.R_types HO328.out BK332.out (by decide)) (fun _ hk => hk.2) (.slice Ao10 t326.length co10)) (fun _ hk => hk.2) (.int .i64 t329)) (fun _ hk => hk.2) (.int .i64 t330)) (fun _ hk => trivial)⟩, ⟨putB BK324.out NB324_332.out⟩, ⟨putA BK332.out⟩, ⟨belC HB.out GE324.out GE332.out⟩⟩
   case rest =>
    clear HC7
    try clear c1
    try clear c2
    try clear p2
    try clear c3
    try clear p3
    try clear q3
    try clear hx3
    try clear c4
    try clear c4b0
    try clear c5
    try clear c5b0
    try clear c11
    try clear c13
    try clear c13b0
    try clear c13b1
    try clear c15
    try clear c16
    try clear c21
    try clear hcz12_0 hcz12_1 hcz12_2
    try clear hcz17_0 hcz17_1
    try clear hcz19_0 hcz19_1 hcz19_2
    try clear hcz20_0 hcz20_1
    try clear hcz22_0 hcz22_1
    try clear hfz12_0 hfz12_1 hfz12_2
    try clear hfz17_0 hfz17_1
    try clear hfz19_0 hfz19_1 hfz19_2
    try clear hfz20_0 hfz20_1
    try clear hfz22_0 hfz22_1
    try clear hx325_0
    try clear hx325_1
    try clear hx325_2
    try clear hx325_3
    try clear hx325_4
    try clear hx325_5
    try clear hx325_6
    try clear p2
    try clear p325
    try clear q325
    obtain ⟨kq, x39_6, rfl, HA, HJ6, HO_333000, BK324, BK332, HB⟩ := hcut
    cases kq with
    | zero => exact absurd HA.out (by simp [rickyardref15_Fits.j1])
    | succ kj6 =>
     have H := HA.out
     clear HA
     simp only [rickyardref15_Fits.j1] at H
     by_cases c24 : x39_6 = true
     ·subst c24
      have H1 : (some false) = some r := by rw [if_pos rfl] at H; exact H
      clear H
      have H := H1
      clear H1
      obtain rfl := Option.some.inj H
      go_wp2
      repeat (go_quiet (fail); try go_wp2)
      go_ret
      exact ⟨ret1, belC HB.out GE324.out GE332.out⟩
     ·replace c24 := Bool.eq_false_iff.mpr c24
      subst c24
      have H1 : (if 0 ≤ t330 then (if t330 < (l0_0.length : Int) then ((rickyardref03_Floor.f t329 ((rd_T67 l0_0 t330).f0)).bind fun bt335 => (if bt335.1 = t329 then (if 0 ≤ x5_1 then (if x5_1 < (l1.length : Int) then (if ((rd_T51 l1 x5_1).f1.f0) = 0 then (some false) else ((rickyardref02_Right.f ((rd_T51 l1 x5_1).f1.f0) ((rd_T51 l1 x5_1).f1.f1) ((rd_T51 l1 x5_1).f1.f2.f0) ((rd_T51 l1 x5_1).f1.f2.f1) ((rd_T51 l1 x5_1).f1.f3) ((rd_T51 l1 x5_1).f1.f4)).bind fun t339 => (if t339 = true then (rickyardref15_Fits.l0 kj6 l1 (wrap64 (x5_1 + 1)) l0_0 a0_1) else (some false)))) else (none)) else (none)) else (some false))) else (none)) else (none)) = some r := by rw [if_neg (show ¬ (false = true) by decide)] at H; exact H
      clear H
      have H := H1
      clear H1
      by_cases c25 : 0 ≤ t330
      ·rw [if_pos c25] at H
       have c25b0 := decide_eq_true c25
       clear c25
       by_cases c26 : t330 < (l0_0.length : Int)
       ·rw [if_pos c26] at H
        have c26b0 := decide_eq_true c26
        clear c26
        replace H := bnA H
        obtain ⟨⟨t335, t336⟩, A27, H⟩ := H
        replace H : (if t335 = t329 then (if 0 ≤ x5_1 then (if x5_1 < (l1.length : Int) then (if ((rd_T51 l1 x5_1).f1.f0) = 0 then (some false) else ((rickyardref02_Right.f ((rd_T51 l1 x5_1).f1.f0) ((rd_T51 l1 x5_1).f1.f1) ((rd_T51 l1 x5_1).f1.f2.f0) ((rd_T51 l1 x5_1).f1.f2.f1) ((rd_T51 l1 x5_1).f1.f3) ((rd_T51 l1 x5_1).f1.f4)).bind fun t339 => (if t339 = true then (rickyardref15_Fits.l0 kj6 l1 (wrap64 (x5_1 + 1)) l0_0 a0_1) else (some false)))) else (none)) else (none)) else (some false)) = some r := H
        by_cases c28 : t335 = t329
        ·rw [if_pos c28] at H
         have c28b0 := beq_iff_eq.mpr c28
         have c28b1 := bne_eq_false_iff_eq.mpr c28
         clear c28
         by_cases c29 : 0 ≤ x5_1
         ·rw [if_pos c29] at H
          have c29b0 := decide_eq_true c29
          clear c29
          by_cases c30 : x5_1 < (l1.length : Int)
          ·rw [if_pos c30] at H
           have c30b0 := decide_eq_true c30
           clear c30
           by_cases c31 : ((rd_T51 l1 x5_1).f1.f0) = 0
           ·rw [if_pos c31] at H
            have c31b0 := beq_iff_eq.mpr c31
            have c31b1 := bne_eq_false_iff_eq.mpr c31
            clear c31
            obtain rfl := Option.some.inj H
            have hnb32 := NB332_324.out
            have hnc32 := NB324_332.out
            obtain ⟨hcz33_0, hcz33_1, hcz33_2, hfz33_0, hfz33_1, hfz33_2⟩ := blk3 BK332
            obtain ⟨hcz34_0, hcz34_1, hfz34_0, hfz34_1⟩ := blk2 BK324
            have p334 : 0 ≤ (t330 : Int) := of_decide_eq_true asmA
            have q334 : t330 < (l0_0.length : Int) := of_decide_eq_true asmA
            obtain ⟨ad334, e334, hx334_0, hx334_1⟩ := at_T67 HR0_0.out t330 p334 q334
            cases e334
            replace hx334_0 := cbx HB hx334_0
            replace hx334_1 := cbx HB hx334_1
            replace p334 := eq_true p334
            replace q334 := eq_true q334
            go_wp2_with (first | (go_at_call 57; (with_reducible refine (rickyardref03_Floor.calls t329 ((rd_T67 l0_0 t330).f0) t335 t336 _ A27.out).mono ?_); rintro e w' ⟨rfl, ⟨nd, rfl⟩⟩; (try exact drA); have p337 : 0 ≤ (x5_1 : Int) := of_decide_eq_true asmA; have q337 : x5_1 < (l1.length : Int) := of_decide_eq_true asmA; obtain ⟨ad337, A337_0, c337_0, e337, hx337_0, hx337_1, hx337_2, hx337_3, hx337_4, hx337_5, hx337_6, hl337_0, hi337_0⟩ := at_T51 HR1.out x5_1 p337 q337; obtain rfl : ad325 = ad337 := (by injection e337); replace hx337_0 := cbx HB hx337_0; replace hx337_1 := cbx HB hx337_1; replace hx337_2 := cbx HB hx337_2; replace hx337_3 := cbx HB hx337_3; replace hx337_4 := cbx HB hx337_4; replace hx337_5 := cbx HB hx337_5; replace hx337_6 := cbx HB hx337_6; have HR337_0 := Aside0.mk hi337_0; have HC337_0 := Aside0.mk hl337_0; clear hi337_0 hl337_0; replace p337 := eq_true p337; replace q337 := eq_true q337))
            repeat (go_quiet ((go_at_call 57; (with_reducible refine (rickyardref03_Floor.calls t329 ((rd_T67 l0_0 t330).f0) t335 t336 _ A27.out).mono ?_); rintro e w' ⟨rfl, ⟨nd, rfl⟩⟩; (try exact drA); have p337 : 0 ≤ (x5_1 : Int) := of_decide_eq_true asmA; have q337 : x5_1 < (l1.length : Int) := of_decide_eq_true asmA; obtain ⟨ad337, A337_0, c337_0, e337, hx337_0, hx337_1, hx337_2, hx337_3, hx337_4, hx337_5, hx337_6, hl337_0, hi337_0⟩ := at_T51 HR1.out x5_1 p337 q337; obtain rfl : ad325 = ad337 := (by injection e337); replace hx337_0 := cbx HB hx337_0; replace hx337_1 := cbx HB hx337_1; replace hx337_2 := cbx HB hx337_2; replace hx337_3 := cbx HB hx337_3; replace hx337_4 := cbx HB hx337_4; replace hx337_5 := cbx HB hx337_5; replace hx337_6 := cbx HB hx337_6; have HR337_0 := Aside0.mk hi337_0; have HC337_0 := Aside0.mk hl337_0; clear hi337_0 hl337_0; replace p337 := eq_true p337; replace q337 := eq_true q337)); try go_wp2_with (first | (go_at_call 57; (with_reducible refine (rickyardref03_Floor.calls t329 ((rd_T67 l0_0 t330).f0) t335 t336 _ A27.out).mono ?_); rintro e w' ⟨rfl, ⟨nd, rfl⟩⟩; (try exact drA); have p337 : 0 ≤ (x5_1 : Int) := of_decide_eq_true asmA; have q337 : x5_1 < (l1.length : Int) := of_decide_eq_true asmA; obtain ⟨ad337, A337_0, c337_0, e337, hx337_0, hx337_1, hx337_2, hx337_3, hx337_4, hx337_5, hx337_6, hl337_0, hi337_0⟩ := at_T51 HR1.out x5_1 p337 q337; obtain rfl : ad325 = ad337 := (by injection e337); replace hx337_0 := cbx HB hx337_0; replace hx337_1 := cbx HB hx337_1; replace hx337_2 := cbx HB hx337_2; replace hx337_3 := cbx HB hx337_3; replace hx337_4 := cbx HB hx337_4; replace hx337_5 := cbx HB hx337_5; replace hx337_6 := cbx HB hx337_6; have HR337_0 := Aside0.mk hi337_0; have HC337_0 := Aside0.mk hl337_0; clear hi337_0 hl337_0; replace p337 := eq_true p337; replace q337 := eq_true q337)))
            go_ret
            exact ⟨ret1, belC HB.out GE324.out GE332.out⟩
           ·rw [if_neg c31] at H
            have c31b0 := beq_eq_false_iff_ne.mpr c31
            have c31b1 := bne_iff_ne.mpr c31
            replace H := bnA H
            obtain ⟨t339, A35, H⟩ := H
            by_cases c36 : t339 = true
            ·subst c36
             have H1 : (rickyardref15_Fits.l0 kj6 l1 (wrap64 (x5_1 + 1)) l0_0 a0_1) = some r := by rw [if_pos rfl] at H; exact H
             clear H
             have H := H1
             clear H1
             have H' := Aside0.mk H
             clear H
             have hnb37 := NB332_324.out
             have hnc37 := NB324_332.out
             obtain ⟨hcz38_0, hcz38_1, hcz38_2, hfz38_0, hfz38_1, hfz38_2⟩ := blk3 BK332
             obtain ⟨hcz39_0, hcz39_1, hfz39_0, hfz39_1⟩ := blk2 BK324
             have p334 : 0 ≤ (t330 : Int) := of_decide_eq_true asmA
             have q334 : t330 < (l0_0.length : Int) := of_decide_eq_true asmA
             obtain ⟨ad334, e334, hx334_0, hx334_1⟩ := at_T67 HR0_0.out t330 p334 q334
             cases e334
             replace hx334_0 := cbx HB hx334_0
             replace hx334_1 := cbx HB hx334_1
             replace p334 := eq_true p334
             replace q334 := eq_true q334
             go_wp2_with (first | (go_at_call 57; (with_reducible refine (rickyardref03_Floor.calls t329 ((rd_T67 l0_0 t330).f0) t335 t336 _ A27.out).mono ?_); rintro e w' ⟨rfl, ⟨nd, rfl⟩⟩; (try exact drA); have p337 : 0 ≤ (x5_1 : Int) := of_decide_eq_true asmA; have q337 : x5_1 < (l1.length : Int) := of_decide_eq_true asmA; obtain ⟨ad337, A337_0, c337_0, e337, hx337_0, hx337_1, hx337_2, hx337_3, hx337_4, hx337_5, hx337_6, hl337_0, hi337_0⟩ := at_T51 HR1.out x5_1 p337 q337; obtain rfl : ad325 = ad337 := (by injection e337); replace hx337_0 := cbx HB hx337_0; replace hx337_1 := cbx HB hx337_1; replace hx337_2 := cbx HB hx337_2; replace hx337_3 := cbx HB hx337_3; replace hx337_4 := cbx HB hx337_4; replace hx337_5 := cbx HB hx337_5; replace hx337_6 := cbx HB hx337_6; have HR337_0 := Aside0.mk hi337_0; have HC337_0 := Aside0.mk hl337_0; clear hi337_0 hl337_0; replace p337 := eq_true p337; replace q337 := eq_true q337; have p338 : 0 ≤ (x5_1 : Int) := of_decide_eq_true asmA; have q338 : x5_1 < (l1.length : Int) := of_decide_eq_true asmA; obtain ⟨ad338, A338_0, c338_0, e338, hx338_0, hx338_1, hx338_2, hx338_3, hx338_4, hx338_5, hx338_6, hl338_0, hi338_0⟩ := at_T51 HR1.out x5_1 p338 q338; obtain rfl : ad325 = ad338 := (by injection e338); replace hx338_0 := cbx HB hx338_0; replace hx338_1 := cbx HB hx338_1; replace hx338_2 := cbx HB hx338_2; replace hx338_3 := cbx HB hx338_3; replace hx338_4 := cbx HB hx338_4; replace hx338_5 := cbx HB hx338_5; replace hx338_6 := cbx HB hx338_6; have HR338_0 := Aside0.mk hi338_0; have HC338_0 := Aside0.mk hl338_0; clear hi338_0 hl338_0; replace p338 := eq_true p338; replace q338 := eq_true q338; have ea_ := Option.some.inj (hx337_0.symm.trans hx338_0); injection ea_ with ea_ en_ ec_; subst ea_; subst ec_; clear en_) | (go_at_call 58; (with_reducible refine (rickyardref02_Right.calls ((rd_T51 l1 x5_1).f1.f0) ((rd_T51 l1 x5_1).f1.f1) ((rd_T51 l1 x5_1).f1.f2.f0) ((rd_T51 l1 x5_1).f1.f2.f1) ((rd_T51 l1 x5_1).f1.f3) ((rd_T51 l1 x5_1).f1.f4) true _ A35.out).mono ?_); rintro e w40 ⟨rfl, hb⟩; replace HO_333000 := Aside0.mk (Kd.R_below (rowA HO_333000.out) hb); replace BK324 := blkB BK324 hb; replace BK332 := blkB BK332 hb; replace HB := bs3 HB GE324 GE332 hb; (try clear hb)))
             repeat (go_quiet ((go_at_call 57; (with_reducible refine (rickyardref03_Floor.calls t329 ((rd_T67 l0_0 t330).f0) t335 t336 _ A27.out).mono ?_); rintro e w' ⟨rfl, ⟨nd, rfl⟩⟩; (try exact drA); have p337 : 0 ≤ (x5_1 : Int) := of_decide_eq_true asmA; have q337 : x5_1 < (l1.length : Int) := of_decide_eq_true asmA; obtain ⟨ad337, A337_0, c337_0, e337, hx337_0, hx337_1, hx337_2, hx337_3, hx337_4, hx337_5, hx337_6, hl337_0, hi337_0⟩ := at_T51 HR1.out x5_1 p337 q337; obtain rfl : ad325 = ad337 := (by injection e337); replace hx337_0 := cbx HB hx337_0; replace hx337_1 := cbx HB hx337_1; replace hx337_2 := cbx HB hx337_2; replace hx337_3 := cbx HB hx337_3; replace hx337_4 := cbx HB hx337_4; replace hx337_5 := cbx HB hx337_5; replace hx337_6 := cbx HB hx337_6; have HR337_0 := Aside0.mk hi337_0; have HC337_0 := Aside0.mk hl337_0; clear hi337_0 hl337_0; replace p337 := eq_true p337; replace q337 := eq_true q337; have p338 : 0 ≤ (x5_1 : Int) := of_decide_eq_true asmA; have q338 : x5_1 < (l1.length : Int) := of_decide_eq_true asmA; obtain ⟨ad338, A338_0, c338_0, e338, hx338_0, hx338_1, hx338_2, hx338_3, hx338_4, hx338_5, hx338_6, hl338_0, hi338_0⟩ := at_T51 HR1.out x5_1 p338 q338; obtain rfl : ad325 = ad338 := (by injection e338); replace hx338_0 := cbx HB hx338_0; replace hx338_1 := cbx HB hx338_1; replace hx338_2 := cbx HB hx338_2; replace hx338_3 := cbx HB hx338_3; replace hx338_4 := cbx HB hx338_4; replace hx338_5 := cbx HB hx338_5; replace hx338_6 := cbx HB hx338_6; have HR338_0 := Aside0.mk hi338_0; have HC338_0 := Aside0.mk hl338_0; clear hi338_0 hl338_0; replace p338 := eq_true p338; replace q338 := eq_true q338; have ea_ := Option.some.inj (hx337_0.symm.trans hx338_0); injection ea_ with ea_ en_ ec_; subst ea_; subst ec_; clear en_)); try go_wp2_with (first | (go_at_call 57; (with_reducible refine (rickyardref03_Floor.calls t329 ((rd_T67 l0_0 t330).f0) t335 t336 _ A27.out).mono ?_); rintro e w' ⟨rfl, ⟨nd, rfl⟩⟩; (try exact drA); have p337 : 0 ≤ (x5_1 : Int) := of_decide_eq_true asmA; have q337 : x5_1 < (l1.length : Int) := of_decide_eq_true asmA; obtain ⟨ad337, A337_0, c337_0, e337, hx337_0, hx337_1, hx337_2, hx337_3, hx337_4, hx337_5, hx337_6, hl337_0, hi337_0⟩ := at_T51 HR1.out x5_1 p337 q337; obtain rfl : ad325 = ad337 := (by injection e337); replace hx337_0 := cbx HB hx337_0; replace hx337_1 := cbx HB hx337_1; replace hx337_2 := cbx HB hx337_2; replace hx337_3 := cbx HB hx337_3; replace hx337_4 := cbx HB hx337_4; replace hx337_5 := cbx HB hx337_5; replace hx337_6 := cbx HB hx337_6; have HR337_0 := Aside0.mk hi337_0; have HC337_0 := Aside0.mk hl337_0; clear hi337_0 hl337_0; replace p337 := eq_true p337; replace q337 := eq_true q337; have p338 : 0 ≤ (x5_1 : Int) := of_decide_eq_true asmA; have q338 : x5_1 < (l1.length : Int) := of_decide_eq_true asmA; obtain ⟨ad338, A338_0, c338_0, e338, hx338_0, hx338_1, hx338_2, hx338_3, hx338_4, hx338_5, hx338_6, hl338_0, hi338_0⟩ := at_T51 HR1.out x5_1 p338 q338; obtain rfl : ad325 = ad338 := (by injection e338); replace hx338_0 := cbx HB hx338_0; replace hx338_1 := cbx HB hx338_1; replace hx338_2 := cbx HB hx338_2; replace hx338_3 := cbx HB hx338_3; replace hx338_4 := cbx HB hx338_4; replace hx338_5 := cbx HB hx338_5; replace hx338_6 := cbx HB hx338_6; have HR338_0 := Aside0.mk hi338_0; have HC338_0 := Aside0.mk hl338_0; clear hi338_0 hl338_0; replace p338 := eq_true p338; replace q338 := eq_true q338; have ea_ := Option.some.inj (hx337_0.symm.trans hx338_0); injection ea_ with ea_ en_ ec_; subst ea_; subst ec_; clear en_) | (go_at_call 58; (with_reducible refine (rickyardref02_Right.calls ((rd_T51 l1 x5_1).f1.f0) ((rd_T51 l1 x5_1).f1.f1) ((rd_T51 l1 x5_1).f1.f2.f0) ((rd_T51 l1 x5_1).f1.f2.f1) ((rd_T51 l1 x5_1).f1.f3) ((rd_T51 l1 x5_1).f1.f4) true _ A35.out).mono ?_); rintro e w40 ⟨rfl, hb⟩; replace HO_333000 := Aside0.mk (Kd.R_below (rowA HO_333000.out) hb); replace BK324 := blkB BK324 hb; replace BK332 := blkB BK332 hb; replace HB := bs3 HB GE324 GE332 hb; (try clear hb))))
             go_roundg kj6
             case measure => have := HK1.out; have := HJ6.out; omega
             case rel => exact ⟨(wrap64 (x5_1 + 1)), relA, H', ⟨by have := HK1.out; have := HJ6.out; omega⟩, ⟨blkA BK324.out⟩, ⟨belC HB.out GE324.out GE332.out⟩⟩
            ·replace c36 := Bool.eq_false_iff.mpr c36
             subst c36
             have H1 : (some false) = some r := by rw [if_neg (show ¬ (false = true) by decide)] at H; exact H
             clear H
             have H := H1
             clear H1
             obtain rfl := Option.some.inj H
             have hnb41 := NB332_324.out
             have hnc41 := NB324_332.out
             obtain ⟨hcz42_0, hcz42_1, hcz42_2, hfz42_0, hfz42_1, hfz42_2⟩ := blk3 BK332
             obtain ⟨hcz43_0, hcz43_1, hfz43_0, hfz43_1⟩ := blk2 BK324
             have p334 : 0 ≤ (t330 : Int) := of_decide_eq_true asmA
             have q334 : t330 < (l0_0.length : Int) := of_decide_eq_true asmA
             obtain ⟨ad334, e334, hx334_0, hx334_1⟩ := at_T67 HR0_0.out t330 p334 q334
             cases e334
             replace hx334_0 := cbx HB hx334_0
             replace hx334_1 := cbx HB hx334_1
             replace p334 := eq_true p334
             replace q334 := eq_true q334
             go_wp2_with (first | (go_at_call 57; (with_reducible refine (rickyardref03_Floor.calls t329 ((rd_T67 l0_0 t330).f0) t335 t336 _ A27.out).mono ?_); rintro e w' ⟨rfl, ⟨nd, rfl⟩⟩; (try exact drA); have p337 : 0 ≤ (x5_1 : Int) := of_decide_eq_true asmA; have q337 : x5_1 < (l1.length : Int) := of_decide_eq_true asmA; obtain ⟨ad337, A337_0, c337_0, e337, hx337_0, hx337_1, hx337_2, hx337_3, hx337_4, hx337_5, hx337_6, hl337_0, hi337_0⟩ := at_T51 HR1.out x5_1 p337 q337; obtain rfl : ad325 = ad337 := (by injection e337); replace hx337_0 := cbx HB hx337_0; replace hx337_1 := cbx HB hx337_1; replace hx337_2 := cbx HB hx337_2; replace hx337_3 := cbx HB hx337_3; replace hx337_4 := cbx HB hx337_4; replace hx337_5 := cbx HB hx337_5; replace hx337_6 := cbx HB hx337_6; have HR337_0 := Aside0.mk hi337_0; have HC337_0 := Aside0.mk hl337_0; clear hi337_0 hl337_0; replace p337 := eq_true p337; replace q337 := eq_true q337; have p338 : 0 ≤ (x5_1 : Int) := of_decide_eq_true asmA; have q338 : x5_1 < (l1.length : Int) := of_decide_eq_true asmA; obtain ⟨ad338, A338_0, c338_0, e338, hx338_0, hx338_1, hx338_2, hx338_3, hx338_4, hx338_5, hx338_6, hl338_0, hi338_0⟩ := at_T51 HR1.out x5_1 p338 q338; obtain rfl : ad325 = ad338 := (by injection e338); replace hx338_0 := cbx HB hx338_0; replace hx338_1 := cbx HB hx338_1; replace hx338_2 := cbx HB hx338_2; replace hx338_3 := cbx HB hx338_3; replace hx338_4 := cbx HB hx338_4; replace hx338_5 := cbx HB hx338_5; replace hx338_6 := cbx HB hx338_6; have HR338_0 := Aside0.mk hi338_0; have HC338_0 := Aside0.mk hl338_0; clear hi338_0 hl338_0; replace p338 := eq_true p338; replace q338 := eq_true q338; have ea_ := Option.some.inj (hx337_0.symm.trans hx338_0); injection ea_ with ea_ en_ ec_; subst ea_; subst ec_; clear en_) | (go_at_call 58; (with_reducible refine (rickyardref02_Right.calls ((rd_T51 l1 x5_1).f1.f0) ((rd_T51 l1 x5_1).f1.f1) ((rd_T51 l1 x5_1).f1.f2.f0) ((rd_T51 l1 x5_1).f1.f2.f1) ((rd_T51 l1 x5_1).f1.f3) ((rd_T51 l1 x5_1).f1.f4) false _ A35.out).mono ?_); rintro e w44 ⟨rfl, hb⟩; replace HO_333000 := Aside0.mk (Kd.R_below (rowA HO_333000.out) hb); replace BK324 := blkB BK324 hb; replace BK332 := blkB BK332 hb; replace HB := bs3 HB GE324 GE332 hb; (try clear hb)))
             repeat (go_quiet ((go_at_call 57; (with_reducible refine (rickyardref03_Floor.calls t329 ((rd_T67 l0_0 t330).f0) t335 t336 _ A27.out).mono ?_); rintro e w' ⟨rfl, ⟨nd, rfl⟩⟩; (try exact drA); have p337 : 0 ≤ (x5_1 : Int) := of_decide_eq_true asmA; have q337 : x5_1 < (l1.length : Int) := of_decide_eq_true asmA; obtain ⟨ad337, A337_0, c337_0, e337, hx337_0, hx337_1, hx337_2, hx337_3, hx337_4, hx337_5, hx337_6, hl337_0, hi337_0⟩ := at_T51 HR1.out x5_1 p337 q337; obtain rfl : ad325 = ad337 := (by injection e337); replace hx337_0 := cbx HB hx337_0; replace hx337_1 := cbx HB hx337_1; replace hx337_2 := cbx HB hx337_2; replace hx337_3 := cbx HB hx337_3; replace hx337_4 := cbx HB hx337_4; replace hx337_5 := cbx HB hx337_5; replace hx337_6 := cbx HB hx337_6; have HR337_0 := Aside0.mk hi337_0; have HC337_0 := Aside0.mk hl337_0; clear hi337_0 hl337_0; replace p337 := eq_true p337; replace q337 := eq_true q337; have p338 : 0 ≤ (x5_1 : Int) := of_decide_eq_true asmA; have q338 : x5_1 < (l1.length : Int) := of_decide_eq_true asmA; obtain ⟨ad338, A338_0, c338_0, e338, hx338_0, hx338_1, hx338_2, hx338_3, hx338_4, hx338_5, hx338_6, hl338_0, hi338_0⟩ := at_T51 HR1.out x5_1 p338 q338; obtain rfl : ad325 = ad338 := (by injection e338); replace hx338_0 := cbx HB hx338_0; replace hx338_1 := cbx HB hx338_1; replace hx338_2 := cbx HB hx338_2; replace hx338_3 := cbx HB hx338_3; replace hx338_4 := cbx HB hx338_4; replace hx338_5 := cbx HB hx338_5; replace hx338_6 := cbx HB hx338_6; have HR338_0 := Aside0.mk hi338_0; have HC338_0 := Aside0.mk hl338_0; clear hi338_0 hl338_0; replace p338 := eq_true p338; replace q338 := eq_true q338; have ea_ := Option.some.inj (hx337_0.symm.trans hx338_0); injection ea_ with ea_ en_ ec_; subst ea_; subst ec_; clear en_)); try go_wp2_with (first | (go_at_call 57; (with_reducible refine (rickyardref03_Floor.calls t329 ((rd_T67 l0_0 t330).f0) t335 t336 _ A27.out).mono ?_); rintro e w' ⟨rfl, ⟨nd, rfl⟩⟩; (try exact drA); have p337 : 0 ≤ (x5_1 : Int) := of_decide_eq_true asmA; have q337 : x5_1 < (l1.length : Int) := of_decide_eq_true asmA; obtain ⟨ad337, A337_0, c337_0, e337, hx337_0, hx337_1, hx337_2, hx337_3, hx337_4, hx337_5, hx337_6, hl337_0, hi337_0⟩ := at_T51 HR1.out x5_1 p337 q337; obtain rfl : ad325 = ad337 := (by injection e337); replace hx337_0 := cbx HB hx337_0; replace hx337_1 := cbx HB hx337_1; replace hx337_2 := cbx HB hx337_2; replace hx337_3 := cbx HB hx337_3; replace hx337_4 := cbx HB hx337_4; replace hx337_5 := cbx HB hx337_5; replace hx337_6 := cbx HB hx337_6; have HR337_0 := Aside0.mk hi337_0; have HC337_0 := Aside0.mk hl337_0; clear hi337_0 hl337_0; replace p337 := eq_true p337; replace q337 := eq_true q337; have p338 : 0 ≤ (x5_1 : Int) := of_decide_eq_true asmA; have q338 : x5_1 < (l1.length : Int) := of_decide_eq_true asmA; obtain ⟨ad338, A338_0, c338_0, e338, hx338_0, hx338_1, hx338_2, hx338_3, hx338_4, hx338_5, hx338_6, hl338_0, hi338_0⟩ := at_T51 HR1.out x5_1 p338 q338; obtain rfl : ad325 = ad338 := (by injection e338); replace hx338_0 := cbx HB hx338_0; replace hx338_1 := cbx HB hx338_1; replace hx338_2 := cbx HB hx338_2; replace hx338_3 := cbx HB hx338_3; replace hx338_4 := cbx HB hx338_4; replace hx338_5 := cbx HB hx338_5; replace hx338_6 := cbx HB hx338_6; have HR338_0 := Aside0.mk hi338_0; have HC338_0 := Aside0.mk hl338_0; clear hi338_0 hl338_0; replace p338 := eq_true p338; replace q338 := eq_true q338; have ea_ := Option.some.inj (hx337_0.symm.trans hx338_0); injection ea_ with ea_ en_ ec_; subst ea_; subst ec_; clear en_) | (go_at_call 58; (with_reducible refine (rickyardref02_Right.calls ((rd_T51 l1 x5_1).f1.f0) ((rd_T51 l1 x5_1).f1.f1) ((rd_T51 l1 x5_1).f1.f2.f0) ((rd_T51 l1 x5_1).f1.f2.f1) ((rd_T51 l1 x5_1).f1.f3) ((rd_T51 l1 x5_1).f1.f4) false _ A35.out).mono ?_); rintro e w44 ⟨rfl, hb⟩; replace HO_333000 := Aside0.mk (Kd.R_below (rowA HO_333000.out) hb); replace BK324 := blkB BK324 hb; replace BK332 := blkB BK332 hb; replace HB := bs3 HB GE324 GE332 hb; (try clear hb))))
             go_ret
             exact ⟨ret1, belC HB.out GE324.out GE332.out⟩
          ·rw [if_neg c30] at H
           exact absurd H (by simp)
         ·rw [if_neg c29] at H
          exact absurd H (by simp)
        ·rw [if_neg c28] at H
         have c28b0 := beq_eq_false_iff_ne.mpr c28
         have c28b1 := bne_iff_ne.mpr c28
         obtain rfl := Option.some.inj H
         have hnb45 := NB332_324.out
         have hnc45 := NB324_332.out
         obtain ⟨hcz46_0, hcz46_1, hcz46_2, hfz46_0, hfz46_1, hfz46_2⟩ := blk3 BK332
         obtain ⟨hcz47_0, hcz47_1, hfz47_0, hfz47_1⟩ := blk2 BK324
         have p334 : 0 ≤ (t330 : Int) := of_decide_eq_true asmA
         have q334 : t330 < (l0_0.length : Int) := of_decide_eq_true asmA
         obtain ⟨ad334, e334, hx334_0, hx334_1⟩ := at_T67 HR0_0.out t330 p334 q334
         cases e334
         replace hx334_0 := cbx HB hx334_0
         replace hx334_1 := cbx HB hx334_1
         replace p334 := eq_true p334
         replace q334 := eq_true q334
         go_wp2_with (first | (go_at_call 57; (with_reducible refine (rickyardref03_Floor.calls t329 ((rd_T67 l0_0 t330).f0) t335 t336 _ A27.out).mono ?_); rintro e w' ⟨rfl, ⟨nd, rfl⟩⟩; (try exact drA)))
         repeat (go_quiet ((go_at_call 57; (with_reducible refine (rickyardref03_Floor.calls t329 ((rd_T67 l0_0 t330).f0) t335 t336 _ A27.out).mono ?_); rintro e w' ⟨rfl, ⟨nd, rfl⟩⟩; (try exact drA))); try go_wp2_with (first | (go_at_call 57; (with_reducible refine (rickyardref03_Floor.calls t329 ((rd_T67 l0_0 t330).f0) t335 t336 _ A27.out).mono ?_); rintro e w' ⟨rfl, ⟨nd, rfl⟩⟩; (try exact drA))))
         go_ret
         exact ⟨ret1, belC HB.out GE324.out GE332.out⟩
       ·rw [if_neg c26] at H
        exact absurd H (by simp)
      ·rw [if_neg c25] at H
       exact absurd H (by simp)
def rickyardref15_Check.l0 : Nat → List (S51) → Int → List (S67) → Int → Option (Int)
 | 0, _, _, _, _ => none
 | k + 1, x2, x7, x341000, x341001 => if x7 < (x2.length : Int) then (if 0 ≤ (wrap64 (x7 - 1)) then (if (wrap64 (x7 - 1)) < (x2.length : Int) then (if 0 ≤ x7 then (if ((Op.bytesLess ((strOfNums ((rd_T51 x2 (wrap64 (x7 - 1))).f0)).toList) ((strOfNums ((rd_T51 x2 x7).f0)).toList)) = true) then (rickyardref15_Check.l0 k x2 (wrap64 (x7 + 1)) x341000 x341001) else (some 50)) else (none)) else (none)) else (none)) else ((rickyardref15_Fits.f k x341000 x341001 x2).bind fun t345 => (if t345 = true then (some 0) else (some 3)))
def rickyardref15_Check.f (k : Nat) (l0_0 : List (S67)) (a0_1 : Int) (a1 : Int) (l2 : List (S51)) : Option (Int) := (rickyardref03_Right.f k l0_0 a0_1).bind fun t341 => (if t341 = true then ((rickyardref03_Time.f a1).bind fun t342 => (if t342 = true then (rickyardref15_Check.l0 k l2 1 l0_0 a0_1) else (some 1))) else (some 30))
theorem rickyardref15_Check.calls (k : Nat) (A0_0 : Option Addr) (c0_0 : Nat) (l0_0 : List (S67)) (a0_1 : Int) (a1 : Int) (A2 : Option Addr) (c2 : Nat) (l2 : List (S51)) (r : Int) (w : World) (hr0_0 : Kd.C k67 w A0_0 l0_0.length l0_0) (hc0_0 : l0_0.length ≤ c0_0) (hr2 : Kd.C k51 w A2 l2.length l2) (hc2 : l2.length ≤ c2) (h : rickyardref15_Check.f k l0_0 a0_1 a1 l2 = some r) :
  Calls Try.prog 35 #[.agg #[.slice A0_0 l0_0.length c0_0, .int .i64 a0_1], .int .i64 a1, .slice A2 l2.length c2] w fun e w' => e = .returned (.int .i64 r) ∧ Below w.heap.size w w' := by
 have hu24 := Try.underlying24
 have HR0_0 := Aside0.mk hr0_0
 have HC0_0 := Aside0.mk hc0_0
 clear hr0_0 hc0_0
 have HR2 := Aside0.mk hr2
 have HC2 := Aside0.mk hc2
 clear hr2 hc2
 have HB := Aside0.mk (Below.refl w.heap.size w)
 have H : ((rickyardref03_Right.f k l0_0 a0_1).bind fun t341 => (if t341 = true then ((rickyardref03_Time.f a1).bind fun t342 => (if t342 = true then (rickyardref15_Check.l0 k l2 1 l0_0 a0_1) else (some 1))) else (some 30))) = some r := h
 clear h
 replace H := bnA H
 obtain ⟨t341, A4, H⟩ := H
 by_cases c5 : t341 = true
 rotate_left
 ·replace c5 := Bool.eq_false_iff.mpr c5
  subst c5
  have H1 : (some 30) = some r := by rw [if_neg (show ¬ (false = true) by decide)] at H; exact H
  clear H
  have H := H1
  clear H1
  obtain rfl := Option.some.inj H
  go_enter Try.func35, Try.ntmps35
  go_wp2_with (first | ((with_reducible refine gate_dst (N := 3) rfl ?_); refine boxA 3 #[.slice A0_0 l0_0.length c0_0, .int .i64 a0_1] 24 ?_; intro gb340 hg w34 hbox hb; have BK340 := Aside0.mk (hbox); have GE340 := ge1 hg (belA HB.out); replace HB := bst HB hb; clear hb hbox hg; obtain ⟨hcz35_0, hcz35_1, hfz35_0, hfz35_1⟩ := blk2 BK340) | (go_at_call 56; (with_reducible refine (rickyardref03_Right.calls k _ _ l0_0 a0_1 false _ ?side1 ?side2 A4.out).mono ?_); (case side1 => exact cb1 HR0_0 HB); (case side2 => exact HC0_0.out); rintro e w36 ⟨rfl, hb⟩; replace BK340 := blkB BK340 hb; replace HB := bs2 HB GE340 hb; (try clear hb)))
  repeat (go_quiet (fail); try go_wp2_with (first | ((with_reducible refine gate_dst (N := 3) rfl ?_); refine boxA 3 #[.slice A0_0 l0_0.length c0_0, .int .i64 a0_1] 24 ?_; intro gb340 hg w34 hbox hb; have BK340 := Aside0.mk (hbox); have GE340 := ge1 hg (belA HB.out); replace HB := bst HB hb; clear hb hbox hg; obtain ⟨hcz35_0, hcz35_1, hfz35_0, hfz35_1⟩ := blk2 BK340) | (go_at_call 56; (with_reducible refine (rickyardref03_Right.calls k _ _ l0_0 a0_1 false _ ?side1 ?side2 A4.out).mono ?_); (case side1 => exact cb1 HR0_0 HB); (case side2 => exact HC0_0.out); rintro e w36 ⟨rfl, hb⟩; replace BK340 := blkB BK340 hb; replace HB := bs2 HB GE340 hb; (try clear hb))))
  go_ret
  exact ⟨ret1, belB HB.out GE340.out⟩
 subst c5
 have H1 : ((rickyardref03_Time.f a1).bind fun t342 => (if t342 = true then (rickyardref15_Check.l0 k l2 1 l0_0 a0_1) else (some 1))) = some r := by rw [if_pos rfl] at H; exact H
 clear H
 have H := H1
 clear H1
 replace H := bnA H
 obtain ⟨t342, A6, H⟩ := H
 by_cases c7 : t342 = true
 rotate_left
 ·replace c7 := Bool.eq_false_iff.mpr c7
  subst c7
  have H1 : (some 1) = some r := by rw [if_neg (show ¬ (false = true) by decide)] at H; exact H
  clear H
  have H := H1
  clear H1
  obtain rfl := Option.some.inj H
  go_enter Try.func35, Try.ntmps35
  go_wp2_with (first | ((with_reducible refine gate_dst (N := 3) rfl ?_); refine boxA 3 #[.slice A0_0 l0_0.length c0_0, .int .i64 a0_1] 24 ?_; intro gb340 hg w31 hbox hb; have BK340 := Aside0.mk (hbox); have GE340 := ge1 hg (belA HB.out); replace HB := bst HB hb; clear hb hbox hg; obtain ⟨hcz32_0, hcz32_1, hfz32_0, hfz32_1⟩ := blk2 BK340) | (go_at_call 56; (with_reducible refine (rickyardref03_Right.calls k _ _ l0_0 a0_1 true _ ?side1 ?side2 A4.out).mono ?_); (case side1 => exact cb1 HR0_0 HB); (case side2 => exact HC0_0.out); rintro e w33 ⟨rfl, hb⟩; replace BK340 := blkB BK340 hb; replace HB := bs2 HB GE340 hb; (try clear hb)) | (go_at_call 68; (with_reducible refine (rickyardref03_Time.calls a1 false _ A6.out).mono ?_); rintro e w' ⟨rfl, ⟨nd, rfl⟩⟩; (try exact drA)))
  repeat (go_quiet ((go_at_call 68; (with_reducible refine (rickyardref03_Time.calls a1 false _ A6.out).mono ?_); rintro e w' ⟨rfl, ⟨nd, rfl⟩⟩; (try exact drA))); try go_wp2_with (first | ((with_reducible refine gate_dst (N := 3) rfl ?_); refine boxA 3 #[.slice A0_0 l0_0.length c0_0, .int .i64 a0_1] 24 ?_; intro gb340 hg w31 hbox hb; have BK340 := Aside0.mk (hbox); have GE340 := ge1 hg (belA HB.out); replace HB := bst HB hb; clear hb hbox hg; obtain ⟨hcz32_0, hcz32_1, hfz32_0, hfz32_1⟩ := blk2 BK340) | (go_at_call 56; (with_reducible refine (rickyardref03_Right.calls k _ _ l0_0 a0_1 true _ ?side1 ?side2 A4.out).mono ?_); (case side1 => exact cb1 HR0_0 HB); (case side2 => exact HC0_0.out); rintro e w33 ⟨rfl, hb⟩; replace BK340 := blkB BK340 hb; replace HB := bs2 HB GE340 hb; (try clear hb)) | (go_at_call 68; (with_reducible refine (rickyardref03_Time.calls a1 false _ A6.out).mono ?_); rintro e w' ⟨rfl, ⟨nd, rfl⟩⟩; (try exact drA))))
  go_ret
  exact ⟨ret1, belB HB.out GE340.out⟩
 subst c7
 have H1 : (rickyardref15_Check.l0 k l2 1 l0_0 a0_1) = some r := by rw [if_pos rfl] at H; exact H
 clear H
 have H := H1
 clear H1
 have H' := Aside0.mk H
 clear H
 go_enter Try.func35, Try.ntmps35
 go_wp2_with (first | ((with_reducible refine gate_dst (N := 3) rfl ?_); refine boxA 3 #[.slice A0_0 l0_0.length c0_0, .int .i64 a0_1] 24 ?_; intro gb340 hg w8 hbox hb; have BK340 := Aside0.mk (hbox); have GE340 := ge1 hg (belA HB.out); replace HB := bst HB hb; clear hb hbox hg; obtain ⟨hcz9_0, hcz9_1, hfz9_0, hfz9_1⟩ := blk2 BK340) | (go_at_call 56; (with_reducible refine (rickyardref03_Right.calls k _ _ l0_0 a0_1 true _ ?side1 ?side2 A4.out).mono ?_); (case side1 => exact cb1 HR0_0 HB); (case side2 => exact HC0_0.out); rintro e w10 ⟨rfl, hb⟩; replace BK340 := blkB BK340 hb; replace HB := bs2 HB GE340 hb; (try clear hb)) | (go_at_call 68; (with_reducible refine (rickyardref03_Time.calls a1 true _ A6.out).mono ?_); rintro e w' ⟨rfl, ⟨nd, rfl⟩⟩; (try exact drA)))
 repeat (go_quiet ((go_at_call 68; (with_reducible refine (rickyardref03_Time.calls a1 true _ A6.out).mono ?_); rintro e w' ⟨rfl, ⟨nd, rfl⟩⟩; (try exact drA))); try go_wp2_with (first | ((with_reducible refine gate_dst (N := 3) rfl ?_); refine boxA 3 #[.slice A0_0 l0_0.length c0_0, .int .i64 a0_1] 24 ?_; intro gb340 hg w8 hbox hb; have BK340 := Aside0.mk (hbox); have GE340 := ge1 hg (belA HB.out); replace HB := bst HB hb; clear hb hbox hg; obtain ⟨hcz9_0, hcz9_1, hfz9_0, hfz9_1⟩ := blk2 BK340) | (go_at_call 56; (with_reducible refine (rickyardref03_Right.calls k _ _ l0_0 a0_1 true _ ?side1 ?side2 A4.out).mono ?_); (case side1 => exact cb1 HR0_0 HB); (case side2 => exact HC0_0.out); rintro e w10 ⟨rfl, hb⟩; replace BK340 := blkB BK340 hb; replace HB := bs2 HB GE340 hb; (try clear hb)) | (go_at_call 68; (with_reducible refine (rickyardref03_Time.calls a1 true _ A6.out).mono ?_); rintro e w' ⟨rfl, ⟨nd, rfl⟩⟩; (try exact drA))))
 go_loopg [7] k (fun kq v7 w' => ∃ (x7_1 : Int), v7 = .int .i64 x7_1 ∧ Aside0 (rickyardref15_Check.l0 kq l2 x7_1 l0_0 a0_1 = some r) ∧ Aside0 (kq ≤ k) ∧ Aside0 (w'.heap[gb340]? = some (.cells #[(.slice A0_0 l0_0.length c0_0), .int .i64 a0_1] 24 (0, 0))) ∧ Aside0 (Below w.heap.size w w'))
 case atStart => exact ⟨(1), relA, H', ⟨Nat.le_refl _⟩, ⟨blkA BK340.out⟩, ⟨belB HB.out GE340.out⟩⟩
 case round =>
  clear H'
  try clear c2
  try clear p2
  try clear c3
  try clear c5
  try clear c7
  try clear hcz9_0 hcz9_1 hfz9_0 hfz9_1
  obtain ⟨x7_1, rfl, HA, HK1, BK340, HB⟩ := hrel
  cases gk with
  | zero => exact absurd HA.out (by simp [rickyardref15_Check.l0])
  | succ k1 =>
   have H := HA.out
   clear HA
   simp only [rickyardref15_Check.l0] at H
   by_cases c11 : x7_1 < (l2.length : Int)
   ·rw [if_pos c11] at H
    have c11b0 := decide_eq_true c11
    clear c11
    obtain ⟨ji12, hji12⟩ : ∃ j_ : Int, (wrap64 (x7_1 - 1)) = j_ := ⟨_, rfl⟩
    replace H : (if 0 ≤ (ji12) then (if (ji12) < (l2.length : Int) then (if 0 ≤ x7_1 then (if ((Op.bytesLess ((strOfNums ((rd_T51 l2 (ji12)).f0)).toList) ((strOfNums ((rd_T51 l2 x7_1).f0)).toList)) = true) then (rickyardref15_Check.l0 k1 l2 (wrap64 (x7_1 + 1)) l0_0 a0_1) else (some 50)) else (none)) else (none)) else (none)) = some r := by first | (rw [hji12] at H; exact H) | (simp only [hji12] at H ⊢; exact H)
    have hji12w : (IntKind.i64.wrap (x7_1 - 1)) = ji12 := (i64_w _).trans hji12
    by_cases c13 : 0 ≤ (ji12)
    ·rw [if_pos c13] at H
     have c13b0 := decide_eq_true c13
     clear c13
     by_cases c14 : (ji12) < (l2.length : Int)
     ·rw [if_pos c14] at H
      have c14b0 := decide_eq_true c14
      clear c14
      by_cases c15 : 0 ≤ x7_1
      ·rw [if_pos c15] at H
       have c15b0 := decide_eq_true c15
       clear c15
       by_cases c16 : ((Op.bytesLess ((strOfNums ((rd_T51 l2 (ji12)).f0)).toList) ((strOfNums ((rd_T51 l2 x7_1).f0)).toList)) = true)
       ·rw [if_pos c16] at H
        have c16b0 : (Op.bytesLess ((strOfNums ((rd_T51 l2 (ji12)).f0)).toList) ((strOfNums ((rd_T51 l2 x7_1).f0)).toList)) = true := c16
        clear c16
        have H' := Aside0.mk H
        clear H
        have p343 : 0 ≤ ((ji12) : Int) := of_decide_eq_true asmA
        have q343 : (ji12) < (l2.length : Int) := of_decide_eq_true asmA
        obtain ⟨ad343, A343_0, c343_0, e343, hx343_0, hx343_1, hx343_2, hx343_3, hx343_4, hx343_5, hx343_6, hl343_0, hi343_0⟩ := at_T51 HR2.out (ji12) p343 q343
        cases e343
        replace hx343_0 := cbx HB hx343_0
        replace hx343_1 := cbx HB hx343_1
        replace hx343_2 := cbx HB hx343_2
        replace hx343_3 := cbx HB hx343_3
        replace hx343_4 := cbx HB hx343_4
        replace hx343_5 := cbx HB hx343_5
        replace hx343_6 := cbx HB hx343_6
        have HR343_0 := Aside0.mk hi343_0
        have HC343_0 := Aside0.mk hl343_0
        clear hi343_0 hl343_0
        replace p343 := eq_true p343
        replace q343 := eq_true q343
        have hcv17 := Kd.C_string (P := Try.prog) (A := A343_0) (c := c343_0) Try.underlying49 Try.underlying5 Try.underlying9 (Kd.C_below HR343_0.out HB.out)
        have hcv18 := fun (n_ : Nat) => Kd.C_string (P := Try.prog) (A := A343_0) (c := c343_0) Try.underlying49 Try.underlying5 Try.underlying9 (Kd.C_drewN (Kd.C_below HR343_0.out HB.out) n_)
        have p344 : 0 ≤ (x7_1 : Int) := of_decide_eq_true asmA
        have q344 : x7_1 < (l2.length : Int) := of_decide_eq_true asmA
        obtain ⟨ad344, A344_0, c344_0, e344, hx344_0, hx344_1, hx344_2, hx344_3, hx344_4, hx344_5, hx344_6, hl344_0, hi344_0⟩ := at_T51 HR2.out x7_1 p344 q344
        obtain rfl : ad343 = ad344 := (by injection e344)
        replace hx344_0 := cbx HB hx344_0
        replace hx344_1 := cbx HB hx344_1
        replace hx344_2 := cbx HB hx344_2
        replace hx344_3 := cbx HB hx344_3
        replace hx344_4 := cbx HB hx344_4
        replace hx344_5 := cbx HB hx344_5
        replace hx344_6 := cbx HB hx344_6
        have HR344_0 := Aside0.mk hi344_0
        have HC344_0 := Aside0.mk hl344_0
        clear hi344_0 hl344_0
        replace p344 := eq_true p344
        replace q344 := eq_true q344
        have hcv19 := Kd.C_string (P := Try.prog) (A := A344_0) (c := c344_0) Try.underlying49 Try.underlying5 Try.underlying9 (Kd.C_below HR344_0.out HB.out)
        have hcv20 := fun (n_ : Nat) => Kd.C_string (P := Try.prog) (A := A344_0) (c := c344_0) Try.underlying49 Try.underlying5 Try.underlying9 (Kd.C_drewN (Kd.C_below HR344_0.out HB.out) n_)
        go_wp2
        repeat (go_quiet (fail); try go_wp2)
        go_roundg k1
        case measure => have := HK1.out; omega
        case rel => exact ⟨(wrap64 (x7_1 + 1)), relA, H', ⟨by have := HK1.out; omega⟩, ⟨blkA BK340.out⟩, ⟨belB HB.out GE340.out⟩⟩
       ·rw [if_neg c16] at H
        have c16b0 : (Op.bytesLess ((strOfNums ((rd_T51 l2 (ji12)).f0)).toList) ((strOfNums ((rd_T51 l2 x7_1).f0)).toList)) = false := by simpa using c16
        clear c16
        obtain rfl := Option.some.inj H
        have p343 : 0 ≤ ((ji12) : Int) := of_decide_eq_true asmA
        have q343 : (ji12) < (l2.length : Int) := of_decide_eq_true asmA
        obtain ⟨ad343, A343_0, c343_0, e343, hx343_0, hx343_1, hx343_2, hx343_3, hx343_4, hx343_5, hx343_6, hl343_0, hi343_0⟩ := at_T51 HR2.out (ji12) p343 q343
        cases e343
        replace hx343_0 := cbx HB hx343_0
        replace hx343_1 := cbx HB hx343_1
        replace hx343_2 := cbx HB hx343_2
        replace hx343_3 := cbx HB hx343_3
        replace hx343_4 := cbx HB hx343_4
        replace hx343_5 := cbx HB hx343_5
        replace hx343_6 := cbx HB hx343_6
        have HR343_0 := Aside0.mk hi343_0
        have HC343_0 := Aside0.mk hl343_0
        clear hi343_0 hl343_0
        replace p343 := eq_true p343
        replace q343 := eq_true q343
        have hcv21 := Kd.C_string (P := Try.prog) (A := A343_0) (c := c343_0) Try.underlying49 Try.underlying5 Try.underlying9 (Kd.C_below HR343_0.out HB.out)
        have hcv22 := fun (n_ : Nat) => Kd.C_string (P := Try.prog) (A := A343_0) (c := c343_0) Try.underlying49 Try.underlying5 Try.underlying9 (Kd.C_drewN (Kd.C_below HR343_0.out HB.out) n_)
        have p344 : 0 ≤ (x7_1 : Int) := of_decide_eq_true asmA
        have q344 : x7_1 < (l2.length : Int) := of_decide_eq_true asmA
        obtain ⟨ad344, A344_0, c344_0, e344, hx344_0, hx344_1, hx344_2, hx344_3, hx344_4, hx344_5, hx344_6, hl344_0, hi344_0⟩ := at_T51 HR2.out x7_1 p344 q344
        obtain rfl : ad343 = ad344 := (by injection e344)
        replace hx344_0 := cbx HB hx344_0
        replace hx344_1 := cbx HB hx344_1
        replace hx344_2 := cbx HB hx344_2
        replace hx344_3 := cbx HB hx344_3
        replace hx344_4 := cbx HB hx344_4
        replace hx344_5 := cbx HB hx344_5
        replace hx344_6 := cbx HB hx344_6
        have HR344_0 := Aside0.mk hi344_0
        have HC344_0 := Aside0.mk hl344_0
        clear hi344_0 hl344_0
        replace p344 := eq_true p344
        replace q344 := eq_true q344
        have hcv23 := Kd.C_string (P := Try.prog) (A := A344_0) (c := c344_0) Try.underlying49 Try.underlying5 Try.underlying9 (Kd.C_below HR344_0.out HB.out)
        have hcv24 := fun (n_ : Nat) => Kd.C_string (P := Try.prog) (A := A344_0) (c := c344_0) Try.underlying49 Try.underlying5 Try.underlying9 (Kd.C_drewN (Kd.C_below HR344_0.out HB.out) n_)
        go_wp2
        repeat (go_quiet (fail); try go_wp2)
        go_ret
        exact ⟨by first | rfl | (simp [errW_none, errW_some] <;> rfl) | (simp only [← hji12]; first | rfl | (simp [errW_none, errW_some] <;> rfl)) | (simp [*, errW_none, errW_some] <;> rfl) | (exfalso; simp_all; done), belB HB.out GE340.out⟩
      ·rw [if_neg c15] at H
       exact absurd H (by simp)
     ·rw [if_neg c14] at H
      exact absurd H (by simp)
    ·rw [if_neg c13] at H
     exact absurd H (by simp)
   ·rw [if_neg c11] at H
    have c11b0 := decide_eq_false c11
    clear c11
    replace H := bnA H
    obtain ⟨t345, A25, H⟩ := H
    by_cases c26 : t345 = true
    ·subst c26
     have H1 : (some 0) = some r := by rw [if_pos rfl] at H; exact H
     clear H
     have H := H1
     clear H1
     obtain rfl := Option.some.inj H
     obtain ⟨hcz27_0, hcz27_1, hfz27_0, hfz27_1⟩ := blk2 BK340
     go_wp2_with (first | (go_at_call 24; (with_reducible refine (rickyardref15_Fits.calls k1 _ _ l0_0 a0_1 _ _ l2 true _ ?side1 ?side2 ?side3 ?side4 A25.out).mono ?_); (case side1 => exact cb1 HR0_0 HB); (case side2 => exact HC0_0.out); (case side3 => exact cb1 HR2 HB); (case side4 => exact HC2.out); rintro e w28 ⟨rfl, hb⟩; replace BK340 := blkB BK340 hb; replace HB := bs2 HB GE340 hb; (try clear hb)))
     repeat (go_quiet (fail); try go_wp2_with (first | (go_at_call 24; (with_reducible refine (rickyardref15_Fits.calls k1 _ _ l0_0 a0_1 _ _ l2 true _ ?side1 ?side2 ?side3 ?side4 A25.out).mono ?_); (case side1 => exact cb1 HR0_0 HB); (case side2 => exact HC0_0.out); (case side3 => exact cb1 HR2 HB); (case side4 => exact HC2.out); rintro e w28 ⟨rfl, hb⟩; replace BK340 := blkB BK340 hb; replace HB := bs2 HB GE340 hb; (try clear hb))))
     go_ret
     exact ⟨ret1, belB HB.out GE340.out⟩
    ·replace c26 := Bool.eq_false_iff.mpr c26
     subst c26
     have H1 : (some 3) = some r := by rw [if_neg (show ¬ (false = true) by decide)] at H; exact H
     clear H
     have H := H1
     clear H1
     obtain rfl := Option.some.inj H
     obtain ⟨hcz29_0, hcz29_1, hfz29_0, hfz29_1⟩ := blk2 BK340
     go_wp2_with (first | (go_at_call 24; (with_reducible refine (rickyardref15_Fits.calls k1 _ _ l0_0 a0_1 _ _ l2 false _ ?side1 ?side2 ?side3 ?side4 A25.out).mono ?_); (case side1 => exact cb1 HR0_0 HB); (case side2 => exact HC0_0.out); (case side3 => exact cb1 HR2 HB); (case side4 => exact HC2.out); rintro e w30 ⟨rfl, hb⟩; replace BK340 := blkB BK340 hb; replace HB := bs2 HB GE340 hb; (try clear hb)))
     repeat (go_quiet (fail); try go_wp2_with (first | (go_at_call 24; (with_reducible refine (rickyardref15_Fits.calls k1 _ _ l0_0 a0_1 _ _ l2 false _ ?side1 ?side2 ?side3 ?side4 A25.out).mono ?_); (case side1 => exact cb1 HR0_0 HB); (case side2 => exact HC0_0.out); (case side3 => exact cb1 HR2 HB); (case side4 => exact HC2.out); rintro e w30 ⟨rfl, hb⟩; replace BK340 := blkB BK340 hb; replace HB := bs2 HB GE340 hb; (try clear hb))))
     go_ret
     exact ⟨ret1, belB HB.out GE340.out⟩
end Go.Proofs.Ytjemmmemenljbaa.PFold
end
