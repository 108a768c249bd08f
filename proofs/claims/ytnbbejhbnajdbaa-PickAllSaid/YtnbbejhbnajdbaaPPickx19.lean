-- written by a program of this session, out of the translation
import Derived.Test.YtnbbejhbnajdbaaPPickx0
import Derived.Test.YtnbbejhbnajdbaaPPickx10
import Derived.Test.YtnbbejhbnajdbaaPPickx17
import Derived.Test.YtnbbejhbnajdbaaPickOffer
namespace Go.Proofs.Ytnbbejhbnajdbaa.PPick
open Go.RowKit Go.Proofs.YtnbbejhbnajdbaaW.PrintWords Go.Proofs.YtnbbejhbnajdbaaW.PrintLast Go.Proofs.YtnbbejhbnajdbaaW.PrintMore
attribute [local go_sem] max2_int min2_int max_two min_two max_three min_three max_four min_four   -- for this text's walks alone
set_option linter.unusedVariables false
set_option linter.unusedSimpArgs false

/-! ### rickyardlaw16_PickAll: function 5 -/
mutual
def rickyardlaw16_PickAll.j0 : Nat → List (S26) → Bool → Bool → List Int → Int → Option (Bool)
 | 0, _, _, _, _, _ => none
 | k + 1, x0, x4, x22, x383000, x383001 => if x22 = true then ((rickyardlaw16_alive.f).bind fun t383 => (if t383 = true then (some (!x4)) else (some false))) else (rickyardlaw16_PickAll.l0 k x0 (-1) 3 x383000 x383001)
def rickyardlaw16_PickAll.l0 : Nat → List (S26) → Int → Int → List Int → Int → Option (Bool)
 | 0, _, _, _, _, _ => none
 | k + 1, x0, x6, x7, x383000, x383001 => if x7 ≥ 0 then ((pick_Full.f k x0 x7).bind fun t384 => (if t384 = true then (rickyardlaw16_PickAll.l0 k x0 x7 (wrap64 (x7 - 1)) x383000 x383001) else (rickyardlaw16_PickAll.l0 k x0 x6 (wrap64 (x7 - 1)) x383000 x383001))) else (rickyardlaw16_PickAll.l1 k x0 x6 0 x383000 x383001)
def rickyardlaw16_PickAll.l1 : Nat → List (S26) → Int → Int → List Int → Int → Option (Bool)
 | 0, _, _, _, _, _ => none
 | k + 1, x0, x6, x8, x383000, x383001 => if x8 < (x0.length : Int) then (rickyardlaw16_PickAll.l2 k x0 x6 x8 false 0 x383000 x383001) else ((rickyardlaw16_alive.f).bind fun t385 => (if t385 = true then (if x6 ≥ 0 then (if x383001 = (wrap64 (x6 + 1)) then (some true) else (if x6 < 0 then (some ((x383000.length : Int) == 1)) else (some false))) else (if x6 < 0 then (some ((x383000.length : Int) == 1)) else (some false))) else (some false)))
def rickyardlaw16_PickAll.l2 : Nat → List (S26) → Int → Int → Bool → Int → List Int → Int → Option (Bool)
 | 0, _, _, _, _, _, _, _ => none
 | k + 1, x0, x6, x8, x9, x10, x383000, x383001 => if x10 < (x383000.length : Int) then (if x9 = true then (rickyardlaw16_PickAll.l2 k x0 x6 x8 true (wrap64 (x10 + 1)) x383000 x383001) else (if 0 ≤ x10 then (if 0 ≤ x8 then (if x8 < (x0.length : Int) then (rickyardlaw16_PickAll.l2 k x0 x6 x8 ((rd x383000 x10) == ((rd_T26 x0 x8).f0)) (wrap64 (x10 + 1)) x383000 x383001) else (none)) else (none)) else (none))) else (if x6 ≥ 0 then (if 0 ≤ x8 then (if x8 < (x0.length : Int) then (if ((rd_T26 x0 x8).f1) = x6 then (if (x9 != true) = true then (some false) else (if x6 < 0 then (if x9 = true then (if ((rd_T26 x0 x8).f3 = true) then (if ((rd_T26 x0 x8).f1) = x383001 then (rickyardlaw16_PickAll.l1 k x0 x6 (wrap64 (x8 + 1)) x383000 x383001) else (some false)) else (some false)) else (rickyardlaw16_PickAll.l1 k x0 x6 (wrap64 (x8 + 1)) x383000 x383001)) else (rickyardlaw16_PickAll.l1 k x0 x6 (wrap64 (x8 + 1)) x383000 x383001))) else (if (x9 != (((rd_T26 x0 x8).f1) == (wrap64 (x6 + 1)))) = true then (some false) else (if x6 < 0 then (if x9 = true then (if ((rd_T26 x0 x8).f3 = true) then (if ((rd_T26 x0 x8).f1) = x383001 then (rickyardlaw16_PickAll.l1 k x0 x6 (wrap64 (x8 + 1)) x383000 x383001) else (some false)) else (some false)) else (rickyardlaw16_PickAll.l1 k x0 x6 (wrap64 (x8 + 1)) x383000 x383001)) else (rickyardlaw16_PickAll.l1 k x0 x6 (wrap64 (x8 + 1)) x383000 x383001)))) else (none)) else (none)) else (if x6 < 0 then (if x9 = true then (if 0 ≤ x8 then (if x8 < (x0.length : Int) then (if ((rd_T26 x0 x8).f3 = true) then (if ((rd_T26 x0 x8).f1) = x383001 then (rickyardlaw16_PickAll.l1 k x0 x6 (wrap64 (x8 + 1)) x383000 x383001) else (some false)) else (some false)) else (none)) else (none)) else (rickyardlaw16_PickAll.l1 k x0 x6 (wrap64 (x8 + 1)) x383000 x383001)) else (rickyardlaw16_PickAll.l1 k x0 x6 (wrap64 (x8 + 1)) x383000 x383001)))
end
def rickyardlaw16_PickAll.f (k : Nat) (l0 : List (S26)) : Option (Bool) := (pick_Offer.f l0).bind fun bt376 => (if bt376.2.2.2 = 0 then (rickyardlaw16_PickAll.j0 k l0 bt376.2.2.1 (!bt376.2.2.1) bt376.1 bt376.2.1) else (rickyardlaw16_PickAll.j0 k l0 bt376.2.2.1 true bt376.1 bt376.2.1))
theorem rickyardlaw16_PickAll.mono_l : ∀ k, (∀ y0 y1 y2 y3 y4, LeO (rickyardlaw16_PickAll.j0 k y0 y1 y2 y3 y4) (rickyardlaw16_PickAll.j0 (k + 1) y0 y1 y2 y3 y4)) ∧ (∀ y0 y1 y2 y3 y4, LeO (rickyardlaw16_PickAll.l0 k y0 y1 y2 y3 y4) (rickyardlaw16_PickAll.l0 (k + 1) y0 y1 y2 y3 y4)) ∧ (∀ y0 y1 y2 y3 y4, LeO (rickyardlaw16_PickAll.l1 k y0 y1 y2 y3 y4) (rickyardlaw16_PickAll.l1 (k + 1) y0 y1 y2 y3 y4)) ∧ (∀ y0 y1 y2 y3 y4 y5 y6, LeO (rickyardlaw16_PickAll.l2 k y0 y1 y2 y3 y4 y5 y6) (rickyardlaw16_PickAll.l2 (k + 1) y0 y1 y2 y3 y4 y5 y6))
 | 0 => ⟨fun _ _ _ _ _ r h => by simp [rickyardlaw16_PickAll.j0] at h, fun _ _ _ _ _ r h => by simp [rickyardlaw16_PickAll.l0] at h, fun _ _ _ _ _ r h => by simp [rickyardlaw16_PickAll.l1] at h, fun _ _ _ _ _ _ _ r h => by simp [rickyardlaw16_PickAll.l2] at h⟩
 | k + 1 => by
  obtain ⟨ih0, ih1, ih2, ih3⟩ := rickyardlaw16_PickAll.mono_l k
  refine ⟨?_, ?_, ?_, ?_⟩
  ·intro y0 y1 y2 y3 y4
   unfold rickyardlaw16_PickAll.j0
   repeat' first
   | (with_reducible exact ih0 _ _ _ _ _)
   | (with_reducible exact ih1 _ _ _ _ _)
   | (with_reducible exact ih2 _ _ _ _ _)
   | (with_reducible exact ih3 _ _ _ _ _ _ _)
   | (with_reducible exact pick_Full.mono _ _ _)
   | (with_reducible exact LeO.refl _)
   | (with_reducible exact LeO.none _)
   | (with_reducible refine LeO.ite ?_ ?_)
   | (with_reducible refine LeO.bind ?_ (fun _ => ?_))
   | exact ih0 _ _ _ _ _
   | exact ih1 _ _ _ _ _
   | exact ih2 _ _ _ _ _
   | exact ih3 _ _ _ _ _ _ _
   | exact pick_Full.mono _ _ _
   | exact LeO.none _
   | refine LeO.ite ?_ ?_
   | refine LeO.bind ?_ (fun _ => ?_)
  ·intro y0 y1 y2 y3 y4
   unfold rickyardlaw16_PickAll.l0
   repeat' first
   | (with_reducible exact ih0 _ _ _ _ _)
   | (with_reducible exact ih1 _ _ _ _ _)
   | (with_reducible exact ih2 _ _ _ _ _)
   | (with_reducible exact ih3 _ _ _ _ _ _ _)
   | (with_reducible exact pick_Full.mono _ _ _)
   | (with_reducible exact LeO.refl _)
   | (with_reducible exact LeO.none _)
   | (with_reducible refine LeO.ite ?_ ?_)
   | (with_reducible refine LeO.bind ?_ (fun _ => ?_))
   | exact ih0 _ _ _ _ _
   | exact ih1 _ _ _ _ _
   | exact ih2 _ _ _ _ _
   | exact ih3 _ _ _ _ _ _ _
   | exact pick_Full.mono _ _ _
   | exact LeO.none _
   | refine LeO.ite ?_ ?_
   | refine LeO.bind ?_ (fun _ => ?_)
  ·intro y0 y1 y2 y3 y4
   unfold rickyardlaw16_PickAll.l1
   repeat' first
   | (with_reducible exact ih0 _ _ _ _ _)
   | (with_reducible exact ih1 _ _ _ _ _)
   | (with_reducible exact ih2 _ _ _ _ _)
   | (with_reducible exact ih3 _ _ _ _ _ _ _)
   | (with_reducible exact pick_Full.mono _ _ _)
   | (with_reducible exact LeO.refl _)
   | (with_reducible exact LeO.none _)
   | (with_reducible refine LeO.ite ?_ ?_)
   | (with_reducible refine LeO.bind ?_ (fun _ => ?_))
   | exact ih0 _ _ _ _ _
   | exact ih1 _ _ _ _ _
   | exact ih2 _ _ _ _ _
   | exact ih3 _ _ _ _ _ _ _
   | exact pick_Full.mono _ _ _
   | exact LeO.none _
   | refine LeO.ite ?_ ?_
   | refine LeO.bind ?_ (fun _ => ?_)
  ·intro y0 y1 y2 y3 y4 y5 y6
   unfold rickyardlaw16_PickAll.l2
   repeat' first
   | (with_reducible exact ih0 _ _ _ _ _)
   | (with_reducible exact ih1 _ _ _ _ _)
   | (with_reducible exact ih2 _ _ _ _ _)
   | (with_reducible exact ih3 _ _ _ _ _ _ _)
   | (with_reducible exact pick_Full.mono _ _ _)
   | (with_reducible exact LeO.refl _)
   | (with_reducible exact LeO.none _)
   | (with_reducible refine LeO.ite ?_ ?_)
   | (with_reducible refine LeO.bind ?_ (fun _ => ?_))
   | exact ih0 _ _ _ _ _
   | exact ih1 _ _ _ _ _
   | exact ih2 _ _ _ _ _
   | exact ih3 _ _ _ _ _ _ _
   | exact pick_Full.mono _ _ _
   | exact LeO.none _
   | refine LeO.ite ?_ ?_
   | refine LeO.bind ?_ (fun _ => ?_)
theorem rickyardlaw16_PickAll.mono : ∀ a0 k, LeO (rickyardlaw16_PickAll.f k a0) (rickyardlaw16_PickAll.f (k + 1) a0) := by
 intro a0 k
 obtain ⟨ih0, ih1, ih2, ih3⟩ := rickyardlaw16_PickAll.mono_l k
 unfold rickyardlaw16_PickAll.f
 repeat' first
   | (with_reducible exact ih0 _ _ _ _ _)
   | (with_reducible exact ih1 _ _ _ _ _)
   | (with_reducible exact ih2 _ _ _ _ _)
   | (with_reducible exact ih3 _ _ _ _ _ _ _)
   | (with_reducible exact pick_Full.mono _ _ _)
   | (with_reducible exact LeO.refl _)
   | (with_reducible exact LeO.none _)
   | (with_reducible refine LeO.ite ?_ ?_)
   | (with_reducible refine LeO.bind ?_ (fun _ => ?_))
   | exact ih0 _ _ _ _ _
   | exact ih1 _ _ _ _ _
   | exact ih2 _ _ _ _ _
   | exact ih3 _ _ _ _ _ _ _
   | exact pick_Full.mono _ _ _
   | exact LeO.none _
   | refine LeO.ite ?_ ?_
   | refine LeO.bind ?_ (fun _ => ?_)
set_option maxHeartbeats 8000000 in
set_option maxRecDepth 100000 in
theorem rickyardlaw16_PickAll.calls (k : Nat) (A0 : Option Addr) (c0 : Nat) (l0 : List (S26)) (r : Bool) (w : World) (hr0 : Kd.C k26 w A0 l0.length l0) (hc0 : l0.length ≤ c0) (h : rickyardlaw16_PickAll.f k l0 = some r) :
  Calls Try.prog 5 #[.slice A0 l0.length c0] w fun e w' => e = .returned (.bool r) ∧ Below w.heap.size w w' := by
 have hu29 := Try.underlying29
 have HR0 := Aside0.mk hr0
 have HC0 := Aside0.mk hc0
 clear hr0 hc0
 have HB := Aside0.mk (Below.refl w.heap.size w)
 have H : ((pick_Offer.f l0).bind fun bt376 => (if bt376.2.2.2 = 0 then (rickyardlaw16_PickAll.j0 k l0 bt376.2.2.1 (!bt376.2.2.1) bt376.1 bt376.2.1) else (rickyardlaw16_PickAll.j0 k l0 bt376.2.2.1 true bt376.1 bt376.2.1))) = some r := h
 clear h
 replace H := Option.bind_eq_some_iff.mp H
 obtain ⟨⟨t376, t379, t380, t381⟩, A20, H⟩ := H
 replace H : (if t381 = 0 then (rickyardlaw16_PickAll.j0 k l0 t380 (!t380) t376 t379) else (rickyardlaw16_PickAll.j0 k l0 t380 true t376 t379)) = some r := H
 have A2 := Aside0.mk A20
 clear A20
 have HC3 := Aside0.mk H
 clear H
 go_enter Try.func5, Try.ntmps5
 go_upto_region 2 with (first | (go_at_call 11; (with_reducible refine (pick_Offer.calls _ _ l0 t376 t379 t380 t381 _ ?side1 ?side2 A2.out).mono ?_); (case side1 => repeat (first | exact HR0.out | (with_reducible refine Kd.C_alloc ?_ _) | (with_reducible refine Kd.C_drewN ?_ _) | (with_reducible refine Kd.C_drew ?_))); (case side2 => exact HC0.out); rintro e w4 ⟨v377, rfl, ho0, hb⟩; have n0_ := Aside0.mk (Kd.R_lower ho0 (below_size (by repeat (first | (with_reducible first | exact HB.out | apply below_alloc | apply pw_below_drewN | apply below_drew1) | exact HB.out)))); have n1_ := Aside0.mk (below_step (by repeat (first | (with_reducible first | exact HB.out | apply below_alloc | apply pw_below_drewN | apply below_drew1) | exact HB.out)) hb); clear HB; have HO378 := n0_; have HB := n1_; clear n0_ n1_; (try clear hb); (try clear hb2); (try clear hk); (try clear hi); (try clear ho0)) | ((with_reducible refine gate_dst (N := 3) rfl ?_); (try (refine gate_guard (by rfl) ?_; dsimp only)); refine box_event ?hg (N := 3) ?hd (cs := #[.slice none 0 0, .int .i64 0]) (t := 29) ?hr ?_; (case hd => rfl); (case hg => rfl); (case hr => first | (go_simp; done) | (go_simp; rfl)); intro gb382 hg w5 hbox hb; have n0_ := Aside0.mk (Kd.R_below (by (with_reducible repeat (first | apply Kd.R_alloc | apply Kd.R_drewN | apply Kd.R_drew)); exact HO378.out) hb); have n1_ := Aside0.mk (below_step (by repeat (first | (with_reducible first | exact HB.out | apply below_alloc | apply pw_below_drewN | apply below_drew1) | exact HB.out)) hb); have n2_ := Aside0.mk (hbox); have n3_ := Aside0.mk ((by rw [hg]; exact (below_size (by repeat (first | (with_reducible first | exact HB.out | apply below_alloc | apply pw_below_drewN | apply below_drew1) | exact HB.out))) : w.heap.size ≤ gb382)); have n4_ := Aside0.mk ((by rw [hg]; exact (below_size (by repeat (first | (with_reducible first | exact HB.out | apply below_alloc | apply pw_below_drewN | apply below_drew1) | exact HB.out))) : w.heap.size ≤ gb382)); clear HO378; clear HB; have HO378 := n0_; have HB := n1_; have BK382 := n2_; have GW382 := n3_; have GE382 := n4_; clear n0_ n1_ n2_ n3_ n4_; clear hb hbox hg; obtain ⟨Ao6, co6, eo6⟩ := Kd.R_slice HO378.out; subst eo6; have hcz7_0 : w5.cell? ⟨gb382, 0, none⟩ = some (.slice none 0 0) := (blk_cell BK382.out 0).trans rfl; have hcz7_1 : w5.cell? ⟨gb382, 1, none⟩ = some (.int .i64 0) := (blk_cell BK382.out 1).trans rfl; have hfz7_0 := blk_frozen BK382.out 0; have hfz7_1 := blk_frozen BK382.out 1))
 repeat (go_quiet (first | (go_at_call 11; (with_reducible refine (pick_Offer.calls _ _ l0 t376 t379 t380 t381 _ ?side1 ?side2 A2.out).mono ?_); (case side1 => repeat (first | exact HR0.out | (with_reducible refine Kd.C_alloc ?_ _) | (with_reducible refine Kd.C_drewN ?_ _) | (with_reducible refine Kd.C_drew ?_))); (case side2 => exact HC0.out); rintro e w4 ⟨v377, rfl, ho0, hb⟩; have n0_ := Aside0.mk (Kd.R_lower ho0 (below_size (by repeat (first | (with_reducible first | exact HB.out | apply below_alloc | apply pw_below_drewN | apply below_drew1) | exact HB.out)))); have n1_ := Aside0.mk (below_step (by repeat (first | (with_reducible first | exact HB.out | apply below_alloc | apply pw_below_drewN | apply below_drew1) | exact HB.out)) hb); clear HB; have HO378 := n0_; have HB := n1_; clear n0_ n1_; (try clear hb); (try clear hb2); (try clear hk); (try clear hi); (try clear ho0)) | ((with_reducible refine gate_dst (N := 3) rfl ?_); (try (refine gate_guard (by rfl) ?_; dsimp only)); refine box_event ?hg (N := 3) ?hd (cs := #[.slice none 0 0, .int .i64 0]) (t := 29) ?hr ?_; (case hd => rfl); (case hg => rfl); (case hr => first | (go_simp; done) | (go_simp; rfl)); intro gb382 hg w5 hbox hb; have n0_ := Aside0.mk (Kd.R_below (by (with_reducible repeat (first | apply Kd.R_alloc | apply Kd.R_drewN | apply Kd.R_drew)); exact HO378.out) hb); have n1_ := Aside0.mk (below_step (by repeat (first | (with_reducible first | exact HB.out | apply below_alloc | apply pw_below_drewN | apply below_drew1) | exact HB.out)) hb); have n2_ := Aside0.mk (hbox); have n3_ := Aside0.mk ((by rw [hg]; exact (below_size (by repeat (first | (with_reducible first | exact HB.out | apply below_alloc | apply pw_below_drewN | apply below_drew1) | exact HB.out))) : w.heap.size ≤ gb382)); have n4_ := Aside0.mk ((by rw [hg]; exact (below_size (by repeat (first | (with_reducible first | exact HB.out | apply below_alloc | apply pw_below_drewN | apply below_drew1) | exact HB.out))) : w.heap.size ≤ gb382)); clear HO378; clear HB; have HO378 := n0_; have HB := n1_; have BK382 := n2_; have GW382 := n3_; have GE382 := n4_; clear n0_ n1_ n2_ n3_ n4_; clear hb hbox hg; obtain ⟨Ao6, co6, eo6⟩ := Kd.R_slice HO378.out; subst eo6; have hcz7_0 : w5.cell? ⟨gb382, 0, none⟩ = some (.slice none 0 0) := (blk_cell BK382.out 0).trans rfl; have hcz7_1 : w5.cell? ⟨gb382, 1, none⟩ = some (.int .i64 0) := (blk_cell BK382.out 1).trans rfl; have hfz7_0 := blk_frozen BK382.out 0; have hfz7_1 := blk_frozen BK382.out 1)); go_upto_region 2 with (first | (go_at_call 11; (with_reducible refine (pick_Offer.calls _ _ l0 t376 t379 t380 t381 _ ?side1 ?side2 A2.out).mono ?_); (case side1 => repeat (first | exact HR0.out | (with_reducible refine Kd.C_alloc ?_ _) | (with_reducible refine Kd.C_drewN ?_ _) | (with_reducible refine Kd.C_drew ?_))); (case side2 => exact HC0.out); rintro e w4 ⟨v377, rfl, ho0, hb⟩; have n0_ := Aside0.mk (Kd.R_lower ho0 (below_size (by repeat (first | (with_reducible first | exact HB.out | apply below_alloc | apply pw_below_drewN | apply below_drew1) | exact HB.out)))); have n1_ := Aside0.mk (below_step (by repeat (first | (with_reducible first | exact HB.out | apply below_alloc | apply pw_below_drewN | apply below_drew1) | exact HB.out)) hb); clear HB; have HO378 := n0_; have HB := n1_; clear n0_ n1_; (try clear hb); (try clear hb2); (try clear hk); (try clear hi); (try clear ho0)) | ((with_reducible refine gate_dst (N := 3) rfl ?_); (try (refine gate_guard (by rfl) ?_; dsimp only)); refine box_event ?hg (N := 3) ?hd (cs := #[.slice none 0 0, .int .i64 0]) (t := 29) ?hr ?_; (case hd => rfl); (case hg => rfl); (case hr => first | (go_simp; done) | (go_simp; rfl)); intro gb382 hg w5 hbox hb; have n0_ := Aside0.mk (Kd.R_below (by (with_reducible repeat (first | apply Kd.R_alloc | apply Kd.R_drewN | apply Kd.R_drew)); exact HO378.out) hb); have n1_ := Aside0.mk (below_step (by repeat (first | (with_reducible first | exact HB.out | apply below_alloc | apply pw_below_drewN | apply below_drew1) | exact HB.out)) hb); have n2_ := Aside0.mk (hbox); have n3_ := Aside0.mk ((by rw [hg]; exact (below_size (by repeat (first | (with_reducible first | exact HB.out | apply below_alloc | apply pw_below_drewN | apply below_drew1) | exact HB.out))) : w.heap.size ≤ gb382)); have n4_ := Aside0.mk ((by rw [hg]; exact (below_size (by repeat (first | (with_reducible first | exact HB.out | apply below_alloc | apply pw_below_drewN | apply below_drew1) | exact HB.out))) : w.heap.size ≤ gb382)); clear HO378; clear HB; have HO378 := n0_; have HB := n1_; have BK382 := n2_; have GW382 := n3_; have GE382 := n4_; clear n0_ n1_ n2_ n3_ n4_; clear hb hbox hg; obtain ⟨Ao6, co6, eo6⟩ := Kd.R_slice HO378.out; subst eo6; have hcz7_0 : w5.cell? ⟨gb382, 0, none⟩ = some (.slice none 0 0) := (blk_cell BK382.out 0).trans rfl; have hcz7_1 : w5.cell? ⟨gb382, 1, none⟩ = some (.int .i64 0) := (blk_cell BK382.out 1).trans rfl; have hfz7_0 := blk_frozen BK382.out 0; have hfz7_1 := blk_frozen BK382.out 1)))
 (try simp only [Act.put, List.setIfInBounds_toArray, List.set_cons_zero, List.set_cons_succ])
 go_cut [22] (fun v22 wc => ∃ (kq : Nat) (x22_2 : Bool), v22 = .bool x22_2 ∧ Aside0 (rickyardlaw16_PickAll.j0 kq l0 t380 x22_2 t376 t379 = some r) ∧ Aside0 (kq ≤ k) ∧ Aside0 (Kd.R (Kd.int .i64) 3 wc w.heap.size (fun _ => True) (.slice Ao6 t376.length co6) t376) ∧ Aside0 (wc.heap[gb382]? = some (.cells #[(.slice Ao6 t376.length co6), .int .i64 t379] 29 (0, 0))) ∧ Aside0 (Below w.heap.size w wc))
 case first =>
  have H := HC3.out
  clear HC3
  by_cases c8 : t381 = 0
  ·rw [if_pos c8] at H
   have c8b0 : (t381 == 0) = true := beq_iff_eq.mpr c8
   have c8b1 : (t381 != 0) = false := bne_eq_false_iff_eq.mpr c8
   clear c8
   (first | rw [c8b0] | (simp only [i64_w, i32_w]; rw [c8b0]) | skip)
   have H' := Aside0.mk H
   clear H
   go_wp2
   repeat (go_quiet (fail); try go_wp2)
   go_meet
   case rel => exact ⟨_, (!t380), (by first | rfl | (simp; done) | (simp [*]; done)), H', ⟨by first | omega | exact Nat.le_refl _⟩, ⟨by (with_reducible repeat (first | apply Kd.R_alloc | apply Kd.R_drewN | apply Kd.R_drew)); exact Kd.R_mono (Kd.R_far (p := ⟨gb382, 1, none⟩) (Kd.R_far (p := ⟨gb382, 0, none⟩) (Kd.R_types HO378.out BK382.out (by decide)) (fun _ hk => hk.2) (.slice Ao6 t376.length co6)) (fun _ hk => hk.2) (.int .i64 t379)) (fun _ hk => trivial)⟩, ⟨by (with_reducible repeat (first | refine blk_drewN ?_ _ | refine blk_drew ?_ | refine blk_alloc ?_ _)); refine blk_put (cs := #[.slice Ao6 t376.length co6, .int .i64 0]) ?_ 1 _ rfl; (with_reducible repeat (first | refine blk_drewN ?_ _ | refine blk_drew ?_ | refine blk_alloc ?_ _)); refine blk_put (cs := #[.slice none 0 0, .int .i64 0]) ?_ 0 _ rfl; (with_reducible repeat (first | refine blk_drewN ?_ _ | refine blk_drew ?_ | refine blk_alloc ?_ _)); exact BK382.out⟩, ⟨by repeat (first | (with_reducible first | exact HB.out | apply below_alloc | apply pw_below_drewN | apply below_drew1 | refine below_set ?_ GE382.out) | exact HB.out)⟩⟩
  ·rw [if_neg c8] at H
   have c8b0 : (t381 == 0) = false := beq_eq_false_iff_ne.mpr c8
   have c8b1 : (t381 != 0) = true := bne_iff_ne.mpr c8
   (first | rw [c8b0] | (simp only [i64_w, i32_w]; rw [c8b0]) | skip)
   have H' := Aside0.mk H
   clear H
   go_wp2
   repeat (go_quiet (fail); try go_wp2)
   go_meet
   case rel => exact ⟨_, (true), (by first | rfl | (simp; done) | (simp [*]; done)), H', ⟨by first | omega | exact Nat.le_refl _⟩, ⟨by (with_reducible repeat (first | apply Kd.R_alloc | apply Kd.R_drewN | apply Kd.R_drew)); exact Kd.R_mono (Kd.R_far (p := ⟨gb382, 1, none⟩) (Kd.R_far (p := ⟨gb382, 0, none⟩) (Kd.R_types HO378.out BK382.out (by decide)) (fun _ hk => hk.2) (.slice Ao6 t376.length co6)) (fun _ hk => hk.2) (.int .i64 t379)) (fun _ hk => trivial)⟩, ⟨by (with_reducible repeat (first | refine blk_drewN ?_ _ | refine blk_drew ?_ | refine blk_alloc ?_ _)); refine blk_put (cs := #[.slice Ao6 t376.length co6, .int .i64 0]) ?_ 1 _ rfl; (with_reducible repeat (first | refine blk_drewN ?_ _ | refine blk_drew ?_ | refine blk_alloc ?_ _)); refine blk_put (cs := #[.slice none 0 0, .int .i64 0]) ?_ 0 _ rfl; (with_reducible repeat (first | refine blk_drewN ?_ _ | refine blk_drew ?_ | refine blk_alloc ?_ _)); exact BK382.out⟩, ⟨by repeat (first | (with_reducible first | exact HB.out | apply below_alloc | apply pw_below_drewN | apply below_drew1 | refine below_set ?_ GE382.out) | exact HB.out)⟩⟩
 case rest =>
  clear HC3
  try clear p2
  try clear c5
  try clear c8
  try clear c8b0
  try clear c8b1
  try clear hcz7_0
  try clear hcz7_1
  try clear hfz7_0
  try clear hfz7_1
  obtain ⟨kq, x22_2, rfl, HA, HJ2, HO_383000, BK382, HB⟩ := hcut
  cases kq with
  | zero => exact absurd HA.out (by simp [rickyardlaw16_PickAll.j0])
  | succ kj2 =>
   have H := HA.out
   clear HA
   simp only [rickyardlaw16_PickAll.j0] at H
   by_cases c9 : x22_2 = true
   ·subst c9
    have H1 : ((rickyardlaw16_alive.f).bind fun t383 => (if t383 = true then (some (!t380)) else (some false))) = some r := by rw [if_pos rfl] at H; exact H
    clear H
    have H := H1
    clear H1
    replace H := Option.bind_eq_some_iff.mp H
    obtain ⟨t383, A100, H⟩ := H
    replace H : (if t383 = true then (some (!t380)) else (some false)) = some r := H
    have A10 := Aside0.mk A100
    clear A100
    by_cases c11 : t383 = true
    ·subst c11
     have H1 : (some (!t380)) = some r := by rw [if_pos rfl] at H; exact H
     clear H
     have H := H1
     clear H1
     obtain rfl := Option.some.inj H
     go_wp2_with (first | (go_at_call 10; (with_reducible refine (rickyardlaw16_alive.calls  true _ A10.out).mono ?_); rintro e w12 ⟨rfl, hb⟩; have n0_ := Aside0.mk (Kd.R_below (by (with_reducible repeat (first | apply Kd.R_alloc | apply Kd.R_drewN | apply Kd.R_drew)); exact HO_383000.out) hb); have n1_ := Aside0.mk (blk_below (g := gb382) (o := .cells #[.slice Ao6 t376.length co6, .int .i64 t379] 29 (0, 0)) (by (with_reducible repeat (first | refine blk_drewN ?_ _ | refine blk_drew ?_ | refine blk_alloc ?_ _)); exact BK382.out) hb); have n2_ := Aside0.mk (below_step (by repeat (first | (with_reducible first | exact HB.out | apply below_alloc | apply pw_below_drewN | apply below_drew1 | refine below_set ?_ GE382.out) | exact HB.out)) hb); clear HO_383000; clear BK382; clear HB; have HO_383000 := n0_; have BK382 := n1_; have HB := n2_; clear n0_ n1_ n2_; (try clear hb); (try clear hb2); (try clear hk); (try clear hi)))
     repeat (go_quiet (first | (go_at_call 10; (with_reducible refine (rickyardlaw16_alive.calls  true _ A10.out).mono ?_); rintro e w12 ⟨rfl, hb⟩; have n0_ := Aside0.mk (Kd.R_below (by (with_reducible repeat (first | apply Kd.R_alloc | apply Kd.R_drewN | apply Kd.R_drew)); exact HO_383000.out) hb); have n1_ := Aside0.mk (blk_below (g := gb382) (o := .cells #[.slice Ao6 t376.length co6, .int .i64 t379] 29 (0, 0)) (by (with_reducible repeat (first | refine blk_drewN ?_ _ | refine blk_drew ?_ | refine blk_alloc ?_ _)); exact BK382.out) hb); have n2_ := Aside0.mk (below_step (by repeat (first | (with_reducible first | exact HB.out | apply below_alloc | apply pw_below_drewN | apply below_drew1 | refine below_set ?_ GE382.out) | exact HB.out)) hb); clear HO_383000; clear BK382; clear HB; have HO_383000 := n0_; have BK382 := n1_; have HB := n2_; clear n0_ n1_ n2_; (try clear hb); (try clear hb2); (try clear hk); (try clear hi))); try go_wp2_with (first | (go_at_call 10; (with_reducible refine (rickyardlaw16_alive.calls  true _ A10.out).mono ?_); rintro e w12 ⟨rfl, hb⟩; have n0_ := Aside0.mk (Kd.R_below (by (with_reducible repeat (first | apply Kd.R_alloc | apply Kd.R_drewN | apply Kd.R_drew)); exact HO_383000.out) hb); have n1_ := Aside0.mk (blk_below (g := gb382) (o := .cells #[.slice Ao6 t376.length co6, .int .i64 t379] 29 (0, 0)) (by (with_reducible repeat (first | refine blk_drewN ?_ _ | refine blk_drew ?_ | refine blk_alloc ?_ _)); exact BK382.out) hb); have n2_ := Aside0.mk (below_step (by repeat (first | (with_reducible first | exact HB.out | apply below_alloc | apply pw_below_drewN | apply below_drew1 | refine below_set ?_ GE382.out) | exact HB.out)) hb); clear HO_383000; clear BK382; clear HB; have HO_383000 := n0_; have BK382 := n1_; have HB := n2_; clear n0_ n1_ n2_; (try clear hb); (try clear hb2); (try clear hk); (try clear hi))))
     go_ret
     exact ⟨by first | rfl | (simp [errW_none, errW_some] <;> rfl) | (simp [*, errW_none, errW_some] <;> rfl) | (exfalso; simp_all; done), by repeat (first | (with_reducible first | exact HB.out | apply below_alloc | apply pw_below_drewN | apply below_drew1 | refine below_set ?_ GE382.out) | exact HB.out)⟩
    ·replace c11 := Bool.eq_false_iff.mpr c11
     subst c11
     have H1 : (some false) = some r := by rw [if_neg (show ¬ (false = true) by decide)] at H; exact H
     clear H
     have H := H1
     clear H1
     obtain rfl := Option.some.inj H
     go_wp2_with (first | (go_at_call 10; (with_reducible refine (rickyardlaw16_alive.calls  false _ A10.out).mono ?_); rintro e w13 ⟨rfl, hb⟩; have n0_ := Aside0.mk (Kd.R_below (by (with_reducible repeat (first | apply Kd.R_alloc | apply Kd.R_drewN | apply Kd.R_drew)); exact HO_383000.out) hb); have n1_ := Aside0.mk (blk_below (g := gb382) (o := .cells #[.slice Ao6 t376.length co6, .int .i64 t379] 29 (0, 0)) (by (with_reducible repeat (first | refine blk_drewN ?_ _ | refine blk_drew ?_ | refine blk_alloc ?_ _)); exact BK382.out) hb); have n2_ := Aside0.mk (below_step (by repeat (first | (with_reducible first | exact HB.out | apply below_alloc | apply pw_below_drewN | apply below_drew1 | refine below_set ?_ GE382.out) | exact HB.out)) hb); clear HO_383000; clear BK382; clear HB; have HO_383000 := n0_; have BK382 := n1_; have HB := n2_; clear n0_ n1_ n2_; (try clear hb); (try clear hb2); (try clear hk); (try clear hi)))
     repeat (go_quiet (first | (go_at_call 10; (with_reducible refine (rickyardlaw16_alive.calls  false _ A10.out).mono ?_); rintro e w13 ⟨rfl, hb⟩; have n0_ := Aside0.mk (Kd.R_below (by (with_reducible repeat (first | apply Kd.R_alloc | apply Kd.R_drewN | apply Kd.R_drew)); exact HO_383000.out) hb); have n1_ := Aside0.mk (blk_below (g := gb382) (o := .cells #[.slice Ao6 t376.length co6, .int .i64 t379] 29 (0, 0)) (by (with_reducible repeat (first | refine blk_drewN ?_ _ | refine blk_drew ?_ | refine blk_alloc ?_ _)); exact BK382.out) hb); have n2_ := Aside0.mk (below_step (by repeat (first | (with_reducible first | exact HB.out | apply below_alloc | apply pw_below_drewN | apply below_drew1 | refine below_set ?_ GE382.out) | exact HB.out)) hb); clear HO_383000; clear BK382; clear HB; have HO_383000 := n0_; have BK382 := n1_; have HB := n2_; clear n0_ n1_ n2_; (try clear hb); (try clear hb2); (try clear hk); (try clear hi))); try go_wp2_with (first | (go_at_call 10; (with_reducible refine (rickyardlaw16_alive.calls  false _ A10.out).mono ?_); rintro e w13 ⟨rfl, hb⟩; have n0_ := Aside0.mk (Kd.R_below (by (with_reducible repeat (first | apply Kd.R_alloc | apply Kd.R_drewN | apply Kd.R_drew)); exact HO_383000.out) hb); have n1_ := Aside0.mk (blk_below (g := gb382) (o := .cells #[.slice Ao6 t376.length co6, .int .i64 t379] 29 (0, 0)) (by (with_reducible repeat (first | refine blk_drewN ?_ _ | refine blk_drew ?_ | refine blk_alloc ?_ _)); exact BK382.out) hb); have n2_ := Aside0.mk (below_step (by repeat (first | (with_reducible first | exact HB.out | apply below_alloc | apply pw_below_drewN | apply below_drew1 | refine below_set ?_ GE382.out) | exact HB.out)) hb); clear HO_383000; clear BK382; clear HB; have HO_383000 := n0_; have BK382 := n1_; have HB := n2_; clear n0_ n1_ n2_; (try clear hb); (try clear hb2); (try clear hk); (try clear hi))))
     go_ret
     exact ⟨by first | rfl | (simp [errW_none, errW_some] <;> rfl) | (simp [*, errW_none, errW_some] <;> rfl) | (exfalso; simp_all; done), by repeat (first | (with_reducible first | exact HB.out | apply below_alloc | apply pw_below_drewN | apply below_drew1 | refine below_set ?_ GE382.out) | exact HB.out)⟩
   ·replace c9 := Bool.eq_false_iff.mpr c9
    subst c9
    have H1 : (rickyardlaw16_PickAll.l0 kj2 l0 (-1) 3 t376 t379) = some r := by rw [if_neg (show ¬ (false = true) by decide)] at H; exact H
    clear H
    have H := H1
    clear H1
    have H' := Aside0.mk H
    clear H
    go_wp2
    repeat (go_quiet (fail); try go_wp2)
    go_loopg [6, 7] kj2 (fun kq v6 v7 w' => ∃ (x6_2 : Int) (x7_2 : Int), v6 = .int .i64 x6_2 ∧ v7 = .int .i64 x7_2 ∧ Aside0 (rickyardlaw16_PickAll.l0 kq l0 x6_2 x7_2 t376 t379 = some r) ∧ Aside0 (kq ≤ kj2) ∧ Aside0 (Kd.R (Kd.int .i64) 3 w' w.heap.size (fun _ => True) (.slice Ao6 t376.length co6) t376) ∧ Aside0 (w'.heap[gb382]? = some (.cells #[(.slice Ao6 t376.length co6), .int .i64 t379] 29 (0, 0))) ∧ Aside0 (Below w.heap.size w w'))
    case atStart => exact ⟨((-1)), (3), (by first | rfl | (simp; done) | (simp [*]; done)), (by first | rfl | (simp; done) | (simp [*]; done)), H', ⟨Nat.le_refl _⟩, ⟨by (with_reducible repeat (first | apply Kd.R_alloc | apply Kd.R_drewN | apply Kd.R_drew)); exact HO_383000.out⟩, ⟨by (with_reducible repeat (first | refine blk_drewN ?_ _ | refine blk_drew ?_ | refine blk_alloc ?_ _)); exact BK382.out⟩, ⟨by repeat (first | (with_reducible first | exact HB.out | apply below_alloc | apply pw_below_drewN | apply below_drew1 | refine below_set ?_ GE382.out) | exact HB.out)⟩⟩
    case round =>
     clear H'
     try clear c1
     try clear p2
     try clear c5
     try clear c8
     try clear c8b0
     try clear c8b1
     try clear c9
     try clear c11
     try clear hcz7_0
     try clear hcz7_1
     try clear hfz7_0
     try clear hfz7_1
     try clear p2
     obtain ⟨x6_2, x7_2, rfl, rfl, HA, HK2, HO_383000, BK382, HB⟩ := hrel
     cases gk with
     | zero => exact absurd HA.out (by simp [rickyardlaw16_PickAll.l0])
     | succ k2 =>
      have H := HA.out
      clear HA
      simp only [rickyardlaw16_PickAll.l0] at H
      by_cases c14 : x7_2 ≥ 0
      ·rw [if_pos c14] at H
       have c14b0 : decide (0 ≤ x7_2) = true := decide_eq_true c14
       clear c14
       replace H := Option.bind_eq_some_iff.mp H
       obtain ⟨t384, A150, H⟩ := H
       replace H : (if t384 = true then (rickyardlaw16_PickAll.l0 k2 l0 x7_2 (wrap64 (x7_2 - 1)) t376 t379) else (rickyardlaw16_PickAll.l0 k2 l0 x6_2 (wrap64 (x7_2 - 1)) t376 t379)) = some r := H
       have A15 := Aside0.mk A150
       clear A150
       by_cases c16 : t384 = true
       ·subst c16
        have H1 : (rickyardlaw16_PickAll.l0 k2 l0 x7_2 (wrap64 (x7_2 - 1)) t376 t379) = some r := by rw [if_pos rfl] at H; exact H
        clear H
        have H := H1
        clear H1
        have H' := Aside0.mk H
        clear H
        go_wp2_with (first | (go_at_call 15; (with_reducible refine (pick_Full.calls k2 _ _ l0 x7_2 true _ ?side1 ?side2 A15.out).mono ?_); (case side1 => repeat (first | exact (Kd.C_below HR0.out HB.out) | (with_reducible refine Kd.C_alloc ?_ _) | (with_reducible refine Kd.C_drewN ?_ _) | (with_reducible refine Kd.C_drew ?_))); (case side2 => exact HC0.out); rintro e w17 ⟨rfl, hb⟩; have n0_ := Aside0.mk (Kd.R_below (by (with_reducible repeat (first | apply Kd.R_alloc | apply Kd.R_drewN | apply Kd.R_drew)); exact HO_383000.out) hb); have n1_ := Aside0.mk (blk_below (g := gb382) (o := .cells #[.slice Ao6 t376.length co6, .int .i64 t379] 29 (0, 0)) (by (with_reducible repeat (first | refine blk_drewN ?_ _ | refine blk_drew ?_ | refine blk_alloc ?_ _)); exact BK382.out) hb); have n2_ := Aside0.mk (below_step (by repeat (first | (with_reducible first | exact HB.out | apply below_alloc | apply pw_below_drewN | apply below_drew1 | refine below_set ?_ GE382.out) | exact HB.out)) hb); clear HO_383000; clear BK382; clear HB; have HO_383000 := n0_; have BK382 := n1_; have HB := n2_; clear n0_ n1_ n2_; (try clear hb); (try clear hb2); (try clear hk); (try clear hi)))
        repeat (go_quiet (first | (go_at_call 15; (with_reducible refine (pick_Full.calls k2 _ _ l0 x7_2 true _ ?side1 ?side2 A15.out).mono ?_); (case side1 => repeat (first | exact (Kd.C_below HR0.out HB.out) | (with_reducible refine Kd.C_alloc ?_ _) | (with_reducible refine Kd.C_drewN ?_ _) | (with_reducible refine Kd.C_drew ?_))); (case side2 => exact HC0.out); rintro e w17 ⟨rfl, hb⟩; have n0_ := Aside0.mk (Kd.R_below (by (with_reducible repeat (first | apply Kd.R_alloc | apply Kd.R_drewN | apply Kd.R_drew)); exact HO_383000.out) hb); have n1_ := Aside0.mk (blk_below (g := gb382) (o := .cells #[.slice Ao6 t376.length co6, .int .i64 t379] 29 (0, 0)) (by (with_reducible repeat (first | refine blk_drewN ?_ _ | refine blk_drew ?_ | refine blk_alloc ?_ _)); exact BK382.out) hb); have n2_ := Aside0.mk (below_step (by repeat (first | (with_reducible first | exact HB.out | apply below_alloc | apply pw_below_drewN | apply below_drew1 | refine below_set ?_ GE382.out) | exact HB.out)) hb); clear HO_383000; clear BK382; clear HB; have HO_383000 := n0_; have BK382 := n1_; have HB := n2_; clear n0_ n1_ n2_; (try clear hb); (try clear hb2); (try clear hk); (try clear hi))); try go_wp2_with (first | (go_at_call 15; (with_reducible refine (pick_Full.calls k2 _ _ l0 x7_2 true _ ?side1 ?side2 A15.out).mono ?_); (case side1 => repeat (first | exact (Kd.C_below HR0.out HB.out) | (with_reducible refine Kd.C_alloc ?_ _) | (with_reducible refine Kd.C_drewN ?_ _) | (with_reducible refine Kd.C_drew ?_))); (case side2 => exact HC0.out); rintro e w17 ⟨rfl, hb⟩; have n0_ := Aside0.mk (Kd.R_below (by (with_reducible repeat (first | apply Kd.R_alloc | apply Kd.R_drewN | apply Kd.R_drew)); exact HO_383000.out) hb); have n1_ := Aside0.mk (blk_below (g := gb382) (o := .cells #[.slice Ao6 t376.length co6, .int .i64 t379] 29 (0, 0)) (by (with_reducible repeat (first | refine blk_drewN ?_ _ | refine blk_drew ?_ | refine blk_alloc ?_ _)); exact BK382.out) hb); have n2_ := Aside0.mk (below_step (by repeat (first | (with_reducible first | exact HB.out | apply below_alloc | apply pw_below_drewN | apply below_drew1 | refine below_set ?_ GE382.out) | exact HB.out)) hb); clear HO_383000; clear BK382; clear HB; have HO_383000 := n0_; have BK382 := n1_; have HB := n2_; clear n0_ n1_ n2_; (try clear hb); (try clear hb2); (try clear hk); (try clear hi))))
        go_roundg k2
        case measure => have := HJ2.out; have := HK2.out; omega
        case rel => exact ⟨(x7_2), (wrap64 (x7_2 - 1)), (by first | rfl | (simp; done) | (simp [*]; done)), (by first | rfl | (simp; done) | (simp [*]; done)), H', ⟨by have := HJ2.out; have := HK2.out; omega⟩, ⟨by (with_reducible repeat (first | apply Kd.R_alloc | apply Kd.R_drewN | apply Kd.R_drew)); exact HO_383000.out⟩, ⟨by (with_reducible repeat (first | refine blk_drewN ?_ _ | refine blk_drew ?_ | refine blk_alloc ?_ _)); exact BK382.out⟩, ⟨by repeat (first | (with_reducible first | exact HB.out | apply below_alloc | apply pw_below_drewN | apply below_drew1 | refine below_set ?_ GE382.out) | exact HB.out)⟩⟩
       ·replace c16 := Bool.eq_false_iff.mpr c16
        subst c16
        have H1 : (rickyardlaw16_PickAll.l0 k2 l0 x6_2 (wrap64 (x7_2 - 1)) t376 t379) = some r := by rw [if_neg (show ¬ (false = true) by decide)] at H; exact H
        clear H
        have H := H1
        clear H1
        have H' := Aside0.mk H
        clear H
        go_wp2_with (first | (go_at_call 15; (with_reducible refine (pick_Full.calls k2 _ _ l0 x7_2 false _ ?side1 ?side2 A15.out).mono ?_); (case side1 => repeat (first | exact (Kd.C_below HR0.out HB.out) | (with_reducible refine Kd.C_alloc ?_ _) | (with_reducible refine Kd.C_drewN ?_ _) | (with_reducible refine Kd.C_drew ?_))); (case side2 => exact HC0.out); rintro e w18 ⟨rfl, hb⟩; have n0_ := Aside0.mk (Kd.R_below (by (with_reducible repeat (first | apply Kd.R_alloc | apply Kd.R_drewN | apply Kd.R_drew)); exact HO_383000.out) hb); have n1_ := Aside0.mk (blk_below (g := gb382) (o := .cells #[.slice Ao6 t376.length co6, .int .i64 t379] 29 (0, 0)) (by (with_reducible repeat (first | refine blk_drewN ?_ _ | refine blk_drew ?_ | refine blk_alloc ?_ _)); exact BK382.out) hb); have n2_ := Aside0.mk (below_step (by repeat (first | (with_reducible first | exact HB.out | apply below_alloc | apply pw_below_drewN | apply below_drew1 | refine below_set ?_ GE382.out) | exact HB.out)) hb); clear HO_383000; clear BK382; clear HB; have HO_383000 := n0_; have BK382 := n1_; have HB := n2_; clear n0_ n1_ n2_; (try clear hb); (try clear hb2); (try clear hk); (try clear hi)))
        repeat (go_quiet (first | (go_at_call 15; (with_reducible refine (pick_Full.calls k2 _ _ l0 x7_2 false _ ?side1 ?side2 A15.out).mono ?_); (case side1 => repeat (first | exact (Kd.C_below HR0.out HB.out) | (with_reducible refine Kd.C_alloc ?_ _) | (with_reducible refine Kd.C_drewN ?_ _) | (with_reducible refine Kd.C_drew ?_))); (case side2 => exact HC0.out); rintro e w18 ⟨rfl, hb⟩; have n0_ := Aside0.mk (Kd.R_below (by (with_reducible repeat (first | apply Kd.R_alloc | apply Kd.R_drewN | apply Kd.R_drew)); exact HO_383000.out) hb); have n1_ := Aside0.mk (blk_below (g := gb382) (o := .cells #[.slice Ao6 t376.length co6, .int .i64 t379] 29 (0, 0)) (by (with_reducible repeat (first | refine blk_drewN ?_ _ | refine blk_drew ?_ | refine blk_alloc ?_ _)); exact BK382.out) hb); have n2_ := Aside0.mk (below_step (by repeat (first | (with_reducible first | exact HB.out | apply below_alloc | apply pw_below_drewN | apply below_drew1 | refine below_set ?_ GE382.out) | exact HB.out)) hb); clear HO_383000; clear BK382; clear HB; have HO_383000 := n0_; have BK382 := n1_; have HB := n2_; clear n0_ n1_ n2_; (try clear hb); (try clear hb2); (try clear hk); (try clear hi))); try go_wp2_with (first | (go_at_call 15; (with_reducible refine (pick_Full.calls k2 _ _ l0 x7_2 false _ ?side1 ?side2 A15.out).mono ?_); (case side1 => repeat (first | exact (Kd.C_below HR0.out HB.out) | (with_reducible refine Kd.C_alloc ?_ _) | (with_reducible refine Kd.C_drewN ?_ _) | (with_reducible refine Kd.C_drew ?_))); (case side2 => exact HC0.out); rintro e w18 ⟨rfl, hb⟩; have n0_ := Aside0.mk (Kd.R_below (by (with_reducible repeat (first | apply Kd.R_alloc | apply Kd.R_drewN | apply Kd.R_drew)); exact HO_383000.out) hb); have n1_ := Aside0.mk (blk_below (g := gb382) (o := .cells #[.slice Ao6 t376.length co6, .int .i64 t379] 29 (0, 0)) (by (with_reducible repeat (first | refine blk_drewN ?_ _ | refine blk_drew ?_ | refine blk_alloc ?_ _)); exact BK382.out) hb); have n2_ := Aside0.mk (below_step (by repeat (first | (with_reducible first | exact HB.out | apply below_alloc | apply pw_below_drewN | apply below_drew1 | refine below_set ?_ GE382.out) | exact HB.out)) hb); clear HO_383000; clear BK382; clear HB; have HO_383000 := n0_; have BK382 := n1_; have HB := n2_; clear n0_ n1_ n2_; (try clear hb); (try clear hb2); (try clear hk); (try clear hi))))
        go_roundg k2
        case measure => have := HJ2.out; have := HK2.out; omega
        case rel => exact ⟨(x6_2), (wrap64 (x7_2 - 1)), (by first | rfl | (simp; done) | (simp [*]; done)), (by first | rfl | (simp; done) | (simp [*]; done)), H', ⟨by have := HJ2.out; have := HK2.out; omega⟩, ⟨by (with_reducible repeat (first | apply Kd.R_alloc | apply Kd.R_drewN | apply Kd.R_drew)); exact HO_383000.out⟩, ⟨by (with_reducible repeat (first | refine blk_drewN ?_ _ | refine blk_drew ?_ | refine blk_alloc ?_ _)); exact BK382.out⟩, ⟨by repeat (first | (with_reducible first | exact HB.out | apply below_alloc | apply pw_below_drewN | apply below_drew1 | refine below_set ?_ GE382.out) | exact HB.out)⟩⟩
      ·rw [if_neg c14] at H
       have c14b0 : decide (0 ≤ x7_2) = false := decide_eq_false c14
       clear c14
       have H' := Aside0.mk H
       clear H
       go_wp2
       repeat (go_quiet (fail); try go_wp2)
       go_loopg [8] k2 (fun kq v8 w' => ∃ (x8_3 : Int), v8 = .int .i64 x8_3 ∧ Aside0 (rickyardlaw16_PickAll.l1 kq l0 x6_2 x8_3 t376 t379 = some r) ∧ Aside0 (kq ≤ k2) ∧ Aside0 (Kd.R (Kd.int .i64) 3 w' w.heap.size (fun _ => True) (.slice Ao6 t376.length co6) t376) ∧ Aside0 (w'.heap[gb382]? = some (.cells #[(.slice Ao6 t376.length co6), .int .i64 t379] 29 (0, 0))) ∧ Aside0 (Below w.heap.size w w'))
       case atStart => exact ⟨(0), (by first | rfl | (simp; done) | (simp [*]; done)), H', ⟨Nat.le_refl _⟩, ⟨by (with_reducible repeat (first | apply Kd.R_alloc | apply Kd.R_drewN | apply Kd.R_drew)); exact HO_383000.out⟩, ⟨by (with_reducible repeat (first | refine blk_drewN ?_ _ | refine blk_drew ?_ | refine blk_alloc ?_ _)); exact BK382.out⟩, ⟨by repeat (first | (with_reducible first | exact HB.out | apply below_alloc | apply pw_below_drewN | apply below_drew1 | refine below_set ?_ GE382.out) | exact HB.out)⟩⟩
       case round =>
        clear H'
        try clear c1
        try clear p2
        try clear c5
        try clear p6
        try clear c8
        try clear c8b0
        try clear c8b1
        try clear c9
        try clear c11
        try clear c14
        try clear c14b0
        try clear c16
        try clear hcz7_0
        try clear hcz7_1
        try clear hfz7_0
        try clear hfz7_1
        try clear p2
        obtain ⟨x8_3, rfl, HA, HK3, HO_383000, BK382, HB⟩ := hrel
        cases gk with
        | zero => exact absurd HA.out (by simp [rickyardlaw16_PickAll.l1])
        | succ k3 =>
         have H := HA.out
         clear HA
         simp only [rickyardlaw16_PickAll.l1] at H
         by_cases c19 : x8_3 < (l0.length : Int)
         ·rw [if_pos c19] at H
          have c19b0 : decide (x8_3 < (l0.length : Int)) = true := decide_eq_true c19
          clear c19
          have H' := Aside0.mk H
          clear H
          go_wp2
          repeat (go_quiet (fail); try go_wp2)
          go_loopg [9, 10] k3 (fun kq v9 v10 w' => ∃ (x9_4 : Bool) (x10_4 : Int), v9 = .bool x9_4 ∧ v10 = .int .i64 x10_4 ∧ Aside0 (rickyardlaw16_PickAll.l2 kq l0 x6_2 x8_3 x9_4 x10_4 t376 t379 = some r) ∧ Aside0 (kq ≤ k3) ∧ Aside0 (Kd.R (Kd.int .i64) 3 w' w.heap.size (fun _ => True) (.slice Ao6 t376.length co6) t376) ∧ Aside0 (w'.heap[gb382]? = some (.cells #[(.slice Ao6 t376.length co6), .int .i64 t379] 29 (0, 0))) ∧ Aside0 (Below w.heap.size w w'))
          case atStart => exact ⟨(false), (0), (by first | rfl | (simp; done) | (simp [*]; done)), (by first | rfl | (simp; done) | (simp [*]; done)), H', ⟨Nat.le_refl _⟩, ⟨by (with_reducible repeat (first | apply Kd.R_alloc | apply Kd.R_drewN | apply Kd.R_drew)); exact HO_383000.out⟩, ⟨by (with_reducible repeat (first | refine blk_drewN ?_ _ | refine blk_drew ?_ | refine blk_alloc ?_ _)); exact BK382.out⟩, ⟨by repeat (first | (with_reducible first | exact HB.out | apply below_alloc | apply pw_below_drewN | apply below_drew1 | refine below_set ?_ GE382.out) | exact HB.out)⟩⟩
          case round =>
           clear H'
           try clear c1
           try clear p2
           try clear c5
           try clear p6
           try clear c8
           try clear c8b0
           try clear c8b1
           try clear c9
           try clear c11
           try clear c14
           try clear c14b0
           try clear c16
           try clear c19
           try clear c19b0
           try clear hcz7_0
           try clear hcz7_1
           try clear hfz7_0
           try clear hfz7_1
           try clear p2
           try clear p6
           obtain ⟨x9_4, x10_4, rfl, rfl, HA, HK4, HO_383000, BK382, HB⟩ := hrel
           cases gk with
           | zero => exact absurd HA.out (by simp [rickyardlaw16_PickAll.l2])
           | succ k4 =>
            have H := HA.out
            clear HA
            simp only [rickyardlaw16_PickAll.l2] at H
            by_cases c20 : x10_4 < (t376.length : Int)
            ·rw [if_pos c20] at H
             have c20b0 : decide (x10_4 < (t376.length : Int)) = true := decide_eq_true c20
             clear c20
             by_cases c21 : x9_4 = true
             ·subst c21
              have H1 : (rickyardlaw16_PickAll.l2 k4 l0 x6_2 x8_3 true (wrap64 (x10_4 + 1)) t376 t379) = some r := by rw [if_pos rfl] at H; exact H
              clear H
              have H := H1
              clear H1
              have H' := Aside0.mk H
              clear H
              have hcz22_0 : wr.cell? ⟨gb382, 0, none⟩ = some (.slice Ao6 t376.length co6) := (blk_cell BK382.out 0).trans rfl
              have hcz22_1 : wr.cell? ⟨gb382, 1, none⟩ = some (.int .i64 t379) := (blk_cell BK382.out 1).trans rfl
              have hfz22_0 := blk_frozen BK382.out 0
              have hfz22_1 := blk_frozen BK382.out 1
              go_wp2
              repeat (go_quiet (fail); try go_wp2)
              go_roundg k4
              case measure => have := HJ2.out; have := HK2.out; have := HK3.out; have := HK4.out; omega
              case rel => exact ⟨(true), (wrap64 (x10_4 + 1)), (by first | rfl | (simp; done) | (simp [*]; done)), (by first | rfl | (simp; done) | (simp [*]; done)), H', ⟨by have := HJ2.out; have := HK2.out; have := HK3.out; have := HK4.out; omega⟩, ⟨by (with_reducible repeat (first | apply Kd.R_alloc | apply Kd.R_drewN | apply Kd.R_drew)); exact HO_383000.out⟩, ⟨by (with_reducible repeat (first | refine blk_drewN ?_ _ | refine blk_drew ?_ | refine blk_alloc ?_ _)); exact BK382.out⟩, ⟨by repeat (first | (with_reducible first | exact HB.out | apply below_alloc | apply pw_below_drewN | apply below_drew1 | refine below_set ?_ GE382.out) | exact HB.out)⟩⟩
             ·replace c21 := Bool.eq_false_iff.mpr c21
              subst c21
              have H1 : (if 0 ≤ x10_4 then (if 0 ≤ x8_3 then (if x8_3 < (l0.length : Int) then (rickyardlaw16_PickAll.l2 k4 l0 x6_2 x8_3 ((rd t376 x10_4) == ((rd_T26 l0 x8_3).f0)) (wrap64 (x10_4 + 1)) t376 t379) else (none)) else (none)) else (none)) = some r := by rw [if_neg (show ¬ (false = true) by decide)] at H; exact H
              clear H
              have H := H1
              clear H1
              by_cases c23 : 0 ≤ x10_4
              ·rw [if_pos c23] at H
               have c23b0 : decide (0 ≤ x10_4) = true := decide_eq_true c23
               clear c23
               by_cases c24 : 0 ≤ x8_3
               ·rw [if_pos c24] at H
                have c24b0 : decide (0 ≤ x8_3) = true := decide_eq_true c24
                clear c24
                by_cases c25 : x8_3 < (l0.length : Int)
                ·rw [if_pos c25] at H
                 have c25b0 : decide (x8_3 < (l0.length : Int)) = true := decide_eq_true c25
                 clear c25
                 have H' := Aside0.mk H
                 clear H
                 have hcz26_0 : wr.cell? ⟨gb382, 0, none⟩ = some (.slice Ao6 t376.length co6) := (blk_cell BK382.out 0).trans rfl
                 have hcz26_1 : wr.cell? ⟨gb382, 1, none⟩ = some (.int .i64 t379) := (blk_cell BK382.out 1).trans rfl
                 have hfz26_0 := blk_frozen BK382.out 0
                 have hfz26_1 := blk_frozen BK382.out 1
                 have p386 : 0 ≤ (x10_4 : Int) := of_decide_eq_true (by first | (with_reducible assumption) | assumption)
                 have q386 : x10_4 < (t376.length : Int) := of_decide_eq_true (by first | (with_reducible assumption) | assumption)
                 obtain ⟨ad386, e386, hx386_0⟩ := Kd.at_int (Kd.R_reads' HO_383000.out).2.2 x10_4 p386 q386
                 cases e386
                 replace p386 := eq_true p386
                 replace q386 := eq_true q386
                 have p387 : 0 ≤ (x8_3 : Int) := of_decide_eq_true (by first | (with_reducible assumption) | assumption)
                 have q387 : x8_3 < (l0.length : Int) := of_decide_eq_true (by first | (with_reducible assumption) | assumption)
                 obtain ⟨ad387, e387, hx387_0, hx387_1, hx387_2, hx387_3⟩ := at_T26 HR0.out x8_3 p387 q387
                 cases e387
                 replace hx387_0 := (HB.out.cell (World.block_lt_of_cell? w _ hx387_0)).trans hx387_0
                 replace hx387_1 := (HB.out.cell (World.block_lt_of_cell? w _ hx387_1)).trans hx387_1
                 replace hx387_2 := (HB.out.cell (World.block_lt_of_cell? w _ hx387_2)).trans hx387_2
                 replace hx387_3 := (HB.out.cell (World.block_lt_of_cell? w _ hx387_3)).trans hx387_3
                 replace p387 := eq_true p387
                 replace q387 := eq_true q387
                 go_wp2
                 repeat (go_quiet (fail); try go_wp2)
                 go_roundg k4
                 case measure => have := HJ2.out; have := HK2.out; have := HK3.out; have := HK4.out; omega
                 case rel => exact ⟨(((rd t376 x10_4) == ((rd_T26 l0 x8_3).f0))), (wrap64 (x10_4 + 1)), (by first | rfl | (simp; done) | (simp [*]; done)), (by first | rfl | (simp; done) | (simp [*]; done)), H', ⟨by have := HJ2.out; have := HK2.out; have := HK3.out; have := HK4.out; omega⟩, ⟨by (with_reducible repeat (first | apply Kd.R_alloc | apply Kd.R_drewN | apply Kd.R_drew)); exact HO_383000.out⟩, ⟨by (with_reducible repeat (first | refine blk_drewN ?_ _ | refine blk_drew ?_ | refine blk_alloc ?_ _)); exact BK382.out⟩, ⟨by repeat (first | (with_reducible first | exact HB.out | apply below_alloc | apply pw_below_drewN | apply below_drew1 | refine below_set ?_ GE382.out) | exact HB.out)⟩⟩
                ·rw [if_neg c25] at H
                 exact absurd H (by simp)
               ·rw [if_neg c24] at H
                exact absurd H (by simp)
              ·rw [if_neg c23] at H
               exact absurd H (by simp)
            ·rw [if_neg c20] at H
             have c20b0 : decide (x10_4 < (t376.length : Int)) = false := decide_eq_false c20
             clear c20
             by_cases c27 : x6_2 ≥ 0
             ·rw [if_pos c27] at H
              have c27b0 : decide (0 ≤ x6_2) = true := decide_eq_true c27
              clear c27
              by_cases c28 : 0 ≤ x8_3
              ·rw [if_pos c28] at H
               have c28b0 : decide (0 ≤ x8_3) = true := decide_eq_true c28
               clear c28
               by_cases c29 : x8_3 < (l0.length : Int)
               ·rw [if_pos c29] at H
                have c29b0 : decide (x8_3 < (l0.length : Int)) = true := decide_eq_true c29
                clear c29
                by_cases c30 : ((rd_T26 l0 x8_3).f1) = x6_2
                ·rw [if_pos c30] at H
                 have c30b0 : (((rd_T26 l0 x8_3).f1) == x6_2) = true := beq_iff_eq.mpr c30
                 have c30b1 : (((rd_T26 l0 x8_3).f1) != x6_2) = false := bne_eq_false_iff_eq.mpr c30
                 clear c30
                 by_cases c31 : (x9_4 != true) = true
                 ·rw [if_pos c31] at H
                  have c31b0 : (x9_4 != true) = true := c31
                  (try (have c31b1 : decide (x9_4 = true) = false := by simpa using c31))
                  (try (have c31b2 : (x9_4 == true) = false := by simpa using c31))
                  (try (have c31b3 : ¬ (x9_4 = true) := by simpa using c31))
                  clear c31
                  obtain rfl := Option.some.inj H
                  have hcz32_0 : wr.cell? ⟨gb382, 0, none⟩ = some (.slice Ao6 t376.length co6) := (blk_cell BK382.out 0).trans rfl
                  have hcz32_1 : wr.cell? ⟨gb382, 1, none⟩ = some (.int .i64 t379) := (blk_cell BK382.out 1).trans rfl
                  have hfz32_0 := blk_frozen BK382.out 0
                  have hfz32_1 := blk_frozen BK382.out 1
                  have p388 : 0 ≤ (x8_3 : Int) := of_decide_eq_true (by first | (with_reducible assumption) | assumption)
                  have q388 : x8_3 < (l0.length : Int) := of_decide_eq_true (by first | (with_reducible assumption) | assumption)
                  obtain ⟨ad388, e388, hx388_0, hx388_1, hx388_2, hx388_3⟩ := at_T26 HR0.out x8_3 p388 q388
                  cases e388
                  replace hx388_0 := (HB.out.cell (World.block_lt_of_cell? w _ hx388_0)).trans hx388_0
                  replace hx388_1 := (HB.out.cell (World.block_lt_of_cell? w _ hx388_1)).trans hx388_1
                  replace hx388_2 := (HB.out.cell (World.block_lt_of_cell? w _ hx388_2)).trans hx388_2
                  replace hx388_3 := (HB.out.cell (World.block_lt_of_cell? w _ hx388_3)).trans hx388_3
                  replace p388 := eq_true p388
                  replace q388 := eq_true q388
                  go_wp2
                  repeat (go_quiet (fail); try go_wp2)
                  go_ret
                  exact ⟨by first | rfl | (simp [errW_none, errW_some] <;> rfl) | (simp [*, errW_none, errW_some] <;> rfl) | (exfalso; simp_all; done), by repeat (first | (with_reducible first | exact HB.out | apply below_alloc | apply pw_below_drewN | apply below_drew1 | refine below_set ?_ GE382.out) | exact HB.out)⟩
                 ·rw [if_neg c31] at H
                  have c31b0 : (x9_4 != true) = false := by simpa using c31
                  (try (have c31b1 : decide (x9_4 = true) = true := by simpa using c31))
                  (try (have c31b2 : (x9_4 == true) = true := by simpa using c31))
                  clear c31
                  by_cases c33 : x6_2 < 0
                  ·rw [if_pos c33] at H
                   have c33b0 : decide (x6_2 < 0) = true := decide_eq_true c33
                   clear c33
                   by_cases c34 : x9_4 = true
                   ·subst c34
                    have H1 : (if ((rd_T26 l0 x8_3).f3 = true) then (if ((rd_T26 l0 x8_3).f1) = t379 then (rickyardlaw16_PickAll.l1 k4 l0 x6_2 (wrap64 (x8_3 + 1)) t376 t379) else (some false)) else (some false)) = some r := by rw [if_pos rfl] at H; exact H
                    clear H
                    have H := H1
                    clear H1
                    obtain ⟨bq35, hbq35⟩ : ∃ b_ : Bool, b_ = ((rd_T26 l0 x8_3).f3) := ⟨_, rfl⟩
                    replace H : (if (bq35 = true) then (if ((rd_T26 l0 x8_3).f1) = t379 then (rickyardlaw16_PickAll.l1 k4 l0 x6_2 (wrap64 (x8_3 + 1)) t376 t379) else (some false)) else (some false)) = some r := by rw [← hbq35] at H; exact H
                    have Nbq35 := Aside0.mk hbq35
                    clear hbq35
                    by_cases c36 : (bq35 = true)
                    ·subst c36
                     have H1 : (if ((rd_T26 l0 x8_3).f1) = t379 then (rickyardlaw16_PickAll.l1 k4 l0 x6_2 (wrap64 (x8_3 + 1)) t376 t379) else (some false)) = some r := by rw [if_pos rfl] at H; exact H
                     clear H
                     have H := H1
                     clear H1
                     by_cases c37 : ((rd_T26 l0 x8_3).f1) = t379
                     ·rw [if_pos c37] at H
                      have c37b0 : (((rd_T26 l0 x8_3).f1) == t379) = true := beq_iff_eq.mpr c37
                      have c37b1 : (((rd_T26 l0 x8_3).f1) != t379) = false := bne_eq_false_iff_eq.mpr c37
                      clear c37
                      have H' := Aside0.mk H
                      clear H
                      have hcz38_0 : wr.cell? ⟨gb382, 0, none⟩ = some (.slice Ao6 t376.length co6) := (blk_cell BK382.out 0).trans rfl
                      have hcz38_1 : wr.cell? ⟨gb382, 1, none⟩ = some (.int .i64 t379) := (blk_cell BK382.out 1).trans rfl
                      have hfz38_0 := blk_frozen BK382.out 0
                      have hfz38_1 := blk_frozen BK382.out 1
                      have p388 : 0 ≤ (x8_3 : Int) := of_decide_eq_true (by first | (with_reducible assumption) | assumption)
                      have q388 : x8_3 < (l0.length : Int) := of_decide_eq_true (by first | (with_reducible assumption) | assumption)
                      obtain ⟨ad388, e388, hx388_0, hx388_1, hx388_2, hx388_3⟩ := at_T26 HR0.out x8_3 p388 q388
                      (try rw [← Nbq35.out] at hx388_3)
                      cases e388
                      replace hx388_0 := (HB.out.cell (World.block_lt_of_cell? w _ hx388_0)).trans hx388_0
                      replace hx388_1 := (HB.out.cell (World.block_lt_of_cell? w _ hx388_1)).trans hx388_1
                      replace hx388_2 := (HB.out.cell (World.block_lt_of_cell? w _ hx388_2)).trans hx388_2
                      replace hx388_3 := (HB.out.cell (World.block_lt_of_cell? w _ hx388_3)).trans hx388_3
                      replace p388 := eq_true p388
                      replace q388 := eq_true q388
                      have p389 : 0 ≤ (x8_3 : Int) := of_decide_eq_true (by first | (with_reducible assumption) | assumption)
                      have q389 : x8_3 < (l0.length : Int) := of_decide_eq_true (by first | (with_reducible assumption) | assumption)
                      obtain ⟨ad389, e389, hx389_0, hx389_1, hx389_2, hx389_3⟩ := at_T26 HR0.out x8_3 p389 q389
                      (try rw [← Nbq35.out] at hx389_3)
                      obtain rfl : ad388 = ad389 := (by injection e389)
                      replace hx389_0 := (HB.out.cell (World.block_lt_of_cell? w _ hx389_0)).trans hx389_0
                      replace hx389_1 := (HB.out.cell (World.block_lt_of_cell? w _ hx389_1)).trans hx389_1
                      replace hx389_2 := (HB.out.cell (World.block_lt_of_cell? w _ hx389_2)).trans hx389_2
                      replace hx389_3 := (HB.out.cell (World.block_lt_of_cell? w _ hx389_3)).trans hx389_3
                      replace p389 := eq_true p389
                      replace q389 := eq_true q389
                      have p390 : 0 ≤ (x8_3 : Int) := of_decide_eq_true (by first | (with_reducible assumption) | assumption)
                      have q390 : x8_3 < (l0.length : Int) := of_decide_eq_true (by first | (with_reducible assumption) | assumption)
                      obtain ⟨ad390, e390, hx390_0, hx390_1, hx390_2, hx390_3⟩ := at_T26 HR0.out x8_3 p390 q390
                      (try rw [← Nbq35.out] at hx390_3)
                      obtain rfl : ad388 = ad390 := (by injection e390)
                      replace hx390_0 := (HB.out.cell (World.block_lt_of_cell? w _ hx390_0)).trans hx390_0
                      replace hx390_1 := (HB.out.cell (World.block_lt_of_cell? w _ hx390_1)).trans hx390_1
                      replace hx390_2 := (HB.out.cell (World.block_lt_of_cell? w _ hx390_2)).trans hx390_2
                      replace hx390_3 := (HB.out.cell (World.block_lt_of_cell? w _ hx390_3)).trans hx390_3
                      replace p390 := eq_true p390
                      replace q390 := eq_true q390
                      go_wp2
                      repeat (go_quiet (fail); try go_wp2)
                      go_roundg k4
                      case measure => have := HJ2.out; have := HK2.out; have := HK3.out; have := HK4.out; omega
                      case rel => exact ⟨(wrap64 (x8_3 + 1)), (by first | rfl | (simp; done) | (simp [*]; done)), H', ⟨by have := HJ2.out; have := HK2.out; have := HK3.out; have := HK4.out; omega⟩, ⟨by (with_reducible repeat (first | apply Kd.R_alloc | apply Kd.R_drewN | apply Kd.R_drew)); exact HO_383000.out⟩, ⟨by (with_reducible repeat (first | refine blk_drewN ?_ _ | refine blk_drew ?_ | refine blk_alloc ?_ _)); exact BK382.out⟩, ⟨by repeat (first | (with_reducible first | exact HB.out | apply below_alloc | apply pw_below_drewN | apply below_drew1 | refine below_set ?_ GE382.out) | exact HB.out)⟩⟩
                     ·rw [if_neg c37] at H
                      have c37b0 : (((rd_T26 l0 x8_3).f1) == t379) = false := beq_eq_false_iff_ne.mpr c37
                      have c37b1 : (((rd_T26 l0 x8_3).f1) != t379) = true := bne_iff_ne.mpr c37
                      obtain rfl := Option.some.inj H
                      have hcz39_0 : wr.cell? ⟨gb382, 0, none⟩ = some (.slice Ao6 t376.length co6) := (blk_cell BK382.out 0).trans rfl
                      have hcz39_1 : wr.cell? ⟨gb382, 1, none⟩ = some (.int .i64 t379) := (blk_cell BK382.out 1).trans rfl
                      have hfz39_0 := blk_frozen BK382.out 0
                      have hfz39_1 := blk_frozen BK382.out 1
                      have p388 : 0 ≤ (x8_3 : Int) := of_decide_eq_true (by first | (with_reducible assumption) | assumption)
                      have q388 : x8_3 < (l0.length : Int) := of_decide_eq_true (by first | (with_reducible assumption) | assumption)
                      obtain ⟨ad388, e388, hx388_0, hx388_1, hx388_2, hx388_3⟩ := at_T26 HR0.out x8_3 p388 q388
                      (try rw [← Nbq35.out] at hx388_3)
                      cases e388
                      replace hx388_0 := (HB.out.cell (World.block_lt_of_cell? w _ hx388_0)).trans hx388_0
                      replace hx388_1 := (HB.out.cell (World.block_lt_of_cell? w _ hx388_1)).trans hx388_1
                      replace hx388_2 := (HB.out.cell (World.block_lt_of_cell? w _ hx388_2)).trans hx388_2
                      replace hx388_3 := (HB.out.cell (World.block_lt_of_cell? w _ hx388_3)).trans hx388_3
                      replace p388 := eq_true p388
                      replace q388 := eq_true q388
                      have p389 : 0 ≤ (x8_3 : Int) := of_decide_eq_true (by first | (with_reducible assumption) | assumption)
                      have q389 : x8_3 < (l0.length : Int) := of_decide_eq_true (by first | (with_reducible assumption) | assumption)
                      obtain ⟨ad389, e389, hx389_0, hx389_1, hx389_2, hx389_3⟩ := at_T26 HR0.out x8_3 p389 q389
                      (try rw [← Nbq35.out] at hx389_3)
                      obtain rfl : ad388 = ad389 := (by injection e389)
                      replace hx389_0 := (HB.out.cell (World.block_lt_of_cell? w _ hx389_0)).trans hx389_0
                      replace hx389_1 := (HB.out.cell (World.block_lt_of_cell? w _ hx389_1)).trans hx389_1
                      replace hx389_2 := (HB.out.cell (World.block_lt_of_cell? w _ hx389_2)).trans hx389_2
                      replace hx389_3 := (HB.out.cell (World.block_lt_of_cell? w _ hx389_3)).trans hx389_3
                      replace p389 := eq_true p389
                      replace q389 := eq_true q389
                      have p390 : 0 ≤ (x8_3 : Int) := of_decide_eq_true (by first | (with_reducible assumption) | assumption)
                      have q390 : x8_3 < (l0.length : Int) := of_decide_eq_true (by first | (with_reducible assumption) | assumption)
                      obtain ⟨ad390, e390, hx390_0, hx390_1, hx390_2, hx390_3⟩ := at_T26 HR0.out x8_3 p390 q390
                      (try rw [← Nbq35.out] at hx390_3)
                      obtain rfl : ad388 = ad390 := (by injection e390)
                      replace hx390_0 := (HB.out.cell (World.block_lt_of_cell? w _ hx390_0)).trans hx390_0
                      replace hx390_1 := (HB.out.cell (World.block_lt_of_cell? w _ hx390_1)).trans hx390_1
                      replace hx390_2 := (HB.out.cell (World.block_lt_of_cell? w _ hx390_2)).trans hx390_2
                      replace hx390_3 := (HB.out.cell (World.block_lt_of_cell? w _ hx390_3)).trans hx390_3
                      replace p390 := eq_true p390
                      replace q390 := eq_true q390
                      go_wp2
                      repeat (go_quiet (fail); try go_wp2)
                      go_ret
                      exact ⟨by first | rfl | (simp [errW_none, errW_some] <;> rfl) | (simp [*, errW_none, errW_some] <;> rfl) | (exfalso; simp_all; done), by repeat (first | (with_reducible first | exact HB.out | apply below_alloc | apply pw_below_drewN | apply below_drew1 | refine below_set ?_ GE382.out) | exact HB.out)⟩
                    ·replace c36 := Bool.eq_false_iff.mpr c36
                     subst c36
                     have H1 : (some false) = some r := by rw [if_neg (show ¬ (false = true) by decide)] at H; exact H
                     clear H
                     have H := H1
                     clear H1
                     obtain rfl := Option.some.inj H
                     have hcz40_0 : wr.cell? ⟨gb382, 0, none⟩ = some (.slice Ao6 t376.length co6) := (blk_cell BK382.out 0).trans rfl
                     have hcz40_1 : wr.cell? ⟨gb382, 1, none⟩ = some (.int .i64 t379) := (blk_cell BK382.out 1).trans rfl
                     have hfz40_0 := blk_frozen BK382.out 0
                     have hfz40_1 := blk_frozen BK382.out 1
                     have p388 : 0 ≤ (x8_3 : Int) := of_decide_eq_true (by first | (with_reducible assumption) | assumption)
                     have q388 : x8_3 < (l0.length : Int) := of_decide_eq_true (by first | (with_reducible assumption) | assumption)
                     obtain ⟨ad388, e388, hx388_0, hx388_1, hx388_2, hx388_3⟩ := at_T26 HR0.out x8_3 p388 q388
                     (try rw [← Nbq35.out] at hx388_3)
                     cases e388
                     replace hx388_0 := (HB.out.cell (World.block_lt_of_cell? w _ hx388_0)).trans hx388_0
                     replace hx388_1 := (HB.out.cell (World.block_lt_of_cell? w _ hx388_1)).trans hx388_1
                     replace hx388_2 := (HB.out.cell (World.block_lt_of_cell? w _ hx388_2)).trans hx388_2
                     replace hx388_3 := (HB.out.cell (World.block_lt_of_cell? w _ hx388_3)).trans hx388_3
                     replace p388 := eq_true p388
                     replace q388 := eq_true q388
                     have p389 : 0 ≤ (x8_3 : Int) := of_decide_eq_true (by first | (with_reducible assumption) | assumption)
                     have q389 : x8_3 < (l0.length : Int) := of_decide_eq_true (by first | (with_reducible assumption) | assumption)
                     obtain ⟨ad389, e389, hx389_0, hx389_1, hx389_2, hx389_3⟩ := at_T26 HR0.out x8_3 p389 q389
                     (try rw [← Nbq35.out] at hx389_3)
                     obtain rfl : ad388 = ad389 := (by injection e389)
                     replace hx389_0 := (HB.out.cell (World.block_lt_of_cell? w _ hx389_0)).trans hx389_0
                     replace hx389_1 := (HB.out.cell (World.block_lt_of_cell? w _ hx389_1)).trans hx389_1
                     replace hx389_2 := (HB.out.cell (World.block_lt_of_cell? w _ hx389_2)).trans hx389_2
                     replace hx389_3 := (HB.out.cell (World.block_lt_of_cell? w _ hx389_3)).trans hx389_3
                     replace p389 := eq_true p389
                     replace q389 := eq_true q389
                     go_wp2
                     repeat (go_quiet (fail); try go_wp2)
                     go_ret
                     exact ⟨by first | rfl | (simp [errW_none, errW_some] <;> rfl) | (simp [*, errW_none, errW_some] <;> rfl) | (exfalso; simp_all; done), by repeat (first | (with_reducible first | exact HB.out | apply below_alloc | apply pw_below_drewN | apply below_drew1 | refine below_set ?_ GE382.out) | exact HB.out)⟩
                   ·replace c34 := Bool.eq_false_iff.mpr c34
                    subst c34
                    have H1 : (rickyardlaw16_PickAll.l1 k4 l0 x6_2 (wrap64 (x8_3 + 1)) t376 t379) = some r := by rw [if_neg (show ¬ (false = true) by decide)] at H; exact H
                    clear H
                    have H := H1
                    clear H1
                    have H' := Aside0.mk H
                    clear H
                    have hcz41_0 : wr.cell? ⟨gb382, 0, none⟩ = some (.slice Ao6 t376.length co6) := (blk_cell BK382.out 0).trans rfl
                    have hcz41_1 : wr.cell? ⟨gb382, 1, none⟩ = some (.int .i64 t379) := (blk_cell BK382.out 1).trans rfl
                    have hfz41_0 := blk_frozen BK382.out 0
                    have hfz41_1 := blk_frozen BK382.out 1
                    have p388 : 0 ≤ (x8_3 : Int) := of_decide_eq_true (by first | (with_reducible assumption) | assumption)
                    have q388 : x8_3 < (l0.length : Int) := of_decide_eq_true (by first | (with_reducible assumption) | assumption)
                    obtain ⟨ad388, e388, hx388_0, hx388_1, hx388_2, hx388_3⟩ := at_T26 HR0.out x8_3 p388 q388
                    cases e388
                    replace hx388_0 := (HB.out.cell (World.block_lt_of_cell? w _ hx388_0)).trans hx388_0
                    replace hx388_1 := (HB.out.cell (World.block_lt_of_cell? w _ hx388_1)).trans hx388_1
                    replace hx388_2 := (HB.out.cell (World.block_lt_of_cell? w _ hx388_2)).trans hx388_2
                    replace hx388_3 := (HB.out.cell (World.block_lt_of_cell? w _ hx388_3)).trans hx388_3
                    replace p388 := eq_true p388
                    replace q388 := eq_true q388
                    go_wp2
                    repeat (go_quiet (fail); try go_wp2)
                    go_roundg k4
                    case measure => have := HJ2.out; have := HK2.out; have := HK3.out; have := HK4.out; omega
                    case rel => exact ⟨(wrap64 (x8_3 + 1)), (by first | rfl | (simp; done) | (simp [*]; done)), H', ⟨by have := HJ2.out; have := HK2.out; have := HK3.out; have := HK4.out; omega⟩, ⟨by (with_reducible repeat (first | apply Kd.R_alloc | apply Kd.R_drewN | apply Kd.R_drew)); exact HO_383000.out⟩, ⟨by (with_reducible repeat (first | refine blk_drewN ?_ _ | refine blk_drew ?_ | refine blk_alloc ?_ _)); exact BK382.out⟩, ⟨by repeat (first | (with_reducible first | exact HB.out | apply below_alloc | apply pw_below_drewN | apply below_drew1 | refine below_set ?_ GE382.out) | exact HB.out)⟩⟩
                  ·rw [if_neg c33] at H
                   have c33b0 : decide (x6_2 < 0) = false := decide_eq_false c33
                   clear c33
                   have H' := Aside0.mk H
                   clear H
                   have hcz42_0 : wr.cell? ⟨gb382, 0, none⟩ = some (.slice Ao6 t376.length co6) := (blk_cell BK382.out 0).trans rfl
                   have hcz42_1 : wr.cell? ⟨gb382, 1, none⟩ = some (.int .i64 t379) := (blk_cell BK382.out 1).trans rfl
                   have hfz42_0 := blk_frozen BK382.out 0
                   have hfz42_1 := blk_frozen BK382.out 1
                   have p388 : 0 ≤ (x8_3 : Int) := of_decide_eq_true (by first | (with_reducible assumption) | assumption)
                   have q388 : x8_3 < (l0.length : Int) := of_decide_eq_true (by first | (with_reducible assumption) | assumption)
                   obtain ⟨ad388, e388, hx388_0, hx388_1, hx388_2, hx388_3⟩ := at_T26 HR0.out x8_3 p388 q388
                   cases e388
                   replace hx388_0 := (HB.out.cell (World.block_lt_of_cell? w _ hx388_0)).trans hx388_0
                   replace hx388_1 := (HB.out.cell (World.block_lt_of_cell? w _ hx388_1)).trans hx388_1
                   replace hx388_2 := (HB.out.cell (World.block_lt_of_cell? w _ hx388_2)).trans hx388_2
                   replace hx388_3 := (HB.out.cell (World.block_lt_of_cell? w _ hx388_3)).trans hx388_3
                   replace p388 := eq_true p388
                   replace q388 := eq_true q388
                   go_wp2
                   repeat (go_quiet (fail); try go_wp2)
                   go_roundg k4
                   case measure => have := HJ2.out; have := HK2.out; have := HK3.out; have := HK4.out; omega
                   case rel => exact ⟨(wrap64 (x8_3 + 1)), (by first | rfl | (simp; done) | (simp [*]; done)), H', ⟨by have := HJ2.out; have := HK2.out; have := HK3.out; have := HK4.out; omega⟩, ⟨by (with_reducible repeat (first | apply Kd.R_alloc | apply Kd.R_drewN | apply Kd.R_drew)); exact HO_383000.out⟩, ⟨by (with_reducible repeat (first | refine blk_drewN ?_ _ | refine blk_drew ?_ | refine blk_alloc ?_ _)); exact BK382.out⟩, ⟨by repeat (first | (with_reducible first | exact HB.out | apply below_alloc | apply pw_below_drewN | apply below_drew1 | refine below_set ?_ GE382.out) | exact HB.out)⟩⟩
                ·rw [if_neg c30] at H
                 have c30b0 : (((rd_T26 l0 x8_3).f1) == x6_2) = false := beq_eq_false_iff_ne.mpr c30
                 have c30b1 : (((rd_T26 l0 x8_3).f1) != x6_2) = true := bne_iff_ne.mpr c30
                 by_cases c43 : (x9_4 != (((rd_T26 l0 x8_3).f1) == (wrap64 (x6_2 + 1)))) = true
                 ·rw [if_pos c43] at H
                  have c43b0 : (x9_4 != (((rd_T26 l0 x8_3).f1) == (wrap64 (x6_2 + 1)))) = true := c43
                  have c43b0w : (x9_4 != (((rd_T26 l0 x8_3).f1) == (IntKind.i64.wrap (x6_2 + 1)))) = true := by first | exact c43b0 | simpa only [i64_w] using c43b0
                  (try (have c43b1 : decide (x9_4 = (((rd_T26 l0 x8_3).f1) == (wrap64 (x6_2 + 1)))) = false := by simpa using c43))
                  (try (have c43b2 : (x9_4 == (((rd_T26 l0 x8_3).f1) == (wrap64 (x6_2 + 1)))) = false := by simpa using c43))
                  (try (have c43b3 : ¬ (x9_4 = (((rd_T26 l0 x8_3).f1) == (wrap64 (x6_2 + 1)))) := by simpa using c43))
                  clear c43
                  obtain rfl := Option.some.inj H
                  have hcz44_0 : wr.cell? ⟨gb382, 0, none⟩ = some (.slice Ao6 t376.length co6) := (blk_cell BK382.out 0).trans rfl
                  have hcz44_1 : wr.cell? ⟨gb382, 1, none⟩ = some (.int .i64 t379) := (blk_cell BK382.out 1).trans rfl
                  have hfz44_0 := blk_frozen BK382.out 0
                  have hfz44_1 := blk_frozen BK382.out 1
                  have p388 : 0 ≤ (x8_3 : Int) := of_decide_eq_true (by first | (with_reducible assumption) | assumption)
                  have q388 : x8_3 < (l0.length : Int) := of_decide_eq_true (by first | (with_reducible assumption) | assumption)
                  obtain ⟨ad388, e388, hx388_0, hx388_1, hx388_2, hx388_3⟩ := at_T26 HR0.out x8_3 p388 q388
                  cases e388
                  replace hx388_0 := (HB.out.cell (World.block_lt_of_cell? w _ hx388_0)).trans hx388_0
                  replace hx388_1 := (HB.out.cell (World.block_lt_of_cell? w _ hx388_1)).trans hx388_1
                  replace hx388_2 := (HB.out.cell (World.block_lt_of_cell? w _ hx388_2)).trans hx388_2
                  replace hx388_3 := (HB.out.cell (World.block_lt_of_cell? w _ hx388_3)).trans hx388_3
                  replace p388 := eq_true p388
                  replace q388 := eq_true q388
                  have p391 : 0 ≤ (x8_3 : Int) := of_decide_eq_true (by first | (with_reducible assumption) | assumption)
                  have q391 : x8_3 < (l0.length : Int) := of_decide_eq_true (by first | (with_reducible assumption) | assumption)
                  obtain ⟨ad391, e391, hx391_0, hx391_1, hx391_2, hx391_3⟩ := at_T26 HR0.out x8_3 p391 q391
                  obtain rfl : ad388 = ad391 := (by injection e391)
                  replace hx391_0 := (HB.out.cell (World.block_lt_of_cell? w _ hx391_0)).trans hx391_0
                  replace hx391_1 := (HB.out.cell (World.block_lt_of_cell? w _ hx391_1)).trans hx391_1
                  replace hx391_2 := (HB.out.cell (World.block_lt_of_cell? w _ hx391_2)).trans hx391_2
                  replace hx391_3 := (HB.out.cell (World.block_lt_of_cell? w _ hx391_3)).trans hx391_3
                  replace p391 := eq_true p391
                  replace q391 := eq_true q391
                  go_wp2
                  repeat (go_quiet (fail); try go_wp2)
                  go_ret
                  exact ⟨by first | rfl | (simp [errW_none, errW_some] <;> rfl) | (simp [*, errW_none, errW_some] <;> rfl) | (exfalso; simp_all; done), by repeat (first | (with_reducible first | exact HB.out | apply below_alloc | apply pw_below_drewN | apply below_drew1 | refine below_set ?_ GE382.out) | exact HB.out)⟩
                 ·rw [if_neg c43] at H
                  have c43b0 : (x9_4 != (((rd_T26 l0 x8_3).f1) == (wrap64 (x6_2 + 1)))) = false := by simpa using c43
                  have c43b0w : (x9_4 != (((rd_T26 l0 x8_3).f1) == (IntKind.i64.wrap (x6_2 + 1)))) = false := by first | exact c43b0 | simpa only [i64_w] using c43b0
                  (try (have c43b1 : decide (x9_4 = (((rd_T26 l0 x8_3).f1) == (wrap64 (x6_2 + 1)))) = true := by simpa using c43))
                  (try (have c43b2 : (x9_4 == (((rd_T26 l0 x8_3).f1) == (wrap64 (x6_2 + 1)))) = true := by simpa using c43))
                  clear c43
                  by_cases c45 : x6_2 < 0
                  ·rw [if_pos c45] at H
                   have c45b0 : decide (x6_2 < 0) = true := decide_eq_true c45
                   clear c45
                   by_cases c46 : x9_4 = true
                   ·subst c46
                    have H1 : (if ((rd_T26 l0 x8_3).f3 = true) then (if ((rd_T26 l0 x8_3).f1) = t379 then (rickyardlaw16_PickAll.l1 k4 l0 x6_2 (wrap64 (x8_3 + 1)) t376 t379) else (some false)) else (some false)) = some r := by rw [if_pos rfl] at H; exact H
                    clear H
                    have H := H1
                    clear H1
                    obtain ⟨bq47, hbq47⟩ : ∃ b_ : Bool, b_ = ((rd_T26 l0 x8_3).f3) := ⟨_, rfl⟩
                    replace H : (if (bq47 = true) then (if ((rd_T26 l0 x8_3).f1) = t379 then (rickyardlaw16_PickAll.l1 k4 l0 x6_2 (wrap64 (x8_3 + 1)) t376 t379) else (some false)) else (some false)) = some r := by rw [← hbq47] at H; exact H
                    have Nbq47 := Aside0.mk hbq47
                    clear hbq47
                    by_cases c48 : (bq47 = true)
                    ·subst c48
                     have H1 : (if ((rd_T26 l0 x8_3).f1) = t379 then (rickyardlaw16_PickAll.l1 k4 l0 x6_2 (wrap64 (x8_3 + 1)) t376 t379) else (some false)) = some r := by rw [if_pos rfl] at H; exact H
                     clear H
                     have H := H1
                     clear H1
                     by_cases c49 : ((rd_T26 l0 x8_3).f1) = t379
                     ·rw [if_pos c49] at H
                      have c49b0 : (((rd_T26 l0 x8_3).f1) == t379) = true := beq_iff_eq.mpr c49
                      have c49b1 : (((rd_T26 l0 x8_3).f1) != t379) = false := bne_eq_false_iff_eq.mpr c49
                      clear c49
                      have H' := Aside0.mk H
                      clear H
                      have hcz50_0 : wr.cell? ⟨gb382, 0, none⟩ = some (.slice Ao6 t376.length co6) := (blk_cell BK382.out 0).trans rfl
                      have hcz50_1 : wr.cell? ⟨gb382, 1, none⟩ = some (.int .i64 t379) := (blk_cell BK382.out 1).trans rfl
                      have hfz50_0 := blk_frozen BK382.out 0
                      have hfz50_1 := blk_frozen BK382.out 1
                      have p388 : 0 ≤ (x8_3 : Int) := of_decide_eq_true (by first | (with_reducible assumption) | assumption)
                      have q388 : x8_3 < (l0.length : Int) := of_decide_eq_true (by first | (with_reducible assumption) | assumption)
                      obtain ⟨ad388, e388, hx388_0, hx388_1, hx388_2, hx388_3⟩ := at_T26 HR0.out x8_3 p388 q388
                      (try rw [← Nbq47.out] at hx388_3)
                      cases e388
                      replace hx388_0 := (HB.out.cell (World.block_lt_of_cell? w _ hx388_0)).trans hx388_0
                      replace hx388_1 := (HB.out.cell (World.block_lt_of_cell? w _ hx388_1)).trans hx388_1
                      replace hx388_2 := (HB.out.cell (World.block_lt_of_cell? w _ hx388_2)).trans hx388_2
                      replace hx388_3 := (HB.out.cell (World.block_lt_of_cell? w _ hx388_3)).trans hx388_3
                      replace p388 := eq_true p388
                      replace q388 := eq_true q388
                      have p391 : 0 ≤ (x8_3 : Int) := of_decide_eq_true (by first | (with_reducible assumption) | assumption)
                      have q391 : x8_3 < (l0.length : Int) := of_decide_eq_true (by first | (with_reducible assumption) | assumption)
                      obtain ⟨ad391, e391, hx391_0, hx391_1, hx391_2, hx391_3⟩ := at_T26 HR0.out x8_3 p391 q391
                      (try rw [← Nbq47.out] at hx391_3)
                      obtain rfl : ad388 = ad391 := (by injection e391)
                      replace hx391_0 := (HB.out.cell (World.block_lt_of_cell? w _ hx391_0)).trans hx391_0
                      replace hx391_1 := (HB.out.cell (World.block_lt_of_cell? w _ hx391_1)).trans hx391_1
                      replace hx391_2 := (HB.out.cell (World.block_lt_of_cell? w _ hx391_2)).trans hx391_2
                      replace hx391_3 := (HB.out.cell (World.block_lt_of_cell? w _ hx391_3)).trans hx391_3
                      replace p391 := eq_true p391
                      replace q391 := eq_true q391
                      have p392 : 0 ≤ (x8_3 : Int) := of_decide_eq_true (by first | (with_reducible assumption) | assumption)
                      have q392 : x8_3 < (l0.length : Int) := of_decide_eq_true (by first | (with_reducible assumption) | assumption)
                      obtain ⟨ad392, e392, hx392_0, hx392_1, hx392_2, hx392_3⟩ := at_T26 HR0.out x8_3 p392 q392
                      (try rw [← Nbq47.out] at hx392_3)
                      obtain rfl : ad388 = ad392 := (by injection e392)
                      replace hx392_0 := (HB.out.cell (World.block_lt_of_cell? w _ hx392_0)).trans hx392_0
                      replace hx392_1 := (HB.out.cell (World.block_lt_of_cell? w _ hx392_1)).trans hx392_1
                      replace hx392_2 := (HB.out.cell (World.block_lt_of_cell? w _ hx392_2)).trans hx392_2
                      replace hx392_3 := (HB.out.cell (World.block_lt_of_cell? w _ hx392_3)).trans hx392_3
                      replace p392 := eq_true p392
                      replace q392 := eq_true q392
                      have p393 : 0 ≤ (x8_3 : Int) := of_decide_eq_true (by first | (with_reducible assumption) | assumption)
                      have q393 : x8_3 < (l0.length : Int) := of_decide_eq_true (by first | (with_reducible assumption) | assumption)
                      obtain ⟨ad393, e393, hx393_0, hx393_1, hx393_2, hx393_3⟩ := at_T26 HR0.out x8_3 p393 q393
                      (try rw [← Nbq47.out] at hx393_3)
                      obtain rfl : ad388 = ad393 := (by injection e393)
                      replace hx393_0 := (HB.out.cell (World.block_lt_of_cell? w _ hx393_0)).trans hx393_0
                      replace hx393_1 := (HB.out.cell (World.block_lt_of_cell? w _ hx393_1)).trans hx393_1
                      replace hx393_2 := (HB.out.cell (World.block_lt_of_cell? w _ hx393_2)).trans hx393_2
                      replace hx393_3 := (HB.out.cell (World.block_lt_of_cell? w _ hx393_3)).trans hx393_3
                      replace p393 := eq_true p393
                      replace q393 := eq_true q393
                      go_wp2
                      repeat (go_quiet (fail); try go_wp2)
                      go_roundg k4
                      case measure => have := HJ2.out; have := HK2.out; have := HK3.out; have := HK4.out; omega
                      case rel => exact ⟨(wrap64 (x8_3 + 1)), (by first | rfl | (simp; done) | (simp [*]; done)), H', ⟨by have := HJ2.out; have := HK2.out; have := HK3.out; have := HK4.out; omega⟩, ⟨by (with_reducible repeat (first | apply Kd.R_alloc | apply Kd.R_drewN | apply Kd.R_drew)); exact HO_383000.out⟩, ⟨by (with_reducible repeat (first | refine blk_drewN ?_ _ | refine blk_drew ?_ | refine blk_alloc ?_ _)); exact BK382.out⟩, ⟨by repeat (first | (with_reducible first | exact HB.out | apply below_alloc | apply pw_below_drewN | apply below_drew1 | refine below_set ?_ GE382.out) | exact HB.out)⟩⟩
                     ·rw [if_neg c49] at H
                      have c49b0 : (((rd_T26 l0 x8_3).f1) == t379) = false := beq_eq_false_iff_ne.mpr c49
                      have c49b1 : (((rd_T26 l0 x8_3).f1) != t379) = true := bne_iff_ne.mpr c49
                      obtain rfl := Option.some.inj H
                      have hcz51_0 : wr.cell? ⟨gb382, 0, none⟩ = some (.slice Ao6 t376.length co6) := (blk_cell BK382.out 0).trans rfl
                      have hcz51_1 : wr.cell? ⟨gb382, 1, none⟩ = some (.int .i64 t379) := (blk_cell BK382.out 1).trans rfl
                      have hfz51_0 := blk_frozen BK382.out 0
                      have hfz51_1 := blk_frozen BK382.out 1
                      have p388 : 0 ≤ (x8_3 : Int) := of_decide_eq_true (by first | (with_reducible assumption) | assumption)
                      have q388 : x8_3 < (l0.length : Int) := of_decide_eq_true (by first | (with_reducible assumption) | assumption)
                      obtain ⟨ad388, e388, hx388_0, hx388_1, hx388_2, hx388_3⟩ := at_T26 HR0.out x8_3 p388 q388
                      (try rw [← Nbq47.out] at hx388_3)
                      cases e388
                      replace hx388_0 := (HB.out.cell (World.block_lt_of_cell? w _ hx388_0)).trans hx388_0
                      replace hx388_1 := (HB.out.cell (World.block_lt_of_cell? w _ hx388_1)).trans hx388_1
                      replace hx388_2 := (HB.out.cell (World.block_lt_of_cell? w _ hx388_2)).trans hx388_2
                      replace hx388_3 := (HB.out.cell (World.block_lt_of_cell? w _ hx388_3)).trans hx388_3
                      replace p388 := eq_true p388
                      replace q388 := eq_true q388
                      have p391 : 0 ≤ (x8_3 : Int) := of_decide_eq_true (by first | (with_reducible assumption) | assumption)
                      have q391 : x8_3 < (l0.length : Int) := of_decide_eq_true (by first | (with_reducible assumption) | assumption)
                      obtain ⟨ad391, e391, hx391_0, hx391_1, hx391_2, hx391_3⟩ := at_T26 HR0.out x8_3 p391 q391
                      (try rw [← Nbq47.out] at hx391_3)
                      obtain rfl : ad388 = ad391 := (by injection e391)
                      replace hx391_0 := (HB.out.cell (World.block_lt_of_cell? w _ hx391_0)).trans hx391_0
                      replace hx391_1 := (HB.out.cell (World.block_lt_of_cell? w _ hx391_1)).trans hx391_1
                      replace hx391_2 := (HB.out.cell (World.block_lt_of_cell? w _ hx391_2)).trans hx391_2
                      replace hx391_3 := (HB.out.cell (World.block_lt_of_cell? w _ hx391_3)).trans hx391_3
                      replace p391 := eq_true p391
                      replace q391 := eq_true q391
                      have p392 : 0 ≤ (x8_3 : Int) := of_decide_eq_true (by first | (with_reducible assumption) | assumption)
                      have q392 : x8_3 < (l0.length : Int) := of_decide_eq_true (by first | (with_reducible assumption) | assumption)
                      obtain ⟨ad392, e392, hx392_0, hx392_1, hx392_2, hx392_3⟩ := at_T26 HR0.out x8_3 p392 q392
                      (try rw [← Nbq47.out] at hx392_3)
                      obtain rfl : ad388 = ad392 := (by injection e392)
                      replace hx392_0 := (HB.out.cell (World.block_lt_of_cell? w _ hx392_0)).trans hx392_0
                      replace hx392_1 := (HB.out.cell (World.block_lt_of_cell? w _ hx392_1)).trans hx392_1
                      replace hx392_2 := (HB.out.cell (World.block_lt_of_cell? w _ hx392_2)).trans hx392_2
                      replace hx392_3 := (HB.out.cell (World.block_lt_of_cell? w _ hx392_3)).trans hx392_3
                      replace p392 := eq_true p392
                      replace q392 := eq_true q392
                      have p393 : 0 ≤ (x8_3 : Int) := of_decide_eq_true (by first | (with_reducible assumption) | assumption)
                      have q393 : x8_3 < (l0.length : Int) := of_decide_eq_true (by first | (with_reducible assumption) | assumption)
                      obtain ⟨ad393, e393, hx393_0, hx393_1, hx393_2, hx393_3⟩ := at_T26 HR0.out x8_3 p393 q393
                      (try rw [← Nbq47.out] at hx393_3)
                      obtain rfl : ad388 = ad393 := (by injection e393)
                      replace hx393_0 := (HB.out.cell (World.block_lt_of_cell? w _ hx393_0)).trans hx393_0
                      replace hx393_1 := (HB.out.cell (World.block_lt_of_cell? w _ hx393_1)).trans hx393_1
                      replace hx393_2 := (HB.out.cell (World.block_lt_of_cell? w _ hx393_2)).trans hx393_2
                      replace hx393_3 := (HB.out.cell (World.block_lt_of_cell? w _ hx393_3)).trans hx393_3
                      replace p393 := eq_true p393
                      replace q393 := eq_true q393
                      go_wp2
                      repeat (go_quiet (fail); try go_wp2)
                      go_ret
                      exact ⟨by first | rfl | (simp [errW_none, errW_some] <;> rfl) | (simp [*, errW_none, errW_some] <;> rfl) | (exfalso; simp_all; done), by repeat (first | (with_reducible first | exact HB.out | apply below_alloc | apply pw_below_drewN | apply below_drew1 | refine below_set ?_ GE382.out) | exact HB.out)⟩
                    ·replace c48 := Bool.eq_false_iff.mpr c48
                     subst c48
                     have H1 : (some false) = some r := by rw [if_neg (show ¬ (false = true) by decide)] at H; exact H
                     clear H
                     have H := H1
                     clear H1
                     obtain rfl := Option.some.inj H
                     have hcz52_0 : wr.cell? ⟨gb382, 0, none⟩ = some (.slice Ao6 t376.length co6) := (blk_cell BK382.out 0).trans rfl
                     have hcz52_1 : wr.cell? ⟨gb382, 1, none⟩ = some (.int .i64 t379) := (blk_cell BK382.out 1).trans rfl
                     have hfz52_0 := blk_frozen BK382.out 0
                     have hfz52_1 := blk_frozen BK382.out 1
                     have p388 : 0 ≤ (x8_3 : Int) := of_decide_eq_true (by first | (with_reducible assumption) | assumption)
                     have q388 : x8_3 < (l0.length : Int) := of_decide_eq_true (by first | (with_reducible assumption) | assumption)
                     obtain ⟨ad388, e388, hx388_0, hx388_1, hx388_2, hx388_3⟩ := at_T26 HR0.out x8_3 p388 q388
                     (try rw [← Nbq47.out] at hx388_3)
                     cases e388
                     replace hx388_0 := (HB.out.cell (World.block_lt_of_cell? w _ hx388_0)).trans hx388_0
                     replace hx388_1 := (HB.out.cell (World.block_lt_of_cell? w _ hx388_1)).trans hx388_1
                     replace hx388_2 := (HB.out.cell (World.block_lt_of_cell? w _ hx388_2)).trans hx388_2
                     replace hx388_3 := (HB.out.cell (World.block_lt_of_cell? w _ hx388_3)).trans hx388_3
                     replace p388 := eq_true p388
                     replace q388 := eq_true q388
                     have p391 : 0 ≤ (x8_3 : Int) := of_decide_eq_true (by first | (with_reducible assumption) | assumption)
                     have q391 : x8_3 < (l0.length : Int) := of_decide_eq_true (by first | (with_reducible assumption) | assumption)
                     obtain ⟨ad391, e391, hx391_0, hx391_1, hx391_2, hx391_3⟩ := at_T26 HR0.out x8_3 p391 q391
                     (try rw [← Nbq47.out] at hx391_3)
                     obtain rfl : ad388 = ad391 := (by injection e391)
                     replace hx391_0 := (HB.out.cell (World.block_lt_of_cell? w _ hx391_0)).trans hx391_0
                     replace hx391_1 := (HB.out.cell (World.block_lt_of_cell? w _ hx391_1)).trans hx391_1
                     replace hx391_2 := (HB.out.cell (World.block_lt_of_cell? w _ hx391_2)).trans hx391_2
                     replace hx391_3 := (HB.out.cell (World.block_lt_of_cell? w _ hx391_3)).trans hx391_3
                     replace p391 := eq_true p391
                     replace q391 := eq_true q391
                     have p392 : 0 ≤ (x8_3 : Int) := of_decide_eq_true (by first | (with_reducible assumption) | assumption)
                     have q392 : x8_3 < (l0.length : Int) := of_decide_eq_true (by first | (with_reducible assumption) | assumption)
                     obtain ⟨ad392, e392, hx392_0, hx392_1, hx392_2, hx392_3⟩ := at_T26 HR0.out x8_3 p392 q392
                     (try rw [← Nbq47.out] at hx392_3)
                     obtain rfl : ad388 = ad392 := (by injection e392)
                     replace hx392_0 := (HB.out.cell (World.block_lt_of_cell? w _ hx392_0)).trans hx392_0
                     replace hx392_1 := (HB.out.cell (World.block_lt_of_cell? w _ hx392_1)).trans hx392_1
                     replace hx392_2 := (HB.out.cell (World.block_lt_of_cell? w _ hx392_2)).trans hx392_2
                     replace hx392_3 := (HB.out.cell (World.block_lt_of_cell? w _ hx392_3)).trans hx392_3
                     replace p392 := eq_true p392
                     replace q392 := eq_true q392
                     go_wp2
                     repeat (go_quiet (fail); try go_wp2)
                     go_ret
                     exact ⟨by first | rfl | (simp [errW_none, errW_some] <;> rfl) | (simp [*, errW_none, errW_some] <;> rfl) | (exfalso; simp_all; done), by repeat (first | (with_reducible first | exact HB.out | apply below_alloc | apply pw_below_drewN | apply below_drew1 | refine below_set ?_ GE382.out) | exact HB.out)⟩
                   ·replace c46 := Bool.eq_false_iff.mpr c46
                    subst c46
                    have H1 : (rickyardlaw16_PickAll.l1 k4 l0 x6_2 (wrap64 (x8_3 + 1)) t376 t379) = some r := by rw [if_neg (show ¬ (false = true) by decide)] at H; exact H
                    clear H
                    have H := H1
                    clear H1
                    have H' := Aside0.mk H
                    clear H
                    have hcz53_0 : wr.cell? ⟨gb382, 0, none⟩ = some (.slice Ao6 t376.length co6) := (blk_cell BK382.out 0).trans rfl
                    have hcz53_1 : wr.cell? ⟨gb382, 1, none⟩ = some (.int .i64 t379) := (blk_cell BK382.out 1).trans rfl
                    have hfz53_0 := blk_frozen BK382.out 0
                    have hfz53_1 := blk_frozen BK382.out 1
                    have p388 : 0 ≤ (x8_3 : Int) := of_decide_eq_true (by first | (with_reducible assumption) | assumption)
                    have q388 : x8_3 < (l0.length : Int) := of_decide_eq_true (by first | (with_reducible assumption) | assumption)
                    obtain ⟨ad388, e388, hx388_0, hx388_1, hx388_2, hx388_3⟩ := at_T26 HR0.out x8_3 p388 q388
                    cases e388
                    replace hx388_0 := (HB.out.cell (World.block_lt_of_cell? w _ hx388_0)).trans hx388_0
                    replace hx388_1 := (HB.out.cell (World.block_lt_of_cell? w _ hx388_1)).trans hx388_1
                    replace hx388_2 := (HB.out.cell (World.block_lt_of_cell? w _ hx388_2)).trans hx388_2
                    replace hx388_3 := (HB.out.cell (World.block_lt_of_cell? w _ hx388_3)).trans hx388_3
                    replace p388 := eq_true p388
                    replace q388 := eq_true q388
                    have p391 : 0 ≤ (x8_3 : Int) := of_decide_eq_true (by first | (with_reducible assumption) | assumption)
                    have q391 : x8_3 < (l0.length : Int) := of_decide_eq_true (by first | (with_reducible assumption) | assumption)
                    obtain ⟨ad391, e391, hx391_0, hx391_1, hx391_2, hx391_3⟩ := at_T26 HR0.out x8_3 p391 q391
                    obtain rfl : ad388 = ad391 := (by injection e391)
                    replace hx391_0 := (HB.out.cell (World.block_lt_of_cell? w _ hx391_0)).trans hx391_0
                    replace hx391_1 := (HB.out.cell (World.block_lt_of_cell? w _ hx391_1)).trans hx391_1
                    replace hx391_2 := (HB.out.cell (World.block_lt_of_cell? w _ hx391_2)).trans hx391_2
                    replace hx391_3 := (HB.out.cell (World.block_lt_of_cell? w _ hx391_3)).trans hx391_3
                    replace p391 := eq_true p391
                    replace q391 := eq_true q391
                    go_wp2
                    repeat (go_quiet (fail); try go_wp2)
                    go_roundg k4
                    case measure => have := HJ2.out; have := HK2.out; have := HK3.out; have := HK4.out; omega
                    case rel => exact ⟨(wrap64 (x8_3 + 1)), (by first | rfl | (simp; done) | (simp [*]; done)), H', ⟨by have := HJ2.out; have := HK2.out; have := HK3.out; have := HK4.out; omega⟩, ⟨by (with_reducible repeat (first | apply Kd.R_alloc | apply Kd.R_drewN | apply Kd.R_drew)); exact HO_383000.out⟩, ⟨by (with_reducible repeat (first | refine blk_drewN ?_ _ | refine blk_drew ?_ | refine blk_alloc ?_ _)); exact BK382.out⟩, ⟨by repeat (first | (with_reducible first | exact HB.out | apply below_alloc | apply pw_below_drewN | apply below_drew1 | refine below_set ?_ GE382.out) | exact HB.out)⟩⟩
                  ·rw [if_neg c45] at H
                   have c45b0 : decide (x6_2 < 0) = false := decide_eq_false c45
                   clear c45
                   have H' := Aside0.mk H
                   clear H
                   have hcz54_0 : wr.cell? ⟨gb382, 0, none⟩ = some (.slice Ao6 t376.length co6) := (blk_cell BK382.out 0).trans rfl
                   have hcz54_1 : wr.cell? ⟨gb382, 1, none⟩ = some (.int .i64 t379) := (blk_cell BK382.out 1).trans rfl
                   have hfz54_0 := blk_frozen BK382.out 0
                   have hfz54_1 := blk_frozen BK382.out 1
                   have p388 : 0 ≤ (x8_3 : Int) := of_decide_eq_true (by first | (with_reducible assumption) | assumption)
                   have q388 : x8_3 < (l0.length : Int) := of_decide_eq_true (by first | (with_reducible assumption) | assumption)
                   obtain ⟨ad388, e388, hx388_0, hx388_1, hx388_2, hx388_3⟩ := at_T26 HR0.out x8_3 p388 q388
                   cases e388
                   replace hx388_0 := (HB.out.cell (World.block_lt_of_cell? w _ hx388_0)).trans hx388_0
                   replace hx388_1 := (HB.out.cell (World.block_lt_of_cell? w _ hx388_1)).trans hx388_1
                   replace hx388_2 := (HB.out.cell (World.block_lt_of_cell? w _ hx388_2)).trans hx388_2
                   replace hx388_3 := (HB.out.cell (World.block_lt_of_cell? w _ hx388_3)).trans hx388_3
                   replace p388 := eq_true p388
                   replace q388 := eq_true q388
                   have p391 : 0 ≤ (x8_3 : Int) := of_decide_eq_true (by first | (with_reducible assumption) | assumption)
                   have q391 : x8_3 < (l0.length : Int) := of_decide_eq_true (by first | (with_reducible assumption) | assumption)
                   obtain ⟨ad391, e391, hx391_0, hx391_1, hx391_2, hx391_3⟩ := at_T26 HR0.out x8_3 p391 q391
                   obtain rfl : ad388 = ad391 := (by injection e391)
                   replace hx391_0 := (HB.out.cell (World.block_lt_of_cell? w _ hx391_0)).trans hx391_0
                   replace hx391_1 := (HB.out.cell (World.block_lt_of_cell? w _ hx391_1)).trans hx391_1
                   replace hx391_2 := (HB.out.cell (World.block_lt_of_cell? w _ hx391_2)).trans hx391_2
                   replace hx391_3 := (HB.out.cell (World.block_lt_of_cell? w _ hx391_3)).trans hx391_3
                   replace p391 := eq_true p391
                   replace q391 := eq_true q391
                   go_wp2
                   repeat (go_quiet (fail); try go_wp2)
                   go_roundg k4
                   case measure => have := HJ2.out; have := HK2.out; have := HK3.out; have := HK4.out; omega
                   case rel => exact ⟨(wrap64 (x8_3 + 1)), (by first | rfl | (simp; done) | (simp [*]; done)), H', ⟨by have := HJ2.out; have := HK2.out; have := HK3.out; have := HK4.out; omega⟩, ⟨by (with_reducible repeat (first | apply Kd.R_alloc | apply Kd.R_drewN | apply Kd.R_drew)); exact HO_383000.out⟩, ⟨by (with_reducible repeat (first | refine blk_drewN ?_ _ | refine blk_drew ?_ | refine blk_alloc ?_ _)); exact BK382.out⟩, ⟨by repeat (first | (with_reducible first | exact HB.out | apply below_alloc | apply pw_below_drewN | apply below_drew1 | refine below_set ?_ GE382.out) | exact HB.out)⟩⟩
               ·rw [if_neg c29] at H
                exact absurd H (by simp)
              ·rw [if_neg c28] at H
               exact absurd H (by simp)
             ·rw [if_neg c27] at H
              have c27b0 : decide (0 ≤ x6_2) = false := decide_eq_false c27
              clear c27
              by_cases c55 : x6_2 < 0
              ·rw [if_pos c55] at H
               have c55b0 : decide (x6_2 < 0) = true := decide_eq_true c55
               clear c55
               by_cases c56 : x9_4 = true
               ·subst c56
                have H1 : (if 0 ≤ x8_3 then (if x8_3 < (l0.length : Int) then (if ((rd_T26 l0 x8_3).f3 = true) then (if ((rd_T26 l0 x8_3).f1) = t379 then (rickyardlaw16_PickAll.l1 k4 l0 x6_2 (wrap64 (x8_3 + 1)) t376 t379) else (some false)) else (some false)) else (none)) else (none)) = some r := by rw [if_pos rfl] at H; exact H
                clear H
                have H := H1
                clear H1
                by_cases c57 : 0 ≤ x8_3
                ·rw [if_pos c57] at H
                 have c57b0 : decide (0 ≤ x8_3) = true := decide_eq_true c57
                 clear c57
                 by_cases c58 : x8_3 < (l0.length : Int)
                 ·rw [if_pos c58] at H
                  have c58b0 : decide (x8_3 < (l0.length : Int)) = true := decide_eq_true c58
                  clear c58
                  obtain ⟨bq59, hbq59⟩ : ∃ b_ : Bool, b_ = ((rd_T26 l0 x8_3).f3) := ⟨_, rfl⟩
                  replace H : (if (bq59 = true) then (if ((rd_T26 l0 x8_3).f1) = t379 then (rickyardlaw16_PickAll.l1 k4 l0 x6_2 (wrap64 (x8_3 + 1)) t376 t379) else (some false)) else (some false)) = some r := by rw [← hbq59] at H; exact H
                  have Nbq59 := Aside0.mk hbq59
                  clear hbq59
                  by_cases c60 : (bq59 = true)
                  ·subst c60
                   have H1 : (if ((rd_T26 l0 x8_3).f1) = t379 then (rickyardlaw16_PickAll.l1 k4 l0 x6_2 (wrap64 (x8_3 + 1)) t376 t379) else (some false)) = some r := by rw [if_pos rfl] at H; exact H
                   clear H
                   have H := H1
                   clear H1
                   by_cases c61 : ((rd_T26 l0 x8_3).f1) = t379
                   ·rw [if_pos c61] at H
                    have c61b0 : (((rd_T26 l0 x8_3).f1) == t379) = true := beq_iff_eq.mpr c61
                    have c61b1 : (((rd_T26 l0 x8_3).f1) != t379) = false := bne_eq_false_iff_eq.mpr c61
                    clear c61
                    have H' := Aside0.mk H
                    clear H
                    have hcz62_0 : wr.cell? ⟨gb382, 0, none⟩ = some (.slice Ao6 t376.length co6) := (blk_cell BK382.out 0).trans rfl
                    have hcz62_1 : wr.cell? ⟨gb382, 1, none⟩ = some (.int .i64 t379) := (blk_cell BK382.out 1).trans rfl
                    have hfz62_0 := blk_frozen BK382.out 0
                    have hfz62_1 := blk_frozen BK382.out 1
                    have p394 : 0 ≤ (x8_3 : Int) := of_decide_eq_true (by first | (with_reducible assumption) | assumption)
                    have q394 : x8_3 < (l0.length : Int) := of_decide_eq_true (by first | (with_reducible assumption) | assumption)
                    obtain ⟨ad394, e394, hx394_0, hx394_1, hx394_2, hx394_3⟩ := at_T26 HR0.out x8_3 p394 q394
                    (try rw [← Nbq59.out] at hx394_3)
                    cases e394
                    replace hx394_0 := (HB.out.cell (World.block_lt_of_cell? w _ hx394_0)).trans hx394_0
                    replace hx394_1 := (HB.out.cell (World.block_lt_of_cell? w _ hx394_1)).trans hx394_1
                    replace hx394_2 := (HB.out.cell (World.block_lt_of_cell? w _ hx394_2)).trans hx394_2
                    replace hx394_3 := (HB.out.cell (World.block_lt_of_cell? w _ hx394_3)).trans hx394_3
                    replace p394 := eq_true p394
                    replace q394 := eq_true q394
                    have p395 : 0 ≤ (x8_3 : Int) := of_decide_eq_true (by first | (with_reducible assumption) | assumption)
                    have q395 : x8_3 < (l0.length : Int) := of_decide_eq_true (by first | (with_reducible assumption) | assumption)
                    obtain ⟨ad395, e395, hx395_0, hx395_1, hx395_2, hx395_3⟩ := at_T26 HR0.out x8_3 p395 q395
                    (try rw [← Nbq59.out] at hx395_3)
                    obtain rfl : ad394 = ad395 := (by injection e395)
                    replace hx395_0 := (HB.out.cell (World.block_lt_of_cell? w _ hx395_0)).trans hx395_0
                    replace hx395_1 := (HB.out.cell (World.block_lt_of_cell? w _ hx395_1)).trans hx395_1
                    replace hx395_2 := (HB.out.cell (World.block_lt_of_cell? w _ hx395_2)).trans hx395_2
                    replace hx395_3 := (HB.out.cell (World.block_lt_of_cell? w _ hx395_3)).trans hx395_3
                    replace p395 := eq_true p395
                    replace q395 := eq_true q395
                    go_wp2
                    repeat (go_quiet (fail); try go_wp2)
                    go_roundg k4
                    case measure => have := HJ2.out; have := HK2.out; have := HK3.out; have := HK4.out; omega
                    case rel => exact ⟨(wrap64 (x8_3 + 1)), (by first | rfl | (simp; done) | (simp [*]; done)), H', ⟨by have := HJ2.out; have := HK2.out; have := HK3.out; have := HK4.out; omega⟩, ⟨by (with_reducible repeat (first | apply Kd.R_alloc | apply Kd.R_drewN | apply Kd.R_drew)); exact HO_383000.out⟩, ⟨by (with_reducible repeat (first | refine blk_drewN ?_ _ | refine blk_drew ?_ | refine blk_alloc ?_ _)); exact BK382.out⟩, ⟨by repeat (first | (with_reducible first | exact HB.out | apply below_alloc | apply pw_below_drewN | apply below_drew1 | refine below_set ?_ GE382.out) | exact HB.out)⟩⟩
                   ·rw [if_neg c61] at H
                    have c61b0 : (((rd_T26 l0 x8_3).f1) == t379) = false := beq_eq_false_iff_ne.mpr c61
                    have c61b1 : (((rd_T26 l0 x8_3).f1) != t379) = true := bne_iff_ne.mpr c61
                    obtain rfl := Option.some.inj H
                    have hcz63_0 : wr.cell? ⟨gb382, 0, none⟩ = some (.slice Ao6 t376.length co6) := (blk_cell BK382.out 0).trans rfl
                    have hcz63_1 : wr.cell? ⟨gb382, 1, none⟩ = some (.int .i64 t379) := (blk_cell BK382.out 1).trans rfl
                    have hfz63_0 := blk_frozen BK382.out 0
                    have hfz63_1 := blk_frozen BK382.out 1
                    have p394 : 0 ≤ (x8_3 : Int) := of_decide_eq_true (by first | (with_reducible assumption) | assumption)
                    have q394 : x8_3 < (l0.length : Int) := of_decide_eq_true (by first | (with_reducible assumption) | assumption)
                    obtain ⟨ad394, e394, hx394_0, hx394_1, hx394_2, hx394_3⟩ := at_T26 HR0.out x8_3 p394 q394
                    (try rw [← Nbq59.out] at hx394_3)
                    cases e394
                    replace hx394_0 := (HB.out.cell (World.block_lt_of_cell? w _ hx394_0)).trans hx394_0
                    replace hx394_1 := (HB.out.cell (World.block_lt_of_cell? w _ hx394_1)).trans hx394_1
                    replace hx394_2 := (HB.out.cell (World.block_lt_of_cell? w _ hx394_2)).trans hx394_2
                    replace hx394_3 := (HB.out.cell (World.block_lt_of_cell? w _ hx394_3)).trans hx394_3
                    replace p394 := eq_true p394
                    replace q394 := eq_true q394
                    have p395 : 0 ≤ (x8_3 : Int) := of_decide_eq_true (by first | (with_reducible assumption) | assumption)
                    have q395 : x8_3 < (l0.length : Int) := of_decide_eq_true (by first | (with_reducible assumption) | assumption)
                    obtain ⟨ad395, e395, hx395_0, hx395_1, hx395_2, hx395_3⟩ := at_T26 HR0.out x8_3 p395 q395
                    (try rw [← Nbq59.out] at hx395_3)
                    obtain rfl : ad394 = ad395 := (by injection e395)
                    replace hx395_0 := (HB.out.cell (World.block_lt_of_cell? w _ hx395_0)).trans hx395_0
                    replace hx395_1 := (HB.out.cell (World.block_lt_of_cell? w _ hx395_1)).trans hx395_1
                    replace hx395_2 := (HB.out.cell (World.block_lt_of_cell? w _ hx395_2)).trans hx395_2
                    replace hx395_3 := (HB.out.cell (World.block_lt_of_cell? w _ hx395_3)).trans hx395_3
                    replace p395 := eq_true p395
                    replace q395 := eq_true q395
                    go_wp2
                    repeat (go_quiet (fail); try go_wp2)
                    go_ret
                    exact ⟨by first | rfl | (simp [errW_none, errW_some] <;> rfl) | (simp [*, errW_none, errW_some] <;> rfl) | (exfalso; simp_all; done), by repeat (first | (with_reducible first | exact HB.out | apply below_alloc | apply pw_below_drewN | apply below_drew1 | refine below_set ?_ GE382.out) | exact HB.out)⟩
                  ·replace c60 := Bool.eq_false_iff.mpr c60
                   subst c60
                   have H1 : (some false) = some r := by rw [if_neg (show ¬ (false = true) by decide)] at H; exact H
                   clear H
                   have H := H1
                   clear H1
                   obtain rfl := Option.some.inj H
                   have hcz64_0 : wr.cell? ⟨gb382, 0, none⟩ = some (.slice Ao6 t376.length co6) := (blk_cell BK382.out 0).trans rfl
                   have hcz64_1 : wr.cell? ⟨gb382, 1, none⟩ = some (.int .i64 t379) := (blk_cell BK382.out 1).trans rfl
                   have hfz64_0 := blk_frozen BK382.out 0
                   have hfz64_1 := blk_frozen BK382.out 1
                   have p394 : 0 ≤ (x8_3 : Int) := of_decide_eq_true (by first | (with_reducible assumption) | assumption)
                   have q394 : x8_3 < (l0.length : Int) := of_decide_eq_true (by first | (with_reducible assumption) | assumption)
                   obtain ⟨ad394, e394, hx394_0, hx394_1, hx394_2, hx394_3⟩ := at_T26 HR0.out x8_3 p394 q394
                   (try rw [← Nbq59.out] at hx394_3)
                   cases e394
                   replace hx394_0 := (HB.out.cell (World.block_lt_of_cell? w _ hx394_0)).trans hx394_0
                   replace hx394_1 := (HB.out.cell (World.block_lt_of_cell? w _ hx394_1)).trans hx394_1
                   replace hx394_2 := (HB.out.cell (World.block_lt_of_cell? w _ hx394_2)).trans hx394_2
                   replace hx394_3 := (HB.out.cell (World.block_lt_of_cell? w _ hx394_3)).trans hx394_3
                   replace p394 := eq_true p394
                   replace q394 := eq_true q394
                   go_wp2
                   repeat (go_quiet (fail); try go_wp2)
                   go_ret
                   exact ⟨by first | rfl | (simp [errW_none, errW_some] <;> rfl) | (simp [*, errW_none, errW_some] <;> rfl) | (exfalso; simp_all; done), by repeat (first | (with_reducible first | exact HB.out | apply below_alloc | apply pw_below_drewN | apply below_drew1 | refine below_set ?_ GE382.out) | exact HB.out)⟩
                 ·rw [if_neg c58] at H
                  exact absurd H (by simp)
                ·rw [if_neg c57] at H
                 exact absurd H (by simp)
               ·replace c56 := Bool.eq_false_iff.mpr c56
                subst c56
                have H1 : (rickyardlaw16_PickAll.l1 k4 l0 x6_2 (wrap64 (x8_3 + 1)) t376 t379) = some r := by rw [if_neg (show ¬ (false = true) by decide)] at H; exact H
                clear H
                have H := H1
                clear H1
                have H' := Aside0.mk H
                clear H
                have hcz65_0 : wr.cell? ⟨gb382, 0, none⟩ = some (.slice Ao6 t376.length co6) := (blk_cell BK382.out 0).trans rfl
                have hcz65_1 : wr.cell? ⟨gb382, 1, none⟩ = some (.int .i64 t379) := (blk_cell BK382.out 1).trans rfl
                have hfz65_0 := blk_frozen BK382.out 0
                have hfz65_1 := blk_frozen BK382.out 1
                go_wp2
                repeat (go_quiet (fail); try go_wp2)
                go_roundg k4
                case measure => have := HJ2.out; have := HK2.out; have := HK3.out; have := HK4.out; omega
                case rel => exact ⟨(wrap64 (x8_3 + 1)), (by first | rfl | (simp; done) | (simp [*]; done)), H', ⟨by have := HJ2.out; have := HK2.out; have := HK3.out; have := HK4.out; omega⟩, ⟨by (with_reducible repeat (first | apply Kd.R_alloc | apply Kd.R_drewN | apply Kd.R_drew)); exact HO_383000.out⟩, ⟨by (with_reducible repeat (first | refine blk_drewN ?_ _ | refine blk_drew ?_ | refine blk_alloc ?_ _)); exact BK382.out⟩, ⟨by repeat (first | (with_reducible first | exact HB.out | apply below_alloc | apply pw_below_drewN | apply below_drew1 | refine below_set ?_ GE382.out) | exact HB.out)⟩⟩
              ·rw [if_neg c55] at H
               have c55b0 : decide (x6_2 < 0) = false := decide_eq_false c55
               clear c55
               have H' := Aside0.mk H
               clear H
               have hcz66_0 : wr.cell? ⟨gb382, 0, none⟩ = some (.slice Ao6 t376.length co6) := (blk_cell BK382.out 0).trans rfl
               have hcz66_1 : wr.cell? ⟨gb382, 1, none⟩ = some (.int .i64 t379) := (blk_cell BK382.out 1).trans rfl
               have hfz66_0 := blk_frozen BK382.out 0
               have hfz66_1 := blk_frozen BK382.out 1
               go_wp2
               repeat (go_quiet (fail); try go_wp2)
               go_roundg k4
               case measure => have := HJ2.out; have := HK2.out; have := HK3.out; have := HK4.out; omega
               case rel => exact ⟨(wrap64 (x8_3 + 1)), (by first | rfl | (simp; done) | (simp [*]; done)), H', ⟨by have := HJ2.out; have := HK2.out; have := HK3.out; have := HK4.out; omega⟩, ⟨by (with_reducible repeat (first | apply Kd.R_alloc | apply Kd.R_drewN | apply Kd.R_drew)); exact HO_383000.out⟩, ⟨by (with_reducible repeat (first | refine blk_drewN ?_ _ | refine blk_drew ?_ | refine blk_alloc ?_ _)); exact BK382.out⟩, ⟨by repeat (first | (with_reducible first | exact HB.out | apply below_alloc | apply pw_below_drewN | apply below_drew1 | refine below_set ?_ GE382.out) | exact HB.out)⟩⟩
         ·rw [if_neg c19] at H
          have c19b0 : decide (x8_3 < (l0.length : Int)) = false := decide_eq_false c19
          clear c19
          replace H := Option.bind_eq_some_iff.mp H
          obtain ⟨t385, A670, H⟩ := H
          replace H : (if t385 = true then (if x6_2 ≥ 0 then (if t379 = (wrap64 (x6_2 + 1)) then (some true) else (if x6_2 < 0 then (some ((t376.length : Int) == 1)) else (some false))) else (if x6_2 < 0 then (some ((t376.length : Int) == 1)) else (some false))) else (some false)) = some r := H
          have A67 := Aside0.mk A670
          clear A670
          by_cases c68 : t385 = true
          ·subst c68
           have H1 : (if x6_2 ≥ 0 then (if t379 = (wrap64 (x6_2 + 1)) then (some true) else (if x6_2 < 0 then (some ((t376.length : Int) == 1)) else (some false))) else (if x6_2 < 0 then (some ((t376.length : Int) == 1)) else (some false))) = some r := by rw [if_pos rfl] at H; exact H
           clear H
           have H := H1
           clear H1
           by_cases c69 : x6_2 ≥ 0
           ·rw [if_pos c69] at H
            have c69b0 : decide (0 ≤ x6_2) = true := decide_eq_true c69
            clear c69
            by_cases c70 : t379 = (wrap64 (x6_2 + 1))
            ·rw [if_pos c70] at H
             have c70b0 : (t379 == (wrap64 (x6_2 + 1))) = true := beq_iff_eq.mpr c70
             have c70b0w : (t379 == (IntKind.i64.wrap (x6_2 + 1))) = true := by first | exact c70b0 | simpa only [i64_w] using c70b0
             have c70b1 : (t379 != (wrap64 (x6_2 + 1))) = false := bne_eq_false_iff_eq.mpr c70
             have c70b1w : (t379 != (IntKind.i64.wrap (x6_2 + 1))) = false := by first | exact c70b1 | simpa only [i64_w] using c70b1
             clear c70
             obtain rfl := Option.some.inj H
             go_wp2_with (first | (go_at_call 10; (with_reducible refine (rickyardlaw16_alive.calls  true _ A67.out).mono ?_); rintro e w71 ⟨rfl, hb⟩; have n0_ := Aside0.mk (Kd.R_below (by (with_reducible repeat (first | apply Kd.R_alloc | apply Kd.R_drewN | apply Kd.R_drew)); exact HO_383000.out) hb); have n1_ := Aside0.mk (blk_below (g := gb382) (o := .cells #[.slice Ao6 t376.length co6, .int .i64 t379] 29 (0, 0)) (by (with_reducible repeat (first | refine blk_drewN ?_ _ | refine blk_drew ?_ | refine blk_alloc ?_ _)); exact BK382.out) hb); have n2_ := Aside0.mk (below_step (by repeat (first | (with_reducible first | exact HB.out | apply below_alloc | apply pw_below_drewN | apply below_drew1 | refine below_set ?_ GE382.out) | exact HB.out)) hb); clear HO_383000; clear BK382; clear HB; have HO_383000 := n0_; have BK382 := n1_; have HB := n2_; clear n0_ n1_ n2_; (try clear hb); (try clear hb2); (try clear hk); (try clear hi); have hcz72_0 : w71.cell? ⟨gb382, 0, none⟩ = some (.slice Ao6 t376.length co6) := (blk_cell BK382.out 0).trans rfl; have hcz72_1 : w71.cell? ⟨gb382, 1, none⟩ = some (.int .i64 t379) := (blk_cell BK382.out 1).trans rfl; have hfz72_0 := blk_frozen BK382.out 0; have hfz72_1 := blk_frozen BK382.out 1))
             repeat (go_quiet (first | (go_at_call 10; (with_reducible refine (rickyardlaw16_alive.calls  true _ A67.out).mono ?_); rintro e w71 ⟨rfl, hb⟩; have n0_ := Aside0.mk (Kd.R_below (by (with_reducible repeat (first | apply Kd.R_alloc | apply Kd.R_drewN | apply Kd.R_drew)); exact HO_383000.out) hb); have n1_ := Aside0.mk (blk_below (g := gb382) (o := .cells #[.slice Ao6 t376.length co6, .int .i64 t379] 29 (0, 0)) (by (with_reducible repeat (first | refine blk_drewN ?_ _ | refine blk_drew ?_ | refine blk_alloc ?_ _)); exact BK382.out) hb); have n2_ := Aside0.mk (below_step (by repeat (first | (with_reducible first | exact HB.out | apply below_alloc | apply pw_below_drewN | apply below_drew1 | refine below_set ?_ GE382.out) | exact HB.out)) hb); clear HO_383000; clear BK382; clear HB; have HO_383000 := n0_; have BK382 := n1_; have HB := n2_; clear n0_ n1_ n2_; (try clear hb); (try clear hb2); (try clear hk); (try clear hi); have hcz72_0 : w71.cell? ⟨gb382, 0, none⟩ = some (.slice Ao6 t376.length co6) := (blk_cell BK382.out 0).trans rfl; have hcz72_1 : w71.cell? ⟨gb382, 1, none⟩ = some (.int .i64 t379) := (blk_cell BK382.out 1).trans rfl; have hfz72_0 := blk_frozen BK382.out 0; have hfz72_1 := blk_frozen BK382.out 1)); try go_wp2_with (first | (go_at_call 10; (with_reducible refine (rickyardlaw16_alive.calls  true _ A67.out).mono ?_); rintro e w71 ⟨rfl, hb⟩; have n0_ := Aside0.mk (Kd.R_below (by (with_reducible repeat (first | apply Kd.R_alloc | apply Kd.R_drewN | apply Kd.R_drew)); exact HO_383000.out) hb); have n1_ := Aside0.mk (blk_below (g := gb382) (o := .cells #[.slice Ao6 t376.length co6, .int .i64 t379] 29 (0, 0)) (by (with_reducible repeat (first | refine blk_drewN ?_ _ | refine blk_drew ?_ | refine blk_alloc ?_ _)); exact BK382.out) hb); have n2_ := Aside0.mk (below_step (by repeat (first | (with_reducible first | exact HB.out | apply below_alloc | apply pw_below_drewN | apply below_drew1 | refine below_set ?_ GE382.out) | exact HB.out)) hb); clear HO_383000; clear BK382; clear HB; have HO_383000 := n0_; have BK382 := n1_; have HB := n2_; clear n0_ n1_ n2_; (try clear hb); (try clear hb2); (try clear hk); (try clear hi); have hcz72_0 : w71.cell? ⟨gb382, 0, none⟩ = some (.slice Ao6 t376.length co6) := (blk_cell BK382.out 0).trans rfl; have hcz72_1 : w71.cell? ⟨gb382, 1, none⟩ = some (.int .i64 t379) := (blk_cell BK382.out 1).trans rfl; have hfz72_0 := blk_frozen BK382.out 0; have hfz72_1 := blk_frozen BK382.out 1)))
             go_ret
             exact ⟨by first | rfl | (simp [errW_none, errW_some] <;> rfl) | (simp [*, errW_none, errW_some] <;> rfl) | (exfalso; simp_all; done), by repeat (first | (with_reducible first | exact HB.out | apply below_alloc | apply pw_below_drewN | apply below_drew1 | refine below_set ?_ GE382.out) | exact HB.out)⟩
            ·rw [if_neg c70] at H
             have c70b0 : (t379 == (wrap64 (x6_2 + 1))) = false := beq_eq_false_iff_ne.mpr c70
             have c70b0w : (t379 == (IntKind.i64.wrap (x6_2 + 1))) = false := by first | exact c70b0 | simpa only [i64_w] using c70b0
             have c70b1 : (t379 != (wrap64 (x6_2 + 1))) = true := bne_iff_ne.mpr c70
             have c70b1w : (t379 != (IntKind.i64.wrap (x6_2 + 1))) = true := by first | exact c70b1 | simpa only [i64_w] using c70b1
             by_cases c73 : x6_2 < 0
             ·rw [if_pos c73] at H
              have c73b0 : decide (x6_2 < 0) = true := decide_eq_true c73
              clear c73
              obtain rfl := Option.some.inj H
              go_wp2_with (first | (go_at_call 10; (with_reducible refine (rickyardlaw16_alive.calls  true _ A67.out).mono ?_); rintro e w74 ⟨rfl, hb⟩; have n0_ := Aside0.mk (Kd.R_below (by (with_reducible repeat (first | apply Kd.R_alloc | apply Kd.R_drewN | apply Kd.R_drew)); exact HO_383000.out) hb); have n1_ := Aside0.mk (blk_below (g := gb382) (o := .cells #[.slice Ao6 t376.length co6, .int .i64 t379] 29 (0, 0)) (by (with_reducible repeat (first | refine blk_drewN ?_ _ | refine blk_drew ?_ | refine blk_alloc ?_ _)); exact BK382.out) hb); have n2_ := Aside0.mk (below_step (by repeat (first | (with_reducible first | exact HB.out | apply below_alloc | apply pw_below_drewN | apply below_drew1 | refine below_set ?_ GE382.out) | exact HB.out)) hb); clear HO_383000; clear BK382; clear HB; have HO_383000 := n0_; have BK382 := n1_; have HB := n2_; clear n0_ n1_ n2_; (try clear hb); (try clear hb2); (try clear hk); (try clear hi); have hcz75_0 : w74.cell? ⟨gb382, 0, none⟩ = some (.slice Ao6 t376.length co6) := (blk_cell BK382.out 0).trans rfl; have hcz75_1 : w74.cell? ⟨gb382, 1, none⟩ = some (.int .i64 t379) := (blk_cell BK382.out 1).trans rfl; have hfz75_0 := blk_frozen BK382.out 0; have hfz75_1 := blk_frozen BK382.out 1))
              repeat (go_quiet (first | (go_at_call 10; (with_reducible refine (rickyardlaw16_alive.calls  true _ A67.out).mono ?_); rintro e w74 ⟨rfl, hb⟩; have n0_ := Aside0.mk (Kd.R_below (by (with_reducible repeat (first | apply Kd.R_alloc | apply Kd.R_drewN | apply Kd.R_drew)); exact HO_383000.out) hb); have n1_ := Aside0.mk (blk_below (g := gb382) (o := .cells #[.slice Ao6 t376.length co6, .int .i64 t379] 29 (0, 0)) (by (with_reducible repeat (first | refine blk_drewN ?_ _ | refine blk_drew ?_ | refine blk_alloc ?_ _)); exact BK382.out) hb); have n2_ := Aside0.mk (below_step (by repeat (first | (with_reducible first | exact HB.out | apply below_alloc | apply pw_below_drewN | apply below_drew1 | refine below_set ?_ GE382.out) | exact HB.out)) hb); clear HO_383000; clear BK382; clear HB; have HO_383000 := n0_; have BK382 := n1_; have HB := n2_; clear n0_ n1_ n2_; (try clear hb); (try clear hb2); (try clear hk); (try clear hi); have hcz75_0 : w74.cell? ⟨gb382, 0, none⟩ = some (.slice Ao6 t376.length co6) := (blk_cell BK382.out 0).trans rfl; have hcz75_1 : w74.cell? ⟨gb382, 1, none⟩ = some (.int .i64 t379) := (blk_cell BK382.out 1).trans rfl; have hfz75_0 := blk_frozen BK382.out 0; have hfz75_1 := blk_frozen BK382.out 1)); try go_wp2_with (first | (go_at_call 10; (with_reducible refine (rickyardlaw16_alive.calls  true _ A67.out).mono ?_); rintro e w74 ⟨rfl, hb⟩; have n0_ := Aside0.mk (Kd.R_below (by (with_reducible repeat (first | apply Kd.R_alloc | apply Kd.R_drewN | apply Kd.R_drew)); exact HO_383000.out) hb); have n1_ := Aside0.mk (blk_below (g := gb382) (o := .cells #[.slice Ao6 t376.length co6, .int .i64 t379] 29 (0, 0)) (by (with_reducible repeat (first | refine blk_drewN ?_ _ | refine blk_drew ?_ | refine blk_alloc ?_ _)); exact BK382.out) hb); have n2_ := Aside0.mk (below_step (by repeat (first | (with_reducible first | exact HB.out | apply below_alloc | apply pw_below_drewN | apply below_drew1 | refine below_set ?_ GE382.out) | exact HB.out)) hb); clear HO_383000; clear BK382; clear HB; have HO_383000 := n0_; have BK382 := n1_; have HB := n2_; clear n0_ n1_ n2_; (try clear hb); (try clear hb2); (try clear hk); (try clear hi); have hcz75_0 : w74.cell? ⟨gb382, 0, none⟩ = some (.slice Ao6 t376.length co6) := (blk_cell BK382.out 0).trans rfl; have hcz75_1 : w74.cell? ⟨gb382, 1, none⟩ = some (.int .i64 t379) := (blk_cell BK382.out 1).trans rfl; have hfz75_0 := blk_frozen BK382.out 0; have hfz75_1 := blk_frozen BK382.out 1)))
              go_ret
              exact ⟨by first | rfl | (simp [errW_none, errW_some] <;> rfl) | (simp [*, errW_none, errW_some] <;> rfl) | (exfalso; simp_all; done), by repeat (first | (with_reducible first | exact HB.out | apply below_alloc | apply pw_below_drewN | apply below_drew1 | refine below_set ?_ GE382.out) | exact HB.out)⟩
             ·rw [if_neg c73] at H
              have c73b0 : decide (x6_2 < 0) = false := decide_eq_false c73
              clear c73
              obtain rfl := Option.some.inj H
              go_wp2_with (first | (go_at_call 10; (with_reducible refine (rickyardlaw16_alive.calls  true _ A67.out).mono ?_); rintro e w76 ⟨rfl, hb⟩; have n0_ := Aside0.mk (Kd.R_below (by (with_reducible repeat (first | apply Kd.R_alloc | apply Kd.R_drewN | apply Kd.R_drew)); exact HO_383000.out) hb); have n1_ := Aside0.mk (blk_below (g := gb382) (o := .cells #[.slice Ao6 t376.length co6, .int .i64 t379] 29 (0, 0)) (by (with_reducible repeat (first | refine blk_drewN ?_ _ | refine blk_drew ?_ | refine blk_alloc ?_ _)); exact BK382.out) hb); have n2_ := Aside0.mk (below_step (by repeat (first | (with_reducible first | exact HB.out | apply below_alloc | apply pw_below_drewN | apply below_drew1 | refine below_set ?_ GE382.out) | exact HB.out)) hb); clear HO_383000; clear BK382; clear HB; have HO_383000 := n0_; have BK382 := n1_; have HB := n2_; clear n0_ n1_ n2_; (try clear hb); (try clear hb2); (try clear hk); (try clear hi); have hcz77_0 : w76.cell? ⟨gb382, 0, none⟩ = some (.slice Ao6 t376.length co6) := (blk_cell BK382.out 0).trans rfl; have hcz77_1 : w76.cell? ⟨gb382, 1, none⟩ = some (.int .i64 t379) := (blk_cell BK382.out 1).trans rfl; have hfz77_0 := blk_frozen BK382.out 0; have hfz77_1 := blk_frozen BK382.out 1))
              repeat (go_quiet (first | (go_at_call 10; (with_reducible refine (rickyardlaw16_alive.calls  true _ A67.out).mono ?_); rintro e w76 ⟨rfl, hb⟩; have n0_ := Aside0.mk (Kd.R_below (by (with_reducible repeat (first | apply Kd.R_alloc | apply Kd.R_drewN | apply Kd.R_drew)); exact HO_383000.out) hb); have n1_ := Aside0.mk (blk_below (g := gb382) (o := .cells #[.slice Ao6 t376.length co6, .int .i64 t379] 29 (0, 0)) (by (with_reducible repeat (first | refine blk_drewN ?_ _ | refine blk_drew ?_ | refine blk_alloc ?_ _)); exact BK382.out) hb); have n2_ := Aside0.mk (below_step (by repeat (first | (with_reducible first | exact HB.out | apply below_alloc | apply pw_below_drewN | apply below_drew1 | refine below_set ?_ GE382.out) | exact HB.out)) hb); clear HO_383000; clear BK382; clear HB; have HO_383000 := n0_; have BK382 := n1_; have HB := n2_; clear n0_ n1_ n2_; (try clear hb); (try clear hb2); (try clear hk); (try clear hi); have hcz77_0 : w76.cell? ⟨gb382, 0, none⟩ = some (.slice Ao6 t376.length co6) := (blk_cell BK382.out 0).trans rfl; have hcz77_1 : w76.cell? ⟨gb382, 1, none⟩ = some (.int .i64 t379) := (blk_cell BK382.out 1).trans rfl; have hfz77_0 := blk_frozen BK382.out 0; have hfz77_1 := blk_frozen BK382.out 1)); try go_wp2_with (first | (go_at_call 10; (with_reducible refine (rickyardlaw16_alive.calls  true _ A67.out).mono ?_); rintro e w76 ⟨rfl, hb⟩; have n0_ := Aside0.mk (Kd.R_below (by (with_reducible repeat (first | apply Kd.R_alloc | apply Kd.R_drewN | apply Kd.R_drew)); exact HO_383000.out) hb); have n1_ := Aside0.mk (blk_below (g := gb382) (o := .cells #[.slice Ao6 t376.length co6, .int .i64 t379] 29 (0, 0)) (by (with_reducible repeat (first | refine blk_drewN ?_ _ | refine blk_drew ?_ | refine blk_alloc ?_ _)); exact BK382.out) hb); have n2_ := Aside0.mk (below_step (by repeat (first | (with_reducible first | exact HB.out | apply below_alloc | apply pw_below_drewN | apply below_drew1 | refine below_set ?_ GE382.out) | exact HB.out)) hb); clear HO_383000; clear BK382; clear HB; have HO_383000 := n0_; have BK382 := n1_; have HB := n2_; clear n0_ n1_ n2_; (try clear hb); (try clear hb2); (try clear hk); (try clear hi); have hcz77_0 : w76.cell? ⟨gb382, 0, none⟩ = some (.slice Ao6 t376.length co6) := (blk_cell BK382.out 0).trans rfl; have hcz77_1 : w76.cell? ⟨gb382, 1, none⟩ = some (.int .i64 t379) := (blk_cell BK382.out 1).trans rfl; have hfz77_0 := blk_frozen BK382.out 0; have hfz77_1 := blk_frozen BK382.out 1)))
              go_ret
              exact ⟨by first | rfl | (simp [errW_none, errW_some] <;> rfl) | (simp [*, errW_none, errW_some] <;> rfl) | (exfalso; simp_all; done), by repeat (first | (with_reducible first | exact HB.out | apply below_alloc | apply pw_below_drewN | apply below_drew1 | refine below_set ?_ GE382.out) | exact HB.out)⟩
           ·rw [if_neg c69] at H
            have c69b0 : decide (0 ≤ x6_2) = false := decide_eq_false c69
            clear c69
            by_cases c78 : x6_2 < 0
            ·rw [if_pos c78] at H
             have c78b0 : decide (x6_2 < 0) = true := decide_eq_true c78
             clear c78
             obtain rfl := Option.some.inj H
             go_wp2_with (first | (go_at_call 10; (with_reducible refine (rickyardlaw16_alive.calls  true _ A67.out).mono ?_); rintro e w79 ⟨rfl, hb⟩; have n0_ := Aside0.mk (Kd.R_below (by (with_reducible repeat (first | apply Kd.R_alloc | apply Kd.R_drewN | apply Kd.R_drew)); exact HO_383000.out) hb); have n1_ := Aside0.mk (blk_below (g := gb382) (o := .cells #[.slice Ao6 t376.length co6, .int .i64 t379] 29 (0, 0)) (by (with_reducible repeat (first | refine blk_drewN ?_ _ | refine blk_drew ?_ | refine blk_alloc ?_ _)); exact BK382.out) hb); have n2_ := Aside0.mk (below_step (by repeat (first | (with_reducible first | exact HB.out | apply below_alloc | apply pw_below_drewN | apply below_drew1 | refine below_set ?_ GE382.out) | exact HB.out)) hb); clear HO_383000; clear BK382; clear HB; have HO_383000 := n0_; have BK382 := n1_; have HB := n2_; clear n0_ n1_ n2_; (try clear hb); (try clear hb2); (try clear hk); (try clear hi); have hcz80_0 : w79.cell? ⟨gb382, 0, none⟩ = some (.slice Ao6 t376.length co6) := (blk_cell BK382.out 0).trans rfl; have hcz80_1 : w79.cell? ⟨gb382, 1, none⟩ = some (.int .i64 t379) := (blk_cell BK382.out 1).trans rfl; have hfz80_0 := blk_frozen BK382.out 0; have hfz80_1 := blk_frozen BK382.out 1))
             repeat (go_quiet (first | (go_at_call 10; (with_reducible refine (rickyardlaw16_alive.calls  true _ A67.out).mono ?_); rintro e w79 ⟨rfl, hb⟩; have n0_ := Aside0.mk (Kd.R_below (by (with_reducible repeat (first | apply Kd.R_alloc | apply Kd.R_drewN | apply Kd.R_drew)); exact HO_383000.out) hb); have n1_ := Aside0.mk (blk_below (g := gb382) (o := .cells #[.slice Ao6 t376.length co6, .int .i64 t379] 29 (0, 0)) (by (with_reducible repeat (first | refine blk_drewN ?_ _ | refine blk_drew ?_ | refine blk_alloc ?_ _)); exact BK382.out) hb); have n2_ := Aside0.mk (below_step (by repeat (first | (with_reducible first | exact HB.out | apply below_alloc | apply pw_below_drewN | apply below_drew1 | refine below_set ?_ GE382.out) | exact HB.out)) hb); clear HO_383000; clear BK382; clear HB; have HO_383000 := n0_; have BK382 := n1_; have HB := n2_; clear n0_ n1_ n2_; (try clear hb); (try clear hb2); (try clear hk); (try clear hi); have hcz80_0 : w79.cell? ⟨gb382, 0, none⟩ = some (.slice Ao6 t376.length co6) := (blk_cell BK382.out 0).trans rfl; have hcz80_1 : w79.cell? ⟨gb382, 1, none⟩ = some (.int .i64 t379) := (blk_cell BK382.out 1).trans rfl; have hfz80_0 := blk_frozen BK382.out 0; have hfz80_1 := blk_frozen BK382.out 1)); try go_wp2_with (first | (go_at_call 10; (with_reducible refine (rickyardlaw16_alive.calls  true _ A67.out).mono ?_); rintro e w79 ⟨rfl, hb⟩; have n0_ := Aside0.mk (Kd.R_below (by (with_reducible repeat (first | apply Kd.R_alloc | apply Kd.R_drewN | apply Kd.R_drew)); exact HO_383000.out) hb); have n1_ := Aside0.mk (blk_below (g := gb382) (o := .cells #[.slice Ao6 t376.length co6, .int .i64 t379] 29 (0, 0)) (by (with_reducible repeat (first | refine blk_drewN ?_ _ | refine blk_drew ?_ | refine blk_alloc ?_ _)); exact BK382.out) hb); have n2_ := Aside0.mk (below_step (by repeat (first | (with_reducible first | exact HB.out | apply below_alloc | apply pw_below_drewN | apply below_drew1 | refine below_set ?_ GE382.out) | exact HB.out)) hb); clear HO_383000; clear BK382; clear HB; have HO_383000 := n0_; have BK382 := n1_; have HB := n2_; clear n0_ n1_ n2_; (try clear hb); (try clear hb2); (try clear hk); (try clear hi); have hcz80_0 : w79.cell? ⟨gb382, 0, none⟩ = some (.slice Ao6 t376.length co6) := (blk_cell BK382.out 0).trans rfl; have hcz80_1 : w79.cell? ⟨gb382, 1, none⟩ = some (.int .i64 t379) := (blk_cell BK382.out 1).trans rfl; have hfz80_0 := blk_frozen BK382.out 0; have hfz80_1 := blk_frozen BK382.out 1)))
             go_ret
             exact ⟨by first | rfl | (simp [errW_none, errW_some] <;> rfl) | (simp [*, errW_none, errW_some] <;> rfl) | (exfalso; simp_all; done), by repeat (first | (with_reducible first | exact HB.out | apply below_alloc | apply pw_below_drewN | apply below_drew1 | refine below_set ?_ GE382.out) | exact HB.out)⟩
            ·rw [if_neg c78] at H
             have c78b0 : decide (x6_2 < 0) = false := decide_eq_false c78
             clear c78
             obtain rfl := Option.some.inj H
             go_wp2_with (first | (go_at_call 10; (with_reducible refine (rickyardlaw16_alive.calls  true _ A67.out).mono ?_); rintro e w81 ⟨rfl, hb⟩; have n0_ := Aside0.mk (Kd.R_below (by (with_reducible repeat (first | apply Kd.R_alloc | apply Kd.R_drewN | apply Kd.R_drew)); exact HO_383000.out) hb); have n1_ := Aside0.mk (blk_below (g := gb382) (o := .cells #[.slice Ao6 t376.length co6, .int .i64 t379] 29 (0, 0)) (by (with_reducible repeat (first | refine blk_drewN ?_ _ | refine blk_drew ?_ | refine blk_alloc ?_ _)); exact BK382.out) hb); have n2_ := Aside0.mk (below_step (by repeat (first | (with_reducible first | exact HB.out | apply below_alloc | apply pw_below_drewN | apply below_drew1 | refine below_set ?_ GE382.out) | exact HB.out)) hb); clear HO_383000; clear BK382; clear HB; have HO_383000 := n0_; have BK382 := n1_; have HB := n2_; clear n0_ n1_ n2_; (try clear hb); (try clear hb2); (try clear hk); (try clear hi)))
             repeat (go_quiet (first | (go_at_call 10; (with_reducible refine (rickyardlaw16_alive.calls  true _ A67.out).mono ?_); rintro e w81 ⟨rfl, hb⟩; have n0_ := Aside0.mk (Kd.R_below (by (with_reducible repeat (first | apply Kd.R_alloc | apply Kd.R_drewN | apply Kd.R_drew)); exact HO_383000.out) hb); have n1_ := Aside0.mk (blk_below (g := gb382) (o := .cells #[.slice Ao6 t376.length co6, .int .i64 t379] 29 (0, 0)) (by (with_reducible repeat (first | refine blk_drewN ?_ _ | refine blk_drew ?_ | refine blk_alloc ?_ _)); exact BK382.out) hb); have n2_ := Aside0.mk (below_step (by repeat (first | (with_reducible first | exact HB.out | apply below_alloc | apply pw_below_drewN | apply below_drew1 | refine below_set ?_ GE382.out) | exact HB.out)) hb); clear HO_383000; clear BK382; clear HB; have HO_383000 := n0_; have BK382 := n1_; have HB := n2_; clear n0_ n1_ n2_; (try clear hb); (try clear hb2); (try clear hk); (try clear hi))); try go_wp2_with (first | (go_at_call 10; (with_reducible refine (rickyardlaw16_alive.calls  true _ A67.out).mono ?_); rintro e w81 ⟨rfl, hb⟩; have n0_ := Aside0.mk (Kd.R_below (by (with_reducible repeat (first | apply Kd.R_alloc | apply Kd.R_drewN | apply Kd.R_drew)); exact HO_383000.out) hb); have n1_ := Aside0.mk (blk_below (g := gb382) (o := .cells #[.slice Ao6 t376.length co6, .int .i64 t379] 29 (0, 0)) (by (with_reducible repeat (first | refine blk_drewN ?_ _ | refine blk_drew ?_ | refine blk_alloc ?_ _)); exact BK382.out) hb); have n2_ := Aside0.mk (below_step (by repeat (first | (with_reducible first | exact HB.out | apply below_alloc | apply pw_below_drewN | apply below_drew1 | refine below_set ?_ GE382.out) | exact HB.out)) hb); clear HO_383000; clear BK382; clear HB; have HO_383000 := n0_; have BK382 := n1_; have HB := n2_; clear n0_ n1_ n2_; (try clear hb); (try clear hb2); (try clear hk); (try clear hi))))
             go_ret
             exact ⟨by first | rfl | (simp [errW_none, errW_some] <;> rfl) | (simp [*, errW_none, errW_some] <;> rfl) | (exfalso; simp_all; done), by repeat (first | (with_reducible first | exact HB.out | apply below_alloc | apply pw_below_drewN | apply below_drew1 | refine below_set ?_ GE382.out) | exact HB.out)⟩
          ·replace c68 := Bool.eq_false_iff.mpr c68
           subst c68
           have H1 : (some false) = some r := by rw [if_neg (show ¬ (false = true) by decide)] at H; exact H
           clear H
           have H := H1
           clear H1
           obtain rfl := Option.some.inj H
           go_wp2_with (first | (go_at_call 10; (with_reducible refine (rickyardlaw16_alive.calls  false _ A67.out).mono ?_); rintro e w82 ⟨rfl, hb⟩; have n0_ := Aside0.mk (Kd.R_below (by (with_reducible repeat (first | apply Kd.R_alloc | apply Kd.R_drewN | apply Kd.R_drew)); exact HO_383000.out) hb); have n1_ := Aside0.mk (blk_below (g := gb382) (o := .cells #[.slice Ao6 t376.length co6, .int .i64 t379] 29 (0, 0)) (by (with_reducible repeat (first | refine blk_drewN ?_ _ | refine blk_drew ?_ | refine blk_alloc ?_ _)); exact BK382.out) hb); have n2_ := Aside0.mk (below_step (by repeat (first | (with_reducible first | exact HB.out | apply below_alloc | apply pw_below_drewN | apply below_drew1 | refine below_set ?_ GE382.out) | exact HB.out)) hb); clear HO_383000; clear BK382; clear HB; have HO_383000 := n0_; have BK382 := n1_; have HB := n2_; clear n0_ n1_ n2_; (try clear hb); (try clear hb2); (try clear hk); (try clear hi)))
           repeat (go_quiet (first | (go_at_call 10; (with_reducible refine (rickyardlaw16_alive.calls  false _ A67.out).mono ?_); rintro e w82 ⟨rfl, hb⟩; have n0_ := Aside0.mk (Kd.R_below (by (with_reducible repeat (first | apply Kd.R_alloc | apply Kd.R_drewN | apply Kd.R_drew)); exact HO_383000.out) hb); have n1_ := Aside0.mk (blk_below (g := gb382) (o := .cells #[.slice Ao6 t376.length co6, .int .i64 t379] 29 (0, 0)) (by (with_reducible repeat (first | refine blk_drewN ?_ _ | refine blk_drew ?_ | refine blk_alloc ?_ _)); exact BK382.out) hb); have n2_ := Aside0.mk (below_step (by repeat (first | (with_reducible first | exact HB.out | apply below_alloc | apply pw_below_drewN | apply below_drew1 | refine below_set ?_ GE382.out) | exact HB.out)) hb); clear HO_383000; clear BK382; clear HB; have HO_383000 := n0_; have BK382 := n1_; have HB := n2_; clear n0_ n1_ n2_; (try clear hb); (try clear hb2); (try clear hk); (try clear hi))); try go_wp2_with (first | (go_at_call 10; (with_reducible refine (rickyardlaw16_alive.calls  false _ A67.out).mono ?_); rintro e w82 ⟨rfl, hb⟩; have n0_ := Aside0.mk (Kd.R_below (by (with_reducible repeat (first | apply Kd.R_alloc | apply Kd.R_drewN | apply Kd.R_drew)); exact HO_383000.out) hb); have n1_ := Aside0.mk (blk_below (g := gb382) (o := .cells #[.slice Ao6 t376.length co6, .int .i64 t379] 29 (0, 0)) (by (with_reducible repeat (first | refine blk_drewN ?_ _ | refine blk_drew ?_ | refine blk_alloc ?_ _)); exact BK382.out) hb); have n2_ := Aside0.mk (below_step (by repeat (first | (with_reducible first | exact HB.out | apply below_alloc | apply pw_below_drewN | apply below_drew1 | refine below_set ?_ GE382.out) | exact HB.out)) hb); clear HO_383000; clear BK382; clear HB; have HO_383000 := n0_; have BK382 := n1_; have HB := n2_; clear n0_ n1_ n2_; (try clear hb); (try clear hb2); (try clear hk); (try clear hi))))
           go_ret
           exact ⟨by first | rfl | (simp [errW_none, errW_some] <;> rfl) | (simp [*, errW_none, errW_some] <;> rfl) | (exfalso; simp_all; done), by repeat (first | (with_reducible first | exact HB.out | apply below_alloc | apply pw_below_drewN | apply below_drew1 | refine below_set ?_ GE382.out) | exact HB.out)⟩

end Go.Proofs.Ytnbbejhbnajdbaa.PPick
