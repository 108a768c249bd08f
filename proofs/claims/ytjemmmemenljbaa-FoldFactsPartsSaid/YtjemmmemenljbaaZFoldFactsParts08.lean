import Derived.Test.YtjemmmemenljbaaZFoldFactsParts07
import Derived.Handy
section
namespace Go.Proofs.Ytjemmmemenljbaa.PFold
open Go.RowKit Go.Proofs.YtjemmmemenljbaaW.PrintWords Go.Proofs.YtjemmmemenljbaaW.PrintLast Go.Proofs.YtjemmmemenljbaaW.PrintMore
set_option linter.unusedVariables false
set_option linter.unusedSimpArgs false
set_option maxHeartbeats 8000000
set_option maxRecDepth 100000
def fold_fits.f (k : Nat) (l0_0 : List S67) (_ : Int) (l1_0 : List Int) (a1_1 : Int) (a1_2 : Bool) (a1_3 : Int) (a1_4 : Int) (a1_5 : Int) (a1_6 : Int) : Option (Bool) := (key_Read.f k l1_0).bind fun bt666 => (if bt666.2.2.2 = 0 then (if bt666.2.2.1 < (l0_0.length : Int) then (if 0 ≤ bt666.2.2.1 then (if ((rd_T67 l0_0 bt666.2.2.1).f0) = 0 then (none) else (if (Int.tmod bt666.2.1 ((rd_T67 l0_0 bt666.2.2.1).f0)) = 0 then (if a1_1 = 0 then (some false) else ((agg_Right.f a1_1 a1_2 a1_3 a1_4 a1_5 a1_6).bind fun t674 => (some t674))) else (some false))) else (none)) else (some false)) else (some false))
theorem fold_fits.calls (k : Nat) (A0_0 : Option Addr) (c0_0 : Nat) (l0_0 : List S67) (a0_1 : Int) (A1_0 : Option Addr) (c1_0 : Nat) (l1_0 : List Int) (a1_1 : Int) (a1_2 : Bool) (a1_3 : Int) (a1_4 : Int) (a1_5 : Int) (a1_6 : Int) (r : Bool) (w : World) (hr0_0 : Kd.C k67 w A0_0 l0_0.length l0_0) (hc0_0 : l0_0.length ≤ c0_0) (hr1_0 : Kd.C (Kd.int .u8) w A1_0 l1_0.length l1_0) (hc1_0 : l1_0.length ≤ c1_0) (h : fold_fits.f k l0_0 a0_1 l1_0 a1_1 a1_2 a1_3 a1_4 a1_5 a1_6 = some r) :
    Calls Try.prog 54 #[.agg #[.slice A0_0 l0_0.length c0_0, .int .i64 a0_1], .agg #[.slice A1_0 l1_0.length c1_0, .int .u64 a1_1, .bool a1_2, .int .i64 a1_3, .int .u64 a1_4, .int .i64 a1_5, .int .i64 a1_6]] w fun e w' => e = .returned (.bool r) ∧ Below w.heap.size w w' := by
  have HG := Lib.hid hr0_0; have HC := Lib.hid hr1_0; clear hr0_0 hr1_0
  unfold fold_fits.f at h
  obtain ⟨⟨ds, fr, g, er⟩, hk, h2⟩ := Option.bind_eq_some_iff.mp h
  have HK := Lib.hid hk; clear h hk
  simp only at h2
  have HBX := Lib.hid (blk_new w (.cells #[.slice A0_0 l0_0.length c0_0, .int .i64 a0_1] 24))
  have HB0 : Hid (Below w.heap.size w (w.alloc (.cells #[.slice A0_0 l0_0.length c0_0, .int .i64 a0_1] 24))) := Lib.hid (below_alloc (Below.refl _ _) _)
  have HBY : Hid (((w.alloc (.cells #[.slice A0_0 l0_0.length c0_0, .int .i64 a0_1] 24)).alloc (.cells #[.slice A1_0 l1_0.length c1_0, .int .u64 a1_1, .bool a1_2, .int .i64 a1_3, .int .u64 a1_4, .int .i64 a1_5, .int .i64 a1_6] 51)).heap[w.heap.size + 1]? = some (.cells #[.slice A1_0 l1_0.length c1_0, .int .u64 a1_1, .bool a1_2, .int .i64 a1_3, .int .u64 a1_4, .int .i64 a1_5, .int .i64 a1_6] 51 (0, 0))) := Lib.hid (by
    have := blk_new (w.alloc (.cells #[.slice A0_0 l0_0.length c0_0, .int .i64 a0_1] 24)) (.cells #[.slice A1_0 l1_0.length c1_0, .int .u64 a1_1, .bool a1_2, .int .i64 a1_3, .int .u64 a1_4, .int .i64 a1_5, .int .i64 a1_6] 51)
    simpa using this)
  by_cases he : er = 0
  case neg =>
    rw [if_neg he] at h2
    obtain rfl := Option.some.inj h2
    clear h2
    have e1 : (er == 0) = false := beq_eq_false_iff_ne.mpr he
    clear he
    go_enter Try.func54, Try.ntmps54
    go_wp2_with (go_at_call 72; refine (key_Read.calls k A1_0 c1_0 l1_0 _ _ _ _ _ (Kd.C_below HC.out (below_alloc HB0.out _)) hc1_0 HK.out).mono ?_; rintro e w1 ⟨v0, rfl, hr, hb⟩; obtain ⟨Av, cv, hv⟩ := Kd.R_slice hr; subst hv; have HB1 := Lib.hid (below_step (below_alloc HB0.out (.cells #[.slice A1_0 l1_0.length c1_0, .int .u64 a1_1, .bool a1_2, .int .i64 a1_3, .int .u64 a1_4, .int .i64 a1_5, .int .i64 a1_6] 51)) hb); clear hr hb)
    go_quiet (fail)
    go_wp2
    go_ret
    exact ⟨rfl, pw_below_drewN (below_alloc HB1.out _) _⟩
  case pos =>
    subst he
    rw [if_pos rfl] at h2
    have e1 : ((0 : Int) == 0) = true := rfl
    by_cases hg : g < (l0_0.length : Int)
    case neg =>
      rw [if_neg hg] at h2
      obtain rfl := Option.some.inj h2
      clear h2
      have e2 : decide (g < (l0_0.length : Int)) = false := decide_eq_false hg
      clear hg
      go_enter Try.func54, Try.ntmps54
      go_wp2_with (go_at_call 72; refine (key_Read.calls k A1_0 c1_0 l1_0 _ _ _ _ _ (Kd.C_below HC.out (below_alloc HB0.out _)) hc1_0 HK.out).mono ?_; rintro e w1 ⟨v0, rfl, hr, hb⟩; obtain ⟨Av, cv, hv⟩ := Kd.R_slice hr; subst hv; have HB1 := Lib.hid (below_step (below_alloc HB0.out (.cells #[.slice A1_0 l1_0.length c1_0, .int .u64 a1_1, .bool a1_2, .int .i64 a1_3, .int .u64 a1_4, .int .i64 a1_5, .int .i64 a1_6] 51)) hb); have hq1 := (blk_cell (blk_new w1 (.cells #[.slice Av ds.length cv, .int .i64 fr, .int .i64 g] 62)) 1).trans (show _ = some (Value.int .i64 fr) from rfl); have hq2 := (blk_cell (blk_new w1 (.cells #[.slice Av ds.length cv, .int .i64 fr, .int .i64 g] 62)) 2).trans (show _ = some (Value.int .i64 g) from rfl); have hbx := blk_alloc (blk_below (blk_alloc HBX.out (.cells #[.slice A1_0 l1_0.length c1_0, .int .u64 a1_1, .bool a1_2, .int .i64 a1_3, .int .u64 a1_4, .int .i64 a1_5, .int .i64 a1_6] 51)) hb) (.cells #[.slice Av ds.length cv, .int .i64 fr, .int .i64 g] 62); have hby := blk_alloc (blk_below HBY.out hb) (.cells #[.slice Av ds.length cv, .int .i64 fr, .int .i64 g] 62); have hp0 := (blk_cell hbx 0).trans (show _ = some (Value.slice A0_0 l0_0.length c0_0) from rfl); have hy1 := (blk_cell hby 1).trans (show _ = some (Value.int .u64 a1_1) from rfl); have hy2 := (blk_cell hby 2).trans (show _ = some (Value.bool a1_2) from rfl); have hy3 := (blk_cell hby 3).trans (show _ = some (Value.int .i64 a1_3) from rfl); have hy4 := (blk_cell hby 4).trans (show _ = some (Value.int .u64 a1_4) from rfl); have hy5 := (blk_cell hby 5).trans (show _ = some (Value.int .i64 a1_5) from rfl); have hy6 := (blk_cell hby 6).trans (show _ = some (Value.int .i64 a1_6) from rfl); clear hr hb hbx hby)
      go_quiet (fail)
      go_wp2
      go_ret
      exact ⟨rfl, pw_below_drewN (below_alloc HB1.out _) _⟩

    rw [if_pos hg] at h2
    have e2 : decide (g < (l0_0.length : Int)) = true := decide_eq_true hg
    by_cases hg0 : 0 ≤ g
    case neg => rw [if_neg hg0] at h2; cases h2
    rw [if_pos hg0] at h2
    obtain ⟨ad, ha, hx0, _⟩ := at_T67 HG.out g hg0 hg
    subst ha
    obtain ⟨s, hs⟩ : ∃ s, s = (rd_T67 l0_0 g).f0 := ⟨_, rfl⟩
    rw [← hs] at h2 hx0
    clear hs
    have e3 : (0 ≤ g) = True := eq_true hg0
    have e4 : (g < (l0_0.length : Int)) = True := eq_true hg
    by_cases hz : s = 0
    case pos => rw [if_pos hz] at h2; cases h2
    rw [if_neg hz] at h2
    have e5 : (s == 0) = false := beq_eq_false_iff_ne.mpr hz
    by_cases hm : Int.tmod fr s = 0
    case neg =>
      rw [if_neg hm] at h2
      obtain rfl := Option.some.inj h2
      clear h2
      have e6 : (Int.tmod fr s == 0) = false := beq_eq_false_iff_ne.mpr hm
      clear hm hg hg0
      go_enter Try.func54, Try.ntmps54
      go_wp2_with (go_at_call 72; refine (key_Read.calls k A1_0 c1_0 l1_0 _ _ _ _ _ (Kd.C_below HC.out (below_alloc HB0.out _)) hc1_0 HK.out).mono ?_; rintro e w1 ⟨v0, rfl, hr, hb⟩; obtain ⟨Av, cv, hv⟩ := Kd.R_slice hr; subst hv; have HB1 := Lib.hid (below_step (below_alloc HB0.out (.cells #[.slice A1_0 l1_0.length c1_0, .int .u64 a1_1, .bool a1_2, .int .i64 a1_3, .int .u64 a1_4, .int .i64 a1_5, .int .i64 a1_6] 51)) hb); have hq1 := (blk_cell (blk_new w1 (.cells #[.slice Av ds.length cv, .int .i64 fr, .int .i64 g] 62)) 1).trans (show _ = some (Value.int .i64 fr) from rfl); have hq2 := (blk_cell (blk_new w1 (.cells #[.slice Av ds.length cv, .int .i64 fr, .int .i64 g] 62)) 2).trans (show _ = some (Value.int .i64 g) from rfl); have hbx := blk_alloc (blk_below (blk_alloc HBX.out (.cells #[.slice A1_0 l1_0.length c1_0, .int .u64 a1_1, .bool a1_2, .int .i64 a1_3, .int .u64 a1_4, .int .i64 a1_5, .int .i64 a1_6] 51)) hb) (.cells #[.slice Av ds.length cv, .int .i64 fr, .int .i64 g] 62); have hby := blk_alloc (blk_below HBY.out hb) (.cells #[.slice Av ds.length cv, .int .i64 fr, .int .i64 g] 62); have hp0 := (blk_cell hbx 0).trans (show _ = some (Value.slice (some ad) l0_0.length c0_0) from rfl); have hy1 := (blk_cell hby 1).trans (show _ = some (Value.int .u64 a1_1) from rfl); have hy2 := (blk_cell hby 2).trans (show _ = some (Value.bool a1_2) from rfl); have hy3 := (blk_cell hby 3).trans (show _ = some (Value.int .i64 a1_3) from rfl); have hy4 := (blk_cell hby 4).trans (show _ = some (Value.int .u64 a1_4) from rfl); have hy5 := (blk_cell hby 5).trans (show _ = some (Value.int .i64 a1_5) from rfl); have hy6 := (blk_cell hby 6).trans (show _ = some (Value.int .i64 a1_6) from rfl); have hs0 := ((below_alloc HB1.out (.cells #[.slice Av ds.length cv, .int .i64 fr, .int .i64 g] 62)).cell (World.block_lt_of_cell? w _ hx0)).trans hx0; clear hr hb hbx hby)
      go_quiet (fail)
      go_wp2
      go_ret
      exact ⟨rfl, pw_below_drewN (below_alloc HB1.out _) _⟩

    rw [if_pos hm] at h2
    have e6 : (Int.tmod fr s == 0) = true := beq_iff_eq.mpr hm
    by_cases hc : a1_1 = 0
    case pos =>
      rw [if_pos hc] at h2
      obtain rfl := Option.some.inj h2
      clear h2
      have e7 : (a1_1 != 0) = false := bne_eq_false_iff_eq.mpr hc
      have e8 : (a1_1 == 0) = true := beq_iff_eq.mpr hc
      clear hm hg hg0 hc
      go_enter Try.func54, Try.ntmps54
      go_wp2_with (go_at_call 72; refine (key_Read.calls k A1_0 c1_0 l1_0 _ _ _ _ _ (Kd.C_below HC.out (below_alloc HB0.out _)) hc1_0 HK.out).mono ?_; rintro e w1 ⟨v0, rfl, hr, hb⟩; obtain ⟨Av, cv, hv⟩ := Kd.R_slice hr; subst hv; have HB1 := Lib.hid (below_step (below_alloc HB0.out (.cells #[.slice A1_0 l1_0.length c1_0, .int .u64 a1_1, .bool a1_2, .int .i64 a1_3, .int .u64 a1_4, .int .i64 a1_5, .int .i64 a1_6] 51)) hb); have hq1 := (blk_cell (blk_new w1 (.cells #[.slice Av ds.length cv, .int .i64 fr, .int .i64 g] 62)) 1).trans (show _ = some (Value.int .i64 fr) from rfl); have hq2 := (blk_cell (blk_new w1 (.cells #[.slice Av ds.length cv, .int .i64 fr, .int .i64 g] 62)) 2).trans (show _ = some (Value.int .i64 g) from rfl); have hbx := blk_alloc (blk_below (blk_alloc HBX.out (.cells #[.slice A1_0 l1_0.length c1_0, .int .u64 a1_1, .bool a1_2, .int .i64 a1_3, .int .u64 a1_4, .int .i64 a1_5, .int .i64 a1_6] 51)) hb) (.cells #[.slice Av ds.length cv, .int .i64 fr, .int .i64 g] 62); have hby := blk_alloc (blk_below HBY.out hb) (.cells #[.slice Av ds.length cv, .int .i64 fr, .int .i64 g] 62); have hp0 := (blk_cell hbx 0).trans (show _ = some (Value.slice (some ad) l0_0.length c0_0) from rfl); have hy1 := (blk_cell hby 1).trans (show _ = some (Value.int .u64 a1_1) from rfl); have hy2 := (blk_cell hby 2).trans (show _ = some (Value.bool a1_2) from rfl); have hy3 := (blk_cell hby 3).trans (show _ = some (Value.int .i64 a1_3) from rfl); have hy4 := (blk_cell hby 4).trans (show _ = some (Value.int .u64 a1_4) from rfl); have hy5 := (blk_cell hby 5).trans (show _ = some (Value.int .i64 a1_5) from rfl); have hy6 := (blk_cell hby 6).trans (show _ = some (Value.int .i64 a1_6) from rfl); have hs0 := ((below_alloc HB1.out (.cells #[.slice Av ds.length cv, .int .i64 fr, .int .i64 g] 62)).cell (World.block_lt_of_cell? w _ hx0)).trans hx0; clear hr hb hbx hby)
      go_quiet (fail)
      go_wp2
      go_ret
      exact ⟨rfl, pw_below_drewN (below_alloc HB1.out _) _⟩

    rw [if_neg hc] at h2
    obtain ⟨t, hR, h3⟩ := Option.bind_eq_some_iff.mp h2
    obtain rfl := Option.some.inj h3
    have HR := Lib.hid hR
    clear h2 h3 hR
    have e7 : (a1_1 != 0) = true := bne_iff_ne.mpr hc
    have e8 : (a1_1 == 0) = false := beq_eq_false_iff_ne.mpr hc
    clear hm hg hg0 hc
    go_enter Try.func54, Try.ntmps54
    go_upto_region 2 with (go_at_call 72; refine (key_Read.calls k A1_0 c1_0 l1_0 _ _ _ _ _ (Kd.C_below HC.out (below_alloc HB0.out _)) hc1_0 HK.out).mono ?_; rintro e w1 ⟨v0, rfl, hr, hb⟩; obtain ⟨Av, cv, hv⟩ := Kd.R_slice hr; subst hv; have HB1 := Lib.hid (below_step (below_alloc HB0.out (.cells #[.slice A1_0 l1_0.length c1_0, .int .u64 a1_1, .bool a1_2, .int .i64 a1_3, .int .u64 a1_4, .int .i64 a1_5, .int .i64 a1_6] 51)) hb); have hq1 := (blk_cell (blk_new w1 (.cells #[.slice Av ds.length cv, .int .i64 fr, .int .i64 g] 62)) 1).trans (show _ = some (Value.int .i64 fr) from rfl); have hq2 := (blk_cell (blk_new w1 (.cells #[.slice Av ds.length cv, .int .i64 fr, .int .i64 g] 62)) 2).trans (show _ = some (Value.int .i64 g) from rfl); have hbx := blk_alloc (blk_below (blk_alloc HBX.out (.cells #[.slice A1_0 l1_0.length c1_0, .int .u64 a1_1, .bool a1_2, .int .i64 a1_3, .int .u64 a1_4, .int .i64 a1_5, .int .i64 a1_6] 51)) hb) (.cells #[.slice Av ds.length cv, .int .i64 fr, .int .i64 g] 62); have hby := blk_alloc (blk_below HBY.out hb) (.cells #[.slice Av ds.length cv, .int .i64 fr, .int .i64 g] 62); have hp0 := (blk_cell hbx 0).trans (show _ = some (Value.slice (some ad) l0_0.length c0_0) from rfl); have hy1 := (blk_cell hby 1).trans (show _ = some (Value.int .u64 a1_1) from rfl); have hy2 := (blk_cell hby 2).trans (show _ = some (Value.bool a1_2) from rfl); have hy3 := (blk_cell hby 3).trans (show _ = some (Value.int .i64 a1_3) from rfl); have hy4 := (blk_cell hby 4).trans (show _ = some (Value.int .u64 a1_4) from rfl); have hy5 := (blk_cell hby 5).trans (show _ = some (Value.int .i64 a1_5) from rfl); have hy6 := (blk_cell hby 6).trans (show _ = some (Value.int .i64 a1_6) from rfl); have hs0 := ((below_alloc HB1.out (.cells #[.slice Av ds.length cv, .int .i64 fr, .int .i64 g] 62)).cell (World.block_lt_of_cell? w _ hx0)).trans hx0; have HBW := Lib.hid (below_alloc HB1.out (.cells #[.slice Av ds.length cv, .int .i64 fr, .int .i64 g] 62)); clear hr hb hbx hby HB1)
    generalize w1.alloc (.cells #[.slice Av ds.length cv, .int .i64 fr, .int .i64 g] 62) = W at *
    have keepC : ∀ w', Below W.heap.size W w' → (w'.cell? ⟨w1.heap.size, 1, none⟩ = some (.int .i64 fr) ∧ w'.cell? ⟨w1.heap.size, 2, none⟩ = some (.int .i64 g) ∧ w'.cell? ⟨w.heap.size, 0, none⟩ = some (.slice (some ad) l0_0.length c0_0) ∧ w'.cell? ⟨w.heap.size + 1, 1, none⟩ = some (.int .u64 a1_1) ∧ w'.cell? ⟨w.heap.size + 1, 2, none⟩ = some (.bool a1_2) ∧ w'.cell? ⟨w.heap.size + 1, 3, none⟩ = some (.int .i64 a1_3) ∧ w'.cell? ⟨w.heap.size + 1, 4, none⟩ = some (.int .u64 a1_4) ∧ w'.cell? ⟨w.heap.size + 1, 5, none⟩ = some (.int .i64 a1_5) ∧ w'.cell? ⟨w.heap.size + 1, 6, none⟩ = some (.int .i64 a1_6) ∧ w'.cell? (ad.add (g.toNat * 2)) = some (.int .i64 s)) ∧ Below W.heap.size W w' := fun w' hb => ⟨⟨(hb.cell (World.block_lt_of_cell? W _ hq1)).trans hq1, (hb.cell (World.block_lt_of_cell? W _ hq2)).trans hq2, (hb.cell (World.block_lt_of_cell? W _ hp0)).trans hp0, (hb.cell (World.block_lt_of_cell? W _ hy1)).trans hy1, (hb.cell (World.block_lt_of_cell? W _ hy2)).trans hy2, (hb.cell (World.block_lt_of_cell? W _ hy3)).trans hy3, (hb.cell (World.block_lt_of_cell? W _ hy4)).trans hy4, (hb.cell (World.block_lt_of_cell? W _ hy5)).trans hy5, (hb.cell (World.block_lt_of_cell? W _ hy6)).trans hy6, (hb.cell (World.block_lt_of_cell? W _ hs0)).trans hs0⟩, hb⟩
    go_region_held3 (fun w' => (w'.cell? ⟨w1.heap.size, 1, none⟩ = some (.int .i64 fr) ∧ w'.cell? ⟨w1.heap.size, 2, none⟩ = some (.int .i64 g) ∧ w'.cell? ⟨w.heap.size, 0, none⟩ = some (.slice (some ad) l0_0.length c0_0) ∧ w'.cell? ⟨w.heap.size + 1, 1, none⟩ = some (.int .u64 a1_1) ∧ w'.cell? ⟨w.heap.size + 1, 2, none⟩ = some (.bool a1_2) ∧ w'.cell? ⟨w.heap.size + 1, 3, none⟩ = some (.int .i64 a1_3) ∧ w'.cell? ⟨w.heap.size + 1, 4, none⟩ = some (.int .u64 a1_4) ∧ w'.cell? ⟨w.heap.size + 1, 5, none⟩ = some (.int .i64 a1_5) ∧ w'.cell? ⟨w.heap.size + 1, 6, none⟩ = some (.int .i64 a1_6) ∧ w'.cell? (ad.add (g.toNat * 2)) = some (.int .i64 s)) ∧ Below W.heap.size W w') (first | (with_reducible assumption) | (with_reducible exact keepC _ (below_drew1 (Below.refl _ _))) | (with_reducible exact keepC _ hb1)) (first | (go_at_call 79; (with_reducible refine (agg_Right.calls _ _ _ _ _ _ _ _ HR.out).mono ?_); rintro e w3 ⟨rfl, hb0⟩; have hb1 := below_step (below_drew1 (Below.refl W.heap.size W)) hb0))
    go_wp2
    go_ret
    exact ⟨rfl, below_step HBW.out hb1⟩
abbrev Gr := S67
def unfit (k : Nat) (g : List Gr) (keep : Int) (x : S51) : Option Bool := (fold_fits.f k g keep x.f0 x.f1.f0 x.f1.f1 x.f1.f2.f0 x.f1.f2.f1 x.f1.f3 x.f1.f4).bind fun t => some (!t)
def fold_Fits.f (k : Nat) (g : List Gr) (keep : Int) (l : List S51) : Option Bool :=
  if l.length = 0 then some true else (grain_Right.f k g keep).bind fun t => if t = true then (if l.length ≤ 140737488355328 then (anyQ (unfit k g keep) l).bind fun b => some (!b) else none) else some false
theorem fits_pred (k : Nat) (b : Nat) (A0 : Option Addr) (c0 : Nat) (g : List Gr) (keep : Int) (w : World) (hg : Kd.C k67 w A0 g.length g) (hc : g.length ≤ c0) (hb : w.heap[b]? = some (.cells #[.slice A0 g.length c0, .int .i64 keep] 24 (0, 0))) :
    PredEnt 53 #[.pointer (some ⟨b, 0, none⟩)] (unfit k g keep) w := by
  intro W A c x t hB hx hxc hq
  have HG := Lib.hid (Kd.C_below hg hB)
  have hlt := Nat.lt_of_lt_of_le (blk_lt hb) hB.size
  have hbb := blk_below hb hB
  have hc0 := (blk_cell hbb 0).trans (show _ = some (Value.slice A0 g.length c0) from rfl)
  have hc1 := (blk_cell hbb 1).trans (show _ = some (Value.int .i64 keep) from rfl)
  have HX := Lib.hid hx
  unfold unfit at hq
  obtain ⟨u, hu, he⟩ := Option.bind_eq_some_iff.mp hq
  have HU := Lib.hid hu
  obtain rfl := Option.some.inj he
  clear hg hB hb hbb hx hq hu he
  show Calls Try.prog 53 #[.agg #[.slice A x.f0.length c, .int .u64 x.f1.f0, .bool x.f1.f1, .int .i64 x.f1.f2.f0, .int .u64 x.f1.f2.f1, .int .i64 x.f1.f3, .int .i64 x.f1.f4], .pointer (some ⟨b, 0, none⟩)] W _
  cases u
  all_goals
    go_enter Try.func53, Try.ntmps53
    go_wp2_with (go_at_call 54; refine (fold_fits.calls k A0 c0 g keep A c x.f0 _ _ _ _ _ _ _ _ (Kd.C_below HG.out ((Below.refl _ _).alloc (Nat.le_refl _) _)) hc (Kd.C_below HX.out ((Below.refl _ _).alloc (Nat.le_refl _) _)) hxc HU.out).mono ?_; rintro e w' ⟨rfl, hw⟩; have HW := Lib.hid hw; clear hw)
    go_ret
    exact ⟨rfl, below_step ((Below.refl _ _).alloc (Nat.le_refl _) _) HW.out⟩
theorem enter_fits (args : Array Value) (w : World) : (callFunc 53 args).run Try.prog w = .ok (.enter 53 args) w := enters_ Try.func53 (by kernel_rfl) (by kernel_rfl) args w
theorem fold_Fits.calls (k : Nat) (A0_0 : Option Addr) (c0_0 : Nat) (l0_0 : List Gr) (a0_1 : Int) (A1 : Option Addr) (c1 : Nat) (l1 : List S51) (r : Bool) (w : World) (hr0_0 : Kd.C k67 w A0_0 l0_0.length l0_0) (hc0_0 : l0_0.length ≤ c0_0) (hr1 : Kd.C k51 w A1 l1.length l1) (_ : l1.length ≤ c1) (h : fold_Fits.f k l0_0 a0_1 l1 = some r) :
    Calls Try.prog 23 #[.agg #[.slice A0_0 l0_0.length c0_0, .int .i64 a0_1], .slice A1 l1.length c1] w fun e w' => e = .returned (.bool r) ∧ Below w.heap.size w w' := by
  have HG := Lib.hid hr0_0; have HE := Lib.hid hr1; clear hr0_0 hr1
  have HBX := Lib.hid (blk_new w (.cells #[.slice A0_0 l0_0.length c0_0, .int .i64 a0_1] 24))
  have HB0 : Hid (Below w.heap.size w (w.alloc (.cells #[.slice A0_0 l0_0.length c0_0, .int .i64 a0_1] 24))) := Lib.hid ((Below.refl _ _).alloc (Nat.le_refl _) _)
  unfold fold_Fits.f at h
  by_cases hl : l1.length = 0
  · rw [if_pos hl] at h
    obtain rfl := Option.some.inj h
    have e1 : ((l1.length : Int) == 0) = true := beq_iff_eq.2 (by omega)
    have e2 : (l1.length == 0) = true := beq_iff_eq.2 hl
    clear h hl
    go_enter Try.func23, Try.ntmps23
    go_wp2
    go_ret
    exact ⟨by first | rfl | (simp [e1, e2]; done), HB0.out⟩
  · rw [if_neg hl] at h
    have e1 : ((l1.length : Int) == 0) = false := beq_eq_false_iff_ne.2 (by omega)
    have e2 : (l1.length == 0) = false := beq_eq_false_iff_ne.2 hl
    obtain ⟨t, ht, h2⟩ := Option.bind_eq_some_iff.mp h
    have HT := Lib.hid ht
    cases t with
    | false =>
      rw [if_neg (by decide)] at h2
      obtain rfl := Option.some.inj h2
      clear h hl ht h2
      go_enter Try.func23, Try.ntmps23
      go_wp2_with (go_at_call 52; refine (grain_Right.calls k A0_0 c0_0 l0_0 a0_1 _ _ (Kd.C_below HG.out HB0.out) hc0_0 HT.out).mono ?_; rintro e w1 ⟨rfl, hb⟩; have HB1 := Lib.hid (below_step HB0.out hb); clear hb)
      go_ret
      exact ⟨rfl, HB1.out⟩
    | true =>
      rw [if_pos rfl] at h2
      by_cases hbig : l1.length ≤ 140737488355328
      case neg => rw [if_neg hbig] at h2; cases h2
      rw [if_pos hbig] at h2
      obtain ⟨b, hb, h3⟩ := Option.bind_eq_some_iff.mp h2
      obtain rfl := Option.some.inj h3
      have HQ := Lib.hid hb
      clear h hl ht h2 h3 hb
      cases b
      all_goals
        go_enter Try.func23, Try.ntmps23
        go_wp2_with (first
          | (go_at_call 52; refine (grain_Right.calls k A0_0 c0_0 l0_0 a0_1 _ _ (Kd.C_below HG.out HB0.out) hc0_0 HT.out).mono ?_; rintro e w1 ⟨rfl, hb⟩; have HB1 := Lib.hid (below_step HB0.out hb); have HBX1 := Lib.hid (blk_below HBX.out hb); clear hb)
          | (go_at_call 49; refine (contains_ents (unfit k l0_0 a0_1) 53 #[.pointer (some ⟨w.heap.size, 0, none⟩)] enter_fits A1 c1 l1 _ _ (Kd.C_below HE.out HB1.out) hbig (fits_pred k w.heap.size A0_0 c0_0 l0_0 a0_1 _ (Kd.C_below HG.out HB1.out) hc0_0 HBX1.out) HQ.out).mono ?_; rintro e w2 ⟨rfl, hb⟩; have HB2 := Lib.hid (below_step HB1.out hb); clear hb))
        go_ret
        exact ⟨rfl, HB2.out⟩
def wrongQ (x : En) : Option Bool := (agg_Right.f x.f1.f0 x.f1.f1 x.f1.f2.f0 x.f1.f2.f1 x.f1.f3 x.f1.f4).bind fun t => some (!t)
theorem aggRight_some (a0 : Int) (a1 : Bool) (a2 a3 a4 a5 : Int) : ∃ t, agg_Right.f a0 a1 a2 a3 a4 a5 = some t := by
  unfold agg_Right.f
  split
  · exact ⟨_, rfl⟩
  · split
    · split <;> exact ⟨_, rfl⟩
    · exact ⟨_, rfl⟩
theorem anyWrong : ∀ l : List En, ∃ t, anyQ wrongQ l = some t
  | [] => ⟨false, rfl⟩
  | x :: r => by
    obtain ⟨t, ht⟩ := aggRight_some x.f1.f0 x.f1.f1 x.f1.f2.f0 x.f1.f2.f1 x.f1.f3 x.f1.f4
    obtain ⟨u, hu⟩ := anyWrong r
    have e : wrongQ x = some (!t) := by unfold wrongQ; rw [ht]; rfl
    unfold anyQ
    rw [e]
    cases t
    · exact ⟨true, by simp⟩
    · exact ⟨u, by simpa using hu⟩
def RisesE (l : List En) : Prop := ∀ j (hj : j < l.length), 0 < j → cmpB (l[j - 1]'(by omega)).f0 l[j].f0 < 0
open Classical in
noncomputable def rowE (l : List En) : Int := if RisesE l then (if anyQ wrongQ l = some true then 3 else 0) else 50
theorem right_pred (w : World) : PredEnt 98 #[] wrongQ w := by
  intro W A c x t hB hx hxc hq
  unfold wrongQ at hq
  obtain ⟨u, hu, he⟩ := Option.bind_eq_some_iff.mp hq
  have HU := Lib.hid hu
  obtain rfl := Option.some.inj he
  clear hB hx hq hu he
  show Calls Try.prog 98 #[.agg #[.slice A x.f0.length c, .int .u64 x.f1.f0, .bool x.f1.f1, .int .i64 x.f1.f2.f0, .int .u64 x.f1.f2.f1, .int .i64 x.f1.f3, .int .i64 x.f1.f4]] W _
  cases u
  all_goals
    go_enter Try.func98, Try.ntmps98
    go_wp2_with (go_at_call 79; refine (agg_Right.calls _ _ _ _ _ _ _ _ HU.out).mono ?_; rintro e w' ⟨rfl, hw⟩; have HW := Lib.hid hw; clear hw)
    go_ret
    exact ⟨rfl, below_step ((Below.refl _ _).alloc (Nat.le_refl _) _) HW.out⟩
theorem enter_right (args : Array Value) (w : World) : (callFunc 98 args).run Try.prog w = .ok (.enter 98 args) w := enters_ Try.func98 (by kernel_rfl) (by kernel_rfl) args w
theorem mright_calls (A0 : Option Addr) (c0 : Nat) (l0 : List En) (w : World) (hr0 : Kd.C k51 w A0 l0.length l0) (hl0 : l0.length ≤ 140737488355328) (hB : ∀ y ∈ l0, y.f0.all isB = true) :
    Calls Try.prog 82 #[.slice A0 l0.length c0] w fun e w' => e = .returned (.int .i64 (rowE l0)) ∧ Below w.heap.size w w' := by
  have HE := Lib.hid hr0; have HK := Lib.hid hB
  clear hr0 hB
  go_enter Try.func82, Try.ntmps82
  go_wp2
  go_loopw [6] (fun v wr => ∃ j : Nat, v = .int .i64 j ∧ j ≤ l0.length ∧ (∀ i (hi : i < l0.length), i < j → 0 < i → cmpB (l0[i - 1]'(by omega)).f0 l0[i].f0 < 0) ∧ Below w.heap.size w wr) (fun v _ => l0.length - (intOf v).toNat)
  case atStart => exact ⟨0, rfl, Nat.zero_le _, fun i _ h => by omega, Below.refl _ _⟩
  case round =>
    obtain ⟨j, rfl, hj, hA, hB⟩ := hrel
    have HJ := Lib.hid hB; have HA := Lib.hid hA
    clear hB hA
    by_cases hlt : j < l0.length
    · have e1 : decide ((j : Int) < (l0.length : Int)) = true := decide_eq_true (by omega)
      by_cases h0 : 0 < j
      · have e2 : decide (0 < (j : Int)) = true := decide_eq_true (by omega)
        have ew : IntKind.i64.wrap ((j : Int) - 1) = ((j - 1 : Nat) : Int) := by rw [IntKind.wrap_i64] <;> omega
        obtain ⟨ad, A1, c1, ha, hx0, hx1, hx2, hx3, hx4, hx5, hx6, hlc, hin⟩ := at_T51 HE.out ((j - 1 : Nat) : Int) (by omega) (by omega)
        obtain ⟨ad2, A2, c2, ha2, hy0, hy1, hy2, hy3, hy4, hy5, hy6, hld, hin2⟩ := at_T51 HE.out (j : Int) (by omega) (by omega)
        subst ha
        obtain rfl : ad = ad2 := by injection ha2
        rw [rd_ent (show j - 1 < l0.length by omega)] at hx0 hx1 hx2 hx3 hx4 hx5 hx6 hlc hin
        rw [rd_ent hlt] at hy0 hy1 hy2 hy3 hy4 hy5 hy6 hld hin2
        have hkx := HK.out _ (List.getElem_mem (show j - 1 < l0.length by omega))
        have hky := HK.out _ (List.getElem_mem hlt)
        have HSTEP : Hid (cmpB (l0[j - 1]'(by omega)).f0 l0[j].f0 < 0 → ∀ i (hi : i < l0.length), i < j + 1 → 0 < i → cmpB (l0[i - 1]'(by omega)).f0 l0[i].f0 < 0) := Lib.hid (fun h i hi h1 h2 => by
          rcases Nat.lt_or_ge i j with h3 | h3
          · exact HA.out i hi h3 h2
          · obtain rfl : i = j := by omega
            exact h)
        have HNO : Hid (0 ≤ cmpB (l0[j - 1]'(by omega)).f0 l0[j].f0 → rowE l0 = 50) := Lib.hid (fun h => by
          unfold rowE
          rw [if_neg (fun hr => by have := hr j hlt h0; omega)])
        generalize (l0[j - 1]'(by omega)) = x at hx0 hx1 hx2 hx3 hx4 hx5 hx6 hlc hin hkx HSTEP HNO
        generalize l0[j] = y at hy0 hy1 hy2 hy3 hy4 hy5 hy6 hld hin2 hky HSTEP HNO
        have HX := Lib.hid hin; have HY := Lib.hid hin2
        have HCM : Hid (bytes_Compare.f x.f0 y.f0 = some (cmpB x.f0 y.f0)) := Lib.hid (by unfold bytes_Compare.f; rw [if_pos ⟨hkx, hky⟩])
        clear hin hin2 hkx hky
        simp only [Int.toNat_natCast] at hx0 hx1 hx2 hx3 hx4 hx5 hx6 hy0 hy1 hy2 hy3 hy4 hy5 hy6
        replace hx0 := (HJ.out.cell (World.block_lt_of_cell? w _ hx0)).trans hx0
        replace hy0 := (HJ.out.cell (World.block_lt_of_cell? w _ hy0)).trans hy0
        clear hx1 hx2 hx3 hx4 hx5 hx6 hy1 hy2 hy3 hy4 hy5 hy6
        have e3 : decide ((0 : Int) ≤ ((j - 1 : Nat) : Int)) = true := decide_eq_true (by omega)
        have e4 : decide (((j - 1 : Nat) : Int) < (l0.length : Int)) = true := decide_eq_true (by omega)
        have e5 : decide ((0 : Int) ≤ (j : Int)) = true := decide_eq_true (by omega)
        have e3b := eq_true (of_decide_eq_true e3); have e4b := eq_true (of_decide_eq_true e4); have e5b := eq_true (of_decide_eq_true e5); have e1b := eq_true (of_decide_eq_true e1)
        by_cases hge : 0 ≤ cmpB x.f0 y.f0
        · have e6 : decide (0 ≤ cmpB x.f0 y.f0) = true := decide_eq_true hge
          have hno := HNO.out hge
          go_wp2
          go_quiet ((go_at_call 33; refine (bytes_Compare.calls A1 c1 x.f0 A2 c2 y.f0 (cmpB x.f0 y.f0) _ (Kd.C_drewN (Kd.C_below HX.out HJ.out) _) hlc (Kd.C_drewN (Kd.C_below HY.out HJ.out) _) hld HCM.out).mono ?_; rintro e w' ⟨rfl, ⟨nd, rfl⟩⟩; (try first | exact ⟨rfl, _, World.drewN_drewN _ _ _⟩ | exact ⟨rfl, _, Eq.trans (World.drewN_drewN _ _ _) (congrArg (World.drewN _) (Nat.add_assoc _ _ _))⟩)))
          go_wp2
          go_ret
          exact ⟨by rw [hno]; rfl, pw_below_drewN HJ.out _⟩
        · have e6 : decide (0 ≤ cmpB x.f0 y.f0) = false := decide_eq_false hge
          go_wp2
          go_quiet ((go_at_call 33; refine (bytes_Compare.calls A1 c1 x.f0 A2 c2 y.f0 (cmpB x.f0 y.f0) _ (Kd.C_drewN (Kd.C_below HX.out HJ.out) _) hlc (Kd.C_drewN (Kd.C_below HY.out HJ.out) _) hld HCM.out).mono ?_; rintro e w' ⟨rfl, ⟨nd, rfl⟩⟩; (try first | exact ⟨rfl, _, World.drewN_drewN _ _ _⟩ | exact ⟨rfl, _, Eq.trans (World.drewN_drewN _ _ _) (congrArg (World.drewN _) (Nat.add_assoc _ _ _))⟩)))
          go_wp2
          go_roundw
          case rel => exact ⟨j + 1, by go_num, hlt, HSTEP.out (by omega), pw_below_drewN HJ.out _⟩
          case measure => simp [intOf]; omega
      · obtain rfl : j = 0 := by omega
        have e2 : decide (0 < ((0 : Nat) : Int)) = false := decide_eq_false (by omega)
        go_wp2
        go_quiet (fail)
        go_wp2
        go_roundw
        case rel => exact ⟨1, by go_num, hlt, fun i hi h1 h2 => by omega, pw_below_drewN HJ.out _⟩
        case measure => simp [intOf]; omega
    · have e1 : decide ((j : Int) < (l0.length : Int)) = false := decide_eq_false (by omega)
      obtain ⟨t, ht⟩ := anyWrong l0
      have hR : RisesE l0 := fun i hi h2 => HA.out i hi (by omega) h2
      have HT := Lib.hid ht
      have HROW : Hid (rowE l0 = if t = true then 3 else 0) := Lib.hid (by
        unfold rowE
        rw [if_pos hR, ht]
        cases t <;> simp)
      clear ht hR
      cases t
      all_goals
        go_wp2_with (go_at_call 49; refine (contains_ents wrongQ 98 #[] enter_right A0 c0 l0 _ _ (Kd.C_below HE.out HJ.out) hl0 (right_pred _) HT.out).mono ?_; rintro e w2 ⟨rfl, hb⟩; have HB2 := Lib.hid (below_step HJ.out hb); clear hb)
        go_ret
        exact ⟨by rw [HROW.out]; rfl, HB2.out⟩
def lessF (x y : List Int) (p q : Int) : Bool := decide (cmpB x y < 0) || (decide (cmpB x y = 0) && decide (p < q))
theorem less_calls (A0 : Option Addr) (c0 : Nat) (l0 : List En) (p0 : Int) (A1 : Option Addr) (c1 : Nat) (l1 : List En) (p1 : Int) (w : World) (hr0 : Kd.C k51 w A0 l0.length l0) (hr1 : Kd.C k51 w A1 l1.length l1) (h0 : 0 < l0.length) (h1 : 0 < l1.length) (hB0 : ∀ y ∈ l0, y.f0.all isB = true) (hB1 : ∀ y ∈ l1, y.f0.all isB = true) :
    Calls Try.prog 99 #[.agg #[.slice A0 l0.length c0, .int .i64 p0], .agg #[.slice A1 l1.length c1, .int .i64 p1]] w fun e w' => e = .returned (.bool (lessF l0[0].f0 l1[0].f0 p0 p1)) ∧ Below w.heap.size w w' := by
  have HX := Lib.hid hr0; have HY := Lib.hid hr1
  have ex : decide (((0 : Nat) : Int) < (l0.length : Int)) = true := decide_eq_true (by omega)
  obtain ⟨ad, B0, d0, ha, hx0, _, _, _, _, _, _, hlc, hin⟩ := at_T51 hr0 ((0 : Nat) : Int) (by omega) (by omega)
  obtain ⟨ad2, B1, d1, ha2, hy0, _, _, _, _, _, _, hld, hin2⟩ := at_T51 hr1 ((0 : Nat) : Int) (by omega) (by omega)
  subst ha
  subst ha2
  rw [rd_ent h0] at hx0 hlc hin
  rw [rd_ent h1] at hy0 hld hin2
  have hkx := hB0 _ (List.getElem_mem h0)
  have hky := hB1 _ (List.getElem_mem h1)
  generalize l0[0] = x at hx0 hlc hin hkx ⊢
  generalize l1[0] = y at hy0 hld hin2 hky ⊢
  have HI := Lib.hid hin; have HJ := Lib.hid hin2
  have HCM : Hid (bytes_Compare.f x.f0 y.f0 = some (cmpB x.f0 y.f0)) := Lib.hid (by unfold bytes_Compare.f; rw [if_pos ⟨hkx, hky⟩])
  clear hin hin2 hkx hky hr0 hr1 hB0 hB1
  have ez : ∀ a : Addr, a.add (0 * 7) = a := fun a => by first | (simp; done) | (simp [Addr.add]; done) | (cases a; simp [Addr.add]; done) | rfl
  simp only [Int.toNat_natCast] at hx0 hy0
  rw [ez] at hx0 hy0
  clear ez
  have HB : Hid (Below w.heap.size w ((w.alloc (.cells #[.slice (some ad) l0.length c0, .int .i64 p0] 118 (0, 0))).alloc (.cells #[.slice (some ad2) l1.length c1, .int .i64 p1] 118 (0, 0)))) := Lib.hid (((Below.refl _ _).alloc (Nat.le_refl _) _).alloc (by simp) _)
  have e0 : decide ((0 : Int) < (l0.length : Int)) = true := decide_eq_true (by omega)
  have e1 : decide ((0 : Int) < (l1.length : Int)) = true := decide_eq_true (by omega)
  have e0b := eq_true (of_decide_eq_true e0); have e1b := eq_true (of_decide_eq_true e1)
  unfold lessF
  obtain ⟨c, hc⟩ : ∃ c, c = cmpB x.f0 y.f0 := ⟨_, rfl⟩
  rw [← hc] at HCM ⊢
  clear hc
  replace hx0 := (HB.out.cell (World.block_lt_of_cell? w _ hx0)).trans hx0
  replace hy0 := (HB.out.cell (World.block_lt_of_cell? w _ hy0)).trans hy0
  have hcc : (c == 0) = decide (c = 0) := by by_cases h : c = 0 <;> simp [h]
  obtain ⟨b1, f1⟩ : ∃ b, decide (c < 0) = b := ⟨_, rfl⟩
  obtain ⟨b2, f2⟩ : ∃ b, decide (c = 0) = b := ⟨_, rfl⟩
  obtain ⟨b3, f3⟩ : ∃ b, decide (p0 < p1) = b := ⟨_, rfl⟩
  have f2b : (c == 0) = b2 := hcc.trans f2
  clear hcc
  rw [f1, f2, f3]
  cases b1 <;> cases b2 <;> cases b3
  all_goals
    go_enter Try.func99, Try.ntmps99
    go_wp2
    go_quiet ((go_at_call 33; refine (bytes_Compare.calls B0 d0 x.f0 B1 d1 y.f0 c _ (Kd.C_drewN (Kd.C_below HI.out HB.out) _) hlc (Kd.C_drewN (Kd.C_below HJ.out HB.out) _) hld HCM.out).mono ?_; rintro e w' ⟨rfl, ⟨nd, rfl⟩⟩; (try first | exact ⟨rfl, _, World.drewN_drewN _ _ _⟩ | exact ⟨rfl, _, Eq.trans (World.drewN_drewN _ _ _) (congrArg (World.drewN _) (Nat.add_assoc _ _ _))⟩)))
    go_wp2
    go_ret
    exact ⟨by rfl, pw_below_drewN HB.out _⟩
theorem sink_idle (h n c : Nat) (A : Option Addr) (a : Nat) (ha : a ≤ 1) (hn : n ≤ 2 * a + 1) (w : World) (hb : w.heap[h]? = some (.cells #[.slice A n c] 115 (0, 0))) :
    Calls Try.prog 83 #[.pointer (some ⟨h, 0, none⟩), .int .i64 (a : Int)] w fun e w' => e = .returned (.tuple #[]) ∧ w' = w := by
  have hc0 := (blk_cell hb 0).trans (show _ = some (Value.slice A n c) from rfl)
  have HB := Lib.hid hb
  clear hb

  have cs : a = 0 ∧ n ≤ 1 ∨ a = 1 ∧ n ≤ 3 := by omega
  rcases cs with ⟨rfl, h1⟩ | ⟨rfl, h3⟩
  · have e2 : decide ((1 : Int) < (n : Int)) = false := decide_eq_false (by omega)
    go_enter Try.func83, Try.ntmps83
    (go_wp2; repeat (go_step3; try (go_wp2)))
    go_rounds 1
    go_rounds 1
    (try rw [Exit.noGoto_normal])
    refine bodyPost_end (results_none rfl _ _ _) rfl ?_
    exact ⟨rfl, rfl⟩
  · have e2 : decide ((3 : Int) < (n : Int)) = false := decide_eq_false (by omega)
    go_enter Try.func83, Try.ntmps83
    (go_wp2; repeat (go_step3; try (go_wp2)))
    go_rounds 1
    go_rounds 1
    (try rw [Exit.noGoto_normal])
    refine bodyPost_end (results_none rfl _ _ _) rfl ?_
    exact ⟨rfl, rfl⟩
structure Fr where
  A : Option Addr
  c : Nat
  l : List En
  p : Int
def Fr.v (f : Fr) : Value := .slice f.A f.l.length f.c
structure FrIn (w : World) (f : Fr) : Prop where
  row : Kd.C k51 w f.A f.l.length f.l
  pos : 0 < f.l.length
  cap : f.l.length ≤ f.c
  big : f.l.length ≤ 140737488355328
  isb : ∀ y ∈ f.l, y.f0.all isB = true
  kln : ∀ y ∈ f.l, y.f0.length ≤ 140737488355327
theorem FrIn.below {w W : World} {f : Fr} (h : FrIn w f) (hb : Below w.heap.size w W) : FrIn W f := ⟨Kd.C_below h.row hb, h.pos, h.cap, h.big, h.isb, h.kln⟩
structure Two (w : World) (g s : Nat) (a b : Fr) : Prop where
  ex : ∃ cur : Array Value, w.heap[g]? = some (.cells cur 118 (0, 0)) ∧ cur.size = s ∧ cur[0]? = some a.v ∧ cur[1]? = some (.int .i64 a.p) ∧ cur[2]? = some b.v ∧ cur[3]? = some (.int .i64 b.p)
theorem Two.below {w W : World} {g s : Nat} {a b : Fr} (h : Two w g s a b) (hb : Below w.heap.size w W) : Two W g s a b := by
  obtain ⟨cur, h1, h2⟩ := h.ex
  exact ⟨cur, blk_below h1 hb, h2⟩
theorem headD_eq {l : List En} {d : En} (h : 0 < l.length) : l.headD d = l[0]'h := by
  cases l with
  | nil => simp at h
  | cons x r => rfl
def lessFr (a b : Fr) : Bool := lessF (a.l.headD ⟨[], ⟨0, false, ⟨0, 0⟩, 0, 0⟩⟩).f0 (b.l.headD ⟨[], ⟨0, false, ⟨0, 0⟩, 0, 0⟩⟩).f0 a.p b.p
theorem lessFr_calls (a b : Fr) (w : World) (ha : FrIn w a) (hb : FrIn w b) : Calls Try.prog 99 #[.agg #[a.v, .int .i64 a.p], .agg #[b.v, .int .i64 b.p]] w fun e w' => e = .returned (.bool (lessFr a b)) ∧ Below w.heap.size w w' := by
  have h := less_calls a.A a.c a.l a.p b.A b.c b.l b.p w ha.row hb.row ha.pos hb.pos ha.isb hb.isb
  have e1 := headD_eq (d := ⟨[], ⟨0, false, ⟨0, 0⟩, 0, 0⟩⟩) ha.pos
  have e2 := headD_eq (d := ⟨[], ⟨0, false, ⟨0, 0⟩, 0, 0⟩⟩) hb.pos
  unfold lessFr
  rw [e1, e2]
  exact h
theorem grownS_set {w W : World} {g i : Nat} {u : Value} (h : w.grownBy W (some g)) : w.grownBy (W.setCell ⟨g, i, none⟩ u) (some g) := ⟨h.os, h.tape, h.output, by simpa [World.setCell] using h.size, fun k hk hne => (Below.heap_setCell W _ u k (fun e => hne (by rw [e]))).trans (h.block k hk hne)⟩
theorem grownS_drew {w W : World} {g : Nat} (h : w.grownBy W (some g)) : w.grownBy W.drew (some g) := ⟨h.os, h.tape, h.output, h.size, h.block⟩
def msink.T4 : Bool × List (List Nat × List Nat) := (true, [([], []), ([0], [0]), ([1], [1]), ([2], [2]), ([], []), ([3, 4], [3, 4]), ([5], [5]), ([], []), ([7], [7]), ([8], [8]), ([9], [9]), ([], []), ([10, 11], [10, 11]), ([12], [12]), ([6, 13], [6, 13])])
def msink.B4 : List Nat := [0, 1, 3, 7, 0, 31, 63, 0, 128, 384, 896, 0, 3968, 8064, 16383]
theorem msink.tab4 : rtab .any (opsOf Try.f83 4) = msink.T4 := by kernel_rfl
theorem msink.bits4 : waitsOk msink.T4.2 msink.B4 = true := by kernel_rfl
def msink.T7 : Bool × List (List Nat × List Nat) := (true, [([], []), ([0], [0]), ([1], [1]), ([2], [2]), ([], []), ([], []), ([5], [5]), ([6], [6]), ([7], [7]), ([], []), ([], []), ([10], [10]), ([11], [11]), ([12], [12]), ([], []), ([13, 14], [13, 14]), ([15], [15]), ([], []), ([17], [17]), ([18], [18]), ([19], [19]), ([], []), ([20, 21], [20, 21]), ([22], [22]), ([3, 4, 0, 1, 2, 3, 4, 8, 10, 11, 12, 13, 14, 15, 16, 20, 23], [3, 4]), ([24, 16, 0, 1, 2, 3, 4, 8, 10, 11, 12, 13, 14, 15, 16, 20, 23], [16, 24]), ([8, 9, 0, 1, 2, 3, 4, 5, 6, 7, 8, 9, 10, 11, 12, 13, 14, 15, 16, 17, 18, 19, 20, 21, 22, 23, 24, 25], [8, 9]), ([26, 23, 25, 0, 1, 2, 3, 4, 5, 6, 7, 8, 9, 10, 11, 12, 13, 14, 15, 16, 17, 18, 19, 20, 21, 22, 23, 24, 25], [23, 26])])
def msink.B7 : List Nat := [0, 1, 3, 7, 0, 0, 32, 96, 224, 0, 0, 1024, 3072, 7168, 0, 31744, 64512, 0, 131072, 393216, 917504, 0, 4063232, 8257536, 16776703, 33553919, 67108863, 134217727]
theorem msink.tab7 : rtab .any (opsOf Try.f83 7) = msink.T7 := by kernel_rfl
theorem msink.bits7 : waitsOk msink.T7.2 msink.B7 = true := by kernel_rfl
theorem sink_two (h g c s : Nat) (a b : Fr) (_ : 2 ≤ c) (w : World) (hb : w.heap[h]? = some (.cells #[.slice (some ⟨g, 0, none⟩) 2 c] 115 (0, 0))) (hg : Two w g s a b) (ha : FrIn w a) (hbf : FrIn w b) :
    Calls Try.prog 83 #[.pointer (some ⟨h, 0, none⟩), .int .i64 0] w fun e w' => e = .returned (.tuple #[]) ∧ w.grownBy w' (some g) ∧ (if lessFr b a = true then Two w' g s b a else Two w' g s a b) := by
  have hc0 := (blk_cell hb 0).trans (show _ = some (Value.slice (some ⟨g, 0, none⟩) 2 c) from rfl)
  obtain ⟨cur, hg1, qs, q0, q1, q2, q3⟩ := hg.ex
  have hd0 := (blk_cell hg1 0).trans q0
  have hd1 := (blk_cell hg1 1).trans q1
  have hd2 := (blk_cell hg1 2).trans q2
  have hd3 := (blk_cell hg1 3).trans q3
  have HA := Lib.hid ha; have HF := Lib.hid hbf; have HB := Lib.hid hb; have HG := Lib.hid hg1
  have HL : Hid (∀ W, Below w.heap.size w W → Calls Try.prog 99 #[.agg #[b.v, .int .i64 b.p], .agg #[a.v, .int .i64 a.p]] W fun e w' => e = .returned (.bool (lessFr b a)) ∧ Below W.heap.size W w') := Lib.hid (fun W hW => lessFr_calls b a W (hbf.below hW) (ha.below hW))
  generalize lessFr b a = t at HL ⊢
  simp only [Fr.v] at hd0 hd2 HL
  clear hb hg1 hg ha hbf
  cases t
  · go_enter Try.func83, Try.ntmps83
    (go_wp2; repeat (go_step3; try (go_wp2)))
    go_rounds 1
    refine wp_loop_rounds 2 ?_
    rw [rounds_succ]
    go_wp2
    refine start_ (n := 15) (S := fun w' => w'.cell? ⟨h, 0, none⟩ = some (.slice (some ⟨g, 0, none⟩) 2 c) ∧ w'.cell? ⟨g, 0, none⟩ = some (.slice a.A a.l.length a.c) ∧ w'.cell? ⟨g, 1, none⟩ = some (.int .i64 a.p) ∧ w'.cell? ⟨g, 2, none⟩ = some (.slice b.A b.l.length b.c) ∧ w'.cell? ⟨g, 3, none⟩ = some (.int .i64 b.p)) (ds := []) #[false, false, false, false, false, false, false, false, false, false, false, false, false, false, false] (by kernel_rfl) rfl rfl ⟨hc0, hd0, hd1, hd2, hd3⟩ (fun hHeld => ?_)
    refine with_tabW msink.tab4 msink.bits4 (fun HT_ HW_ => ?_)
    refine pureD 0 26 HT_ ?_
    refine pureD 1 27 HT_ ?_
    refine pureD 2 28 HT_ ?_
    refine pureD 4 30 HT_ ?_
    refine pureD 7 33 HT_ ?_
    refine pureD 8 34 HT_ ?_
    refine pureD 9 35 HT_ ?_
    refine pureD 11 37 HT_ ?_
    refine takeD 3 29 HT_ HW_ hHeld ?_
    refine pureD 5 31 HT_ ?_
    refine takeD 6 32 HT_ HW_ hHeld ?_
    refine takeD 10 36 HT_ HW_ hHeld ?_
    refine pureD 12 38 HT_ ?_
    refine takeD 13 39 HT_ HW_ hHeld ?_
    refine one_ (i := 14) (N := some 40) #[true, true, true, true, true, true, true, true, true, true, true, true, true, true, true] rfl rfl (one_of HT_.out (by kernel_rfl)) (by decide) (fun K hK => ?_)
    refine goes_ Try.func99 (by kernel_rfl) rfl #[.agg #[.slice b.A b.l.length b.c, .int .i64 b.p], .agg #[.slice a.A a.l.length a.c, .int .i64 a.p]] (by rfl) rfl rfl (by simp only [List.map_toArray, List.map_cons, List.map_nil]; rfl) ?_
    refine (HL.out _ (by first | exact Below.refl _ _ | exact below_drew1 (Below.refl _ _) | exact pw_below_drewN (Below.refl _ _) _)).mono ?_
    rintro e w1 ⟨rfl, hw⟩
    refine ⟨_, rfl, ?_⟩
    have hw1 : Below w.heap.size w w1 := ⟨hw.os, hw.tape, hw.output, hw.size, hw.block⟩
    have HW := Lib.hid hw1
    refine hK.out _ _ ⟨(hw1.cell (World.block_lt_of_cell? w _ hc0)).trans hc0, (hw1.cell (World.block_lt_of_cell? w _ hd0)).trans hd0, (hw1.cell (World.block_lt_of_cell? w _ hd1)).trans hd1, (hw1.cell (World.block_lt_of_cell? w _ hd2)).trans hd2, (hw1.cell (World.block_lt_of_cell? w _ hd3)).trans hd3⟩ (fun hHeld => ?_)
    clear hK K
    refine norm_ (a' := ?_) ?_ ?_
    rotate_left
    ·show Act.put _ (some 40) _ = _
     simp only [Act.put, List.setIfInBounds_toArray, List.set_cons_zero, List.set_cons_succ]
     rfl
    refine done_ (done_of HT_.out (by kernel_rfl)) ?_
    obtain ⟨hk0, hk1, hk2, hk3, hk4⟩ := hHeld
    go_wp2
    rw [rounds_succ]
    go_wp2
    (try rw [Exit.noGoto_normal])
    refine bodyPost_end (results_none rfl _ _ _) rfl ?_
    refine ⟨rfl, ⟨HW.out.os, HW.out.tape, HW.out.output, HW.out.size, fun k hk _ => HW.out.block k hk⟩, ?_⟩
    rw [if_neg (by decide)]
    exact ⟨cur, blk_below HG.out HW.out, qs, q0, q1, q2, q3⟩
  · have hne : h ≠ g := blk_ne HB.out HG.out (by decide)
    have hne1 : (h = g) = False := eq_false hne
    have hne2 : (g = h) = False := eq_false (fun e => hne e.symm)
    have hcap : cur.size ≥ 4 := by
      have := (Array.getElem?_eq_some_iff.1 q3).1
      omega
    go_enter Try.func83, Try.ntmps83
    (go_wp2; repeat (go_step3; try (go_wp2)))
    refine wp_loop_rounds 2 ?_
    rw [rounds_succ]
    go_wp2
    refine wp_loop_rounds 2 ?_
    rw [rounds_succ]
    go_wp2
    refine start_ (n := 15) (S := fun w' => w'.cell? ⟨h, 0, none⟩ = some (.slice (some ⟨g, 0, none⟩) 2 c) ∧ w'.cell? ⟨g, 0, none⟩ = some (.slice a.A a.l.length a.c) ∧ w'.cell? ⟨g, 1, none⟩ = some (.int .i64 a.p) ∧ w'.cell? ⟨g, 2, none⟩ = some (.slice b.A b.l.length b.c) ∧ w'.cell? ⟨g, 3, none⟩ = some (.int .i64 b.p)) (ds := []) #[false, false, false, false, false, false, false, false, false, false, false, false, false, false, false] (by kernel_rfl) rfl rfl ⟨hc0, hd0, hd1, hd2, hd3⟩ (fun hHeld => ?_)
    refine with_tabW msink.tab4 msink.bits4 (fun HT_ HW_ => ?_)
    refine pureD 0 26 HT_ ?_
    refine pureD 1 27 HT_ ?_
    refine pureD 2 28 HT_ ?_
    refine pureD 4 30 HT_ ?_
    refine pureD 7 33 HT_ ?_
    refine pureD 8 34 HT_ ?_
    refine pureD 9 35 HT_ ?_
    refine pureD 11 37 HT_ ?_
    refine takeD 3 29 HT_ HW_ hHeld ?_
    refine pureD 5 31 HT_ ?_
    refine takeD 6 32 HT_ HW_ hHeld ?_
    refine takeD 10 36 HT_ HW_ hHeld ?_
    refine pureD 12 38 HT_ ?_
    refine takeD 13 39 HT_ HW_ hHeld ?_
    refine one_ (i := 14) (N := some 40) #[true, true, true, true, true, true, true, true, true, true, true, true, true, true, true] rfl rfl (one_of HT_.out (by kernel_rfl)) (by decide) (fun K hK => ?_)
    refine goes_ Try.func99 (by kernel_rfl) rfl #[.agg #[.slice b.A b.l.length b.c, .int .i64 b.p], .agg #[.slice a.A a.l.length a.c, .int .i64 a.p]] (by rfl) rfl rfl (by simp only [List.map_toArray, List.map_cons, List.map_nil]; rfl) ?_
    refine (HL.out _ (by first | exact Below.refl _ _ | exact below_drew1 (Below.refl _ _) | exact pw_below_drewN (Below.refl _ _) _)).mono ?_
    rintro e w1 ⟨rfl, hw⟩
    refine ⟨_, rfl, ?_⟩
    have hw1 : Below w.heap.size w w1 := ⟨hw.os, hw.tape, hw.output, hw.size, hw.block⟩
    have HW := Lib.hid hw1
    refine hK.out _ _ ⟨(hw1.cell (World.block_lt_of_cell? w _ hc0)).trans hc0, (hw1.cell (World.block_lt_of_cell? w _ hd0)).trans hd0, (hw1.cell (World.block_lt_of_cell? w _ hd1)).trans hd1, (hw1.cell (World.block_lt_of_cell? w _ hd2)).trans hd2, (hw1.cell (World.block_lt_of_cell? w _ hd3)).trans hd3⟩ (fun hHeld => ?_)
    clear hK K
    refine norm_ (a' := ?_) ?_ ?_
    rotate_left
    ·show Act.put _ (some 40) _ = _
     simp only [Act.put, List.setIfInBounds_toArray, List.set_cons_zero, List.set_cons_succ]
     rfl
    refine done_ (done_of HT_.out (by kernel_rfl)) ?_
    obtain ⟨hk0, hk1, hk2, hk3, hk4⟩ := hHeld
    have hf0 := blk_frozen (blk_below HG.out HW.out) 0
    have hf1 := blk_frozen (blk_below HG.out HW.out) 1
    have hf2 := blk_frozen (blk_below HG.out HW.out) 2
    have hf3 := blk_frozen (blk_below HG.out HW.out) 3
    go_wp2
    rw [rounds_succ]
    go_wp2
    refine start_ (n := 28) (S := fun w' => w'.cell? ⟨h, 0, none⟩ = some (.slice (some ⟨g, 0, none⟩) 2 c) ∧ w'.cell? ⟨g, 0, none⟩ = some (.slice a.A a.l.length a.c) ∧ w'.cell? ⟨g, 1, none⟩ = some (.int .i64 a.p) ∧ w'.cell? ⟨g, 2, none⟩ = some (.slice b.A b.l.length b.c) ∧ w'.cell? ⟨g, 3, none⟩ = some (.int .i64 b.p)) (ds := [25, 27]) #[false, false, false, false, false, false, false, false, false, false, false, false, false, false, false, false, false, false, false, false, false, false, false, false, false, false, false, false] (by kernel_rfl) rfl rfl ⟨hk0, hk1, hk2, hk3, hk4⟩ (fun hHeld => ?_)
    refine with_tabW msink.tab7 msink.bits7 (fun HT_ HW_ => ?_)
    refine pureD 0 45 HT_ ?_
    refine pureD 1 46 HT_ ?_
    refine pureD 2 47 HT_ ?_
    refine pureD 4 49 HT_ ?_
    refine pureD 5 50 HT_ ?_
    refine pureD 6 51 HT_ ?_
    refine pureD 7 52 HT_ ?_
    refine pureD 9 54 HT_ ?_
    refine pureD 10 55 HT_ ?_
    refine pureD 11 56 HT_ ?_
    refine pureD 12 57 HT_ ?_
    refine pureD 14 59 HT_ ?_
    refine pureD 17 62 HT_ ?_
    refine pureD 18 63 HT_ ?_
    refine pureD 19 64 HT_ ?_
    refine pureD 21 66 HT_ ?_
    refine takeD 3 48 HT_ HW_ hHeld ?_
    refine takeD 8 53 HT_ HW_ hHeld ?_
    refine takeD 13 58 HT_ HW_ hHeld ?_
    refine pureD 15 60 HT_ ?_
    refine takeD 16 61 HT_ HW_ hHeld ?_
    refine takeD 20 65 HT_ HW_ hHeld ?_
    refine pureD 22 67 HT_ ?_
    refine takeD 23 68 HT_ HW_ hHeld ?_
    refine pureD 24 69 HT_ ?_
    refine last_ (i := 25) (N := none) #[true, true, true, true, true, true, true, true, true, true, true, true, true, true, true, true, true, true, true, true, true, true, true, true, true, true, false, false] rfl rfl (one_of HT_.out (by kernel_rfl)) (by decide) (fun K hK => ?_)
    refine skip_ (w1 := ?_) (by rfl) rfl ?_ ?_
    rotate_left
    ·go_simp
     rfl
    refine hK.out _ _ ?_
    clear hK K
    refine pureD 26 70 HT_ ?_
    refine last_ (i := 27) (N := none) #[true, true, true, true, true, true, true, true, true, true, true, true, true, true, true, true, true, true, true, true, true, true, true, true, true, true, true, true] rfl rfl (one_of HT_.out (by kernel_rfl)) (by decide) (fun K hK => ?_)
    refine skip_ (w1 := ?_) (by rfl) rfl ?_ ?_
    rotate_left
    ·go_simp
     rfl
    refine hK.out _ _ ?_
    clear hK K
    refine done_ (done_of HT_.out (by kernel_rfl)) ?_
    go_wp2
    rw [rounds_succ]
    go_wp2
    refine wp_loop_rounds 1 ?_
    rw [rounds_succ]
    go_wp2
    (try rw [Exit.noGoto_normal])
    refine bodyPost_end (results_none rfl _ _ _) rfl ?_
    simp only [if_true]
    have hgr : w.grownBy w1 (some g) := ⟨HW.out.os, HW.out.tape, HW.out.output, HW.out.size, fun k hk _ => HW.out.block k hk⟩
    refine ⟨by first | rfl | trivial, ?_, ?_⟩
    · repeat (first | (with_reducible exact hgr) | apply grownS_set | apply grownS_drew)
    · have hbl := blk_below HG.out HW.out
      refine ⟨_, (by repeat (first | (with_reducible exact hbl) | apply blk_drew | apply blk_set)), ?_⟩
      refine ⟨by simpa using qs, ?_, ?_, ?_, ?_⟩
      all_goals
        simp [Array.getElem?_setIfInBounds, Fr.v, show 0 < cur.size by omega, show 1 < cur.size by omega, show 2 < cur.size by omega, show 3 < cur.size by omega]
        try (intro e; rw [e] at hcap; simp at hcap)
end Go.Proofs.Ytjemmmemenljbaa.PFold
end
