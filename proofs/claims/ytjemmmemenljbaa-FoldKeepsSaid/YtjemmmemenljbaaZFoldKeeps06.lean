import Derived.Test.YtjemmmemenljbaaZFoldKeeps01
import Derived.Test.YtjemmmemenljbaaZFoldKeeps02
import Derived.Lib.Hide
import Derived.Outline
import Derived.WalkMore
import Derived.Laws.Externs
section
namespace Go.Proofs.Ytjemmmemenljbaa.PFold
open Go.RowKit Go.Proofs.YtjemmmemenljbaaW.PrintWords Go.Proofs.YtjemmmemenljbaaW.PrintLast Go.Proofs.YtjemmmemenljbaaW.PrintMore
attribute [local go_sem] max2_int min2_int max_two min_two max_three min_three max_four min_four   -- for this text's walks alone
set_option linter.unusedVariables false
set_option linter.unusedSimpArgs false
def wide_Of.f (a0 : Int) : Option (Int × Int) := some (a0 / 9223372036854775808, IntKind.u64.wrap (a0))
set_option maxHeartbeats 8000000 in
set_option maxRecDepth 100000 in
theorem wide_Of.calls (a0 : Int) (r1 : Int) (r2 : Int) (w : World) (h : wide_Of.f a0 = some (r1, r2)) :
  Calls Try.prog 46 #[.int .i64 a0] w fun e w' => e = .returned (.agg #[.int .i64 r1, .int .u64 r2]) ∧ Below w.heap.size w w' := by
 have hu39 := Try.underlying39
 have HB := Aside0.mk (Below.refl w.heap.size w)
 have H : (some (a0 / 9223372036854775808, IntKind.u64.wrap (a0))) = some (r1, r2) := h
 clear h
 simp only [Option.some.injEq, Prod.mk.injEq] at H
 obtain ⟨rfl, rfl⟩ := H
 go_enter Try.func46, Try.ntmps46
 go_wp2_with (first | ((with_reducible refine gate_dst (N := 2) rfl ?_); refine box_event ?hg (N := 2) ?hd (cs := #[.int .i64 0, .int .u64 0]) (t := 39) ?hr ?_; (case hd => rfl); (case hg => rfl); (case hr => first | (go_simp; done) | (go_simp; rfl)); intro gb238 hg w2 hbox hb; have n0_ := Aside0.mk (below_step (belA HB.out) hb); have n1_ := Aside0.mk (hbox); have n2_ := Aside0.mk ((by rw [hg]; exact (below_size (belA HB.out)) : w.heap.size ≤ gb238)); have n3_ := Aside0.mk ((by rw [hg]; exact (below_size (belA HB.out)) : w.heap.size ≤ gb238)); clear HB; have HB := n0_; have BK238 := n1_; have GW238 := n2_; have GE238 := n3_; clear n0_ n1_ n2_ n3_; clear hb hbox hg; have hcz3_0 : w2.cell? ⟨gb238, 0, none⟩ = some (.int .i64 0) := (blk_cell BK238.out 0).trans rfl; have hcz3_1 : w2.cell? ⟨gb238, 1, none⟩ = some (.int .u64 0) := (blk_cell BK238.out 1).trans rfl; have hfz3_0 := blk_frozen BK238.out 0; have hfz3_1 := blk_frozen BK238.out 1))
 refine bodyPost_ret (results_cell_row rfl _ _ gb238 39 #[.int .i64 (a0 / 9223372036854775808), .int .u64 (IntKind.u64.wrap (a0))] (0, 0) _ rfl (by (with_reducible repeat (first | refine blk_drewN ?_ _ | refine blk_drew ?_ | refine blk_alloc ?_ _)); refine blk_put (cs := #[.int .i64 (a0 / 9223372036854775808), .int .u64 0]) ?_ 1 _ rfl; (with_reducible repeat (first | refine blk_drewN ?_ _ | refine blk_drew ?_ | refine blk_alloc ?_ _)); refine blk_put (cs := #[.int .i64 0, .int .u64 0]) ?_ 0 _ rfl; (with_reducible repeat (first | refine blk_drewN ?_ _ | refine blk_drew ?_ | refine blk_alloc ?_ _)); exact BK238.out) Try.underlying39 rfl (by kernel_rfl)) rfl ?_
 exact ⟨by first | rfl | (simp [errW_none, errW_some] <;> rfl) | (simp [*, errW_none, errW_some] <;> rfl) | (exfalso; simp_all; done), belB HB.out GE238.out⟩
def agg_One.f (a0 : Int) : Option (Int × Bool × Int × Int × Int × Int) := (wide_Of.f a0).bind fun bt240 => (some (1, false, bt240.1, bt240.2, a0, a0))
set_option maxHeartbeats 8000000 in
set_option maxRecDepth 100000 in
theorem agg_One.calls (a0 : Int) (r1 : Int) (r2 : Bool) (r3 : Int) (r4 : Int) (r5 : Int) (r6 : Int) (w : World) (h : agg_One.f a0 = some (r1, r2, r3, r4, r5, r6)) :
  Calls Try.prog 19 #[.int .i64 a0] w fun e w' => e = .returned (.agg #[.int .u64 r1, .bool r2, .int .i64 r3, .int .u64 r4, .int .i64 r5, .int .i64 r6]) ∧ Below w.heap.size w w' := by
 have hu41 := Try.underlying41
 have HB := Aside0.mk (Below.refl w.heap.size w)
 have H : ((wide_Of.f a0).bind fun bt240 => (some (1, false, bt240.1, bt240.2, a0, a0))) = some (r1, r2, r3, r4, r5, r6) := h
 clear h
 replace H := Option.bind_eq_some_iff.mp H
 obtain ⟨⟨t240, t241⟩, A20, H⟩ := H
 replace H : (some (1, false, t240, t241, a0, a0)) = some (r1, r2, r3, r4, r5, r6) := H
 have A2 := Aside0.mk A20
 clear A20
 simp only [Option.some.injEq, Prod.mk.injEq] at H
 obtain ⟨rfl, rfl, rfl, rfl, rfl, rfl⟩ := H
 go_enter Try.func19, Try.ntmps19
 go_wp2_with (first | ((with_reducible refine gate_dst (N := 2) rfl ?_); refine box_event ?hg (N := 2) ?hd (cs := #[.int .u64 0, .bool false, .int .i64 0, .int .u64 0, .int .i64 0, .int .i64 0]) (t := 41) ?hr ?_; (case hd => rfl); (case hg => rfl); (case hr => first | (go_simp; done) | (go_simp; rfl)); intro gb239 hg w3 hbox hb; have n0_ := Aside0.mk (below_step (belA HB.out) hb); have n1_ := Aside0.mk (hbox); have n2_ := Aside0.mk ((by rw [hg]; exact (below_size (belA HB.out)) : w.heap.size ≤ gb239)); have n3_ := Aside0.mk ((by rw [hg]; exact (below_size (belA HB.out)) : w.heap.size ≤ gb239)); clear HB; have HB := n0_; have BK239 := n1_; have GW239 := n2_; have GE239 := n3_; clear n0_ n1_ n2_ n3_; clear hb hbox hg) | ((with_reducible refine gate_callee (f := 46) rfl ?_); refine goesL_ (some 4) rfl rfl Try.func46 (by kernel_rfl) rfl #[.int .i64 a0] rfl argA ?_; (with_reducible refine (wide_Of.calls a0 t240 t241 _ A2.out).mono ?_); rintro e w4 ⟨rfl, hb⟩; refine ⟨_, rfl, ?_⟩; have n0_ := Aside0.mk (blk_below (g := gb239) (o := .cells #[.int .u64 0, .bool false, .int .i64 0, .int .u64 0, .int .i64 0, .int .i64 0] 41 (0, 0)) (blkA BK239.out) hb); have n1_ := Aside0.mk (below_step (belB HB.out GE239.out) hb); clear BK239; clear HB; have BK239 := n0_; have HB := n1_; clear n0_ n1_; (try clear hb); (try clear hb2); (try clear hk); (try clear hi); have hcz5_0 : w4.cell? ⟨gb239, 0, none⟩ = some (.int .u64 0) := (blk_cell BK239.out 0).trans rfl; have hcz5_1 : w4.cell? ⟨gb239, 1, none⟩ = some (.bool false) := (blk_cell BK239.out 1).trans rfl; have hcz5_2 : w4.cell? ⟨gb239, 2, none⟩ = some (.int .i64 0) := (blk_cell BK239.out 2).trans rfl; have hcz5_3 : w4.cell? ⟨gb239, 3, none⟩ = some (.int .u64 0) := (blk_cell BK239.out 3).trans rfl; have hcz5_4 : w4.cell? ⟨gb239, 4, none⟩ = some (.int .i64 0) := (blk_cell BK239.out 4).trans rfl; have hcz5_5 : w4.cell? ⟨gb239, 5, none⟩ = some (.int .i64 0) := (blk_cell BK239.out 5).trans rfl; have hfz5_0 := blk_frozen BK239.out 0; have hfz5_1 := blk_frozen BK239.out 1; have hfz5_2 := blk_frozen BK239.out 2; have hfz5_3 := blk_frozen BK239.out 3; have hfz5_4 := blk_frozen BK239.out 4; have hfz5_5 := blk_frozen BK239.out 5))
 refine bodyPost_ret (results_cell_row rfl _ _ gb239 41 #[.int .u64 1, .bool false, .int .i64 t240, .int .u64 t241, .int .i64 a0, .int .i64 a0] (0, 0) _ rfl (by (with_reducible repeat (first | refine blk_drewN ?_ _ | refine blk_drew ?_ | refine blk_alloc ?_ _)); refine blk_put (cs := #[.int .u64 1, .bool false, .int .i64 t240, .int .u64 t241, .int .i64 a0, .int .i64 0]) ?_ 5 _ rfl; (with_reducible repeat (first | refine blk_drewN ?_ _ | refine blk_drew ?_ | refine blk_alloc ?_ _)); refine blk_put (cs := #[.int .u64 1, .bool false, .int .i64 t240, .int .u64 t241, .int .i64 0, .int .i64 0]) ?_ 4 _ rfl; (with_reducible repeat (first | refine blk_drewN ?_ _ | refine blk_drew ?_ | refine blk_alloc ?_ _)); refine blk_put (cs := #[.int .u64 1, .bool false, .int .i64 t240, .int .u64 0, .int .i64 0, .int .i64 0]) ?_ 3 _ rfl; (with_reducible repeat (first | refine blk_drewN ?_ _ | refine blk_drew ?_ | refine blk_alloc ?_ _)); refine blk_put (cs := #[.int .u64 1, .bool false, .int .i64 0, .int .u64 0, .int .i64 0, .int .i64 0]) ?_ 2 _ rfl; (with_reducible repeat (first | refine blk_drewN ?_ _ | refine blk_drew ?_ | refine blk_alloc ?_ _)); refine blk_put (cs := #[.int .u64 1, .bool false, .int .i64 0, .int .u64 0, .int .i64 0, .int .i64 0]) ?_ 1 _ rfl; (with_reducible repeat (first | refine blk_drewN ?_ _ | refine blk_drew ?_ | refine blk_alloc ?_ _)); refine blk_put (cs := #[.int .u64 0, .bool false, .int .i64 0, .int .u64 0, .int .i64 0, .int .i64 0]) ?_ 0 _ rfl; (with_reducible repeat (first | refine blk_drewN ?_ _ | refine blk_drew ?_ | refine blk_alloc ?_ _)); exact BK239.out) Try.underlying41 rfl (by kernel_rfl)) rfl ?_
 exact ⟨by first | rfl | (simp [errW_none, errW_some] <;> rfl) | (simp [*, errW_none, errW_some] <;> rfl) | (exfalso; simp_all; done), belB HB.out GE239.out⟩
def rickyardlaw15_Rules.f  : Option ((List (S67)) × Int) := some ((([(⟨1, 0⟩ : S67), (⟨10, 20⟩ : S67)] : List (S67))), 100)
set_option maxHeartbeats 8000000 in
set_option maxRecDepth 100000 in
theorem rickyardlaw15_Rules.calls  (r1 : List (S67)) (r2 : Int) (w : World) (h : rickyardlaw15_Rules.f  = some (r1, r2)) :
  Calls Try.prog 26 #[] w fun e w' => ∃ v0_ : Value, e = .returned (.agg #[v0_, .int .i64 r2]) ∧ Kd.R k67 67 w' w.heap.size (fun _ => True) v0_ r1 ∧ Below w.heap.size w w' := by
 have hu24 := Try.underlying24
 have hu67 := Try.underlying67
 have HB := Aside0.mk (Below.refl w.heap.size w)
 have H : (some ((([(⟨1, 0⟩ : S67), (⟨10, 20⟩ : S67)] : List (S67))), 100)) = some (r1, r2) := h
 clear h
 obtain ⟨y243, hy243⟩ : ∃ y_ : List (S67), y_ = (([(⟨1, 0⟩ : S67), (⟨10, 20⟩ : S67)] : List (S67))) := ⟨_, rfl⟩
 replace H : (some (y243, 100)) = some (r1, r2) := by first | (rw [hy243]; with_reducible exact H) | (have H2_ := (Option.bind_some _ _).symm.trans H; rw [hy243]; with_reducible exact H2_) | (have H2_ := (Option.bind_some _ _).symm.trans H; with_reducible exact H2_) | with_reducible exact H | (rw [hy243]; exact H) | exact H
 have Ny243 := Aside0.mk hy243
 clear hy243
 simp only [Option.some.injEq, Prod.mk.injEq] at H
 obtain ⟨rfl, rfl⟩ := H
 go_enter Try.func26, Try.ntmps26
 go_wp2_with (first | ((with_reducible refine gate_dst (N := 0) rfl ?_); refine box_event ?hg (N := 0) ?hd (cs := #[.slice none 0 0, .int .i64 0]) (t := 24) ?hr ?_; (case hd => rfl); (case hg => rfl); (case hr => first | (go_simp; done) | (go_simp; rfl)); intro gb242 hg w1 hbox hb; have n0_ := Aside0.mk (below_step (belA HB.out) hb); have n1_ := Aside0.mk (hbox); have n2_ := Aside0.mk ((by rw [hg]; exact (below_size (belA HB.out)) : w.heap.size ≤ gb242)); have n3_ := Aside0.mk ((by rw [hg]; exact (below_size (belA HB.out)) : w.heap.size ≤ gb242)); clear HB; have HB := n0_; have BK242 := n1_; have GW242 := n2_; have GE242 := n3_; clear n0_ n1_ n2_ n3_; clear hb hbox hg) | ((with_reducible refine gate_dst (N := 3) rfl ?_); refine Kd.R_lit k67 _ 67 ?hg (N := 3) ?hd (xs := ([(⟨1, 0⟩ : S67), (⟨10, 20⟩ : S67)] : List (S67))) (inner := [.int .i64 1, .int .i64 0, .int .i64 10, .int .i64 20]) (ok := fun _ => True) (okp := fun _ => True) ?hr ?hp (fun _ hk => hk) trivial (Below.refl _ _) (Nat.le_refl _) (by simp) ?_; (case hd => rfl); (case hg => rfl); (case hr => first | (go_simp; done) | (go_simp; rfl)); (case hp => exact (Reps.c2 (show Kd.M k67 _ _ _ (⟨1, 0⟩ : S67) [.int .i64 1, .int .i64 0] from (k67_mkM _ _ _ (⟨1, 0⟩ : S67) )) (Reps.c2 (show Kd.M k67 _ _ _ (⟨10, 20⟩ : S67) [.int .i64 10, .int .i64 20] from (k67_mkM _ _ _ (⟨10, 20⟩ : S67) )) (Reps.none _ _)))); intro v244 w2 ho3 hb hg_ hnew_; clear hg_ hnew_; (first | rw [← Ny243.out] at ho3 | (simp only [Int.reduceToNat] at ho3; rw [← Ny243.out] at ho3)); have n0_ := Aside0.mk (Kd.R_lower ho3 (below_size (belB HB.out GE242.out))); have n1_ := Aside0.mk (blk_below (g := gb242) (o := .cells #[.slice none 0 0, .int .i64 0] 24 (0, 0)) (blkA BK242.out) hb); have n2_ := Aside0.mk (below_step (belB HB.out GE242.out) hb); clear BK242; clear HB; have HO245 := n0_; have BK242 := n1_; have HB := n2_; clear n0_ n1_ n2_; clear hb ho3; obtain ⟨Ao4, co4, eo4⟩ := Kd.R_slice HO245.out; subst eo4; have hcz5_0 : w2.cell? ⟨gb242, 0, none⟩ = some (.slice none 0 0) := (blk_cell BK242.out 0).trans rfl; have hcz5_1 : w2.cell? ⟨gb242, 1, none⟩ = some (.int .i64 0) := (blk_cell BK242.out 1).trans rfl; have hfz5_0 := blk_frozen BK242.out 0; have hfz5_1 := blk_frozen BK242.out 1))
 refine bodyPost_ret (results_cell_row rfl _ _ gb242 24 #[.slice Ao4 y243.length co4, .int .i64 100] (0, 0) _ rfl (by (with_reducible repeat (first | refine blk_drewN ?_ _ | refine blk_drew ?_ | refine blk_alloc ?_ _)); refine blk_put (cs := #[.slice Ao4 y243.length co4, .int .i64 0]) ?_ 1 _ rfl; (with_reducible repeat (first | refine blk_drewN ?_ _ | refine blk_drew ?_ | refine blk_alloc ?_ _)); refine blk_put (cs := #[.slice none 0 0, .int .i64 0]) ?_ 0 _ rfl; (with_reducible repeat (first | refine blk_drewN ?_ _ | refine blk_drew ?_ | refine blk_alloc ?_ _)); exact BK242.out) Try.underlying24 rfl (by kernel_rfl)) rfl ?_
 exact ⟨_, by first | rfl | (simp [errW_none, errW_some] <;> rfl) | (simp [*, errW_none, errW_some] <;> rfl) | (exfalso; simp_all; done), by (with_reducible repeat (first | apply Kd.R_alloc | apply Kd.R_drewN | apply Kd.R_drew)); exact Kd.R_mono (Kd.R_far (p := ⟨gb242, 1, none⟩) (Kd.R_far (p := ⟨gb242, 0, none⟩) (Kd.R_types HO245.out BK242.out (by decide)) (fun _ hk => hk.2) (.slice Ao4 y243.length co4)) (fun _ hk => hk.2) (.int .i64 100)) (fun _ hk => trivial), belB HB.out GE242.out⟩
end Go.Proofs.Ytjemmmemenljbaa.PFold
end
section
namespace Go.Proofs.Ytjemmmemenljbaa.PFold
open Go.RowKit Go.Proofs.YtjemmmemenljbaaW.PrintWords Go.Proofs.YtjemmmemenljbaaW.PrintLast Go.Proofs.YtjemmmemenljbaaW.PrintMore
def mW : Int := 18446744073709551616
def stW (s : Int × Int) (x : S39) : Int × Int := ((s.1 + IntKind.u64.wrap x.f0 + (s.2 + x.f1) / mW) % mW, (s.2 + x.f1) % mW)
theorem mod_mW (x : Int) : 0 ≤ x % mW ∧ x % mW < mW := ⟨Int.emod_nonneg _ (by decide), Int.emod_lt_of_pos _ (by decide)⟩
theorem u64_wrap (x : Int) : IntKind.u64.wrap x = x % mW := by
  unfold mW; show x % 18446744073709551616 = _; rfl
def inU (x : Int) : Prop := 0 ≤ x ∧ x < mW
theorem run_add (x y c : Int) (hx : 0 ≤ x) (hy : 0 ≤ y) (hc0 : 0 ≤ c) (hc : c ≤ 1) (w : World) :
    (callFunc 95 #[.int .u64 x, .int .u64 y, .int .u64 c]).run Try.prog w = .ok (.value (.tuple #[.int .u64 ((x + y + c) % mW), .int .u64 ((x + y + c) / mW)])) w := by
  rw [run_callFunc_extern Try.func95 (by kernel_rfl) (by kernel_rfl) (by kernel_rfl) (e := add64Entry) (by kernel_rfl), run_add64 x y c hx hy hc0 hc]
  rfl
theorem wrap_bd (x : Int) : inU (IntKind.u64.wrap x) := by rw [u64_wrap]; exact mod_mW x
theorem carry_bd {a b : Int} (ha : inU a) (hb : inU b) : 0 ≤ (a + b) / mW ∧ (a + b) / mW ≤ 1 := by
  unfold inU mW at *
  omega
def sumW (l : List S39) : Int × Int := l.foldl stW (0, 0)
theorem sumW_snoc {l : List S39} {j : Nat} (h : j < l.length) : sumW (l.take (j + 1)) = stW (sumW (l.take j)) l[j] := by
  unfold sumW
  rw [List.take_succ_eq_append_getElem h, List.foldl_append]
  rfl
theorem sumW_bd (l : List S39) : inU (sumW l).1 ∧ inU (sumW l).2 := by
  rcases List.eq_nil_or_concat l with rfl | ⟨l', x, rfl⟩
  · exact ⟨⟨Int.le_refl _, by decide⟩, ⟨Int.le_refl _, by decide⟩⟩
  · unfold sumW
    rw [List.concat_eq_append, List.foldl_append]
    exact ⟨mod_mW _, mod_mW _⟩
def SumRel (w : World) (gr : Nat) (wr : World) : Prop := Below w.heap.size w wr ∧ wr.heap[gr]? = some (.cells #[.int .i64 0, .int .u64 0] 39 (0, 0))
set_option maxHeartbeats 1000000 in
set_option maxRecDepth 100000 in
theorem wide_sum_calls (A0 : Option Addr) (c0 : Nat) (l0 : List S39) (w : World) (hr0 : Kd.C k39 w A0 l0.length l0) (hl : l0.length ≤ 1000) (hu : ∀ x ∈ l0, inU x.f1) :
    Calls Try.prog 74 #[.slice A0 l0.length c0] w fun e w' => e = .returned (.agg #[.int .i64 (wrap64 (sumW l0).1), .int .u64 (sumW l0).2]) ∧ Below w.heap.size w w' := by
  have HC := Lib.hid hr0; have HU := Lib.hid hu; clear hr0 hu
  go_enter Try.func74, Try.ntmps74
  go_wp2
  go_loopw [3, 4, 10] (fun v3 v4 v wr => ∃ j : Nat, v = .int .i64 j ∧ j ≤ l0.length ∧ v3 = .int .u64 (sumW (l0.take j)).1 ∧ v4 = .int .u64 (sumW (l0.take j)).2 ∧ SumRel w w.heap.size wr) (fun _ _ v _ => l0.length - (intOf v).toNat)
  case atStart => exact ⟨0, rfl, Nat.zero_le _, rfl, rfl, (Below.refl _ _).alloc (Nat.le_refl _) _, blk_new _ _⟩
  case round =>
    obtain ⟨j, rfl, hj, rfl, rfl, hB, hG⟩ := hrel
    have HB := Lib.hid hB; have HG := Lib.hid hG; clear hB hG
    have hs := sumW_bd (l0.take j)
    by_cases hlt : j < l0.length
    · have e1 : decide ((j : Int) < (l0.length : Int)) = true := decide_eq_true (by omega)
      obtain ⟨ad, ha, hx0, hx1⟩ := at_T39 HC.out (j : Int) (by omega) (by omega)
      subst ha
      obtain ⟨x, hx⟩ : ∃ x, x = rd_T39 l0 (j : Int) := ⟨_, rfl⟩
      have hxl : x = l0[j] := by
        rw [hx]; unfold rd_T39
        rw [show ((j : Int)).toNat = j from by omega, List.getD_eq_getElem?_getD, List.getElem?_eq_getElem hlt]
        rfl
      rw [← hx] at hx0 hx1
      simp only [Int.toNat_natCast] at hx0 hx1
      have hux : inU x.f1 := HU.out x (by rw [hxl]; exact List.getElem_mem hlt)
      have hn : sumW (l0.take (j + 1)) = stW (sumW (l0.take j)) x := by rw [sumW_snoc hlt, hxl]
      unfold stW at hn
      generalize sumW (l0.take j) = s at *
      have hr1 : ∀ w, (callFunc 95 #[.int .u64 s.2, .int .u64 x.f1, .int .u64 0]).run Try.prog w = .ok (.value (.tuple #[.int .u64 ((s.2 + x.f1) % mW), .int .u64 ((s.2 + x.f1) / mW)])) w := fun w => by
        have := run_add s.2 x.f1 0 hs.2.1 hux.1 (by omega) (by omega) w
        rw [Int.add_zero] at this; exact this
      have hcb := carry_bd hs.2 hux
      generalize (s.2 + x.f1) / mW = cy at *
      generalize (s.2 + x.f1) % mW = lo at *
      have hr2 : ∀ w, (callFunc 95 #[.int .u64 s.1, .int .u64 (IntKind.u64.wrap x.f0), .int .u64 cy]).run Try.prog w = .ok (.value (.tuple #[.int .u64 ((s.1 + IntKind.u64.wrap x.f0 + cy) % mW), .int .u64 ((s.1 + IntKind.u64.wrap x.f0 + cy) / mW)])) w := fun w => run_add _ _ _ hs.1.1 (wrap_bd x.f0).1 hcb.1 hcb.2 w
      generalize (s.1 + IntKind.u64.wrap x.f0 + cy) % mW = hi at *
      generalize (s.1 + IntKind.u64.wrap x.f0 + cy) / mW = over at *
      have HN := Lib.hid hn
      replace hx0 := (HB.out.cell (World.block_lt_of_cell? w _ hx0)).trans hx0
      replace hx1 := (HB.out.cell (World.block_lt_of_cell? w _ hx1)).trans hx1
      clear hn hxl hx hux hcb hs
      go_wp2
      go_roundw
      case rel => exact ⟨j + 1, by go_num, hlt, by rw [HN.out], by rw [HN.out], HB.out.alloc HB.out.size _, blk_alloc HG.out _⟩
      case measure => simp [intOf]; omega
    · have e1 : decide ((j : Int) < (l0.length : Int)) = false := decide_eq_false (by omega)
      have ht : Hid (l0.take j = l0) := Lib.hid (List.take_of_length_le (by omega))
      have hg0 := (blk_cell HG.out 0).trans (show _ = some (Value.int .i64 0) from rfl)
      have hg1 := (blk_cell HG.out 1).trans (show _ = some (Value.int .u64 0) from rfl)
      have hf0 := blk_frozen HG.out 0
      have hf1 := blk_frozen HG.out 1
      clear hs
      go_wp2
      refine bodyPost_ret (v := .agg #[.int .i64 (wrap64 (sumW (l0.take j)).1), .int .u64 (sumW (l0.take j)).2]) (by simp [results, Try.results74, go_sem, hg0, hg1]) rfl ?_
      rw [ht.out]
      exact ⟨rfl, below_set (below_set HB.out (Nat.le_refl _)) (Nat.le_refl _)⟩
theorem two_wide (w : World) (b : Nat) (x y : S39) (h : w.heap[b]? = some (.cells #[.int .i64 x.f0, .int .u64 x.f1, .int .i64 y.f0, .int .u64 y.f1] 39 (0, 0))) : Kd.C k39 w (some ⟨b, 0, none⟩) [x, y].length [x, y] := by
  refine ⟨rfl, by simp, fun _ => ⟨_, rfl, fun j p hj => ?_⟩⟩
  rcases j with _ | _ | j
  · cases hj
    refine ⟨_, rfl, k39_mk w x, fun i u hu => ?_⟩
    rw [add_plain, blk_cell h]
    rcases i with _ | _ | i
    · exact hu
    · exact hu
    · simp at hu
  · cases hj
    refine ⟨_, rfl, k39_mk w y, fun i u hu => ?_⟩
    rw [add_plain, blk_cell h]
    rcases i with _ | _ | i
    · exact hu
    · exact hu
    · simp at hu
  · simp at hj
def addW (a b : S39) : S39 := ⟨wrap64 (sumW [a, b]).1, (sumW [a, b]).2⟩
instance (x : Int) : Decidable (inU x) := by unfold inU; infer_instance
def wide_Add.f (a0_0 a0_1 a1_0 a1_1 : Int) : Option (Int × Int) := if inU a0_1 ∧ inU a1_1 then some ((addW ⟨a0_0, a0_1⟩ ⟨a1_0, a1_1⟩).f0, (addW ⟨a0_0, a0_1⟩ ⟨a1_0, a1_1⟩).f1) else none
set_option maxHeartbeats 1000000 in
set_option maxRecDepth 100000 in
theorem wide_Add.calls (a0_0 a0_1 a1_0 a1_1 : Int) (r1 r2 : Int) (w : World) (h : wide_Add.f a0_0 a0_1 a1_0 a1_1 = some (r1, r2)) :
    Calls Try.prog 44 #[.agg #[.int .i64 a0_0, .int .u64 a0_1], .agg #[.int .i64 a1_0, .int .u64 a1_1]] w fun e w' => e = .returned (.agg #[.int .i64 r1, .int .u64 r2]) ∧ Below w.heap.size w w' := by
  unfold wide_Add.f at h
  by_cases hu : inU a0_1 ∧ inU a1_1
  case neg => rw [if_neg hu] at h; cases h
  rw [if_pos hu] at h
  simp only [Option.some.injEq, Prod.mk.injEq] at h
  obtain ⟨h1, h2⟩ := h
  have HU := Lib.hid hu; have H1 := Lib.hid h1; have H2 := Lib.hid h2
  clear hu h1 h2
  go_enter Try.func44, Try.ntmps44
  go_wp2_with (go_at_call 74; refine (wide_sum_calls (some ⟨w.heap.size + 1 + 1 + 1, 0, none⟩) 2 [⟨a0_0, a0_1⟩, ⟨a1_0, a1_1⟩] _ (two_wide _ _ ⟨a0_0, a0_1⟩ ⟨a1_0, a1_1⟩ (by have := blk_new (((w.alloc (.cells #[.int .i64 a0_0, .int .u64 a0_1] 39)).alloc (.cells #[.int .i64 a1_0, .int .u64 a1_1] 39)).alloc (.cells #[.int .i64 0, .int .u64 0] 39)) (.cells #[.int .i64 a0_0, .int .u64 a0_1, .int .i64 a1_0, .int .u64 a1_1] 39); simpa using this)) (by simp) (by intro x hx; simp at hx; rcases hx with rfl | rfl; exact HU.out.1; exact HU.out.2)).mono ?_; rintro e w1 ⟨rfl, hb⟩; have hk := Lib.hid (blk_below (blk_alloc (blk_new ((w.alloc (.cells #[.int .i64 a0_0, .int .u64 a0_1] 39)).alloc (.cells #[.int .i64 a1_0, .int .u64 a1_1] 39)) (.cells #[.int .i64 0, .int .u64 0] 39)) _) hb); have hB := Lib.hid (below_step ((((Below.refl w.heap.size w).alloc (Nat.le_refl _) _).alloc (by simp) _ |>.alloc (by simp; omega) _).alloc (by simp; omega) _) hb); clear hb; have hc0 := (blk_cell hk.out 0).trans (show _ = some (Value.int .i64 0) from rfl); have hc1 := (blk_cell hk.out 1).trans (show _ = some (Value.int .u64 0) from rfl); have hf0 := blk_frozen hk.out 0; have hf1 := blk_frozen hk.out 1; simp at hc0 hc1 hf0 hf1)
  refine bodyPost_ret (v := .agg #[.int .i64 (wrap64 (sumW [⟨a0_0, a0_1⟩, ⟨a1_0, a1_1⟩]).1), .int .u64 (sumW [⟨a0_0, a0_1⟩, ⟨a1_0, a1_1⟩]).2]) (by simp [results, Try.results44, go_sem, hc0, hc1]) rfl ?_
  rw [← H1.out, ← H2.out]
  exact ⟨rfl, below_set (below_set hB.out (by omega)) (by omega)⟩
end Go.Proofs.Ytjemmmemenljbaa.PFold
end
