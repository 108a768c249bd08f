import Derived.Test.YtdopbhbbpgfliaaZAskRanges03
import Derived.Test.YtdopbhbbpgfliaaZAskRanges04
section
namespace Go.Proofs.Ytdopbhbbpgfliaa.PAsk
open Go.RowKit Go.Proofs.YtdopbhbbpgfliaaW.PrintWords Go.Proofs.YtdopbhbbpgfliaaW.PrintLast Go.Proofs.YtdopbhbbpgfliaaW.PrintMore
attribute [local go_sem] max2_int min2_int max_two min_two max_three min_three max_four min_four   -- for this text's walks alone
set_option linter.unusedVariables false
set_option linter.unusedSimpArgs false
set_option maxHeartbeats 8000000
set_option maxRecDepth 100000
def rickyardlaw17_As.l0 : Nat → List (S44) → List (S73) → Int → Option ((List (S73)))
 | 0, _, _, _ => none
 | k + 1, x0, x3, x4 => if x4 < (x0.length : Int) then (if 0 ≤ x4 then (if x3.length < 1599289640401 then (rickyardlaw17_As.l0 k x0 (x3 ++ [(⟨(rd_T44 x0 x4).f0, (rd_T44 x0 x4).f1, (rd_T44 x0 x4).f2, (⟨(rd_T44 x0 x4).f3.f0, (rd_T44 x0 x4).f3.f1, (⟨(rd_T44 x0 x4).f3.f2.f0, (rd_T44 x0 x4).f3.f2.f1⟩ : S40), (rd_T44 x0 x4).f3.f3, (rd_T44 x0 x4).f3.f4⟩ : S42)⟩ : S73)]) (wrap64 (x4 + 1))) else (none)) else (none)) else (some x3)
def rickyardlaw17_As.f (k : Nat) (l0 : List (S44)) : Option ((List (S73))) := rickyardlaw17_As.l0 k l0 ([] : List (S73)) 0
def rickyardlaw17_As.T5 : Bool × List (List Nat × List Nat) := (true, [([], []), ([], []), ([], []), ([1, 2], [1, 2]), ([3], [3]), ([4], [4]), ([], []), ([], []), ([6, 7], [6, 7]), ([8], [8]), ([9], [9]), ([], []), ([], []), ([11, 12], [11, 12]), ([13], [13]), ([14], [14]), ([], []), ([], []), ([16, 17], [16, 17]), ([18], [18]), ([19], [19]), ([5, 10, 15, 20], [5, 10, 15, 20]), ([21], [21]), ([0, 22], [0, 22]), ([23, 23, 0, 1, 2, 3, 4, 5, 6, 7, 8, 9, 10, 11, 12, 13, 14, 15, 16, 17, 18, 19, 20, 21, 22, 23], [0, 23])])
def rickyardlaw17_As.B5 : List Nat := [0, 0, 0, 6, 14, 30, 0, 0, 192, 448, 960, 0, 0, 6144, 14336, 30720, 0, 0, 196608, 458752, 983040, 2097150, 4194302, 8388607, 16777215]
theorem rickyardlaw17_As.tab5 : rtab .any (opsOf Try.f11 5) = rickyardlaw17_As.T5 := by kernel_rfl
theorem rickyardlaw17_As.bits5 : waitsOk rickyardlaw17_As.T5.2 rickyardlaw17_As.B5 = true := by kernel_rfl
theorem rickyardlaw17_As.calls (k : Nat) (P0_ : Nat → Prop) (A0 : Option Addr) (c0 : Nat) (l0 : List (S44)) (r : List (S73)) (w : World) (hs0 : Kd.V k44 44 w w.heap.size (fun k_ => P0_ k_) (.slice A0 l0.length c0) l0) (h : rickyardlaw17_As.f k l0 = some r) :
  Calls Try.prog 11 #[.slice A0 l0.length c0] w fun e w' => ∃ v0_ : Value, e = .returned (v0_) ∧ Kd.N k73 73 w' w.heap.size (fun k_ => (P0_ k_ ∨ w.heap.size ≤ k_)) v0_ r ∧ Below w.heap.size w w' := by
 have hu42 := Try.underlying42
 have hu73 := Try.underlying73
 have HO0 := Aside0.mk (show Kd.V k44 44 w w.heap.size (fun k_ => (P0_ k_ ∨ w.heap.size ≤ k_)) (.slice A0 l0.length c0) l0 from Kd.V_mono hs0 (fun k_ hk => .inl hk))
 have HB := Aside0.mk (Below.refl w.heap.size w)
 have H : (rickyardlaw17_As.l0 k l0 ([] : List (S73)) 0) = some r := h
 clear h
 have H' := Aside0.mk H
 clear H
 go_enter Try.func11, Try.ntmps11
 go_wp2
 go_loopg [3, 4] k (fun kq v3 v4 w' => ∃ (x3_1 : List (S73)) (x4_1 : Int), v4 = .int .i64 x4_1 ∧ Aside0 (rickyardlaw17_As.l0 kq l0 x3_1 x4_1 = some r) ∧ Aside0 (kq ≤ k) ∧ Aside0 (Kd.V k44 44 w' w.heap.size (fun k_ => (P0_ k_ ∨ w.heap.size ≤ k_) ∧ some k_ ≠ (v3 : Value).ownBlock) (.slice A0 l0.length c0) l0) ∧ Aside0 (Kd.N k73 73 w' w.heap.size (fun k_ => (P0_ k_ ∨ w.heap.size ≤ k_)) v3 x3_1) ∧ Aside0 (Below w.heap.size w w'))
 case atStart => exact ⟨(([] : List (S73))), (0), relA, H', ⟨Nat.le_refl _⟩, ⟨by (with_reducible repeat (first | apply Kd.V_alloc | apply Kd.V_drewN | apply Kd.V_drew)); exact Kd.V_mono HO0.out (fun _ hk => ⟨hk, (by simp [Value.ownBlock])⟩)⟩, ⟨by first | exact Kd.R_nil _ _ _ _ _ | exact Kd.N_nil _ _ _ _ _ | exact Kd.V_nil _ _ _ _ _ | exact Kd.Q_nil _ _ _ _ _ | exact Kd.S_nil _ _ _ _ _⟩, ⟨belA HB.out⟩⟩
 case round =>
  clear H'
  try clear c1
  obtain ⟨x3_1, x4_1, rfl, HA, HK1, HO_0, HO_3, HB⟩ := hrel
  cases gk with
  | zero => exact absurd HA.out (by simp [rickyardlaw17_As.l0])
  | succ k1 =>
   have H := HA.out
   clear HA
   simp only [rickyardlaw17_As.l0] at H
   by_cases c2 : x4_1 < (l0.length : Int)
   rotate_left
   ·rw [if_neg c2] at H
    have c2b0 := decide_eq_false c2
    clear c2
    obtain rfl := Option.some.inj H
    go_wp2
    go_ret
    exact ⟨_, ret1, nilA HO_3.out, belA HB.out⟩
   rw [if_pos c2] at H
   have c2b0 := decide_eq_true c2
   clear c2
   replace H := ifN H
   obtain ⟨c3, H⟩ := H
   have c3b0 := decide_eq_true c3
   clear c3
   replace H := ifN H
   obtain ⟨c4, H⟩ := H
   have LMc4 := Aside0.mk c4
   clear c4
   obtain ⟨y532, hy532⟩ : ∃ y_ : List (S73), y_ = (x3_1 ++ [(⟨(rd_T44 l0 x4_1).f0, (rd_T44 l0 x4_1).f1, (rd_T44 l0 x4_1).f2, (⟨(rd_T44 l0 x4_1).f3.f0, (rd_T44 l0 x4_1).f3.f1, (⟨(rd_T44 l0 x4_1).f3.f2.f0, (rd_T44 l0 x4_1).f3.f2.f1⟩ : S40), (rd_T44 l0 x4_1).f3.f3, (rd_T44 l0 x4_1).f3.f4⟩ : S42)⟩ : S73)]) := ⟨_, rfl⟩
   replace H : (rickyardlaw17_As.l0 k1 l0 y532 (wrap64 (x4_1 + 1))) = some r := nmA hy532 H
   have Ny532 := Aside0.mk hy532
   clear hy532
   have H' := Aside0.mk H
   clear H
   try go_wp2
   replace HO_0 := Aside0.mk (Kd.V_drew HO_0.out)
   replace HO_3 := Aside0.mk (Kd.N_drew HO_3.out)
   replace HB := Aside0.mk (below_drew1 HB.out)
   have p528 : 0 ≤ (x4_1 : Int) := of_decide_eq_true asmA
   have q528 : x4_1 < (l0.length : Int) := of_decide_eq_true asmA
   obtain ⟨ad528, A528_0, c528_0, e528, hx528_0, hx528_1, hx528_2, hx528_3, hx528_4, hx528_5, hx528_6, hx528_7, hx528_8, hl528_0, hi528_0⟩ := at_T44 (Kd.V_reads' HO_0.out).2.2 x4_1 p528 q528
   cases e528
   obtain ⟨ce528, hce528, hMe528, hcc528⟩ := Kd.V_get HO_0.out z44 x4_1 p528 (by first | exact q528 | exact of_decide_eq_true asmA | (have e_ := (Kd.V_reads' HO_0.out).1; omega))
   obtain ⟨ua528_0, uc528_0, rfl, ul528_0, ge528_0⟩ := k44_openF hMe528
   have hv528_0 := hcc528 0 _ rfl
   rw [Nat.add_zero] at hv528_0
   replace hv528_0 := Option.some.inj (hv528_0.symm.trans hx528_0)
   injection hv528_0 with hva_ hvn_ hvc_
   rw [hva_] at ge528_0
   rw [hvc_] at ul528_0
   have HL528_0 := Aside0.mk (show Kd.V Kd.string 9 _ w.heap.size _ _ ((rd_T44 l0 x4_1).f0) from Kd.V_mk ul528_0 ge528_0)
   clear hva_ hvn_ hvc_ ge528_0 ul528_0
   clear hcc528 hce528
   have HR528_0 := Aside0.mk hi528_0
   have HC528_0 := Aside0.mk hl528_0
   clear hi528_0 hl528_0
   replace p528 := eq_true p528
   replace q528 := eq_true q528
   have p529 : 0 ≤ (x4_1 : Int) := of_decide_eq_true asmA
   have q529 : x4_1 < (l0.length : Int) := of_decide_eq_true asmA
   obtain ⟨ad529, A529_0, c529_0, e529, hx529_0, hx529_1, hx529_2, hx529_3, hx529_4, hx529_5, hx529_6, hx529_7, hx529_8, hl529_0, hi529_0⟩ := at_T44 (Kd.V_reads' HO_0.out).2.2 x4_1 p529 q529
   obtain rfl : ad528 = ad529 := (by injection e529)
   obtain ⟨ce529, hce529, hMe529, hcc529⟩ := Kd.V_get HO_0.out z44 x4_1 p529 (by first | exact q529 | exact of_decide_eq_true asmA | (have e_ := (Kd.V_reads' HO_0.out).1; omega))
   obtain ⟨ua529_0, uc529_0, rfl, ul529_0, ge529_0⟩ := k44_openF hMe529
   have hv529_0 := hcc529 0 _ rfl
   rw [Nat.add_zero] at hv529_0
   replace hv529_0 := Option.some.inj (hv529_0.symm.trans hx529_0)
   injection hv529_0 with hva_ hvn_ hvc_
   rw [hva_] at ge529_0
   rw [hvc_] at ul529_0
   have HL529_0 := Aside0.mk (show Kd.V Kd.string 9 _ w.heap.size _ _ ((rd_T44 l0 x4_1).f0) from Kd.V_mk ul529_0 ge529_0)
   clear hva_ hvn_ hvc_ ge529_0 ul529_0
   clear hcc529 hce529
   have HR529_0 := Aside0.mk hi529_0
   have HC529_0 := Aside0.mk hl529_0
   clear hi529_0 hl529_0
   replace p529 := eq_true p529
   replace q529 := eq_true q529
   have ea_ := Option.some.inj (hx528_0.symm.trans hx529_0)
   injection ea_ with ea_ en_ ec_
   subst ea_
   subst ec_
   clear en_
   have p530 : 0 ≤ (x4_1 : Int) := of_decide_eq_true asmA
   have q530 : x4_1 < (l0.length : Int) := of_decide_eq_true asmA
   obtain ⟨ad530, A530_0, c530_0, e530, hx530_0, hx530_1, hx530_2, hx530_3, hx530_4, hx530_5, hx530_6, hx530_7, hx530_8, hl530_0, hi530_0⟩ := at_T44 (Kd.V_reads' HO_0.out).2.2 x4_1 p530 q530
   obtain rfl : ad528 = ad530 := (by injection e530)
   obtain ⟨ce530, hce530, hMe530, hcc530⟩ := Kd.V_get HO_0.out z44 x4_1 p530 (by first | exact q530 | exact of_decide_eq_true asmA | (have e_ := (Kd.V_reads' HO_0.out).1; omega))
   obtain ⟨ua530_0, uc530_0, rfl, ul530_0, ge530_0⟩ := k44_openF hMe530
   have hv530_0 := hcc530 0 _ rfl
   rw [Nat.add_zero] at hv530_0
   replace hv530_0 := Option.some.inj (hv530_0.symm.trans hx530_0)
   injection hv530_0 with hva_ hvn_ hvc_
   rw [hva_] at ge530_0
   rw [hvc_] at ul530_0
   have HL530_0 := Aside0.mk (show Kd.V Kd.string 9 _ w.heap.size _ _ ((rd_T44 l0 x4_1).f0) from Kd.V_mk ul530_0 ge530_0)
   clear hva_ hvn_ hvc_ ge530_0 ul530_0
   clear hcc530 hce530
   have HR530_0 := Aside0.mk hi530_0
   have HC530_0 := Aside0.mk hl530_0
   clear hi530_0 hl530_0
   replace p530 := eq_true p530
   replace q530 := eq_true q530
   have ea_ := Option.some.inj (hx528_0.symm.trans hx530_0)
   injection ea_ with ea_ en_ ec_
   subst ea_
   subst ec_
   clear en_
   have p531 : 0 ≤ (x4_1 : Int) := of_decide_eq_true asmA
   have q531 : x4_1 < (l0.length : Int) := of_decide_eq_true asmA
   obtain ⟨ad531, A531_0, c531_0, e531, hx531_0, hx531_1, hx531_2, hx531_3, hx531_4, hx531_5, hx531_6, hx531_7, hx531_8, hl531_0, hi531_0⟩ := at_T44 (Kd.V_reads' HO_0.out).2.2 x4_1 p531 q531
   obtain rfl : ad528 = ad531 := (by injection e531)
   obtain ⟨ce531, hce531, hMe531, hcc531⟩ := Kd.V_get HO_0.out z44 x4_1 p531 (by first | exact q531 | exact of_decide_eq_true asmA | (have e_ := (Kd.V_reads' HO_0.out).1; omega))
   obtain ⟨ua531_0, uc531_0, rfl, ul531_0, ge531_0⟩ := k44_openF hMe531
   have hv531_0 := hcc531 0 _ rfl
   rw [Nat.add_zero] at hv531_0
   replace hv531_0 := Option.some.inj (hv531_0.symm.trans hx531_0)
   injection hv531_0 with hva_ hvn_ hvc_
   rw [hva_] at ge531_0
   rw [hvc_] at ul531_0
   have HL531_0 := Aside0.mk (show Kd.V Kd.string 9 _ w.heap.size _ _ ((rd_T44 l0 x4_1).f0) from Kd.V_mk ul531_0 ge531_0)
   clear hva_ hvn_ hvc_ ge531_0 ul531_0
   clear hcc531 hce531
   have HR531_0 := Aside0.mk hi531_0
   have HC531_0 := Aside0.mk hl531_0
   clear hi531_0 hl531_0
   replace p531 := eq_true p531
   replace q531 := eq_true q531
   have ea_ := Option.some.inj (hx528_0.symm.trans hx531_0)
   injection ea_ with ea_ en_ ec_
   subst ea_
   subst ec_
   clear en_
   refine start_ (n := 25) (S := fun w' => w'.cell? (ad528.add ((x4_1).toNat * 9)) = some (.slice A528_0 ((rd_T44 l0 x4_1).f0).length c528_0) ∧ w'.cell? ⟨(ad528.add ((x4_1).toNat * 9)).block, (ad528.add ((x4_1).toNat * 9)).off + 1, none⟩ = some (.int .i64 ((rd_T44 l0 x4_1).f1)) ∧ w'.cell? ⟨(ad528.add ((x4_1).toNat * 9)).block, (ad528.add ((x4_1).toNat * 9)).off + 2, none⟩ = some (.int .i64 ((rd_T44 l0 x4_1).f2)) ∧ w'.cell? ⟨(ad528.add ((x4_1).toNat * 9)).block, (ad528.add ((x4_1).toNat * 9)).off + 3, none⟩ = some (.int .u64 ((rd_T44 l0 x4_1).f3.f0)) ∧ w'.cell? ⟨(ad528.add ((x4_1).toNat * 9)).block, (ad528.add ((x4_1).toNat * 9)).off + 4, none⟩ = some (.bool ((rd_T44 l0 x4_1).f3.f1)) ∧ w'.cell? ⟨(ad528.add ((x4_1).toNat * 9)).block, (ad528.add ((x4_1).toNat * 9)).off + 5, none⟩ = some (.int .i64 ((rd_T44 l0 x4_1).f3.f2.f0)) ∧ w'.cell? ⟨(ad528.add ((x4_1).toNat * 9)).block, (ad528.add ((x4_1).toNat * 9)).off + 6, none⟩ = some (.int .u64 ((rd_T44 l0 x4_1).f3.f2.f1)) ∧ w'.cell? ⟨(ad528.add ((x4_1).toNat * 9)).block, (ad528.add ((x4_1).toNat * 9)).off + 7, none⟩ = some (.int .i64 ((rd_T44 l0 x4_1).f3.f3)) ∧ w'.cell? ⟨(ad528.add ((x4_1).toNat * 9)).block, (ad528.add ((x4_1).toNat * 9)).off + 8, none⟩ = some (.int .i64 ((rd_T44 l0 x4_1).f3.f4)) ∧ w'.cell? (ad528.add ((x4_1).toNat * 9)) = some (.slice A528_0 ((rd_T44 l0 x4_1).f0).length c528_0) ∧ w'.cell? ⟨(ad528.add ((x4_1).toNat * 9)).block, (ad528.add ((x4_1).toNat * 9)).off + 1, none⟩ = some (.int .i64 ((rd_T44 l0 x4_1).f1)) ∧ w'.cell? ⟨(ad528.add ((x4_1).toNat * 9)).block, (ad528.add ((x4_1).toNat * 9)).off + 2, none⟩ = some (.int .i64 ((rd_T44 l0 x4_1).f2)) ∧ w'.cell? ⟨(ad528.add ((x4_1).toNat * 9)).block, (ad528.add ((x4_1).toNat * 9)).off + 3, none⟩ = some (.int .u64 ((rd_T44 l0 x4_1).f3.f0)) ∧ w'.cell? ⟨(ad528.add ((x4_1).toNat * 9)).block, (ad528.add ((x4_1).toNat * 9)).off + 4, none⟩ = some (.bool ((rd_T44 l0 x4_1).f3.f1)) ∧ w'.cell? ⟨(ad528.add ((x4_1).toNat * 9)).block, (ad528.add ((x4_1).toNat * 9)).off + 5, none⟩ = some (.int .i64 ((rd_T44 l0 x4_1).f3.f2.f0)) ∧ w'.cell? ⟨(ad528.add ((x4_1).toNat * 9)).block, (ad528.add ((x4_1).toNat * 9)).off + 6, none⟩ = some (.int .u64 ((rd_T44 l0 x4_1).f3.f2.f1)) ∧ w'.cell? ⟨(ad528.add ((x4_1).toNat * 9)).block, (ad528.add ((x4_1).toNat * 9)).off + 7, none⟩ = some (.int .i64 ((rd_T44 l0 x4_1).f3.f3)) ∧ w'.cell? ⟨(ad528.add ((x4_1).toNat * 9)).block, (ad528.add ((x4_1).toNat * 9)).off + 8, none⟩ = some (.int .i64 ((rd_T44 l0 x4_1).f3.f4)) ∧ w'.cell? (ad528.add ((x4_1).toNat * 9)) = some (.slice A528_0 ((rd_T44 l0 x4_1).f0).length c528_0) ∧ w'.cell? ⟨(ad528.add ((x4_1).toNat * 9)).block, (ad528.add ((x4_1).toNat * 9)).off + 1, none⟩ = some (.int .i64 ((rd_T44 l0 x4_1).f1)) ∧ w'.cell? ⟨(ad528.add ((x4_1).toNat * 9)).block, (ad528.add ((x4_1).toNat * 9)).off + 2, none⟩ = some (.int .i64 ((rd_T44 l0 x4_1).f2)) ∧ w'.cell? ⟨(ad528.add ((x4_1).toNat * 9)).block, (ad528.add ((x4_1).toNat * 9)).off + 3, none⟩ = some (.int .u64 ((rd_T44 l0 x4_1).f3.f0)) ∧ w'.cell? ⟨(ad528.add ((x4_1).toNat * 9)).block, (ad528.add ((x4_1).toNat * 9)).off + 4, none⟩ = some (.bool ((rd_T44 l0 x4_1).f3.f1)) ∧ w'.cell? ⟨(ad528.add ((x4_1).toNat * 9)).block, (ad528.add ((x4_1).toNat * 9)).off + 5, none⟩ = some (.int .i64 ((rd_T44 l0 x4_1).f3.f2.f0)) ∧ w'.cell? ⟨(ad528.add ((x4_1).toNat * 9)).block, (ad528.add ((x4_1).toNat * 9)).off + 6, none⟩ = some (.int .u64 ((rd_T44 l0 x4_1).f3.f2.f1)) ∧ w'.cell? ⟨(ad528.add ((x4_1).toNat * 9)).block, (ad528.add ((x4_1).toNat * 9)).off + 7, none⟩ = some (.int .i64 ((rd_T44 l0 x4_1).f3.f3)) ∧ w'.cell? ⟨(ad528.add ((x4_1).toNat * 9)).block, (ad528.add ((x4_1).toNat * 9)).off + 8, none⟩ = some (.int .i64 ((rd_T44 l0 x4_1).f3.f4)) ∧ w'.cell? (ad528.add ((x4_1).toNat * 9)) = some (.slice A528_0 ((rd_T44 l0 x4_1).f0).length c528_0) ∧ w'.cell? ⟨(ad528.add ((x4_1).toNat * 9)).block, (ad528.add ((x4_1).toNat * 9)).off + 1, none⟩ = some (.int .i64 ((rd_T44 l0 x4_1).f1)) ∧ w'.cell? ⟨(ad528.add ((x4_1).toNat * 9)).block, (ad528.add ((x4_1).toNat * 9)).off + 2, none⟩ = some (.int .i64 ((rd_T44 l0 x4_1).f2)) ∧ w'.cell? ⟨(ad528.add ((x4_1).toNat * 9)).block, (ad528.add ((x4_1).toNat * 9)).off + 3, none⟩ = some (.int .u64 ((rd_T44 l0 x4_1).f3.f0)) ∧ w'.cell? ⟨(ad528.add ((x4_1).toNat * 9)).block, (ad528.add ((x4_1).toNat * 9)).off + 4, none⟩ = some (.bool ((rd_T44 l0 x4_1).f3.f1)) ∧ w'.cell? ⟨(ad528.add ((x4_1).toNat * 9)).block, (ad528.add ((x4_1).toNat * 9)).off + 5, none⟩ = some (.int .i64 ((rd_T44 l0 x4_1).f3.f2.f0)) ∧ w'.cell? ⟨(ad528.add ((x4_1).toNat * 9)).block, (ad528.add ((x4_1).toNat * 9)).off + 6, none⟩ = some (.int .u64 ((rd_T44 l0 x4_1).f3.f2.f1)) ∧ w'.cell? ⟨(ad528.add ((x4_1).toNat * 9)).block, (ad528.add ((x4_1).toNat * 9)).off + 7, none⟩ = some (.int .i64 ((rd_T44 l0 x4_1).f3.f3)) ∧ w'.cell? ⟨(ad528.add ((x4_1).toNat * 9)).block, (ad528.add ((x4_1).toNat * 9)).off + 8, none⟩ = some (.int .i64 ((rd_T44 l0 x4_1).f3.f4))) (ds := [22, 23]) #[false, false, false, false, false, false, false, false, false, false, false, false, false, false, false, false, false, false, false, false, false, false, false, false, false] (by kernel_rfl) rfl rfl ⟨hx528_0, hx528_1, hx528_2, hx528_3, hx528_4, hx528_5, hx528_6, hx528_7, hx528_8, hx529_0, hx529_1, hx529_2, hx529_3, hx529_4, hx529_5, hx529_6, hx529_7, hx529_8, hx530_0, hx530_1, hx530_2, hx530_3, hx530_4, hx530_5, hx530_6, hx530_7, hx530_8, hx531_0, hx531_1, hx531_2, hx531_3, hx531_4, hx531_5, hx531_6, hx531_7, hx531_8⟩ (fun hHeld => ?_); refine with_tabW rickyardlaw17_As.tab5 rickyardlaw17_As.bits5 (fun HT_ HW_ => ?_)
   generalize wr.drew = w5 at HO_0 HO_3 HB HL528_0 HL529_0 HL530_0 HL531_0 HR528_0 HR529_0 HR530_0 HR531_0 hx528_0 hx528_1 hx528_2 hx528_3 hx528_4 hx528_5 hx528_6 hx528_7 hx528_8 hx529_0 hx529_1 hx529_2 hx529_3 hx529_4 hx529_5 hx529_6 hx529_7 hx529_8 hx530_0 hx530_1 hx530_2 hx530_3 hx530_4 hx530_5 hx530_6 hx530_7 hx530_8 hx531_0 hx531_1 hx531_2 hx531_3 hx531_4 hx531_5 hx531_6 hx531_7 hx531_8 hHeld ⊢
   refine pureD 0 11 HT_ ?_
   refine pureD 1 12 HT_ ?_
   refine pureD 2 13 HT_ ?_
   refine pureD 3 14 HT_ ?_
   refine pureD 4 15 HT_ ?_
   refine pureD 6 17 HT_ ?_
   refine pureD 7 18 HT_ ?_
   refine pureD 8 19 HT_ ?_
   refine pureD 9 20 HT_ ?_
   refine pureD 11 22 HT_ ?_
   refine pureD 12 23 HT_ ?_
   refine pureD 13 24 HT_ ?_
   refine pureD 14 25 HT_ ?_
   refine pureD 16 27 HT_ ?_
   refine pureD 17 28 HT_ ?_
   refine pureD 18 29 HT_ ?_
   refine pureD 19 30 HT_ ?_
   refine takeD 5 16 HT_ HW_ hHeld ?_
   refine takeD 10 21 HT_ HW_ hHeld ?_
   refine takeD 15 26 HT_ HW_ hHeld ?_
   refine takeD 20 31 HT_ HW_ hHeld ?_
   refine pureD 21 32 HT_ ?_
   refine last_ (i := 22) (N := some 33) #[true, true, true, true, true, true, true, true, true, true, true, true, true, true, true, true, true, true, true, true, true, true, true, false, false] rfl rfl (one_of HT_.out (by kernel_rfl)) (by decide) (fun K hK => ?_)
   refine value_ (w1 := ?_) (v := ?_) (by rfl) rfl ?_ ?_
   rotate_left 2
   ·go_simp
    constructor
    ·rfl
    ·rfl
   refine hK.out _ _ ?_
   clear hK K
   refine norm_ (a' := ?_) ?_ ?_
   rotate_left
   ·show Act.put _ (some 33) _ = _
    simp only [Act.put, List.setIfInBounds_toArray, List.set_cons_zero, List.set_cons_succ, i64_w, i32_w]
    rfl
   refine last_ (i := 23) (N := some 34) #[true, true, true, true, true, true, true, true, true, true, true, true, true, true, true, true, true, true, true, true, true, true, true, true, false] rfl rfl (one_of HT_.out (by kernel_rfl)) (by decide) (fun K hK => ?_)
   refine Kd.N_append_step k73 (w0 := w) w.heap.size (by rfl) (.tmp 11) (.tmp 33) 36 73 (.agg #[(.slice none 0 0), (.int .i64 0), (.int .i64 0), (.int .u64 0), (.bool false), (.int .i64 0), (.int .u64 0), (.int .i64 0), (.int .i64 0)]) 88 rfl Try.underlying36 info73 rfl (by decide) (by omega) u3 x3_1 (⟨(rd_T44 l0 x4_1).f0, (rd_T44 l0 x4_1).f1, (rd_T44 l0 x4_1).f2, (⟨(rd_T44 l0 x4_1).f3.f0, (rd_T44 l0 x4_1).f3.f1, (⟨(rd_T44 l0 x4_1).f3.f2.f0, (rd_T44 l0 x4_1).f3.f2.f1⟩ : S40), (rd_T44 l0 x4_1).f3.f3, (rd_T44 l0 x4_1).f3.f4⟩ : S42)⟩ : S73) [.slice A528_0 ((rd_T44 l0 x4_1).f0).length c528_0, .int .i64 ((rd_T44 l0 x4_1).f1), .int .i64 ((rd_T44 l0 x4_1).f2), .int .u64 ((rd_T44 l0 x4_1).f3.f0), .bool ((rd_T44 l0 x4_1).f3.f1), .int .i64 ((rd_T44 l0 x4_1).f3.f2.f0), .int .u64 ((rd_T44 l0 x4_1).f3.f2.f1), .int .i64 ((rd_T44 l0 x4_1).f3.f3), .int .i64 ((rd_T44 l0 x4_1).f3.f4)] (fun k_ => (P0_ k_ ∨ w.heap.size ≤ k_)) (fun k_ => ((fun k_ => (P0_ k_ ∨ w.heap.size ≤ k_))) k_ ∧ some k_ ≠ (u3 : Value).ownBlock) rfl rfl ?aP (fun _ hk => hk) ?aF ?aO ?aB ?aS ?aL ?_
   (case aP => exact (k73_mkF _ _ (⟨(rd_T44 l0 x4_1).f0, (rd_T44 l0 x4_1).f1, (rd_T44 l0 x4_1).f2, (⟨(rd_T44 l0 x4_1).f3.f0, (rd_T44 l0 x4_1).f3.f1, (⟨(rd_T44 l0 x4_1).f3.f2.f0, (rd_T44 l0 x4_1).f3.f2.f1⟩ : S40), (rd_T44 l0 x4_1).f3.f3, (rd_T44 l0 x4_1).f3.f4⟩ : S42)⟩ : S73) (Kd.V_reads' (Kd.V_mono (ok' := (fun k_ => ((fun k_ => (P0_ k_ ∨ w.heap.size ≤ k_))) k_ ∧ some k_ ≠ (u3 : Value).ownBlock)) (HL528_0.out) (fun k_ hk => ⟨hk.1, hk.2⟩))).2.1 (Kd.V_F (Kd.V_mono (ok' := (fun k_ => ((fun k_ => (P0_ k_ ∨ w.heap.size ≤ k_))) k_ ∧ some k_ ≠ (u3 : Value).ownBlock)) (HL528_0.out) (fun k_ hk => ⟨hk.1, hk.2⟩)))))
   (case aB => exact (belA HB.out))
   (case aF => exact (fun k_ hk => (.inr (Nat.le_trans (below_size (belA HB.out)) hk))))
   (case aO => exact (nilA HO_3.out))
   (case aS => exact (below_size (belA HB.out)))
   (case aL => have := LMc4.out; omega)
   intro v533 w6 ho hb hg hat
   rw [← Ny532.out] at ho
   have HO534 := Aside0.mk (ho)
   replace HO_0 := Aside0.mk (Kd.V_afterv (ok := (fun k_ => (P0_ k_ ∨ w.heap.size ≤ k_))) (valA HO_0.out) hg hat)
   replace HL528_0 := Aside0.mk (Kd.V_afterv (ok := (fun k_ => (P0_ k_ ∨ w.heap.size ≤ k_))) (valA HL528_0.out) hg hat)
   replace HL529_0 := Aside0.mk (Kd.V_afterv (ok := (fun k_ => (P0_ k_ ∨ w.heap.size ≤ k_))) (valA HL529_0.out) hg hat)
   replace HL530_0 := Aside0.mk (Kd.V_afterv (ok := (fun k_ => (P0_ k_ ∨ w.heap.size ≤ k_))) (valA HL530_0.out) hg hat)
   replace HL531_0 := Aside0.mk (Kd.V_afterv (ok := (fun k_ => (P0_ k_ ∨ w.heap.size ≤ k_))) (valA HL531_0.out) hg hat)
   replace HB := Aside0.mk (hb)
   clear HO_3
   clear ho hb hg hat
   refine hK.out _ _ ?_
   clear hK K
   refine norm_ (a' := ?_) ?_ ?_
   rotate_left
   ·show Act.put _ (some 34) _ = _
    simp only [Act.put, List.setIfInBounds_toArray, List.set_cons_zero, List.set_cons_succ, i64_w, i32_w]
    rfl
   refine pureD 24 3 HT_ ?_
   refine done_ (done_of HT_.out (by kernel_rfl)) ?_
   try go_wp2
   go_roundg k1
   case measure => have := HK1.out; omega
   case rel => exact ⟨(y532), (wrap64 (x4_1 + 1)), relA, H', ⟨by have := HK1.out; omega⟩, ⟨valA HO_0.out⟩, ⟨nilA HO534.out⟩, ⟨belA HB.out⟩⟩
theorem eqA40 (d : Nat) (w : World) (x0 y0 : Int) (x1 y1 : Int) :
    (Op.equalIn (d + 2) 40 (.agg #[.int .i64 x0, .int .u64 x1]) (.agg #[.int .i64 y0, .int .u64 y1])).run Try.prog w = .ok (x0 == y0 && (x1 == y1)) w := by
  refine eqA_of Try.underlying40 (by kernel_rfl) ?_
  refine eqf_cons (by rfl) (by go_simp; rfl) (by go_simp; rfl) (by go_simp) ?_
  exact eqf_last (by rfl) (by go_simp; rfl) (by go_simp; rfl) (by go_simp)
theorem eqA42 (d : Nat) (w : World) (x0 y0 : Int) (x1 y1 : Bool) (x2 y2 : Int) (x3 y3 : Int) (x4 y4 : Int) (x5 y5 : Int) :
    (Op.equalIn (d + 3) 42 (.agg #[.int .u64 x0, .bool x1, .int .i64 x2, .int .u64 x3, .int .i64 x4, .int .i64 x5]) (.agg #[.int .u64 y0, .bool y1, .int .i64 y2, .int .u64 y3, .int .i64 y4, .int .i64 y5])).run Try.prog w = .ok (x0 == y0 && (x1 == y1 && ((x2 == y2 && (x3 == y3)) && (x4 == y4 && (x5 == y5))))) w := by
  refine eqA_of Try.underlying42 (by kernel_rfl) ?_
  refine eqf_cons (by rfl) (by go_simp; rfl) (by go_simp; rfl) (by go_simp) ?_
  refine eqf_cons (by rfl) (by go_simp; rfl) (by go_simp; rfl) (by go_simp) ?_
  refine eqf_cons (by rfl) (by go_simp) (by go_simp) (eqA40 (d + 0) w _ _ _ _) ?_
  refine eqf_cons (by rfl) (by go_simp; rfl) (by go_simp; rfl) (by go_simp) ?_
  exact eqf_last (by rfl) (by go_simp; rfl) (by go_simp; rfl) (by go_simp)
end Go.Proofs.Ytdopbhbbpgfliaa.PAsk
end
section
namespace Go.Proofs.Ytdopbhbbpgfliaa.PAsk
open Go.RowKit
set_option linter.unusedVariables false
set_option linter.unusedSimpArgs false
set_option maxHeartbeats 8000000
set_option maxRecDepth 100000
theorem bl_irr : ∀ a : List UInt8, Op.bytesLess a a = false
  | [] => rfl
  | x :: r => by
    unfold Op.bytesLess
    simp [bl_irr r]
theorem bl_tot : ∀ a b : List UInt8, Op.bytesLess a b = false → Op.bytesLess b a = false → a = b
  | [], [], _, _ => rfl
  | [], y :: s, h, _ => by simp [Op.bytesLess] at h
  | x :: r, [], _, h => by simp [Op.bytesLess] at h
  | x :: r, y :: s, h1, h2 => by
    unfold Op.bytesLess at h1 h2
    have e1 : ¬ x < y := fun h => by simp [h] at h1
    have e2 : ¬ y < x := fun h => by simp [h] at h2
    have e : x = y := UInt8.le_antisymm (UInt8.not_lt.1 e2) (UInt8.not_lt.1 e1)
    subst e
    have h3 : Op.bytesLess r s = false := by simpa using h1
    have h4 : Op.bytesLess s r = false := by simpa using h2
    rw [bl_tot r s h3 h4]
theorem bl_ne {a b : List UInt8} (h : Op.bytesLess b a = true) : (a == b) = false := by
  refine beq_eq_false_iff_ne.2 (fun e => ?_)
  subst e
  rw [bl_irr] at h
  cases h
theorem bl_eq {a b : List UInt8} (h1 : Op.bytesLess a b = false) (h2 : Op.bytesLess b a = false) : (a == b) = true := beq_iff_eq.2 (bl_tot a b h1 h2)
end Go.Proofs.Ytdopbhbbpgfliaa.PAsk
end
section
namespace Go.Proofs.Ytdopbhbbpgfliaa.PAsk
open Go.RowKit Go.Proofs.YtdopbhbbpgfliaaW.PrintWords Go.Proofs.YtdopbhbbpgfliaaW.PrintLast Go.Proofs.YtdopbhbbpgfliaaW.PrintMore
attribute [local go_sem] max2_int min2_int max_two min_two max_three min_three max_four min_four   -- for this text's walks alone
set_option linter.unusedVariables false
set_option linter.unusedSimpArgs false
set_option maxHeartbeats 8000000
set_option maxRecDepth 100000
mutual
def rickyardref06_Order.l0 : Nat → List ByteArray → List ByteArray → Int → Option (Int)
 | 0, _, _, _ => none
 | k + 1, x0, x1, x5 => if x5 < (x0.length : Int) then (rickyardref06_Order.j1 k x0 x1 x5 (decide (x5 < (x1.length : Int)))) else (rickyardref06_Order.j1 k x0 x1 x5 false)
def rickyardref06_Order.j1 : Nat → List ByteArray → List ByteArray → Int → Bool → Option (Int)
 | 0, _, _, _, _ => none
 | k + 1, x0, x1, x5, x15 => if x15 = true then (if 0 ≤ x5 then (if x5 < (x0.length : Int) then (if x5 < (x1.length : Int) then (if (Op.bytesLess ((rdOf ByteArray.empty x0 x5).toList) ((rdOf ByteArray.empty x1 x5).toList)) = true then (some (-1)) else (if (Op.bytesLess ((rdOf ByteArray.empty x1 x5).toList) ((rdOf ByteArray.empty x0 x5).toList)) = true then (some 1) else (rickyardref06_Order.l0 k x0 x1 (wrap64 (x5 + 1))))) else (none)) else (none)) else (none)) else (if (x0.length : Int) < (x1.length : Int) then (some (-1)) else (if (x0.length : Int) > (x1.length : Int) then (some 1) else (some 0)))
end
def rickyardref06_Order.f (k : Nat) (l0 : List ByteArray) (l1 : List ByteArray) : Option (Int) := rickyardref06_Order.l0 k l0 l1 0
theorem rickyardref06_Order.calls (k : Nat) (A0 : Option Addr) (c0 : Nat) (l0 : List ByteArray) (A1 : Option Addr) (c1 : Nat) (l1 : List ByteArray) (r : Int) (w : World) (hr0 : Kd.C Kd.string w A0 l0.length l0) (hc0 : l0.length ≤ c0) (hr1 : Kd.C Kd.string w A1 l1.length l1) (hc1 : l1.length ≤ c1) (h : rickyardref06_Order.f k l0 l1 = some r) :
  Calls Try.prog 16 #[.slice A0 l0.length c0, .slice A1 l1.length c1] w fun e w' => e = .returned (.int .i64 r) ∧ Drawn0 w w' := by
 have HR0 := Aside0.mk hr0
 have HC0 := Aside0.mk hc0
 clear hr0 hc0
 have HR1 := Aside0.mk hr1
 have HC1 := Aside0.mk hc1
 clear hr1 hc1
 have H : (rickyardref06_Order.l0 k l0 l1 0) = some r := h
 clear h
 have H' := Aside0.mk H
 clear H
 go_enter Try.func16, Try.ntmps16
 go_wp2
 repeat (go_quiet (fail); try go_wp2)
 go_loopg [5] k (fun kq v5 w' => ∃ (x5_1 : Int), v5 = .int .i64 x5_1 ∧ Aside0 (rickyardref06_Order.l0 kq l0 l1 x5_1 = some r) ∧ Aside0 (kq ≤ k) ∧ Drawn0 w w')
 case atStart => exact ⟨(0), relA, H', ⟨Nat.le_refl _⟩, by repeat (first | exact Drawn0.refl _ | apply Drawn0.step)⟩
 case round =>
  clear H'
  try clear c1
  try clear p2
  obtain ⟨x5_1, rfl, HA, HK1, ⟨m1, rfl⟩⟩ := hrel
  cases gk with
  | zero => exact absurd HA.out (by simp [rickyardref06_Order.l0])
  | succ k1 =>
   have H := HA.out
   clear HA
   simp only [rickyardref06_Order.l0] at H
   have HC3 := Aside0.mk H
   clear H
   go_upto_region 2 with (fail)
   repeat (go_quiet (fail); go_upto_region 2 with (fail))
   go_cut [15] (fun v15 wc => ∃ (kq : Nat) (x15_2 : Bool), v15 = .bool x15_2 ∧ Aside0 (rickyardref06_Order.j1 kq l0 l1 x5_1 x15_2 = some r) ∧ Aside0 (kq ≤ k1) ∧ Drawn0 w wc)
   case first =>
    have H := HC3.out
    clear HC3
    by_cases c4 : x5_1 < (l0.length : Int)
    rotate_left
    ·rw [if_neg c4] at H
     have c4b0 := decide_eq_false c4
     clear c4
     (first | rw [c4b0] | (simp only [i64_w, i32_w]; rw [c4b0]) | skip)
     have H' := Aside0.mk H
     clear H
     go_wp2
     repeat (go_quiet (fail); try go_wp2)
     go_meet
     case rel => exact ⟨_, (false), relA, H', ⟨by have := HK1.out; first | omega | exact Nat.le_refl _⟩, by repeat (first | exact Drawn0.refl _ | apply Drawn0.step)⟩
    rw [if_pos c4] at H
    have c4b0 := decide_eq_true c4
    clear c4
    (first | rw [c4b0] | (simp only [i64_w, i32_w]; rw [c4b0]) | skip)
    have H' := Aside0.mk H
    clear H
    go_wp2
    repeat (go_quiet (fail); try go_wp2)
    go_meet
    case rel => exact ⟨_, (decide (x5_1 < (l1.length : Int))), relA, H', ⟨by have := HK1.out; first | omega | exact Nat.le_refl _⟩, by repeat (first | exact Drawn0.refl _ | apply Drawn0.step)⟩
   case rest =>
    clear HC3
    try clear c1
    try clear p2
    try clear c4
    try clear c4b0
    try clear p2
    obtain ⟨kq, x15_2, rfl, HA, HJ2, ⟨mc2, rfl⟩⟩ := hcut
    cases kq with
    | zero => exact absurd HA.out (by simp [rickyardref06_Order.j1])
    | succ kj2 =>
     have H := HA.out
     clear HA
     simp only [rickyardref06_Order.j1] at H
     by_cases c5 : x15_2 = true
     rotate_left
     ·replace c5 := Bool.eq_false_iff.mpr c5
      subst c5
      have H1 : (if (l0.length : Int) < (l1.length : Int) then (some (-1)) else (if (l0.length : Int) > (l1.length : Int) then (some 1) else (some 0))) = some r := by rw [if_neg (show ¬ (false = true) by decide)] at H; exact H
      clear H
      have H := H1
      clear H1
      by_cases c11 : (l0.length : Int) < (l1.length : Int)
      ·rw [if_pos c11] at H
       have c11b0 := decide_eq_true c11
       have c11b1 : decide (l0.length < l1.length) = true := decide_eq_true (Int.ofNat_lt.mp c11)
       clear c11
       obtain rfl := Option.some.inj H
       go_wp2
       repeat (go_quiet (fail); try go_wp2)
       go_ret
       exact ⟨by first | rfl | (simp; done) | (simp [*]; done), by repeat (first | exact Drawn0.refl _ | apply Drawn0.step)⟩
      rw [if_neg c11] at H
      have c11b0 := decide_eq_false c11
      have c11b1 : decide (l0.length < l1.length) = false := decide_eq_false (fun h => c11 (Int.ofNat_lt.mpr h))
      clear c11
      by_cases c12 : (l0.length : Int) > (l1.length : Int)
      rotate_left
      ·rw [if_neg c12] at H
       have c12b0 := decide_eq_false c12
       have c12b1 : decide (l1.length < l0.length) = false := decide_eq_false (fun h => c12 (Int.ofNat_lt.mpr h))
       clear c12
       obtain rfl := Option.some.inj H
       go_wp2
       repeat (go_quiet (fail); try go_wp2)
       go_ret
       exact ⟨by first | rfl | (simp; done) | (simp [*]; done), by repeat (first | exact Drawn0.refl _ | apply Drawn0.step)⟩
      rw [if_pos c12] at H
      have c12b0 := decide_eq_true c12
      have c12b1 : decide (l1.length < l0.length) = true := decide_eq_true (Int.ofNat_lt.mp c12)
      clear c12
      obtain rfl := Option.some.inj H
      go_wp2
      repeat (go_quiet (fail); try go_wp2)
      go_ret
      exact ⟨by first | rfl | (simp; done) | (simp [*]; done), by repeat (first | exact Drawn0.refl _ | apply Drawn0.step)⟩
     subst c5
     have H1 : (if 0 ≤ x5_1 then (if x5_1 < (l0.length : Int) then (if x5_1 < (l1.length : Int) then (if (Op.bytesLess ((rdOf ByteArray.empty l0 x5_1).toList) ((rdOf ByteArray.empty l1 x5_1).toList)) = true then (some (-1)) else (if (Op.bytesLess ((rdOf ByteArray.empty l1 x5_1).toList) ((rdOf ByteArray.empty l0 x5_1).toList)) = true then (some 1) else (rickyardref06_Order.l0 kj2 l0 l1 (wrap64 (x5_1 + 1))))) else (none)) else (none)) else (none)) = some r := by rw [if_pos rfl] at H; exact H
     clear H
     have H := H1
     clear H1
     replace H := ifN H
     obtain ⟨c6, H⟩ := H
     have c6b0 := decide_eq_true c6
     clear c6
     replace H := ifN H
     obtain ⟨c7, H⟩ := H
     have c7b0 := decide_eq_true c7
     clear c7
     replace H := ifN H
     obtain ⟨c8, H⟩ := H
     have c8b0 := decide_eq_true c8
     clear c8
     by_cases c9 : (Op.bytesLess ((rdOf ByteArray.empty l0 x5_1).toList) ((rdOf ByteArray.empty l1 x5_1).toList)) = true
     ·rw [if_pos c9] at H
      have c9b0 : (Op.bytesLess ((rdOf ByteArray.empty l0 x5_1).toList) ((rdOf ByteArray.empty l1 x5_1).toList)) = true := c9
      clear c9
      obtain rfl := Option.some.inj H
      have p535 : 0 ≤ (x5_1 : Int) := of_decide_eq_true asmA
      have q535 : x5_1 < (l0.length : Int) := of_decide_eq_true asmA
      obtain ⟨ad535, e535, hx535_0⟩ := Kd.at_string HR0.out x5_1 p535 q535
      cases e535
      replace p535 := eq_true p535
      replace q535 := eq_true q535
      have p536 : 0 ≤ (x5_1 : Int) := of_decide_eq_true asmA
      have q536 : x5_1 < (l1.length : Int) := of_decide_eq_true asmA
      obtain ⟨ad536, e536, hx536_0⟩ := Kd.at_string HR1.out x5_1 p536 q536
      cases e536
      replace p536 := eq_true p536
      replace q536 := eq_true q536
      go_wp2
      repeat (go_quiet (fail); try go_wp2)
      go_ret
      exact ⟨by first | rfl | (simp; done) | (simp [*]; done), by repeat (first | exact Drawn0.refl _ | apply Drawn0.step)⟩
     rw [if_neg c9] at H
     have c9b0 : (Op.bytesLess ((rdOf ByteArray.empty l0 x5_1).toList) ((rdOf ByteArray.empty l1 x5_1).toList)) = false := by simpa using c9
     clear c9
     by_cases c10 : (Op.bytesLess ((rdOf ByteArray.empty l1 x5_1).toList) ((rdOf ByteArray.empty l0 x5_1).toList)) = true
     ·rw [if_pos c10] at H
      have c10b0 : (Op.bytesLess ((rdOf ByteArray.empty l1 x5_1).toList) ((rdOf ByteArray.empty l0 x5_1).toList)) = true := c10
      have c10b0e : (((rdOf ByteArray.empty l0 x5_1).toList) == ((rdOf ByteArray.empty l1 x5_1).toList)) = false := bl_ne c10b0
      clear c10
      obtain rfl := Option.some.inj H
      have p535 : 0 ≤ (x5_1 : Int) := of_decide_eq_true asmA
      have q535 : x5_1 < (l0.length : Int) := of_decide_eq_true asmA
      obtain ⟨ad535, e535, hx535_0⟩ := Kd.at_string HR0.out x5_1 p535 q535
      cases e535
      replace p535 := eq_true p535
      replace q535 := eq_true q535
      have p536 : 0 ≤ (x5_1 : Int) := of_decide_eq_true asmA
      have q536 : x5_1 < (l1.length : Int) := of_decide_eq_true asmA
      obtain ⟨ad536, e536, hx536_0⟩ := Kd.at_string HR1.out x5_1 p536 q536
      cases e536
      replace p536 := eq_true p536
      replace q536 := eq_true q536
      have p537 : 0 ≤ (x5_1 : Int) := of_decide_eq_true asmA
      have q537 : x5_1 < (l0.length : Int) := of_decide_eq_true asmA
      obtain ⟨ad537, e537, hx537_0⟩ := Kd.at_string HR0.out x5_1 p537 q537
      obtain rfl : ad535 = ad537 := (by injection e537)
      replace p537 := eq_true p537
      replace q537 := eq_true q537
      have p538 : 0 ≤ (x5_1 : Int) := of_decide_eq_true asmA
      have q538 : x5_1 < (l1.length : Int) := of_decide_eq_true asmA
      obtain ⟨ad538, e538, hx538_0⟩ := Kd.at_string HR1.out x5_1 p538 q538
      obtain rfl : ad536 = ad538 := (by injection e538)
      replace p538 := eq_true p538
      replace q538 := eq_true q538
      go_wp2
      repeat (go_quiet (fail); try go_wp2)
      go_ret
      exact ⟨by first | rfl | (simp; done) | (simp [*]; done), by repeat (first | exact Drawn0.refl _ | apply Drawn0.step)⟩
     rw [if_neg c10] at H
     have c10b0 : (Op.bytesLess ((rdOf ByteArray.empty l1 x5_1).toList) ((rdOf ByteArray.empty l0 x5_1).toList)) = false := by simpa using c10
     have c10b0e : (((rdOf ByteArray.empty l0 x5_1).toList) == ((rdOf ByteArray.empty l1 x5_1).toList)) = true := bl_eq c9b0 c10b0
     clear c10
     have H' := Aside0.mk H
     clear H
     have p535 : 0 ≤ (x5_1 : Int) := of_decide_eq_true asmA
     have q535 : x5_1 < (l0.length : Int) := of_decide_eq_true asmA
     obtain ⟨ad535, e535, hx535_0⟩ := Kd.at_string HR0.out x5_1 p535 q535
     cases e535
     replace p535 := eq_true p535
     replace q535 := eq_true q535
     have p536 : 0 ≤ (x5_1 : Int) := of_decide_eq_true asmA
     have q536 : x5_1 < (l1.length : Int) := of_decide_eq_true asmA
     obtain ⟨ad536, e536, hx536_0⟩ := Kd.at_string HR1.out x5_1 p536 q536
     cases e536
     replace p536 := eq_true p536
     replace q536 := eq_true q536
     have p537 : 0 ≤ (x5_1 : Int) := of_decide_eq_true asmA
     have q537 : x5_1 < (l0.length : Int) := of_decide_eq_true asmA
     obtain ⟨ad537, e537, hx537_0⟩ := Kd.at_string HR0.out x5_1 p537 q537
     obtain rfl : ad535 = ad537 := (by injection e537)
     replace p537 := eq_true p537
     replace q537 := eq_true q537
     have p538 : 0 ≤ (x5_1 : Int) := of_decide_eq_true asmA
     have q538 : x5_1 < (l1.length : Int) := of_decide_eq_true asmA
     obtain ⟨ad538, e538, hx538_0⟩ := Kd.at_string HR1.out x5_1 p538 q538
     obtain rfl : ad536 = ad538 := (by injection e538)
     replace p538 := eq_true p538
     replace q538 := eq_true q538
     go_wp2
     repeat (go_quiet (fail); try go_wp2)
     go_roundg kj2
     case measure => have := HK1.out; have := HJ2.out; omega
     case rel => exact ⟨(wrap64 (x5_1 + 1)), relA, H', ⟨by have := HK1.out; have := HJ2.out; omega⟩, by repeat (first | exact Drawn0.refl _ | apply Drawn0.step)⟩
end Go.Proofs.Ytdopbhbbpgfliaa.PAsk
end
section
namespace Go.Proofs.Ytdopbhbbpgfliaa.PAsk
open Go.RowKit Go.Proofs.YtdopbhbbpgfliaaW.PrintWords Go.Proofs.YtdopbhbbpgfliaaW.PrintLast Go.Proofs.YtdopbhbbpgfliaaW.PrintMore
attribute [local go_sem] max2_int min2_int max_two min_two max_three min_three max_four min_four   -- for this text's walks alone
set_option linter.unusedVariables false
set_option linter.unusedSimpArgs false
attribute [local go_sem high] eqA42
set_option maxHeartbeats 8000000
set_option maxRecDepth 100000
def rickyardref17_Same.f (k : Nat) (l0_0 : List ByteArray) (a0_1 : Int) (a0_2 : Int) (a0_3 : Int) (a0_4 : Bool) (a0_5 : Int) (a0_6 : Int) (a0_7 : Int) (a0_8 : Int) (l1_0 : List ByteArray) (a1_1 : Int) (a1_2 : Int) (a1_3 : Int) (a1_4 : Bool) (a1_5 : Int) (a1_6 : Int) (a1_7 : Int) (a1_8 : Int) : Option (Bool) := (rickyardref06_Order.f k l0_0 l1_0).bind fun t541 => (if t541 = 0 then (if a0_1 = a1_1 then (if a0_2 = a1_2 then (some (a0_3 == a1_3 && (a0_4 == a1_4 && ((a0_5 == a1_5 && (a0_6 == a1_6)) && (a0_7 == a1_7 && (a0_8 == a1_8)))))) else (some false)) else (some false)) else (some false))
theorem rickyardref17_Same.calls (k : Nat) (A0_0 : Option Addr) (c0_0 : Nat) (l0_0 : List ByteArray) (a0_1 : Int) (a0_2 : Int) (a0_3 : Int) (a0_4 : Bool) (a0_5 : Int) (a0_6 : Int) (a0_7 : Int) (a0_8 : Int) (A1_0 : Option Addr) (c1_0 : Nat) (l1_0 : List ByteArray) (a1_1 : Int) (a1_2 : Int) (a1_3 : Int) (a1_4 : Bool) (a1_5 : Int) (a1_6 : Int) (a1_7 : Int) (a1_8 : Int) (r : Bool) (w : World) (hr0_0 : Kd.C Kd.string w A0_0 l0_0.length l0_0) (hc0_0 : l0_0.length ≤ c0_0) (hr1_0 : Kd.C Kd.string w A1_0 l1_0.length l1_0) (hc1_0 : l1_0.length ≤ c1_0) (h : rickyardref17_Same.f k l0_0 a0_1 a0_2 a0_3 a0_4 a0_5 a0_6 a0_7 a0_8 l1_0 a1_1 a1_2 a1_3 a1_4 a1_5 a1_6 a1_7 a1_8 = some r) :
  Calls Try.prog 26 #[.agg #[.slice A0_0 l0_0.length c0_0, .int .i64 a0_1, .int .i64 a0_2, .int .u64 a0_3, .bool a0_4, .int .i64 a0_5, .int .u64 a0_6, .int .i64 a0_7, .int .i64 a0_8], .agg #[.slice A1_0 l1_0.length c1_0, .int .i64 a1_1, .int .i64 a1_2, .int .u64 a1_3, .bool a1_4, .int .i64 a1_5, .int .u64 a1_6, .int .i64 a1_7, .int .i64 a1_8]] w fun e w' => e = .returned (.bool r) ∧ Below w.heap.size w w' := by
 have hu73 := Try.underlying73
 have hu42 := Try.underlying42
 have HR0_0 := Aside0.mk hr0_0
 have HC0_0 := Aside0.mk hc0_0
 clear hr0_0 hc0_0
 have HR1_0 := Aside0.mk hr1_0
 have HC1_0 := Aside0.mk hc1_0
 clear hr1_0 hc1_0
 have HB := Aside0.mk (Below.refl w.heap.size w)
 have H : ((rickyardref06_Order.f k l0_0 l1_0).bind fun t541 => (if t541 = 0 then (if a0_1 = a1_1 then (if a0_2 = a1_2 then (some (a0_3 == a1_3 && (a0_4 == a1_4 && ((a0_5 == a1_5 && (a0_6 == a1_6)) && (a0_7 == a1_7 && (a0_8 == a1_8)))))) else (some false)) else (some false)) else (some false))) = some r := h
 clear h
 replace H := bnA H
 obtain ⟨t541, A3, H⟩ := H
 by_cases c4 : t541 = 0
 rotate_left
 ·rw [if_neg c4] at H
  have c4b0 := beq_eq_false_iff_ne.mpr c4
  have c4b1 := bne_iff_ne.mpr c4
  obtain rfl := Option.some.inj H
  go_enter Try.func26, Try.ntmps26
  go_wp2_with (first | ((with_reducible refine gate_dst (N := 2) rfl ?_); refine boxA 2 #[.slice A0_0 l0_0.length c0_0, .int .i64 a0_1, .int .i64 a0_2, .int .u64 a0_3, .bool a0_4, .int .i64 a0_5, .int .u64 a0_6, .int .i64 a0_7, .int .i64 a0_8] 73 ?_; intro gb539 hg w22 hbox hb; have BK539 := Aside0.mk (hbox); have GE539 := ge1 hg (belA HB.out); replace HB := bst HB hb; clear hb hbox hg) | ((with_reducible refine gate_dst (N := 3) rfl ?_); refine boxA 3 #[.slice A1_0 l1_0.length c1_0, .int .i64 a1_1, .int .i64 a1_2, .int .u64 a1_3, .bool a1_4, .int .i64 a1_5, .int .u64 a1_6, .int .i64 a1_7, .int .i64 a1_8] 73 ?_; intro gb540 hg w23 hbox hb; have BK540 := Aside0.mk (hbox); have GW540 := ge1 hg (belB HB.out GE539.out); have GE540 := GW540; have NB539_540 := neL hg BK539; have NB540_539 := neR hg BK539; replace BK539 := blkB BK539 hb; replace HB := bs2 HB GE539 hb; clear hb hbox hg; have hnb24 := NB539_540.out; have hnc24 := NB540_539.out; obtain ⟨hcz25_0, hcz25_1, hcz25_2, hcz25_3, hcz25_4, hcz25_5, hcz25_6, hcz25_7, hcz25_8, hfz25_0, hfz25_1, hfz25_2, hfz25_3, hfz25_4, hfz25_5, hfz25_6, hfz25_7, hfz25_8⟩ := blk9 BK539; obtain ⟨hcz26_0, hcz26_1, hcz26_2, hcz26_3, hcz26_4, hcz26_5, hcz26_6, hcz26_7, hcz26_8, hfz26_0, hfz26_1, hfz26_2, hfz26_3, hfz26_4, hfz26_5, hfz26_6, hfz26_7, hfz26_8⟩ := blk9 BK540) | ((with_reducible refine gate_callee (f := 16) rfl ?_); refine goesL_ (some 9) rfl rfl Try.func16 (by kernel_rfl) rfl #[.slice A0_0 l0_0.length c0_0, .slice A1_0 l1_0.length c1_0] rfl argA ?_; (with_reducible refine (rickyardref06_Order.calls k _ _ l0_0 _ _ l1_0 t541 _ ?side1 ?side2 ?side3 ?side4 A3.out).mono ?_); (case side1 => exact cb1 HR0_0 HB); (case side2 => exact HC0_0.out); (case side3 => exact cb1 HR1_0 HB); (case side4 => exact HC1_0.out); rintro e w' ⟨rfl, ⟨nd, rfl⟩⟩; refine ⟨_, rfl, ?_⟩))
  go_ret
  exact ⟨ret1, belC HB.out GE539.out GE540.out⟩
 rw [if_pos c4] at H
 have c4b0 := beq_iff_eq.mpr c4
 have c4b1 := bne_eq_false_iff_eq.mpr c4
 clear c4
 by_cases c5 : a0_1 = a1_1
 rotate_left
 ·rw [if_neg c5] at H
  have c5b0 := beq_eq_false_iff_ne.mpr c5
  have c5b1 := bne_iff_ne.mpr c5
  obtain rfl := Option.some.inj H
  go_enter Try.func26, Try.ntmps26
  go_wp2_with (first | ((with_reducible refine gate_dst (N := 2) rfl ?_); refine boxA 2 #[.slice A0_0 l0_0.length c0_0, .int .i64 a0_1, .int .i64 a0_2, .int .u64 a0_3, .bool a0_4, .int .i64 a0_5, .int .u64 a0_6, .int .i64 a0_7, .int .i64 a0_8] 73 ?_; intro gb539 hg w17 hbox hb; have BK539 := Aside0.mk (hbox); have GE539 := ge1 hg (belA HB.out); replace HB := bst HB hb; clear hb hbox hg) | ((with_reducible refine gate_dst (N := 3) rfl ?_); refine boxA 3 #[.slice A1_0 l1_0.length c1_0, .int .i64 a1_1, .int .i64 a1_2, .int .u64 a1_3, .bool a1_4, .int .i64 a1_5, .int .u64 a1_6, .int .i64 a1_7, .int .i64 a1_8] 73 ?_; intro gb540 hg w18 hbox hb; have BK540 := Aside0.mk (hbox); have GW540 := ge1 hg (belB HB.out GE539.out); have GE540 := GW540; have NB539_540 := neL hg BK539; have NB540_539 := neR hg BK539; replace BK539 := blkB BK539 hb; replace HB := bs2 HB GE539 hb; clear hb hbox hg; have hnb19 := NB539_540.out; have hnc19 := NB540_539.out; obtain ⟨hcz20_0, hcz20_1, hcz20_2, hcz20_3, hcz20_4, hcz20_5, hcz20_6, hcz20_7, hcz20_8, hfz20_0, hfz20_1, hfz20_2, hfz20_3, hfz20_4, hfz20_5, hfz20_6, hfz20_7, hfz20_8⟩ := blk9 BK539; obtain ⟨hcz21_0, hcz21_1, hcz21_2, hcz21_3, hcz21_4, hcz21_5, hcz21_6, hcz21_7, hcz21_8, hfz21_0, hfz21_1, hfz21_2, hfz21_3, hfz21_4, hfz21_5, hfz21_6, hfz21_7, hfz21_8⟩ := blk9 BK540) | ((with_reducible refine gate_callee (f := 16) rfl ?_); refine goesL_ (some 9) rfl rfl Try.func16 (by kernel_rfl) rfl #[.slice A0_0 l0_0.length c0_0, .slice A1_0 l1_0.length c1_0] rfl argA ?_; (with_reducible refine (rickyardref06_Order.calls k _ _ l0_0 _ _ l1_0 t541 _ ?side1 ?side2 ?side3 ?side4 A3.out).mono ?_); (case side1 => exact cb1 HR0_0 HB); (case side2 => exact HC0_0.out); (case side3 => exact cb1 HR1_0 HB); (case side4 => exact HC1_0.out); rintro e w' ⟨rfl, ⟨nd, rfl⟩⟩; refine ⟨_, rfl, ?_⟩))
  go_ret
  exact ⟨ret1, belC HB.out GE539.out GE540.out⟩
 rw [if_pos c5] at H
 have c5b0 := beq_iff_eq.mpr c5
 have c5b1 := bne_eq_false_iff_eq.mpr c5
 clear c5
 by_cases c6 : a0_2 = a1_2
 rotate_left
 ·rw [if_neg c6] at H
  have c6b0 := beq_eq_false_iff_ne.mpr c6
  have c6b1 := bne_iff_ne.mpr c6
  obtain rfl := Option.some.inj H
  go_enter Try.func26, Try.ntmps26
  go_wp2_with (first | ((with_reducible refine gate_dst (N := 2) rfl ?_); refine boxA 2 #[.slice A0_0 l0_0.length c0_0, .int .i64 a0_1, .int .i64 a0_2, .int .u64 a0_3, .bool a0_4, .int .i64 a0_5, .int .u64 a0_6, .int .i64 a0_7, .int .i64 a0_8] 73 ?_; intro gb539 hg w12 hbox hb; have BK539 := Aside0.mk (hbox); have GE539 := ge1 hg (belA HB.out); replace HB := bst HB hb; clear hb hbox hg) | ((with_reducible refine gate_dst (N := 3) rfl ?_); refine boxA 3 #[.slice A1_0 l1_0.length c1_0, .int .i64 a1_1, .int .i64 a1_2, .int .u64 a1_3, .bool a1_4, .int .i64 a1_5, .int .u64 a1_6, .int .i64 a1_7, .int .i64 a1_8] 73 ?_; intro gb540 hg w13 hbox hb; have BK540 := Aside0.mk (hbox); have GW540 := ge1 hg (belB HB.out GE539.out); have GE540 := GW540; have NB539_540 := neL hg BK539; have NB540_539 := neR hg BK539; replace BK539 := blkB BK539 hb; replace HB := bs2 HB GE539 hb; clear hb hbox hg; have hnb14 := NB539_540.out; have hnc14 := NB540_539.out; obtain ⟨hcz15_0, hcz15_1, hcz15_2, hcz15_3, hcz15_4, hcz15_5, hcz15_6, hcz15_7, hcz15_8, hfz15_0, hfz15_1, hfz15_2, hfz15_3, hfz15_4, hfz15_5, hfz15_6, hfz15_7, hfz15_8⟩ := blk9 BK539; obtain ⟨hcz16_0, hcz16_1, hcz16_2, hcz16_3, hcz16_4, hcz16_5, hcz16_6, hcz16_7, hcz16_8, hfz16_0, hfz16_1, hfz16_2, hfz16_3, hfz16_4, hfz16_5, hfz16_6, hfz16_7, hfz16_8⟩ := blk9 BK540) | ((with_reducible refine gate_callee (f := 16) rfl ?_); refine goesL_ (some 9) rfl rfl Try.func16 (by kernel_rfl) rfl #[.slice A0_0 l0_0.length c0_0, .slice A1_0 l1_0.length c1_0] rfl argA ?_; (with_reducible refine (rickyardref06_Order.calls k _ _ l0_0 _ _ l1_0 t541 _ ?side1 ?side2 ?side3 ?side4 A3.out).mono ?_); (case side1 => exact cb1 HR0_0 HB); (case side2 => exact HC0_0.out); (case side3 => exact cb1 HR1_0 HB); (case side4 => exact HC1_0.out); rintro e w' ⟨rfl, ⟨nd, rfl⟩⟩; refine ⟨_, rfl, ?_⟩))
  go_ret
  exact ⟨ret1, belC HB.out GE539.out GE540.out⟩
 rw [if_pos c6] at H
 have c6b0 := beq_iff_eq.mpr c6
 have c6b1 := bne_eq_false_iff_eq.mpr c6
 clear c6
 obtain rfl := Option.some.inj H
 go_enter Try.func26, Try.ntmps26
 go_wp2_with (first | ((with_reducible refine gate_dst (N := 2) rfl ?_); refine boxA 2 #[.slice A0_0 l0_0.length c0_0, .int .i64 a0_1, .int .i64 a0_2, .int .u64 a0_3, .bool a0_4, .int .i64 a0_5, .int .u64 a0_6, .int .i64 a0_7, .int .i64 a0_8] 73 ?_; intro gb539 hg w7 hbox hb; have BK539 := Aside0.mk (hbox); have GE539 := ge1 hg (belA HB.out); replace HB := bst HB hb; clear hb hbox hg) | ((with_reducible refine gate_dst (N := 3) rfl ?_); refine boxA 3 #[.slice A1_0 l1_0.length c1_0, .int .i64 a1_1, .int .i64 a1_2, .int .u64 a1_3, .bool a1_4, .int .i64 a1_5, .int .u64 a1_6, .int .i64 a1_7, .int .i64 a1_8] 73 ?_; intro gb540 hg w8 hbox hb; have BK540 := Aside0.mk (hbox); have GW540 := ge1 hg (belB HB.out GE539.out); have GE540 := GW540; have NB539_540 := neL hg BK539; have NB540_539 := neR hg BK539; replace BK539 := blkB BK539 hb; replace HB := bs2 HB GE539 hb; clear hb hbox hg; have hnb9 := NB539_540.out; have hnc9 := NB540_539.out; obtain ⟨hcz10_0, hcz10_1, hcz10_2, hcz10_3, hcz10_4, hcz10_5, hcz10_6, hcz10_7, hcz10_8, hfz10_0, hfz10_1, hfz10_2, hfz10_3, hfz10_4, hfz10_5, hfz10_6, hfz10_7, hfz10_8⟩ := blk9 BK539; obtain ⟨hcz11_0, hcz11_1, hcz11_2, hcz11_3, hcz11_4, hcz11_5, hcz11_6, hcz11_7, hcz11_8, hfz11_0, hfz11_1, hfz11_2, hfz11_3, hfz11_4, hfz11_5, hfz11_6, hfz11_7, hfz11_8⟩ := blk9 BK540) | ((with_reducible refine gate_callee (f := 16) rfl ?_); refine goesL_ (some 9) rfl rfl Try.func16 (by kernel_rfl) rfl #[.slice A0_0 l0_0.length c0_0, .slice A1_0 l1_0.length c1_0] rfl argA ?_; (with_reducible refine (rickyardref06_Order.calls k _ _ l0_0 _ _ l1_0 t541 _ ?side1 ?side2 ?side3 ?side4 A3.out).mono ?_); (case side1 => exact cb1 HR0_0 HB); (case side2 => exact HC0_0.out); (case side3 => exact cb1 HR1_0 HB); (case side4 => exact HC1_0.out); rintro e w' ⟨rfl, ⟨nd, rfl⟩⟩; refine ⟨_, rfl, ?_⟩))
 go_ret
 exact ⟨ret1, belC HB.out GE539.out GE540.out⟩
end Go.Proofs.Ytdopbhbbpgfliaa.PAsk
end
