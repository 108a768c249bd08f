import Derived.Test.YtdopbhbbpgfliaaZAskAll18
import Derived.Test.YtdopbhbbpgfliaaZAskAll21
section
namespace Go.Proofs.Ytdopbhbbpgfliaa.PAsk
open Go.RowKit Go.Proofs.YtdopbhbbpgfliaaW.PrintWords Go.Proofs.YtdopbhbbpgfliaaW.PrintLast Go.Proofs.YtdopbhbbpgfliaaW.PrintMore
attribute [local go_sem] max2_int min2_int max_two min_two max_three min_three max_four min_four   -- for this text's walks alone
set_option linter.unusedVariables false
set_option linter.unusedSimpArgs false
set_option maxHeartbeats 8000000
set_option maxRecDepth 100000
def rickyardref01_Of.f (a0 : Int) : Option (Int × Int) := if a0 < 0 then (some ((-1), IntKind.u64.wrap (a0))) else (some (0, IntKind.u64.wrap (a0)))
theorem rickyardref01_Of.calls (a0 : Int) (r1 : Int) (r2 : Int) (w : World) (h : rickyardref01_Of.f a0 = some (r1, r2)) :
  Calls Try.prog 54 #[.int .i64 a0] w fun e w' => e = .returned (.agg #[.int .i64 r1, .int .u64 r2]) ∧ Below w.heap.size w w' := by
 have hu40 := Try.underlying40
 have HB := Aside0.mk (Below.refl w.heap.size w)
 have H : (if a0 < 0 then (some ((-1), IntKind.u64.wrap (a0))) else (some (0, IntKind.u64.wrap (a0)))) = some (r1, r2) := h
 clear h
 by_cases c2 : a0 < 0
 rotate_left
 ·rw [if_neg c2] at H
  have c2b0 := decide_eq_false c2
  clear c2
  simp only [Option.some.injEq, Prod.mk.injEq] at H
  obtain ⟨rfl, rfl⟩ := H
  go_enter Try.func54, Try.ntmps54
  go_wp2_with (first | ((with_reducible refine gate_dst (N := 2) rfl ?_); refine boxA 2 #[.int .i64 0, .int .u64 0] 40 ?_; intro gb503 hg w8 hbox hb; have BK503 := Aside0.mk (hbox); have GE503 := ge1 hg (belA HB.out); replace HB := bst HB hb; clear hb hbox hg) | ((with_reducible refine gate_dst (N := 3) rfl ?_); refine boxA 3 #[.int .i64 0, .int .u64 0] 40 ?_; intro gb504 hg w9 hbox hb; have BK504 := Aside0.mk (hbox); have GW504 := ge1 hg (belB HB.out GE503.out); have GE504 := GW504; have NB503_504 := neL hg BK503; have NB504_503 := neR hg BK503; replace BK503 := blkB BK503 hb; replace HB := bs2 HB GE503 hb; clear hb hbox hg; have hnb10 := NB504_503.out; have hnc10 := NB503_504.out; obtain ⟨hcz11_0, hcz11_1, hfz11_0, hfz11_1⟩ := blk2 BK504; obtain ⟨hcz12_0, hcz12_1, hfz12_0, hfz12_1⟩ := blk2 BK503))
  refine bodyPost_ret (results_cell_row rfl _ _ gb503 40 #[.int .i64 0, .int .u64 (IntKind.u64.wrap (a0))] (0, 0) _ rfl (putB BK503.out NB503_504.out) Try.underlying40 rfl (by kernel_rfl)) rfl ?_
  exact ⟨ret1, belC HB.out GE503.out GE504.out⟩
 rw [if_pos c2] at H
 have c2b0 := decide_eq_true c2
 clear c2
 simp only [Option.some.injEq, Prod.mk.injEq] at H
 obtain ⟨rfl, rfl⟩ := H
 go_enter Try.func54, Try.ntmps54
 go_wp2_with (first | ((with_reducible refine gate_dst (N := 2) rfl ?_); refine boxA 2 #[.int .i64 0, .int .u64 0] 40 ?_; intro gb503 hg w3 hbox hb; have BK503 := Aside0.mk (hbox); have GE503 := ge1 hg (belA HB.out); replace HB := bst HB hb; clear hb hbox hg) | ((with_reducible refine gate_dst (N := 3) rfl ?_); refine boxA 3 #[.int .i64 0, .int .u64 0] 40 ?_; intro gb504 hg w4 hbox hb; have BK504 := Aside0.mk (hbox); have GW504 := ge1 hg (belB HB.out GE503.out); have GE504 := GW504; have NB503_504 := neL hg BK503; have NB504_503 := neR hg BK503; replace BK503 := blkB BK503 hb; replace HB := bs2 HB GE503 hb; clear hb hbox hg; have hnb5 := NB504_503.out; have hnc5 := NB503_504.out; obtain ⟨hcz6_0, hcz6_1, hfz6_0, hfz6_1⟩ := blk2 BK504; obtain ⟨hcz7_0, hcz7_1, hfz7_0, hfz7_1⟩ := blk2 BK503))
 refine bodyPost_ret (results_cell_row rfl _ _ gb503 40 #[.int .i64 (-1), .int .u64 (IntKind.u64.wrap (a0))] (0, 0) _ rfl (putB BK503.out NB503_504.out) Try.underlying40 rfl (by kernel_rfl)) rfl ?_
 exact ⟨ret1, belC HB.out GE503.out GE504.out⟩
def rickyardref02_One.f (a0 : Int) : Option (Int × Bool × Int × Int × Int × Int) := (rickyardref01_Of.f a0).bind fun bt506 => (some (1, false, bt506.1, bt506.2, a0, a0))
theorem rickyardref02_One.calls (a0 : Int) (r1 : Int) (r2 : Bool) (r3 : Int) (r4 : Int) (r5 : Int) (r6 : Int) (w : World) (h : rickyardref02_One.f a0 = some (r1, r2, r3, r4, r5, r6)) :
  Calls Try.prog 38 #[.int .i64 a0] w fun e w' => e = .returned (.agg #[.int .u64 r1, .bool r2, .int .i64 r3, .int .u64 r4, .int .i64 r5, .int .i64 r6]) ∧ Below w.heap.size w w' := by
 have hu42 := Try.underlying42
 have HB := Aside0.mk (Below.refl w.heap.size w)
 have H : ((rickyardref01_Of.f a0).bind fun bt506 => (some (1, false, bt506.1, bt506.2, a0, a0))) = some (r1, r2, r3, r4, r5, r6) := h
 clear h
 replace H := bnA H
 obtain ⟨⟨t506, t507⟩, A2, H⟩ := H
 replace H : (some (1, false, t506, t507, a0, a0)) = some (r1, r2, r3, r4, r5, r6) := H
 simp only [Option.some.injEq, Prod.mk.injEq] at H
 obtain ⟨rfl, rfl, rfl, rfl, rfl, rfl⟩ := H
 go_enter Try.func38, Try.ntmps38
 go_wp2_with (first | ((with_reducible refine gate_dst (N := 2) rfl ?_); refine boxA 2 #[.int .u64 0, .bool false, .int .i64 0, .int .u64 0, .int .i64 0, .int .i64 0] 42 ?_; intro gb505 hg w3 hbox hb; have BK505 := Aside0.mk (hbox); have GE505 := ge1 hg (belA HB.out); replace HB := bst HB hb; clear hb hbox hg) | ((with_reducible refine gate_callee (f := 54) rfl ?_); refine goesL_ (some 4) rfl rfl Try.func54 (by kernel_rfl) rfl #[.int .i64 a0] rfl argA ?_; (with_reducible refine (rickyardref01_Of.calls a0 t506 t507 _ A2.out).mono ?_); rintro e w4 ⟨rfl, hb⟩; refine ⟨_, rfl, ?_⟩; replace BK505 := blkB BK505 hb; replace HB := bs2 HB GE505 hb; (try clear hb); obtain ⟨hcz5_0, hcz5_1, hcz5_2, hcz5_3, hcz5_4, hcz5_5, hfz5_0, hfz5_1, hfz5_2, hfz5_3, hfz5_4, hfz5_5⟩ := blk6 BK505))
 refine bodyPost_ret (results_cell_row rfl _ _ gb505 42 #[.int .u64 1, .bool false, .int .i64 t506, .int .u64 t507, .int .i64 a0, .int .i64 a0] (0, 0) _ rfl (putA BK505.out) Try.underlying42 rfl (by kernel_rfl)) rfl ?_
 exact ⟨ret1, belB HB.out GE505.out⟩
def rickyardref15_Entries.l0 : Nat → List (S63) → List (S60) → Int → List (S84) → Int → Option ((List (S60)))
 | 0, _, _, _, _, _ => none
 | k + 1, x1, x5, x6, x509000, x509001 => if x6 < (x1.length : Int) then (if 0 ≤ x6 then (if 0 < (x509000.length : Int) then ((rickyardref03_Floor.f ((rd_T63 x1 x6).f1) ((rd_T84 x509000 0).f0)).bind fun bt511 => ((rickyardref06_Write.f k ((rd_T63 x1 x6).f0) bt511.1 0).bind fun bt514 => ((rickyardref02_One.f ((rd_T63 x1 x6).f2)).bind fun bt519 => ((rickyardref14_Put.f k x5 bt514.1 bt519.1 bt519.2.1 bt519.2.2.1 bt519.2.2.2.1 bt519.2.2.2.2.1 bt519.2.2.2.2.2).bind fun t525 => (rickyardref15_Entries.l0 k x1 t525 (wrap64 (x6 + 1)) x509000 x509001))))) else (none)) else (none)) else (some x5)
def rickyardref15_Entries.f (k : Nat) (l0_0 : List (S84)) (a0_1 : Int) (l1 : List (S63)) : Option ((List (S60))) := rickyardref15_Entries.l0 k l1 ([] : List (S60)) 0 l0_0 a0_1
theorem rickyardref15_Entries.calls (k : Nat) (A0_0 : Option Addr) (c0_0 : Nat) (l0_0 : List (S84)) (a0_1 : Int) (A1 : Option Addr) (c1 : Nat) (l1 : List (S63)) (r : List (S60)) (w : World) (hr0_0 : Kd.C k84 w A0_0 l0_0.length l0_0) (hc0_0 : l0_0.length ≤ c0_0) (hr1 : Kd.C k63 w A1 l1.length l1) (hc1 : l1.length ≤ c1) (h : rickyardref15_Entries.f k l0_0 a0_1 l1 = some r) :
  Calls Try.prog 21 #[.agg #[.slice A0_0 l0_0.length c0_0, .int .i64 a0_1], .slice A1 l1.length c1] w fun e w' => ∃ v0_ : Value, e = .returned (v0_) ∧ Kd.N k60 60 w' w.heap.size (fun k_ => (w.heap.size ≤ k_)) v0_ r ∧ Below w.heap.size w w' := by
 have hu24 := Try.underlying24
 have hu70 := Try.underlying70
 have hu60 := Try.underlying60
 have HR0_0 := Aside0.mk hr0_0
 have HC0_0 := Aside0.mk hc0_0
 clear hr0_0 hc0_0
 have HR1 := Aside0.mk hr1
 have HC1 := Aside0.mk hc1
 clear hr1 hc1
 have HB := Aside0.mk (Below.refl w.heap.size w)
 have H : (rickyardref15_Entries.l0 k l1 ([] : List (S60)) 0 l0_0 a0_1) = some r := h
 clear h
 have H' := Aside0.mk H
 clear H
 go_enter Try.func21, Try.ntmps21
 go_wp2_with (first | ((with_reducible refine gate_dst (N := 2) rfl ?_); refine boxA 2 #[.slice A0_0 l0_0.length c0_0, .int .i64 a0_1] 24 ?_; intro gb508 hg w3 hbox hb; have BK508 := Aside0.mk (hbox); have GE508 := ge1 hg (belA HB.out); replace HB := bst HB hb; clear hb hbox hg))
 repeat (go_quiet (fail); try go_wp2_with (first | ((with_reducible refine gate_dst (N := 2) rfl ?_); refine boxA 2 #[.slice A0_0 l0_0.length c0_0, .int .i64 a0_1] 24 ?_; intro gb508 hg w3 hbox hb; have BK508 := Aside0.mk (hbox); have GE508 := ge1 hg (belA HB.out); replace HB := bst HB hb; clear hb hbox hg)))
 go_loopg [5, 6] k (fun kq v5 v6 w' => ∃ (x5_1 : List (S60)) (x6_1 : Int), v6 = .int .i64 x6_1 ∧ Aside0 (rickyardref15_Entries.l0 kq l1 x5_1 x6_1 l0_0 a0_1 = some r) ∧ Aside0 (kq ≤ k) ∧ Aside0 (Kd.N k60 60 w' w.heap.size (fun k_ => (w.heap.size ≤ k_) ∧ k_ ≠ gb508) v5 x5_1) ∧ Aside0 (w'.heap[gb508]? = some (.cells #[(.slice A0_0 l0_0.length c0_0), .int .i64 a0_1] 24 (0, 0))) ∧ Aside0 (Below w.heap.size w w'))
 case atStart => exact ⟨(([] : List (S60))), (0), relA, H', ⟨Nat.le_refl _⟩, ⟨by first | exact Kd.R_nil _ _ _ _ _ | exact Kd.N_nil _ _ _ _ _ | exact Kd.V_nil _ _ _ _ _ | exact Kd.Q_nil _ _ _ _ _ | exact Kd.S_nil _ _ _ _ _⟩, ⟨blkA BK508.out⟩, ⟨belB HB.out GE508.out⟩⟩
 case round =>
  clear H'
  try clear c1
  try clear c2
  try clear p2
  obtain ⟨x5_1, x6_1, rfl, HA, HK1, HO_5, BK508, HB⟩ := hrel
  cases gk with
  | zero => exact absurd HA.out (by simp [rickyardref15_Entries.l0])
  | succ k1 =>
   have H := HA.out
   clear HA
   simp only [rickyardref15_Entries.l0] at H
   by_cases c4 : x6_1 < (l1.length : Int)
   rotate_left
   ·rw [if_neg c4] at H
    have c4b0 := decide_eq_false c4
    clear c4
    obtain rfl := Option.some.inj H
    go_wp2
    repeat (go_quiet (fail); try go_wp2)
    go_ret
    exact ⟨_, ret1, by (with_reducible repeat (first | apply Kd.N_alloc | apply Kd.N_drewN | apply Kd.N_drew)); exact Kd.N_mono HO_5.out (fun _ hk => hk.1), belB HB.out GE508.out⟩
   rw [if_pos c4] at H
   have c4b0 := decide_eq_true c4
   clear c4
   replace H := ifN H
   obtain ⟨c5, H⟩ := H
   have c5b0 := decide_eq_true c5
   clear c5
   replace H := ifN H
   obtain ⟨c6, H⟩ := H
   have c6b0 := decide_eq_true c6
   have c6b1 : decide (0 < l0_0.length) = true := decide_eq_true (by omega)
   clear c6
   replace H := bnA H
   obtain ⟨⟨t511, t512⟩, A7, H⟩ := H
   replace H : ((rickyardref06_Write.f k1 ((rd_T63 l1 x6_1).f0) t511 0).bind fun bt514 => ((rickyardref02_One.f ((rd_T63 l1 x6_1).f2)).bind fun bt519 => ((rickyardref14_Put.f k1 x5_1 bt514.1 bt519.1 bt519.2.1 bt519.2.2.1 bt519.2.2.2.1 bt519.2.2.2.2.1 bt519.2.2.2.2.2).bind fun t525 => (rickyardref15_Entries.l0 k1 l1 t525 (wrap64 (x6_1 + 1)) l0_0 a0_1)))) = some r := H
   replace H := bnA H
   obtain ⟨⟨t514, t517⟩, A8, H⟩ := H
   replace H : ((rickyardref02_One.f ((rd_T63 l1 x6_1).f2)).bind fun bt519 => ((rickyardref14_Put.f k1 x5_1 t514 bt519.1 bt519.2.1 bt519.2.2.1 bt519.2.2.2.1 bt519.2.2.2.2.1 bt519.2.2.2.2.2).bind fun t525 => (rickyardref15_Entries.l0 k1 l1 t525 (wrap64 (x6_1 + 1)) l0_0 a0_1))) = some r := H
   replace H := bnA H
   obtain ⟨⟨t519, t520, t521, t522, t523, t524⟩, A9, H⟩ := H
   replace H : ((rickyardref14_Put.f k1 x5_1 t514 t519 t520 t521 t522 t523 t524).bind fun t525 => (rickyardref15_Entries.l0 k1 l1 t525 (wrap64 (x6_1 + 1)) l0_0 a0_1)) = some r := H
   replace H := bnA H
   obtain ⟨t525, A10, H⟩ := H
   have H' := Aside0.mk H
   clear H
   have p509 : 0 ≤ (x6_1 : Int) := of_decide_eq_true asmA
   have q509 : x6_1 < (l1.length : Int) := of_decide_eq_true asmA
   obtain ⟨ad509, A509_0, c509_0, e509, hx509_0, hx509_1, hx509_2, hl509_0, hi509_0⟩ := at_T63 HR1.out x6_1 p509 q509
   cases e509
   replace hx509_0 := cbx HB hx509_0
   replace hx509_1 := cbx HB hx509_1
   replace hx509_2 := cbx HB hx509_2
   have HR509_0 := Aside0.mk hi509_0
   have HC509_0 := Aside0.mk hl509_0
   clear hi509_0 hl509_0
   replace p509 := eq_true p509
   replace q509 := eq_true q509
   obtain ⟨hcz11_0, hcz11_1, hfz11_0, hfz11_1⟩ := blk2 BK508
   have p510 : 0 ≤ (0 : Int) := (by omega)
   have q510 : 0 < (l0_0.length : Int) := of_decide_eq_true asmA
   obtain ⟨ad510, e510, hx510_0, hx510_1⟩ := at_T84 HR0_0.out 0 p510 q510
   cases e510
   have qi510 : (0 < l0_0.length) = True := eq_true (by omega)
   (try rw [show ((0 : Int)).toNat = 0 from rfl] at hx510_0)
   (try rw [show 0 * 2 = 0 from rfl] at hx510_0)
   (try rw [Addr.add_zero'] at hx510_0)
   (try rw [show ((0 : Int)).toNat = 0 from rfl] at hx510_1)
   (try rw [show 0 * 2 = 0 from rfl] at hx510_1)
   (try rw [Addr.add_zero'] at hx510_1)
   replace hx510_0 := cbx HB hx510_0
   replace hx510_1 := cbx HB hx510_1
   replace p510 := eq_true p510
   replace q510 := eq_true q510
   go_wp2_with (first | (go_at_call 35; (with_reducible refine (rickyardref03_Floor.calls ((rd_T63 l1 x6_1).f1) ((rd_T84 l0_0 0).f0) t511 t512 _ A7.out).mono ?_); rintro e w' ⟨rfl, ⟨nd, rfl⟩⟩; (try exact drA); have p513 : 0 ≤ (x6_1 : Int) := of_decide_eq_true asmA; have q513 : x6_1 < (l1.length : Int) := of_decide_eq_true asmA; obtain ⟨ad513, A513_0, c513_0, e513, hx513_0, hx513_1, hx513_2, hl513_0, hi513_0⟩ := at_T63 HR1.out x6_1 p513 q513; obtain rfl : ad509 = ad513 := (by injection e513); replace hx513_0 := cbx HB hx513_0; replace hx513_1 := cbx HB hx513_1; replace hx513_2 := cbx HB hx513_2; have HR513_0 := Aside0.mk hi513_0; have HC513_0 := Aside0.mk hl513_0; clear hi513_0 hl513_0; replace p513 := eq_true p513; replace q513 := eq_true q513; have ea_ := Option.some.inj (hx509_0.symm.trans hx513_0); injection ea_ with ea_ en_ ec_; subst ea_; subst ec_; clear en_) | (go_at_call 36; (with_reducible refine (rickyardref06_Write.calls k1 _ _ ((rd_T63 l1 x6_1).f0) t511 0 t514 t517 _ ?side1 ?side2 A8.out).mono ?_); (case side1 => repeat (first | exact (Kd.C_below HR513_0.out (belB HB.out GE508.out)) | (with_reducible refine Kd.C_alloc ?_ _) | (with_reducible refine Kd.C_drewN ?_ _) | (with_reducible refine Kd.C_drew ?_))); (case side2 => exact HC513_0.out); rintro e w12 ⟨v515, rfl, ho0, hb⟩; have HO516 := Aside0.mk (Kd.R_lower (Kd.R_newM (M := fun k_ => (w.heap.size ≤ k_)) ho0 (below_size (belB HB.out GE508.out)) (fun k_ h_ => h_)) (below_size (belB HB.out GE508.out))); replace HO_5 := Aside0.mk (Kd.N_elder' (nilA HO_5.out) (Kd.R_base ho0) hb); replace BK508 := blkB BK508 hb; replace HB := bs2 HB GE508 hb; (try clear hb); (try clear ho0); have p518 : 0 ≤ (x6_1 : Int) := of_decide_eq_true asmA; have q518 : x6_1 < (l1.length : Int) := of_decide_eq_true asmA; obtain ⟨ad518, A518_0, c518_0, e518, hx518_0, hx518_1, hx518_2, hl518_0, hi518_0⟩ := at_T63 HR1.out x6_1 p518 q518; obtain rfl : ad509 = ad518 := (by injection e518); replace hx518_0 := cbx HB hx518_0; replace hx518_1 := cbx HB hx518_1; replace hx518_2 := cbx HB hx518_2; have HR518_0 := Aside0.mk hi518_0; have HC518_0 := Aside0.mk hl518_0; clear hi518_0 hl518_0; replace p518 := eq_true p518; replace q518 := eq_true q518) | (go_at_call 38; (with_reducible refine (rickyardref02_One.calls ((rd_T63 l1 x6_1).f2) t519 t520 t521 t522 t523 t524 _ A9.out).mono ?_); rintro e w13 ⟨rfl, hb⟩; replace HO_5 := Aside0.mk (Kd.N_below (nilA HO_5.out) hb); replace HO516 := Aside0.mk (Kd.R_below (rowA HO516.out) hb); replace BK508 := blkB BK508 hb; replace HB := bs2 HB GE508 hb; (try clear hb); obtain ⟨Ao14, co14, eo14⟩ := Kd.R_slice HO516.out; subst eo14; obtain ⟨Ao15, co15, eo15⟩ := Kd.N_slice HO_5.out; subst eo15) | (go_at_call 37; (with_reducible refine (rickyardref14_Put.calls k1 (fun k_ => (((w.heap.size ≤ k_) ∧ k_ ≠ gb508) ∧ some k_ ≠ (.slice Ao14 t514.length co14 : Value).ownBlock)) _ _ x5_1 (fun k_ => some k_ = (.slice Ao14 t514.length co14 : Value).ownBlock) _ _ t514 t519 t520 t521 t522 t523 t524 t525 _ ?side1 ?side2 A10.out).mono ?_); (case side1 => exact Kd.N_V (HO_5.out)); (case side2 => exact Kd.R_V (Kd.R_tight rfl (Kd.R_types (Kd.R_apart' (HO516.out) (Kd.N_typed HO_5.out) (by decide)) BK508.out (by decide)))); rintro e w16 ⟨v526, rfl, ho0, hb⟩; have HO527 := Aside0.mk (Kd.N_lower (Kd.N_mono (ok' := fun k_ => (w.heap.size ≤ k_) ∧ k_ ≠ gb508) ho0 (fun k_ hk_ => ⟨Or.elim hk_ (fun hs_ => Or.elim hs_ (fun hs_ => hs_.1.1) (fun hs_ => ((Kd.R_types (Kd.R_apart' (HO516.out) (Kd.N_typed HO_5.out) (by decide)) BK508.out (by decide)).1 k_ hs_.symm).1.1.1)) (fun hn_ => (Nat.le_trans (below_size (belB HB.out GE508.out)) hn_)), Or.elim hk_ (fun hs_ => Or.elim hs_ (fun hs_ => hs_.1.2) (fun hs_ => ((Kd.R_types (Kd.R_apart' (HO516.out) (Kd.N_typed HO_5.out) (by decide)) BK508.out (by decide)).1 k_ hs_.symm).2)) (fun hn_ => (Kd.freshB (g := gb508) (o := .cells #[.slice (some ad510) l0_0.length c0_0, .int .i64 a0_1] 24 (0, 0)) (blkA BK508.out) k_ hn_))⟩)) (below_size (belB HB.out GE508.out))); replace HO_5 := Aside0.mk (Kd.N_elder' (nilA HO_5.out) (Kd.N_base ho0) hb); replace HO516 := Aside0.mk (Kd.R_below (rowA HO516.out) hb); replace BK508 := blkB BK508 hb; replace HB := bs2 HB GE508 hb; (try clear hb); (try clear ho0)))
   repeat (go_quiet ((go_at_call 35; (with_reducible refine (rickyardref03_Floor.calls ((rd_T63 l1 x6_1).f1) ((rd_T84 l0_0 0).f0) t511 t512 _ A7.out).mono ?_); rintro e w' ⟨rfl, ⟨nd, rfl⟩⟩; (try exact drA); have p513 : 0 ≤ (x6_1 : Int) := of_decide_eq_true asmA; have q513 : x6_1 < (l1.length : Int) := of_decide_eq_true asmA; obtain ⟨ad513, A513_0, c513_0, e513, hx513_0, hx513_1, hx513_2, hl513_0, hi513_0⟩ := at_T63 HR1.out x6_1 p513 q513; obtain rfl : ad509 = ad513 := (by injection e513); replace hx513_0 := cbx HB hx513_0; replace hx513_1 := cbx HB hx513_1; replace hx513_2 := cbx HB hx513_2; have HR513_0 := Aside0.mk hi513_0; have HC513_0 := Aside0.mk hl513_0; clear hi513_0 hl513_0; replace p513 := eq_true p513; replace q513 := eq_true q513; have ea_ := Option.some.inj (hx509_0.symm.trans hx513_0); injection ea_ with ea_ en_ ec_; subst ea_; subst ec_; clear en_)); try go_wp2_with (first | (go_at_call 35; (with_reducible refine (rickyardref03_Floor.calls ((rd_T63 l1 x6_1).f1) ((rd_T84 l0_0 0).f0) t511 t512 _ A7.out).mono ?_); rintro e w' ⟨rfl, ⟨nd, rfl⟩⟩; (try exact drA); have p513 : 0 ≤ (x6_1 : Int) := of_decide_eq_true asmA; have q513 : x6_1 < (l1.length : Int) := of_decide_eq_true asmA; obtain ⟨ad513, A513_0, c513_0, e513, hx513_0, hx513_1, hx513_2, hl513_0, hi513_0⟩ := at_T63 HR1.out x6_1 p513 q513; obtain rfl : ad509 = ad513 := (by injection e513); replace hx513_0 := cbx HB hx513_0; replace hx513_1 := cbx HB hx513_1; replace hx513_2 := cbx HB hx513_2; have HR513_0 := Aside0.mk hi513_0; have HC513_0 := Aside0.mk hl513_0; clear hi513_0 hl513_0; replace p513 := eq_true p513; replace q513 := eq_true q513; have ea_ := Option.some.inj (hx509_0.symm.trans hx513_0); injection ea_ with ea_ en_ ec_; subst ea_; subst ec_; clear en_) | (go_at_call 36; (with_reducible refine (rickyardref06_Write.calls k1 _ _ ((rd_T63 l1 x6_1).f0) t511 0 t514 t517 _ ?side1 ?side2 A8.out).mono ?_); (case side1 => repeat (first | exact (Kd.C_below HR513_0.out (belB HB.out GE508.out)) | (with_reducible refine Kd.C_alloc ?_ _) | (with_reducible refine Kd.C_drewN ?_ _) | (with_reducible refine Kd.C_drew ?_))); (case side2 => exact HC513_0.out); rintro e w12 ⟨v515, rfl, ho0, hb⟩; have HO516 := Aside0.mk (Kd.R_lower (Kd.R_newM (M := fun k_ => (w.heap.size ≤ k_)) ho0 (below_size (belB HB.out GE508.out)) (fun k_ h_ => h_)) (below_size (belB HB.out GE508.out))); replace HO_5 := Aside0.mk (Kd.N_elder' (nilA HO_5.out) (Kd.R_base ho0) hb); replace BK508 := blkB BK508 hb; replace HB := bs2 HB GE508 hb; (try clear hb); (try clear ho0); have p518 : 0 ≤ (x6_1 : Int) := of_decide_eq_true asmA; have q518 : x6_1 < (l1.length : Int) := of_decide_eq_true asmA; obtain ⟨ad518, A518_0, c518_0, e518, hx518_0, hx518_1, hx518_2, hl518_0, hi518_0⟩ := at_T63 HR1.out x6_1 p518 q518; obtain rfl : ad509 = ad518 := (by injection e518); replace hx518_0 := cbx HB hx518_0; replace hx518_1 := cbx HB hx518_1; replace hx518_2 := cbx HB hx518_2; have HR518_0 := Aside0.mk hi518_0; have HC518_0 := Aside0.mk hl518_0; clear hi518_0 hl518_0; replace p518 := eq_true p518; replace q518 := eq_true q518) | (go_at_call 38; (with_reducible refine (rickyardref02_One.calls ((rd_T63 l1 x6_1).f2) t519 t520 t521 t522 t523 t524 _ A9.out).mono ?_); rintro e w13 ⟨rfl, hb⟩; replace HO_5 := Aside0.mk (Kd.N_below (nilA HO_5.out) hb); replace HO516 := Aside0.mk (Kd.R_below (rowA HO516.out) hb); replace BK508 := blkB BK508 hb; replace HB := bs2 HB GE508 hb; (try clear hb); obtain ⟨Ao14, co14, eo14⟩ := Kd.R_slice HO516.out; subst eo14; obtain ⟨Ao15, co15, eo15⟩ := Kd.N_slice HO_5.out; subst eo15) | (go_at_call 37; (with_reducible refine (rickyardref14_Put.calls k1 (fun k_ => (((w.heap.size ≤ k_) ∧ k_ ≠ gb508) ∧ some k_ ≠ (.slice Ao14 t514.length co14 : Value).ownBlock)) _ _ x5_1 (fun k_ => some k_ = (.slice Ao14 t514.length co14 : Value).ownBlock) _ _ t514 t519 t520 t521 t522 t523 t524 t525 _ ?side1 ?side2 A10.out).mono ?_); (case side1 => exact Kd.N_V (HO_5.out)); (case side2 => exact Kd.R_V (Kd.R_tight rfl (Kd.R_types (Kd.R_apart' (HO516.out) (Kd.N_typed HO_5.out) (by decide)) BK508.out (by decide)))); rintro e w16 ⟨v526, rfl, ho0, hb⟩; have HO527 := Aside0.mk (Kd.N_lower (Kd.N_mono (ok' := fun k_ => (w.heap.size ≤ k_) ∧ k_ ≠ gb508) ho0 (fun k_ hk_ => ⟨Or.elim hk_ (fun hs_ => Or.elim hs_ (fun hs_ => hs_.1.1) (fun hs_ => ((Kd.R_types (Kd.R_apart' (HO516.out) (Kd.N_typed HO_5.out) (by decide)) BK508.out (by decide)).1 k_ hs_.symm).1.1.1)) (fun hn_ => (Nat.le_trans (below_size (belB HB.out GE508.out)) hn_)), Or.elim hk_ (fun hs_ => Or.elim hs_ (fun hs_ => hs_.1.2) (fun hs_ => ((Kd.R_types (Kd.R_apart' (HO516.out) (Kd.N_typed HO_5.out) (by decide)) BK508.out (by decide)).1 k_ hs_.symm).2)) (fun hn_ => (Kd.freshB (g := gb508) (o := .cells #[.slice (some ad510) l0_0.length c0_0, .int .i64 a0_1] 24 (0, 0)) (blkA BK508.out) k_ hn_))⟩)) (below_size (belB HB.out GE508.out))); replace HO_5 := Aside0.mk (Kd.N_elder' (nilA HO_5.out) (Kd.N_base ho0) hb); replace HO516 := Aside0.mk (Kd.R_below (rowA HO516.out) hb); replace BK508 := blkB BK508 hb; replace HB := bs2 HB GE508 hb; (try clear hb); (try clear ho0))))
   go_roundg k1
   case measure => have := HK1.out; omega
   case rel => exact ⟨(t525), (wrap64 (x6_1 + 1)), relA, H', ⟨by have := HK1.out; omega⟩, ⟨nilA HO527.out⟩, ⟨blkA BK508.out⟩, ⟨belB HB.out GE508.out⟩⟩
end Go.Proofs.Ytdopbhbbpgfliaa.PAsk
end
section
namespace Go.Proofs.Ytdopbhbbpgfliaa.PAsk
open Go.RowKit Go.Proofs.YtdopbhbbpgfliaaW.PrintWords Go.Proofs.YtdopbhbbpgfliaaW.PrintLast Go.Proofs.YtdopbhbbpgfliaaW.PrintMore
set_option linter.unusedVariables false
set_option linter.unusedSimpArgs false
set_option maxHeartbeats 8000000
set_option maxRecDepth 100000
def aliveG : List S84 := [⟨1, 0⟩, ⟨10, 20⟩]
def aliveL : List S63 := [⟨[⟨#[97]⟩, ⟨#[120]⟩], 5, 1⟩, ⟨[⟨#[97]⟩, ⟨#[121]⟩], 6, 2⟩]
def aliveE : List S60 := [⟨[1, 97, 0, 1, 1, 120, 0, 1, 0, 128, 0, 0, 0, 0, 0, 0, 5, 0], ⟨1, false, ⟨0, 1⟩, 1, 1⟩⟩, ⟨[1, 97, 0, 1, 1, 121, 0, 1, 0, 128, 0, 0, 0, 0, 0, 0, 6, 0], ⟨1, false, ⟨0, 2⟩, 2, 2⟩⟩]
def aliveR : List Rw := [⟨[⟨#[97]⟩], 0, 100, ⟨2, false, ⟨0, 3⟩, 1, 2⟩⟩]
theorem alive_entries : rickyardref15_Entries.f 64 aliveG 100 aliveL = some aliveE := by kernel_rfl
theorem alive_roll : ask_Rollup.f 64 aliveG 100 0 aliveE 1 0 100 = some (aliveR, 0) := by kernel_rfl
theorem alive_get : ask_Get.f 64 aliveG 100 0 aliveE [⟨#[97]⟩, ⟨#[121]⟩] 6 = some ([⟨#[97]⟩, ⟨#[121]⟩], 6, 1, 1, false, 0, 2, 2, 2, true, 0) := by kernel_rfl
def rickyardlaw17_alive.f (k : Nat) : Option Bool := if 64 ≤ k then some true else none
theorem strs_two {w : World} {g : Nat} {a b : ByteArray} (h : w.heap[g]? = some (.cells #[.string a, .string b] 9 (0, 0))) : Kd.C Kd.string w (some ⟨g, 0, none⟩) 2 [a, b] := by
  refine ⟨rfl, by decide, fun _ => ⟨⟨g, 0, none⟩, rfl, fun j p hj => ?_⟩⟩
  have hc := blk_cell h
  match j, hj with
  | 0, hj => obtain rfl := Option.some.inj hj; exact ⟨[.string a], rfl, rfl, fun i u hu => by rw [add_plain, hc]; match i, hu with | 0, hu => exact hu⟩
  | 1, hj => obtain rfl := Option.some.inj hj; exact ⟨[.string b], rfl, rfl, fun i u hu => by rw [add_plain, hc]; match i, hu with | 0, hu => exact hu⟩
theorem alive_lits {w : World} {g g1 g2 : Nat} (h1 : w.heap[g1]? = some (.cells #[.string ⟨#[97]⟩, .string ⟨#[120]⟩] 9 (0, 0))) (h2 : w.heap[g2]? = some (.cells #[.string ⟨#[97]⟩, .string ⟨#[121]⟩] 9 (0, 0))) (h : w.heap[g]? = some (.cells #[.slice (some ⟨g1, 0, none⟩) 2 2, .int .i64 5, .int .i64 1, .slice (some ⟨g2, 0, none⟩) 2 2, .int .i64 6, .int .i64 2] 63 (0, 0))) : Kd.C k63 w (some ⟨g, 0, none⟩) aliveL.length aliveL := by
  refine ⟨rfl, by decide, fun _ => ⟨⟨g, 0, none⟩, rfl, fun j p hj => ?_⟩⟩
  have hc := blk_cell h
  match j, hj with
  | 0, hj => obtain rfl := Option.some.inj hj; exact ⟨_, rfl, k63_mk w ⟨[⟨#[97]⟩, ⟨#[120]⟩], 5, 1⟩ (Nat.le_refl 2) (strs_two h1), fun i u hu => by rw [add_plain, hc]; match i, hu with | 0, hu => exact hu | 1, hu => exact hu | 2, hu => exact hu⟩
  | 1, hj => obtain rfl := Option.some.inj hj; exact ⟨_, rfl, k63_mk w ⟨[⟨#[97]⟩, ⟨#[121]⟩], 6, 2⟩ (Nat.le_refl 2) (strs_two h2), fun i u hu => by rw [add_plain, hc]; match i, hu with | 0, hu => exact hu | 1, hu => exact hu | 2, hu => exact hu⟩
theorem rickyardlaw17_alive.calls (k : Nat) (r : Bool) (w : World) (h : rickyardlaw17_alive.f k = some r) :
    Calls Try.prog 9 #[] w fun e w' => e = .returned (.bool r) ∧ Below w.heap.size w w' := by
  have hr : r = true := by
    unfold rickyardlaw17_alive.f at h
    split at h
    · exact (Option.some.inj h).symm
    · cases h
  subst hr; clear h
  go_enter Try.func9, Try.ntmps9
  go_upto_region 2 with (first
    | (go_at_call 20; refine (rickyardlaw15_Rules.calls aliveG 100 _ rfl).mono ?_; rintro e w1 ⟨v0, rfl, hr, hb⟩; obtain ⟨Ag, cg, hv⟩ := Kd.R_slice hr; subst hv; have HR1 := Lib.hid hr; have HB1 := Lib.hid hb; clear hr hb))
  have HX1 := Lib.hid (blk_new w1 (.cells #[.slice Ag aliveG.length cg, .int .i64 100] 24))
  have HG1 := Lib.hid (Kd.C_alloc (Kd.R_reads' HR1.out).2.2 (.cells #[.slice Ag aliveG.length cg, .int .i64 100] 24))
  have HGC := Lib.hid (Kd.R_reads' HR1.out).2.1
  have HW1 : Hid (Below w.heap.size w (w1.alloc (.cells #[.slice Ag aliveG.length cg, .int .i64 100] 24))) := Lib.hid (HB1.out.alloc HB1.out.size _)
  obtain ⟨g1, hg1⟩ : ∃ g1, g1 = w1.heap.size := ⟨_, rfl⟩
  rw [← hg1] at HX1
  rw [← hg1]
  obtain ⟨w2, hw2⟩ : ∃ w2, w2 = w1.alloc (.cells #[.slice Ag aliveG.length cg, .int .i64 100] 24) := ⟨_, rfl⟩
  rw [← hw2] at HX1 HG1 HW1
  rw [← hw2]
  clear hw2 hg1 HR1 HB1
  have hx0 := (blk_cell HX1.out 0).trans (show _ = some (Value.slice Ag aliveG.length cg) from rfl)
  have hx1 := (blk_cell HX1.out 1).trans (show _ = some (Value.int .i64 100) from rfl)
  have hA := blk_alloc (blk_alloc (blk_new w2 (.cells #[.string ⟨#[97]⟩, .string ⟨#[120]⟩] 9)) (.cells #[.string ⟨#[97]⟩, .string ⟨#[121]⟩] 9)) (.cells #[.slice (some ⟨w2.heap.size, 0, none⟩) 2 2, .int .i64 5, .int .i64 1, .slice (some ⟨w2.heap.size + 1, 0, none⟩) 2 2, .int .i64 6, .int .i64 2] 63)
  have hB : ((w2.alloc (.cells #[.string ⟨#[97]⟩, .string ⟨#[120]⟩] 9)).alloc (.cells #[.string ⟨#[97]⟩, .string ⟨#[121]⟩] 9)).heap[w2.heap.size + 1]? = some (.cells #[.string ⟨#[97]⟩, .string ⟨#[121]⟩] 9 (0, 0)) := by have := blk_new (w2.alloc (.cells #[.string ⟨#[97]⟩, .string ⟨#[120]⟩] 9)) (.cells #[.string ⟨#[97]⟩, .string ⟨#[121]⟩] 9); simpa using this
  have hB' := blk_alloc hB (.cells #[.slice (some ⟨w2.heap.size, 0, none⟩) 2 2, .int .i64 5, .int .i64 1, .slice (some ⟨w2.heap.size + 1, 0, none⟩) 2 2, .int .i64 6, .int .i64 2] 63)
  have hC : (((w2.alloc (.cells #[.string ⟨#[97]⟩, .string ⟨#[120]⟩] 9)).alloc (.cells #[.string ⟨#[97]⟩, .string ⟨#[121]⟩] 9)).alloc (.cells #[.slice (some ⟨w2.heap.size, 0, none⟩) 2 2, .int .i64 5, .int .i64 1, .slice (some ⟨w2.heap.size + 1, 0, none⟩) 2 2, .int .i64 6, .int .i64 2] 63)).heap[w2.heap.size + 1 + 1]? = some (.cells #[.slice (some ⟨w2.heap.size, 0, none⟩) 2 2, .int .i64 5, .int .i64 1, .slice (some ⟨w2.heap.size + 1, 0, none⟩) 2 2, .int .i64 6, .int .i64 2] 63 (0, 0)) := by have := blk_new ((w2.alloc (.cells #[.string ⟨#[97]⟩, .string ⟨#[120]⟩] 9)).alloc (.cells #[.string ⟨#[97]⟩, .string ⟨#[121]⟩] 9)) (.cells #[.slice (some ⟨w2.heap.size, 0, none⟩) 2 2, .int .i64 5, .int .i64 1, .slice (some ⟨w2.heap.size + 1, 0, none⟩) 2 2, .int .i64 6, .int .i64 2] 63); simpa using this
  have HLI := Lib.hid (alive_lits hA hB' hC)
  have HWB : Hid (Below w2.heap.size w2 (((w2.alloc (.cells #[.string ⟨#[97]⟩, .string ⟨#[120]⟩] 9)).alloc (.cells #[.string ⟨#[97]⟩, .string ⟨#[121]⟩] 9)).alloc (.cells #[.slice (some ⟨w2.heap.size, 0, none⟩) 2 2, .int .i64 5, .int .i64 1, .slice (some ⟨w2.heap.size + 1, 0, none⟩) 2 2, .int .i64 6, .int .i64 2] 63))) := Lib.hid ((((Below.refl _ _).alloc (Nat.le_refl _) (.cells #[.string ⟨#[97]⟩, .string ⟨#[120]⟩] 9)).alloc (by simp) (.cells #[.string ⟨#[97]⟩, .string ⟨#[121]⟩] 9)).alloc (by simp; omega) (.cells #[.slice (some ⟨w2.heap.size, 0, none⟩) 2 2, .int .i64 5, .int .i64 1, .slice (some ⟨w2.heap.size + 1, 0, none⟩) 2 2, .int .i64 6, .int .i64 2] 63))
  clear hA hB hB' hC
  have HCE : Hid (Calls Try.prog 21 #[.agg #[.slice Ag aliveG.length cg, .int .i64 100], .slice (some ⟨w2.heap.size + 1 + 1, 0, none⟩) 2 2] (((w2.alloc (.cells #[.string ⟨#[97]⟩, .string ⟨#[120]⟩] 9)).alloc (.cells #[.string ⟨#[97]⟩, .string ⟨#[121]⟩] 9)).alloc (.cells #[.slice (some ⟨w2.heap.size, 0, none⟩) 2 2, .int .i64 5, .int .i64 1, .slice (some ⟨w2.heap.size + 1, 0, none⟩) 2 2, .int .i64 6, .int .i64 2] 63)) fun e w' => ∃ v0_ : Value, e = .returned (v0_) ∧ Kd.N k60 60 w' (((w2.alloc (.cells #[.string ⟨#[97]⟩, .string ⟨#[120]⟩] 9)).alloc (.cells #[.string ⟨#[97]⟩, .string ⟨#[121]⟩] 9)).alloc (.cells #[.slice (some ⟨w2.heap.size, 0, none⟩) 2 2, .int .i64 5, .int .i64 1, .slice (some ⟨w2.heap.size + 1, 0, none⟩) 2 2, .int .i64 6, .int .i64 2] 63)).heap.size (fun k_ => ((((w2.alloc (.cells #[.string ⟨#[97]⟩, .string ⟨#[120]⟩] 9)).alloc (.cells #[.string ⟨#[97]⟩, .string ⟨#[121]⟩] 9)).alloc (.cells #[.slice (some ⟨w2.heap.size, 0, none⟩) 2 2, .int .i64 5, .int .i64 1, .slice (some ⟨w2.heap.size + 1, 0, none⟩) 2 2, .int .i64 6, .int .i64 2] 63)).heap.size ≤ k_)) v0_ aliveE ∧ Below (((w2.alloc (.cells #[.string ⟨#[97]⟩, .string ⟨#[120]⟩] 9)).alloc (.cells #[.string ⟨#[97]⟩, .string ⟨#[121]⟩] 9)).alloc (.cells #[.slice (some ⟨w2.heap.size, 0, none⟩) 2 2, .int .i64 5, .int .i64 1, .slice (some ⟨w2.heap.size + 1, 0, none⟩) 2 2, .int .i64 6, .int .i64 2] 63)).heap.size (((w2.alloc (.cells #[.string ⟨#[97]⟩, .string ⟨#[120]⟩] 9)).alloc (.cells #[.string ⟨#[97]⟩, .string ⟨#[121]⟩] 9)).alloc (.cells #[.slice (some ⟨w2.heap.size, 0, none⟩) 2 2, .int .i64 5, .int .i64 1, .slice (some ⟨w2.heap.size + 1, 0, none⟩) 2 2, .int .i64 6, .int .i64 2] 63)) w') := Lib.hid (rickyardref15_Entries.calls 64 Ag cg aliveG 100 _ 2 aliveL aliveE _ (Kd.C_below HG1.out HWB.out) HGC.out HLI.out (Nat.le_refl 2) alive_entries)
  go_upto_region 3 with (go_at_call 21; go_loud (with_reducible refine HCE.out.mono ?_); rintro e w3 ⟨v3, rfl, hr, hb⟩; obtain ⟨Ae, ce, hv⟩ := Kd.N_slice hr; subst hv; have HR3 := Lib.hid (Kd.N_reads' hr); have HB3 := Lib.hid (below_step HWB.out hb); clear hr hb)
  have HW3 := Lib.hid (below_step HW1.out HB3.out)
  have HX3 := Lib.hid (blk_below HX1.out HB3.out)
  have HG3 := Lib.hid (Kd.C_below HG1.out HB3.out)
  clear HCE HWB HLI hx0 hx1 HB3 HW1 HX1 HG1
  have hx0 := (blk_cell HX3.out 0).trans (show _ = some (Value.slice Ag aliveG.length cg) from rfl)
  have hx1 := (blk_cell HX3.out 1).trans (show _ = some (Value.int .i64 100) from rfl)
  go_upto_region 4 with (go_at_call 13; go_loud (with_reducible refine (ask_Rollup.calls 64 Ag cg aliveG 100 0 Ae ce aliveE 1 0 100 _ _ w3 HG3.out HGC.out HR3.out.2.2 HR3.out.2.1 alive_roll).mono ?_); rintro e w4 ⟨v4, rfl, hr, hb⟩; obtain ⟨A4, c4, hv⟩ := Kd.R_slice hr; subst hv; have HR4 := Lib.hid hr; have HB4 := Lib.hid hb; clear hr hb)
  have HW4 := Lib.hid (below_step HW3.out HB4.out)
  have HX4 := Lib.hid (blk_below HX3.out HB4.out)
  have HG4 := Lib.hid (Kd.C_below HG3.out HB4.out)
  have HE4 := Lib.hid (Kd.C_below HR3.out.2.2 HB4.out)
  have HEC := Lib.hid HR3.out.2.1
  clear hx0 hx1 HB4 HW3 HX3 HG3 HR3
  have hx0 := (blk_cell HX4.out 0).trans (show _ = some (Value.slice Ag aliveG.length cg) from rfl)
  have hx1 := (blk_cell HX4.out 1).trans (show _ = some (Value.int .i64 100) from rfl)
  have HNX := Lib.hid (strs_two (blk_new w4 (.cells #[.string ⟨#[97]⟩, .string ⟨#[121]⟩] 9)))
  have HB5 : Hid (Below w4.heap.size w4 (w4.alloc (.cells #[.string ⟨#[97]⟩, .string ⟨#[121]⟩] 9))) := Lib.hid ((Below.refl _ _).alloc (Nat.le_refl _) _)
  have HGT : Hid (Calls Try.prog 17 #[.agg #[.slice Ag aliveG.length cg, .int .i64 100], .int .i64 0, .slice Ae aliveE.length ce, .slice (some ⟨w4.heap.size, 0, none⟩) 2 2, .int .i64 6] (w4.alloc (.cells #[.string ⟨#[97]⟩, .string ⟨#[121]⟩] 9)) fun e w' => ∃ v0_ : Value, e = .returned (.tuple #[.agg #[v0_, .int .i64 6, .int .i64 1, .int .u64 1, .bool false, .int .i64 0, .int .u64 2, .int .i64 2, .int .i64 2], .bool true, .int .i64 0]) ∧ Kd.R Kd.string 9 w' (w4.alloc (.cells #[.string ⟨#[97]⟩, .string ⟨#[121]⟩] 9)).heap.size (fun _ => True) v0_ [⟨#[97]⟩, ⟨#[121]⟩] ∧ Below (w4.alloc (.cells #[.string ⟨#[97]⟩, .string ⟨#[121]⟩] 9)).heap.size (w4.alloc (.cells #[.string ⟨#[97]⟩, .string ⟨#[121]⟩] 9)) w') := Lib.hid (ask_Get.calls 64 Ag cg aliveG 100 0 Ae ce aliveE (some ⟨w4.heap.size, 0, none⟩) 2 [⟨#[97]⟩, ⟨#[121]⟩] 6 _ _ _ _ _ _ _ _ _ _ _ _ (Kd.C_below HG4.out HB5.out) HGC.out (Kd.C_below HE4.out HB5.out) HEC.out HNX.out (Nat.le_refl 2) alive_get)
  go_upto_region 5 with (go_at_call 17; go_loud (with_reducible refine HGT.out.mono ?_); rintro e w5 ⟨v5, rfl, hr, hb⟩; obtain ⟨A5, c5, hv⟩ := Kd.R_slice hr; replace hv : v5 = .slice A5 2 c5 := hv; subst hv; have HB6 := Lib.hid (below_step HB5.out hb); clear hr hb)
  clear HGT
  have HX6 := Lib.hid (blk_new w5 (.cells #[.slice A5 2 c5, .int .i64 6, .int .i64 1, .int .u64 1, .bool false, .int .i64 0, .int .u64 2, .int .i64 2, .int .i64 2] 44))
  have HR6 := Lib.hid (Kd.R_alloc (Kd.R_below HR4.out HB6.out) (.cells #[.slice A5 2 c5, .int .i64 6, .int .i64 1, .int .u64 1, .bool false, .int .i64 0, .int .u64 2, .int .i64 2, .int .i64 2] 44))
  have HW6 : Hid (Below w.heap.size w (w5.alloc (.cells #[.slice A5 2 c5, .int .i64 6, .int .i64 1, .int .u64 1, .bool false, .int .i64 0, .int .u64 2, .int .i64 2, .int .i64 2] 44))) := Lib.hid (by have h1 := below_step HW4.out HB6.out; exact h1.alloc h1.size _)
  obtain ⟨g6, hg6⟩ : ∃ g6, g6 = w5.heap.size := ⟨_, rfl⟩
  rw [← hg6] at HX6
  rw [← hg6]
  obtain ⟨w6, hw6⟩ : ∃ w6, w6 = w5.alloc (.cells #[.slice A5 2 c5, .int .i64 6, .int .i64 1, .int .u64 1, .bool false, .int .i64 0, .int .u64 2, .int .i64 2, .int .i64 2] 44) := ⟨_, rfl⟩
  rw [← hw6] at HX6 HR6 HW6
  rw [← hw6]
  clear hw6 hg6 hx0 hx1 HB6 HB5 HW4 HX4 HG4 HE4 HEC HR4
  obtain ⟨ad, A7, c7, ha, _, hy0, hy1, hy2, hy3, hy4, hy5, hy6, hy7, hy8⟩ := row_at HR6.out rfl 0 (by decide) (by decide)
  subst ha
  have hs0 : ∀ a : Addr, a.add 0 = a := fun a => by simp [Addr.add]
  simp only [Int.toNat_zero, Nat.zero_mul, hs0] at hy0 hy3
  replace hy0 := hy0.trans (show _ = some (Value.slice A7 1 c7) from rfl)
  replace hy3 := hy3.trans (show _ = some (Value.int .u64 2) from rfl)
  have hz8 := (blk_cell HX6.out 8).trans (show _ = some (Value.int .i64 2) from rfl)
  clear hy1 hy2 hy4 hy5 hy6 hy7 hy8 hs0
  go_wp2
  go_ret
  exact ⟨by rfl, HW6.out⟩
end Go.Proofs.Ytdopbhbbpgfliaa.PAsk
end
