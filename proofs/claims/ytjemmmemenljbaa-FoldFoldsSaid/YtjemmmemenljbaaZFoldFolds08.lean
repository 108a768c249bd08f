import Derived.Test.YtjemmmemenljbaaZFoldFolds05
import Derived.Test.YtjemmmemenljbaaZFoldFolds06
import Derived.Lib.Hide
import Derived.Outline
import Derived.Laws.Externs
section
namespace Go.Proofs.Ytjemmmemenljbaa.PFold
open Go.RowKit Go.Proofs.YtjemmmemenljbaaW.PrintWords Go.Proofs.YtjemmmemenljbaaW.PrintLast Go.Proofs.YtjemmmemenljbaaW.PrintMore
attribute [local go_sem] max2_int min2_int max_two min_two max_three min_three max_four min_four   -- for this text's walks alone
set_option linter.unusedVariables false
set_option linter.unusedSimpArgs false
set_option maxHeartbeats 8000000
set_option maxRecDepth 100000
def rickyardref03_May.f (k : Nat) (l0_0 : List (S67)) (a0_1 : Int) (a1 : Int) (a2 : Int) : Option (Int) := (rickyardref03_Right.f k l0_0 a0_1).bind fun t347 => (if t347 = true then ((rickyardref03_Time.f a1).bind fun t348 => (if t348 = true then ((rickyardref03_Time.f a2).bind fun t349 => (if t349 = true then (some 0) else (some 1))) else (some 1))) else (some 30))
theorem rickyardref03_May.calls (k : Nat) (A0_0 : Option Addr) (c0_0 : Nat) (l0_0 : List (S67)) (a0_1 : Int) (a1 : Int) (a2 : Int) (r : Int) (w : World) (hr0_0 : Kd.C k67 w A0_0 l0_0.length l0_0) (hc0_0 : l0_0.length ≤ c0_0) (h : rickyardref03_May.f k l0_0 a0_1 a1 a2 = some r) :
  Calls Try.prog 96 #[.agg #[.slice A0_0 l0_0.length c0_0, .int .i64 a0_1], .int .i64 a1, .int .i64 a2] w fun e w' => e = .returned (.int .i64 r) ∧ Below w.heap.size w w' := by
 have hu24 := Try.underlying24
 have HR0_0 := Aside0.mk hr0_0
 have HC0_0 := Aside0.mk hc0_0
 clear hr0_0 hc0_0
 have HB := Aside0.mk (Below.refl w.heap.size w)
 have H : ((rickyardref03_Right.f k l0_0 a0_1).bind fun t347 => (if t347 = true then ((rickyardref03_Time.f a1).bind fun t348 => (if t348 = true then ((rickyardref03_Time.f a2).bind fun t349 => (if t349 = true then (some 0) else (some 1))) else (some 1))) else (some 30))) = some r := h
 clear h
 replace H := bnA H
 obtain ⟨t347, A4, H⟩ := H
 by_cases c5 : t347 = true
 rotate_left
 ·replace c5 := Bool.eq_false_iff.mpr c5
  subst c5
  have H1 : (some 30) = some r := by rw [if_neg (show ¬ (false = true) by decide)] at H; exact H
  clear H
  have H := H1
  clear H1
  obtain rfl := Option.some.inj H
  go_enter Try.func96, Try.ntmps96
  go_wp2_with (first | ((with_reducible refine gate_dst (N := 3) rfl ?_); refine boxA 3 #[.slice A0_0 l0_0.length c0_0, .int .i64 a0_1] 24 ?_; intro gb346 hg w19 hbox hb; have BK346 := Aside0.mk (hbox); have GE346 := ge1 hg (belA HB.out); replace HB := bst HB hb; clear hb hbox hg; obtain ⟨hcz20_0, hcz20_1, hfz20_0, hfz20_1⟩ := blk2 BK346) | ((with_reducible refine gate_callee (f := 56) rfl ?_); refine goesL_ (some 8) rfl rfl Try.func56 (by kernel_rfl) rfl #[.agg #[.slice A0_0 l0_0.length c0_0, .int .i64 a0_1]] rfl argA ?_; (with_reducible refine (rickyardref03_Right.calls k _ _ l0_0 a0_1 false _ ?side1 ?side2 A4.out).mono ?_); (case side1 => exact cb1 HR0_0 HB); (case side2 => exact HC0_0.out); rintro e w21 ⟨rfl, hb⟩; refine ⟨_, rfl, ?_⟩; replace BK346 := blkB BK346 hb; replace HB := bs2 HB GE346 hb; (try clear hb)))
  go_ret
  exact ⟨ret1, belB HB.out GE346.out⟩
 subst c5
 have H1 : ((rickyardref03_Time.f a1).bind fun t348 => (if t348 = true then ((rickyardref03_Time.f a2).bind fun t349 => (if t349 = true then (some 0) else (some 1))) else (some 1))) = some r := by rw [if_pos rfl] at H; exact H
 clear H
 have H := H1
 clear H1
 replace H := bnA H
 obtain ⟨t348, A6, H⟩ := H
 by_cases c7 : t348 = true
 rotate_left
 ·replace c7 := Bool.eq_false_iff.mpr c7
  subst c7
  have H1 : (some 1) = some r := by rw [if_neg (show ¬ (false = true) by decide)] at H; exact H
  clear H
  have H := H1
  clear H1
  obtain rfl := Option.some.inj H
  go_enter Try.func96, Try.ntmps96
  go_wp2_with (first | ((with_reducible refine gate_dst (N := 3) rfl ?_); refine boxA 3 #[.slice A0_0 l0_0.length c0_0, .int .i64 a0_1] 24 ?_; intro gb346 hg w16 hbox hb; have BK346 := Aside0.mk (hbox); have GE346 := ge1 hg (belA HB.out); replace HB := bst HB hb; clear hb hbox hg; obtain ⟨hcz17_0, hcz17_1, hfz17_0, hfz17_1⟩ := blk2 BK346) | ((with_reducible refine gate_callee (f := 56) rfl ?_); refine goesL_ (some 8) rfl rfl Try.func56 (by kernel_rfl) rfl #[.agg #[.slice A0_0 l0_0.length c0_0, .int .i64 a0_1]] rfl argA ?_; (with_reducible refine (rickyardref03_Right.calls k _ _ l0_0 a0_1 true _ ?side1 ?side2 A4.out).mono ?_); (case side1 => exact cb1 HR0_0 HB); (case side2 => exact HC0_0.out); rintro e w18 ⟨rfl, hb⟩; refine ⟨_, rfl, ?_⟩; replace BK346 := blkB BK346 hb; replace HB := bs2 HB GE346 hb; (try clear hb)) | ((with_reducible refine gate_callee (f := 68) rfl ?_); refine goesL_ (some 11) rfl rfl Try.func68 (by kernel_rfl) rfl #[.int .i64 a1] rfl argA ?_; (with_reducible refine (rickyardref03_Time.calls a1 false _ A6.out).mono ?_); rintro e w' ⟨rfl, ⟨nd, rfl⟩⟩; refine ⟨_, rfl, ?_⟩))
  go_ret
  exact ⟨ret1, belB HB.out GE346.out⟩
 subst c7
 have H1 : ((rickyardref03_Time.f a2).bind fun t349 => (if t349 = true then (some 0) else (some 1))) = some r := by rw [if_pos rfl] at H; exact H
 clear H
 have H := H1
 clear H1
 replace H := bnA H
 obtain ⟨t349, A8, H⟩ := H
 by_cases c9 : t349 = true
 ·subst c9
  have H1 : (some 0) = some r := by rw [if_pos rfl] at H; exact H
  clear H
  have H := H1
  clear H1
  obtain rfl := Option.some.inj H
  go_enter Try.func96, Try.ntmps96
  go_wp2_with (first | ((with_reducible refine gate_dst (N := 3) rfl ?_); refine boxA 3 #[.slice A0_0 l0_0.length c0_0, .int .i64 a0_1] 24 ?_; intro gb346 hg w10 hbox hb; have BK346 := Aside0.mk (hbox); have GE346 := ge1 hg (belA HB.out); replace HB := bst HB hb; clear hb hbox hg; obtain ⟨hcz11_0, hcz11_1, hfz11_0, hfz11_1⟩ := blk2 BK346) | ((with_reducible refine gate_callee (f := 56) rfl ?_); refine goesL_ (some 8) rfl rfl Try.func56 (by kernel_rfl) rfl #[.agg #[.slice A0_0 l0_0.length c0_0, .int .i64 a0_1]] rfl argA ?_; (with_reducible refine (rickyardref03_Right.calls k _ _ l0_0 a0_1 true _ ?side1 ?side2 A4.out).mono ?_); (case side1 => exact cb1 HR0_0 HB); (case side2 => exact HC0_0.out); rintro e w12 ⟨rfl, hb⟩; refine ⟨_, rfl, ?_⟩; replace BK346 := blkB BK346 hb; replace HB := bs2 HB GE346 hb; (try clear hb)) | ((with_reducible refine gate_callee (f := 68) rfl ?_); refine goesL_ (some 11) rfl rfl Try.func68 (by kernel_rfl) rfl #[.int .i64 a1] rfl argA ?_; (with_reducible refine (rickyardref03_Time.calls a1 true _ A6.out).mono ?_); rintro e w' ⟨rfl, ⟨nd, rfl⟩⟩; refine ⟨_, rfl, ?_⟩) | (go_at_call 68; (with_reducible refine (rickyardref03_Time.calls a2 true _ A8.out).mono ?_); rintro e w' ⟨rfl, ⟨nd, rfl⟩⟩))
  go_ret
  exact ⟨ret1, belB HB.out GE346.out⟩
 replace c9 := Bool.eq_false_iff.mpr c9
 subst c9
 have H1 : (some 1) = some r := by rw [if_neg (show ¬ (false = true) by decide)] at H; exact H
 clear H
 have H := H1
 clear H1
 obtain rfl := Option.some.inj H
 go_enter Try.func96, Try.ntmps96
 go_wp2_with (first | ((with_reducible refine gate_dst (N := 3) rfl ?_); refine boxA 3 #[.slice A0_0 l0_0.length c0_0, .int .i64 a0_1] 24 ?_; intro gb346 hg w13 hbox hb; have BK346 := Aside0.mk (hbox); have GE346 := ge1 hg (belA HB.out); replace HB := bst HB hb; clear hb hbox hg; obtain ⟨hcz14_0, hcz14_1, hfz14_0, hfz14_1⟩ := blk2 BK346) | ((with_reducible refine gate_callee (f := 56) rfl ?_); refine goesL_ (some 8) rfl rfl Try.func56 (by kernel_rfl) rfl #[.agg #[.slice A0_0 l0_0.length c0_0, .int .i64 a0_1]] rfl argA ?_; (with_reducible refine (rickyardref03_Right.calls k _ _ l0_0 a0_1 true _ ?side1 ?side2 A4.out).mono ?_); (case side1 => exact cb1 HR0_0 HB); (case side2 => exact HC0_0.out); rintro e w15 ⟨rfl, hb⟩; refine ⟨_, rfl, ?_⟩; replace BK346 := blkB BK346 hb; replace HB := bs2 HB GE346 hb; (try clear hb)) | ((with_reducible refine gate_callee (f := 68) rfl ?_); refine goesL_ (some 11) rfl rfl Try.func68 (by kernel_rfl) rfl #[.int .i64 a1] rfl argA ?_; (with_reducible refine (rickyardref03_Time.calls a1 true _ A6.out).mono ?_); rintro e w' ⟨rfl, ⟨nd, rfl⟩⟩; refine ⟨_, rfl, ?_⟩) | (go_at_call 68; (with_reducible refine (rickyardref03_Time.calls a2 false _ A8.out).mono ?_); rintro e w' ⟨rfl, ⟨nd, rfl⟩⟩))
 go_ret
 exact ⟨ret1, belB HB.out GE346.out⟩
def rickyardref03_Expired.f (k : Nat) (l0_0 : List (S67)) (a0_1 : Int) (a1 : Int) (a2 : Int) : Option (Bool × Int) := (rickyardref03_May.f k l0_0 a0_1 a1 a2).bind fun t351 => (if t351 = 0 then (if 0 ≤ (wrap64 ((l0_0.length : Int) - 1)) then (if (wrap64 ((l0_0.length : Int) - 1)) < (l0_0.length : Int) then ((rickyardref03_Floor.f a1 ((rd_T67 l0_0 (wrap64 ((l0_0.length : Int) - 1))).f0)).bind fun bt353 => (some (decide ((wrap64 ((wrap64 (bt353.1 + ((rd_T67 l0_0 (wrap64 ((l0_0.length : Int) - 1))).f0))) + a0_1)) ≤ a2), t351))) else (none)) else (none)) else (some (false, t351)))
theorem rickyardref03_Expired.calls (k : Nat) (A0_0 : Option Addr) (c0_0 : Nat) (l0_0 : List (S67)) (a0_1 : Int) (a1 : Int) (a2 : Int) (r1 : Bool) (r2 : Int) (w : World) (hr0_0 : Kd.C k67 w A0_0 l0_0.length l0_0) (hc0_0 : l0_0.length ≤ c0_0) (h : rickyardref03_Expired.f k l0_0 a0_1 a1 a2 = some (r1, r2)) :
  Calls Try.prog 75 #[.agg #[.slice A0_0 l0_0.length c0_0, .int .i64 a0_1], .int .i64 a1, .int .i64 a2] w fun e w' => e = .returned (.tuple #[.bool r1, .int .i64 r2]) ∧ Below w.heap.size w w' := by
 have hu24 := Try.underlying24
 have HR0_0 := Aside0.mk hr0_0
 have HC0_0 := Aside0.mk hc0_0
 clear hr0_0 hc0_0
 have HB := Aside0.mk (Below.refl w.heap.size w)
 have H : ((rickyardref03_May.f k l0_0 a0_1 a1 a2).bind fun t351 => (if t351 = 0 then (if 0 ≤ (wrap64 ((l0_0.length : Int) - 1)) then (if (wrap64 ((l0_0.length : Int) - 1)) < (l0_0.length : Int) then ((rickyardref03_Floor.f a1 ((rd_T67 l0_0 (wrap64 ((l0_0.length : Int) - 1))).f0)).bind fun bt353 => (some (decide ((wrap64 ((wrap64 (bt353.1 + ((rd_T67 l0_0 (wrap64 ((l0_0.length : Int) - 1))).f0))) + a0_1)) ≤ a2), t351))) else (none)) else (none)) else (some (false, t351)))) = some (r1, r2) := h
 clear h
 replace H := bnA H
 obtain ⟨t351, A4, H⟩ := H
 by_cases c5 : t351 = 0
 rotate_left
 ·rw [if_neg c5] at H
  have c5b0 := beq_eq_false_iff_ne.mpr c5
  have c5b1 := bne_iff_ne.mpr c5
  simp only [Option.some.injEq, Prod.mk.injEq] at H
  obtain ⟨rfl, rfl⟩ := H
  go_enter Try.func75, Try.ntmps75
  go_wp2_with (first | ((with_reducible refine gate_dst (N := 3) rfl ?_); refine boxA 3 #[.slice A0_0 l0_0.length c0_0, .int .i64 a0_1] 24 ?_; intro gb350 hg w14 hbox hb; have BK350 := Aside0.mk (hbox); have GE350 := ge1 hg (belA HB.out); replace HB := bst HB hb; clear hb hbox hg; obtain ⟨hcz15_0, hcz15_1, hfz15_0, hfz15_1⟩ := blk2 BK350) | ((with_reducible refine gate_callee (f := 96) rfl ?_); refine goesL_ (some 15) rfl rfl Try.func96 (by kernel_rfl) rfl #[.agg #[.slice A0_0 l0_0.length c0_0, .int .i64 a0_1], .int .i64 a1, .int .i64 a2] rfl argA ?_; (with_reducible refine (rickyardref03_May.calls k _ _ l0_0 a0_1 a1 a2 t351 _ ?side1 ?side2 A4.out).mono ?_); (case side1 => exact cb1 HR0_0 HB); (case side2 => exact HC0_0.out); rintro e w16 ⟨rfl, hb⟩; refine ⟨_, rfl, ?_⟩; replace BK350 := blkB BK350 hb; replace HB := bs2 HB GE350 hb; (try clear hb)))
  go_ret2
  exact ⟨ret1, belB HB.out GE350.out⟩
 rw [if_pos c5] at H
 have c5b0 := beq_iff_eq.mpr c5
 have c5b1 := bne_eq_false_iff_eq.mpr c5
 clear c5
 obtain ⟨ji6, hji6⟩ : ∃ j_ : Int, (wrap64 ((l0_0.length : Int) - 1)) = j_ := ⟨_, rfl⟩
 replace H : (if 0 ≤ (ji6) then (if (ji6) < (l0_0.length : Int) then ((rickyardref03_Floor.f a1 ((rd_T67 l0_0 (ji6)).f0)).bind fun bt353 => (some (decide ((wrap64 ((wrap64 (bt353.1 + ((rd_T67 l0_0 (ji6)).f0))) + a0_1)) ≤ a2), t351))) else (none)) else (none)) = some (r1, r2) := by first | (rw [hji6] at H; exact H) | (simp only [hji6] at H ⊢; exact H)
 (try rw [hji6] at A4)
 have hji6w : (IntKind.i64.wrap ((l0_0.length : Int) - 1)) = ji6 := (i64_w _).trans hji6
 replace H := ifN H
 obtain ⟨c7, H⟩ := H
 have c7b0 := decide_eq_true c7
 clear c7
 replace H := ifN H
 obtain ⟨c8, H⟩ := H
 have c8b0 := decide_eq_true c8
 clear c8
 replace H := bnA H
 obtain ⟨⟨t353, t354⟩, A9, H⟩ := H
 replace H : (some (decide ((wrap64 ((wrap64 (t353 + ((rd_T67 l0_0 (ji6)).f0))) + a0_1)) ≤ a2), t351)) = some (r1, r2) := H
 simp only [Option.some.injEq, Prod.mk.injEq] at H
 obtain ⟨rfl, rfl⟩ := H
 go_enter Try.func75, Try.ntmps75
 go_wp2_with (first | ((with_reducible refine gate_dst (N := 3) rfl ?_); refine boxA 3 #[.slice A0_0 l0_0.length c0_0, .int .i64 a0_1] 24 ?_; intro gb350 hg w10 hbox hb; have BK350 := Aside0.mk (hbox); have GE350 := ge1 hg (belA HB.out); replace HB := bst HB hb; clear hb hbox hg; obtain ⟨hcz11_0, hcz11_1, hfz11_0, hfz11_1⟩ := blk2 BK350) | ((with_reducible refine gate_callee (f := 96) rfl ?_); refine goesL_ (some 15) rfl rfl Try.func96 (by kernel_rfl) rfl #[.agg #[.slice A0_0 l0_0.length c0_0, .int .i64 a0_1], .int .i64 a1, .int .i64 a2] rfl argA ?_; (with_reducible refine (rickyardref03_May.calls k _ _ l0_0 a0_1 a1 a2 t351 _ ?side1 ?side2 A4.out).mono ?_); (case side1 => exact cb1 HR0_0 HB); (case side2 => exact HC0_0.out); rintro e w12 ⟨rfl, hb⟩; refine ⟨_, rfl, ?_⟩; replace BK350 := blkB BK350 hb; replace HB := bs2 HB GE350 hb; (try clear hb); obtain ⟨hcz13_0, hcz13_1, hfz13_0, hfz13_1⟩ := blk2 BK350; have p352 : 0 ≤ ((ji6) : Int) := of_decide_eq_true asmA; have q352 : (ji6) < (l0_0.length : Int) := of_decide_eq_true asmA; obtain ⟨ad352, e352, hx352_0, hx352_1⟩ := at_T67 HR0_0.out (ji6) p352 q352; cases e352; replace hx352_0 := cbx HB hx352_0; replace hx352_1 := cbx HB hx352_1; replace p352 := eq_true p352; replace q352 := eq_true q352) | ((with_reducible refine gate_callee (f := 57) rfl ?_); refine goesL_ (some 31) rfl rfl Try.func57 (by kernel_rfl) rfl #[.int .i64 a1, .int .i64 ((rd_T67 l0_0 (ji6)).f0)] rfl (by (try simp only [List.map_toArray, List.map_cons, List.map_nil]); first | done | (simp only [hji6]; rfl) | rfl | (simp only [List.length_drop, List.length_take]; rfl)) ?_; (with_reducible refine (rickyardref03_Floor.calls a1 ((rd_T67 l0_0 (ji6)).f0) t353 t354 _ A9.out).mono ?_); rintro e w' ⟨rfl, ⟨nd, rfl⟩⟩; refine ⟨_, rfl, ?_⟩))
 go_ret2
 exact ⟨by first | rfl | (simp [errW_none, errW_some] <;> rfl) | (simp only [← hji6]; first | rfl | (simp [errW_none, errW_some] <;> rfl)) | (simp [*, errW_none, errW_some] <;> rfl) | (exfalso; simp_all; done), belB HB.out GE350.out⟩
def rickyardref03_Step.l0 : Nat → Int → Int → Int → Int → List (S67) → Int → Option (Int × Int)
 | 0, _, _, _, _, _, _ => none
 | k + 1, x1, x2, x8, x9, x356000, x356001 => if x9 > 0 then (if 0 ≤ x9 then (if x9 < (x356000.length : Int) then ((rickyardref03_Floor.f x1 ((rd_T67 x356000 x9).f0)).bind fun bt358 => (if (wrap64 ((wrap64 (bt358.1 + ((rd_T67 x356000 x9).f0))) + ((rd_T67 x356000 x9).f1))) ≤ x2 then (some (x9, x8)) else (rickyardref03_Step.l0 k x1 x2 x8 (wrap64 (x9 - 1)) x356000 x356001))) else (none)) else (none)) else (some (0, x8))
def rickyardref03_Step.f (k : Nat) (l0_0 : List (S67)) (a0_1 : Int) (a1 : Int) (a2 : Int) : Option (Int × Int) := (rickyardref03_May.f k l0_0 a0_1 a1 a2).bind fun t356 => (if t356 = 0 then (rickyardref03_Step.l0 k a1 a2 t356 (wrap64 ((l0_0.length : Int) - 1)) l0_0 a0_1) else (some (0, t356)))
theorem rickyardref03_Step.calls (k : Nat) (A0_0 : Option Addr) (c0_0 : Nat) (l0_0 : List (S67)) (a0_1 : Int) (a1 : Int) (a2 : Int) (r1 : Int) (r2 : Int) (w : World) (hr0_0 : Kd.C k67 w A0_0 l0_0.length l0_0) (hc0_0 : l0_0.length ≤ c0_0) (h : rickyardref03_Step.f k l0_0 a0_1 a1 a2 = some (r1, r2)) :
  Calls Try.prog 76 #[.agg #[.slice A0_0 l0_0.length c0_0, .int .i64 a0_1], .int .i64 a1, .int .i64 a2] w fun e w' => e = .returned (.tuple #[.int .i64 r1, .int .i64 r2]) ∧ Below w.heap.size w w' := by
 have hu24 := Try.underlying24
 have HR0_0 := Aside0.mk hr0_0
 have HC0_0 := Aside0.mk hc0_0
 clear hr0_0 hc0_0
 have HB := Aside0.mk (Below.refl w.heap.size w)
 have H : ((rickyardref03_May.f k l0_0 a0_1 a1 a2).bind fun t356 => (if t356 = 0 then (rickyardref03_Step.l0 k a1 a2 t356 (wrap64 ((l0_0.length : Int) - 1)) l0_0 a0_1) else (some (0, t356)))) = some (r1, r2) := h
 clear h
 replace H := bnA H
 obtain ⟨t356, A4, H⟩ := H
 by_cases c5 : t356 = 0
 rotate_left
 ·rw [if_neg c5] at H
  have c5b0 := beq_eq_false_iff_ne.mpr c5
  have c5b1 := bne_iff_ne.mpr c5
  simp only [Option.some.injEq, Prod.mk.injEq] at H
  obtain ⟨rfl, rfl⟩ := H
  go_enter Try.func76, Try.ntmps76
  go_wp2_with (first | ((with_reducible refine gate_dst (N := 3) rfl ?_); refine boxA 3 #[.slice A0_0 l0_0.length c0_0, .int .i64 a0_1] 24 ?_; intro gb355 hg w17 hbox hb; have BK355 := Aside0.mk (hbox); have GE355 := ge1 hg (belA HB.out); replace HB := bst HB hb; clear hb hbox hg; obtain ⟨hcz18_0, hcz18_1, hfz18_0, hfz18_1⟩ := blk2 BK355) | (go_at_call 96; (with_reducible refine (rickyardref03_May.calls k _ _ l0_0 a0_1 a1 a2 t356 _ ?side1 ?side2 A4.out).mono ?_); (case side1 => exact cb1 HR0_0 HB); (case side2 => exact HC0_0.out); rintro e w19 ⟨rfl, hb⟩; replace BK355 := blkB BK355 hb; replace HB := bs2 HB GE355 hb; (try clear hb)))
  repeat (go_quiet (fail); try go_wp2_with (first | ((with_reducible refine gate_dst (N := 3) rfl ?_); refine boxA 3 #[.slice A0_0 l0_0.length c0_0, .int .i64 a0_1] 24 ?_; intro gb355 hg w17 hbox hb; have BK355 := Aside0.mk (hbox); have GE355 := ge1 hg (belA HB.out); replace HB := bst HB hb; clear hb hbox hg; obtain ⟨hcz18_0, hcz18_1, hfz18_0, hfz18_1⟩ := blk2 BK355) | (go_at_call 96; (with_reducible refine (rickyardref03_May.calls k _ _ l0_0 a0_1 a1 a2 t356 _ ?side1 ?side2 A4.out).mono ?_); (case side1 => exact cb1 HR0_0 HB); (case side2 => exact HC0_0.out); rintro e w19 ⟨rfl, hb⟩; replace BK355 := blkB BK355 hb; replace HB := bs2 HB GE355 hb; (try clear hb))))
  go_ret2
  exact ⟨ret1, belB HB.out GE355.out⟩
 rw [if_pos c5] at H
 have c5b0 := beq_iff_eq.mpr c5
 have c5b1 := bne_eq_false_iff_eq.mpr c5
 clear c5
 have H' := Aside0.mk H
 clear H
 go_enter Try.func76, Try.ntmps76
 go_wp2_with (first | ((with_reducible refine gate_dst (N := 3) rfl ?_); refine boxA 3 #[.slice A0_0 l0_0.length c0_0, .int .i64 a0_1] 24 ?_; intro gb355 hg w6 hbox hb; have BK355 := Aside0.mk (hbox); have GE355 := ge1 hg (belA HB.out); replace HB := bst HB hb; clear hb hbox hg; obtain ⟨hcz7_0, hcz7_1, hfz7_0, hfz7_1⟩ := blk2 BK355) | (go_at_call 96; (with_reducible refine (rickyardref03_May.calls k _ _ l0_0 a0_1 a1 a2 t356 _ ?side1 ?side2 A4.out).mono ?_); (case side1 => exact cb1 HR0_0 HB); (case side2 => exact HC0_0.out); rintro e w8 ⟨rfl, hb⟩; replace BK355 := blkB BK355 hb; replace HB := bs2 HB GE355 hb; (try clear hb); obtain ⟨hcz9_0, hcz9_1, hfz9_0, hfz9_1⟩ := blk2 BK355))
 repeat (go_quiet (fail); try go_wp2_with (first | ((with_reducible refine gate_dst (N := 3) rfl ?_); refine boxA 3 #[.slice A0_0 l0_0.length c0_0, .int .i64 a0_1] 24 ?_; intro gb355 hg w6 hbox hb; have BK355 := Aside0.mk (hbox); have GE355 := ge1 hg (belA HB.out); replace HB := bst HB hb; clear hb hbox hg; obtain ⟨hcz7_0, hcz7_1, hfz7_0, hfz7_1⟩ := blk2 BK355) | (go_at_call 96; (with_reducible refine (rickyardref03_May.calls k _ _ l0_0 a0_1 a1 a2 t356 _ ?side1 ?side2 A4.out).mono ?_); (case side1 => exact cb1 HR0_0 HB); (case side2 => exact HC0_0.out); rintro e w8 ⟨rfl, hb⟩; replace BK355 := blkB BK355 hb; replace HB := bs2 HB GE355 hb; (try clear hb); obtain ⟨hcz9_0, hcz9_1, hfz9_0, hfz9_1⟩ := blk2 BK355)))
 go_loopg [9] k (fun kq v9 w' => ∃ (x9_1 : Int), v9 = .int .i64 x9_1 ∧ Aside0 (rickyardref03_Step.l0 kq a1 a2 t356 x9_1 l0_0 a0_1 = some (r1, r2)) ∧ Aside0 (kq ≤ k) ∧ Aside0 (w'.heap[gb355]? = some (.cells #[(.slice A0_0 l0_0.length c0_0), .int .i64 a0_1] 24 (0, 0))) ∧ Aside0 (Below w.heap.size w w'))
 case atStart => exact ⟨(wrap64 ((l0_0.length : Int) - 1)), relA, H', ⟨Nat.le_refl _⟩, ⟨blkA BK355.out⟩, ⟨belB HB.out GE355.out⟩⟩
 case round =>
  clear H'
  try clear p2
  try clear c5
  try clear c5b0
  try clear c5b1
  try clear p6
  try clear c7
  try clear hcz7_0 hcz7_1
  try clear hcz9_0 hcz9_1
  try clear hfz7_0 hfz7_1
  try clear hfz9_0 hfz9_1
  obtain ⟨x9_1, rfl, HA, HK1, BK355, HB⟩ := hrel
  cases gk with
  | zero => exact absurd HA.out (by simp [rickyardref03_Step.l0])
  | succ k1 =>
   have H := HA.out
   clear HA
   simp only [rickyardref03_Step.l0] at H
   by_cases c10 : x9_1 > 0
   ·rw [if_pos c10] at H
    have c10b0 := decide_eq_true c10
    clear c10
    by_cases c11 : 0 ≤ x9_1
    ·rw [if_pos c11] at H
     have c11b0 := decide_eq_true c11
     clear c11
     by_cases c12 : x9_1 < (l0_0.length : Int)
     ·rw [if_pos c12] at H
      have c12b0 := decide_eq_true c12
      clear c12
      replace H := bnA H
      obtain ⟨⟨t358, t359⟩, A13, H⟩ := H
      replace H : (if (wrap64 ((wrap64 (t358 + ((rd_T67 l0_0 x9_1).f0))) + ((rd_T67 l0_0 x9_1).f1))) ≤ a2 then (some (x9_1, t356)) else (rickyardref03_Step.l0 k1 a1 a2 t356 (wrap64 (x9_1 - 1)) l0_0 a0_1)) = some (r1, r2) := H
      by_cases c14 : (wrap64 ((wrap64 (t358 + ((rd_T67 l0_0 x9_1).f0))) + ((rd_T67 l0_0 x9_1).f1))) ≤ a2
      ·rw [if_pos c14] at H
       have c14b0 := decide_eq_true c14
       have c14b0w : decide ((IntKind.i64.wrap ((IntKind.i64.wrap (t358 + ((rd_T67 l0_0 x9_1).f0))) + ((rd_T67 l0_0 x9_1).f1))) ≤ a2) = true := by first | exact c14b0 | simpa only [i64_w] using c14b0
       clear c14
       simp only [Option.some.injEq, Prod.mk.injEq] at H
       obtain ⟨rfl, rfl⟩ := H
       obtain ⟨hcz15_0, hcz15_1, hfz15_0, hfz15_1⟩ := blk2 BK355
       have p357 : 0 ≤ (x9_1 : Int) := of_decide_eq_true asmA
       have q357 : x9_1 < (l0_0.length : Int) := of_decide_eq_true asmA
       obtain ⟨ad357, e357, hx357_0, hx357_1⟩ := at_T67 HR0_0.out x9_1 p357 q357
       cases e357
       replace hx357_0 := cbx HB hx357_0
       replace hx357_1 := cbx HB hx357_1
       replace p357 := eq_true p357
       replace q357 := eq_true q357
       go_wp2_with (first | (go_at_call 57; (with_reducible refine (rickyardref03_Floor.calls a1 ((rd_T67 l0_0 x9_1).f0) t358 t359 _ A13.out).mono ?_); rintro e w' ⟨rfl, ⟨nd, rfl⟩⟩; (try exact drA); have p360 : 0 ≤ (x9_1 : Int) := of_decide_eq_true asmA; have q360 : x9_1 < (l0_0.length : Int) := of_decide_eq_true asmA; obtain ⟨ad360, e360, hx360_0, hx360_1⟩ := at_T67 HR0_0.out x9_1 p360 q360; obtain rfl : ad357 = ad360 := (by injection e360); replace hx360_0 := cbx HB hx360_0; replace hx360_1 := cbx HB hx360_1; replace p360 := eq_true p360; replace q360 := eq_true q360; have p361 : 0 ≤ (x9_1 : Int) := of_decide_eq_true asmA; have q361 : x9_1 < (l0_0.length : Int) := of_decide_eq_true asmA; obtain ⟨ad361, e361, hx361_0, hx361_1⟩ := at_T67 HR0_0.out x9_1 p361 q361; obtain rfl : ad357 = ad361 := (by injection e361); replace hx361_0 := cbx HB hx361_0; replace hx361_1 := cbx HB hx361_1; replace p361 := eq_true p361; replace q361 := eq_true q361))
       repeat (go_quiet ((go_at_call 57; (with_reducible refine (rickyardref03_Floor.calls a1 ((rd_T67 l0_0 x9_1).f0) t358 t359 _ A13.out).mono ?_); rintro e w' ⟨rfl, ⟨nd, rfl⟩⟩; (try exact drA); have p360 : 0 ≤ (x9_1 : Int) := of_decide_eq_true asmA; have q360 : x9_1 < (l0_0.length : Int) := of_decide_eq_true asmA; obtain ⟨ad360, e360, hx360_0, hx360_1⟩ := at_T67 HR0_0.out x9_1 p360 q360; obtain rfl : ad357 = ad360 := (by injection e360); replace hx360_0 := cbx HB hx360_0; replace hx360_1 := cbx HB hx360_1; replace p360 := eq_true p360; replace q360 := eq_true q360; have p361 : 0 ≤ (x9_1 : Int) := of_decide_eq_true asmA; have q361 : x9_1 < (l0_0.length : Int) := of_decide_eq_true asmA; obtain ⟨ad361, e361, hx361_0, hx361_1⟩ := at_T67 HR0_0.out x9_1 p361 q361; obtain rfl : ad357 = ad361 := (by injection e361); replace hx361_0 := cbx HB hx361_0; replace hx361_1 := cbx HB hx361_1; replace p361 := eq_true p361; replace q361 := eq_true q361)); try go_wp2_with (first | (go_at_call 57; (with_reducible refine (rickyardref03_Floor.calls a1 ((rd_T67 l0_0 x9_1).f0) t358 t359 _ A13.out).mono ?_); rintro e w' ⟨rfl, ⟨nd, rfl⟩⟩; (try exact drA); have p360 : 0 ≤ (x9_1 : Int) := of_decide_eq_true asmA; have q360 : x9_1 < (l0_0.length : Int) := of_decide_eq_true asmA; obtain ⟨ad360, e360, hx360_0, hx360_1⟩ := at_T67 HR0_0.out x9_1 p360 q360; obtain rfl : ad357 = ad360 := (by injection e360); replace hx360_0 := cbx HB hx360_0; replace hx360_1 := cbx HB hx360_1; replace p360 := eq_true p360; replace q360 := eq_true q360; have p361 : 0 ≤ (x9_1 : Int) := of_decide_eq_true asmA; have q361 : x9_1 < (l0_0.length : Int) := of_decide_eq_true asmA; obtain ⟨ad361, e361, hx361_0, hx361_1⟩ := at_T67 HR0_0.out x9_1 p361 q361; obtain rfl : ad357 = ad361 := (by injection e361); replace hx361_0 := cbx HB hx361_0; replace hx361_1 := cbx HB hx361_1; replace p361 := eq_true p361; replace q361 := eq_true q361)))
       go_ret2
       exact ⟨ret1, belB HB.out GE355.out⟩
      ·rw [if_neg c14] at H
       have c14b0 := decide_eq_false c14
       have c14b0w : decide ((IntKind.i64.wrap ((IntKind.i64.wrap (t358 + ((rd_T67 l0_0 x9_1).f0))) + ((rd_T67 l0_0 x9_1).f1))) ≤ a2) = false := by first | exact c14b0 | simpa only [i64_w] using c14b0
       clear c14
       have H' := Aside0.mk H
       clear H
       obtain ⟨hcz16_0, hcz16_1, hfz16_0, hfz16_1⟩ := blk2 BK355
       have p357 : 0 ≤ (x9_1 : Int) := of_decide_eq_true asmA
       have q357 : x9_1 < (l0_0.length : Int) := of_decide_eq_true asmA
       obtain ⟨ad357, e357, hx357_0, hx357_1⟩ := at_T67 HR0_0.out x9_1 p357 q357
       cases e357
       replace hx357_0 := cbx HB hx357_0
       replace hx357_1 := cbx HB hx357_1
       replace p357 := eq_true p357
       replace q357 := eq_true q357
       go_wp2_with (first | (go_at_call 57; (with_reducible refine (rickyardref03_Floor.calls a1 ((rd_T67 l0_0 x9_1).f0) t358 t359 _ A13.out).mono ?_); rintro e w' ⟨rfl, ⟨nd, rfl⟩⟩; (try exact drA); have p360 : 0 ≤ (x9_1 : Int) := of_decide_eq_true asmA; have q360 : x9_1 < (l0_0.length : Int) := of_decide_eq_true asmA; obtain ⟨ad360, e360, hx360_0, hx360_1⟩ := at_T67 HR0_0.out x9_1 p360 q360; obtain rfl : ad357 = ad360 := (by injection e360); replace hx360_0 := cbx HB hx360_0; replace hx360_1 := cbx HB hx360_1; replace p360 := eq_true p360; replace q360 := eq_true q360; have p361 : 0 ≤ (x9_1 : Int) := of_decide_eq_true asmA; have q361 : x9_1 < (l0_0.length : Int) := of_decide_eq_true asmA; obtain ⟨ad361, e361, hx361_0, hx361_1⟩ := at_T67 HR0_0.out x9_1 p361 q361; obtain rfl : ad357 = ad361 := (by injection e361); replace hx361_0 := cbx HB hx361_0; replace hx361_1 := cbx HB hx361_1; replace p361 := eq_true p361; replace q361 := eq_true q361))
       repeat (go_quiet ((go_at_call 57; (with_reducible refine (rickyardref03_Floor.calls a1 ((rd_T67 l0_0 x9_1).f0) t358 t359 _ A13.out).mono ?_); rintro e w' ⟨rfl, ⟨nd, rfl⟩⟩; (try exact drA); have p360 : 0 ≤ (x9_1 : Int) := of_decide_eq_true asmA; have q360 : x9_1 < (l0_0.length : Int) := of_decide_eq_true asmA; obtain ⟨ad360, e360, hx360_0, hx360_1⟩ := at_T67 HR0_0.out x9_1 p360 q360; obtain rfl : ad357 = ad360 := (by injection e360); replace hx360_0 := cbx HB hx360_0; replace hx360_1 := cbx HB hx360_1; replace p360 := eq_true p360; replace q360 := eq_true q360; have p361 : 0 ≤ (x9_1 : Int) := of_decide_eq_true asmA; have q361 : x9_1 < (l0_0.length : Int) := of_decide_eq_true asmA; obtain ⟨ad361, e361, hx361_0, hx361_1⟩ := at_T67 HR0_0.out x9_1 p361 q361; obtain rfl : ad357 = ad361 := (by injection e361); replace hx361_0 := cbx HB hx361_0; replace hx361_1 := cbx HB hx361_1; replace p361 := eq_true p361; replace q361 := eq_true q361)); try go_wp2_with (first | (go_at_call 57; (with_reducible refine (rickyardref03_Floor.calls a1 ((rd_T67 l0_0 x9_1).f0) t358 t359 _ A13.out).mono ?_); rintro e w' ⟨rfl, ⟨nd, rfl⟩⟩; (try exact drA); have p360 : 0 ≤ (x9_1 : Int) := of_decide_eq_true asmA; have q360 : x9_1 < (l0_0.length : Int) := of_decide_eq_true asmA; obtain ⟨ad360, e360, hx360_0, hx360_1⟩ := at_T67 HR0_0.out x9_1 p360 q360; obtain rfl : ad357 = ad360 := (by injection e360); replace hx360_0 := cbx HB hx360_0; replace hx360_1 := cbx HB hx360_1; replace p360 := eq_true p360; replace q360 := eq_true q360; have p361 : 0 ≤ (x9_1 : Int) := of_decide_eq_true asmA; have q361 : x9_1 < (l0_0.length : Int) := of_decide_eq_true asmA; obtain ⟨ad361, e361, hx361_0, hx361_1⟩ := at_T67 HR0_0.out x9_1 p361 q361; obtain rfl : ad357 = ad361 := (by injection e361); replace hx361_0 := cbx HB hx361_0; replace hx361_1 := cbx HB hx361_1; replace p361 := eq_true p361; replace q361 := eq_true q361)))
       go_roundg k1
       case measure => have := HK1.out; omega
       case rel => exact ⟨(wrap64 (x9_1 - 1)), relA, H', ⟨by have := HK1.out; omega⟩, ⟨blkA BK355.out⟩, ⟨belB HB.out GE355.out⟩⟩
     ·rw [if_neg c12] at H
      exact absurd H (by simp)
    ·rw [if_neg c11] at H
     exact absurd H (by simp)
   ·rw [if_neg c10] at H
    have c10b0 := decide_eq_false c10
    clear c10
    simp only [Option.some.injEq, Prod.mk.injEq] at H
    obtain ⟨rfl, rfl⟩ := H
    go_wp2
    repeat (go_quiet (fail); try go_wp2)
    go_ret2
    exact ⟨ret1, belB HB.out GE355.out⟩
def rickyardref15_Key.f (k : Nat) (l0_0 : List (S67)) (a0_1 : Int) (a1 : Int) (l2 : List Int) : Option (List Int × Bool) := (rickyardref06_Read.f k l2).bind fun bt363 => ((rickyardref03_Expired.f k l0_0 a0_1 bt363.2.1 a1).bind fun bt370 => ((rickyardref03_Step.f k l0_0 a0_1 bt363.2.1 a1).bind fun bt372 => (if bt372.1 > bt363.2.2.1 then (if 0 ≤ bt372.1 then (if bt372.1 < (l0_0.length : Int) then ((rickyardref03_Floor.f bt363.2.1 ((rd_T67 l0_0 bt372.1).f0)).bind fun bt375 => ((rickyardref06_Write.f k bt363.1 bt375.1 bt372.1).bind fun bt377 => (some (bt377.1, !bt370.1)))) else (none)) else (none)) else (if 0 ≤ bt363.2.2.1 then (if bt363.2.2.1 < (l0_0.length : Int) then ((rickyardref03_Floor.f bt363.2.1 ((rd_T67 l0_0 bt363.2.2.1).f0)).bind fun bt382 => ((rickyardref06_Write.f k bt363.1 bt382.1 bt363.2.2.1).bind fun bt384 => (some (bt384.1, !bt370.1)))) else (none)) else (none)))))
def rickyardref15_Key.T6 : Bool × List (List Nat × List Nat) := (true, [([], []), ([0], [0]), ([], []), ([2], [2]), ([], []), ([4], [4]), ([3, 5], [3, 5]), ([6], [6]), ([7], [7]), ([1, 8], [1, 8]), ([9], [9]), ([10], [10]), ([10], [10]), ([0, 1, 2, 3, 4, 5, 6, 7, 8, 9, 10, 11], []), ([13, 11, 9, 0, 1, 2, 3, 4, 5, 6, 7, 8, 9, 10, 11], [11, 13])])
def rickyardref15_Key.B6 : List Nat := [0, 1, 0, 4, 0, 16, 60, 124, 252, 511, 1023, 2047, 2047, 4095, 12287]
theorem rickyardref15_Key.tab6 : rtab .any (opsOf Try.f47 6) = rickyardref15_Key.T6 := by kernel_rfl
theorem rickyardref15_Key.bits6 : waitsOk rickyardref15_Key.T6.2 rickyardref15_Key.B6 = true := by kernel_rfl
theorem rickyardref15_Key.calls (k : Nat) (A0_0 : Option Addr) (c0_0 : Nat) (l0_0 : List (S67)) (a0_1 : Int) (a1 : Int) (A2 : Option Addr) (c2 : Nat) (l2 : List Int) (r1 : List Int) (r2 : Bool) (w : World) (hr0_0 : Kd.C k67 w A0_0 l0_0.length l0_0) (hc0_0 : l0_0.length ≤ c0_0) (hr2 : Kd.C (Kd.int .u8) w A2 l2.length l2) (hc2 : l2.length ≤ c2) (h : rickyardref15_Key.f k l0_0 a0_1 a1 l2 = some (r1, r2)) :
  Calls Try.prog 47 #[.agg #[.slice A0_0 l0_0.length c0_0, .int .i64 a0_1], .int .i64 a1, .slice A2 l2.length c2] w fun e w' => ∃ v0_ : Value, e = .returned (.tuple #[v0_, .bool r2]) ∧ Kd.R (Kd.int .u8) 5 w' w.heap.size (fun _ => True) v0_ r1 ∧ Below w.heap.size w w' := by
 have hu24 := Try.underlying24
 have hu62 := Try.underlying62
 have HR0_0 := Aside0.mk hr0_0
 have HC0_0 := Aside0.mk hc0_0
 clear hr0_0 hc0_0
 have HR2 := Aside0.mk hr2
 have HC2 := Aside0.mk hc2
 clear hr2 hc2
 have HB := Aside0.mk (Below.refl w.heap.size w)
 have H : ((rickyardref06_Read.f k l2).bind fun bt363 => ((rickyardref03_Expired.f k l0_0 a0_1 bt363.2.1 a1).bind fun bt370 => ((rickyardref03_Step.f k l0_0 a0_1 bt363.2.1 a1).bind fun bt372 => (if bt372.1 > bt363.2.2.1 then (if 0 ≤ bt372.1 then (if bt372.1 < (l0_0.length : Int) then ((rickyardref03_Floor.f bt363.2.1 ((rd_T67 l0_0 bt372.1).f0)).bind fun bt375 => ((rickyardref06_Write.f k bt363.1 bt375.1 bt372.1).bind fun bt377 => (some (bt377.1, !bt370.1)))) else (none)) else (none)) else (if 0 ≤ bt363.2.2.1 then (if bt363.2.2.1 < (l0_0.length : Int) then ((rickyardref03_Floor.f bt363.2.1 ((rd_T67 l0_0 bt363.2.2.1).f0)).bind fun bt382 => ((rickyardref06_Write.f k bt363.1 bt382.1 bt363.2.2.1).bind fun bt384 => (some (bt384.1, !bt370.1)))) else (none)) else (none)))))) = some (r1, r2) := h
 clear h
 replace H := bnA H
 obtain ⟨⟨t363, t366, t367, t368⟩, A4, H⟩ := H
 replace H : ((rickyardref03_Expired.f k l0_0 a0_1 t366 a1).bind fun bt370 => ((rickyardref03_Step.f k l0_0 a0_1 t366 a1).bind fun bt372 => (if bt372.1 > t367 then (if 0 ≤ bt372.1 then (if bt372.1 < (l0_0.length : Int) then ((rickyardref03_Floor.f t366 ((rd_T67 l0_0 bt372.1).f0)).bind fun bt375 => ((rickyardref06_Write.f k t363 bt375.1 bt372.1).bind fun bt377 => (some (bt377.1, !bt370.1)))) else (none)) else (none)) else (if 0 ≤ t367 then (if t367 < (l0_0.length : Int) then ((rickyardref03_Floor.f t366 ((rd_T67 l0_0 t367).f0)).bind fun bt382 => ((rickyardref06_Write.f k t363 bt382.1 t367).bind fun bt384 => (some (bt384.1, !bt370.1)))) else (none)) else (none))))) = some (r1, r2) := H
 replace H := bnA H
 obtain ⟨⟨t370, t371⟩, A5, H⟩ := H
 replace H : ((rickyardref03_Step.f k l0_0 a0_1 t366 a1).bind fun bt372 => (if bt372.1 > t367 then (if 0 ≤ bt372.1 then (if bt372.1 < (l0_0.length : Int) then ((rickyardref03_Floor.f t366 ((rd_T67 l0_0 bt372.1).f0)).bind fun bt375 => ((rickyardref06_Write.f k t363 bt375.1 bt372.1).bind fun bt377 => (some (bt377.1, !t370)))) else (none)) else (none)) else (if 0 ≤ t367 then (if t367 < (l0_0.length : Int) then ((rickyardref03_Floor.f t366 ((rd_T67 l0_0 t367).f0)).bind fun bt382 => ((rickyardref06_Write.f k t363 bt382.1 t367).bind fun bt384 => (some (bt384.1, !t370)))) else (none)) else (none)))) = some (r1, r2) := H
 replace H := bnA H
 obtain ⟨⟨t372, t373⟩, A6, H⟩ := H
 replace H : (if t372 > t367 then (if 0 ≤ t372 then (if t372 < (l0_0.length : Int) then ((rickyardref03_Floor.f t366 ((rd_T67 l0_0 t372).f0)).bind fun bt375 => ((rickyardref06_Write.f k t363 bt375.1 t372).bind fun bt377 => (some (bt377.1, !t370)))) else (none)) else (none)) else (if 0 ≤ t367 then (if t367 < (l0_0.length : Int) then ((rickyardref03_Floor.f t366 ((rd_T67 l0_0 t367).f0)).bind fun bt382 => ((rickyardref06_Write.f k t363 bt382.1 t367).bind fun bt384 => (some (bt384.1, !t370)))) else (none)) else (none))) = some (r1, r2) := H
 by_cases c7 : t372 > t367
 rotate_left
 ·rw [if_neg c7] at H
  have c7b0 := decide_eq_false c7
  clear c7
  replace H := ifN H
  obtain ⟨c29, H⟩ := H
  have c29b0 := decide_eq_true c29
  clear c29
  replace H := ifN H
  obtain ⟨c30, H⟩ := H
  have c30b0 := decide_eq_true c30
  clear c30
  replace H := bnA H
  obtain ⟨⟨t382, t383⟩, A31, H⟩ := H
  replace H : ((rickyardref06_Write.f k t363 t382 t367).bind fun bt384 => (some (bt384.1, !t370))) = some (r1, r2) := H
  replace H := bnA H
  obtain ⟨⟨t384, t387⟩, A32, H⟩ := H
  replace H : (some (t384, !t370)) = some (r1, r2) := H
  simp only [Option.some.injEq, Prod.mk.injEq] at H
  obtain ⟨rfl, rfl⟩ := H
  go_enter Try.func47, Try.ntmps47
  try go_wp2_with (first | ((with_reducible refine gate_dst (N := 3) rfl ?_); refine boxA 3 #[.slice A0_0 l0_0.length c0_0, .int .i64 a0_1] 24 ?_; intro gb362 hg w33 hbox hb; have BK362 := Aside0.mk (hbox); have GE362 := ge1 hg (belA HB.out); replace HB := bst HB hb; clear hb hbox hg) | ((with_reducible refine gate_callee (f := 55) rfl ?_); refine goesL_ (some 18) rfl rfl Try.func55 (by kernel_rfl) rfl #[.slice A2 l2.length c2] rfl argA ?_; (with_reducible refine (rickyardref06_Read.calls k _ _ l2 t363 t366 t367 t368 _ ?side1 ?side2 A4.out).mono ?_); (case side1 => exact cb1 HR2 HB); (case side2 => exact HC2.out); rintro e w34 ⟨v364, rfl, ho0, hb⟩; refine ⟨_, rfl, ?_⟩; have HO365 := Aside0.mk (Kd.R_lower ho0 (below_size (belB HB.out GE362.out))); replace BK362 := blkB BK362 hb; replace HB := bs2 HB GE362 hb; (try clear hb); (try clear ho0)) | ((with_reducible refine gate_dst (N := 8) rfl ?_); refine boxA 8 #[.slice none 0 0, .int .i64 0, .int .i64 0] 62 ?_; intro gb369 hg w35 hbox hb; have BK369 := Aside0.mk (hbox); have GW369 := ge1 hg (belB HB.out GE362.out); have GE369 := GW369; have NB362_369 := neL hg BK362; have NB369_362 := neR hg BK362; replace HO365 := Aside0.mk (Kd.R_below (rowA HO365.out) hb); replace BK362 := blkB BK362 hb; replace HB := bs2 HB GE362 hb; clear hb hbox hg; obtain ⟨Ao36, co36, eo36⟩ := Kd.R_slice HO365.out; subst eo36; have hnb37 := NB369_362.out; have hnc37 := NB362_369.out; obtain ⟨hcz38_0, hcz38_1, hcz38_2, hfz38_0, hfz38_1, hfz38_2⟩ := blk3 BK369; obtain ⟨hcz39_0, hcz39_1, hfz39_0, hfz39_1⟩ := blk2 BK362) | ((with_reducible refine gate_callee (f := 75) rfl ?_); refine goesL_ (some 26) rfl rfl Try.func75 (by kernel_rfl) rfl #[.agg #[.slice A0_0 l0_0.length c0_0, .int .i64 a0_1], .int .i64 t366, .int .i64 a1] rfl argA ?_; (with_reducible refine (rickyardref03_Expired.calls k _ _ l0_0 a0_1 t366 a1 t370 t371 _ ?side1 ?side2 A5.out).mono ?_); (case side1 => exact Kd.C_below HR0_0.out (belC HB.out GE362.out GE369.out)); (case side2 => exact HC0_0.out); rintro e w40 ⟨rfl, hb⟩; refine ⟨_, rfl, ?_⟩; replace HO365 := Aside0.mk (Kd.R_below (by (with_reducible repeat (first | apply Kd.R_alloc | apply Kd.R_drewN | apply Kd.R_drew)); exact (Kd.R_mono (Kd.R_far (p := ⟨gb369, 2, none⟩) (Kd.R_far (p := ⟨gb369, 1, none⟩) (Kd.R_far (p := ⟨gb369, 0, none⟩) (Kd.R_types HO365.out BK369.out (by decide)) (fun _ hk => hk.2) (.slice Ao36 t363.length co36)) (fun _ hk => hk.2) (.int .i64 t366)) (fun _ hk => hk.2) (.int .i64 t367)) (fun _ h_ => h_.1))) hb); replace BK362 := Aside0.mk (blk_below (g := gb362) (o := .cells #[.slice A0_0 l0_0.length c0_0, .int .i64 a0_1] 24 (0, 0)) (putB BK362.out NB362_369.out) hb); replace BK369 := Aside0.mk (blk_below (g := gb369) (o := .cells #[.slice Ao36 t363.length co36, .int .i64 t366, .int .i64 t367] 62 (0, 0)) (putA BK369.out) hb); replace HB := bs3 HB GE362 GE369 hb; (try clear hb); obtain ⟨hcz41_0, hcz41_1, hfz41_0, hfz41_1⟩ := blk2 BK362; obtain ⟨hcz42_0, hcz42_1, hcz42_2, hfz42_0, hfz42_1, hfz42_2⟩ := blk3 BK369) | ((with_reducible refine gate_callee (f := 76) rfl ?_); refine goesL_ (some 34) rfl rfl Try.func76 (by kernel_rfl) rfl #[.agg #[.slice A0_0 l0_0.length c0_0, .int .i64 a0_1], .int .i64 t366, .int .i64 a1] rfl argA ?_; (with_reducible refine (rickyardref03_Step.calls k _ _ l0_0 a0_1 t366 a1 t372 t373 _ ?side1 ?side2 A6.out).mono ?_); (case side1 => exact cb1 HR0_0 HB); (case side2 => exact HC0_0.out); rintro e w43 ⟨rfl, hb⟩; refine ⟨_, rfl, ?_⟩; replace HO365 := Aside0.mk (Kd.R_below (rowA HO365.out) hb); replace BK362 := blkB BK362 hb; replace BK369 := blkB BK369 hb; replace HB := bs3 HB GE362 GE369 hb; (try clear hb); obtain ⟨hcz44_0, hcz44_1, hcz44_2, hfz44_0, hfz44_1, hfz44_2⟩ := blk3 BK369))
  replace HO365 := Aside0.mk (Kd.R_drew HO365.out)
  replace BK362 := Aside0.mk (blk_drew BK362.out)
  replace BK369 := Aside0.mk (blk_drew BK369.out)
  replace HB := Aside0.mk (below_drew1 HB.out)
  have p381 : 0 ≤ (t367 : Int) := of_decide_eq_true asmA
  have q381 : t367 < (l0_0.length : Int) := of_decide_eq_true asmA
  obtain ⟨ad381, e381, hx381_0, hx381_1⟩ := at_T67 HR0_0.out t367 p381 q381
  have hw381_1 := hx381_1
  have hw381_0 := hx381_0
  cases e381
  replace hx381_0 := cbx HB hx381_0
  replace hx381_1 := cbx HB hx381_1
  replace p381 := eq_true p381
  replace q381 := eq_true q381
  refine start_ (n := 15) (S := fun w' => w'.cell? ⟨gb369, 0, none⟩ = some (.slice Ao36 t363.length co36) ∧ w'.cell? ⟨gb369, 1, none⟩ = some (.int .i64 t366) ∧ w'.cell? ⟨gb369, 2, none⟩ = some (.int .i64 t367) ∧ w'.cell? ⟨gb362, 0, none⟩ = some (.slice (some ad381) l0_0.length c0_0) ∧ w'.cell? ⟨gb362, 1, none⟩ = some (.int .i64 a0_1) ∧ w'.cell? (ad381.add ((t367).toNat * 2)) = some (.int .i64 ((rd_T67 l0_0 t367).f0)) ∧ w'.cell? ⟨(ad381.add ((t367).toNat * 2)).block, (ad381.add ((t367).toNat * 2)).off + 1, none⟩ = some (.int .i64 ((rd_T67 l0_0 t367).f1))) (ds := [14]) #[false, false, false, false, false, false, false, false, false, false, false, false, false, false, false] (by kernel_rfl) rfl rfl ⟨(blk_cell BK369.out 0).trans rfl, (blk_cell BK369.out 1).trans rfl, (blk_cell BK369.out 2).trans rfl, (blk_cell BK362.out 0).trans rfl, (blk_cell BK362.out 1).trans rfl, ((HB.out.cell (World.block_lt_of_cell? w _ hw381_0)).trans hw381_0), ((HB.out.cell (World.block_lt_of_cell? w _ hw381_1)).trans hw381_1)⟩ (fun hHeld => ?_); refine with_tabW rickyardref15_Key.tab6 rickyardref15_Key.bits6 (fun HT_ HW_ => ?_)
  generalize w43.drew = w45 at HO365 BK362 BK369 HB hx381_0 hx381_1 hHeld ⊢
  refine pureD 0 44 HT_ ?_
  refine pureD 2 46 HT_ ?_
  refine pureD 4 48 HT_ ?_
  refine takeD 1 45 HT_ HW_ hHeld ?_
  refine takeD 3 47 HT_ HW_ hHeld ?_
  refine takeD 5 49 HT_ HW_ hHeld ?_
  refine pureD 6 50 HT_ ?_
  refine pureD 7 51 HT_ ?_
  refine takeD 8 52 HT_ HW_ hHeld ?_
  refine one_ (i := 9) (N := some 53) #[true, true, true, true, true, true, true, true, true, true, false, false, false, false, false] rfl rfl (one_of HT_.out (by kernel_rfl)) (by decide) (fun K hK => ?_)
  refine goes_ Try.func57 (by kernel_rfl) rfl #[.int .i64 t366, .int .i64 ((rd_T67 l0_0 t367).f0)] (by rfl) rfl rfl argA ?_
  with_reducible refine (rickyardref03_Floor.calls t366 ((rd_T67 l0_0 t367).f0) t382 t383 _ A31.out).mono ?_
  rintro e w' ⟨rfl, ⟨nd, rfl⟩⟩
  refine ⟨_, rfl, ?_⟩
  refine hK.out _ _ ⟨(blk_cell BK369.out 0).trans rfl, (blk_cell BK369.out 1).trans rfl, (blk_cell BK369.out 2).trans rfl, (blk_cell BK362.out 0).trans rfl, (blk_cell BK362.out 1).trans rfl, ((HB.out.cell (World.block_lt_of_cell? w _ hw381_0)).trans hw381_0), ((HB.out.cell (World.block_lt_of_cell? w _ hw381_1)).trans hw381_1)⟩ (fun hHeld => ?_)
  clear hK K
  refine norm_ (a' := ?_) ?_ ?_
  rotate_left
  ·show Act.put _ (some 53) _ = _
   simp only [Act.put, List.setIfInBounds_toArray, List.set_cons_zero, List.set_cons_succ, i64_w, i32_w]
   rfl
  refine pureD 10 43 HT_ ?_
  refine pureD 11 54 HT_ ?_
  refine pureD 12 55 HT_ ?_
  refine pureD 13 56 HT_ ?_
  refine last_ (i := 14) (N := none) #[true, true, true, true, true, true, true, true, true, true, true, true, true, true, true] rfl rfl (one_of HT_.out (by kernel_rfl)) (by decide) (fun K hK => ?_)
  have hs46 : w45.cell? ⟨gb369, 1, none⟩ = some (.int .i64 t366) := (blk_cell BK369.out 1).trans rfl
  have hfs46 := blk_frozen BK369.out 1
  have hns46_0 := NB362_369.out
  have hms46_0 := NB369_362.out
  refine skip_ (w1 := ?_) (by rfl) rfl ?_ ?_
  rotate_left
  ·go_simp
   rfl
  refine hK.out _ _ ?_
  clear hK K
  refine done_ (done_of HT_.out (by kernel_rfl)) ?_
  obtain ⟨hcz47_0, hcz47_1, hcz47_2, hfz47_0, hfz47_1, hfz47_2⟩ := blk3 BK369
  try go_wp2_with (first | ((with_reducible refine gate_callee (f := 70) rfl ?_); refine goesL_ (some 59) rfl rfl Try.func70 (by kernel_rfl) rfl #[.agg #[.slice Ao36 t363.length co36, .int .i64 t382, .int .i64 t367]] rfl argA ?_; (with_reducible refine (rickyardref06_Write.calls k _ _ t363 t382 t367 t384 t387 _ ?side1 ?side2 A32.out).mono ?_); (case side1 => refine (Kd.R_reads' (e := 9) (base := w.heap.size) (ok := fun k_ => True) (n := t363.length) (c := co36) ?_).2.2; exact (by (with_reducible repeat (first | apply Kd.R_alloc | apply Kd.R_drewN | apply Kd.R_drew)); exact (Kd.R_mono (Kd.R_far (p := ⟨gb369, 1, none⟩) (Kd.R_types HO365.out BK369.out (by decide)) (fun _ hk => hk.2) (.int .i64 t382)) (fun _ h_ => h_.1)))); (case side2 => exact (Kd.R_reads' HO365.out).2.1); rintro e w48 ⟨v385, rfl, ho0, hb⟩; refine ⟨_, rfl, ?_⟩; have HO386 := Aside0.mk (Kd.R_lower ho0 (below_size (belC HB.out GE362.out GE369.out))); replace HO365 := Aside0.mk (Kd.R_below (by (with_reducible repeat (first | apply Kd.R_alloc | apply Kd.R_drewN | apply Kd.R_drew)); exact (Kd.R_mono (Kd.R_far (p := ⟨gb369, 1, none⟩) (Kd.R_types HO365.out BK369.out (by decide)) (fun _ hk => hk.2) (.int .i64 t382)) (fun _ h_ => h_.1))) hb); replace BK362 := Aside0.mk (blk_below (g := gb362) (o := .cells #[.slice (some ad381) l0_0.length c0_0, .int .i64 a0_1] 24 (0, 0)) (putB BK362.out NB362_369.out) hb); replace BK369 := Aside0.mk (blk_below (g := gb369) (o := .cells #[.slice Ao36 t363.length co36, .int .i64 t382, .int .i64 t367] 62 (0, 0)) (putA BK369.out) hb); replace HB := bs3 HB GE362 GE369 hb; (try clear hb); (try clear ho0)))
  go_ret2
  exact ⟨_, ret1, rowA HO386.out, belC HB.out GE362.out GE369.out⟩
 rw [if_pos c7] at H
 have c7b0 := decide_eq_true c7
 clear c7
 replace H := ifN H
 obtain ⟨c8, H⟩ := H
 have c8b0 := decide_eq_true c8
 clear c8
 replace H := ifN H
 obtain ⟨c9, H⟩ := H
 have c9b0 := decide_eq_true c9
 clear c9
 replace H := bnA H
 obtain ⟨⟨t375, t376⟩, A10, H⟩ := H
 replace H : ((rickyardref06_Write.f k t363 t375 t372).bind fun bt377 => (some (bt377.1, !t370))) = some (r1, r2) := H
 replace H := bnA H
 obtain ⟨⟨t377, t380⟩, A11, H⟩ := H
 replace H : (some (t377, !t370)) = some (r1, r2) := H
 simp only [Option.some.injEq, Prod.mk.injEq] at H
 obtain ⟨rfl, rfl⟩ := H
 go_enter Try.func47, Try.ntmps47
 try go_wp2_with (first | ((with_reducible refine gate_dst (N := 3) rfl ?_); refine boxA 3 #[.slice A0_0 l0_0.length c0_0, .int .i64 a0_1] 24 ?_; intro gb362 hg w12 hbox hb; have BK362 := Aside0.mk (hbox); have GE362 := ge1 hg (belA HB.out); replace HB := bst HB hb; clear hb hbox hg) | ((with_reducible refine gate_callee (f := 55) rfl ?_); refine goesL_ (some 18) rfl rfl Try.func55 (by kernel_rfl) rfl #[.slice A2 l2.length c2] rfl argA ?_; (with_reducible refine (rickyardref06_Read.calls k _ _ l2 t363 t366 t367 t368 _ ?side1 ?side2 A4.out).mono ?_); (case side1 => exact cb1 HR2 HB); (case side2 => exact HC2.out); rintro e w13 ⟨v364, rfl, ho0, hb⟩; refine ⟨_, rfl, ?_⟩; have HO365 := Aside0.mk (Kd.R_lower ho0 (below_size (belB HB.out GE362.out))); replace BK362 := blkB BK362 hb; replace HB := bs2 HB GE362 hb; (try clear hb); (try clear ho0)) | ((with_reducible refine gate_dst (N := 8) rfl ?_); refine boxA 8 #[.slice none 0 0, .int .i64 0, .int .i64 0] 62 ?_; intro gb369 hg w14 hbox hb; have BK369 := Aside0.mk (hbox); have GW369 := ge1 hg (belB HB.out GE362.out); have GE369 := GW369; have NB362_369 := neL hg BK362; have NB369_362 := neR hg BK362; replace HO365 := Aside0.mk (Kd.R_below (rowA HO365.out) hb); replace BK362 := blkB BK362 hb; replace HB := bs2 HB GE362 hb; clear hb hbox hg; obtain ⟨Ao15, co15, eo15⟩ := Kd.R_slice HO365.out; subst eo15; have hnb16 := NB369_362.out; have hnc16 := NB362_369.out; obtain ⟨hcz17_0, hcz17_1, hcz17_2, hfz17_0, hfz17_1, hfz17_2⟩ := blk3 BK369; obtain ⟨hcz18_0, hcz18_1, hfz18_0, hfz18_1⟩ := blk2 BK362) | ((with_reducible refine gate_callee (f := 75) rfl ?_); refine goesL_ (some 26) rfl rfl Try.func75 (by kernel_rfl) rfl #[.agg #[.slice A0_0 l0_0.length c0_0, .int .i64 a0_1], .int .i64 t366, .int .i64 a1] rfl argA ?_; (with_reducible refine (rickyardref03_Expired.calls k _ _ l0_0 a0_1 t366 a1 t370 t371 _ ?side1 ?side2 A5.out).mono ?_); (case side1 => exact Kd.C_below HR0_0.out (belC HB.out GE362.out GE369.out)); (case side2 => exact HC0_0.out); rintro e w19 ⟨rfl, hb⟩; refine ⟨_, rfl, ?_⟩; replace HO365 := Aside0.mk (Kd.R_below (by (with_reducible repeat (first | apply Kd.R_alloc | apply Kd.R_drewN | apply Kd.R_drew)); exact (Kd.R_mono (Kd.R_far (p := ⟨gb369, 2, none⟩) (Kd.R_far (p := ⟨gb369, 1, none⟩) (Kd.R_far (p := ⟨gb369, 0, none⟩) (Kd.R_types HO365.out BK369.out (by decide)) (fun _ hk => hk.2) (.slice Ao15 t363.length co15)) (fun _ hk => hk.2) (.int .i64 t366)) (fun _ hk => hk.2) (.int .i64 t367)) (fun _ h_ => h_.1))) hb); replace BK362 := Aside0.mk (blk_below (g := gb362) (o := .cells #[.slice A0_0 l0_0.length c0_0, .int .i64 a0_1] 24 (0, 0)) (putB BK362.out NB362_369.out) hb); replace BK369 := Aside0.mk (blk_below (g := gb369) (o := .cells #[.slice Ao15 t363.length co15, .int .i64 t366, .int .i64 t367] 62 (0, 0)) (putA BK369.out) hb); replace HB := bs3 HB GE362 GE369 hb; (try clear hb); obtain ⟨hcz20_0, hcz20_1, hfz20_0, hfz20_1⟩ := blk2 BK362; obtain ⟨hcz21_0, hcz21_1, hcz21_2, hfz21_0, hfz21_1, hfz21_2⟩ := blk3 BK369) | ((with_reducible refine gate_callee (f := 76) rfl ?_); refine goesL_ (some 34) rfl rfl Try.func76 (by kernel_rfl) rfl #[.agg #[.slice A0_0 l0_0.length c0_0, .int .i64 a0_1], .int .i64 t366, .int .i64 a1] rfl argA ?_; (with_reducible refine (rickyardref03_Step.calls k _ _ l0_0 a0_1 t366 a1 t372 t373 _ ?side1 ?side2 A6.out).mono ?_); (case side1 => exact cb1 HR0_0 HB); (case side2 => exact HC0_0.out); rintro e w22 ⟨rfl, hb⟩; refine ⟨_, rfl, ?_⟩; replace HO365 := Aside0.mk (Kd.R_below (rowA HO365.out) hb); replace BK362 := blkB BK362 hb; replace BK369 := blkB BK369 hb; replace HB := bs3 HB GE362 GE369 hb; (try clear hb); obtain ⟨hcz23_0, hcz23_1, hcz23_2, hfz23_0, hfz23_1, hfz23_2⟩ := blk3 BK369))
 have n0_ : Aside0 (Kd.R Kd.string 9 (w22.setCell ⟨gb369, 2, none⟩ (.int .i64 t372)) w.heap.size (fun _ => True) (.slice Ao15 t363.length co15) t363) := ⟨by (with_reducible repeat (first | apply Kd.R_alloc | apply Kd.R_drewN | apply Kd.R_drew)); exact Kd.R_mono (Kd.R_far (p := ⟨gb369, 2, none⟩) (Kd.R_types HO365.out BK369.out (by decide)) (fun _ hk => hk.2) (.int .i64 t372)) (fun _ hk => trivial)⟩
 have n1_ : Aside0 ((w22.setCell ⟨gb369, 2, none⟩ (.int .i64 t372)).heap[gb362]? = some (.cells #[.slice A0_0 l0_0.length c0_0, .int .i64 a0_1] 24 (0, 0))) := ⟨putB BK362.out NB362_369.out⟩
 have n2_ : Aside0 ((w22.setCell ⟨gb369, 2, none⟩ (.int .i64 t372)).heap[gb369]? = some (.cells #[.slice Ao15 t363.length co15, .int .i64 t366, .int .i64 t372] 62 (0, 0))) := ⟨putA BK369.out⟩
 have n3_ : Aside0 (Below w.heap.size w (w22.setCell ⟨gb369, 2, none⟩ (.int .i64 t372))) := ⟨belC HB.out GE362.out GE369.out⟩
 (try clear HO365)
 (try clear BK362)
 (try clear BK369)
 (try clear HB)
 generalize (w22.setCell ⟨gb369, 2, none⟩ (.int .i64 t372)) = w24 at n0_ n1_ n2_ n3_ ⊢
 have HO365 := n0_
 have BK362 := n1_
 have BK369 := n2_
 have HB := n3_
 clear n0_ n1_ n2_ n3_
 replace HO365 := Aside0.mk (Kd.R_drew HO365.out)
 replace BK362 := Aside0.mk (blk_drew BK362.out)
 replace BK369 := Aside0.mk (blk_drew BK369.out)
 replace HB := Aside0.mk (below_drew1 HB.out)
 have p374 : 0 ≤ (t372 : Int) := of_decide_eq_true asmA
 have q374 : t372 < (l0_0.length : Int) := of_decide_eq_true asmA
 obtain ⟨ad374, e374, hx374_0, hx374_1⟩ := at_T67 HR0_0.out t372 p374 q374
 have hw374_1 := hx374_1
 have hw374_0 := hx374_0
 cases e374
 replace hx374_0 := cbx HB hx374_0
 replace hx374_1 := cbx HB hx374_1
 replace p374 := eq_true p374
 replace q374 := eq_true q374
 refine start_ (n := 15) (S := fun w' => w'.cell? ⟨gb369, 0, none⟩ = some (.slice Ao15 t363.length co15) ∧ w'.cell? ⟨gb369, 1, none⟩ = some (.int .i64 t366) ∧ w'.cell? ⟨gb369, 2, none⟩ = some (.int .i64 t372) ∧ w'.cell? ⟨gb362, 0, none⟩ = some (.slice (some ad374) l0_0.length c0_0) ∧ w'.cell? ⟨gb362, 1, none⟩ = some (.int .i64 a0_1) ∧ w'.cell? (ad374.add ((t372).toNat * 2)) = some (.int .i64 ((rd_T67 l0_0 t372).f0)) ∧ w'.cell? ⟨(ad374.add ((t372).toNat * 2)).block, (ad374.add ((t372).toNat * 2)).off + 1, none⟩ = some (.int .i64 ((rd_T67 l0_0 t372).f1))) (ds := [14]) #[false, false, false, false, false, false, false, false, false, false, false, false, false, false, false] (by kernel_rfl) rfl rfl ⟨(blk_cell BK369.out 0).trans rfl, (blk_cell BK369.out 1).trans rfl, (blk_cell BK369.out 2).trans rfl, (blk_cell BK362.out 0).trans rfl, (blk_cell BK362.out 1).trans rfl, ((HB.out.cell (World.block_lt_of_cell? w _ hw374_0)).trans hw374_0), ((HB.out.cell (World.block_lt_of_cell? w _ hw374_1)).trans hw374_1)⟩ (fun hHeld => ?_); refine with_tabW rickyardref15_Key.tab6 rickyardref15_Key.bits6 (fun HT_ HW_ => ?_)
 generalize w24.drew = w25 at HO365 BK362 BK369 HB hx374_0 hx374_1 hHeld ⊢
 refine pureD 0 44 HT_ ?_
 refine pureD 2 46 HT_ ?_
 refine pureD 4 48 HT_ ?_
 refine takeD 1 45 HT_ HW_ hHeld ?_
 refine takeD 3 47 HT_ HW_ hHeld ?_
 refine takeD 5 49 HT_ HW_ hHeld ?_
 refine pureD 6 50 HT_ ?_
 refine pureD 7 51 HT_ ?_
 refine takeD 8 52 HT_ HW_ hHeld ?_
 refine one_ (i := 9) (N := some 53) #[true, true, true, true, true, true, true, true, true, true, false, false, false, false, false] rfl rfl (one_of HT_.out (by kernel_rfl)) (by decide) (fun K hK => ?_)
 refine goes_ Try.func57 (by kernel_rfl) rfl #[.int .i64 t366, .int .i64 ((rd_T67 l0_0 t372).f0)] (by rfl) rfl rfl argA ?_
 with_reducible refine (rickyardref03_Floor.calls t366 ((rd_T67 l0_0 t372).f0) t375 t376 _ A10.out).mono ?_
 rintro e w' ⟨rfl, ⟨nd, rfl⟩⟩
 refine ⟨_, rfl, ?_⟩
 refine hK.out _ _ ⟨(blk_cell BK369.out 0).trans rfl, (blk_cell BK369.out 1).trans rfl, (blk_cell BK369.out 2).trans rfl, (blk_cell BK362.out 0).trans rfl, (blk_cell BK362.out 1).trans rfl, ((HB.out.cell (World.block_lt_of_cell? w _ hw374_0)).trans hw374_0), ((HB.out.cell (World.block_lt_of_cell? w _ hw374_1)).trans hw374_1)⟩ (fun hHeld => ?_)
 clear hK K
 refine norm_ (a' := ?_) ?_ ?_
 rotate_left
 ·show Act.put _ (some 53) _ = _
  simp only [Act.put, List.setIfInBounds_toArray, List.set_cons_zero, List.set_cons_succ, i64_w, i32_w]
  rfl
 refine pureD 10 43 HT_ ?_
 refine pureD 11 54 HT_ ?_
 refine pureD 12 55 HT_ ?_
 refine pureD 13 56 HT_ ?_
 refine last_ (i := 14) (N := none) #[true, true, true, true, true, true, true, true, true, true, true, true, true, true, true] rfl rfl (one_of HT_.out (by kernel_rfl)) (by decide) (fun K hK => ?_)
 have hs26 : w25.cell? ⟨gb369, 1, none⟩ = some (.int .i64 t366) := (blk_cell BK369.out 1).trans rfl
 have hfs26 := blk_frozen BK369.out 1
 have hns26_0 := NB362_369.out
 have hms26_0 := NB369_362.out
 refine skip_ (w1 := ?_) (by rfl) rfl ?_ ?_
 rotate_left
 ·go_simp
  rfl
 refine hK.out _ _ ?_
 clear hK K
 refine done_ (done_of HT_.out (by kernel_rfl)) ?_
 obtain ⟨hcz27_0, hcz27_1, hcz27_2, hfz27_0, hfz27_1, hfz27_2⟩ := blk3 BK369
 try go_wp2_with (first | ((with_reducible refine gate_callee (f := 70) rfl ?_); refine goesL_ (some 59) rfl rfl Try.func70 (by kernel_rfl) rfl #[.agg #[.slice Ao15 t363.length co15, .int .i64 t375, .int .i64 t372]] rfl argA ?_; (with_reducible refine (rickyardref06_Write.calls k _ _ t363 t375 t372 t377 t380 _ ?side1 ?side2 A11.out).mono ?_); (case side1 => refine (Kd.R_reads' (e := 9) (base := w.heap.size) (ok := fun k_ => True) (n := t363.length) (c := co15) ?_).2.2; exact (by (with_reducible repeat (first | apply Kd.R_alloc | apply Kd.R_drewN | apply Kd.R_drew)); exact (Kd.R_mono (Kd.R_far (p := ⟨gb369, 1, none⟩) (Kd.R_types HO365.out BK369.out (by decide)) (fun _ hk => hk.2) (.int .i64 t375)) (fun _ h_ => h_.1)))); (case side2 => exact (Kd.R_reads' HO365.out).2.1); rintro e w28 ⟨v378, rfl, ho0, hb⟩; refine ⟨_, rfl, ?_⟩; have HO379 := Aside0.mk (Kd.R_lower ho0 (below_size (belC HB.out GE362.out GE369.out))); replace HO365 := Aside0.mk (Kd.R_below (by (with_reducible repeat (first | apply Kd.R_alloc | apply Kd.R_drewN | apply Kd.R_drew)); exact (Kd.R_mono (Kd.R_far (p := ⟨gb369, 1, none⟩) (Kd.R_types HO365.out BK369.out (by decide)) (fun _ hk => hk.2) (.int .i64 t375)) (fun _ h_ => h_.1))) hb); replace BK362 := Aside0.mk (blk_below (g := gb362) (o := .cells #[.slice (some ad374) l0_0.length c0_0, .int .i64 a0_1] 24 (0, 0)) (putB BK362.out NB362_369.out) hb); replace BK369 := Aside0.mk (blk_below (g := gb369) (o := .cells #[.slice Ao15 t363.length co15, .int .i64 t375, .int .i64 t372] 62 (0, 0)) (putA BK369.out) hb); replace HB := bs3 HB GE362 GE369 hb; (try clear hb); (try clear ho0)))
 go_ret2
 exact ⟨_, ret1, rowA HO379.out, belC HB.out GE362.out GE369.out⟩
end Go.Proofs.Ytjemmmemenljbaa.PFold
end
section
namespace Go.Proofs.Ytjemmmemenljbaa.PFold
open Go.RowKit Go.Proofs.YtjemmmemenljbaaW.PrintWords Go.Proofs.YtjemmmemenljbaaW.PrintLast Go.Proofs.YtjemmmemenljbaaW.PrintMore
set_option linter.unusedVariables false
set_option linter.unusedSimpArgs false
set_option maxHeartbeats 8000000
set_option maxRecDepth 100000
def mW : Int := 18446744073709551616
def stW (s : Int × Int) (x : S39) : Int × Int := ((s.1 + IntKind.u64.wrap x.f0 + (s.2 + x.f1) / mW) % mW, (s.2 + x.f1) % mW)
theorem mod_mW (x : Int) : 0 ≤ x % mW ∧ x % mW < mW := ⟨Int.emod_nonneg _ (by decide), Int.emod_lt_of_pos _ (by decide)⟩
theorem u64_wrap (x : Int) : IntKind.u64.wrap x = x % mW := by
  unfold mW; show x % 18446744073709551616 = _; rfl
def inU (x : Int) : Prop := 0 ≤ x ∧ x < mW
theorem run_add (x y c : Int) (hx : 0 ≤ x) (hy : 0 ≤ y) (hc0 : 0 ≤ c) (hc : c ≤ 1) (w : World) :
    (callFunc 95 #[.int .u64 x, .int .u64 y, .int .u64 c]).run Try.prog w = .ok (.value (.tuple #[.int .u64 ((x + y + c) % mW), .int .u64 ((x + y + c) / mW)])) w := by
  rw [run_callFunc_extern Try.func95 (by kernel_rfl) (by kernel_rfl) (by kernel_rfl) (e := add64Entry) (by kernel_rfl), run_add64 x y c hx hy hc0 hc]
  rfl
theorem wrap_bd (x : Int) : inU (IntKind.u64.wrap x) := by rw [u64_wrap]; exact mod_mW x
theorem carry_bd {a b : Int} (ha : inU a) (hb : inU b) : 0 ≤ (a + b) / mW ∧ (a + b) / mW ≤ 1 := by
  unfold inU mW at *
  omega
def sumW (l : List S39) : Int × Int := l.foldl stW (0, 0)
theorem sumW_snoc {l : List S39} {j : Nat} (h : j < l.length) : sumW (l.take (j + 1)) = stW (sumW (l.take j)) l[j] := by
  unfold sumW
  rw [List.take_succ_eq_append_getElem h, List.foldl_append]
  rfl
theorem sumW_bd (l : List S39) : inU (sumW l).1 ∧ inU (sumW l).2 := by
  rcases List.eq_nil_or_concat l with rfl | ⟨l', x, rfl⟩
  · exact ⟨⟨Int.le_refl _, by decide⟩, ⟨Int.le_refl _, by decide⟩⟩
  · unfold sumW
    rw [List.concat_eq_append, List.foldl_append]
    exact ⟨mod_mW _, mod_mW _⟩
def SumRel (w : World) (gr : Nat) (wr : World) : Prop := Below w.heap.size w wr ∧ wr.heap[gr]? = some (.cells #[.int .i64 0, .int .u64 0] 39 (0, 0))
theorem wide_sum_calls (A0 : Option Addr) (c0 : Nat) (l0 : List S39) (w : World) (hr0 : Kd.C k39 w A0 l0.length l0) (hl : l0.length ≤ 1000) (hu : ∀ x ∈ l0, inU x.f1) :
    Calls Try.prog 74 #[.slice A0 l0.length c0] w fun e w' => e = .returned (.agg #[.int .i64 (wrap64 (sumW l0).1), .int .u64 (sumW l0).2]) ∧ Below w.heap.size w w' := by
  have HC := Lib.hid hr0; have HU := Lib.hid hu; clear hr0 hu
  go_enter Try.func74, Try.ntmps74
  go_wp2
  go_loopw [3, 4, 10] (fun v3 v4 v wr => ∃ j : Nat, v = .int .i64 j ∧ j ≤ l0.length ∧ v3 = .int .u64 (sumW (l0.take j)).1 ∧ v4 = .int .u64 (sumW (l0.take j)).2 ∧ SumRel w w.heap.size wr) (fun _ _ v _ => l0.length - (intOf v).toNat)
  case atStart => exact ⟨0, rfl, Nat.zero_le _, rfl, rfl, (Below.refl _ _).alloc (Nat.le_refl _) _, blk_new _ _⟩
  case round =>
    obtain ⟨j, rfl, hj, rfl, rfl, hB, hG⟩ := hrel
    have HB := Lib.hid hB; have HG := Lib.hid hG; clear hB hG
    have hs := sumW_bd (l0.take j)
    by_cases hlt : j < l0.length
    · have e1 : decide ((j : Int) < (l0.length : Int)) = true := decide_eq_true (by omega)
      obtain ⟨ad, ha, hx0, hx1⟩ := at_T39 HC.out (j : Int) (by omega) (by omega)
      subst ha
      obtain ⟨x, hx⟩ : ∃ x, x = rd_T39 l0 (j : Int) := ⟨_, rfl⟩
      have hxl : x = l0[j] := by
        rw [hx]; unfold rd_T39
        rw [show ((j : Int)).toNat = j from by omega, List.getD_eq_getElem?_getD, List.getElem?_eq_getElem hlt]
        rfl
      rw [← hx] at hx0 hx1
      simp only [Int.toNat_natCast] at hx0 hx1
      have hux : inU x.f1 := HU.out x (by rw [hxl]; exact List.getElem_mem hlt)
      have hn : sumW (l0.take (j + 1)) = stW (sumW (l0.take j)) x := by rw [sumW_snoc hlt, hxl]
      unfold stW at hn
      generalize sumW (l0.take j) = s at *
      have hr1 : ∀ w, (callFunc 95 #[.int .u64 s.2, .int .u64 x.f1, .int .u64 0]).run Try.prog w = .ok (.value (.tuple #[.int .u64 ((s.2 + x.f1) % mW), .int .u64 ((s.2 + x.f1) / mW)])) w := fun w => by
        have := run_add s.2 x.f1 0 hs.2.1 hux.1 (by omega) (by omega) w
        rw [Int.add_zero] at this; exact this
      have hcb := carry_bd hs.2 hux
      generalize (s.2 + x.f1) / mW = cy at *
      generalize (s.2 + x.f1) % mW = lo at *
      have hr2 : ∀ w, (callFunc 95 #[.int .u64 s.1, .int .u64 (IntKind.u64.wrap x.f0), .int .u64 cy]).run Try.prog w = .ok (.value (.tuple #[.int .u64 ((s.1 + IntKind.u64.wrap x.f0 + cy) % mW), .int .u64 ((s.1 + IntKind.u64.wrap x.f0 + cy) / mW)])) w := fun w => run_add _ _ _ hs.1.1 (wrap_bd x.f0).1 hcb.1 hcb.2 w
      generalize (s.1 + IntKind.u64.wrap x.f0 + cy) % mW = hi at *
      generalize (s.1 + IntKind.u64.wrap x.f0 + cy) / mW = over at *
      have HN := Lib.hid hn
      replace hx0 := (HB.out.cell (World.block_lt_of_cell? w _ hx0)).trans hx0
      replace hx1 := (HB.out.cell (World.block_lt_of_cell? w _ hx1)).trans hx1
      clear hn hxl hx hux hcb hs
      go_wp2
      go_roundw
      case rel => exact ⟨j + 1, by go_num, hlt, by rw [HN.out], by rw [HN.out], HB.out.alloc HB.out.size _, blk_alloc HG.out _⟩
      case measure => simp [intOf]; omega
    · have e1 : decide ((j : Int) < (l0.length : Int)) = false := decide_eq_false (by omega)
      have ht : Hid (l0.take j = l0) := Lib.hid (List.take_of_length_le (by omega))
      have hg0 := (blk_cell HG.out 0).trans (show _ = some (Value.int .i64 0) from rfl)
      have hg1 := (blk_cell HG.out 1).trans (show _ = some (Value.int .u64 0) from rfl)
      have hf0 := blk_frozen HG.out 0
      have hf1 := blk_frozen HG.out 1
      clear hs
      go_wp2
      refine bodyPost_ret (v := .agg #[.int .i64 (wrap64 (sumW (l0.take j)).1), .int .u64 (sumW (l0.take j)).2]) (by simp [results, Try.results74, go_sem, hg0, hg1]) rfl ?_
      rw [ht.out]
      exact ⟨rfl, below_set (below_set HB.out (Nat.le_refl _)) (Nat.le_refl _)⟩
theorem two_wide (w : World) (b : Nat) (x y : S39) (h : w.heap[b]? = some (.cells #[.int .i64 x.f0, .int .u64 x.f1, .int .i64 y.f0, .int .u64 y.f1] 39 (0, 0))) : Kd.C k39 w (some ⟨b, 0, none⟩) [x, y].length [x, y] := by
  refine ⟨rfl, by simp, fun _ => ⟨_, rfl, fun j p hj => ?_⟩⟩
  rcases j with _ | _ | j
  · cases hj
    refine ⟨_, rfl, k39_mk w x, fun i u hu => ?_⟩
    rw [add_plain, blk_cell h]
    rcases i with _ | _ | i
    · exact hu
    · exact hu
    · simp at hu
  · cases hj
    refine ⟨_, rfl, k39_mk w y, fun i u hu => ?_⟩
    rw [add_plain, blk_cell h]
    rcases i with _ | _ | i
    · exact hu
    · exact hu
    · simp at hu
  · simp at hj
def addW (a b : S39) : S39 := ⟨wrap64 (sumW [a, b]).1, (sumW [a, b]).2⟩
instance (x : Int) : Decidable (inU x) := by unfold inU; infer_instance
def wide_Add.f (a0_0 a0_1 a1_0 a1_1 : Int) : Option (Int × Int) := if inU a0_1 ∧ inU a1_1 then some ((addW ⟨a0_0, a0_1⟩ ⟨a1_0, a1_1⟩).f0, (addW ⟨a0_0, a0_1⟩ ⟨a1_0, a1_1⟩).f1) else none
theorem wide_Add.calls (a0_0 a0_1 a1_0 a1_1 : Int) (r1 r2 : Int) (w : World) (h : wide_Add.f a0_0 a0_1 a1_0 a1_1 = some (r1, r2)) :
    Calls Try.prog 44 #[.agg #[.int .i64 a0_0, .int .u64 a0_1], .agg #[.int .i64 a1_0, .int .u64 a1_1]] w fun e w' => e = .returned (.agg #[.int .i64 r1, .int .u64 r2]) ∧ Below w.heap.size w w' := by
  unfold wide_Add.f at h
  by_cases hu : inU a0_1 ∧ inU a1_1
  case neg => rw [if_neg hu] at h; cases h
  rw [if_pos hu] at h
  simp only [Option.some.injEq, Prod.mk.injEq] at h
  obtain ⟨h1, h2⟩ := h
  have HU := Lib.hid hu; have H1 := Lib.hid h1; have H2 := Lib.hid h2
  clear hu h1 h2
  go_enter Try.func44, Try.ntmps44
  go_wp2_with (go_at_call 74; refine (wide_sum_calls (some ⟨w.heap.size + 1 + 1 + 1, 0, none⟩) 2 [⟨a0_0, a0_1⟩, ⟨a1_0, a1_1⟩] _ (two_wide _ _ ⟨a0_0, a0_1⟩ ⟨a1_0, a1_1⟩ (by have := blk_new (((w.alloc (.cells #[.int .i64 a0_0, .int .u64 a0_1] 39)).alloc (.cells #[.int .i64 a1_0, .int .u64 a1_1] 39)).alloc (.cells #[.int .i64 0, .int .u64 0] 39)) (.cells #[.int .i64 a0_0, .int .u64 a0_1, .int .i64 a1_0, .int .u64 a1_1] 39); simpa using this)) (by simp) (by intro x hx; simp at hx; rcases hx with rfl | rfl; exact HU.out.1; exact HU.out.2)).mono ?_; rintro e w1 ⟨rfl, hb⟩; have hk := Lib.hid (blk_below (blk_alloc (blk_new ((w.alloc (.cells #[.int .i64 a0_0, .int .u64 a0_1] 39)).alloc (.cells #[.int .i64 a1_0, .int .u64 a1_1] 39)) (.cells #[.int .i64 0, .int .u64 0] 39)) _) hb); have hB := Lib.hid (below_step ((((Below.refl w.heap.size w).alloc (Nat.le_refl _) _).alloc (by simp) _ |>.alloc (by simp; omega) _).alloc (by simp; omega) _) hb); clear hb; have hc0 := (blk_cell hk.out 0).trans (show _ = some (Value.int .i64 0) from rfl); have hc1 := (blk_cell hk.out 1).trans (show _ = some (Value.int .u64 0) from rfl); have hf0 := blk_frozen hk.out 0; have hf1 := blk_frozen hk.out 1; simp at hc0 hc1 hf0 hf1)
  refine bodyPost_ret (v := .agg #[.int .i64 (wrap64 (sumW [⟨a0_0, a0_1⟩, ⟨a1_0, a1_1⟩]).1), .int .u64 (sumW [⟨a0_0, a0_1⟩, ⟨a1_0, a1_1⟩]).2]) (by simp [results, Try.results44, go_sem, hc0, hc1]) rfl ?_
  rw [← H1.out, ← H2.out]
  exact ⟨rfl, below_set (below_set hB.out (by omega)) (by omega)⟩
end Go.Proofs.Ytjemmmemenljbaa.PFold
end
