import Derived.Test.YtdopbhbbpgfliaaZAskLater23
section
namespace Go.Proofs.Ytdopbhbbpgfliaa.PAsk
open Go.RowKit Go.Proofs.YtdopbhbbpgfliaaW.PrintWords Go.Proofs.YtdopbhbbpgfliaaW.PrintLast Go.Proofs.YtdopbhbbpgfliaaW.PrintMore
attribute [local go_sem] max2_int min2_int max_two min_two max_three min_three max_four min_four   -- for this text's walks alone
set_option linter.unusedVariables false
set_option linter.unusedSimpArgs false
set_option maxHeartbeats 8000000
set_option maxRecDepth 100000
mutual
def rickyardlaw17_AskLater.j0 : Nat → Int → Int → List (S60) → Bool → List (S84) → Int → Option (Bool)
 | 0, _, _, _, _, _, _ => none
 | k + 1, x1, x2, x3, x23, x707000, x707001 => if x23 = true then ((rickyardlaw17_alive.f k).bind fun t708 => (some t708)) else ((ask_Scan.f k x707000 x707001 x1 x3 ([] : List ByteArray) 0 1099511627776).bind fun bt709 => ((ask_Scan.f k x707000 x707001 x2 x3 ([] : List ByteArray) 0 1099511627776).bind fun bt713 => (if bt709.2 = 0 then (rickyardlaw17_AskLater.j1 k x2 bt709.1 bt713.1 (bt713.2 != 0) x707000 x707001) else (rickyardlaw17_AskLater.j1 k x2 bt709.1 bt713.1 true x707000 x707001))))
def rickyardlaw17_AskLater.j1 : Nat → Int → List (S44) → List (S44) → Bool → List (S84) → Int → Option (Bool)
 | 0, _, _, _, _, _, _ => none
 | k + 1, x2, x9, x11, x44, x707000, x707001 => if x44 = true then ((rickyardlaw17_alive.f k).bind fun t717 => (some t717)) else (if (x11.length : Int) > (x9.length : Int) then (some false) else (rickyardlaw17_AskLater.l0 k x2 x9 x11 0 0 x707000 x707001))
def rickyardlaw17_AskLater.l0 : Nat → Int → List (S44) → List (S44) → Int → Int → List (S84) → Int → Option (Bool)
 | 0, _, _, _, _, _, _, _ => none
 | k + 1, x2, x9, x11, x13, x14, x707000, x707001 => if x14 < (x9.length : Int) then (if 0 ≤ x14 then ((grain_Expired.f k x707000 x707001 ((rd_T44 x9 x14).f1) x2).bind fun bt720 => (if bt720.2 = 0 then (if bt720.1 = true then (rickyardlaw17_AskLater.l0 k x2 x9 x11 (IntKind.u64.wrap (x13 + 1)) (wrap64 (x14 + 1)) x707000 x707001) else (rickyardlaw17_AskLater.l0 k x2 x9 x11 x13 (wrap64 (x14 + 1)) x707000 x707001)) else (some false))) else (none)) else ((rickyardlaw17_alive.f k).bind fun t718 => (if t718 = true then (some (decide ((IntKind.u64.wrap ((x11.length : Int))) ≤ (IntKind.u64.wrap ((IntKind.u64.wrap ((x9.length : Int))) - x13))))) else (some false)))
end
def rickyardlaw17_AskLater.f (k : Nat) (l0_0 : List (S84)) (a0_1 : Int) (a1 : Int) (a2 : Int) (l3 : List (S60)) : Option (Bool) := (rickyardlaw15_Great.f k l3).bind fun t707 => (if t707 = true then (rickyardlaw17_AskLater.j0 k a1 a2 l3 true l0_0 a0_1) else (rickyardlaw17_AskLater.j0 k a1 a2 l3 (decide (a2 < a1)) l0_0 a0_1))
def rickyardlaw17_AskLater.T13 : Bool × List (List Nat × List Nat) := (true, [([], []), ([], []), ([], []), ([1, 2], [1, 2]), ([3], [3]), ([4], [4]), ([], []), ([0, 5, 6], [0, 5, 6]), ([7], [7]), ([8], [8]), ([8], [8]), ([9, 7, 0, 1, 2, 3, 4, 5, 6, 7, 8, 9], [9]), ([10, 11, 0, 1, 2, 3, 4, 5, 6, 7, 8, 9, 10, 11], [10])])
def rickyardlaw17_AskLater.B13 : List Nat := [0, 0, 0, 6, 14, 30, 0, 127, 255, 511, 511, 1023, 4095]
theorem rickyardlaw17_AskLater.tab13 : rtab .any (opsOf Try.f6 13) = rickyardlaw17_AskLater.T13 := by kernel_rfl
theorem rickyardlaw17_AskLater.bits13 : waitsOk rickyardlaw17_AskLater.T13.2 rickyardlaw17_AskLater.B13 = true := by kernel_rfl
theorem rickyardlaw17_AskLater.calls (k : Nat) (A0_0 : Option Addr) (c0_0 : Nat) (l0_0 : List (S84)) (a0_1 : Int) (a1 : Int) (a2 : Int) (A3 : Option Addr) (c3 : Nat) (l3 : List (S60)) (r : Bool) (w : World) (hr0_0 : Kd.C k84 w A0_0 l0_0.length l0_0) (hc0_0 : l0_0.length ≤ c0_0) (hr3 : Kd.C k60 w A3 l3.length l3) (hc3 : l3.length ≤ c3) (h : rickyardlaw17_AskLater.f k l0_0 a0_1 a1 a2 l3 = some r) :
  Calls Try.prog 6 #[.agg #[.slice A0_0 l0_0.length c0_0, .int .i64 a0_1], .int .i64 a1, .int .i64 a2, .slice A3 l3.length c3] w fun e w' => e = .returned (.bool r) ∧ Below w.heap.size w w' := by
 have hu24 := Try.underlying24
 have HR0_0 := Aside0.mk hr0_0
 have HC0_0 := Aside0.mk hc0_0
 clear hr0_0 hc0_0
 have HR3 := Aside0.mk hr3
 have HC3 := Aside0.mk hc3
 clear hr3 hc3
 have HB := Aside0.mk (Below.refl w.heap.size w)
 have H : ((rickyardlaw15_Great.f k l3).bind fun t707 => (if t707 = true then (rickyardlaw17_AskLater.j0 k a1 a2 l3 true l0_0 a0_1) else (rickyardlaw17_AskLater.j0 k a1 a2 l3 (decide (a2 < a1)) l0_0 a0_1))) = some r := h
 clear h
 have HC5 := Aside0.mk H
 clear H
 go_enter Try.func6, Try.ntmps6
 go_upto_region 1 with (first | ((with_reducible refine gate_dst (N := 4) rfl ?_); (try (refine gate_guard (by rfl) ?_; dsimp only)); refine boxA 4 #[.slice A0_0 l0_0.length c0_0, .int .i64 a0_1] 24 ?_; intro gb706 hg w6 hbox hb; have BK706 := Aside0.mk (hbox); have GE706 := ge1 hg (belA HB.out); replace HB := bst HB hb; clear hb hbox hg))
 (try simp only [Act.put, List.setIfInBounds_toArray, List.set_cons_zero, List.set_cons_succ])
 go_cut [23] (fun v23 wc => ∃ (kq : Nat) (x23_4 : Bool), v23 = .bool x23_4 ∧ Aside0 (rickyardlaw17_AskLater.j0 kq a1 a2 l3 x23_4 l0_0 a0_1 = some r) ∧ Aside0 (kq ≤ k) ∧ Aside0 (wc.heap[gb706]? = some (.cells #[(.slice A0_0 l0_0.length c0_0), .int .i64 a0_1] 24 (0, 0))) ∧ Aside0 (Below w.heap.size w wc))
 case first =>
  have H := HC5.out
  clear HC5
  replace H := bnA H
  obtain ⟨t707, A7, H⟩ := H
  by_cases c8 : t707 = true
  ·subst c8
   have H1 : (rickyardlaw17_AskLater.j0 k a1 a2 l3 true l0_0 a0_1) = some r := by rw [if_pos rfl] at H; exact H
   clear H
   have H := H1
   clear H1
   have H' := Aside0.mk H
   clear H
   go_wp2_with (first | ((with_reducible refine gate_callee (f := 7) rfl ?_); refine goesL_ (some 18) rfl rfl Try.func7 (by kernel_rfl) rfl #[.slice A3 l3.length c3] rfl argA ?_; (with_reducible refine (rickyardlaw15_Great.calls k _ _ l3 true _ ?side1 ?side2 A7.out).mono ?_); (case side1 => exact cb1 HR3 HB); (case side2 => exact HC3.out); rintro e w' ⟨rfl, ⟨nd, rfl⟩⟩; refine ⟨_, rfl, ?_⟩))
   go_meet
   case rel => exact ⟨_, (true), relA, H', ⟨by first | omega | exact Nat.le_refl _⟩, ⟨blkA BK706.out⟩, ⟨belB HB.out GE706.out⟩⟩
  replace c8 := Bool.eq_false_iff.mpr c8
  subst c8
  have H1 : (rickyardlaw17_AskLater.j0 k a1 a2 l3 (decide (a2 < a1)) l0_0 a0_1) = some r := by rw [if_neg (show ¬ (false = true) by decide)] at H; exact H
  clear H
  have H := H1
  clear H1
  have H' := Aside0.mk H
  clear H
  go_wp2_with (first | ((with_reducible refine gate_callee (f := 7) rfl ?_); refine goesL_ (some 18) rfl rfl Try.func7 (by kernel_rfl) rfl #[.slice A3 l3.length c3] rfl argA ?_; (with_reducible refine (rickyardlaw15_Great.calls k _ _ l3 false _ ?side1 ?side2 A7.out).mono ?_); (case side1 => exact cb1 HR3 HB); (case side2 => exact HC3.out); rintro e w' ⟨rfl, ⟨nd, rfl⟩⟩; refine ⟨_, rfl, ?_⟩))
  go_meet
  case rel => exact ⟨_, (decide (a2 < a1)), relA, H', ⟨by first | omega | exact Nat.le_refl _⟩, ⟨blkA BK706.out⟩, ⟨belB HB.out GE706.out⟩⟩
 case rest =>
  clear HC5
  try clear p2
  try clear c3
  try clear c6
  try clear c7
  try clear c8
  obtain ⟨kq, x23_4, rfl, HA, HJ4, BK706, HB⟩ := hcut
  cases kq with
  | zero => exact absurd HA.out (by simp [rickyardlaw17_AskLater.j0])
  | succ kj4 =>
   have H := HA.out
   clear HA
   simp only [rickyardlaw17_AskLater.j0] at H
   by_cases c9 : x23_4 = true
   ·subst c9
    have H1 : ((rickyardlaw17_alive.f kj4).bind fun t708 => (some t708)) = some r := by rw [if_pos rfl] at H; exact H
    clear H
    have H := H1
    clear H1
    replace H := bnA H
    obtain ⟨t708, A10, H⟩ := H
    obtain rfl := Option.some.inj H
    go_wp2_with (first | ((with_reducible refine gate_callee (f := 9) rfl ?_); refine goesL_ (some 24) rfl rfl Try.func9 (by kernel_rfl) rfl #[] rfl argA ?_; (with_reducible refine (rickyardlaw17_alive.calls kj4  t708 _ A10.out).mono ?_); rintro e w11 ⟨rfl, hb⟩; refine ⟨_, rfl, ?_⟩; replace BK706 := blkB BK706 hb; replace HB := bs2 HB GE706 hb; (try clear hb)))
    go_ret
    exact ⟨ret1, belB HB.out GE706.out⟩
   replace c9 := Bool.eq_false_iff.mpr c9
   subst c9
   have H1 : ((ask_Scan.f kj4 l0_0 a0_1 a1 l3 ([] : List ByteArray) 0 1099511627776).bind fun bt709 => ((ask_Scan.f kj4 l0_0 a0_1 a2 l3 ([] : List ByteArray) 0 1099511627776).bind fun bt713 => (if bt709.2 = 0 then (rickyardlaw17_AskLater.j1 kj4 a2 bt709.1 bt713.1 (bt713.2 != 0) l0_0 a0_1) else (rickyardlaw17_AskLater.j1 kj4 a2 bt709.1 bt713.1 true l0_0 a0_1)))) = some r := by rw [if_neg (show ¬ (false = true) by decide)] at H; exact H
   clear H
   have H := H1
   clear H1
   replace H := bnA H
   obtain ⟨⟨t709, t712⟩, A12, H⟩ := H
   replace H : ((ask_Scan.f kj4 l0_0 a0_1 a2 l3 ([] : List ByteArray) 0 1099511627776).bind fun bt713 => (if t712 = 0 then (rickyardlaw17_AskLater.j1 kj4 a2 t709 bt713.1 (bt713.2 != 0) l0_0 a0_1) else (rickyardlaw17_AskLater.j1 kj4 a2 t709 bt713.1 true l0_0 a0_1))) = some r := H
   replace H := bnA H
   obtain ⟨⟨t713, t716⟩, A13, H⟩ := H
   replace H : (if t712 = 0 then (rickyardlaw17_AskLater.j1 kj4 a2 t709 t713 (t716 != 0) l0_0 a0_1) else (rickyardlaw17_AskLater.j1 kj4 a2 t709 t713 true l0_0 a0_1)) = some r := H
   have HC14 := Aside0.mk H
   clear H
   obtain ⟨hcz15_0, hcz15_1, hfz15_0, hfz15_1⟩ := blk2 BK706
   go_upto_region 5 with (first | ((with_reducible refine gate_callee (f := 10) rfl ?_); refine goesL_ (some 29) rfl rfl Try.func10 (by kernel_rfl) rfl #[.agg #[.slice A0_0 l0_0.length c0_0, .int .i64 a0_1], .int .i64 a1, .slice A3 l3.length c3, .slice none 0 0, .int .i64 0, .int .i64 1099511627776] rfl argA ?_; (refine (ask_Scan.calls kj4 _ _ l0_0 a0_1 a1 _ _ l3 _ _ ([] : List ByteArray) 0 1099511627776 t709 t712 _ ?side1 ?side2 ?side3 ?side4 ?side5 ?side6 A12.out).mono ?_); (case side1 => exact cb1 HR0_0 HB); (case side2 => exact HC0_0.out); (case side3 => exact cb1 HR3 HB); (case side4 => exact HC3.out); (case side5 => exact Kd.C_nil _ _); (case side6 => exact Nat.le_refl _); rintro e w16 ⟨v710, rfl, ho0, hb⟩; refine ⟨_, rfl, ?_⟩; have HO711 := Aside0.mk (Kd.R_lower ho0 (below_size (belB HB.out GE706.out))); replace BK706 := blkB BK706 hb; replace HB := bs2 HB GE706 hb; (try clear hb); (try clear ho0); obtain ⟨hcz17_0, hcz17_1, hfz17_0, hfz17_1⟩ := blk2 BK706) | ((with_reducible refine gate_callee (f := 10) rfl ?_); refine goesL_ (some 36) rfl rfl Try.func10 (by kernel_rfl) rfl #[.agg #[.slice A0_0 l0_0.length c0_0, .int .i64 a0_1], .int .i64 a2, .slice A3 l3.length c3, .slice none 0 0, .int .i64 0, .int .i64 1099511627776] rfl argA ?_; (refine (ask_Scan.calls kj4 _ _ l0_0 a0_1 a2 _ _ l3 _ _ ([] : List ByteArray) 0 1099511627776 t713 t716 _ ?side1 ?side2 ?side3 ?side4 ?side5 ?side6 A13.out).mono ?_); (case side1 => exact cb1 HR0_0 HB); (case side2 => exact HC0_0.out); (case side3 => exact cb1 HR3 HB); (case side4 => exact HC3.out); (case side5 => exact Kd.C_nil _ _); (case side6 => exact Nat.le_refl _); rintro e w18 ⟨v714, rfl, ho0, hb⟩; refine ⟨_, rfl, ?_⟩; have HO715 := Aside0.mk (Kd.R_lower (Kd.R_new' ho0 (Kd.R_lt (rowA HO711.out))) (below_size (belB HB.out GE706.out))); replace HO711 := Aside0.mk (Kd.R_elder' (rowA HO711.out) (Kd.R_base ho0) hb); replace BK706 := blkB BK706 hb; replace HB := bs2 HB GE706 hb; (try clear hb); (try clear ho0)))
   (try simp only [Act.put, List.setIfInBounds_toArray, List.set_cons_zero, List.set_cons_succ])
   go_cut [44] (fun v44 wc => ∃ (kq : Nat) (x44_13 : Bool), v44 = .bool x44_13 ∧ Aside0 (rickyardlaw17_AskLater.j1 kq a2 t709 t713 x44_13 l0_0 a0_1 = some r) ∧ Aside0 (kq ≤ kj4) ∧ Aside0 (Kd.R k44 44 wc w.heap.size (fun k_ => some k_ ≠ (v714 : Value).ownBlock) v710 t709) ∧ Aside0 (Kd.R k44 44 wc w.heap.size (fun k_ => some k_ ≠ (v710 : Value).ownBlock) v714 t713) ∧ Aside0 (wc.heap[gb706]? = some (.cells #[(.slice A0_0 l0_0.length c0_0), .int .i64 a0_1] 24 (0, 0))) ∧ Aside0 (Below w.heap.size w wc))
   case first =>
    have H := HC14.out
    clear HC14
    by_cases c19 : t712 = 0
    ·rw [if_pos c19] at H
     have c19b0 := beq_iff_eq.mpr c19
     have c19b1 := bne_eq_false_iff_eq.mpr c19
     clear c19
     (first | rw [c19b0] | (simp only [i64_w, i32_w]; rw [c19b0]) | skip)
     have H' := Aside0.mk H
     clear H
     go_wp2
     go_meet
     case rel => exact ⟨_, ((t716 != 0)), relA, H', ⟨by have := HJ4.out; first | omega | exact Nat.le_refl _⟩, ⟨by (with_reducible repeat (first | apply Kd.R_alloc | apply Kd.R_drewN | apply Kd.R_drew)); exact Kd.R_mono HO711.out (fun _ hk => hk.2)⟩, ⟨by (with_reducible repeat (first | apply Kd.R_alloc | apply Kd.R_drewN | apply Kd.R_drew)); exact Kd.R_mono HO715.out (fun _ hk => hk.2)⟩, ⟨blkA BK706.out⟩, ⟨belB HB.out GE706.out⟩⟩
    ·rw [if_neg c19] at H
     have c19b0 := beq_eq_false_iff_ne.mpr c19
     have c19b1 := bne_iff_ne.mpr c19
     (first | rw [c19b0] | (simp only [i64_w, i32_w]; rw [c19b0]) | skip)
     have H' := Aside0.mk H
     clear H
     go_wp2
     go_meet
     case rel => exact ⟨_, (true), relA, H', ⟨by have := HJ4.out; first | omega | exact Nat.le_refl _⟩, ⟨by (with_reducible repeat (first | apply Kd.R_alloc | apply Kd.R_drewN | apply Kd.R_drew)); exact Kd.R_mono HO711.out (fun _ hk => hk.2)⟩, ⟨by (with_reducible repeat (first | apply Kd.R_alloc | apply Kd.R_drewN | apply Kd.R_drew)); exact Kd.R_mono HO715.out (fun _ hk => hk.2)⟩, ⟨blkA BK706.out⟩, ⟨belB HB.out GE706.out⟩⟩
   case rest =>
    clear HC14
    try clear c1
    try clear p2
    try clear c3
    try clear c6
    try clear c7
    try clear c8
    try clear c9
    try clear c10
    try clear c19
    try clear c19b0
    try clear c19b1
    try clear hcz15_0 hcz15_1
    try clear hcz17_0 hcz17_1
    try clear hfz15_0 hfz15_1
    try clear hfz17_0 hfz17_1
    try clear p2
    obtain ⟨kq, x44_13, rfl, HA, HJ13, HO_9, HO_11, BK706, HB⟩ := hcut
    cases kq with
    | zero => exact absurd HA.out (by simp [rickyardlaw17_AskLater.j1])
    | succ kj13 =>
     have H := HA.out
     clear HA
     simp only [rickyardlaw17_AskLater.j1] at H
     by_cases c20 : x44_13 = true
     ·subst c20
      have H1 : ((rickyardlaw17_alive.f kj13).bind fun t717 => (some t717)) = some r := by rw [if_pos rfl] at H; exact H
      clear H
      have H := H1
      clear H1
      replace H := bnA H
      obtain ⟨t717, A21, H⟩ := H
      obtain rfl := Option.some.inj H
      go_wp2_with (first | ((with_reducible refine gate_callee (f := 9) rfl ?_); refine goesL_ (some 45) rfl rfl Try.func9 (by kernel_rfl) rfl #[] rfl argA ?_; (with_reducible refine (rickyardlaw17_alive.calls kj13  t717 _ A21.out).mono ?_); rintro e w22 ⟨rfl, hb⟩; refine ⟨_, rfl, ?_⟩; replace HO_9 := Aside0.mk (Kd.R_below (rowA HO_9.out) hb); replace HO_11 := Aside0.mk (Kd.R_below (rowA HO_11.out) hb); replace BK706 := blkB BK706 hb; replace HB := bs2 HB GE706 hb; (try clear hb)))
      go_ret
      exact ⟨ret1, belB HB.out GE706.out⟩
     ·replace c20 := Bool.eq_false_iff.mpr c20
      subst c20
      have H1 : (if (t713.length : Int) > (t709.length : Int) then (some false) else (rickyardlaw17_AskLater.l0 kj13 a2 t709 t713 0 0 l0_0 a0_1)) = some r := by rw [if_neg (show ¬ (false = true) by decide)] at H; exact H
      clear H
      have H := H1
      clear H1
      by_cases c23 : (t713.length : Int) > (t709.length : Int)
      ·rw [if_pos c23] at H
       have c23b0 := decide_eq_true c23
       have c23b1 : decide (t709.length < t713.length) = true := decide_eq_true (Int.ofNat_lt.mp c23)
       clear c23
       obtain rfl := Option.some.inj H
       obtain ⟨Ao24, co24, eo24⟩ := Kd.R_slice HO_11.out
       subst eo24
       obtain ⟨Ao25, co25, eo25⟩ := Kd.R_slice HO_9.out
       subst eo25
       go_wp2
       go_ret
       exact ⟨ret1, belB HB.out GE706.out⟩
      ·rw [if_neg c23] at H
       have c23b0 := decide_eq_false c23
       have c23b1 : decide (t709.length < t713.length) = false := decide_eq_false (fun h => c23 (Int.ofNat_lt.mpr h))
       clear c23
       have H' := Aside0.mk H
       clear H
       obtain ⟨Ao26, co26, eo26⟩ := Kd.R_slice HO_11.out
       subst eo26
       obtain ⟨Ao27, co27, eo27⟩ := Kd.R_slice HO_9.out
       subst eo27
       go_wp2
       go_loopg [13, 14] kj13 (fun kq v13 v14 w' => ∃ (x13_3 : Int) (x14_3 : Int), v13 = .int .u64 x13_3 ∧ v14 = .int .i64 x14_3 ∧ Aside0 (rickyardlaw17_AskLater.l0 kq a2 t709 t713 x13_3 x14_3 l0_0 a0_1 = some r) ∧ Aside0 (kq ≤ kj13) ∧ Aside0 (Kd.R k44 44 w' w.heap.size (fun k_ => some k_ ≠ ((.slice Ao26 t713.length co26) : Value).ownBlock) (.slice Ao27 t709.length co27) t709) ∧ Aside0 (Kd.R k44 44 w' w.heap.size (fun k_ => some k_ ≠ ((.slice Ao27 t709.length co27) : Value).ownBlock) (.slice Ao26 t713.length co26) t713) ∧ Aside0 (w'.heap[gb706]? = some (.cells #[(.slice A0_0 l0_0.length c0_0), .int .i64 a0_1] 24 (0, 0))) ∧ Aside0 (Below w.heap.size w w'))
       case atStart => exact ⟨(0), (0), relA, relA, H', ⟨Nat.le_refl _⟩, ⟨rowA HO_9.out⟩, ⟨rowA HO_11.out⟩, ⟨blkA BK706.out⟩, ⟨belB HB.out GE706.out⟩⟩
       case round =>
        clear H'
        try clear c1
        try clear c2
        try clear p2
        try clear c3
        try clear c6
        try clear c7
        try clear c8
        try clear c9
        try clear c10
        try clear c19
        try clear c19b0
        try clear c19b1
        try clear c20
        try clear c23
        try clear c23b0
        try clear c23b1
        try clear hcz15_0 hcz15_1
        try clear hcz17_0 hcz17_1
        try clear hfz15_0 hfz15_1
        try clear hfz17_0 hfz17_1
        try clear p2
        obtain ⟨x13_3, x14_3, rfl, rfl, HA, HK3, HO_9, HO_11, BK706, HB⟩ := hrel
        cases gk with
        | zero => exact absurd HA.out (by simp [rickyardlaw17_AskLater.l0])
        | succ k3 =>
         have H := HA.out
         clear HA
         simp only [rickyardlaw17_AskLater.l0] at H
         by_cases c28 : x14_3 < (t709.length : Int)
         ·rw [if_pos c28] at H
          have c28b0 := decide_eq_true c28
          clear c28
          by_cases c29 : 0 ≤ x14_3
          ·rw [if_pos c29] at H
           have c29b0 := decide_eq_true c29
           clear c29
           replace H := bnA H
           obtain ⟨⟨t720, t721⟩, A30, H⟩ := H
           replace H : (if t721 = 0 then (if t720 = true then (rickyardlaw17_AskLater.l0 k3 a2 t709 t713 (IntKind.u64.wrap (x13_3 + 1)) (wrap64 (x14_3 + 1)) l0_0 a0_1) else (rickyardlaw17_AskLater.l0 k3 a2 t709 t713 x13_3 (wrap64 (x14_3 + 1)) l0_0 a0_1)) else (some false)) = some r := H
           by_cases c31 : t721 = 0
           ·rw [if_pos c31] at H
            have c31b0 := beq_iff_eq.mpr c31
            have c31b1 := bne_eq_false_iff_eq.mpr c31
            clear c31
            by_cases c32 : t720 = true
            ·subst c32
             have H1 : (rickyardlaw17_AskLater.l0 k3 a2 t709 t713 (IntKind.u64.wrap (x13_3 + 1)) (wrap64 (x14_3 + 1)) l0_0 a0_1) = some r := by rw [if_pos rfl] at H; exact H
             clear H
             have H := H1
             clear H1
             have H' := Aside0.mk H
             clear H
             try go_wp2
             replace HO_9 := Aside0.mk (Kd.R_drew HO_9.out)
             replace HO_11 := Aside0.mk (Kd.R_drew HO_11.out)
             replace BK706 := Aside0.mk (blk_drew BK706.out)
             replace HB := Aside0.mk (below_drew1 HB.out)
             have p719 : 0 ≤ (x14_3 : Int) := of_decide_eq_true asmA
             have q719 : x14_3 < (t709.length : Int) := of_decide_eq_true asmA
             obtain ⟨ad719, A719_0, c719_0, e719, hx719_0, hx719_1, hx719_2, hx719_3, hx719_4, hx719_5, hx719_6, hx719_7, hx719_8, hl719_0, hi719_0⟩ := at_T44 (Kd.R_reads' HO_9.out).2.2 x14_3 p719 q719
             cases e719
             obtain ⟨ce719, hce719, hMe719, hcc719⟩ := Kd.R_get HO_9.out z44 x14_3 p719 (by first | exact q719 | exact of_decide_eq_true asmA | (have e_ := (Kd.R_reads' HO_9.out).1; omega))
             obtain ⟨ve719_0, rfl, ge719_0⟩ := k44_openM hMe719
             have hv719_0 := hcc719 0 _ rfl
             rw [Nat.add_zero] at hv719_0
             replace hv719_0 := Option.some.inj (hv719_0.symm.trans hx719_0)
             rw [hv719_0] at ge719_0
             have HL719_0 := Aside0.mk (show Kd.R Kd.string 9 _ _ _ _ ((rd_T44 t709 x14_3).f0) from ge719_0)
             clear hv719_0 ge719_0
             clear hcc719 hce719
             have HR719_0 := Aside0.mk hi719_0
             have HC719_0 := Aside0.mk hl719_0
             clear hi719_0 hl719_0
             replace p719 := eq_true p719
             replace q719 := eq_true q719
             refine start_ (n := 13) (S := fun w' => w'.cell? ⟨gb706, 0, none⟩ = some (.slice A0_0 l0_0.length c0_0) ∧ w'.cell? ⟨gb706, 1, none⟩ = some (.int .i64 a0_1) ∧ w'.cell? (ad719.add ((x14_3).toNat * 9)) = some (.slice A719_0 ((rd_T44 t709 x14_3).f0).length c719_0) ∧ w'.cell? ⟨(ad719.add ((x14_3).toNat * 9)).block, (ad719.add ((x14_3).toNat * 9)).off + 1, none⟩ = some (.int .i64 ((rd_T44 t709 x14_3).f1)) ∧ w'.cell? ⟨(ad719.add ((x14_3).toNat * 9)).block, (ad719.add ((x14_3).toNat * 9)).off + 2, none⟩ = some (.int .i64 ((rd_T44 t709 x14_3).f2)) ∧ w'.cell? ⟨(ad719.add ((x14_3).toNat * 9)).block, (ad719.add ((x14_3).toNat * 9)).off + 3, none⟩ = some (.int .u64 ((rd_T44 t709 x14_3).f3.f0)) ∧ w'.cell? ⟨(ad719.add ((x14_3).toNat * 9)).block, (ad719.add ((x14_3).toNat * 9)).off + 4, none⟩ = some (.bool ((rd_T44 t709 x14_3).f3.f1)) ∧ w'.cell? ⟨(ad719.add ((x14_3).toNat * 9)).block, (ad719.add ((x14_3).toNat * 9)).off + 5, none⟩ = some (.int .i64 ((rd_T44 t709 x14_3).f3.f2.f0)) ∧ w'.cell? ⟨(ad719.add ((x14_3).toNat * 9)).block, (ad719.add ((x14_3).toNat * 9)).off + 6, none⟩ = some (.int .u64 ((rd_T44 t709 x14_3).f3.f2.f1)) ∧ w'.cell? ⟨(ad719.add ((x14_3).toNat * 9)).block, (ad719.add ((x14_3).toNat * 9)).off + 7, none⟩ = some (.int .i64 ((rd_T44 t709 x14_3).f3.f3)) ∧ w'.cell? ⟨(ad719.add ((x14_3).toNat * 9)).block, (ad719.add ((x14_3).toNat * 9)).off + 8, none⟩ = some (.int .i64 ((rd_T44 t709 x14_3).f3.f4))) (ds := []) #[false, false, false, false, false, false, false, false, false, false, false, false, false] (by kernel_rfl) rfl rfl ⟨(blk_cell BK706.out 0).trans rfl, (blk_cell BK706.out 1).trans rfl, hx719_0, hx719_1, hx719_2, hx719_3, hx719_4, hx719_5, hx719_6, hx719_7, hx719_8⟩ (fun hHeld => ?_); refine with_tabW rickyardlaw17_AskLater.tab13 rickyardlaw17_AskLater.bits13 (fun HT_ HW_ => ?_)
             generalize wr.drew = w33 at HO_9 HO_11 BK706 HB HL719_0 HR719_0 hx719_0 hx719_1 hx719_2 hx719_3 hx719_4 hx719_5 hx719_6 hx719_7 hx719_8 hHeld ⊢
             refine pureD 1 59 HT_ ?_
             refine pureD 2 60 HT_ ?_
             refine pureD 3 61 HT_ ?_
             refine pureD 4 62 HT_ ?_
             refine pureD 6 64 HT_ ?_
             refine takeD 0 58 HT_ HW_ hHeld ?_
             refine takeD 5 63 HT_ HW_ hHeld ?_
             refine one_ (i := 7) (N := some 65) #[true, true, true, true, true, true, true, true, false, false, false, false, false] rfl rfl (one_of HT_.out (by kernel_rfl)) (by decide) (fun K hK => ?_)
             refine goes_ Try.func18 (by kernel_rfl) rfl #[.agg #[.slice A0_0 l0_0.length c0_0, .int .i64 a0_1], .int .i64 ((rd_T44 t709 x14_3).f1), .int .i64 a2] (by rfl) rfl rfl argA ?_
             with_reducible refine (grain_Expired.calls k3 _ _ l0_0 a0_1 ((rd_T44 t709 x14_3).f1) a2 true t721 _ ?side1 ?side2 A30.out).mono ?_
             (case side1 => exact cb1 HR0_0 HB)
             (case side2 => exact HC0_0.out)
             rintro e w34 ⟨rfl, hb⟩
             have HS2_ := (hb.cell (World.block_lt_of_cell? _ _ (hHeld.2.2.1))).trans (hHeld.2.2.1)
             have HS3_ := (hb.cell (World.block_lt_of_cell? _ _ (hHeld.2.2.2.1))).trans (hHeld.2.2.2.1)
             have HS4_ := (hb.cell (World.block_lt_of_cell? _ _ (hHeld.2.2.2.2.1))).trans (hHeld.2.2.2.2.1)
             have HS5_ := (hb.cell (World.block_lt_of_cell? _ _ (hHeld.2.2.2.2.2.1))).trans (hHeld.2.2.2.2.2.1)
             have HS6_ := (hb.cell (World.block_lt_of_cell? _ _ (hHeld.2.2.2.2.2.2.1))).trans (hHeld.2.2.2.2.2.2.1)
             have HS7_ := (hb.cell (World.block_lt_of_cell? _ _ (hHeld.2.2.2.2.2.2.2.1))).trans (hHeld.2.2.2.2.2.2.2.1)
             have HS8_ := (hb.cell (World.block_lt_of_cell? _ _ (hHeld.2.2.2.2.2.2.2.2.1))).trans (hHeld.2.2.2.2.2.2.2.2.1)
             have HS9_ := (hb.cell (World.block_lt_of_cell? _ _ (hHeld.2.2.2.2.2.2.2.2.2.1))).trans (hHeld.2.2.2.2.2.2.2.2.2.1)
             have HS10_ := (hb.cell (World.block_lt_of_cell? _ _ (hHeld.2.2.2.2.2.2.2.2.2.2))).trans (hHeld.2.2.2.2.2.2.2.2.2.2)
             refine ⟨_, rfl, ?_⟩
             replace HO_9 := Aside0.mk (Kd.R_below (rowA HO_9.out) hb)
             replace HO_11 := Aside0.mk (Kd.R_below (rowA HO_11.out) hb)
             replace HL719_0 := Aside0.mk (Kd.R_below (rowA HL719_0.out) hb)
             replace BK706 := blkB BK706 hb
             replace HR719_0 := Aside0.mk (Kd.C_below (celA HR719_0.out) hb)
             replace HB := bs2 HB GE706 hb
             (try clear hb)
             refine hK.out _ _ ⟨(blk_cell BK706.out 0).trans rfl, (blk_cell BK706.out 1).trans rfl, HS2_, HS3_, HS4_, HS5_, HS6_, HS7_, HS8_, HS9_, HS10_⟩ (fun hHeld => ?_)
             clear hK K
             refine norm_ (a' := ?_) ?_ ?_
             rotate_left
             ·show Act.put _ (some 65) _ = _
              simp only [Act.put, List.setIfInBounds_toArray, List.set_cons_zero, List.set_cons_succ, i64_w, i32_w]
              rfl
             refine pureD 8 57 HT_ ?_
             refine pureD 9 66 HT_ ?_
             refine pureD 10 67 HT_ ?_
             refine pureD 11 15 HT_ ?_
             refine pureD 12 16 HT_ ?_
             refine done_ (done_of HT_.out (by kernel_rfl)) ?_
             try go_wp2
             go_roundg k3
             case measure => have := HJ4.out; have := HJ13.out; have := HK3.out; omega
             case rel => exact ⟨(IntKind.u64.wrap (x13_3 + 1)), (wrap64 (x14_3 + 1)), relA, relA, H', ⟨by have := HJ4.out; have := HJ13.out; have := HK3.out; omega⟩, ⟨rowA HO_9.out⟩, ⟨rowA HO_11.out⟩, ⟨blkA BK706.out⟩, ⟨belB HB.out GE706.out⟩⟩
            ·replace c32 := Bool.eq_false_iff.mpr c32
             subst c32
             have H1 : (rickyardlaw17_AskLater.l0 k3 a2 t709 t713 x13_3 (wrap64 (x14_3 + 1)) l0_0 a0_1) = some r := by rw [if_neg (show ¬ (false = true) by decide)] at H; exact H
             clear H
             have H := H1
             clear H1
             have H' := Aside0.mk H
             clear H
             try go_wp2
             replace HO_9 := Aside0.mk (Kd.R_drew HO_9.out)
             replace HO_11 := Aside0.mk (Kd.R_drew HO_11.out)
             replace BK706 := Aside0.mk (blk_drew BK706.out)
             replace HB := Aside0.mk (below_drew1 HB.out)
             have p719 : 0 ≤ (x14_3 : Int) := of_decide_eq_true asmA
             have q719 : x14_3 < (t709.length : Int) := of_decide_eq_true asmA
             obtain ⟨ad719, A719_0, c719_0, e719, hx719_0, hx719_1, hx719_2, hx719_3, hx719_4, hx719_5, hx719_6, hx719_7, hx719_8, hl719_0, hi719_0⟩ := at_T44 (Kd.R_reads' HO_9.out).2.2 x14_3 p719 q719
             cases e719
             obtain ⟨ce719, hce719, hMe719, hcc719⟩ := Kd.R_get HO_9.out z44 x14_3 p719 (by first | exact q719 | exact of_decide_eq_true asmA | (have e_ := (Kd.R_reads' HO_9.out).1; omega))
             obtain ⟨ve719_0, rfl, ge719_0⟩ := k44_openM hMe719
             have hv719_0 := hcc719 0 _ rfl
             rw [Nat.add_zero] at hv719_0
             replace hv719_0 := Option.some.inj (hv719_0.symm.trans hx719_0)
             rw [hv719_0] at ge719_0
             have HL719_0 := Aside0.mk (show Kd.R Kd.string 9 _ _ _ _ ((rd_T44 t709 x14_3).f0) from ge719_0)
             clear hv719_0 ge719_0
             clear hcc719 hce719
             have HR719_0 := Aside0.mk hi719_0
             have HC719_0 := Aside0.mk hl719_0
             clear hi719_0 hl719_0
             replace p719 := eq_true p719
             replace q719 := eq_true q719
             refine start_ (n := 13) (S := fun w' => w'.cell? ⟨gb706, 0, none⟩ = some (.slice A0_0 l0_0.length c0_0) ∧ w'.cell? ⟨gb706, 1, none⟩ = some (.int .i64 a0_1) ∧ w'.cell? (ad719.add ((x14_3).toNat * 9)) = some (.slice A719_0 ((rd_T44 t709 x14_3).f0).length c719_0) ∧ w'.cell? ⟨(ad719.add ((x14_3).toNat * 9)).block, (ad719.add ((x14_3).toNat * 9)).off + 1, none⟩ = some (.int .i64 ((rd_T44 t709 x14_3).f1)) ∧ w'.cell? ⟨(ad719.add ((x14_3).toNat * 9)).block, (ad719.add ((x14_3).toNat * 9)).off + 2, none⟩ = some (.int .i64 ((rd_T44 t709 x14_3).f2)) ∧ w'.cell? ⟨(ad719.add ((x14_3).toNat * 9)).block, (ad719.add ((x14_3).toNat * 9)).off + 3, none⟩ = some (.int .u64 ((rd_T44 t709 x14_3).f3.f0)) ∧ w'.cell? ⟨(ad719.add ((x14_3).toNat * 9)).block, (ad719.add ((x14_3).toNat * 9)).off + 4, none⟩ = some (.bool ((rd_T44 t709 x14_3).f3.f1)) ∧ w'.cell? ⟨(ad719.add ((x14_3).toNat * 9)).block, (ad719.add ((x14_3).toNat * 9)).off + 5, none⟩ = some (.int .i64 ((rd_T44 t709 x14_3).f3.f2.f0)) ∧ w'.cell? ⟨(ad719.add ((x14_3).toNat * 9)).block, (ad719.add ((x14_3).toNat * 9)).off + 6, none⟩ = some (.int .u64 ((rd_T44 t709 x14_3).f3.f2.f1)) ∧ w'.cell? ⟨(ad719.add ((x14_3).toNat * 9)).block, (ad719.add ((x14_3).toNat * 9)).off + 7, none⟩ = some (.int .i64 ((rd_T44 t709 x14_3).f3.f3)) ∧ w'.cell? ⟨(ad719.add ((x14_3).toNat * 9)).block, (ad719.add ((x14_3).toNat * 9)).off + 8, none⟩ = some (.int .i64 ((rd_T44 t709 x14_3).f3.f4))) (ds := []) #[false, false, false, false, false, false, false, false, false, false, false, false, false] (by kernel_rfl) rfl rfl ⟨(blk_cell BK706.out 0).trans rfl, (blk_cell BK706.out 1).trans rfl, hx719_0, hx719_1, hx719_2, hx719_3, hx719_4, hx719_5, hx719_6, hx719_7, hx719_8⟩ (fun hHeld => ?_); refine with_tabW rickyardlaw17_AskLater.tab13 rickyardlaw17_AskLater.bits13 (fun HT_ HW_ => ?_)
             generalize wr.drew = w35 at HO_9 HO_11 BK706 HB HL719_0 HR719_0 hx719_0 hx719_1 hx719_2 hx719_3 hx719_4 hx719_5 hx719_6 hx719_7 hx719_8 hHeld ⊢
             refine pureD 1 59 HT_ ?_
             refine pureD 2 60 HT_ ?_
             refine pureD 3 61 HT_ ?_
             refine pureD 4 62 HT_ ?_
             refine pureD 6 64 HT_ ?_
             refine takeD 0 58 HT_ HW_ hHeld ?_
             refine takeD 5 63 HT_ HW_ hHeld ?_
             refine one_ (i := 7) (N := some 65) #[true, true, true, true, true, true, true, true, false, false, false, false, false] rfl rfl (one_of HT_.out (by kernel_rfl)) (by decide) (fun K hK => ?_)
             refine goes_ Try.func18 (by kernel_rfl) rfl #[.agg #[.slice A0_0 l0_0.length c0_0, .int .i64 a0_1], .int .i64 ((rd_T44 t709 x14_3).f1), .int .i64 a2] (by rfl) rfl rfl argA ?_
             with_reducible refine (grain_Expired.calls k3 _ _ l0_0 a0_1 ((rd_T44 t709 x14_3).f1) a2 false t721 _ ?side1 ?side2 A30.out).mono ?_
             (case side1 => exact cb1 HR0_0 HB)
             (case side2 => exact HC0_0.out)
             rintro e w36 ⟨rfl, hb⟩
             have HS2_ := (hb.cell (World.block_lt_of_cell? _ _ (hHeld.2.2.1))).trans (hHeld.2.2.1)
             have HS3_ := (hb.cell (World.block_lt_of_cell? _ _ (hHeld.2.2.2.1))).trans (hHeld.2.2.2.1)
             have HS4_ := (hb.cell (World.block_lt_of_cell? _ _ (hHeld.2.2.2.2.1))).trans (hHeld.2.2.2.2.1)
             have HS5_ := (hb.cell (World.block_lt_of_cell? _ _ (hHeld.2.2.2.2.2.1))).trans (hHeld.2.2.2.2.2.1)
             have HS6_ := (hb.cell (World.block_lt_of_cell? _ _ (hHeld.2.2.2.2.2.2.1))).trans (hHeld.2.2.2.2.2.2.1)
             have HS7_ := (hb.cell (World.block_lt_of_cell? _ _ (hHeld.2.2.2.2.2.2.2.1))).trans (hHeld.2.2.2.2.2.2.2.1)
             have HS8_ := (hb.cell (World.block_lt_of_cell? _ _ (hHeld.2.2.2.2.2.2.2.2.1))).trans (hHeld.2.2.2.2.2.2.2.2.1)
             have HS9_ := (hb.cell (World.block_lt_of_cell? _ _ (hHeld.2.2.2.2.2.2.2.2.2.1))).trans (hHeld.2.2.2.2.2.2.2.2.2.1)
             have HS10_ := (hb.cell (World.block_lt_of_cell? _ _ (hHeld.2.2.2.2.2.2.2.2.2.2))).trans (hHeld.2.2.2.2.2.2.2.2.2.2)
             refine ⟨_, rfl, ?_⟩
             replace HO_9 := Aside0.mk (Kd.R_below (rowA HO_9.out) hb)
             replace HO_11 := Aside0.mk (Kd.R_below (rowA HO_11.out) hb)
             replace HL719_0 := Aside0.mk (Kd.R_below (rowA HL719_0.out) hb)
             replace BK706 := blkB BK706 hb
             replace HR719_0 := Aside0.mk (Kd.C_below (celA HR719_0.out) hb)
             replace HB := bs2 HB GE706 hb
             (try clear hb)
             refine hK.out _ _ ⟨(blk_cell BK706.out 0).trans rfl, (blk_cell BK706.out 1).trans rfl, HS2_, HS3_, HS4_, HS5_, HS6_, HS7_, HS8_, HS9_, HS10_⟩ (fun hHeld => ?_)
             clear hK K
             refine norm_ (a' := ?_) ?_ ?_
             rotate_left
             ·show Act.put _ (some 65) _ = _
              simp only [Act.put, List.setIfInBounds_toArray, List.set_cons_zero, List.set_cons_succ, i64_w, i32_w]
              rfl
             refine pureD 8 57 HT_ ?_
             refine pureD 9 66 HT_ ?_
             refine pureD 10 67 HT_ ?_
             refine pureD 11 15 HT_ ?_
             refine pureD 12 16 HT_ ?_
             refine done_ (done_of HT_.out (by kernel_rfl)) ?_
             try go_wp2
             go_roundg k3
             case measure => have := HJ4.out; have := HJ13.out; have := HK3.out; omega
             case rel => exact ⟨(x13_3), (wrap64 (x14_3 + 1)), relA, relA, H', ⟨by have := HJ4.out; have := HJ13.out; have := HK3.out; omega⟩, ⟨rowA HO_9.out⟩, ⟨rowA HO_11.out⟩, ⟨blkA BK706.out⟩, ⟨belB HB.out GE706.out⟩⟩
           ·rw [if_neg c31] at H
            have c31b0 := beq_eq_false_iff_ne.mpr c31
            have c31b1 := bne_iff_ne.mpr c31
            obtain rfl := Option.some.inj H
            try go_wp2
            replace HO_9 := Aside0.mk (Kd.R_drew HO_9.out)
            replace HO_11 := Aside0.mk (Kd.R_drew HO_11.out)
            replace BK706 := Aside0.mk (blk_drew BK706.out)
            replace HB := Aside0.mk (below_drew1 HB.out)
            have p719 : 0 ≤ (x14_3 : Int) := of_decide_eq_true asmA
            have q719 : x14_3 < (t709.length : Int) := of_decide_eq_true asmA
            obtain ⟨ad719, A719_0, c719_0, e719, hx719_0, hx719_1, hx719_2, hx719_3, hx719_4, hx719_5, hx719_6, hx719_7, hx719_8, hl719_0, hi719_0⟩ := at_T44 (Kd.R_reads' HO_9.out).2.2 x14_3 p719 q719
            cases e719
            obtain ⟨ce719, hce719, hMe719, hcc719⟩ := Kd.R_get HO_9.out z44 x14_3 p719 (by first | exact q719 | exact of_decide_eq_true asmA | (have e_ := (Kd.R_reads' HO_9.out).1; omega))
            obtain ⟨ve719_0, rfl, ge719_0⟩ := k44_openM hMe719
            have hv719_0 := hcc719 0 _ rfl
            rw [Nat.add_zero] at hv719_0
            replace hv719_0 := Option.some.inj (hv719_0.symm.trans hx719_0)
            rw [hv719_0] at ge719_0
            have HL719_0 := Aside0.mk (show Kd.R Kd.string 9 _ _ _ _ ((rd_T44 t709 x14_3).f0) from ge719_0)
            clear hv719_0 ge719_0
            clear hcc719 hce719
            have HR719_0 := Aside0.mk hi719_0
            have HC719_0 := Aside0.mk hl719_0
            clear hi719_0 hl719_0
            replace p719 := eq_true p719
            replace q719 := eq_true q719
            refine start_ (n := 13) (S := fun w' => w'.cell? ⟨gb706, 0, none⟩ = some (.slice A0_0 l0_0.length c0_0) ∧ w'.cell? ⟨gb706, 1, none⟩ = some (.int .i64 a0_1) ∧ w'.cell? (ad719.add ((x14_3).toNat * 9)) = some (.slice A719_0 ((rd_T44 t709 x14_3).f0).length c719_0) ∧ w'.cell? ⟨(ad719.add ((x14_3).toNat * 9)).block, (ad719.add ((x14_3).toNat * 9)).off + 1, none⟩ = some (.int .i64 ((rd_T44 t709 x14_3).f1)) ∧ w'.cell? ⟨(ad719.add ((x14_3).toNat * 9)).block, (ad719.add ((x14_3).toNat * 9)).off + 2, none⟩ = some (.int .i64 ((rd_T44 t709 x14_3).f2)) ∧ w'.cell? ⟨(ad719.add ((x14_3).toNat * 9)).block, (ad719.add ((x14_3).toNat * 9)).off + 3, none⟩ = some (.int .u64 ((rd_T44 t709 x14_3).f3.f0)) ∧ w'.cell? ⟨(ad719.add ((x14_3).toNat * 9)).block, (ad719.add ((x14_3).toNat * 9)).off + 4, none⟩ = some (.bool ((rd_T44 t709 x14_3).f3.f1)) ∧ w'.cell? ⟨(ad719.add ((x14_3).toNat * 9)).block, (ad719.add ((x14_3).toNat * 9)).off + 5, none⟩ = some (.int .i64 ((rd_T44 t709 x14_3).f3.f2.f0)) ∧ w'.cell? ⟨(ad719.add ((x14_3).toNat * 9)).block, (ad719.add ((x14_3).toNat * 9)).off + 6, none⟩ = some (.int .u64 ((rd_T44 t709 x14_3).f3.f2.f1)) ∧ w'.cell? ⟨(ad719.add ((x14_3).toNat * 9)).block, (ad719.add ((x14_3).toNat * 9)).off + 7, none⟩ = some (.int .i64 ((rd_T44 t709 x14_3).f3.f3)) ∧ w'.cell? ⟨(ad719.add ((x14_3).toNat * 9)).block, (ad719.add ((x14_3).toNat * 9)).off + 8, none⟩ = some (.int .i64 ((rd_T44 t709 x14_3).f3.f4))) (ds := []) #[false, false, false, false, false, false, false, false, false, false, false, false, false] (by kernel_rfl) rfl rfl ⟨(blk_cell BK706.out 0).trans rfl, (blk_cell BK706.out 1).trans rfl, hx719_0, hx719_1, hx719_2, hx719_3, hx719_4, hx719_5, hx719_6, hx719_7, hx719_8⟩ (fun hHeld => ?_); refine with_tabW rickyardlaw17_AskLater.tab13 rickyardlaw17_AskLater.bits13 (fun HT_ HW_ => ?_)
            generalize wr.drew = w37 at HO_9 HO_11 BK706 HB HL719_0 HR719_0 hx719_0 hx719_1 hx719_2 hx719_3 hx719_4 hx719_5 hx719_6 hx719_7 hx719_8 hHeld ⊢
            refine pureD 1 59 HT_ ?_
            refine pureD 2 60 HT_ ?_
            refine pureD 3 61 HT_ ?_
            refine pureD 4 62 HT_ ?_
            refine pureD 6 64 HT_ ?_
            refine takeD 0 58 HT_ HW_ hHeld ?_
            refine takeD 5 63 HT_ HW_ hHeld ?_
            refine one_ (i := 7) (N := some 65) #[true, true, true, true, true, true, true, true, false, false, false, false, false] rfl rfl (one_of HT_.out (by kernel_rfl)) (by decide) (fun K hK => ?_)
            refine goes_ Try.func18 (by kernel_rfl) rfl #[.agg #[.slice A0_0 l0_0.length c0_0, .int .i64 a0_1], .int .i64 ((rd_T44 t709 x14_3).f1), .int .i64 a2] (by rfl) rfl rfl argA ?_
            with_reducible refine (grain_Expired.calls k3 _ _ l0_0 a0_1 ((rd_T44 t709 x14_3).f1) a2 t720 t721 _ ?side1 ?side2 A30.out).mono ?_
            (case side1 => exact cb1 HR0_0 HB)
            (case side2 => exact HC0_0.out)
            rintro e w38 ⟨rfl, hb⟩
            have HS2_ := (hb.cell (World.block_lt_of_cell? _ _ (hHeld.2.2.1))).trans (hHeld.2.2.1)
            have HS3_ := (hb.cell (World.block_lt_of_cell? _ _ (hHeld.2.2.2.1))).trans (hHeld.2.2.2.1)
            have HS4_ := (hb.cell (World.block_lt_of_cell? _ _ (hHeld.2.2.2.2.1))).trans (hHeld.2.2.2.2.1)
            have HS5_ := (hb.cell (World.block_lt_of_cell? _ _ (hHeld.2.2.2.2.2.1))).trans (hHeld.2.2.2.2.2.1)
            have HS6_ := (hb.cell (World.block_lt_of_cell? _ _ (hHeld.2.2.2.2.2.2.1))).trans (hHeld.2.2.2.2.2.2.1)
            have HS7_ := (hb.cell (World.block_lt_of_cell? _ _ (hHeld.2.2.2.2.2.2.2.1))).trans (hHeld.2.2.2.2.2.2.2.1)
            have HS8_ := (hb.cell (World.block_lt_of_cell? _ _ (hHeld.2.2.2.2.2.2.2.2.1))).trans (hHeld.2.2.2.2.2.2.2.2.1)
            have HS9_ := (hb.cell (World.block_lt_of_cell? _ _ (hHeld.2.2.2.2.2.2.2.2.2.1))).trans (hHeld.2.2.2.2.2.2.2.2.2.1)
            have HS10_ := (hb.cell (World.block_lt_of_cell? _ _ (hHeld.2.2.2.2.2.2.2.2.2.2))).trans (hHeld.2.2.2.2.2.2.2.2.2.2)
            refine ⟨_, rfl, ?_⟩
            replace HO_9 := Aside0.mk (Kd.R_below (rowA HO_9.out) hb)
            replace HO_11 := Aside0.mk (Kd.R_below (rowA HO_11.out) hb)
            replace HL719_0 := Aside0.mk (Kd.R_below (rowA HL719_0.out) hb)
            replace BK706 := blkB BK706 hb
            replace HR719_0 := Aside0.mk (Kd.C_below (celA HR719_0.out) hb)
            replace HB := bs2 HB GE706 hb
            (try clear hb)
            refine hK.out _ _ ⟨(blk_cell BK706.out 0).trans rfl, (blk_cell BK706.out 1).trans rfl, HS2_, HS3_, HS4_, HS5_, HS6_, HS7_, HS8_, HS9_, HS10_⟩ (fun hHeld => ?_)
            clear hK K
            refine norm_ (a' := ?_) ?_ ?_
            rotate_left
            ·show Act.put _ (some 65) _ = _
             simp only [Act.put, List.setIfInBounds_toArray, List.set_cons_zero, List.set_cons_succ, i64_w, i32_w]
             rfl
            refine pureD 8 57 HT_ ?_
            refine pureD 9 66 HT_ ?_
            refine pureD 10 67 HT_ ?_
            refine pureD 11 15 HT_ ?_
            refine pureD 12 16 HT_ ?_
            refine done_ (done_of HT_.out (by kernel_rfl)) ?_
            try go_wp2
            go_ret
            exact ⟨ret1, belB HB.out GE706.out⟩
          ·rw [if_neg c29] at H
           exact absurd H (by simp)
         ·rw [if_neg c28] at H
          have c28b0 := decide_eq_false c28
          clear c28
          replace H := bnA H
          obtain ⟨t718, A39, H⟩ := H
          by_cases c40 : t718 = true
          ·subst c40
           have H1 : (some (decide ((IntKind.u64.wrap ((t713.length : Int))) ≤ (IntKind.u64.wrap ((IntKind.u64.wrap ((t709.length : Int))) - x13_3))))) = some r := by rw [if_pos rfl] at H; exact H
           clear H
           have H := H1
           clear H1
           obtain rfl := Option.some.inj H
           go_wp2_with (first | ((with_reducible refine gate_callee (f := 9) rfl ?_); refine goesL_ (some 73) rfl rfl Try.func9 (by kernel_rfl) rfl #[] rfl argA ?_; (with_reducible refine (rickyardlaw17_alive.calls k3  true _ A39.out).mono ?_); rintro e w41 ⟨rfl, hb⟩; refine ⟨_, rfl, ?_⟩; replace HO_9 := Aside0.mk (Kd.R_below (rowA HO_9.out) hb); replace HO_11 := Aside0.mk (Kd.R_below (rowA HO_11.out) hb); replace BK706 := blkB BK706 hb; replace HB := bs2 HB GE706 hb; (try clear hb)))
           go_ret
           exact ⟨ret1, belB HB.out GE706.out⟩
          ·replace c40 := Bool.eq_false_iff.mpr c40
           subst c40
           have H1 : (some false) = some r := by rw [if_neg (show ¬ (false = true) by decide)] at H; exact H
           clear H
           have H := H1
           clear H1
           obtain rfl := Option.some.inj H
           go_wp2_with (first | ((with_reducible refine gate_callee (f := 9) rfl ?_); refine goesL_ (some 73) rfl rfl Try.func9 (by kernel_rfl) rfl #[] rfl argA ?_; (with_reducible refine (rickyardlaw17_alive.calls k3  false _ A39.out).mono ?_); rintro e w42 ⟨rfl, hb⟩; refine ⟨_, rfl, ?_⟩; replace HO_9 := Aside0.mk (Kd.R_below (rowA HO_9.out) hb); replace HO_11 := Aside0.mk (Kd.R_below (rowA HO_11.out) hb); replace BK706 := blkB BK706 hb; replace HB := bs2 HB GE706 hb; (try clear hb)))
           go_ret
           exact ⟨ret1, belB HB.out GE706.out⟩
def rickyardlaw17_AskLater.Pure : Prop := ∀ (l0_0 : List (S84)) (a0_1 : Int) (a1 : Int) (a2 : Int) (l3 : List (S60)), (l0_0.length * 16 ≤ 140737488351232 ∧ ∀ z4 ∈ l0_0, wfS84 z4) → (Lit.int .i64 a0_1).wf = true → (Lit.int .i64 a1).wf = true → (Lit.int .i64 a2).wf = true → (l3.length * 72 ≤ 140737488351232 ∧ ∀ z2 ∈ l3, wfS60 z2) → ∃ k, rickyardlaw17_AskLater.f k l0_0 a0_1 a1 a2 l3 = some true
end Go.Proofs.Ytdopbhbbpgfliaa.PAsk
end
