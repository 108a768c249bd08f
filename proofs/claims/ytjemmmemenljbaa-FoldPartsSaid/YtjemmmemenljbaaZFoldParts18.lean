import Derived.Test.YtjemmmemenljbaaZFoldParts17
section
namespace Go.Proofs.Ytjemmmemenljbaa.PFold
open Go.RowKit Go.Proofs.YtjemmmemenljbaaW.PrintWords Go.Proofs.YtjemmmemenljbaaW.PrintLast Go.Proofs.YtjemmmemenljbaaW.PrintMore
set_option linter.unusedVariables false
set_option linter.unusedSimpArgs false
set_option maxHeartbeats 8000000
set_option maxRecDepth 100000
def Fr.strip (f : Fr) : Fr := ⟨none, 0, f.l, f.p⟩
theorem lessFr_strip (a b : Fr) : lessFr a.strip b.strip = lessFr a b := rfl
theorem sinkFs_strip (fs : List Fr) : sinkFs (fs.map Fr.strip) = (sinkFs fs).map Fr.strip := by
  match fs with
  | [] => rfl
  | [a] => rfl
  | [a, b] =>
    show (if lessFr b.strip a.strip = true then [b.strip, a.strip] else [a.strip, b.strip]) = (if lessFr b a = true then [b, a] else [a, b]).map Fr.strip
    rw [lessFr_strip]
    by_cases h : lessFr b a = true
    · rw [if_pos h, if_pos h]; rfl
    · rw [if_neg h, if_neg h]; rfl
  | a :: b :: c :: r => rfl
theorem nextFs_strip (f : Fr) (q : List Fr) : nextFs f.strip (q.map Fr.strip) = (nextFs f q).map Fr.strip := by
  unfold nextFs
  rw [← sinkFs_strip]
  by_cases h : 1 < f.l.length
  · rw [if_pos h, if_pos (show 1 < f.strip.l.length from h)]
    rfl
  · rw [if_neg h, if_neg (show ¬ 1 < f.strip.l.length from h)]
theorem mrgGo_strip : ∀ (k : Nat) (fs : List Fr) (acc : List En), mrgGo k (fs.map Fr.strip) acc = mrgGo k fs acc
  | 0, _, _ => rfl
  | k + 1, [], _ => rfl
  | k + 1, f :: q, acc => by
    show (match f.strip.l.head? with | none => none | some x => (putM x acc).bind fun a => mrgGo k (nextFs f.strip (q.map Fr.strip)) a) = (match f.l.head? with | none => none | some x => (putM x acc).bind fun a => mrgGo k (nextFs f q) a)
    rw [show f.strip.l = f.l from rfl]
    cases f.l.head? with
    | none => rfl
    | some x =>
      show (putM x acc).bind _ = (putM x acc).bind _
      congr 1
      funext a
      rw [nextFs_strip, mrgGo_strip k]
theorem frontsOf_strip (rs : List Fr) : frontsOf (rs.map Fr.strip) = (frontsOf rs).map Fr.strip := by
  unfold frontsOf
  rw [List.filter_map]
  rfl
theorem firstE_strip : ∀ rs : List Fr, firstE (rs.map Fr.strip) = firstE rs
  | [] => rfl
  | r :: q => by
    show (if rowE r.strip.l = 0 then firstE (q.map Fr.strip) else rowE r.strip.l) = (if rowE r.l = 0 then firstE q else rowE r.l)
    rw [firstE_strip q]
    rfl
def twoRows (a b : List En) : List Fr := [⟨none, 0, a, 0⟩, ⟨none, 0, b, 1⟩]
def RowW (a : List En) : Prop := a.length ≤ 140737488355328 ∧ ∀ y ∈ a, y.f0.all isB = true ∧ y.f0.length ≤ 140737488355327
open Classical in
noncomputable def mAll (k : Nat) (a b : List En) : Option (List En × Int) :=
  if RowW a ∧ RowW b then (if firstE (twoRows a b) = 0 then (mrgGo k (sinkFs (frontsOf (twoRows a b))) []).bind fun r => some (r, 0) else some ([], firstE (twoRows a b))) else none
theorem mAll_calls (k gr : Nat) (A0 : Option Addr) (c0 : Nat) (a : List En) (A1 : Option Addr) (c1 : Nat) (b : List En) (r : List En) (e0 : Int) (w : World) (hg : w.heap[gr]? = some (.cells #[.slice A0 a.length c0, .slice A1 b.length c1] 28 (0, 0))) (ha : Kd.C k51 w A0 a.length a) (hca : a.length ≤ c0) (hb : Kd.C k51 w A1 b.length b) (hcb : b.length ≤ c1) (h : mAll k a b = some (r, e0)) :
    Calls Try.prog 25 #[.slice (some ⟨gr, 0, none⟩) 2 2] w fun e w' => ∃ v, e = .returned (.tuple #[v, .int .i64 e0]) ∧ Kd.R k51 51 w' w.heap.size (fun _ => True) v r ∧ Below w.heap.size w w' := by
  unfold mAll at h
  by_cases hw : RowW a ∧ RowW b
  case neg => rw [if_neg hw] at h; cases h
  rw [if_pos hw] at h
  have hr : ∀ f ∈ ([⟨A0, c0, a, 0⟩, ⟨A1, c1, b, 1⟩] : List Fr), RowIn w f := fun f hf => by
    rcases List.mem_cons.1 hf with rfl | hf
    · exact ⟨ha, hca, hw.1.1, fun y hy => (hw.1.2 y hy).1, fun y hy => (hw.1.2 y hy).2⟩
    · obtain rfl := List.mem_singleton.1 hf
      exact ⟨hb, hcb, hw.2.1, fun y hy => (hw.2.2 y hy).1, fun y hy => (hw.2.2 y hy).2⟩
  have hp : ∀ j (hj : j < ([⟨A0, c0, a, 0⟩, ⟨A1, c1, b, 1⟩] : List Fr).length), ([⟨A0, c0, a, 0⟩, ⟨A1, c1, b, 1⟩] : List Fr)[j].p = (j : Int) := fun j hj => by
    match j, hj with
    | 0, _ => rfl
    | 1, _ => rfl
  have es : twoRows a b = ([⟨A0, c0, a, 0⟩, ⟨A1, c1, b, 1⟩] : List Fr).map Fr.strip := rfl
  rw [es, firstE_strip, frontsOf_strip, sinkFs_strip, mrgGo_strip] at h
  by_cases hz : firstE ([⟨A0, c0, a, 0⟩, ⟨A1, c1, b, 1⟩] : List Fr) = 0
  · rw [if_pos hz] at h
    obtain ⟨r2, hgo, h2⟩ := Option.bind_eq_some_iff.mp h
    simp only [Option.some.injEq, Prod.mk.injEq] at h2
    obtain ⟨rfl, rfl⟩ := h2
    exact all_calls k gr _ _ rfl hp w hg hr hz hgo
  · rw [if_neg hz] at h
    simp only [Option.some.injEq, Prod.mk.injEq] at h
    obtain ⟨rfl, rfl⟩ := h
    refine (all_errs gr _ rfl hp w hg hr hz).mono ?_
    rintro e w' ⟨rfl, hb'⟩
    exact ⟨_, rfl, Kd.R_nil _ _ _ _ _, hb'⟩
noncomputable def rickyardlaw15_FoldParts.f (k : Nat) (l0_0 : List S67) (a0_1 a1 a2 a3 : Int) (l4 l5 : List En) : Option Bool :=
  (rickyardlaw15_Great.f k l4).bind fun t1 => if t1 = true then rickyardlaw15_alive.f k else (rickyardlaw15_Great.f k l5).bind fun t2 => if t2 = true then rickyardlaw15_alive.f k else if a2 > a1 then rickyardlaw15_alive.f k else if a3 > a1 then rickyardlaw15_alive.f k else
  (fold_Fold.f k l0_0 a0_1 a2 l4).bind fun x => (fold_Fold.f k l0_0 a0_1 a3 l5).bind fun y => (mAll k l4 l5).bind fun g =>
  if x.2 = 0 then (if y.2 = 0 then (if g.2 = 0 then
    ((mAll k x.1 y.1).bind fun h => (fold_Fold.f k l0_0 a0_1 a1 g.1).bind fun p => (fold_Fold.f k l0_0 a0_1 a1 h.1).bind fun q => (rickyardlaw15_alive.f k).bind fun t => (rickyardref08_Same.f k p.1 q.1).bind fun s => if t = true ∧ h.2 = 0 ∧ p.2 = q.2 ∧ s = true then some true else none)
    else rickyardlaw15_alive.f k) else rickyardlaw15_alive.f k) else rickyardlaw15_alive.f k
theorem rickyardlaw15_FoldParts.calls (k : Nat) (A0_0 : Option Addr) (c0_0 : Nat) (l0_0 : List S67) (a0_1 : Int) (a1 : Int) (a2 : Int) (a3 : Int) (A4 : Option Addr) (c4 : Nat) (l4 : List En) (A5 : Option Addr) (c5 : Nat) (l5 : List En) (r : Bool) (w : World) (hr0_0 : Kd.C k67 w A0_0 l0_0.length l0_0) (hc0_0 : l0_0.length ≤ c0_0) (hr4 : Kd.C k51 w A4 l4.length l4) (hc4 : l4.length ≤ c4) (hr5 : Kd.C k51 w A5 l5.length l5) (hc5 : l5.length ≤ c5) (h : rickyardlaw15_FoldParts.f k l0_0 a0_1 a1 a2 a3 l4 l5 = some r) :
    Calls Try.prog 8 #[.agg #[.slice A0_0 l0_0.length c0_0, .int .i64 a0_1], .int .i64 a1, .int .i64 a2, .int .i64 a3, .slice A4 l4.length c4, .slice A5 l5.length c5] w fun e w' => e = .returned (.bool r) ∧ Below w.heap.size w w' := by
  have HG := Lib.hid hr0_0; have H4 := Lib.hid hr4; have H5 := Lib.hid hr5
  have HBX := Lib.hid (blk_new w (.cells #[.slice A0_0 l0_0.length c0_0, .int .i64 a0_1] 24 (0, 0)))
  have HB0 : Hid (Below w.heap.size w (w.alloc (.cells #[.slice A0_0 l0_0.length c0_0, .int .i64 a0_1] 24 (0, 0)))) := Lib.hid ((Below.refl _ _).alloc (Nat.le_refl _) _)
  clear hr0_0 hr4 hr5
  unfold rickyardlaw15_FoldParts.f at h
  obtain ⟨t1, ht1, h1⟩ := Option.bind_eq_some_iff.mp h
  have HT1 := Lib.hid ht1
  clear h ht1
  cases t1 with
  | true =>
    rw [if_pos rfl] at h1
    have HAL := Lib.hid h1
    clear h1
    go_enter Try.func8, Try.ntmps8
    go_wp2_with (first
      | (go_at_call 15; with_reducible refine (rickyardlaw15_Great.calls k A4 c4 l4 _ _ (Kd.C_below H4.out HB0.out) hc4 HT1.out).mono ?_; rintro e w1 ⟨rfl, ⟨nd, rfl⟩⟩; have HB1 := Lib.hid (pw_below_drewN HB0.out nd); have HX1 := Lib.hid (blk_drewN HBX.out nd))
      | (go_at_call 11; with_reducible refine (rickyardlaw15_alive.calls k _ _ HAL.out).mono ?_; rintro e w6 ⟨rfl, hb⟩; have HB6 := Lib.hid (below_step HB1.out hb); clear hb))
    go_ret
    exact ⟨by rfl, HB6.out⟩
  | false =>
    rw [if_neg (by decide)] at h1
    obtain ⟨t2, ht2, h2⟩ := Option.bind_eq_some_iff.mp h1
    have HT2 := Lib.hid ht2
    clear h1 ht2
    cases t2 with
    | true =>
      rw [if_pos rfl] at h2
      have HAL := Lib.hid h2
      clear h2
      go_enter Try.func8, Try.ntmps8
      go_wp2_with (first
        | (go_at_call 15; with_reducible refine (rickyardlaw15_Great.calls k A4 c4 l4 _ _ (Kd.C_below H4.out HB0.out) hc4 HT1.out).mono ?_; rintro e w1 ⟨rfl, ⟨nd, rfl⟩⟩; have HB1 := Lib.hid (pw_below_drewN HB0.out nd); have HX1 := Lib.hid (blk_drewN HBX.out nd))
        | (go_at_call 15; with_reducible refine (rickyardlaw15_Great.calls k A5 c5 l5 _ _ (Kd.C_below H5.out HB1.out) hc5 HT2.out).mono ?_; rintro e w1 ⟨rfl, ⟨nd2, rfl⟩⟩; have HB2 := Lib.hid (pw_below_drewN HB0.out (nd + nd2)); have HX2 := Lib.hid (blk_drewN HBX.out (nd + nd2)))
        | (go_at_call 11; with_reducible refine (rickyardlaw15_alive.calls k _ _ HAL.out).mono ?_; rintro e w6 ⟨rfl, hb⟩; have HB6 := Lib.hid (below_step HB2.out hb); clear hb))
      go_ret
      exact ⟨by rfl, HB6.out⟩
    | false =>
      rw [if_neg (by decide)] at h2
      by_cases o1 : a2 > a1
      · rw [if_pos o1] at h2
        have HAL := Lib.hid h2
        have e1 : decide (a1 < a2) = true := decide_eq_true o1
        clear h2 o1
        go_enter Try.func8, Try.ntmps8
        go_wp2_with (first
          | (go_at_call 15; with_reducible refine (rickyardlaw15_Great.calls k A4 c4 l4 _ _ (Kd.C_below H4.out HB0.out) hc4 HT1.out).mono ?_; rintro e w1 ⟨rfl, ⟨nd, rfl⟩⟩; have HB1 := Lib.hid (pw_below_drewN HB0.out nd); have HX1 := Lib.hid (blk_drewN HBX.out nd))
          | (go_at_call 15; with_reducible refine (rickyardlaw15_Great.calls k A5 c5 l5 _ _ (Kd.C_below H5.out HB1.out) hc5 HT2.out).mono ?_; rintro e w1 ⟨rfl, ⟨nd2, rfl⟩⟩; have HB2 := Lib.hid (pw_below_drewN HB0.out (nd + nd2)); have HX2 := Lib.hid (blk_drewN HBX.out (nd + nd2)))
          | (go_at_call 11; with_reducible refine (rickyardlaw15_alive.calls k _ _ HAL.out).mono ?_; rintro e w6 ⟨rfl, hb⟩; have HB6 := Lib.hid (below_step HB2.out hb); clear hb))
        go_ret
        exact ⟨by rfl, HB6.out⟩
      rw [if_neg o1] at h2
      have e1 : decide (a1 < a2) = false := decide_eq_false o1
      clear o1
      by_cases o2 : a3 > a1
      · rw [if_pos o2] at h2
        have HAL := Lib.hid h2
        have e2 : decide (a1 < a3) = true := decide_eq_true o2
        clear h2 o2
        go_enter Try.func8, Try.ntmps8
        go_wp2_with (first
          | (go_at_call 15; with_reducible refine (rickyardlaw15_Great.calls k A4 c4 l4 _ _ (Kd.C_below H4.out HB0.out) hc4 HT1.out).mono ?_; rintro e w1 ⟨rfl, ⟨nd, rfl⟩⟩; have HB1 := Lib.hid (pw_below_drewN HB0.out nd); have HX1 := Lib.hid (blk_drewN HBX.out nd))
          | (go_at_call 15; with_reducible refine (rickyardlaw15_Great.calls k A5 c5 l5 _ _ (Kd.C_below H5.out HB1.out) hc5 HT2.out).mono ?_; rintro e w1 ⟨rfl, ⟨nd2, rfl⟩⟩; have HB2 := Lib.hid (pw_below_drewN HB0.out (nd + nd2)); have HX2 := Lib.hid (blk_drewN HBX.out (nd + nd2)))
          | (go_at_call 11; with_reducible refine (rickyardlaw15_alive.calls k _ _ HAL.out).mono ?_; rintro e w6 ⟨rfl, hb⟩; have HB6 := Lib.hid (below_step HB2.out hb); clear hb))
        go_ret
        exact ⟨by rfl, HB6.out⟩
      rw [if_neg o2] at h2
      have e2 : decide (a1 < a3) = false := decide_eq_false o2
      clear o2
      obtain ⟨⟨x1, x2⟩, hf1, h3⟩ := Option.bind_eq_some_iff.mp h2
      obtain ⟨⟨y1, y2⟩, hf2, h4⟩ := Option.bind_eq_some_iff.mp h3
      obtain ⟨⟨g1, g2⟩, hm1, h5⟩ := Option.bind_eq_some_iff.mp h4
      have HF1 := Lib.hid hf1; have HF2 := Lib.hid hf2; have HM1 := Lib.hid hm1
      clear h2 h3 h4 hf1 hf2 hm1
      simp only at h5
      by_cases z1 : x2 = 0
      case neg =>
        rw [if_neg z1] at h5
        have HAL := Lib.hid h5
        have e3 : (x2 != 0) = true := bne_iff_ne.2 z1
        clear h5 z1
        go_enter Try.func8, Try.ntmps8
        go_wp2_with (first
          | (go_at_call 15; with_reducible refine (rickyardlaw15_Great.calls k A4 c4 l4 _ _ (Kd.C_below H4.out HB0.out) hc4 HT1.out).mono ?_; rintro e w1 ⟨rfl, ⟨nd, rfl⟩⟩; have HB1 := Lib.hid (pw_below_drewN HB0.out nd); have HX1 := Lib.hid (blk_drewN HBX.out nd))
          | (go_at_call 15; with_reducible refine (rickyardlaw15_Great.calls k A5 c5 l5 _ _ (Kd.C_below H5.out HB1.out) hc5 HT2.out).mono ?_; rintro e w1 ⟨rfl, ⟨nd2, rfl⟩⟩; have HB2 := Lib.hid (pw_below_drewN HB0.out (nd + nd2)); have HX2 := Lib.hid (blk_drewN HBX.out (nd + nd2)))
          | (go_at_call 16; (with_reducible refine (fold_Fold.calls k A0_0 c0_0 l0_0 a0_1 a2 A4 c4 l4 _ _ _ (Kd.C_below HG.out HB2.out) hc0_0 (Kd.C_below H4.out HB2.out) hc4 HF1.out).mono ?_; rintro e w3 ⟨vx, rfl, hrx, hb⟩; obtain ⟨Ax, cx, evx⟩ := Kd.R_slice hrx; subst evx; have HRX := Lib.hid hrx; have HB3 := Lib.hid (below_step HB2.out hb); have HX3 := Lib.hid (blk_below HX2.out hb); have hx0 := (blk_cell HX3.out 0).trans (show _ = some (Value.slice A0_0 l0_0.length c0_0) from rfl); have hx1 := (blk_cell HX3.out 1).trans (show _ = some (Value.int .i64 a0_1) from rfl); clear hrx hb))
          | (go_at_call 16; with_reducible refine (fold_Fold.calls k A0_0 c0_0 l0_0 a0_1 a3 A5 c5 l5 _ _ _ (Kd.C_below HG.out HB3.out) hc0_0 (Kd.C_below H5.out HB3.out) hc5 HF2.out).mono ?_; rintro e w4 ⟨vy, rfl, hry, hb⟩; obtain ⟨Ay, cy, evy⟩ := Kd.R_slice hry; subst evy; have HRY := Lib.hid hry; have HB4 := Lib.hid (below_step HB3.out hb); have HX4 := Lib.hid (blk_below HX3.out hb); have HRX4 := Lib.hid (Kd.R_below HRX.out hb); clear hry hb)
          | (go_at_call 25; with_reducible refine (mAll_calls k _ A4 c4 l4 A5 c5 l5 _ _ _ (blk_new w4 _) (Kd.C_below H4.out (HB4.out.alloc HB4.out.size _)) hc4 (Kd.C_below H5.out (HB4.out.alloc HB4.out.size _)) hc5 HM1.out).mono ?_; rintro e w5 ⟨vg, rfl, hrg, hb⟩; obtain ⟨Ag, cg, evg⟩ := Kd.R_slice hrg; subst evg; have HRG := Lib.hid hrg; have HB5 := Lib.hid (below_step (HB4.out.alloc HB4.out.size _) hb); have HX5 := Lib.hid (blk_below (blk_alloc HX4.out _) hb); have HRX5 := Lib.hid (Kd.R_below (Kd.R_alloc HRX4.out _) hb); have HRY5 := Lib.hid (Kd.R_below (Kd.R_alloc HRY.out _) hb); clear hrg hb)
          | (go_at_call 11; with_reducible refine (rickyardlaw15_alive.calls k _ _ HAL.out).mono ?_; rintro e w6 ⟨rfl, hb⟩; have HB6 := Lib.hid (below_step HB5.out hb); clear hb))
        go_ret
        exact ⟨by rfl, HB6.out⟩
      rw [if_pos z1] at h5
      have e3 : (x2 != 0) = false := bne_eq_false_iff_eq.2 z1
      clear z1
      by_cases z2 : y2 = 0
      case neg =>
        rw [if_neg z2] at h5
        have HAL := Lib.hid h5
        have e4 : (y2 != 0) = true := bne_iff_ne.2 z2
        clear h5 z2
        go_enter Try.func8, Try.ntmps8
        go_wp2_with (first
          | (go_at_call 15; with_reducible refine (rickyardlaw15_Great.calls k A4 c4 l4 _ _ (Kd.C_below H4.out HB0.out) hc4 HT1.out).mono ?_; rintro e w1 ⟨rfl, ⟨nd, rfl⟩⟩; have HB1 := Lib.hid (pw_below_drewN HB0.out nd); have HX1 := Lib.hid (blk_drewN HBX.out nd))
          | (go_at_call 15; with_reducible refine (rickyardlaw15_Great.calls k A5 c5 l5 _ _ (Kd.C_below H5.out HB1.out) hc5 HT2.out).mono ?_; rintro e w1 ⟨rfl, ⟨nd2, rfl⟩⟩; have HB2 := Lib.hid (pw_below_drewN HB0.out (nd + nd2)); have HX2 := Lib.hid (blk_drewN HBX.out (nd + nd2)))
          | (go_at_call 16; (with_reducible refine (fold_Fold.calls k A0_0 c0_0 l0_0 a0_1 a2 A4 c4 l4 _ _ _ (Kd.C_below HG.out HB2.out) hc0_0 (Kd.C_below H4.out HB2.out) hc4 HF1.out).mono ?_; rintro e w3 ⟨vx, rfl, hrx, hb⟩; obtain ⟨Ax, cx, evx⟩ := Kd.R_slice hrx; subst evx; have HRX := Lib.hid hrx; have HB3 := Lib.hid (below_step HB2.out hb); have HX3 := Lib.hid (blk_below HX2.out hb); have hx0 := (blk_cell HX3.out 0).trans (show _ = some (Value.slice A0_0 l0_0.length c0_0) from rfl); have hx1 := (blk_cell HX3.out 1).trans (show _ = some (Value.int .i64 a0_1) from rfl); clear hrx hb))
          | (go_at_call 16; with_reducible refine (fold_Fold.calls k A0_0 c0_0 l0_0 a0_1 a3 A5 c5 l5 _ _ _ (Kd.C_below HG.out HB3.out) hc0_0 (Kd.C_below H5.out HB3.out) hc5 HF2.out).mono ?_; rintro e w4 ⟨vy, rfl, hry, hb⟩; obtain ⟨Ay, cy, evy⟩ := Kd.R_slice hry; subst evy; have HRY := Lib.hid hry; have HB4 := Lib.hid (below_step HB3.out hb); have HX4 := Lib.hid (blk_below HX3.out hb); have HRX4 := Lib.hid (Kd.R_below HRX.out hb); clear hry hb)
          | (go_at_call 25; with_reducible refine (mAll_calls k _ A4 c4 l4 A5 c5 l5 _ _ _ (blk_new w4 _) (Kd.C_below H4.out (HB4.out.alloc HB4.out.size _)) hc4 (Kd.C_below H5.out (HB4.out.alloc HB4.out.size _)) hc5 HM1.out).mono ?_; rintro e w5 ⟨vg, rfl, hrg, hb⟩; obtain ⟨Ag, cg, evg⟩ := Kd.R_slice hrg; subst evg; have HRG := Lib.hid hrg; have HB5 := Lib.hid (below_step (HB4.out.alloc HB4.out.size _) hb); have HX5 := Lib.hid (blk_below (blk_alloc HX4.out _) hb); have HRX5 := Lib.hid (Kd.R_below (Kd.R_alloc HRX4.out _) hb); have HRY5 := Lib.hid (Kd.R_below (Kd.R_alloc HRY.out _) hb); clear hrg hb)
          | (go_at_call 11; with_reducible refine (rickyardlaw15_alive.calls k _ _ HAL.out).mono ?_; rintro e w6 ⟨rfl, hb⟩; have HB6 := Lib.hid (below_step HB5.out hb); clear hb))
        go_ret
        exact ⟨by rfl, HB6.out⟩
      rw [if_pos z2] at h5
      have e4 : (y2 != 0) = false := bne_eq_false_iff_eq.2 z2
      clear z2
      by_cases z3 : g2 = 0
      case neg =>
        rw [if_neg z3] at h5
        have HAL := Lib.hid h5
        have e5 : (g2 != 0) = true := bne_iff_ne.2 z3
        clear h5 z3
        go_enter Try.func8, Try.ntmps8
        go_wp2_with (first
          | (go_at_call 15; with_reducible refine (rickyardlaw15_Great.calls k A4 c4 l4 _ _ (Kd.C_below H4.out HB0.out) hc4 HT1.out).mono ?_; rintro e w1 ⟨rfl, ⟨nd, rfl⟩⟩; have HB1 := Lib.hid (pw_below_drewN HB0.out nd); have HX1 := Lib.hid (blk_drewN HBX.out nd))
          | (go_at_call 15; with_reducible refine (rickyardlaw15_Great.calls k A5 c5 l5 _ _ (Kd.C_below H5.out HB1.out) hc5 HT2.out).mono ?_; rintro e w1 ⟨rfl, ⟨nd2, rfl⟩⟩; have HB2 := Lib.hid (pw_below_drewN HB0.out (nd + nd2)); have HX2 := Lib.hid (blk_drewN HBX.out (nd + nd2)))
          | (go_at_call 16; (with_reducible refine (fold_Fold.calls k A0_0 c0_0 l0_0 a0_1 a2 A4 c4 l4 _ _ _ (Kd.C_below HG.out HB2.out) hc0_0 (Kd.C_below H4.out HB2.out) hc4 HF1.out).mono ?_; rintro e w3 ⟨vx, rfl, hrx, hb⟩; obtain ⟨Ax, cx, evx⟩ := Kd.R_slice hrx; subst evx; have HRX := Lib.hid hrx; have HB3 := Lib.hid (below_step HB2.out hb); have HX3 := Lib.hid (blk_below HX2.out hb); have hx0 := (blk_cell HX3.out 0).trans (show _ = some (Value.slice A0_0 l0_0.length c0_0) from rfl); have hx1 := (blk_cell HX3.out 1).trans (show _ = some (Value.int .i64 a0_1) from rfl); clear hrx hb))
          | (go_at_call 16; with_reducible refine (fold_Fold.calls k A0_0 c0_0 l0_0 a0_1 a3 A5 c5 l5 _ _ _ (Kd.C_below HG.out HB3.out) hc0_0 (Kd.C_below H5.out HB3.out) hc5 HF2.out).mono ?_; rintro e w4 ⟨vy, rfl, hry, hb⟩; obtain ⟨Ay, cy, evy⟩ := Kd.R_slice hry; subst evy; have HRY := Lib.hid hry; have HB4 := Lib.hid (below_step HB3.out hb); have HX4 := Lib.hid (blk_below HX3.out hb); have HRX4 := Lib.hid (Kd.R_below HRX.out hb); clear hry hb)
          | (go_at_call 25; with_reducible refine (mAll_calls k _ A4 c4 l4 A5 c5 l5 _ _ _ (blk_new w4 _) (Kd.C_below H4.out (HB4.out.alloc HB4.out.size _)) hc4 (Kd.C_below H5.out (HB4.out.alloc HB4.out.size _)) hc5 HM1.out).mono ?_; rintro e w5 ⟨vg, rfl, hrg, hb⟩; obtain ⟨Ag, cg, evg⟩ := Kd.R_slice hrg; subst evg; have HRG := Lib.hid hrg; have HB5 := Lib.hid (below_step (HB4.out.alloc HB4.out.size _) hb); have HX5 := Lib.hid (blk_below (blk_alloc HX4.out _) hb); have HRX5 := Lib.hid (Kd.R_below (Kd.R_alloc HRX4.out _) hb); have HRY5 := Lib.hid (Kd.R_below (Kd.R_alloc HRY.out _) hb); clear hrg hb)
          | (go_at_call 11; with_reducible refine (rickyardlaw15_alive.calls k _ _ HAL.out).mono ?_; rintro e w6 ⟨rfl, hb⟩; have HB6 := Lib.hid (below_step HB5.out hb); clear hb))
        go_ret
        exact ⟨by rfl, HB6.out⟩
      rw [if_pos z3] at h5
      have e5 : (g2 != 0) = false := bne_eq_false_iff_eq.2 z3
      clear z3
      obtain ⟨⟨h1, h2e⟩, hm2, h6⟩ := Option.bind_eq_some_iff.mp h5
      obtain ⟨⟨p1, p2⟩, hf3, h7⟩ := Option.bind_eq_some_iff.mp h6
      obtain ⟨⟨q1, q2⟩, hf4, h8⟩ := Option.bind_eq_some_iff.mp h7
      obtain ⟨t, hal, h9⟩ := Option.bind_eq_some_iff.mp h8
      obtain ⟨s, hsa, h10⟩ := Option.bind_eq_some_iff.mp h9
      simp only at h10 hm2 hf3 hf4 hsa
      by_cases z4 : t = true ∧ h2e = 0 ∧ p2 = q2 ∧ s = true
      case neg => rw [if_neg z4] at h10; cases h10
      rw [if_pos z4] at h10
      obtain rfl := Option.some.inj h10
      obtain ⟨rfl, z5, z6, rfl⟩ := z4
      have e6 : (h2e == 0) = true := beq_iff_eq.2 z5
      have e7 : (p2 == q2) = true := beq_iff_eq.2 z6
      have HM2 := Lib.hid hm2; have HF3 := Lib.hid hf3; have HF4 := Lib.hid hf4; have HAV := Lib.hid hal; have HSA := Lib.hid hsa
      clear h5 h6 h7 h8 h9 h10 hm2 hf3 hf4 hal hsa z5 z6
      go_enter Try.func8, Try.ntmps8
      go_wp2_with (first
        | (go_at_call 15; with_reducible refine (rickyardlaw15_Great.calls k A4 c4 l4 _ _ (Kd.C_below H4.out HB0.out) hc4 HT1.out).mono ?_; rintro e w1 ⟨rfl, ⟨nd, rfl⟩⟩; have HB1 := Lib.hid (pw_below_drewN HB0.out nd); have HX1 := Lib.hid (blk_drewN HBX.out nd))
        | (go_at_call 15; with_reducible refine (rickyardlaw15_Great.calls k A5 c5 l5 _ _ (Kd.C_below H5.out HB1.out) hc5 HT2.out).mono ?_; rintro e w1 ⟨rfl, ⟨nd2, rfl⟩⟩; have HB2 := Lib.hid (pw_below_drewN HB0.out (nd + nd2)); have HX2 := Lib.hid (blk_drewN HBX.out (nd + nd2)))
        | (go_at_call 16; (with_reducible refine (fold_Fold.calls k A0_0 c0_0 l0_0 a0_1 a2 A4 c4 l4 _ _ _ (Kd.C_below HG.out HB2.out) hc0_0 (Kd.C_below H4.out HB2.out) hc4 HF1.out).mono ?_; rintro e w3 ⟨vx, rfl, hrx, hb⟩; obtain ⟨Ax, cx, evx⟩ := Kd.R_slice hrx; subst evx; have HRX := Lib.hid hrx; have HB3 := Lib.hid (below_step HB2.out hb); have HX3 := Lib.hid (blk_below HX2.out hb); have hx0 := (blk_cell HX3.out 0).trans (show _ = some (Value.slice A0_0 l0_0.length c0_0) from rfl); have hx1 := (blk_cell HX3.out 1).trans (show _ = some (Value.int .i64 a0_1) from rfl); clear hrx hb))
        | (go_at_call 16; with_reducible refine (fold_Fold.calls k A0_0 c0_0 l0_0 a0_1 a3 A5 c5 l5 _ _ _ (Kd.C_below HG.out HB3.out) hc0_0 (Kd.C_below H5.out HB3.out) hc5 HF2.out).mono ?_; rintro e w4 ⟨vy, rfl, hry, hb⟩; obtain ⟨Ay, cy, evy⟩ := Kd.R_slice hry; subst evy; have HRY := Lib.hid hry; have HB4 := Lib.hid (below_step HB3.out hb); have HX4 := Lib.hid (blk_below HX3.out hb); have HRX4 := Lib.hid (Kd.R_below HRX.out hb); clear hry hb)
        | (go_at_call 25; with_reducible refine (mAll_calls k _ A4 c4 l4 A5 c5 l5 _ _ _ (blk_new w4 _) (Kd.C_below H4.out (HB4.out.alloc HB4.out.size _)) hc4 (Kd.C_below H5.out (HB4.out.alloc HB4.out.size _)) hc5 HM1.out).mono ?_; rintro e w5 ⟨vg, rfl, hrg, hb⟩; obtain ⟨Ag, cg, evg⟩ := Kd.R_slice hrg; subst evg; have HRG := Lib.hid hrg; have HB5 := Lib.hid (below_step (HB4.out.alloc HB4.out.size _) hb); have HX5 := Lib.hid (blk_below (blk_alloc HX4.out _) hb); have HRX5 := Lib.hid (Kd.R_below (Kd.R_alloc HRX4.out _) hb); have HRY5 := Lib.hid (Kd.R_below (Kd.R_alloc HRY.out _) hb); clear hrg hb)
        | (go_at_call 25; with_reducible refine (mAll_calls k _ Ax cx x1 Ay cy y1 _ _ _ (blk_new w5 _) (Kd.C_alloc (Kd.R_reads' HRX5.out).2.2 _) (Kd.R_reads' HRX5.out).2.1 (Kd.C_alloc (Kd.R_reads' HRY5.out).2.2 _) (Kd.R_reads' HRY5.out).2.1 HM2.out).mono ?_; rintro e w6 ⟨vh, rfl, hrh, hb⟩; obtain ⟨Ah, ch, evh⟩ := Kd.R_slice hrh; subst evh; have HRH := Lib.hid hrh; have HB6 := Lib.hid (below_step (HB5.out.alloc HB5.out.size _) hb); have HX6 := Lib.hid (blk_below (blk_alloc HX5.out _) hb); have HRG6 := Lib.hid (Kd.R_below (Kd.R_alloc HRG.out _) hb); have hv0 := (blk_cell HX6.out 0).trans (show _ = some (Value.slice A0_0 l0_0.length c0_0) from rfl); have hv1 := (blk_cell HX6.out 1).trans (show _ = some (Value.int .i64 a0_1) from rfl); clear hrh hb)
        | (go_at_call 16; with_reducible refine (fold_Fold.calls k A0_0 c0_0 l0_0 a0_1 a1 Ag cg g1 _ _ _ (Kd.C_below HG.out HB6.out) hc0_0 (Kd.R_reads' HRG6.out).2.2 (Kd.R_reads' HRG6.out).2.1 HF3.out).mono ?_; rintro e w7 ⟨vp, rfl, hrp, hb⟩; obtain ⟨Ap, cp, evp⟩ := Kd.R_slice hrp; subst evp; have HRP := Lib.hid hrp; have HB7 := Lib.hid (below_step HB6.out hb); have HX7 := Lib.hid (blk_below HX6.out hb); have HRH7 := Lib.hid (Kd.R_below HRH.out hb); have hu0 := (blk_cell HX7.out 0).trans (show _ = some (Value.slice A0_0 l0_0.length c0_0) from rfl); have hu1 := (blk_cell HX7.out 1).trans (show _ = some (Value.int .i64 a0_1) from rfl); clear hrp hb)
        | (go_at_call 16; with_reducible refine (fold_Fold.calls k A0_0 c0_0 l0_0 a0_1 a1 Ah ch h1 _ _ _ (Kd.C_below HG.out HB7.out) hc0_0 (Kd.R_reads' HRH7.out).2.2 (Kd.R_reads' HRH7.out).2.1 HF4.out).mono ?_; rintro e w8 ⟨vq, rfl, hrq, hb⟩; obtain ⟨Aq, cq, evq⟩ := Kd.R_slice hrq; subst evq; have HRQ := Lib.hid hrq; have HB8 := Lib.hid (below_step HB7.out hb); have HRP8 := Lib.hid (Kd.R_below HRP.out hb); clear hrq hb)
        | (go_at_call 11; with_reducible refine (rickyardlaw15_alive.calls k _ _ HAV.out).mono ?_; rintro e w9 ⟨rfl, hb⟩; have HB9 := Lib.hid (below_step HB8.out hb); have HRP9 := Lib.hid (Kd.R_below HRP8.out hb); have HRQ9 := Lib.hid (Kd.R_below HRQ.out hb); clear hb)
        | (go_at_call 14; with_reducible refine (rickyardref08_Same.calls k Ap cp p1 Aq cq q1 _ _ (Kd.R_reads' HRP9.out).2.2 (Kd.R_reads' HRP9.out).2.1 (Kd.R_reads' HRQ9.out).2.2 (Kd.R_reads' HRQ9.out).2.1 HSA.out).mono ?_; rintro e w10 ⟨rfl, ⟨nd3, rfl⟩⟩; have HB10 := Lib.hid (pw_below_drewN HB9.out nd3)))
      go_ret
      exact ⟨by rfl, HB10.out⟩
end Go.Proofs.Ytjemmmemenljbaa.PFold
end
section
namespace Go.Proofs.Ytjemmmemenljbaa.PFold
open Go.RowKit Go.Proofs.YtjemmmemenljbaaW.PrintWords Go.Proofs.YtjemmmemenljbaaW.PrintLast Go.Proofs.YtjemmmemenljbaaW.PrintMore
attribute [local go_sem] max2_int min2_int max_two min_two max_three min_three max_four min_four   -- for this text's walks alone
set_option linter.unusedVariables false
set_option linter.unusedSimpArgs false
set_option maxHeartbeats 8000000
set_option maxRecDepth 100000
def rickyardlaw15_FoldParts.Pure : Prop := ∀ (l0_0 : List (S67)) (a0_1 : Int) (a1 : Int) (a2 : Int) (a3 : Int) (l4 : List (S51)) (l5 : List (S51)), (l0_0.length * 16 ≤ 140737488351232 ∧ ∀ z4 ∈ l0_0, wfS67 z4) → (Lit.int .i64 a0_1).wf = true → (Lit.int .i64 a1).wf = true → (Lit.int .i64 a2).wf = true → (Lit.int .i64 a3).wf = true → (l4.length * 72 ≤ 140737488351232 ∧ ∀ z2 ∈ l4, wfS51 z2) → (l5.length * 72 ≤ 140737488351232 ∧ ∀ z2 ∈ l5, wfS51 z2) → ∃ k, rickyardlaw15_FoldParts.f k l0_0 a0_1 a1 a2 a3 l4 l5 = some true
end Go.Proofs.Ytjemmmemenljbaa.PFold
end
