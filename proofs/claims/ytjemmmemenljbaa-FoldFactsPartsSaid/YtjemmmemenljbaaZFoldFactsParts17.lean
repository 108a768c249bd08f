import Derived.Test.YtjemmmemenljbaaZFoldFactsParts16
section
namespace Go.Proofs.Ytjemmmemenljbaa.PFold
open Go.RowKit Go.Proofs.YtjemmmemenljbaaW.PrintWords Go.Proofs.YtjemmmemenljbaaW.PrintLast Go.Proofs.YtjemmmemenljbaaW.PrintMore
set_option linter.unusedVariables false
set_option linter.unusedSimpArgs false
set_option maxHeartbeats 8000000
set_option maxRecDepth 100000
abbrev Fa := S46
def agOf (o : Int × Bool × Int × Int × Int × Int) : Ag := ⟨o.1, o.2.1, ⟨o.2.2.1, o.2.2.2.1⟩, o.2.2.2.2.1, o.2.2.2.2.2⟩
def factGo (k : Nat) (g : List Gr) : List Fa → List En → Option (Option (List En))
  | [], all => some (some all)
  | x :: r, all => (key_Right.f x.f0 x.f1 0).bind fun t => if t = true then
      (if 0 < g.length then (grain_Floor.f x.f1 (rd_T67 g 0).f0).bind fun fl => (key_Write.f k x.f0 fl.1 0).bind fun kb => (agg_One.f x.f2).bind fun o => (putE kb.1 (agOf o) all).bind fun a => factGo k g r a else none)
    else some none
def fold_Facts.f (k : Nat) (g : List Gr) (keep wm : Int) (l : List Fa) : Option (List En × Int) :=
  (fold_check.f k g keep wm []).bind fun e => if e = 0 then (factGo k g l []).bind fun o => (match o with | none => some ([], 110) | some all => fold_Fold.f k g keep wm all) else some ([], e)
theorem enter_facts (args : Array Value) (w : World) : (callFunc 32 args).run Try.prog w = .ok (.enter 32 args) w := enters_ Try.func32 (by kernel_rfl) (by kernel_rfl) args w
theorem no_ents (w : World) : Kd.C k51 w none ([] : List En).length [] := ⟨rfl, by simp, fun h => absurd h (by simp)⟩
def FactRel (k : Nat) (g : List Gr) (A0 : Option Addr) (c0 : Nat) (keep : Int) (l : List Fa) (r : Option (List En)) (w : World) (v : Value) (j : Nat) (wr : World) : Prop :=
  j ≤ l.length ∧ ∃ all, Below w.heap.size w wr ∧ wr.heap[w.heap.size]? = some (.cells #[.slice A0 g.length c0, .int .i64 keep] 24 (0, 0)) ∧ Kd.R k51 51 wr w.heap.size (fun _ => True) v all ∧ factGo k g (l.drop j) all = some r
def FactMid (w : World) (gf gk : Nat) (g : List Gr) (A0 : Option Addr) (c0 : Nat) (keep : Int) (A : Option Addr) (c : Nat) (x : Fa) (fl : Int) (v : Value) (all : List En) (wx : World) : Prop :=
  Below w.heap.size w wx ∧ wx.heap[w.heap.size]? = some (.cells #[.slice A0 g.length c0, .int .i64 keep] 24 (0, 0)) ∧ wx.heap[gf]? = some (.cells #[.slice A x.f0.length c, .int .i64 x.f1, .int .i64 x.f2] 46 (0, 0)) ∧ wx.heap[gk]? = some (.cells #[.slice A x.f0.length c, .int .i64 fl, .int .i64 0] 62 (0, 0)) ∧ Kd.R k51 51 wx w.heap.size (fun _ => True) v all
theorem rd_fact {l : List Fa} {i : Nat} (h : i < l.length) : rd_T46 l (i : Int) = l[i] := by
  unfold rd_T46
  rw [show ((i : Int)).toNat = i from by omega, List.getD_eq_getElem?_getD, List.getElem?_eq_getElem h]
  rfl
theorem fold_Facts.calls (k : Nat) (A0_0 : Option Addr) (c0_0 : Nat) (l0_0 : List Gr) (a0_1 : Int) (a1 : Int) (A2 : Option Addr) (c2 : Nat) (l2 : List Fa) (r1 : List En) (r2 : Int) (w : World) (hr0_0 : Kd.C k67 w A0_0 l0_0.length l0_0) (hc0_0 : l0_0.length ≤ c0_0) (hr2 : Kd.C k46 w A2 l2.length l2) (_hc2 : l2.length ≤ c2) (h : fold_Facts.f k l0_0 a0_1 a1 l2 = some (r1, r2)) :
    Calls Try.prog 12 #[.agg #[.slice A0_0 l0_0.length c0_0, .int .i64 a0_1], .int .i64 a1, .slice A2 l2.length c2] w fun e w' => ∃ v0_ : Value, e = .returned (.tuple #[v0_, .int .i64 r2]) ∧ Kd.R k51 51 w' w.heap.size (fun _ => True) v0_ r1 ∧ Below w.heap.size w w' := by
  have HG := Lib.hid hr0_0; have HE := Lib.hid hr2; clear hr0_0 hr2
  have HBX := Lib.hid (blk_new w (.cells #[.slice A0_0 l0_0.length c0_0, .int .i64 a0_1] 24))
  have HB0 : Hid (Below w.heap.size w (w.alloc (.cells #[.slice A0_0 l0_0.length c0_0, .int .i64 a0_1] 24))) := Lib.hid ((Below.refl _ _).alloc (Nat.le_refl _) _)
  unfold fold_Facts.f at h
  obtain ⟨e0, he0, h2⟩ := Option.bind_eq_some_iff.mp h
  have HCK := Lib.hid he0
  by_cases hz : e0 = 0
  · subst hz
    rw [if_pos rfl] at h2
    obtain ⟨out, hb, h3⟩ := Option.bind_eq_some_iff.mp h2
    have HQ := Lib.hid hb
    have H3 := Lib.hid h3
    clear h he0 h2 hb h3
    go_enter Try.func12, Try.ntmps12
    go_wp2_with (go_at_call 27; refine (fold_check.calls k A0_0 c0_0 l0_0 a0_1 a1 none 0 [] _ _ (Kd.C_below HG.out HB0.out) hc0_0 (no_ents _) (Nat.le_refl _) HCK.out).mono ?_; rintro e w1 ⟨rfl, hb⟩; have HB1 := Lib.hid (below_step HB0.out hb); have HBX1 := Lib.hid (blk_below HBX.out hb); clear hb)
    go_loopw [25, 9] (fun v u wr => ∃ j : Nat, v = .int .i64 j ∧ FactRel k l0_0 A0_0 c0_0 a0_1 l2 out w u j wr) (fun v _ _ => l2.length - (intOf v).toNat)
    case atStart => exact ⟨0, rfl, Nat.zero_le _, [], HB1.out, HBX1.out, Kd.R_nil _ _ _ _ _, HQ.out⟩
    case round =>
      obtain ⟨j, rfl, hj, acc, hB, hX, hR, hF⟩ := hrel
      have HJB := Lib.hid hB; have HJX := Lib.hid hX; have HJR := Lib.hid hR
      clear HB1 HBX1 HQ hB hX hR
      have hmx : l2.length ≤ 9223372036854775807 := HE.out.2.1
      obtain ⟨Ar, cr, hu9⟩ := Kd.R_slice HJR.out
      subst hu9
      by_cases hlt : j < l2.length
      · have e1 : decide ((j : Int) < (l2.length : Int)) = true := decide_eq_true (by omega)
        obtain ⟨ad, A1, c1, ha, hx0, hx1, hx2, hlc, hin⟩ := at_T46 HE.out (j : Int) (by omega) (by omega)
        subst ha
        have HIN := Lib.hid hin
        have hxx := rd_fact hlt
        obtain ⟨x, hx⟩ : ∃ x, x = rd_T46 l2 (j : Int) := ⟨_, rfl⟩
        rw [← hx] at hx0 hx1 hx2 hlc HIN
        simp only [Int.toNat_natCast] at hx0 hx1 hx2
        replace hx0 := (HJB.out.cell (World.block_lt_of_cell? w _ hx0)).trans hx0
        replace hx1 := (HJB.out.cell (World.block_lt_of_cell? w _ hx1)).trans hx1
        replace hx2 := (HJB.out.cell (World.block_lt_of_cell? w _ hx2)).trans hx2
        have hF1 : factGo k l0_0 (x :: l2.drop (j + 1)) acc = some out := by rw [← hF, hx, hxx, ← List.drop_eq_getElem_cons hlt]
        clear hF hx hxx hin
        unfold factGo at hF1
        obtain ⟨t, hkr, hF2⟩ := Option.bind_eq_some_iff.mp hF1
        have HKR := Lib.hid hkr
        clear hF1 hkr
        have hlw := blk_lt HJX.out
        have HFB := Lib.hid (blk_alloc (blk_new wr (.cells #[.slice A1 x.f0.length c1, .int .i64 x.f1, .int .i64 x.f2] 46)) (.cells #[.slice A1 x.f0.length c1, .int .i64 x.f1, .int .i64 0] 62))
        have HKB : Hid (((wr.alloc (.cells #[.slice A1 x.f0.length c1, .int .i64 x.f1, .int .i64 x.f2] 46)).alloc (.cells #[.slice A1 x.f0.length c1, .int .i64 x.f1, .int .i64 0] 62)).heap[wr.heap.size + 1]? = some (.cells #[.slice A1 x.f0.length c1, .int .i64 x.f1, .int .i64 0] 62 (0, 0))) := Lib.hid (by have := blk_new (wr.alloc (.cells #[.slice A1 x.f0.length c1, .int .i64 x.f1, .int .i64 x.f2] 46)) (.cells #[.slice A1 x.f0.length c1, .int .i64 x.f1, .int .i64 0] 62); simpa using this)
        have HAB : Hid (Below w.heap.size w ((wr.alloc (.cells #[.slice A1 x.f0.length c1, .int .i64 x.f1, .int .i64 x.f2] 46)).alloc (.cells #[.slice A1 x.f0.length c1, .int .i64 x.f1, .int .i64 0] 62))) := Lib.hid ((HJB.out.alloc HJB.out.size _).alloc (Nat.le_trans HJB.out.size (by simp)) _)
        have HAX := Lib.hid (blk_alloc (blk_alloc HJX.out (.cells #[.slice A1 x.f0.length c1, .int .i64 x.f1, .int .i64 x.f2] 46)) (.cells #[.slice A1 x.f0.length c1, .int .i64 x.f1, .int .i64 0] 62))
        have HAR := Lib.hid (Kd.R_below HJR.out (((Below.refl _ _).alloc (Nat.le_refl _) (.cells #[.slice A1 x.f0.length c1, .int .i64 x.f1, .int .i64 x.f2] 46)).alloc (by simp) (.cells #[.slice A1 x.f0.length c1, .int .i64 x.f1, .int .i64 0] 62)))
        cases t with
        | false =>
          rw [if_neg (by simp)] at hF2
          obtain rfl := Option.some.inj hF2
          have h3 := H3.out
          simp only [Option.some.injEq, Prod.mk.injEq] at h3
          obtain ⟨rfl, rfl⟩ := h3
          clear hF2
          go_wp2_with (go_at_call 28; refine (key_Right.calls A1 c1 x.f0 x.f1 0 _ _ (Kd.C_below HIN.out HAB.out) hlc HKR.out).mono ?_; rintro e w1 ⟨rfl, hb⟩; have HW := Lib.hid (below_step HAB.out hb); clear hb)
          go_ret2
          exact ⟨_, rfl, Kd.R_nil _ _ _ _ _, HW.out⟩
        | true =>
          rw [if_pos rfl] at hF2
          by_cases hg0 : 0 < l0_0.length
          case neg => rw [if_neg hg0] at hF2; cases hF2
          rw [if_pos hg0] at hF2
          obtain ⟨⟨fl, fe⟩, hfl, hF3⟩ := Option.bind_eq_some_iff.mp hF2
          obtain ⟨⟨kb, ke⟩, hkw, hF4⟩ := Option.bind_eq_some_iff.mp hF3
          obtain ⟨⟨o1, o2, o3, o4, o5, o6⟩, hone, hF5⟩ := Option.bind_eq_some_iff.mp hF4
          obtain ⟨acc', hput, hF6⟩ := Option.bind_eq_some_iff.mp hF5
          have HFL := Lib.hid hfl; have HKW := Lib.hid hkw; have HONE := Lib.hid hone; have HF := Lib.hid hF6; have HPUT := Lib.hid hput
          clear hF2 hF3 hF4 hF5 hF6 hfl hkw hone hput
          go_upto_region 11 with (go_at_call 28; refine (key_Right.calls A1 c1 x.f0 x.f1 0 _ _ (Kd.C_below HIN.out HAB.out) hlc HKR.out).mono ?_; rintro e w1 ⟨rfl, hb⟩; have HB1 := Lib.hid (below_step HAB.out hb); have HX1 := Lib.hid (blk_below HAX.out hb); have HF1 := Lib.hid (blk_below HFB.out hb); have HK1 := Lib.hid (blk_below HKB.out hb); have HR1 := Lib.hid (Kd.R_below HAR.out hb); clear hb)
          go_cut [] (fun wx => FactMid w wr.heap.size (wr.heap.size + 1) l0_0 A0_0 c0_0 a0_1 A1 c1 x fl (.slice Ar acc.length cr) acc wx)
          case first =>
            have hk0 := (blk_cell HX1.out 0).trans (show _ = some (Value.slice A0_0 l0_0.length c0_0) from rfl)
            have hf1 := (blk_cell HF1.out 1).trans (show _ = some (Value.int .i64 x.f1) from rfl)
            obtain ⟨adg, hag, hg0c, hg1c⟩ := at_T67 (Kd.C_below HG.out HB1.out) 0 (by omega) (by omega)
            subst hag
            simp only [Int.toNat_zero, Nat.zero_mul, show ∀ a : Addr, a.add 0 = a from fun a => by simp [Addr.add]] at hg0c hg1c
            go_region_with (go_at_call 29; refine (grain_Floor.calls x.f1 (rd_T67 l0_0 0).f0 _ _ _ HFL.out).mono ?_; rintro e w3 ⟨rfl, hd⟩; have hw3d := hd.below; have hw3 : Below w1.heap.size w1 w3 := ⟨hw3d.os, hw3d.tape, hw3d.output, hw3d.size, hw3d.block⟩; have HW3 := Lib.hid hw3; have hp0 := blk_frozen (blk_below HK1.out hw3) 1; have hp1 := (blk_cell (blk_below HK1.out hw3) 1).trans (show _ = some (Value.int .i64 x.f1) from rfl); clear hw3 hw3d hd)
            all_goals
              go_wp2_with (fail)
              go_meet
              case rel => exact ⟨below_set (below_step HB1.out HW3.out) (show w.heap.size ≤ wr.heap.size + 1 by omega), blk_far (blk_below HX1.out HW3.out) (show w.heap.size ≠ wr.heap.size + 1 by omega) _, blk_far (blk_below HF1.out HW3.out) (show wr.heap.size ≠ wr.heap.size + 1 by omega) _, blk_put (blk_below HK1.out HW3.out) 1 _ (by simp), Kd.R_set (Kd.R_below HR1.out HW3.out) (blk_below HK1.out HW3.out) (by decide) _ _⟩
          case rest =>
            obtain ⟨hB2, hX2, hF2, hK2, hR2⟩ := hcut
            have HBw := Lib.hid hB2; have HXw := Lib.hid hX2; have HFw := Lib.hid hF2; have HKw := Lib.hid hK2; have HRw := Lib.hid hR2
            have hk0 := (blk_cell hK2 0).trans (show _ = some (Value.slice A1 x.f0.length c1) from rfl)
            have hk1 := (blk_cell hK2 1).trans (show _ = some (Value.int .i64 fl) from rfl)
            have hk2 := (blk_cell hK2 2).trans (show _ = some (Value.int .i64 0) from rfl)
            clear hB2 hX2 hF2 hK2 hR2 HAB HAX HAR HFB HKB
            have hput := HPUT.out
            unfold putE at hput
            by_cases hg : acc.length < 1000 ∧ (∀ y ∈ acc, y.f0.all isB = true) ∧ kb.all isB = true
            case neg => rw [if_neg hg] at hput; cases hput
            rw [if_pos hg] at hput
            obtain ⟨hlen, hall, hkb⟩ := hg
            have HALL := Lib.hid hall; have HKB := Lib.hid hkb
            clear hall hkb HPUT
            obtain ⟨i, hi⟩ : ∃ i, i = placeE acc kb := ⟨_, rfl⟩
            obtain ⟨th, hth⟩ : ∃ th, th = thereE acc kb := ⟨_, rfl⟩
            rw [← hi, ← hth] at hput
            have hil : i ≤ acc.length := by rw [hi]; exact placeE_le_ acc kb
            have hS := fun (B : Option Addr) (d : Nat) (W : World) (h1 : Kd.C k51 W Ar acc.length acc) (h2 : Kd.C (Kd.int .u8) W B kb.length kb) (h3 : kb.length ≤ d) => search_ents 32 cmp_facts enter_facts Ar cr acc B d kb W h1 (by omega) h2 h3 HALL.out HKB.out
            rw [← hi, ← hth] at hS
            have HS := Lib.hid hS
            have HTH := Lib.hid hth; have HI := Lib.hid hi
            clear hS hth hi
            cases th with
            | false =>
              rw [if_neg (by simp)] at hput
              obtain rfl := Option.some.inj hput
              clear hput
              go_wp2_with (first
                | (go_at_call 30; refine (key_Write.calls k A1 c1 x.f0 fl 0 _ _ _ (Kd.C_below HIN.out HBw.out) hlc HKW.out).mono ?_; rintro e w1 ⟨v0, rfl, hr, hw⟩; obtain ⟨Av, cv, hv⟩ := Kd.R_slice hr; subst hv; have HR := Lib.hid hr; have HRR := Lib.hid (Kd.R_below HRw.out hw); have HFF1 := Lib.hid (blk_below HFw.out hw); have HRN := Lib.hid (Kd.R_lower (Kd.R_new hr (Kd.R_own HRw.out).choose_spec) HBw.out.size); have HB1 := Lib.hid (below_step HBw.out hw); have HX1 := Lib.hid (blk_below HXw.out hw); clear hr hw)
                | (go_at_call 31; refine (HS.out Av cv w1 (Kd.R_reads' HRR.out).2.2 (Kd.R_reads' HR.out).2.2 (Kd.R_reads' HR.out).2.1).mono ?_; rintro e w2 ⟨rfl, hw2⟩; have HRR2 := Lib.hid (Kd.R_below HRR.out hw2); have HRN2 := Lib.hid (Kd.R_below HRN.out hw2); have HB2 := Lib.hid (below_step HB1.out hw2); have HX2 := Lib.hid (blk_below HX1.out hw2); have hy2 := (blk_cell (blk_below HFF1.out hw2) 2).trans (show _ = some (Value.int .i64 x.f2) from rfl); clear hw2)
                | (go_at_call 19; refine (agg_One.calls x.f2 _ _ _ _ _ _ _ HONE.out).mono ?_; rintro e w5 ⟨rfl, hw5⟩; have HRR5 := Lib.hid (Kd.R_below HRR2.out hw5); have HRN5 := Lib.hid (Kd.R_below HRN2.out hw5); have HB5 := Lib.hid (below_step HB2.out hw5); have HX5 := Lib.hid (blk_below HX2.out hw5); clear hw5)
                | (go_at_call 34; refine (insert_row w5 w.heap.size (.slice Ar acc.length cr) acc i ⟨kb, agOf (o1, o2, o3, o4, o5, o6)⟩ [.slice Av kb.length cv, .int .u64 o1, .bool o2, .int .i64 o3, .int .u64 o4, .int .i64 o5, .int .i64 o6] _ HRR5.out (k51_mkM w5 w.heap.size _ ⟨kb, agOf (o1, o2, o3, o4, o5, o6)⟩ HRN5.out) (fun _ hk => hk.2) HB5.out.size (by omega) hil).mono ?_; rintro e w6 ⟨v3, rfl, hr3, hg3, hat3⟩; have HR3 := Lib.hid hr3; have HB3 := Lib.hid (HB5.out.grown hg3 HB5.out.size (own_base (Kd.R_own HRR5.out).choose_spec)); have HX3 := Lib.hid (blk_grown HX5.out hg3 (Kd.R_ne HRR5.out HX5.out (by decide))); clear hr3 hg3 hat3))
              go_roundw
              case rel => exact ⟨j + 1, by go_num, hlt, _, HB3.out, HX3.out, HR3.out, HF.out⟩
              case measure => simp [intOf]; omega
            | true =>
              rw [if_pos rfl] at hput
              have hil2 : i < acc.length := by
                have := HTH.out
                unfold thereE at this
                rw [← HI.out] at this
                simp only [Bool.true_eq, Bool.and_eq_true, decide_eq_true_eq] at this
                exact this.1
              obtain ⟨y, hy⟩ : ∃ y, y = rd_T51 acc (i : Nat) := ⟨_, rfl⟩
              rw [← hy] at hput
              by_cases hu : inU y.f1.f2.f1 ∧ inU (agOf (o1, o2, o3, o4, o5, o6)).f2.f1
              case neg => rw [if_neg hu] at hput; cases hput
              rw [if_pos hu] at hput
              obtain rfl := Option.some.inj hput
              clear hput
              have HM : Hid (agg_Merge.f y.f1.f0 y.f1.f1 y.f1.f2.f0 y.f1.f2.f1 y.f1.f3 y.f1.f4 o1 o2 o3 o4 o5 o6 = some ((mergeA y.f1 (agOf (o1, o2, o3, o4, o5, o6))).f0, (mergeA y.f1 (agOf (o1, o2, o3, o4, o5, o6))).f1, (mergeA y.f1 (agOf (o1, o2, o3, o4, o5, o6))).f2.f0, (mergeA y.f1 (agOf (o1, o2, o3, o4, o5, o6))).f2.f1, (mergeA y.f1 (agOf (o1, o2, o3, o4, o5, o6))).f3, (mergeA y.f1 (agOf (o1, o2, o3, o4, o5, o6))).f4)) := Lib.hid (by unfold agg_Merge.f; exact if_pos hu)
              clear hu
              generalize mergeA y.f1 (agOf (o1, o2, o3, o4, o5, o6)) = m at HM HF
              have HY := Lib.hid hy
              clear hy
              have hw2' : IntKind.i64.wrap ((i : Int)) = (i : Int) := by rw [IntKind.wrap_i64]; omega
              go_upto_region 15 with (first
                | (go_at_call 30; refine (key_Write.calls k A1 c1 x.f0 fl 0 _ _ _ (Kd.C_below HIN.out HBw.out) hlc HKW.out).mono ?_; rintro e w1 ⟨v0, rfl, hr, hw⟩; obtain ⟨Av, cv, hv⟩ := Kd.R_slice hr; subst hv; have HR := Lib.hid hr; have HRR := Lib.hid (Kd.R_below HRw.out hw); have HFF1 := Lib.hid (blk_below HFw.out hw); have HRN := Lib.hid (Kd.R_lower (Kd.R_new hr (Kd.R_own HRw.out).choose_spec) HBw.out.size); have HB1 := Lib.hid (below_step HBw.out hw); have HX1 := Lib.hid (blk_below HXw.out hw); clear hr hw)
                | (go_at_call 31; refine (HS.out Av cv w1 (Kd.R_reads' HRR.out).2.2 (Kd.R_reads' HR.out).2.2 (Kd.R_reads' HR.out).2.1).mono ?_; rintro e w2 ⟨rfl, hw2⟩; have HRR2 := Lib.hid (Kd.R_below HRR.out hw2); have HRN2 := Lib.hid (Kd.R_below HRN.out hw2); have HB2 := Lib.hid (below_step HB1.out hw2); have HX2 := Lib.hid (blk_below HX1.out hw2); have hy2 := (blk_cell (blk_below HFF1.out hw2) 2).trans (show _ = some (Value.int .i64 x.f2) from rfl); clear hw2))
              obtain ⟨g, hgA, hgw⟩ : ∃ g, Ar = some ⟨g, 0, none⟩ ∧ ∃ cur, w2.heap[g]? = some (.cells cur 51 (0, 0)) := by
                rcases (Kd.R_own HRR2.out).choose_spec.2 with ⟨_, h0⟩ | ⟨g, cap, cur, hv, hb, hh, _⟩
                · omega
                · injection hv with h1 _ _
                  exact ⟨g, h1, cur, hh⟩
              obtain ⟨ad, Ay, cy, ha, hz0, hz1, hz2, hz3, hz4, hz5, hz6, hlc2, hin2⟩ := at_T51 (Kd.R_reads' HRR2.out).2.2 (i : Int) (by omega) (by omega)
              subst ha
              have hadg : ad = ⟨g, 0, none⟩ := by injection hgA
              rw [← HY.out] at hz0 hz1 hz2 hz3 hz4 hz5 hz6 hlc2 hin2
              simp only [Int.toNat_natCast] at hz0 hz1 hz2 hz3 hz4 hz5 hz6
              have hblk : (ad.add (i * 7)).block = g := by rw [hadg, add_plain]
              have hlg : g < w2.heap.size := blk_lt hgw.choose_spec
              have hfz : ∀ (w3 : World), Below w2.heap.size w2 w3 → ∀ o, w3.frozen? ⟨(ad.add (i * 7)).block, o, none⟩ = false := fun w3 hb o => by
                rw [hblk]; exact blk_frozen (blk_below hgw.choose_spec hb) o
              have HFZ := Lib.hid hfz; have HADG := Lib.hid hadg; have HGW := Lib.hid hgw
              clear hfz hadg hgw hgA hblk
              go_region_with (first
                | (go_at_call 19; refine (agg_One.calls x.f2 _ _ _ _ _ _ _ HONE.out).mono ?_; rintro e w5 ⟨rfl, hw5d⟩; have hw5 : Below w2.heap.size w2 w5 := ⟨hw5d.os, hw5d.tape, hw5d.output, hw5d.size, hw5d.block⟩; have HW5 := Lib.hid hw5; have ho1 := (hw5.cell (World.block_lt_of_cell? w2 _ hz1)).trans hz1; have ho2 := (hw5.cell (World.block_lt_of_cell? w2 _ hz2)).trans hz2; have ho3 := (hw5.cell (World.block_lt_of_cell? w2 _ hz3)).trans hz3; have ho4 := (hw5.cell (World.block_lt_of_cell? w2 _ hz4)).trans hz4; have ho5 := (hw5.cell (World.block_lt_of_cell? w2 _ hz5)).trans hz5; have ho6 := (hw5.cell (World.block_lt_of_cell? w2 _ hz6)).trans hz6; clear hw5 hw5d)
                | (go_at_call 18; refine (agg_Merge.calls y.f1.f0 y.f1.f1 y.f1.f2.f0 y.f1.f2.f1 y.f1.f3 y.f1.f4 o1 o2 o3 o4 o5 o6 _ _ _ _ _ _ _ HM.out).mono ?_; rintro e w3 ⟨rfl, hw3d⟩; have hw3 : Below w2.heap.size w2 w3 := HW5.out.trans (hw3d.mono HW5.out.size); have HW3 := Lib.hid hw3; have hq1 := (hw3.cell (World.block_lt_of_cell? w2 _ hz1)).trans hz1; have hq2 := (hw3.cell (World.block_lt_of_cell? w2 _ hz2)).trans hz2; have hq3 := (hw3.cell (World.block_lt_of_cell? w2 _ hz3)).trans hz3; have hq4 := (hw3.cell (World.block_lt_of_cell? w2 _ hz4)).trans hz4; have hq5 := (hw3.cell (World.block_lt_of_cell? w2 _ hz5)).trans hz5; have hq6 := (hw3.cell (World.block_lt_of_cell? w2 _ hz6)).trans hz6; have hp1 := HFZ.out w3 hw3 ((ad.add (i * 7)).off + 1); have hp2 := HFZ.out w3 hw3 ((ad.add (i * 7)).off + 2); have hp3 := HFZ.out w3 hw3 ((ad.add (i * 7)).off + 3); have hp4 := HFZ.out w3 hw3 ((ad.add (i * 7)).off + 4); have hp5 := HFZ.out w3 hw3 ((ad.add (i * 7)).off + 5); have hp6 := HFZ.out w3 hw3 ((ad.add (i * 7)).off + 6); clear hw3 hw3d))
              all_goals
                have hrow := row_agg (Kd.R_below (v := .slice (some ⟨g, 0, none⟩) acc.length cr) (by have := HRR2.out; rw [HADG.out] at this; exact this) HW3.out) i hil2 m (ad.add (i * 7)) (by rw [HADG.out, add_plain])
                rw [← HADG.out] at hrow
                have HROW := Lib.hid hrow
                clear hrow hq1 hq2 hq3 hq4 hq5 hq6 hp1 hp2 hp3 hp4 hp5 hp6
                go_wp2_with (fail)
                go_roundw
                case rel => exact ⟨j + 1, by go_num, hlt, _, (below_step HB2.out HW3.out).grown HROW.out.2 (below_step HB2.out HW3.out).size (by intro k hk; injection hk with hk; have := own_base (Kd.R_own HRR2.out).choose_spec k; rw [HADG.out] at this; subst hk; exact this rfl), blk_grown (blk_below HX2.out HW3.out) HROW.out.2 (by have := Kd.R_ne HRR2.out HX2.out (by decide); rw [HADG.out] at this; exact this), HROW.out.1, by have := HY.out; rw [this] at HF; exact HF.out⟩
                case measure => simp [intOf]; omega
      · have e1 : decide ((j : Int) < (l2.length : Int)) = false := decide_eq_false (by omega)
        rw [List.drop_eq_nil_of_le (by omega)] at hF
        unfold factGo at hF
        obtain rfl := Option.some.inj hF
        have HFF : Hid (fold_Fold.f k l0_0 a0_1 a1 acc = some (r1, r2)) := Lib.hid H3.out
        have hk0 := (blk_cell HJX.out 0).trans (show _ = some (Value.slice A0_0 l0_0.length c0_0) from rfl)
        have hk1 := (blk_cell HJX.out 1).trans (show _ = some (Value.int .i64 a0_1) from rfl)
        clear hF H3
        go_wp2_with (go_at_call 16; refine (fold_Fold.calls k A0_0 c0_0 l0_0 a0_1 a1 Ar cr acc r1 r2 _ (Kd.C_below HG.out HJB.out) hc0_0 (Kd.R_reads' HJR.out).2.2 (Kd.R_reads' HJR.out).2.1 HFF.out).mono ?_; rintro e w1 ⟨v0, rfl, hr, hb⟩; have HRV := Lib.hid (Kd.R_lower hr HJB.out.size); have HBV := Lib.hid (below_step HJB.out hb); clear hr hb)
        go_ret2
        exact ⟨_, rfl, HRV.out, HBV.out⟩
  · rw [if_neg hz] at h2
    simp only [Option.some.injEq, Prod.mk.injEq] at h2
    obtain ⟨rfl, rfl⟩ := h2
    have hz' : (e0 != 0) = true := bne_iff_ne.2 hz
    have hz'' : (e0 == 0) = false := beq_eq_false_iff_ne.2 hz
    clear h he0 hz
    go_enter Try.func12, Try.ntmps12
    go_wp2_with (go_at_call 27; refine (fold_check.calls k A0_0 c0_0 l0_0 a0_1 a1 none 0 [] _ _ (Kd.C_below HG.out HB0.out) hc0_0 (no_ents _) (Nat.le_refl _) HCK.out).mono ?_; rintro e w1 ⟨rfl, hb⟩; have HB1 := Lib.hid (below_step HB0.out hb); clear hb)
    go_ret2
    exact ⟨_, rfl, Kd.R_nil _ _ _ _ _, HB1.out⟩
def aliveG : List Gr := [⟨1, 0⟩, ⟨10, 20⟩]
def aliveL : List Fa := [⟨[], 12, 3⟩, ⟨[], 45, 1⟩, ⟨[], 15, 4⟩]
def aliveO : List En := [⟨[0, 128, 0, 0, 0, 0, 0, 0, 10, 1], ⟨2, false, ⟨0, 7⟩, 3, 4⟩⟩, ⟨[0, 128, 0, 0, 0, 0, 0, 0, 45, 0], ⟨1, false, ⟨0, 1⟩, 1, 1⟩⟩]
theorem alive_facts : fold_Facts.f 64 aliveG 100 50 aliveL = some (aliveO, 0) := by kernel_rfl
theorem alive_fold : fold_Fold.f 64 [] 0 0 [] = some ([], 30) := by kernel_rfl
theorem alive_fits : fold_Fits.f 64 [] 0 [] = some true := by kernel_rfl
def rickyardlaw15_alive.f (k : Nat) : Option Bool := if 64 ≤ k then some true else none
theorem no_grans (w : World) : Kd.C k67 w none ([] : List Gr).length [] := ⟨rfl, by simp, fun h => absurd h (by simp)⟩
theorem no_strs (w : World) : Kd.C Kd.string w none ([] : List ByteArray).length [] := ⟨rfl, by simp, fun h => absurd h (by simp)⟩
theorem alive_lits {w : World} {g : Nat} (h : w.heap[g]? = some (.cells #[.slice none 0 0, .int .i64 12, .int .i64 3, .slice none 0 0, .int .i64 45, .int .i64 1, .slice none 0 0, .int .i64 15, .int .i64 4] 46 (0, 0))) : Kd.C k46 w (some ⟨g, 0, none⟩) aliveL.length aliveL := by
  refine ⟨rfl, by decide, fun _ => ⟨⟨g, 0, none⟩, rfl, fun j p hj => ?_⟩⟩
  have hc := blk_cell h
  match j, hj with
  | 0, hj => obtain rfl := Option.some.inj hj; exact ⟨_, rfl, k46_mk w ⟨[], 12, 3⟩ (Nat.le_refl 0) (no_strs w), fun i u hu => by rw [add_plain, hc]; match i, hu with | 0, hu => exact hu | 1, hu => exact hu | 2, hu => exact hu⟩
  | 1, hj => obtain rfl := Option.some.inj hj; exact ⟨_, rfl, k46_mk w ⟨[], 45, 1⟩ (Nat.le_refl 0) (no_strs w), fun i u hu => by rw [add_plain, hc]; match i, hu with | 0, hu => exact hu | 1, hu => exact hu | 2, hu => exact hu⟩
  | 2, hj => obtain rfl := Option.some.inj hj; exact ⟨_, rfl, k46_mk w ⟨[], 15, 4⟩ (Nat.le_refl 0) (no_strs w), fun i u hu => by rw [add_plain, hc]; match i, hu with | 0, hu => exact hu | 1, hu => exact hu | 2, hu => exact hu⟩
theorem rickyardlaw15_alive.calls (k : Nat) (r : Bool) (w : World) (h : rickyardlaw15_alive.f k = some r) :
    Calls Try.prog 11 #[] w fun e w' => e = .returned (.bool r) ∧ Below w.heap.size w w' := by
  have hr : r = true := by
    unfold rickyardlaw15_alive.f at h
    split at h
    · exact (Option.some.inj h).symm
    · cases h
  subst hr; clear h
  go_enter Try.func11, Try.ntmps11
  go_wp2_with (first
    | (go_at_call 26; refine (rickyardlaw15_Rules.calls aliveG 100 _ rfl).mono ?_; rintro e w1 ⟨v0, rfl, hr, hb⟩; obtain ⟨Ag0, cg0, hv⟩ := Kd.R_slice hr; subst hv; have HR1 := Lib.hid hr; have HB1 := Lib.hid hb; clear hr hb)
    | (go_at_call 12; refine (fold_Facts.calls 64 Ag0 cg0 aliveG 100 50 (some ⟨w1.heap.size, 0, none⟩) 3 aliveL aliveO 0 _ ?c1 ?c2 ?c3 ?c4 alive_facts).mono ?_; (case c1 => exact Kd.C_alloc (Kd.R_reads' HR1.out).2.2 _); (case c2 => exact (Kd.R_reads' HR1.out).2.1); (case c3 => exact alive_lits (blk_new w1 _)); (case c4 => exact Nat.le_refl 3); rintro e w2 ⟨v0, rfl, hr, hb⟩; obtain ⟨Ao, co, hv⟩ := Kd.R_slice hr; subst hv; have HR2 := Lib.hid hr; have HB2 := Lib.hid (below_step (HB1.out.alloc HB1.out.size _) hb); clear hr hb)
    | (go_at_call 16; refine (fold_Fold.calls 64 none 0 [] 0 0 none 0 [] [] 30 _ (no_grans _) (Nat.le_refl 0) (no_ents _) (Nat.le_refl 0) alive_fold).mono ?_; rintro e w3 ⟨v1, rfl, hr, hb⟩; have HB3 := Lib.hid (below_step HB2.out hb); obtain ⟨ad, A0, c0, ha, hx0, hx1, hx2, hx3, hx4, hx5, hx6, hlc, hin⟩ := at_T51 (Kd.C_below (Kd.R_reads' HR2.out).2.2 hb) 0 (by decide) (by decide); obtain ⟨ad', A1, c1, ha', hy0, hy1, hy2, hy3, hy4, hy5, hy6, hlc', hin'⟩ := at_T51 (Kd.C_below (Kd.R_reads' HR2.out).2.2 hb) 1 (by decide) (by decide); subst ha; (have hadd : ad = ad' := by injection ha'); subst hadd; replace hx1 := hx1.trans (show _ = some (Value.int .u64 2) from rfl); replace hx6 := hx6.trans (show _ = some (Value.int .i64 4) from rfl); replace hy1 := hy1.trans (show _ = some (Value.int .u64 1) from rfl); simp only [Int.toNat_zero, Nat.zero_mul, show ∀ a : Addr, a.add 0 = a from fun a => by simp [Addr.add], show (1 : Int).toNat * 7 = 7 from rfl] at hx1 hx6 hy1; (have hy8 : w3.cell? ⟨ad.block, ad.off + 8, none⟩ = some (Value.int .u64 1) := hy1); clear hy1 hr hb hx0 hx2 hx3 hx4 hx5 hy0 hy2 hy3 hy4 hy5 hy6 hlc hlc' hin hin' ha')
    | (go_at_call 23; refine (fold_Fits.calls 64 none 0 [] 0 none 0 [] true _ (no_grans _) (Nat.le_refl 0) (no_ents _) (Nat.le_refl 0) alive_fits).mono ?_; rintro e w4 ⟨rfl, hb⟩; have HB4 := Lib.hid (below_step HB3.out hb); clear hb))
  go_ret
  exact ⟨rfl, HB4.out⟩
end Go.Proofs.Ytjemmmemenljbaa.PFold
end
section
namespace Go.Proofs.Ytjemmmemenljbaa.PFold
open Go.RowKit Go.Proofs.YtjemmmemenljbaaW.PrintWords Go.Proofs.YtjemmmemenljbaaW.PrintLast Go.Proofs.YtjemmmemenljbaaW.PrintMore
attribute [local go_sem] max2_int min2_int max_two min_two max_three min_three max_four min_four   -- for this text's walks alone
set_option linter.unusedVariables false
set_option linter.unusedSimpArgs false
attribute [local go_sem high] eqA41
set_option maxHeartbeats 8000000
set_option maxRecDepth 100000
def rickyardref08_Same.l0 : Nat → List (S51) → List (S51) → Int → Option (Bool)
 | 0, _, _, _ => none
 | k + 1, x0, x1, x5 => if x5 < (x0.length : Int) then (if 0 ≤ x5 then (if x5 < (x1.length : Int) then (if (strOfNums ((rd_T51 x0 x5).f0)).toList = (strOfNums ((rd_T51 x1 x5).f0)).toList then (if (!(((rd_T51 x0 x5).f1.f0) == ((rd_T51 x1 x5).f1.f0)) || (!(((rd_T51 x0 x5).f1.f1) == ((rd_T51 x1 x5).f1.f1)) || ((!(((rd_T51 x0 x5).f1.f2.f0) == ((rd_T51 x1 x5).f1.f2.f0)) || (!(((rd_T51 x0 x5).f1.f2.f1) == ((rd_T51 x1 x5).f1.f2.f1)))) || (!(((rd_T51 x0 x5).f1.f3) == ((rd_T51 x1 x5).f1.f3)) || (!(((rd_T51 x0 x5).f1.f4) == ((rd_T51 x1 x5).f1.f4))))))) = true then (some false) else (rickyardref08_Same.l0 k x0 x1 (wrap64 (x5 + 1)))) else (some false)) else (none)) else (none)) else (some true)
def rickyardref08_Same.f (k : Nat) (l0 : List (S51)) (l1 : List (S51)) : Option (Bool) := if (l0.length : Int) = (l1.length : Int) then (rickyardref08_Same.l0 k l0 l1 0) else (some false)
theorem rickyardref08_Same.calls (k : Nat) (A0 : Option Addr) (c0 : Nat) (l0 : List (S51)) (A1 : Option Addr) (c1 : Nat) (l1 : List (S51)) (r : Bool) (w : World) (hr0 : Kd.C k51 w A0 l0.length l0) (hc0 : l0.length ≤ c0) (hr1 : Kd.C k51 w A1 l1.length l1) (hc1 : l1.length ≤ c1) (h : rickyardref08_Same.f k l0 l1 = some r) :
  Calls Try.prog 14 #[.slice A0 l0.length c0, .slice A1 l1.length c1] w fun e w' => e = .returned (.bool r) ∧ Drawn0 w w' := by
 have hu41 := Try.underlying41
 have HR0 := Aside0.mk hr0
 have HC0 := Aside0.mk hc0
 clear hr0 hc0
 have HR1 := Aside0.mk hr1
 have HC1 := Aside0.mk hc1
 clear hr1 hc1
 have H : (if (l0.length : Int) = (l1.length : Int) then (rickyardref08_Same.l0 k l0 l1 0) else (some false)) = some r := h
 clear h
 by_cases c3 : (l0.length : Int) = (l1.length : Int)
 rotate_left
 ·rw [if_neg c3] at H
  have c3b0 := beq_eq_false_iff_ne.mpr c3
  have c3b1 := bne_iff_ne.mpr c3
  have c3b2 : (l0.length == l1.length) = false := by first | simpa using c3 | (simp at c3 ⊢; omega)
  obtain rfl := Option.some.inj H
  go_enter Try.func14, Try.ntmps14
  go_wp2
  repeat (go_quiet (fail); try go_wp2)
  go_ret
  exact ⟨by first | rfl | (simp; done) | (simp [*]; done), by repeat (first | exact Drawn0.refl _ | apply Drawn0.step)⟩
 rw [if_pos c3] at H
 have c3b0 := beq_iff_eq.mpr c3
 have c3b1 := bne_eq_false_iff_eq.mpr c3
 have c3b2 : (l0.length == l1.length) = true := by first | simpa using c3 | (simp at c3 ⊢; omega)
 clear c3
 have H' := Aside0.mk H
 clear H
 go_enter Try.func14, Try.ntmps14
 go_wp2
 repeat (go_quiet (fail); try go_wp2)
 go_loopg [5] k (fun kq v5 w' => ∃ (x5_1 : Int), v5 = .int .i64 x5_1 ∧ Aside0 (rickyardref08_Same.l0 kq l0 l1 x5_1 = some r) ∧ Aside0 (kq ≤ k) ∧ Drawn0 w w')
 case atStart => exact ⟨(0), relA, H', ⟨Nat.le_refl _⟩, by repeat (first | exact Drawn0.refl _ | apply Drawn0.step)⟩
 case round =>
  clear H'
  try clear c1
  try clear p2
  try clear c3
  try clear c3b0
  try clear c3b1
  try clear c3b2
  obtain ⟨x5_1, rfl, HA, HK1, ⟨m1, rfl⟩⟩ := hrel
  cases gk with
  | zero => exact absurd HA.out (by simp [rickyardref08_Same.l0])
  | succ k1 =>
   have H := HA.out
   clear HA
   simp only [rickyardref08_Same.l0] at H
   by_cases c4 : x5_1 < (l0.length : Int)
   ·rw [if_pos c4] at H
    have c4b0 := decide_eq_true c4
    clear c4
    by_cases c5 : 0 ≤ x5_1
    ·rw [if_pos c5] at H
     have c5b0 := decide_eq_true c5
     clear c5
     by_cases c6 : x5_1 < (l1.length : Int)
     ·rw [if_pos c6] at H
      have c6b0 := decide_eq_true c6
      clear c6
      by_cases c7 : (strOfNums ((rd_T51 l0 x5_1).f0)).toList = (strOfNums ((rd_T51 l1 x5_1).f0)).toList
      ·rw [if_pos c7] at H
       have c7b0 := beq_iff_eq.mpr c7
       have c7b1 := bne_eq_false_iff_eq.mpr c7
       clear c7
       by_cases c8 : (!(((rd_T51 l0 x5_1).f1.f0) == ((rd_T51 l1 x5_1).f1.f0)) || (!(((rd_T51 l0 x5_1).f1.f1) == ((rd_T51 l1 x5_1).f1.f1)) || ((!(((rd_T51 l0 x5_1).f1.f2.f0) == ((rd_T51 l1 x5_1).f1.f2.f0)) || (!(((rd_T51 l0 x5_1).f1.f2.f1) == ((rd_T51 l1 x5_1).f1.f2.f1)))) || (!(((rd_T51 l0 x5_1).f1.f3) == ((rd_T51 l1 x5_1).f1.f3)) || (!(((rd_T51 l0 x5_1).f1.f4) == ((rd_T51 l1 x5_1).f1.f4))))))) = true
       ·rw [if_pos c8] at H
        have c8b0 : (!(((rd_T51 l0 x5_1).f1.f0) == ((rd_T51 l1 x5_1).f1.f0)) || (!(((rd_T51 l0 x5_1).f1.f1) == ((rd_T51 l1 x5_1).f1.f1)) || ((!(((rd_T51 l0 x5_1).f1.f2.f0) == ((rd_T51 l1 x5_1).f1.f2.f0)) || (!(((rd_T51 l0 x5_1).f1.f2.f1) == ((rd_T51 l1 x5_1).f1.f2.f1)))) || (!(((rd_T51 l0 x5_1).f1.f3) == ((rd_T51 l1 x5_1).f1.f3)) || (!(((rd_T51 l0 x5_1).f1.f4) == ((rd_T51 l1 x5_1).f1.f4))))))) = true := c8
        clear c8
        obtain rfl := Option.some.inj H
        have p503 : 0 ≤ (x5_1 : Int) := of_decide_eq_true asmA
        have q503 : x5_1 < (l0.length : Int) := of_decide_eq_true asmA
        obtain ⟨ad503, A503_0, c503_0, e503, hx503_0, hx503_1, hx503_2, hx503_3, hx503_4, hx503_5, hx503_6, hl503_0, hi503_0⟩ := at_T51 HR0.out x5_1 p503 q503
        cases e503
        have HR503_0 := Aside0.mk hi503_0
        have HC503_0 := Aside0.mk hl503_0
        clear hi503_0 hl503_0
        replace p503 := eq_true p503
        replace q503 := eq_true q503
        have hcv9 := Kd.C_string (P := Try.prog) (A := A503_0) (c := c503_0) Try.underlying49 Try.underlying5 Try.underlying9 HR503_0.out
        have hcv10 := fun (n_ : Nat) => Kd.C_string (P := Try.prog) (A := A503_0) (c := c503_0) Try.underlying49 Try.underlying5 Try.underlying9 (Kd.C_drewN HR503_0.out n_)
        have p504 : 0 ≤ (x5_1 : Int) := of_decide_eq_true asmA
        have q504 : x5_1 < (l1.length : Int) := of_decide_eq_true asmA
        obtain ⟨ad504, A504_0, c504_0, e504, hx504_0, hx504_1, hx504_2, hx504_3, hx504_4, hx504_5, hx504_6, hl504_0, hi504_0⟩ := at_T51 HR1.out x5_1 p504 q504
        cases e504
        have HR504_0 := Aside0.mk hi504_0
        have HC504_0 := Aside0.mk hl504_0
        clear hi504_0 hl504_0
        replace p504 := eq_true p504
        replace q504 := eq_true q504
        have hcv11 := Kd.C_string (P := Try.prog) (A := A504_0) (c := c504_0) Try.underlying49 Try.underlying5 Try.underlying9 HR504_0.out
        have hcv12 := fun (n_ : Nat) => Kd.C_string (P := Try.prog) (A := A504_0) (c := c504_0) Try.underlying49 Try.underlying5 Try.underlying9 (Kd.C_drewN HR504_0.out n_)
        have p505 : 0 ≤ (x5_1 : Int) := of_decide_eq_true asmA
        have q505 : x5_1 < (l0.length : Int) := of_decide_eq_true asmA
        obtain ⟨ad505, A505_0, c505_0, e505, hx505_0, hx505_1, hx505_2, hx505_3, hx505_4, hx505_5, hx505_6, hl505_0, hi505_0⟩ := at_T51 HR0.out x5_1 p505 q505
        obtain rfl : ad503 = ad505 := (by injection e505)
        have HR505_0 := Aside0.mk hi505_0
        have HC505_0 := Aside0.mk hl505_0
        clear hi505_0 hl505_0
        replace p505 := eq_true p505
        replace q505 := eq_true q505
        have ea_ := Option.some.inj (hx503_0.symm.trans hx505_0)
        injection ea_ with ea_ en_ ec_
        subst ea_
        subst ec_
        clear en_
        have p506 : 0 ≤ (x5_1 : Int) := of_decide_eq_true asmA
        have q506 : x5_1 < (l1.length : Int) := of_decide_eq_true asmA
        obtain ⟨ad506, A506_0, c506_0, e506, hx506_0, hx506_1, hx506_2, hx506_3, hx506_4, hx506_5, hx506_6, hl506_0, hi506_0⟩ := at_T51 HR1.out x5_1 p506 q506
        obtain rfl : ad504 = ad506 := (by injection e506)
        have HR506_0 := Aside0.mk hi506_0
        have HC506_0 := Aside0.mk hl506_0
        clear hi506_0 hl506_0
        replace p506 := eq_true p506
        replace q506 := eq_true q506
        have ea_ := Option.some.inj (hx504_0.symm.trans hx506_0)
        injection ea_ with ea_ en_ ec_
        subst ea_
        subst ec_
        clear en_
        go_wp2
        repeat (go_quiet (fail); try go_wp2)
        go_ret
        exact ⟨by first | rfl | (simp; done) | (simp [*]; done), by repeat (first | exact Drawn0.refl _ | apply Drawn0.step)⟩
       ·rw [if_neg c8] at H
        have c8b0 : (!(((rd_T51 l0 x5_1).f1.f0) == ((rd_T51 l1 x5_1).f1.f0)) || (!(((rd_T51 l0 x5_1).f1.f1) == ((rd_T51 l1 x5_1).f1.f1)) || ((!(((rd_T51 l0 x5_1).f1.f2.f0) == ((rd_T51 l1 x5_1).f1.f2.f0)) || (!(((rd_T51 l0 x5_1).f1.f2.f1) == ((rd_T51 l1 x5_1).f1.f2.f1)))) || (!(((rd_T51 l0 x5_1).f1.f3) == ((rd_T51 l1 x5_1).f1.f3)) || (!(((rd_T51 l0 x5_1).f1.f4) == ((rd_T51 l1 x5_1).f1.f4))))))) = false := by simpa using c8
        clear c8
        have H' := Aside0.mk H
        clear H
        have p503 : 0 ≤ (x5_1 : Int) := of_decide_eq_true asmA
        have q503 : x5_1 < (l0.length : Int) := of_decide_eq_true asmA
        obtain ⟨ad503, A503_0, c503_0, e503, hx503_0, hx503_1, hx503_2, hx503_3, hx503_4, hx503_5, hx503_6, hl503_0, hi503_0⟩ := at_T51 HR0.out x5_1 p503 q503
        cases e503
        have HR503_0 := Aside0.mk hi503_0
        have HC503_0 := Aside0.mk hl503_0
        clear hi503_0 hl503_0
        replace p503 := eq_true p503
        replace q503 := eq_true q503
        have hcv13 := Kd.C_string (P := Try.prog) (A := A503_0) (c := c503_0) Try.underlying49 Try.underlying5 Try.underlying9 HR503_0.out
        have hcv14 := fun (n_ : Nat) => Kd.C_string (P := Try.prog) (A := A503_0) (c := c503_0) Try.underlying49 Try.underlying5 Try.underlying9 (Kd.C_drewN HR503_0.out n_)
        have p504 : 0 ≤ (x5_1 : Int) := of_decide_eq_true asmA
        have q504 : x5_1 < (l1.length : Int) := of_decide_eq_true asmA
        obtain ⟨ad504, A504_0, c504_0, e504, hx504_0, hx504_1, hx504_2, hx504_3, hx504_4, hx504_5, hx504_6, hl504_0, hi504_0⟩ := at_T51 HR1.out x5_1 p504 q504
        cases e504
        have HR504_0 := Aside0.mk hi504_0
        have HC504_0 := Aside0.mk hl504_0
        clear hi504_0 hl504_0
        replace p504 := eq_true p504
        replace q504 := eq_true q504
        have hcv15 := Kd.C_string (P := Try.prog) (A := A504_0) (c := c504_0) Try.underlying49 Try.underlying5 Try.underlying9 HR504_0.out
        have hcv16 := fun (n_ : Nat) => Kd.C_string (P := Try.prog) (A := A504_0) (c := c504_0) Try.underlying49 Try.underlying5 Try.underlying9 (Kd.C_drewN HR504_0.out n_)
        have p505 : 0 ≤ (x5_1 : Int) := of_decide_eq_true asmA
        have q505 : x5_1 < (l0.length : Int) := of_decide_eq_true asmA
        obtain ⟨ad505, A505_0, c505_0, e505, hx505_0, hx505_1, hx505_2, hx505_3, hx505_4, hx505_5, hx505_6, hl505_0, hi505_0⟩ := at_T51 HR0.out x5_1 p505 q505
        obtain rfl : ad503 = ad505 := (by injection e505)
        have HR505_0 := Aside0.mk hi505_0
        have HC505_0 := Aside0.mk hl505_0
        clear hi505_0 hl505_0
        replace p505 := eq_true p505
        replace q505 := eq_true q505
        have ea_ := Option.some.inj (hx503_0.symm.trans hx505_0)
        injection ea_ with ea_ en_ ec_
        subst ea_
        subst ec_
        clear en_
        have p506 : 0 ≤ (x5_1 : Int) := of_decide_eq_true asmA
        have q506 : x5_1 < (l1.length : Int) := of_decide_eq_true asmA
        obtain ⟨ad506, A506_0, c506_0, e506, hx506_0, hx506_1, hx506_2, hx506_3, hx506_4, hx506_5, hx506_6, hl506_0, hi506_0⟩ := at_T51 HR1.out x5_1 p506 q506
        obtain rfl : ad504 = ad506 := (by injection e506)
        have HR506_0 := Aside0.mk hi506_0
        have HC506_0 := Aside0.mk hl506_0
        clear hi506_0 hl506_0
        replace p506 := eq_true p506
        replace q506 := eq_true q506
        have ea_ := Option.some.inj (hx504_0.symm.trans hx506_0)
        injection ea_ with ea_ en_ ec_
        subst ea_
        subst ec_
        clear en_
        go_wp2
        repeat (go_quiet (fail); try go_wp2)
        go_roundg k1
        case measure => have := HK1.out; omega
        case rel => exact ⟨(wrap64 (x5_1 + 1)), relA, H', ⟨by have := HK1.out; omega⟩, by repeat (first | exact Drawn0.refl _ | apply Drawn0.step)⟩
      ·rw [if_neg c7] at H
       have c7b0 := beq_eq_false_iff_ne.mpr c7
       have c7b1 := bne_iff_ne.mpr c7
       obtain rfl := Option.some.inj H
       have p503 : 0 ≤ (x5_1 : Int) := of_decide_eq_true asmA
       have q503 : x5_1 < (l0.length : Int) := of_decide_eq_true asmA
       obtain ⟨ad503, A503_0, c503_0, e503, hx503_0, hx503_1, hx503_2, hx503_3, hx503_4, hx503_5, hx503_6, hl503_0, hi503_0⟩ := at_T51 HR0.out x5_1 p503 q503
       cases e503
       have HR503_0 := Aside0.mk hi503_0
       have HC503_0 := Aside0.mk hl503_0
       clear hi503_0 hl503_0
       replace p503 := eq_true p503
       replace q503 := eq_true q503
       have hcv17 := Kd.C_string (P := Try.prog) (A := A503_0) (c := c503_0) Try.underlying49 Try.underlying5 Try.underlying9 HR503_0.out
       have hcv18 := fun (n_ : Nat) => Kd.C_string (P := Try.prog) (A := A503_0) (c := c503_0) Try.underlying49 Try.underlying5 Try.underlying9 (Kd.C_drewN HR503_0.out n_)
       have p504 : 0 ≤ (x5_1 : Int) := of_decide_eq_true asmA
       have q504 : x5_1 < (l1.length : Int) := of_decide_eq_true asmA
       obtain ⟨ad504, A504_0, c504_0, e504, hx504_0, hx504_1, hx504_2, hx504_3, hx504_4, hx504_5, hx504_6, hl504_0, hi504_0⟩ := at_T51 HR1.out x5_1 p504 q504
       cases e504
       have HR504_0 := Aside0.mk hi504_0
       have HC504_0 := Aside0.mk hl504_0
       clear hi504_0 hl504_0
       replace p504 := eq_true p504
       replace q504 := eq_true q504
       have hcv19 := Kd.C_string (P := Try.prog) (A := A504_0) (c := c504_0) Try.underlying49 Try.underlying5 Try.underlying9 HR504_0.out
       have hcv20 := fun (n_ : Nat) => Kd.C_string (P := Try.prog) (A := A504_0) (c := c504_0) Try.underlying49 Try.underlying5 Try.underlying9 (Kd.C_drewN HR504_0.out n_)
       go_wp2
       repeat (go_quiet (fail); try go_wp2)
       go_ret
       exact ⟨by first | rfl | (simp; done) | (simp [*]; done), by repeat (first | exact Drawn0.refl _ | apply Drawn0.step)⟩
     ·rw [if_neg c6] at H
      exact absurd H (by simp)
    ·rw [if_neg c5] at H
     exact absurd H (by simp)
   ·rw [if_neg c4] at H
    have c4b0 := decide_eq_false c4
    clear c4
    obtain rfl := Option.some.inj H
    go_wp2
    repeat (go_quiet (fail); try go_wp2)
    go_ret
    exact ⟨by first | rfl | (simp; done) | (simp [*]; done), by repeat (first | exact Drawn0.refl _ | apply Drawn0.step)⟩
end Go.Proofs.Ytjemmmemenljbaa.PFold
end
section
namespace Go.Proofs.Ytjemmmemenljbaa.PFold
open Go.RowKit Go.Proofs.YtjemmmemenljbaaW.PrintWords Go.Proofs.YtjemmmemenljbaaW.PrintLast Go.Proofs.YtjemmmemenljbaaW.PrintMore
set_option linter.unusedVariables false
set_option linter.unusedSimpArgs false
set_option maxHeartbeats 8000000
set_option maxRecDepth 100000
def Fr.strip (f : Fr) : Fr := ⟨none, 0, f.l, f.p⟩
theorem lessFr_strip (a b : Fr) : lessFr a.strip b.strip = lessFr a b := rfl
theorem sinkFs_strip (fs : List Fr) : sinkFs (fs.map Fr.strip) = (sinkFs fs).map Fr.strip := by
  match fs with
  | [] => rfl
  | [a] => rfl
  | [a, b] =>
    show (if lessFr b.strip a.strip = true then [b.strip, a.strip] else [a.strip, b.strip]) = (if lessFr b a = true then [b, a] else [a, b]).map Fr.strip
    rw [lessFr_strip]
    by_cases h : lessFr b a = true
    · rw [if_pos h, if_pos h]; rfl
    · rw [if_neg h, if_neg h]; rfl
  | a :: b :: c :: r => rfl
theorem nextFs_strip (f : Fr) (q : List Fr) : nextFs f.strip (q.map Fr.strip) = (nextFs f q).map Fr.strip := by
  unfold nextFs
  rw [← sinkFs_strip]
  by_cases h : 1 < f.l.length
  · rw [if_pos h, if_pos (show 1 < f.strip.l.length from h)]
    rfl
  · rw [if_neg h, if_neg (show ¬ 1 < f.strip.l.length from h)]
theorem mrgGo_strip : ∀ (k : Nat) (fs : List Fr) (acc : List En), mrgGo k (fs.map Fr.strip) acc = mrgGo k fs acc
  | 0, _, _ => rfl
  | k + 1, [], _ => rfl
  | k + 1, f :: q, acc => by
    show (match f.strip.l.head? with | none => none | some x => (putM x acc).bind fun a => mrgGo k (nextFs f.strip (q.map Fr.strip)) a) = (match f.l.head? with | none => none | some x => (putM x acc).bind fun a => mrgGo k (nextFs f q) a)
    rw [show f.strip.l = f.l from rfl]
    cases f.l.head? with
    | none => rfl
    | some x =>
      show (putM x acc).bind _ = (putM x acc).bind _
      congr 1
      funext a
      rw [nextFs_strip, mrgGo_strip k]
theorem frontsOf_strip (rs : List Fr) : frontsOf (rs.map Fr.strip) = (frontsOf rs).map Fr.strip := by
  unfold frontsOf
  rw [List.filter_map]
  rfl
theorem firstE_strip : ∀ rs : List Fr, firstE (rs.map Fr.strip) = firstE rs
  | [] => rfl
  | r :: q => by
    show (if rowE r.strip.l = 0 then firstE (q.map Fr.strip) else rowE r.strip.l) = (if rowE r.l = 0 then firstE q else rowE r.l)
    rw [firstE_strip q]
    rfl
def twoRows (a b : List En) : List Fr := [⟨none, 0, a, 0⟩, ⟨none, 0, b, 1⟩]
def RowW (a : List En) : Prop := a.length ≤ 140737488355328 ∧ ∀ y ∈ a, y.f0.all isB = true ∧ y.f0.length ≤ 140737488355327
open Classical in
noncomputable def mAll (k : Nat) (a b : List En) : Option (List En × Int) :=
  if RowW a ∧ RowW b then (if firstE (twoRows a b) = 0 then (mrgGo k (sinkFs (frontsOf (twoRows a b))) []).bind fun r => some (r, 0) else some ([], firstE (twoRows a b))) else none
theorem mAll_calls (k gr : Nat) (A0 : Option Addr) (c0 : Nat) (a : List En) (A1 : Option Addr) (c1 : Nat) (b : List En) (r : List En) (e0 : Int) (w : World) (hg : w.heap[gr]? = some (.cells #[.slice A0 a.length c0, .slice A1 b.length c1] 28 (0, 0))) (ha : Kd.C k51 w A0 a.length a) (hca : a.length ≤ c0) (hb : Kd.C k51 w A1 b.length b) (hcb : b.length ≤ c1) (h : mAll k a b = some (r, e0)) :
    Calls Try.prog 25 #[.slice (some ⟨gr, 0, none⟩) 2 2] w fun e w' => ∃ v, e = .returned (.tuple #[v, .int .i64 e0]) ∧ Kd.R k51 51 w' w.heap.size (fun _ => True) v r ∧ Below w.heap.size w w' := by
  unfold mAll at h
  by_cases hw : RowW a ∧ RowW b
  case neg => rw [if_neg hw] at h; cases h
  rw [if_pos hw] at h
  have hr : ∀ f ∈ ([⟨A0, c0, a, 0⟩, ⟨A1, c1, b, 1⟩] : List Fr), RowIn w f := fun f hf => by
    rcases List.mem_cons.1 hf with rfl | hf
    · exact ⟨ha, hca, hw.1.1, fun y hy => (hw.1.2 y hy).1, fun y hy => (hw.1.2 y hy).2⟩
    · obtain rfl := List.mem_singleton.1 hf
      exact ⟨hb, hcb, hw.2.1, fun y hy => (hw.2.2 y hy).1, fun y hy => (hw.2.2 y hy).2⟩
  have hp : ∀ j (hj : j < ([⟨A0, c0, a, 0⟩, ⟨A1, c1, b, 1⟩] : List Fr).length), ([⟨A0, c0, a, 0⟩, ⟨A1, c1, b, 1⟩] : List Fr)[j].p = (j : Int) := fun j hj => by
    match j, hj with
    | 0, _ => rfl
    | 1, _ => rfl
  have es : twoRows a b = ([⟨A0, c0, a, 0⟩, ⟨A1, c1, b, 1⟩] : List Fr).map Fr.strip := rfl
  rw [es, firstE_strip, frontsOf_strip, sinkFs_strip, mrgGo_strip] at h
  by_cases hz : firstE ([⟨A0, c0, a, 0⟩, ⟨A1, c1, b, 1⟩] : List Fr) = 0
  · rw [if_pos hz] at h
    obtain ⟨r2, hgo, h2⟩ := Option.bind_eq_some_iff.mp h
    simp only [Option.some.injEq, Prod.mk.injEq] at h2
    obtain ⟨rfl, rfl⟩ := h2
    exact all_calls k gr _ _ rfl hp w hg hr hz hgo
  · rw [if_neg hz] at h
    simp only [Option.some.injEq, Prod.mk.injEq] at h
    obtain ⟨rfl, rfl⟩ := h
    refine (all_errs gr _ rfl hp w hg hr hz).mono ?_
    rintro e w' ⟨rfl, hb'⟩
    exact ⟨_, rfl, Kd.R_nil _ _ _ _ _, hb'⟩
end Go.Proofs.Ytjemmmemenljbaa.PFold
end
