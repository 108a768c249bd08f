import Derived.Test.YtjemmmemenljbaaZFoldFacts20
import Init
section
namespace Go.Proofs.Ytjemmmemenljbaa.PFold
open Go.RowKit Go.Proofs.YtjemmmemenljbaaW.PrintWords Go.Proofs.YtjemmmemenljbaaW.PrintLast Go.Proofs.YtjemmmemenljbaaW.PrintMore
set_option linter.unusedVariables false
set_option linter.unusedSimpArgs false
set_option maxHeartbeats 8000000
set_option maxRecDepth 100000
abbrev Fa := S46
def agOf (o : Int × Bool × Int × Int × Int × Int) : Ag := ⟨o.1, o.2.1, ⟨o.2.2.1, o.2.2.2.1⟩, o.2.2.2.2.1, o.2.2.2.2.2⟩
def factGo (k : Nat) (g : List Gr) : List Fa → List En → Option (Option (List En))
  | [], all => some (some all)
  | x :: r, all => (key_Right.f x.f0 x.f1 0).bind fun t => if t = true then
      (if 0 < g.length then (grain_Floor.f x.f1 (rd_T67 g 0).f0).bind fun fl => (key_Write.f k x.f0 fl.1 0).bind fun kb => (agg_One.f x.f2).bind fun o => (putE kb.1 (agOf o) all).bind fun a => factGo k g r a else none)
    else some none
def fold_Facts.f (k : Nat) (g : List Gr) (keep wm : Int) (l : List Fa) : Option (List En × Int) :=
  (fold_check.f k g keep wm []).bind fun e => if e = 0 then (factGo k g l []).bind fun o => (match o with | none => some ([], 110) | some all => fold_Fold.f k g keep wm all) else some ([], e)
theorem enter_facts (args : Array Value) (w : World) : (callFunc 32 args).run Try.prog w = .ok (.enter 32 args) w := enters_ Try.func32 (by kernel_rfl) (by kernel_rfl) args w
theorem no_ents (w : World) : Kd.C k51 w none ([] : List En).length [] := ⟨rfl, by simp, fun h => absurd h (by simp)⟩
def FactRel (k : Nat) (g : List Gr) (A0 : Option Addr) (c0 : Nat) (keep : Int) (l : List Fa) (r : Option (List En)) (w : World) (v : Value) (j : Nat) (wr : World) : Prop :=
  j ≤ l.length ∧ ∃ all, Below w.heap.size w wr ∧ wr.heap[w.heap.size]? = some (.cells #[.slice A0 g.length c0, .int .i64 keep] 24 (0, 0)) ∧ Kd.R k51 51 wr w.heap.size (fun _ => True) v all ∧ factGo k g (l.drop j) all = some r
def FactMid (w : World) (gf gk : Nat) (g : List Gr) (A0 : Option Addr) (c0 : Nat) (keep : Int) (A : Option Addr) (c : Nat) (x : Fa) (fl : Int) (v : Value) (all : List En) (wx : World) : Prop :=
  Below w.heap.size w wx ∧ wx.heap[w.heap.size]? = some (.cells #[.slice A0 g.length c0, .int .i64 keep] 24 (0, 0)) ∧ wx.heap[gf]? = some (.cells #[.slice A x.f0.length c, .int .i64 x.f1, .int .i64 x.f2] 46 (0, 0)) ∧ wx.heap[gk]? = some (.cells #[.slice A x.f0.length c, .int .i64 fl, .int .i64 0] 62 (0, 0)) ∧ Kd.R k51 51 wx w.heap.size (fun _ => True) v all
theorem rd_fact {l : List Fa} {i : Nat} (h : i < l.length) : rd_T46 l (i : Int) = l[i] := by
  unfold rd_T46
  rw [show ((i : Int)).toNat = i from by omega, List.getD_eq_getElem?_getD, List.getElem?_eq_getElem h]
  rfl
theorem fold_Facts.calls (k : Nat) (A0_0 : Option Addr) (c0_0 : Nat) (l0_0 : List Gr) (a0_1 : Int) (a1 : Int) (A2 : Option Addr) (c2 : Nat) (l2 : List Fa) (r1 : List En) (r2 : Int) (w : World) (hr0_0 : Kd.C k67 w A0_0 l0_0.length l0_0) (hc0_0 : l0_0.length ≤ c0_0) (hr2 : Kd.C k46 w A2 l2.length l2) (_hc2 : l2.length ≤ c2) (h : fold_Facts.f k l0_0 a0_1 a1 l2 = some (r1, r2)) :
    Calls Try.prog 12 #[.agg #[.slice A0_0 l0_0.length c0_0, .int .i64 a0_1], .int .i64 a1, .slice A2 l2.length c2] w fun e w' => ∃ v0_ : Value, e = .returned (.tuple #[v0_, .int .i64 r2]) ∧ Kd.R k51 51 w' w.heap.size (fun _ => True) v0_ r1 ∧ Below w.heap.size w w' := by
  have HG := Lib.hid hr0_0; have HE := Lib.hid hr2; clear hr0_0 hr2
  have HBX := Lib.hid (blk_new w (.cells #[.slice A0_0 l0_0.length c0_0, .int .i64 a0_1] 24))
  have HB0 : Hid (Below w.heap.size w (w.alloc (.cells #[.slice A0_0 l0_0.length c0_0, .int .i64 a0_1] 24))) := Lib.hid ((Below.refl _ _).alloc (Nat.le_refl _) _)
  unfold fold_Facts.f at h
  obtain ⟨e0, he0, h2⟩ := Option.bind_eq_some_iff.mp h
  have HCK := Lib.hid he0
  by_cases hz : e0 = 0
  · subst hz
    rw [if_pos rfl] at h2
    obtain ⟨out, hb, h3⟩ := Option.bind_eq_some_iff.mp h2
    have HQ := Lib.hid hb
    have H3 := Lib.hid h3
    clear h he0 h2 hb h3
    go_enter Try.func12, Try.ntmps12
    go_wp2_with (go_at_call 27; refine (fold_check.calls k A0_0 c0_0 l0_0 a0_1 a1 none 0 [] _ _ (Kd.C_below HG.out HB0.out) hc0_0 (no_ents _) (Nat.le_refl _) HCK.out).mono ?_; rintro e w1 ⟨rfl, hb⟩; have HB1 := Lib.hid (below_step HB0.out hb); have HBX1 := Lib.hid (blk_below HBX.out hb); clear hb)
    go_loopw [25, 9] (fun v u wr => ∃ j : Nat, v = .int .i64 j ∧ FactRel k l0_0 A0_0 c0_0 a0_1 l2 out w u j wr) (fun v _ _ => l2.length - (intOf v).toNat)
    case atStart => exact ⟨0, rfl, Nat.zero_le _, [], HB1.out, HBX1.out, Kd.R_nil _ _ _ _ _, HQ.out⟩
    case round =>
      obtain ⟨j, rfl, hj, acc, hB, hX, hR, hF⟩ := hrel
      have HJB := Lib.hid hB; have HJX := Lib.hid hX; have HJR := Lib.hid hR
      clear HB1 HBX1 HQ hB hX hR
      have hmx : l2.length ≤ 9223372036854775807 := HE.out.2.1
      obtain ⟨Ar, cr, hu9⟩ := Kd.R_slice HJR.out
      subst hu9
      by_cases hlt : j < l2.length
      · have e1 : decide ((j : Int) < (l2.length : Int)) = true := decide_eq_true (by omega)
        obtain ⟨ad, A1, c1, ha, hx0, hx1, hx2, hlc, hin⟩ := at_T46 HE.out (j : Int) (by omega) (by omega)
        subst ha
        have HIN := Lib.hid hin
        have hxx := rd_fact hlt
        obtain ⟨x, hx⟩ : ∃ x, x = rd_T46 l2 (j : Int) := ⟨_, rfl⟩
        rw [← hx] at hx0 hx1 hx2 hlc HIN
        simp only [Int.toNat_natCast] at hx0 hx1 hx2
        replace hx0 := (HJB.out.cell (World.block_lt_of_cell? w _ hx0)).trans hx0
        replace hx1 := (HJB.out.cell (World.block_lt_of_cell? w _ hx1)).trans hx1
        replace hx2 := (HJB.out.cell (World.block_lt_of_cell? w _ hx2)).trans hx2
        have hF1 : factGo k l0_0 (x :: l2.drop (j + 1)) acc = some out := by rw [← hF, hx, hxx, ← List.drop_eq_getElem_cons hlt]
        clear hF hx hxx hin
        unfold factGo at hF1
        obtain ⟨t, hkr, hF2⟩ := Option.bind_eq_some_iff.mp hF1
        have HKR := Lib.hid hkr
        clear hF1 hkr
        have hlw := blk_lt HJX.out
        have HFB := Lib.hid (blk_alloc (blk_new wr (.cells #[.slice A1 x.f0.length c1, .int .i64 x.f1, .int .i64 x.f2] 46)) (.cells #[.slice A1 x.f0.length c1, .int .i64 x.f1, .int .i64 0] 62))
        have HKB : Hid (((wr.alloc (.cells #[.slice A1 x.f0.length c1, .int .i64 x.f1, .int .i64 x.f2] 46)).alloc (.cells #[.slice A1 x.f0.length c1, .int .i64 x.f1, .int .i64 0] 62)).heap[wr.heap.size + 1]? = some (.cells #[.slice A1 x.f0.length c1, .int .i64 x.f1, .int .i64 0] 62 (0, 0))) := Lib.hid (by have := blk_new (wr.alloc (.cells #[.slice A1 x.f0.length c1, .int .i64 x.f1, .int .i64 x.f2] 46)) (.cells #[.slice A1 x.f0.length c1, .int .i64 x.f1, .int .i64 0] 62); simpa using this)
        have HAB : Hid (Below w.heap.size w ((wr.alloc (.cells #[.slice A1 x.f0.length c1, .int .i64 x.f1, .int .i64 x.f2] 46)).alloc (.cells #[.slice A1 x.f0.length c1, .int .i64 x.f1, .int .i64 0] 62))) := Lib.hid ((HJB.out.alloc HJB.out.size _).alloc (Nat.le_trans HJB.out.size (by simp)) _)
        have HAX := Lib.hid (blk_alloc (blk_alloc HJX.out (.cells #[.slice A1 x.f0.length c1, .int .i64 x.f1, .int .i64 x.f2] 46)) (.cells #[.slice A1 x.f0.length c1, .int .i64 x.f1, .int .i64 0] 62))
        have HAR := Lib.hid (Kd.R_below HJR.out (((Below.refl _ _).alloc (Nat.le_refl _) (.cells #[.slice A1 x.f0.length c1, .int .i64 x.f1, .int .i64 x.f2] 46)).alloc (by simp) (.cells #[.slice A1 x.f0.length c1, .int .i64 x.f1, .int .i64 0] 62)))
        cases t with
        | false =>
          rw [if_neg (by simp)] at hF2
          obtain rfl := Option.some.inj hF2
          have h3 := H3.out
          simp only [Option.some.injEq, Prod.mk.injEq] at h3
          obtain ⟨rfl, rfl⟩ := h3
          clear hF2
          go_wp2_with (go_at_call 28; refine (key_Right.calls A1 c1 x.f0 x.f1 0 _ _ (Kd.C_below HIN.out HAB.out) hlc HKR.out).mono ?_; rintro e w1 ⟨rfl, hb⟩; have HW := Lib.hid (below_step HAB.out hb); clear hb)
          go_ret2
          exact ⟨_, rfl, Kd.R_nil _ _ _ _ _, HW.out⟩
        | true =>
          rw [if_pos rfl] at hF2
          by_cases hg0 : 0 < l0_0.length
          case neg => rw [if_neg hg0] at hF2; cases hF2
          rw [if_pos hg0] at hF2
          obtain ⟨⟨fl, fe⟩, hfl, hF3⟩ := Option.bind_eq_some_iff.mp hF2
          obtain ⟨⟨kb, ke⟩, hkw, hF4⟩ := Option.bind_eq_some_iff.mp hF3
          obtain ⟨⟨o1, o2, o3, o4, o5, o6⟩, hone, hF5⟩ := Option.bind_eq_some_iff.mp hF4
          obtain ⟨acc', hput, hF6⟩ := Option.bind_eq_some_iff.mp hF5
          have HFL := Lib.hid hfl; have HKW := Lib.hid hkw; have HONE := Lib.hid hone; have HF := Lib.hid hF6; have HPUT := Lib.hid hput
          clear hF2 hF3 hF4 hF5 hF6 hfl hkw hone hput
          go_upto_region 11 with (go_at_call 28; refine (key_Right.calls A1 c1 x.f0 x.f1 0 _ _ (Kd.C_below HIN.out HAB.out) hlc HKR.out).mono ?_; rintro e w1 ⟨rfl, hb⟩; have HB1 := Lib.hid (below_step HAB.out hb); have HX1 := Lib.hid (blk_below HAX.out hb); have HF1 := Lib.hid (blk_below HFB.out hb); have HK1 := Lib.hid (blk_below HKB.out hb); have HR1 := Lib.hid (Kd.R_below HAR.out hb); clear hb)
          go_cut [] (fun wx => FactMid w wr.heap.size (wr.heap.size + 1) l0_0 A0_0 c0_0 a0_1 A1 c1 x fl (.slice Ar acc.length cr) acc wx)
          case first =>
            have hk0 := (blk_cell HX1.out 0).trans (show _ = some (Value.slice A0_0 l0_0.length c0_0) from rfl)
            have hf1 := (blk_cell HF1.out 1).trans (show _ = some (Value.int .i64 x.f1) from rfl)
            obtain ⟨adg, hag, hg0c, hg1c⟩ := at_T67 (Kd.C_below HG.out HB1.out) 0 (by omega) (by omega)
            subst hag
            simp only [Int.toNat_zero, Nat.zero_mul, show ∀ a : Addr, a.add 0 = a from fun a => by simp [Addr.add]] at hg0c hg1c
            go_region_with (go_at_call 29; refine (grain_Floor.calls x.f1 (rd_T67 l0_0 0).f0 _ _ _ HFL.out).mono ?_; rintro e w3 ⟨rfl, hd⟩; have hw3d := hd.below; have hw3 : Below w1.heap.size w1 w3 := ⟨hw3d.os, hw3d.tape, hw3d.output, hw3d.size, hw3d.block⟩; have HW3 := Lib.hid hw3; have hp0 := blk_frozen (blk_below HK1.out hw3) 1; have hp1 := (blk_cell (blk_below HK1.out hw3) 1).trans (show _ = some (Value.int .i64 x.f1) from rfl); clear hw3 hw3d hd)
            all_goals
              go_wp2_with (fail)
              go_meet
              case rel => exact ⟨below_set (below_step HB1.out HW3.out) (show w.heap.size ≤ wr.heap.size + 1 by omega), blk_far (blk_below HX1.out HW3.out) (show w.heap.size ≠ wr.heap.size + 1 by omega) _, blk_far (blk_below HF1.out HW3.out) (show wr.heap.size ≠ wr.heap.size + 1 by omega) _, blk_put (blk_below HK1.out HW3.out) 1 _ (by simp), Kd.R_set (Kd.R_below HR1.out HW3.out) (blk_below HK1.out HW3.out) (by decide) _ _⟩
          case rest =>
            obtain ⟨hB2, hX2, hF2, hK2, hR2⟩ := hcut
            have HBw := Lib.hid hB2; have HXw := Lib.hid hX2; have HFw := Lib.hid hF2; have HKw := Lib.hid hK2; have HRw := Lib.hid hR2
            have hk0 := (blk_cell hK2 0).trans (show _ = some (Value.slice A1 x.f0.length c1) from rfl)
            have hk1 := (blk_cell hK2 1).trans (show _ = some (Value.int .i64 fl) from rfl)
            have hk2 := (blk_cell hK2 2).trans (show _ = some (Value.int .i64 0) from rfl)
            clear hB2 hX2 hF2 hK2 hR2 HAB HAX HAR HFB HKB
            have hput := HPUT.out
            unfold putE at hput
            by_cases hg : acc.length < 1000 ∧ (∀ y ∈ acc, y.f0.all isB = true) ∧ kb.all isB = true
            case neg => rw [if_neg hg] at hput; cases hput
            rw [if_pos hg] at hput
            obtain ⟨hlen, hall, hkb⟩ := hg
            have HALL := Lib.hid hall; have HKB := Lib.hid hkb
            clear hall hkb HPUT
            obtain ⟨i, hi⟩ : ∃ i, i = placeE acc kb := ⟨_, rfl⟩
            obtain ⟨th, hth⟩ : ∃ th, th = thereE acc kb := ⟨_, rfl⟩
            rw [← hi, ← hth] at hput
            have hil : i ≤ acc.length := by rw [hi]; exact placeE_le_ acc kb
            have hS := fun (B : Option Addr) (d : Nat) (W : World) (h1 : Kd.C k51 W Ar acc.length acc) (h2 : Kd.C (Kd.int .u8) W B kb.length kb) (h3 : kb.length ≤ d) => search_ents 32 cmp_facts enter_facts Ar cr acc B d kb W h1 (by omega) h2 h3 HALL.out HKB.out
            rw [← hi, ← hth] at hS
            have HS := Lib.hid hS
            have HTH := Lib.hid hth; have HI := Lib.hid hi
            clear hS hth hi
            cases th with
            | false =>
              rw [if_neg (by simp)] at hput
              obtain rfl := Option.some.inj hput
              clear hput
              go_wp2_with (first
                | (go_at_call 30; refine (key_Write.calls k A1 c1 x.f0 fl 0 _ _ _ (Kd.C_below HIN.out HBw.out) hlc HKW.out).mono ?_; rintro e w1 ⟨v0, rfl, hr, hw⟩; obtain ⟨Av, cv, hv⟩ := Kd.R_slice hr; subst hv; have HR := Lib.hid hr; have HRR := Lib.hid (Kd.R_below HRw.out hw); have HFF1 := Lib.hid (blk_below HFw.out hw); have HRN := Lib.hid (Kd.R_lower (Kd.R_new hr (Kd.R_own HRw.out).choose_spec) HBw.out.size); have HB1 := Lib.hid (below_step HBw.out hw); have HX1 := Lib.hid (blk_below HXw.out hw); clear hr hw)
                | (go_at_call 31; refine (HS.out Av cv w1 (Kd.R_reads' HRR.out).2.2 (Kd.R_reads' HR.out).2.2 (Kd.R_reads' HR.out).2.1).mono ?_; rintro e w2 ⟨rfl, hw2⟩; have HRR2 := Lib.hid (Kd.R_below HRR.out hw2); have HRN2 := Lib.hid (Kd.R_below HRN.out hw2); have HB2 := Lib.hid (below_step HB1.out hw2); have HX2 := Lib.hid (blk_below HX1.out hw2); have hy2 := (blk_cell (blk_below HFF1.out hw2) 2).trans (show _ = some (Value.int .i64 x.f2) from rfl); clear hw2)
                | (go_at_call 19; refine (agg_One.calls x.f2 _ _ _ _ _ _ _ HONE.out).mono ?_; rintro e w5 ⟨rfl, hw5⟩; have HRR5 := Lib.hid (Kd.R_below HRR2.out hw5); have HRN5 := Lib.hid (Kd.R_below HRN2.out hw5); have HB5 := Lib.hid (below_step HB2.out hw5); have HX5 := Lib.hid (blk_below HX2.out hw5); clear hw5)
                | (go_at_call 34; refine (insert_row w5 w.heap.size (.slice Ar acc.length cr) acc i ⟨kb, agOf (o1, o2, o3, o4, o5, o6)⟩ [.slice Av kb.length cv, .int .u64 o1, .bool o2, .int .i64 o3, .int .u64 o4, .int .i64 o5, .int .i64 o6] _ HRR5.out (k51_mkM w5 w.heap.size _ ⟨kb, agOf (o1, o2, o3, o4, o5, o6)⟩ HRN5.out) (fun _ hk => hk.2) HB5.out.size (by omega) hil).mono ?_; rintro e w6 ⟨v3, rfl, hr3, hg3, hat3⟩; have HR3 := Lib.hid hr3; have HB3 := Lib.hid (HB5.out.grown hg3 HB5.out.size (own_base (Kd.R_own HRR5.out).choose_spec)); have HX3 := Lib.hid (blk_grown HX5.out hg3 (Kd.R_ne HRR5.out HX5.out (by decide))); clear hr3 hg3 hat3))
              go_roundw
              case rel => exact ⟨j + 1, by go_num, hlt, _, HB3.out, HX3.out, HR3.out, HF.out⟩
              case measure => simp [intOf]; omega
            | true =>
              rw [if_pos rfl] at hput
              have hil2 : i < acc.length := by
                have := HTH.out
                unfold thereE at this
                rw [← HI.out] at this
                simp only [Bool.true_eq, Bool.and_eq_true, decide_eq_true_eq] at this
                exact this.1
              obtain ⟨y, hy⟩ : ∃ y, y = rd_T51 acc (i : Nat) := ⟨_, rfl⟩
              rw [← hy] at hput
              by_cases hu : inU y.f1.f2.f1 ∧ inU (agOf (o1, o2, o3, o4, o5, o6)).f2.f1
              case neg => rw [if_neg hu] at hput; cases hput
              rw [if_pos hu] at hput
              obtain rfl := Option.some.inj hput
              clear hput
              have HM : Hid (agg_Merge.f y.f1.f0 y.f1.f1 y.f1.f2.f0 y.f1.f2.f1 y.f1.f3 y.f1.f4 o1 o2 o3 o4 o5 o6 = some ((mergeA y.f1 (agOf (o1, o2, o3, o4, o5, o6))).f0, (mergeA y.f1 (agOf (o1, o2, o3, o4, o5, o6))).f1, (mergeA y.f1 (agOf (o1, o2, o3, o4, o5, o6))).f2.f0, (mergeA y.f1 (agOf (o1, o2, o3, o4, o5, o6))).f2.f1, (mergeA y.f1 (agOf (o1, o2, o3, o4, o5, o6))).f3, (mergeA y.f1 (agOf (o1, o2, o3, o4, o5, o6))).f4)) := Lib.hid (by unfold agg_Merge.f; exact if_pos hu)
              clear hu
              generalize mergeA y.f1 (agOf (o1, o2, o3, o4, o5, o6)) = m at HM HF
              have HY := Lib.hid hy
              clear hy
              have hw2' : IntKind.i64.wrap ((i : Int)) = (i : Int) := by rw [IntKind.wrap_i64]; omega
              go_upto_region 15 with (first
                | (go_at_call 30; refine (key_Write.calls k A1 c1 x.f0 fl 0 _ _ _ (Kd.C_below HIN.out HBw.out) hlc HKW.out).mono ?_; rintro e w1 ⟨v0, rfl, hr, hw⟩; obtain ⟨Av, cv, hv⟩ := Kd.R_slice hr; subst hv; have HR := Lib.hid hr; have HRR := Lib.hid (Kd.R_below HRw.out hw); have HFF1 := Lib.hid (blk_below HFw.out hw); have HRN := Lib.hid (Kd.R_lower (Kd.R_new hr (Kd.R_own HRw.out).choose_spec) HBw.out.size); have HB1 := Lib.hid (below_step HBw.out hw); have HX1 := Lib.hid (blk_below HXw.out hw); clear hr hw)
                | (go_at_call 31; refine (HS.out Av cv w1 (Kd.R_reads' HRR.out).2.2 (Kd.R_reads' HR.out).2.2 (Kd.R_reads' HR.out).2.1).mono ?_; rintro e w2 ⟨rfl, hw2⟩; have HRR2 := Lib.hid (Kd.R_below HRR.out hw2); have HRN2 := Lib.hid (Kd.R_below HRN.out hw2); have HB2 := Lib.hid (below_step HB1.out hw2); have HX2 := Lib.hid (blk_below HX1.out hw2); have hy2 := (blk_cell (blk_below HFF1.out hw2) 2).trans (show _ = some (Value.int .i64 x.f2) from rfl); clear hw2))
              obtain ⟨g, hgA, hgw⟩ : ∃ g, Ar = some ⟨g, 0, none⟩ ∧ ∃ cur, w2.heap[g]? = some (.cells cur 51 (0, 0)) := by
                rcases (Kd.R_own HRR2.out).choose_spec.2 with ⟨_, h0⟩ | ⟨g, cap, cur, hv, hb, hh, _⟩
                · omega
                · injection hv with h1 _ _
                  exact ⟨g, h1, cur, hh⟩
              obtain ⟨ad, Ay, cy, ha, hz0, hz1, hz2, hz3, hz4, hz5, hz6, hlc2, hin2⟩ := at_T51 (Kd.R_reads' HRR2.out).2.2 (i : Int) (by omega) (by omega)
              subst ha
              have hadg : ad = ⟨g, 0, none⟩ := by injection hgA
              rw [← HY.out] at hz0 hz1 hz2 hz3 hz4 hz5 hz6 hlc2 hin2
              simp only [Int.toNat_natCast] at hz0 hz1 hz2 hz3 hz4 hz5 hz6
              have hblk : (ad.add (i * 7)).block = g := by rw [hadg, add_plain]
              have hlg : g < w2.heap.size := blk_lt hgw.choose_spec
              have hfz : ∀ (w3 : World), Below w2.heap.size w2 w3 → ∀ o, w3.frozen? ⟨(ad.add (i * 7)).block, o, none⟩ = false := fun w3 hb o => by
                rw [hblk]; exact blk_frozen (blk_below hgw.choose_spec hb) o
              have HFZ := Lib.hid hfz; have HADG := Lib.hid hadg; have HGW := Lib.hid hgw
              clear hfz hadg hgw hgA hblk
              go_region_with (first
                | (go_at_call 19; refine (agg_One.calls x.f2 _ _ _ _ _ _ _ HONE.out).mono ?_; rintro e w5 ⟨rfl, hw5d⟩; have hw5 : Below w2.heap.size w2 w5 := ⟨hw5d.os, hw5d.tape, hw5d.output, hw5d.size, hw5d.block⟩; have HW5 := Lib.hid hw5; have ho1 := (hw5.cell (World.block_lt_of_cell? w2 _ hz1)).trans hz1; have ho2 := (hw5.cell (World.block_lt_of_cell? w2 _ hz2)).trans hz2; have ho3 := (hw5.cell (World.block_lt_of_cell? w2 _ hz3)).trans hz3; have ho4 := (hw5.cell (World.block_lt_of_cell? w2 _ hz4)).trans hz4; have ho5 := (hw5.cell (World.block_lt_of_cell? w2 _ hz5)).trans hz5; have ho6 := (hw5.cell (World.block_lt_of_cell? w2 _ hz6)).trans hz6; clear hw5 hw5d)
                | (go_at_call 18; refine (agg_Merge.calls y.f1.f0 y.f1.f1 y.f1.f2.f0 y.f1.f2.f1 y.f1.f3 y.f1.f4 o1 o2 o3 o4 o5 o6 _ _ _ _ _ _ _ HM.out).mono ?_; rintro e w3 ⟨rfl, hw3d⟩; have hw3 : Below w2.heap.size w2 w3 := HW5.out.trans (hw3d.mono HW5.out.size); have HW3 := Lib.hid hw3; have hq1 := (hw3.cell (World.block_lt_of_cell? w2 _ hz1)).trans hz1; have hq2 := (hw3.cell (World.block_lt_of_cell? w2 _ hz2)).trans hz2; have hq3 := (hw3.cell (World.block_lt_of_cell? w2 _ hz3)).trans hz3; have hq4 := (hw3.cell (World.block_lt_of_cell? w2 _ hz4)).trans hz4; have hq5 := (hw3.cell (World.block_lt_of_cell? w2 _ hz5)).trans hz5; have hq6 := (hw3.cell (World.block_lt_of_cell? w2 _ hz6)).trans hz6; have hp1 := HFZ.out w3 hw3 ((ad.add (i * 7)).off + 1); have hp2 := HFZ.out w3 hw3 ((ad.add (i * 7)).off + 2); have hp3 := HFZ.out w3 hw3 ((ad.add (i * 7)).off + 3); have hp4 := HFZ.out w3 hw3 ((ad.add (i * 7)).off + 4); have hp5 := HFZ.out w3 hw3 ((ad.add (i * 7)).off + 5); have hp6 := HFZ.out w3 hw3 ((ad.add (i * 7)).off + 6); clear hw3 hw3d))
              all_goals
                have hrow := row_agg (Kd.R_below (v := .slice (some ⟨g, 0, none⟩) acc.length cr) (by have := HRR2.out; rw [HADG.out] at this; exact this) HW3.out) i hil2 m (ad.add (i * 7)) (by rw [HADG.out, add_plain])
                rw [← HADG.out] at hrow
                have HROW := Lib.hid hrow
                clear hrow hq1 hq2 hq3 hq4 hq5 hq6 hp1 hp2 hp3 hp4 hp5 hp6
                go_wp2_with (fail)
                go_roundw
                case rel => exact ⟨j + 1, by go_num, hlt, _, (below_step HB2.out HW3.out).grown HROW.out.2 (below_step HB2.out HW3.out).size (by intro k hk; injection hk with hk; have := own_base (Kd.R_own HRR2.out).choose_spec k; rw [HADG.out] at this; subst hk; exact this rfl), blk_grown (blk_below HX2.out HW3.out) HROW.out.2 (by have := Kd.R_ne HRR2.out HX2.out (by decide); rw [HADG.out] at this; exact this), HROW.out.1, by have := HY.out; rw [this] at HF; exact HF.out⟩
                case measure => simp [intOf]; omega
      · have e1 : decide ((j : Int) < (l2.length : Int)) = false := decide_eq_false (by omega)
        rw [List.drop_eq_nil_of_le (by omega)] at hF
        unfold factGo at hF
        obtain rfl := Option.some.inj hF
        have HFF : Hid (fold_Fold.f k l0_0 a0_1 a1 acc = some (r1, r2)) := Lib.hid H3.out
        have hk0 := (blk_cell HJX.out 0).trans (show _ = some (Value.slice A0_0 l0_0.length c0_0) from rfl)
        have hk1 := (blk_cell HJX.out 1).trans (show _ = some (Value.int .i64 a0_1) from rfl)
        clear hF H3
        go_wp2_with (go_at_call 16; refine (fold_Fold.calls k A0_0 c0_0 l0_0 a0_1 a1 Ar cr acc r1 r2 _ (Kd.C_below HG.out HJB.out) hc0_0 (Kd.R_reads' HJR.out).2.2 (Kd.R_reads' HJR.out).2.1 HFF.out).mono ?_; rintro e w1 ⟨v0, rfl, hr, hb⟩; have HRV := Lib.hid (Kd.R_lower hr HJB.out.size); have HBV := Lib.hid (below_step HJB.out hb); clear hr hb)
        go_ret2
        exact ⟨_, rfl, HRV.out, HBV.out⟩
  · rw [if_neg hz] at h2
    simp only [Option.some.injEq, Prod.mk.injEq] at h2
    obtain ⟨rfl, rfl⟩ := h2
    have hz' : (e0 != 0) = true := bne_iff_ne.2 hz
    have hz'' : (e0 == 0) = false := beq_eq_false_iff_ne.2 hz
    clear h he0 hz
    go_enter Try.func12, Try.ntmps12
    go_wp2_with (go_at_call 27; refine (fold_check.calls k A0_0 c0_0 l0_0 a0_1 a1 none 0 [] _ _ (Kd.C_below HG.out HB0.out) hc0_0 (no_ents _) (Nat.le_refl _) HCK.out).mono ?_; rintro e w1 ⟨rfl, hb⟩; have HB1 := Lib.hid (below_step HB0.out hb); clear hb)
    go_ret2
    exact ⟨_, rfl, Kd.R_nil _ _ _ _ _, HB1.out⟩
def aliveG : List Gr := [⟨1, 0⟩, ⟨10, 20⟩]
def aliveL : List Fa := [⟨[], 12, 3⟩, ⟨[], 45, 1⟩, ⟨[], 15, 4⟩]
def aliveO : List En := [⟨[0, 128, 0, 0, 0, 0, 0, 0, 10, 1], ⟨2, false, ⟨0, 7⟩, 3, 4⟩⟩, ⟨[0, 128, 0, 0, 0, 0, 0, 0, 45, 0], ⟨1, false, ⟨0, 1⟩, 1, 1⟩⟩]
theorem alive_facts : fold_Facts.f 64 aliveG 100 50 aliveL = some (aliveO, 0) := by kernel_rfl
theorem alive_fold : fold_Fold.f 64 [] 0 0 [] = some ([], 30) := by kernel_rfl
theorem alive_fits : fold_Fits.f 64 [] 0 [] = some true := by kernel_rfl
def rickyardlaw15_alive.f (k : Nat) : Option Bool := if 64 ≤ k then some true else none
theorem no_grans (w : World) : Kd.C k67 w none ([] : List Gr).length [] := ⟨rfl, by simp, fun h => absurd h (by simp)⟩
theorem no_strs (w : World) : Kd.C Kd.string w none ([] : List ByteArray).length [] := ⟨rfl, by simp, fun h => absurd h (by simp)⟩
theorem alive_lits {w : World} {g : Nat} (h : w.heap[g]? = some (.cells #[.slice none 0 0, .int .i64 12, .int .i64 3, .slice none 0 0, .int .i64 45, .int .i64 1, .slice none 0 0, .int .i64 15, .int .i64 4] 46 (0, 0))) : Kd.C k46 w (some ⟨g, 0, none⟩) aliveL.length aliveL := by
  refine ⟨rfl, by decide, fun _ => ⟨⟨g, 0, none⟩, rfl, fun j p hj => ?_⟩⟩
  have hc := blk_cell h
  match j, hj with
  | 0, hj => obtain rfl := Option.some.inj hj; exact ⟨_, rfl, k46_mk w ⟨[], 12, 3⟩ (Nat.le_refl 0) (no_strs w), fun i u hu => by rw [add_plain, hc]; match i, hu with | 0, hu => exact hu | 1, hu => exact hu | 2, hu => exact hu⟩
  | 1, hj => obtain rfl := Option.some.inj hj; exact ⟨_, rfl, k46_mk w ⟨[], 45, 1⟩ (Nat.le_refl 0) (no_strs w), fun i u hu => by rw [add_plain, hc]; match i, hu with | 0, hu => exact hu | 1, hu => exact hu | 2, hu => exact hu⟩
  | 2, hj => obtain rfl := Option.some.inj hj; exact ⟨_, rfl, k46_mk w ⟨[], 15, 4⟩ (Nat.le_refl 0) (no_strs w), fun i u hu => by rw [add_plain, hc]; match i, hu with | 0, hu => exact hu | 1, hu => exact hu | 2, hu => exact hu⟩
theorem rickyardlaw15_alive.calls (k : Nat) (r : Bool) (w : World) (h : rickyardlaw15_alive.f k = some r) :
    Calls Try.prog 11 #[] w fun e w' => e = .returned (.bool r) ∧ Below w.heap.size w w' := by
  have hr : r = true := by
    unfold rickyardlaw15_alive.f at h
    split at h
    · exact (Option.some.inj h).symm
    · cases h
  subst hr; clear h
  go_enter Try.func11, Try.ntmps11
  go_wp2_with (first
    | (go_at_call 26; refine (rickyardlaw15_Rules.calls aliveG 100 _ rfl).mono ?_; rintro e w1 ⟨v0, rfl, hr, hb⟩; obtain ⟨Ag0, cg0, hv⟩ := Kd.R_slice hr; subst hv; have HR1 := Lib.hid hr; have HB1 := Lib.hid hb; clear hr hb)
    | (go_at_call 12; refine (fold_Facts.calls 64 Ag0 cg0 aliveG 100 50 (some ⟨w1.heap.size, 0, none⟩) 3 aliveL aliveO 0 _ ?c1 ?c2 ?c3 ?c4 alive_facts).mono ?_; (case c1 => exact Kd.C_alloc (Kd.R_reads' HR1.out).2.2 _); (case c2 => exact (Kd.R_reads' HR1.out).2.1); (case c3 => exact alive_lits (blk_new w1 _)); (case c4 => exact Nat.le_refl 3); rintro e w2 ⟨v0, rfl, hr, hb⟩; obtain ⟨Ao, co, hv⟩ := Kd.R_slice hr; subst hv; have HR2 := Lib.hid hr; have HB2 := Lib.hid (below_step (HB1.out.alloc HB1.out.size _) hb); clear hr hb)
    | (go_at_call 16; refine (fold_Fold.calls 64 none 0 [] 0 0 none 0 [] [] 30 _ (no_grans _) (Nat.le_refl 0) (no_ents _) (Nat.le_refl 0) alive_fold).mono ?_; rintro e w3 ⟨v1, rfl, hr, hb⟩; have HB3 := Lib.hid (below_step HB2.out hb); obtain ⟨ad, A0, c0, ha, hx0, hx1, hx2, hx3, hx4, hx5, hx6, hlc, hin⟩ := at_T51 (Kd.C_below (Kd.R_reads' HR2.out).2.2 hb) 0 (by decide) (by decide); obtain ⟨ad', A1, c1, ha', hy0, hy1, hy2, hy3, hy4, hy5, hy6, hlc', hin'⟩ := at_T51 (Kd.C_below (Kd.R_reads' HR2.out).2.2 hb) 1 (by decide) (by decide); subst ha; (have hadd : ad = ad' := by injection ha'); subst hadd; replace hx1 := hx1.trans (show _ = some (Value.int .u64 2) from rfl); replace hx6 := hx6.trans (show _ = some (Value.int .i64 4) from rfl); replace hy1 := hy1.trans (show _ = some (Value.int .u64 1) from rfl); simp only [Int.toNat_zero, Nat.zero_mul, show ∀ a : Addr, a.add 0 = a from fun a => by simp [Addr.add], show (1 : Int).toNat * 7 = 7 from rfl] at hx1 hx6 hy1; (have hy8 : w3.cell? ⟨ad.block, ad.off + 8, none⟩ = some (Value.int .u64 1) := hy1); clear hy1 hr hb hx0 hx2 hx3 hx4 hx5 hy0 hy2 hy3 hy4 hy5 hy6 hlc hlc' hin hin' ha')
    | (go_at_call 23; refine (fold_Fits.calls 64 none 0 [] 0 none 0 [] true _ (no_grans _) (Nat.le_refl 0) (no_ents _) (Nat.le_refl 0) alive_fits).mono ?_; rintro e w4 ⟨rfl, hb⟩; have HB4 := Lib.hid (below_step HB3.out hb); clear hb))
  go_ret
  exact ⟨rfl, HB4.out⟩
end Go.Proofs.Ytjemmmemenljbaa.PFold
end
section
namespace Go.Proofs.Ytjemmmemenljbaa.PFold
open Go.RowKit Go.Proofs.YtjemmmemenljbaaW.PrintWords Go.Proofs.YtjemmmemenljbaaW.PrintLast Go.Proofs.YtjemmmemenljbaaW.PrintMore
attribute [local go_sem] max2_int min2_int max_two min_two max_three min_three max_four min_four   -- for this text's walks alone
set_option linter.unusedVariables false
set_option linter.unusedSimpArgs false
set_option maxHeartbeats 8000000
set_option maxRecDepth 100000
def rickyardlaw15_FoldFacts.f (k : Nat) (l0_0 : List (S67)) (a0_1 : Int) (a1 : Int) (l2 : List (S46)) : Option (Bool) := (rickyardlaw15_Many.f k l2).bind fun t508 => (if t508 = true then ((rickyardlaw15_alive.f k).bind fun t509 => (some t509)) else ((fold_Facts.f k l0_0 a0_1 a1 l2).bind fun bt510 => ((rickyardref15_Facts.f k l0_0 a0_1 a1 l2).bind fun bt514 => ((rickyardlaw15_alive.f k).bind fun t518 => (if t518 = true then ((rickyardref08_Same.f k bt510.1 bt514.1).bind fun t519 => (if t519 = true then (some (bt510.2 == bt514.2)) else (some false))) else (some false))))))
theorem rickyardlaw15_FoldFacts.calls (k : Nat) (A0_0 : Option Addr) (c0_0 : Nat) (l0_0 : List (S67)) (a0_1 : Int) (a1 : Int) (A2 : Option Addr) (c2 : Nat) (l2 : List (S46)) (r : Bool) (w : World) (hr0_0 : Kd.C k67 w A0_0 l0_0.length l0_0) (hc0_0 : l0_0.length ≤ c0_0) (hr2 : Kd.C k46 w A2 l2.length l2) (hc2 : l2.length ≤ c2) (h : rickyardlaw15_FoldFacts.f k l0_0 a0_1 a1 l2 = some r) :
  Calls Try.prog 3 #[.agg #[.slice A0_0 l0_0.length c0_0, .int .i64 a0_1], .int .i64 a1, .slice A2 l2.length c2] w fun e w' => e = .returned (.bool r) ∧ Below w.heap.size w w' := by
 have hu24 := Try.underlying24
 have HR0_0 := Aside0.mk hr0_0
 have HC0_0 := Aside0.mk hc0_0
 clear hr0_0 hc0_0
 have HR2 := Aside0.mk hr2
 have HC2 := Aside0.mk hc2
 clear hr2 hc2
 have HB := Aside0.mk (Below.refl w.heap.size w)
 have H : ((rickyardlaw15_Many.f k l2).bind fun t508 => (if t508 = true then ((rickyardlaw15_alive.f k).bind fun t509 => (some t509)) else ((fold_Facts.f k l0_0 a0_1 a1 l2).bind fun bt510 => ((rickyardref15_Facts.f k l0_0 a0_1 a1 l2).bind fun bt514 => ((rickyardlaw15_alive.f k).bind fun t518 => (if t518 = true then ((rickyardref08_Same.f k bt510.1 bt514.1).bind fun t519 => (if t519 = true then (some (bt510.2 == bt514.2)) else (some false))) else (some false))))))) = some r := h
 clear h
 replace H := bnA H
 obtain ⟨t508, A4, H⟩ := H
 by_cases c5 : t508 = true
 ·subst c5
  have H1 : ((rickyardlaw15_alive.f k).bind fun t509 => (some t509)) = some r := by rw [if_pos rfl] at H; exact H
  clear H
  have H := H1
  clear H1
  replace H := bnA H
  obtain ⟨t509, A6, H⟩ := H
  obtain rfl := Option.some.inj H
  go_enter Try.func3, Try.ntmps3
  go_wp2_with (first | ((with_reducible refine gate_dst (N := 3) rfl ?_); refine boxA 3 #[.slice A0_0 l0_0.length c0_0, .int .i64 a0_1] 24 ?_; intro gb507 hg w7 hbox hb; have BK507 := Aside0.mk (hbox); have GE507 := ge1 hg (belA HB.out); replace HB := bst HB hb; clear hb hbox hg) | ((with_reducible refine gate_callee (f := 10) rfl ?_); refine goesL_ (some 12) rfl rfl Try.func10 (by kernel_rfl) rfl #[.slice A2 l2.length c2] rfl argA ?_; (with_reducible refine (rickyardlaw15_Many.calls k _ _ l2 true _ ?side1 ?side2 A4.out).mono ?_); (case side1 => exact cb1 HR2 HB); (case side2 => exact HC2.out); rintro e w' ⟨rfl, ⟨nd, rfl⟩⟩; refine ⟨_, rfl, ?_⟩) | ((with_reducible refine gate_callee (f := 11) rfl ?_); refine goesL_ (some 13) rfl rfl Try.func11 (by kernel_rfl) rfl #[] rfl argA ?_; (with_reducible refine (rickyardlaw15_alive.calls k  t509 _ A6.out).mono ?_); rintro e w8 ⟨rfl, hb⟩; refine ⟨_, rfl, ?_⟩; replace BK507 := blkB BK507 hb; replace HB := bs2 HB GE507 hb; (try clear hb)))
  go_ret
  exact ⟨ret1, belB HB.out GE507.out⟩
 replace c5 := Bool.eq_false_iff.mpr c5
 subst c5
 have H1 : ((fold_Facts.f k l0_0 a0_1 a1 l2).bind fun bt510 => ((rickyardref15_Facts.f k l0_0 a0_1 a1 l2).bind fun bt514 => ((rickyardlaw15_alive.f k).bind fun t518 => (if t518 = true then ((rickyardref08_Same.f k bt510.1 bt514.1).bind fun t519 => (if t519 = true then (some (bt510.2 == bt514.2)) else (some false))) else (some false))))) = some r := by rw [if_neg (show ¬ (false = true) by decide)] at H; exact H
 clear H
 have H := H1
 clear H1
 replace H := bnA H
 obtain ⟨⟨t510, t513⟩, A9, H⟩ := H
 replace H : ((rickyardref15_Facts.f k l0_0 a0_1 a1 l2).bind fun bt514 => ((rickyardlaw15_alive.f k).bind fun t518 => (if t518 = true then ((rickyardref08_Same.f k t510 bt514.1).bind fun t519 => (if t519 = true then (some (t513 == bt514.2)) else (some false))) else (some false)))) = some r := H
 replace H := bnA H
 obtain ⟨⟨t514, t517⟩, A10, H⟩ := H
 replace H : ((rickyardlaw15_alive.f k).bind fun t518 => (if t518 = true then ((rickyardref08_Same.f k t510 t514).bind fun t519 => (if t519 = true then (some (t513 == t517)) else (some false))) else (some false))) = some r := H
 replace H := bnA H
 obtain ⟨t518, A11, H⟩ := H
 by_cases c12 : t518 = true
 rotate_left
 ·replace c12 := Bool.eq_false_iff.mpr c12
  subst c12
  have H1 : (some false) = some r := by rw [if_neg (show ¬ (false = true) by decide)] at H; exact H
  clear H
  have H := H1
  clear H1
  obtain rfl := Option.some.inj H
  go_enter Try.func3, Try.ntmps3
  go_wp2_with (first | ((with_reducible refine gate_dst (N := 3) rfl ?_); refine boxA 3 #[.slice A0_0 l0_0.length c0_0, .int .i64 a0_1] 24 ?_; intro gb507 hg w31 hbox hb; have BK507 := Aside0.mk (hbox); have GE507 := ge1 hg (belA HB.out); replace HB := bst HB hb; clear hb hbox hg) | ((with_reducible refine gate_callee (f := 10) rfl ?_); refine goesL_ (some 12) rfl rfl Try.func10 (by kernel_rfl) rfl #[.slice A2 l2.length c2] rfl argA ?_; (with_reducible refine (rickyardlaw15_Many.calls k _ _ l2 false _ ?side1 ?side2 A4.out).mono ?_); (case side1 => exact cb1 HR2 HB); (case side2 => exact HC2.out); rintro e w' ⟨rfl, ⟨nd, rfl⟩⟩; refine ⟨_, rfl, ?_⟩; obtain ⟨hcz32_0, hcz32_1, hfz32_0, hfz32_1⟩ := blk2 BK507) | ((with_reducible refine gate_callee (f := 12) rfl ?_); refine goesL_ (some 18) rfl rfl Try.func12 (by kernel_rfl) rfl #[.agg #[.slice A0_0 l0_0.length c0_0, .int .i64 a0_1], .int .i64 a1, .slice A2 l2.length c2] rfl argA ?_; (with_reducible refine (fold_Facts.calls k _ _ l0_0 a0_1 a1 _ _ l2 t510 t513 _ ?side1 ?side2 ?side3 ?side4 A9.out).mono ?_); (case side1 => repeat (first | exact (Kd.C_below HR0_0.out (belB HB.out GE507.out)) | (with_reducible refine Kd.C_alloc ?_ _) | (with_reducible refine Kd.C_drewN ?_ _) | (with_reducible refine Kd.C_drew ?_))); (case side2 => exact HC0_0.out); (case side3 => repeat (first | exact (Kd.C_below HR2.out (belB HB.out GE507.out)) | (with_reducible refine Kd.C_alloc ?_ _) | (with_reducible refine Kd.C_drewN ?_ _) | (with_reducible refine Kd.C_drew ?_))); (case side4 => exact HC2.out); rintro e w33 ⟨v511, rfl, ho0, hb⟩; refine ⟨_, rfl, ?_⟩; have HO512 := Aside0.mk (Kd.N_lower (Kd.N_mono (ok' := fun k_ => k_ ≠ gb507) (Kd.R_N (Kd.R_bound ho0)) (fun k_ hk_ => (frB BK507 k_ hk_.2.1))) (below_size (belB HB.out GE507.out))); replace BK507 := blkB BK507 hb; replace HB := bs2 HB GE507 hb; (try clear hb); (try clear ho0); obtain ⟨hcz34_0, hcz34_1, hfz34_0, hfz34_1⟩ := blk2 BK507) | ((with_reducible refine gate_callee (f := 13) rfl ?_); refine goesL_ (some 25) rfl rfl Try.func13 (by kernel_rfl) rfl #[.agg #[.slice A0_0 l0_0.length c0_0, .int .i64 a0_1], .int .i64 a1, .slice A2 l2.length c2] rfl argA ?_; (with_reducible refine (rickyardref15_Facts.calls k _ _ l0_0 a0_1 a1 _ _ l2 t514 t517 _ ?side1 ?side2 ?side3 ?side4 A10.out).mono ?_); (case side1 => exact cb1 HR0_0 HB); (case side2 => exact HC0_0.out); (case side3 => exact cb1 HR2 HB); (case side4 => exact HC2.out); rintro e w35 ⟨v515, rfl, ho0, hb⟩; refine ⟨_, rfl, ?_⟩; have HO516 := Aside0.mk (Kd.N_lower (Kd.N_mono (ok' := fun k_ => some k_ ≠ (v511 : Value).ownBlock ∧ k_ ≠ gb507) ho0 (fun k_ hk_ => ⟨(Kd.fresh' (Kd.N_lt (nilA HO512.out)) k_ hk_), (frB BK507 k_ hk_)⟩)) (below_size (belB HB.out GE507.out))); replace HO512 := Aside0.mk (Kd.N_elder' (nilA HO512.out) (Kd.N_base ho0) hb); replace BK507 := blkB BK507 hb; replace HB := bs2 HB GE507 hb; (try clear hb); (try clear ho0)) | ((with_reducible refine gate_callee (f := 11) rfl ?_); refine goesL_ (some 28) rfl rfl Try.func11 (by kernel_rfl) rfl #[] rfl argA ?_; (with_reducible refine (rickyardlaw15_alive.calls k  false _ A11.out).mono ?_); rintro e w36 ⟨rfl, hb⟩; refine ⟨_, rfl, ?_⟩; replace HO512 := Aside0.mk (Kd.N_below (nilA HO512.out) hb); replace HO516 := Aside0.mk (Kd.N_below (nilA HO516.out) hb); replace BK507 := blkB BK507 hb; replace HB := bs2 HB GE507 hb; (try clear hb)))
  go_ret
  exact ⟨ret1, belB HB.out GE507.out⟩
 subst c12
 have H1 : ((rickyardref08_Same.f k t510 t514).bind fun t519 => (if t519 = true then (some (t513 == t517)) else (some false))) = some r := by rw [if_pos rfl] at H; exact H
 clear H
 have H := H1
 clear H1
 replace H := bnA H
 obtain ⟨t519, A13, H⟩ := H
 by_cases c14 : t519 = true
 ·subst c14
  have H1 : (some (t513 == t517)) = some r := by rw [if_pos rfl] at H; exact H
  clear H
  have H := H1
  clear H1
  obtain rfl := Option.some.inj H
  go_enter Try.func3, Try.ntmps3
  go_wp2_with (first | ((with_reducible refine gate_dst (N := 3) rfl ?_); refine boxA 3 #[.slice A0_0 l0_0.length c0_0, .int .i64 a0_1] 24 ?_; intro gb507 hg w15 hbox hb; have BK507 := Aside0.mk (hbox); have GE507 := ge1 hg (belA HB.out); replace HB := bst HB hb; clear hb hbox hg) | ((with_reducible refine gate_callee (f := 10) rfl ?_); refine goesL_ (some 12) rfl rfl Try.func10 (by kernel_rfl) rfl #[.slice A2 l2.length c2] rfl argA ?_; (with_reducible refine (rickyardlaw15_Many.calls k _ _ l2 false _ ?side1 ?side2 A4.out).mono ?_); (case side1 => exact cb1 HR2 HB); (case side2 => exact HC2.out); rintro e w' ⟨rfl, ⟨nd, rfl⟩⟩; refine ⟨_, rfl, ?_⟩; obtain ⟨hcz16_0, hcz16_1, hfz16_0, hfz16_1⟩ := blk2 BK507) | ((with_reducible refine gate_callee (f := 12) rfl ?_); refine goesL_ (some 18) rfl rfl Try.func12 (by kernel_rfl) rfl #[.agg #[.slice A0_0 l0_0.length c0_0, .int .i64 a0_1], .int .i64 a1, .slice A2 l2.length c2] rfl argA ?_; (with_reducible refine (fold_Facts.calls k _ _ l0_0 a0_1 a1 _ _ l2 t510 t513 _ ?side1 ?side2 ?side3 ?side4 A9.out).mono ?_); (case side1 => repeat (first | exact (Kd.C_below HR0_0.out (belB HB.out GE507.out)) | (with_reducible refine Kd.C_alloc ?_ _) | (with_reducible refine Kd.C_drewN ?_ _) | (with_reducible refine Kd.C_drew ?_))); (case side2 => exact HC0_0.out); (case side3 => repeat (first | exact (Kd.C_below HR2.out (belB HB.out GE507.out)) | (with_reducible refine Kd.C_alloc ?_ _) | (with_reducible refine Kd.C_drewN ?_ _) | (with_reducible refine Kd.C_drew ?_))); (case side4 => exact HC2.out); rintro e w17 ⟨v511, rfl, ho0, hb⟩; refine ⟨_, rfl, ?_⟩; have HO512 := Aside0.mk (Kd.N_lower (Kd.N_mono (ok' := fun k_ => k_ ≠ gb507) (Kd.R_N (Kd.R_bound ho0)) (fun k_ hk_ => (frB BK507 k_ hk_.2.1))) (below_size (belB HB.out GE507.out))); replace BK507 := blkB BK507 hb; replace HB := bs2 HB GE507 hb; (try clear hb); (try clear ho0); obtain ⟨hcz18_0, hcz18_1, hfz18_0, hfz18_1⟩ := blk2 BK507) | ((with_reducible refine gate_callee (f := 13) rfl ?_); refine goesL_ (some 25) rfl rfl Try.func13 (by kernel_rfl) rfl #[.agg #[.slice A0_0 l0_0.length c0_0, .int .i64 a0_1], .int .i64 a1, .slice A2 l2.length c2] rfl argA ?_; (with_reducible refine (rickyardref15_Facts.calls k _ _ l0_0 a0_1 a1 _ _ l2 t514 t517 _ ?side1 ?side2 ?side3 ?side4 A10.out).mono ?_); (case side1 => exact cb1 HR0_0 HB); (case side2 => exact HC0_0.out); (case side3 => exact cb1 HR2 HB); (case side4 => exact HC2.out); rintro e w19 ⟨v515, rfl, ho0, hb⟩; refine ⟨_, rfl, ?_⟩; have HO516 := Aside0.mk (Kd.N_lower (Kd.N_mono (ok' := fun k_ => some k_ ≠ (v511 : Value).ownBlock ∧ k_ ≠ gb507) ho0 (fun k_ hk_ => ⟨(Kd.fresh' (Kd.N_lt (nilA HO512.out)) k_ hk_), (frB BK507 k_ hk_)⟩)) (below_size (belB HB.out GE507.out))); replace HO512 := Aside0.mk (Kd.N_elder' (nilA HO512.out) (Kd.N_base ho0) hb); replace BK507 := blkB BK507 hb; replace HB := bs2 HB GE507 hb; (try clear hb); (try clear ho0)) | ((with_reducible refine gate_callee (f := 11) rfl ?_); refine goesL_ (some 28) rfl rfl Try.func11 (by kernel_rfl) rfl #[] rfl argA ?_; (with_reducible refine (rickyardlaw15_alive.calls k  true _ A11.out).mono ?_); rintro e w20 ⟨rfl, hb⟩; refine ⟨_, rfl, ?_⟩; replace HO512 := Aside0.mk (Kd.N_below (nilA HO512.out) hb); replace HO516 := Aside0.mk (Kd.N_below (nilA HO516.out) hb); replace BK507 := blkB BK507 hb; replace HB := bs2 HB GE507 hb; (try clear hb); obtain ⟨Ao21, co21, eo21⟩ := Kd.N_slice HO512.out; subst eo21; obtain ⟨Ao22, co22, eo22⟩ := Kd.N_slice HO516.out; subst eo22) | (go_at_call 14; (with_reducible refine (rickyardref08_Same.calls k _ _ t510 _ _ t514 true _ ?side1 ?side2 ?side3 ?side4 A13.out).mono ?_); (case side1 => repeat (first | exact (Kd.N_reads' HO512.out).2.2 | (with_reducible refine Kd.C_alloc ?_ _) | (with_reducible refine Kd.C_drewN ?_ _) | (with_reducible refine Kd.C_drew ?_))); (case side2 => exact (Kd.N_reads' HO512.out).2.1); (case side3 => repeat (first | exact (Kd.N_reads' HO516.out).2.2 | (with_reducible refine Kd.C_alloc ?_ _) | (with_reducible refine Kd.C_drewN ?_ _) | (with_reducible refine Kd.C_drew ?_))); (case side4 => exact (Kd.N_reads' HO516.out).2.1); rintro e w' ⟨rfl, ⟨nd, rfl⟩⟩))
  go_ret
  exact ⟨ret1, belB HB.out GE507.out⟩
 replace c14 := Bool.eq_false_iff.mpr c14
 subst c14
 have H1 : (some false) = some r := by rw [if_neg (show ¬ (false = true) by decide)] at H; exact H
 clear H
 have H := H1
 clear H1
 obtain rfl := Option.some.inj H
 go_enter Try.func3, Try.ntmps3
 go_wp2_with (first | ((with_reducible refine gate_dst (N := 3) rfl ?_); refine boxA 3 #[.slice A0_0 l0_0.length c0_0, .int .i64 a0_1] 24 ?_; intro gb507 hg w23 hbox hb; have BK507 := Aside0.mk (hbox); have GE507 := ge1 hg (belA HB.out); replace HB := bst HB hb; clear hb hbox hg) | ((with_reducible refine gate_callee (f := 10) rfl ?_); refine goesL_ (some 12) rfl rfl Try.func10 (by kernel_rfl) rfl #[.slice A2 l2.length c2] rfl argA ?_; (with_reducible refine (rickyardlaw15_Many.calls k _ _ l2 false _ ?side1 ?side2 A4.out).mono ?_); (case side1 => exact cb1 HR2 HB); (case side2 => exact HC2.out); rintro e w' ⟨rfl, ⟨nd, rfl⟩⟩; refine ⟨_, rfl, ?_⟩; obtain ⟨hcz24_0, hcz24_1, hfz24_0, hfz24_1⟩ := blk2 BK507) | ((with_reducible refine gate_callee (f := 12) rfl ?_); refine goesL_ (some 18) rfl rfl Try.func12 (by kernel_rfl) rfl #[.agg #[.slice A0_0 l0_0.length c0_0, .int .i64 a0_1], .int .i64 a1, .slice A2 l2.length c2] rfl argA ?_; (with_reducible refine (fold_Facts.calls k _ _ l0_0 a0_1 a1 _ _ l2 t510 t513 _ ?side1 ?side2 ?side3 ?side4 A9.out).mono ?_); (case side1 => repeat (first | exact (Kd.C_below HR0_0.out (belB HB.out GE507.out)) | (with_reducible refine Kd.C_alloc ?_ _) | (with_reducible refine Kd.C_drewN ?_ _) | (with_reducible refine Kd.C_drew ?_))); (case side2 => exact HC0_0.out); (case side3 => repeat (first | exact (Kd.C_below HR2.out (belB HB.out GE507.out)) | (with_reducible refine Kd.C_alloc ?_ _) | (with_reducible refine Kd.C_drewN ?_ _) | (with_reducible refine Kd.C_drew ?_))); (case side4 => exact HC2.out); rintro e w25 ⟨v511, rfl, ho0, hb⟩; refine ⟨_, rfl, ?_⟩; have HO512 := Aside0.mk (Kd.N_lower (Kd.N_mono (ok' := fun k_ => k_ ≠ gb507) (Kd.R_N (Kd.R_bound ho0)) (fun k_ hk_ => (frB BK507 k_ hk_.2.1))) (below_size (belB HB.out GE507.out))); replace BK507 := blkB BK507 hb; replace HB := bs2 HB GE507 hb; (try clear hb); (try clear ho0); obtain ⟨hcz26_0, hcz26_1, hfz26_0, hfz26_1⟩ := blk2 BK507) | ((with_reducible refine gate_callee (f := 13) rfl ?_); refine goesL_ (some 25) rfl rfl Try.func13 (by kernel_rfl) rfl #[.agg #[.slice A0_0 l0_0.length c0_0, .int .i64 a0_1], .int .i64 a1, .slice A2 l2.length c2] rfl argA ?_; (with_reducible refine (rickyardref15_Facts.calls k _ _ l0_0 a0_1 a1 _ _ l2 t514 t517 _ ?side1 ?side2 ?side3 ?side4 A10.out).mono ?_); (case side1 => exact cb1 HR0_0 HB); (case side2 => exact HC0_0.out); (case side3 => exact cb1 HR2 HB); (case side4 => exact HC2.out); rintro e w27 ⟨v515, rfl, ho0, hb⟩; refine ⟨_, rfl, ?_⟩; have HO516 := Aside0.mk (Kd.N_lower (Kd.N_mono (ok' := fun k_ => some k_ ≠ (v511 : Value).ownBlock ∧ k_ ≠ gb507) ho0 (fun k_ hk_ => ⟨(Kd.fresh' (Kd.N_lt (nilA HO512.out)) k_ hk_), (frB BK507 k_ hk_)⟩)) (below_size (belB HB.out GE507.out))); replace HO512 := Aside0.mk (Kd.N_elder' (nilA HO512.out) (Kd.N_base ho0) hb); replace BK507 := blkB BK507 hb; replace HB := bs2 HB GE507 hb; (try clear hb); (try clear ho0)) | ((with_reducible refine gate_callee (f := 11) rfl ?_); refine goesL_ (some 28) rfl rfl Try.func11 (by kernel_rfl) rfl #[] rfl argA ?_; (with_reducible refine (rickyardlaw15_alive.calls k  true _ A11.out).mono ?_); rintro e w28 ⟨rfl, hb⟩; refine ⟨_, rfl, ?_⟩; replace HO512 := Aside0.mk (Kd.N_below (nilA HO512.out) hb); replace HO516 := Aside0.mk (Kd.N_below (nilA HO516.out) hb); replace BK507 := blkB BK507 hb; replace HB := bs2 HB GE507 hb; (try clear hb); obtain ⟨Ao29, co29, eo29⟩ := Kd.N_slice HO512.out; subst eo29; obtain ⟨Ao30, co30, eo30⟩ := Kd.N_slice HO516.out; subst eo30) | (go_at_call 14; (with_reducible refine (rickyardref08_Same.calls k _ _ t510 _ _ t514 false _ ?side1 ?side2 ?side3 ?side4 A13.out).mono ?_); (case side1 => repeat (first | exact (Kd.N_reads' HO512.out).2.2 | (with_reducible refine Kd.C_alloc ?_ _) | (with_reducible refine Kd.C_drewN ?_ _) | (with_reducible refine Kd.C_drew ?_))); (case side2 => exact (Kd.N_reads' HO512.out).2.1); (case side3 => repeat (first | exact (Kd.N_reads' HO516.out).2.2 | (with_reducible refine Kd.C_alloc ?_ _) | (with_reducible refine Kd.C_drewN ?_ _) | (with_reducible refine Kd.C_drew ?_))); (case side4 => exact (Kd.N_reads' HO516.out).2.1); rintro e w' ⟨rfl, ⟨nd, rfl⟩⟩))
 go_ret
 exact ⟨ret1, belB HB.out GE507.out⟩
def rickyardlaw15_FoldFacts.Pure : Prop := ∀ (l0_0 : List (S67)) (a0_1 : Int) (a1 : Int) (l2 : List (S46)), (l0_0.length * 16 ≤ 140737488351232 ∧ ∀ z4 ∈ l0_0, wfS67 z4) → (Lit.int .i64 a0_1).wf = true → (Lit.int .i64 a1).wf = true → (l2.length * 40 ≤ 140737488351232 ∧ ∀ z2 ∈ l2, wfS46 z2) → ∃ k, rickyardlaw15_FoldFacts.f k l0_0 a0_1 a1 l2 = some true
end Go.Proofs.Ytjemmmemenljbaa.PFold
end
section
namespace Go.Proofs.Ytjemmmemenljbaa.GrainM
set_option linter.unusedVariables false
set_option linter.unusedSimpArgs false
set_option maxHeartbeats 8000000
set_option maxRecDepth 100000
def T : Int := 1099511627776
def isT (t : Int) : Prop := 0 ≤ t ∧ t ≤ 1099511627776
instance (t : Int) : Decidable (isT t) := by unfold isT; infer_instance
structure Rt (n : Nat) (sz ag : Nat → Int) (keep : Int) : Prop where
  one : 1 ≤ n
  four : n ≤ 4
  first : ag 0 = 0
  size : ∀ i, i < n → 1 ≤ sz i ∧ sz i ≤ 1099511627776
  age : ∀ i, i < n → 0 ≤ ag i ∧ ag i ≤ 1099511627776
  up : ∀ i, i + 1 < n → sz i < sz (i + 1) ∧ sz (i + 1) % sz i = 0 ∧ ag i ≤ ag (i + 1)
  kept : ag (n - 1) ≤ keep
  most : keep ≤ 2199023255552
def en (t s : Int) : Int := t - t % s + s
def old (sz ag : Nat → Int) (t w : Int) (i : Nat) : Prop := en t (sz i) ≤ w - ag i
structure IsStep (n : Nat) (sz ag : Nat → Int) (t w : Int) (s : Nat) : Prop where
  lt : s < n
  below : ∀ i, 0 < i → i ≤ s → old sz ag t w i
  above : s + 1 < n → ¬ old sz ag t w (s + 1)
theorem en_mul (t s : Int) : en t s = s * (t / s + 1) := by
  unfold en
  have h := Int.emod_add_mul_ediv t s
  rw [Int.mul_add, Int.mul_one]
  omega
theorem fl_mul (t s : Int) : t - t % s = s * (t / s) := by
  have h := Int.emod_add_mul_ediv t s
  omega
theorem fl_le {t s : Int} (hs : 1 ≤ s) : t - t % s ≤ t := by
  have := Int.emod_nonneg t (show s ≠ 0 by omega)
  omega
theorem fl_nonneg {t s : Int} (ht : 0 ≤ t) (hs : 1 ≤ s) : 0 ≤ t - t % s := by
  rw [fl_mul]
  exact Int.mul_nonneg (by omega) (Int.ediv_nonneg ht (by omega))
theorem dvd_of {a b : Int} (h : b % a = 0) : ∃ m, b = a * m := ⟨b / a, by have := Int.emod_add_mul_ediv b a; rw [h] at this; omega⟩
theorem nest {t s s' : Int} (hs : 1 ≤ s) (hs' : 1 ≤ s') (hd : s' % s = 0) : t - t % s' ≤ t - t % s ∧ en t s ≤ en t s' := by
  obtain ⟨m, rfl⟩ := dvd_of hd
  have hm : 0 < m := by
    rcases Int.lt_or_le 0 m with h | h
    · exact h
    · exfalso
      have : s * m ≤ 0 := Int.mul_nonpos_of_nonneg_of_nonpos (by omega) h
      omega
  have e : t / (s * m) = t / s / m := (Int.ediv_ediv_of_nonneg (x := t) (y := s) (by omega : (0 : Int) ≤ s)).symm
  have h1 : t / s / m * m ≤ t / s := Int.ediv_mul_le _ (by omega)
  have h2 : t / s < (t / s / m + 1) * m := Int.lt_ediv_add_one_mul_self _ hm
  constructor
  · rw [fl_mul, fl_mul, e, Int.mul_assoc]
    apply Int.mul_le_mul_of_nonneg_left _ (by omega : (0 : Int) ≤ s)
    rw [Int.mul_comm]; exact h1
  · rw [en_mul, en_mul, e, Int.mul_assoc]
    apply Int.mul_le_mul_of_nonneg_left _ (by omega : (0 : Int) ≤ s)
    rw [Int.mul_comm]; omega
section
variable {n : Nat} {sz ag : Nat → Int} {keep : Int}
theorem Rt.mod (R : Rt n sz ag keep) {i j : Nat} (hij : i ≤ j) (hj : j < n) : sz j % sz i = 0 := by
  induction j with
  | zero => obtain rfl : i = 0 := by omega
            exact Int.emod_self
  | succ j ih =>
    rcases Nat.lt_or_ge i (j + 1) with h | h
    · obtain ⟨a, ha⟩ := dvd_of (ih (by omega) (by omega))
      obtain ⟨b, hb⟩ := dvd_of (R.up j hj).2.1
      rw [hb, ha, Int.mul_assoc]
      exact Int.mul_emod_right _ _
    · obtain rfl : i = j + 1 := by omega
      exact Int.emod_self
theorem Rt.ages (R : Rt n sz ag keep) {i j : Nat} (hij : i ≤ j) (hj : j < n) : ag i ≤ ag j := by
  induction j with
  | zero => obtain rfl : i = 0 := by omega
            exact Int.le_refl _
  | succ j ih =>
    rcases Nat.lt_or_ge i (j + 1) with h | h
    · have := ih (by omega) (by omega)
      have := (R.up j hj).2.2
      omega
    · obtain rfl : i = j + 1 := by omega
      exact Int.le_refl _
theorem Rt.old_down (R : Rt n sz ag keep) {t w : Int} {i j : Nat} (hij : i ≤ j) (hj : j < n) (h : old sz ag t w j) : old sz ag t w i := by
  unfold old at h ⊢
  have := (nest (t := t) (R.size i (by omega)).1 (R.size j hj).1 (R.mod hij hj)).2
  have := R.ages hij hj
  omega
theorem Rt.step_of (R : Rt n sz ag keep) {t w : Int} {s i : Nat} (S : IsStep n sz ag t w s) (h0 : 0 < i) (hi : i < n) : old sz ag t w i ↔ i ≤ s := by
  constructor
  · intro h
    rcases Nat.lt_or_ge s i with hlt | hge
    · exact absurd (R.old_down hlt hi h) (S.above (by omega))
    · exact hge
  · exact S.below i h0
theorem Rt.step_unique (R : Rt n sz ag keep) {t w : Int} {s s' : Nat} (S : IsStep n sz ag t w s) (S' : IsStep n sz ag t w s') : s = s' := by
  rcases Nat.lt_trichotomy s s' with h | h | h
  · have := (R.step_of S (i := s') (by omega) S'.lt).1 (S'.below s' (by omega) (Nat.le_refl _)); omega
  · exact h
  · have := (R.step_of S' (i := s) (by omega) S.lt).1 (S.below s (by omega) (Nat.le_refl _)); omega
theorem Rt.step_ex (R : Rt n sz ag keep) (t w : Int) : ∃ s, IsStep n sz ag t w s := by
  have key : ∀ m, m < n → (∀ i, 0 < i → i ≤ m → old sz ag t w i) → ∃ s, IsStep n sz ag t w s := by
    intro m hm
    induction hd : n - m generalizing m with
    | zero => omega
    | succ d ih =>
      intro h
      by_cases hn : m + 1 < n
      · by_cases ho : old sz ag t w (m + 1)
        · refine ih (m + 1) hn (by omega) (fun i h0 hi => ?_)
          rcases Nat.lt_or_ge i (m + 1) with hlt | hge
          · exact h i h0 (by omega)
          · obtain rfl : i = m + 1 := by omega
            exact ho
        · exact ⟨m, hm, h, fun _ => ho⟩
      · exact ⟨m, hm, h, fun hc => absurd hc hn⟩
  exact key 0 R.one (fun i h0 hi => by omega)
end
end Go.Proofs.Ytjemmmemenljbaa.GrainM
end
section
namespace Go.Proofs.Ytjemmmemenljbaa.GrainL
open Go.RowKit Go.Proofs.YtjemmmemenljbaaW.PrintWords Go.Proofs.YtjemmmemenljbaaW.PrintLast Go.Proofs.Ytjemmmemenljbaa.PFold Go.Proofs.Ytjemmmemenljbaa.GrainM
set_option linter.unusedVariables false
set_option linter.unusedSimpArgs false
set_option maxHeartbeats 8000000
set_option maxRecDepth 100000
abbrev Gr := S67
def sz (gs : List Gr) (i : Nat) : Int := (rd_T67 gs (i : Int)).f0
def ag (gs : List Gr) (i : Nat) : Int := (rd_T67 gs (i : Int)).f1
def Rgt (gs : List Gr) (keep : Int) : Prop := Rt gs.length (sz gs) (ag gs) keep
theorem w64 {x : Int} (h0 : -9223372036854775808 ≤ x) (h1 : x ≤ 9223372036854775807) : wrap64 x = x := by unfold wrap64; omega
theorem tmod_emod {a b : Int} (h : 0 ≤ a) : Int.tmod a b = a % b := Int.tmod_eq_emod_of_nonneg h
def good (gs : List Gr) (i : Nat) : Prop := 1 ≤ sz gs i ∧ sz gs i ≤ 1099511627776 ∧ ag gs i ≤ 1099511627776 ∧ (0 < i → sz gs (i - 1) < sz gs i ∧ Int.tmod (sz gs i) (sz gs (i - 1)) = 0 ∧ ag gs (i - 1) ≤ ag gs i)
def goods (gs : List Gr) (keep : Int) (n i : Nat) : Prop := (∀ j, i ≤ j → j < n → good gs j) ∧ ag gs (n - 1) ≤ keep ∧ keep ≤ 2199023255552
theorem rgt_iff {gs : List Gr} {keep : Int} : Rgt gs keep ↔ 1 ≤ gs.length ∧ gs.length ≤ 4 ∧ ag gs 0 = 0 ∧ goods gs keep gs.length 0 := by
  unfold goods
  constructor
  · intro R
    refine ⟨R.one, R.four, R.first, fun j _ hj => ?_, R.kept, R.most⟩
    have hs := R.size j hj
    refine ⟨hs.1, hs.2, (R.age j hj).2, fun h0 => ?_⟩
    have hu := R.up (j - 1) (by omega)
    rw [show j - 1 + 1 = j from by omega] at hu
    exact ⟨hu.1, by rw [tmod_emod (by omega)]; exact hu.2.1, hu.2.2⟩
  · rintro ⟨h1, h4, h0, hg, hk, hm⟩
    have hages : ∀ i, i < gs.length → 0 ≤ ag gs i := by
      intro i
      induction i with
      | zero => intro _; omega
      | succ i ih =>
        intro hi
        have := ((hg (i + 1) (by omega) hi).2.2.2 (by omega)).2.2
        have := ih (by omega)
        simp only [Nat.add_sub_cancel] at *
        omega
    refine ⟨h1, h4, h0, fun i hi => ⟨(hg i (by omega) hi).1, (hg i (by omega) hi).2.1⟩, fun i hi => ⟨hages i hi, (hg i (by omega) hi).2.2.1⟩, fun i hi => ?_, hk, hm⟩
    obtain ⟨a, b, c⟩ := (hg (i + 1) (by omega) hi).2.2.2 (by omega)
    simp only [Nat.add_sub_cancel] at a b c
    refine ⟨a, ?_, c⟩
    rw [← tmod_emod (by have := (hg (i + 1) (by omega) hi).1; omega)]
    exact b
theorem stepR_good {gs : List Gr} {i : Nat} : stepR gs i = true ↔ good gs i := by
  unfold stepR good
  show (decide (1 ≤ sz gs i) && (decide (sz gs i ≤ 1099511627776) && (decide (ag gs i ≤ 1099511627776) && (decide (i = 0) || (decide (sz gs (i - 1) < sz gs i) && (decide (Int.tmod (sz gs i) (sz gs (i - 1)) = 0) && decide (ag gs (i - 1) ≤ ag gs i))))))) = true ↔ _
  simp only [Bool.and_eq_true, Bool.or_eq_true, decide_eq_true_eq]
  constructor
  · rintro ⟨h1, h2, h3, h4⟩
    refine ⟨h1, h2, h3, fun h0 => ?_⟩
    rcases h4 with h4 | h4
    · omega
    · exact h4
  · rintro ⟨h1, h2, h3, h4⟩
    refine ⟨h1, h2, h3, ?_⟩
    rcases Nat.eq_zero_or_pos i with h | h
    · exact .inl h
    · exact .inr (h4 h)
theorem rightR_iff {gs : List Gr} {keep : Int} : rightR gs keep = true ↔ Rgt gs keep := by
  rw [rgt_iff]
  unfold rightR goods
  show (decide (1 ≤ gs.length) && (decide (gs.length ≤ 4) && (decide (ag gs 0 = 0) && ((List.range gs.length).all (stepR gs) && (decide (ag gs (gs.length - 1) ≤ keep) && decide (keep ≤ 2199023255552)))))) = true ↔ _
  simp only [Bool.and_eq_true, decide_eq_true_eq, List.all_eq_true, List.mem_range]
  constructor
  · rintro ⟨h1, h2, h3, h4, h5, h6⟩
    exact ⟨h1, h2, h3, fun j _ hj => stepR_good.1 (h4 j hj), h5, h6⟩
  · rintro ⟨h1, h2, h3, h4, h5, h6⟩
    exact ⟨h1, h2, h3, fun j hj => stepR_good.2 (h4 j (Nat.zero_le _) hj), h5, h6⟩
open Classical in
theorem right_tells (gs : List Gr) (keep : Int) : Ev (fun k => grain_Right.f k gs keep) (decide (Rgt gs keep)) := by
  have e : rightR gs keep = decide (Rgt gs keep) := by rw [Bool.eq_iff_iff, rightR_iff, decide_eq_true_iff]
  rw [← e]
  exact Ev.now _
theorem isTime_tells (t : Int) : grain_isTime.f t = some (decide (isT t)) := by
  have e : isT t ↔ (t ≥ 0 ∧ t ≤ 1099511627776) := Iff.rfl
  unfold grain_isTime.f
  by_cases h : t ≥ 0 <;> by_cases h' : t ≤ 1099511627776 <;> simp [h, h', e]
open Classical in
noncomputable def fitE (gs : List Gr) (keep t w : Int) : Int := if Rgt gs keep then (if isT t ∧ isT w then 0 else 1) else 30
theorem fits_tells (gs : List Gr) (keep t w : Int) : Ev (fun k => grain_fits.f k gs keep t w) (fitE gs keep t w) := by
  unfold grain_fits.f fitE
  refine Ev.bind (right_tells gs keep) ?_
  by_cases hR : Rgt gs keep
  · simp only [hR, decide_true, if_true, isTime_tells, Option.bind_some]
    by_cases h1 : isT t <;> by_cases h2 : isT w <;> simp [h1, h2] <;> exact Ev.now _
  · simp [hR]; exact Ev.now _
theorem fitE_zero {gs : List Gr} {keep t w : Int} : fitE gs keep t w = 0 ↔ Rgt gs keep ∧ isT t ∧ isT w := by
  unfold fitE
  by_cases h : Rgt gs keep <;> by_cases h2 : isT t ∧ isT w <;> simp [h, h2]
theorem end_tells {t s : Int} (ht : isT t) (h1 : 1 ≤ s) (h2 : s ≤ 1099511627776) : grain_end.f t s = some (en t s) := by
  unfold grain_end.f en
  obtain ⟨h3, h4⟩ := ht
  have h5 := Int.emod_nonneg t (show s ≠ 0 by omega)
  have h6 := Int.emod_lt_of_pos t (show 0 < s by omega)
  rw [if_neg (by omega), tmod_emod h3, w64 (x := t - t % s) (by omega) (by omega), w64 (by omega) (by omega)]
theorem step_from {gs : List Gr} {keep t w : Int} (R : Rgt gs keep) (ht : isT t) (hw : isT w) (d : Nat) : ∀ (i s k : Nat), gs.length - i = d → i ≤ gs.length → s + 1 = i →
    (∀ j, 0 < j → j ≤ s → old (sz gs) (ag gs) t w j) → ∃ r : Nat, grain_Step.l0 (k + d + 1) t w s gs.length i gs keep = some ((r : Int), 0) ∧ IsStep gs.length (sz gs) (ag gs) t w r := by
  have h4 := R.four
  induction d with
  | zero =>
    intro i s k hd hi hs ho
    refine ⟨s, ?_, by omega, ho, fun hc => by omega⟩
    simp only [grain_Step.l0]
    rw [if_neg (by omega)]
  | succ d ih =>
    intro i s k hd hi hs ho
    have hlt : i < gs.length := by omega
    have ha := R.age i hlt
    have hsz := R.size i hlt
    have e1 : wrap64 ((i : Int) + 1) = ((i + 1 : Nat) : Int) := by rw [w64] <;> omega
    have e2 : wrap64 (w - (rd_T67 gs (i : Int)).f1) = w - ag gs i := by
      rw [w64]
      · rfl
      · unfold ag at ha; unfold isT at hw; omega
      · unfold ag at ha; unfold isT at hw; omega
    rw [show k + (d + 1) + 1 = (k + d + 1) + 1 from by omega]
    simp only [grain_Step.l0]
    rw [if_pos (by omega), if_neg (by omega), if_pos (by omega), if_pos (by omega), e2, e1]
    have e3 : grain_end.f t (rd_T67 gs (i : Int)).f0 = some (en t (sz gs i)) := end_tells ht hsz.1 hsz.2
    rw [e3]
    simp only [Option.bind_some]
    by_cases hold : old (sz gs) (ag gs) t w i
    · rw [if_neg (by unfold old at hold; omega)]
      exact ih (i + 1) i k (by omega) (by omega) rfl (fun j h0 hj => by
        rcases Nat.lt_or_ge j i with hl | hl
        · exact ho j h0 (by omega)
        · obtain rfl : j = i := by omega
          exact hold)
    · rw [if_pos (by unfold old at hold; omega)]
      exact ⟨s, rfl, by omega, ho, fun _ => by rw [hs]; exact hold⟩
theorem step_tells {gs : List Gr} {keep t w : Int} (R : Rgt gs keep) (ht : isT t) (hw : isT w) {s : Nat} (S : IsStep gs.length (sz gs) (ag gs) t w s) : Ev (fun k => grain_Step.f k gs keep t w) ((s : Int), 0) := by
  unfold grain_Step.f
  refine Ev.bind (fits_tells gs keep t w) ?_
  rw [fitE_zero.2 ⟨R, ht, hw⟩]
  simp only [if_true]
  have h4 := R.four
  have h1 := R.one
  refine ⟨gs.length + 1, fun k hk => ?_⟩
  obtain ⟨k, rfl⟩ : ∃ m, k = (m + (gs.length - 1) + 1) + 1 := ⟨k - gs.length - 1, by omega⟩
  obtain ⟨r, hr, hS⟩ := step_from R ht hw (gs.length - 1) 1 0 k (by omega) h1 rfl (fun j h0 hj => by omega)
  obtain rfl := R.step_unique hS S
  rw [← hr]
  generalize k + (gs.length - 1) + 1 = m
  simp only [grain_Step.l0]
  rw [if_pos (by omega), if_pos trivial, show wrap64 (0 + 1) = ((1 : Nat) : Int) from by rw [w64] <;> omega]
  rfl
end Go.Proofs.Ytjemmmemenljbaa.GrainL
end
