import Derived.Test.YtdopbhbbpgfliaaZAskAll11
import Derived.Test.YtdopbhbbpgfliaaZAskAll12
import Derived.Deep.RegionWith
section
namespace Go.Proofs.Ytdopbhbbpgfliaa.PAsk
open Go.RowKit Go.Proofs.YtdopbhbbpgfliaaW.PrintWords Go.Proofs.YtdopbhbbpgfliaaW.PrintLast Go.Proofs.YtdopbhbbpgfliaaW.PrintMore
set_option linter.unusedVariables false
set_option linter.unusedSimpArgs false
set_option maxHeartbeats 8000000
set_option maxRecDepth 100000
def putE (b : List Int) (a : Ag) (out : List En) : Option (List En) :=
  if out.length < 1000 ∧ (∀ y ∈ out, y.f0.all isB = true) ∧ b.all isB = true then
    (if thereE out b = true then
      (if inU (rd_T60 out (placeE out b : Nat)).f1.f2.f1 ∧ inU a.f2.f1 then some (out.set (placeE out b) ⟨(rd_T60 out (placeE out b : Nat)).f0, mergeA (rd_T60 out (placeE out b : Nat)).f1 a⟩) else none)
    else some (out.take (placeE out b) ++ [⟨b, a⟩] ++ out.drop (placeE out b)))
  else none
def foldGo (k : Nat) (g : List Gr) (keep wm : Int) : List En → List En → Option (List En)
  | [], out => some out
  | x :: r, out => (fold_at.f k g keep wm x.f0).bind fun p => if p.2 = true then foldGo k g keep wm r out else (putE p.1 x.f1 out).bind fun o => foldGo k g keep wm r o
def fold_Fold.f (k : Nat) (g : List Gr) (keep wm : Int) (l : List En) : Option (List En × Int) :=
  (fold_check.f k g keep wm l).bind fun e => if e = 0 then (foldGo k g keep wm l []).bind fun out => some (out, 0) else some ([], e)
theorem placeE_le_ (l : List En) (b : List Int) : placeE l b ≤ l.length := (bsF_le l b l.length 0 l.length (Nat.zero_le _)).1
theorem enter_fold (args : Array Value) (w : World) : (callFunc 58 args).run Try.prog w = .ok (.enter 58 args) w := enters_ Try.func58 (by kernel_rfl) (by kernel_rfl) args w
theorem row_agg {W : World} {base g cap : Nat} {xs : List En} (h : Kd.R k60 60 W base (fun _ => True) (.slice (some ⟨g, 0, none⟩) xs.length cap) xs) (i : Nat) (hi : i < xs.length) (m : Ag) (ad : Addr) (had : ad = ⟨g, i * 7, none⟩) :
    Kd.R k60 60 ((((((W.setCell ⟨ad.block, ad.off + 1, none⟩ (.int .u64 m.f0)).setCell ⟨ad.block, ad.off + 1 + 1, none⟩ (.bool m.f1)).setCell ⟨ad.block, ad.off + 1 + 2, none⟩ (.int .i64 m.f2.f0)).setCell ⟨ad.block, ad.off + 1 + 3, none⟩ (.int .u64 m.f2.f1)).setCell ⟨ad.block, ad.off + 1 + 4, none⟩ (.int .i64 m.f3)).setCell ⟨ad.block, ad.off + 1 + 5, none⟩ (.int .i64 m.f4)) base (fun _ => True) (.slice (some ⟨g, 0, none⟩) xs.length cap) (xs.set i ⟨(rd_T60 xs (i : Nat)).f0, m⟩) ∧
    W.grownBy ((((((W.setCell ⟨ad.block, ad.off + 1, none⟩ (.int .u64 m.f0)).setCell ⟨ad.block, ad.off + 1 + 1, none⟩ (.bool m.f1)).setCell ⟨ad.block, ad.off + 1 + 2, none⟩ (.int .i64 m.f2.f0)).setCell ⟨ad.block, ad.off + 1 + 3, none⟩ (.int .u64 m.f2.f1)).setCell ⟨ad.block, ad.off + 1 + 4, none⟩ (.int .i64 m.f3)).setCell ⟨ad.block, ad.off + 1 + 5, none⟩ (.int .i64 m.f4)) (some g) := by
  subst had
  obtain ⟨c, hcl, hM, hcc, _⟩ := Kd.R_elem h z60 (i : Int) (by omega) (by omega)
  obtain ⟨v0, hc, hv0⟩ := k60_openM hM
  have := Kd.R_seg h (i : Int) (by omega) (by omega) (c := c) (seg := [.int .u64 m.f0, .bool m.f1, .int .i64 m.f2.f0, .int .u64 m.f2.f1, .int .i64 m.f3, .int .i64 m.f4]) (j := 1) hcl hcc (show 1 + 6 ≤ 7 by decide) (x' := ⟨(rd_T60 xs (i : Nat)).f0, m⟩) (okp := fun k => True ∧ k ≠ g) (by rw [hc]; exact k60_mkM W base _ ⟨(rd_T60 xs (i : Nat)).f0, m⟩ hv0) (fun _ hk => hk)
  exact this
def FoldRel (k : Nat) (g : List Gr) (A0 : Option Addr) (c0 : Nat) (keep wm : Int) (l r : List En) (w : World) (v : Value) (j : Nat) (wr : World) : Prop :=
  j ≤ l.length ∧ ∃ out, Below w.heap.size w wr ∧ wr.heap[w.heap.size]? = some (.cells #[.slice A0 g.length c0, .int .i64 keep] 24 (0, 0)) ∧ Kd.R k60 60 wr w.heap.size (fun _ => True) v out ∧ foldGo k g keep wm (l.drop j) out = some r
theorem fold_Fold.calls (k : Nat) (A0_0 : Option Addr) (c0_0 : Nat) (l0_0 : List Gr) (a0_1 : Int) (a1 : Int) (A2 : Option Addr) (c2 : Nat) (l2 : List En) (r1 : List En) (r2 : Int) (w : World) (hr0_0 : Kd.C k84 w A0_0 l0_0.length l0_0) (hc0_0 : l0_0.length ≤ c0_0) (hr2 : Kd.C k60 w A2 l2.length l2) (hc2 : l2.length ≤ c2) (h : fold_Fold.f k l0_0 a0_1 a1 l2 = some (r1, r2)) :
    Calls Try.prog 39 #[.agg #[.slice A0_0 l0_0.length c0_0, .int .i64 a0_1], .int .i64 a1, .slice A2 l2.length c2] w fun e w' => ∃ v0_ : Value, e = .returned (.tuple #[v0_, .int .i64 r2]) ∧ Kd.R k60 60 w' w.heap.size (fun _ => True) v0_ r1 ∧ Below w.heap.size w w' := by
  have HG := Lib.hid hr0_0; have HE := Lib.hid hr2; clear hr0_0 hr2
  have HBX := Lib.hid (blk_new w (.cells #[.slice A0_0 l0_0.length c0_0, .int .i64 a0_1] 24))
  have HB0 : Hid (Below w.heap.size w (w.alloc (.cells #[.slice A0_0 l0_0.length c0_0, .int .i64 a0_1] 24))) := Lib.hid ((Below.refl _ _).alloc (Nat.le_refl _) _)
  unfold fold_Fold.f at h
  obtain ⟨e0, he0, h2⟩ := Option.bind_eq_some_iff.mp h
  have HCK := Lib.hid he0
  by_cases hz : e0 = 0
  · subst hz
    rw [if_pos rfl] at h2
    obtain ⟨out, hb, h3⟩ := Option.bind_eq_some_iff.mp h2
    simp only [Option.some.injEq, Prod.mk.injEq] at h3
    obtain ⟨rfl, rfl⟩ := h3
    have HQ := Lib.hid hb
    clear h he0 h2 hb
    go_enter Try.func39, Try.ntmps39
    go_wp2
    go_step3
    go_wp2_with (go_at_call 55; refine (fold_check.calls k A0_0 c0_0 l0_0 a0_1 a1 A2 c2 l2 _ _ (Kd.C_below HG.out HB0.out) hc0_0 (Kd.C_below HE.out HB0.out) hc2 HCK.out).mono ?_; rintro e w1 ⟨rfl, hb⟩; have HB1 := Lib.hid (below_step HB0.out hb); have HBX1 := Lib.hid (blk_below HBX.out hb); clear hb)
    go_step3
    go_wp2_with (fail)
    go_loopw [25, 9] (fun v u wr => ∃ j : Nat, v = .int .i64 j ∧ FoldRel k l0_0 A0_0 c0_0 a0_1 a1 l2 out w u j wr) (fun v _ _ => l2.length - (intOf v).toNat)
    case atStart => exact ⟨0, rfl, Nat.zero_le _, [], HB1.out, HBX1.out, Kd.R_nil _ _ _ _ _, HQ.out⟩
    case round =>
      obtain ⟨j, rfl, hj, acc, hB, hX, hR, hF⟩ := hrel
      have HJB := Lib.hid hB; have HJX := Lib.hid hX; have HJR := Lib.hid hR
      clear HB1 HBX1 HQ hB hX hR
      have hmx : l2.length ≤ 9223372036854775807 := HE.out.2.1
      obtain ⟨Ar, cr, hu9⟩ := Kd.R_slice HJR.out
      subst hu9
      by_cases hlt : j < l2.length
      · have e1 : decide ((j : Int) < (l2.length : Int)) = true := decide_eq_true (by omega)
        obtain ⟨ad, A1, c1, ha, hx0, hx1, hx2, hx3, hx4, hx5, hx6, hlc, hin⟩ := at_T60 HE.out (j : Int) (by omega) (by omega)
        subst ha
        have HIN := Lib.hid hin
        have hxx := rd_ent hlt
        obtain ⟨x, hx⟩ : ∃ x, x = rd_T60 l2 (j : Int) := ⟨_, rfl⟩
        rw [← hx] at hx0 hx1 hx2 hx3 hx4 hx5 hx6 hlc HIN
        simp only [Int.toNat_natCast] at hx0 hx1 hx2 hx3 hx4 hx5 hx6
        replace hx0 := (HJB.out.cell (World.block_lt_of_cell? w _ hx0)).trans hx0
        replace hx1 := (HJB.out.cell (World.block_lt_of_cell? w _ hx1)).trans hx1
        replace hx2 := (HJB.out.cell (World.block_lt_of_cell? w _ hx2)).trans hx2
        replace hx3 := (HJB.out.cell (World.block_lt_of_cell? w _ hx3)).trans hx3
        replace hx4 := (HJB.out.cell (World.block_lt_of_cell? w _ hx4)).trans hx4
        replace hx5 := (HJB.out.cell (World.block_lt_of_cell? w _ hx5)).trans hx5
        replace hx6 := (HJB.out.cell (World.block_lt_of_cell? w _ hx6)).trans hx6
        have hF1 : foldGo k l0_0 a0_1 a1 (x :: l2.drop (j + 1)) acc = some out := by rw [← hF, hx, hxx, ← List.drop_eq_getElem_cons hlt]
        clear hF hx hxx hin
        unfold foldGo at hF1
        obtain ⟨⟨kb, gone⟩, hat, hF2⟩ := Option.bind_eq_some_iff.mp hF1
        have HAT := Lib.hid hat
        clear hF1 hat
        have hk0 := (blk_cell HJX.out 0).trans (show _ = some (Value.slice A0_0 l0_0.length c0_0) from rfl)
        have hk1 := (blk_cell HJX.out 1).trans (show _ = some (Value.int .i64 a0_1) from rfl)
        have hlw := blk_lt HJX.out
        have HXB := Lib.hid (blk_new wr (.cells #[.slice A1 x.f0.length c1, .int .u64 x.f1.f0, .bool x.f1.f1, .int .i64 x.f1.f2.f0, .int .u64 x.f1.f2.f1, .int .i64 x.f1.f3, .int .i64 x.f1.f4] 60))
        have HAB : Hid (Below w.heap.size w (wr.alloc (.cells #[.slice A1 x.f0.length c1, .int .u64 x.f1.f0, .bool x.f1.f1, .int .i64 x.f1.f2.f0, .int .u64 x.f1.f2.f1, .int .i64 x.f1.f3, .int .i64 x.f1.f4] 60))) := Lib.hid (HJB.out.alloc HJB.out.size _)
        have HAX := Lib.hid (blk_alloc HJX.out (.cells #[.slice A1 x.f0.length c1, .int .u64 x.f1.f0, .bool x.f1.f1, .int .i64 x.f1.f2.f0, .int .u64 x.f1.f2.f1, .int .i64 x.f1.f3, .int .i64 x.f1.f4] 60))
        have HAR := Lib.hid (Kd.R_below HJR.out ((Below.refl _ _).alloc (Nat.le_refl _) (.cells #[.slice A1 x.f0.length c1, .int .u64 x.f1.f0, .bool x.f1.f1, .int .i64 x.f1.f2.f0, .int .u64 x.f1.f2.f1, .int .i64 x.f1.f3, .int .i64 x.f1.f4] 60)))
        cases gone with
        | true =>
          have hF3 : Hid (foldGo k l0_0 a0_1 a1 (l2.drop (j + 1)) acc = some out) := Lib.hid (by simpa using hF2)
          clear hF2
          go_wp2_with (go_at_call 56; refine (fold_at.calls k A0_0 c0_0 l0_0 a0_1 a1 A1 c1 x.f0 _ _ _ (Kd.C_below HG.out HAB.out) hc0_0 (Kd.C_below HIN.out HAB.out) hlc HAT.out).mono ?_; rintro e w1 ⟨v0, rfl, hr, hw⟩; obtain ⟨Av, cv, hv⟩ := Kd.R_slice hr; subst hv; have HR := Lib.hid hr; have HW := Lib.hid hw; clear hr hw)
          go_roundw
          case rel => exact ⟨j + 1, by go_num, hlt, acc, below_step HAB.out HW.out, blk_below HAX.out HW.out, Kd.R_below HAR.out HW.out, hF3.out⟩
          case measure => simp [intOf]; omega
        | false =>
          have hF3 : (putE kb x.f1 acc).bind (fun o => foldGo k l0_0 a0_1 a1 (l2.drop (j + 1)) o) = some out := by simpa using hF2
          clear hF2
          obtain ⟨acc', hput, hF4⟩ := Option.bind_eq_some_iff.mp hF3
          have HF := Lib.hid hF4
          clear hF3 hF4
          unfold putE at hput
          by_cases hg : acc.length < 1000 ∧ (∀ y ∈ acc, y.f0.all isB = true) ∧ kb.all isB = true
          case neg => rw [if_neg hg] at hput; cases hput
          rw [if_pos hg] at hput
          obtain ⟨hlen, hall, hkb⟩ := hg
          have HALL := Lib.hid hall; have HKB := Lib.hid hkb
          clear hall hkb
          obtain ⟨i, hi⟩ : ∃ i, i = placeE acc kb := ⟨_, rfl⟩
          obtain ⟨th, hth⟩ : ∃ th, th = thereE acc kb := ⟨_, rfl⟩
          rw [← hi, ← hth] at hput
          have hil : i ≤ acc.length := by rw [hi]; exact placeE_le_ acc kb
          have hS := fun (B : Option Addr) (d : Nat) (W : World) (h1 : Kd.C k60 W Ar acc.length acc) (h2 : Kd.C (Kd.int .u8) W B kb.length kb) (h3 : kb.length ≤ d) => search_ents 58 cmp_fold enter_fold Ar cr acc B d kb W h1 (by omega) h2 h3 HALL.out HKB.out
          rw [← hi, ← hth] at hS
          have HS := Lib.hid hS
          have HTH := Lib.hid hth; have HI := Lib.hid hi
          clear hS hth hi
          cases th with
          | false =>
            rw [if_neg (by simp)] at hput
            obtain rfl := Option.some.inj hput
            clear hput
            go_wp2_with (first
              | (go_at_call 56; refine (fold_at.calls k A0_0 c0_0 l0_0 a0_1 a1 A1 c1 x.f0 _ _ _ (Kd.C_below HG.out HAB.out) hc0_0 (Kd.C_below HIN.out HAB.out) hlc HAT.out).mono ?_; rintro e w1 ⟨v0, rfl, hr, hw⟩; obtain ⟨Av, cv, hv⟩ := Kd.R_slice hr; subst hv; have HR := Lib.hid hr; have HW := Lib.hid hw; have HRR := Lib.hid (Kd.R_below HAR.out hw); have HXX := Lib.hid (blk_below HXB.out hw); have HRN := Lib.hid (Kd.R_lower (Kd.R_new hr (Kd.R_own HAR.out).choose_spec) HAB.out.size); have HB1 := Lib.hid (below_step HAB.out hw); have HX1 := Lib.hid (blk_below HAX.out hw); clear hr hw)
              | (go_at_call 57; refine (HS.out Av cv w1 (Kd.R_reads' HRR.out).2.2 (Kd.R_reads' HR.out).2.2 (Kd.R_reads' HR.out).2.1).mono ?_; rintro e w2 ⟨rfl, hw2⟩; have HW2 := Lib.hid hw2; have HXX2 := Lib.hid (blk_below HXX.out hw2); have HRR2 := Lib.hid (Kd.R_below HRR.out hw2); have HRN2 := Lib.hid (Kd.R_below HRN.out hw2); have HB2 := Lib.hid (below_step HB1.out hw2); have HX2 := Lib.hid (blk_below HX1.out hw2); have hy1 := (blk_cell HXX2.out 1).trans (show _ = some (Value.int .u64 x.f1.f0) from rfl); have hy2 := (blk_cell HXX2.out 2).trans (show _ = some (Value.bool x.f1.f1) from rfl); have hy3 := (blk_cell HXX2.out 3).trans (show _ = some (Value.int .i64 x.f1.f2.f0) from rfl); have hy4 := (blk_cell HXX2.out 4).trans (show _ = some (Value.int .u64 x.f1.f2.f1) from rfl); have hy5 := (blk_cell HXX2.out 5).trans (show _ = some (Value.int .i64 x.f1.f3) from rfl); have hy6 := (blk_cell HXX2.out 6).trans (show _ = some (Value.int .i64 x.f1.f4) from rfl); clear hw2)
              | (go_at_call 60; refine (insert_row w2 w.heap.size (.slice Ar acc.length cr) acc i ⟨kb, x.f1⟩ [.slice Av kb.length cv, .int .u64 x.f1.f0, .bool x.f1.f1, .int .i64 x.f1.f2.f0, .int .u64 x.f1.f2.f1, .int .i64 x.f1.f3, .int .i64 x.f1.f4] _ HRR2.out (k60_mkM w2 w.heap.size _ ⟨kb, x.f1⟩ HRN2.out) (fun _ hk => hk.2) HB2.out.size (by omega) hil).mono ?_; rintro e w3 ⟨v3, rfl, hr3, hg3, hat3⟩; have HR3 := Lib.hid hr3; have HB3 := Lib.hid (HB2.out.grown hg3 HB2.out.size (own_base (Kd.R_own HRR2.out).choose_spec)); have HX3 := Lib.hid (blk_grown HX2.out hg3 (Kd.R_ne HRR2.out HX2.out (by decide))); clear hr3 hg3 hat3))
            go_roundw
            case rel => exact ⟨j + 1, by go_num, hlt, _, HB3.out, HX3.out, HR3.out, HF.out⟩
            case measure => simp [intOf]; omega
          | true =>
            rw [if_pos rfl] at hput
            have hil2 : i < acc.length := by
              have := HTH.out
              unfold thereE at this
              rw [← HI.out] at this
              simp only [Bool.true_eq, Bool.and_eq_true, decide_eq_true_eq] at this
              exact this.1
            obtain ⟨y, hy⟩ : ∃ y, y = rd_T60 acc (i : Nat) := ⟨_, rfl⟩
            rw [← hy] at hput
            by_cases hu : inU y.f1.f2.f1 ∧ inU x.f1.f2.f1
            case neg => rw [if_neg hu] at hput; cases hput
            rw [if_pos hu] at hput
            obtain rfl := Option.some.inj hput
            clear hput
            have HM : Hid (agg_Merge.f y.f1.f0 y.f1.f1 y.f1.f2.f0 y.f1.f2.f1 y.f1.f3 y.f1.f4 x.f1.f0 x.f1.f1 x.f1.f2.f0 x.f1.f2.f1 x.f1.f3 x.f1.f4 = some ((mergeA y.f1 x.f1).f0, (mergeA y.f1 x.f1).f1, (mergeA y.f1 x.f1).f2.f0, (mergeA y.f1 x.f1).f2.f1, (mergeA y.f1 x.f1).f3, (mergeA y.f1 x.f1).f4)) := Lib.hid (by unfold agg_Merge.f; rw [if_pos hu])
            clear hu
            generalize mergeA y.f1 x.f1 = m at HM HF
            have HY := Lib.hid hy
            clear hy
            have hw2' : IntKind.i64.wrap ((i : Int)) = (i : Int) := by rw [IntKind.wrap_i64]; omega
            go_upto_region 12 with (first
              | (go_at_call 56; refine (fold_at.calls k A0_0 c0_0 l0_0 a0_1 a1 A1 c1 x.f0 _ _ _ (Kd.C_below HG.out HAB.out) hc0_0 (Kd.C_below HIN.out HAB.out) hlc HAT.out).mono ?_; rintro e w1 ⟨v0, rfl, hr, hw⟩; obtain ⟨Av, cv, hv⟩ := Kd.R_slice hr; subst hv; have HR := Lib.hid hr; have HW := Lib.hid hw; have HRR := Lib.hid (Kd.R_below HAR.out hw); have HXX := Lib.hid (blk_below HXB.out hw); have HRN := Lib.hid (Kd.R_lower (Kd.R_new hr (Kd.R_own HAR.out).choose_spec) HAB.out.size); have HB1 := Lib.hid (below_step HAB.out hw); have HX1 := Lib.hid (blk_below HAX.out hw); clear hr hw)
              | (go_at_call 57; refine (HS.out Av cv w1 (Kd.R_reads' HRR.out).2.2 (Kd.R_reads' HR.out).2.2 (Kd.R_reads' HR.out).2.1).mono ?_; rintro e w2 ⟨rfl, hw2⟩; have HW2 := Lib.hid hw2; have HXX2 := Lib.hid (blk_below HXX.out hw2); have HRR2 := Lib.hid (Kd.R_below HRR.out hw2); have HRN2 := Lib.hid (Kd.R_below HRN.out hw2); have HB2 := Lib.hid (below_step HB1.out hw2); have HX2 := Lib.hid (blk_below HX1.out hw2); have hy1 := (blk_cell HXX2.out 1).trans (show _ = some (Value.int .u64 x.f1.f0) from rfl); have hy2 := (blk_cell HXX2.out 2).trans (show _ = some (Value.bool x.f1.f1) from rfl); have hy3 := (blk_cell HXX2.out 3).trans (show _ = some (Value.int .i64 x.f1.f2.f0) from rfl); have hy4 := (blk_cell HXX2.out 4).trans (show _ = some (Value.int .u64 x.f1.f2.f1) from rfl); have hy5 := (blk_cell HXX2.out 5).trans (show _ = some (Value.int .i64 x.f1.f3) from rfl); have hy6 := (blk_cell HXX2.out 6).trans (show _ = some (Value.int .i64 x.f1.f4) from rfl); clear hw2))
            obtain ⟨g, hgA, hgw⟩ : ∃ g, Ar = some ⟨g, 0, none⟩ ∧ ∃ cur, w2.heap[g]? = some (.cells cur 60 (0, 0)) := by
              rcases (Kd.R_own HRR2.out).choose_spec.2 with ⟨_, h0⟩ | ⟨g, cap, cur, hv, hb, hh, _⟩
              · omega
              · injection hv with h1 _ _
                exact ⟨g, h1, cur, hh⟩
            obtain ⟨ad, Ay, cy, ha, hz0, hz1, hz2, hz3, hz4, hz5, hz6, hlc2, hin2⟩ := at_T60 (Kd.R_reads' HRR2.out).2.2 (i : Int) (by omega) (by omega)
            subst ha
            have hadg : ad = ⟨g, 0, none⟩ := by injection hgA
            rw [← HY.out] at hz0 hz1 hz2 hz3 hz4 hz5 hz6 hlc2 hin2
            simp only [Int.toNat_natCast] at hz0 hz1 hz2 hz3 hz4 hz5 hz6
            have hblk : (ad.add (i * 7)).block = g := by rw [hadg, add_plain]
            have hlg : g < w2.heap.size := blk_lt hgw.choose_spec
            have hfz : ∀ (w3 : World), Below w2.heap.size w2 w3 → ∀ o, w3.frozen? ⟨(ad.add (i * 7)).block, o, none⟩ = false := fun w3 hb o => by
              rw [hblk]; exact blk_frozen (blk_below hgw.choose_spec hb) o
            have HFZ := Lib.hid hfz; have HADG := Lib.hid hadg; have HGW := Lib.hid hgw
            clear hfz hadg hgw hgA hblk
            go_region_with (go_at_call 14; refine (agg_Merge.calls y.f1.f0 y.f1.f1 y.f1.f2.f0 y.f1.f2.f1 y.f1.f3 y.f1.f4 x.f1.f0 x.f1.f1 x.f1.f2.f0 x.f1.f2.f1 x.f1.f3 x.f1.f4 _ _ _ _ _ _ _ HM.out).mono ?_; rintro e w3 ⟨rfl, hw3d⟩; have hw3 : Below w2.heap.size w2 w3 := ⟨hw3d.os, hw3d.tape, hw3d.output, hw3d.size, hw3d.block⟩; have HW3 := Lib.hid hw3; have hq1 := (hw3.cell (World.block_lt_of_cell? w2 _ hz1)).trans hz1; have hq2 := (hw3.cell (World.block_lt_of_cell? w2 _ hz2)).trans hz2; have hq3 := (hw3.cell (World.block_lt_of_cell? w2 _ hz3)).trans hz3; have hq4 := (hw3.cell (World.block_lt_of_cell? w2 _ hz4)).trans hz4; have hq5 := (hw3.cell (World.block_lt_of_cell? w2 _ hz5)).trans hz5; have hq6 := (hw3.cell (World.block_lt_of_cell? w2 _ hz6)).trans hz6; have hp1 := HFZ.out w3 hw3 ((ad.add (i * 7)).off + 1); have hp2 := HFZ.out w3 hw3 ((ad.add (i * 7)).off + 2); have hp3 := HFZ.out w3 hw3 ((ad.add (i * 7)).off + 3); have hp4 := HFZ.out w3 hw3 ((ad.add (i * 7)).off + 4); have hp5 := HFZ.out w3 hw3 ((ad.add (i * 7)).off + 5); have hp6 := HFZ.out w3 hw3 ((ad.add (i * 7)).off + 6); clear hw3 hw3d)
            all_goals
              have hrow := row_agg (Kd.R_below (v := .slice (some ⟨g, 0, none⟩) acc.length cr) (by have := HRR2.out; rw [HADG.out] at this; exact this) HW3.out) i hil2 m (ad.add (i * 7)) (by rw [HADG.out, add_plain])
              rw [← HADG.out] at hrow
              have HROW := Lib.hid hrow
              clear hrow hq1 hq2 hq3 hq4 hq5 hq6 hp1 hp2 hp3 hp4 hp5 hp6
              go_wp2_with (fail)
              go_roundw
              case rel => exact ⟨j + 1, by go_num, hlt, _, (below_step HB2.out HW3.out).grown HROW.out.2 (below_step HB2.out HW3.out).size (by intro k hk; injection hk with hk; have := own_base (Kd.R_own HRR2.out).choose_spec k; rw [HADG.out] at this; subst hk; exact this rfl), blk_grown (blk_below HX2.out HW3.out) HROW.out.2 (by have := Kd.R_ne HRR2.out HX2.out (by decide); rw [HADG.out] at this; exact this), HROW.out.1, by have := HY.out; rw [this] at HF; exact HF.out⟩
              case measure => simp [intOf]; omega
      · have e1 : decide ((j : Int) < (l2.length : Int)) = false := decide_eq_false (by omega)
        rw [List.drop_eq_nil_of_le (by omega)] at hF
        unfold foldGo at hF
        obtain rfl := Option.some.inj hF
        clear hF
        go_wp2
        rw [Exit.noGoto_ret]
        go_ret2
        exact ⟨_, rfl, HJR.out, HJB.out⟩
  · rw [if_neg hz] at h2
    simp only [Option.some.injEq, Prod.mk.injEq] at h2
    obtain ⟨rfl, rfl⟩ := h2
    have hz' : (e0 != 0) = true := bne_iff_ne.2 hz
    have hz'' : (e0 == 0) = false := beq_eq_false_iff_ne.2 hz
    clear h he0 hz
    go_enter Try.func39, Try.ntmps39
    go_wp2
    go_step3
    go_wp2_with (go_at_call 55; refine (fold_check.calls k A0_0 c0_0 l0_0 a0_1 a1 A2 c2 l2 _ _ (Kd.C_below HG.out HB0.out) hc0_0 (Kd.C_below HE.out HB0.out) hc2 HCK.out).mono ?_; rintro e w1 ⟨rfl, hb⟩; have HB1 := Lib.hid (below_step HB0.out hb); clear hb)
    rw [Exit.noGoto_ret]
    go_ret2
    exact ⟨_, rfl, Kd.R_nil _ _ _ _ _, HB1.out⟩
end Go.Proofs.Ytdopbhbbpgfliaa.PAsk
end
