import Derived.Test.YtjemmmemenljbaaZFoldFactsParts10
import Derived.Test.YtjemmmemenljbaaZFoldFactsParts12
import Derived.Test.YtjemmmemenljbaaZFoldFactsParts14
import Derived.Test.YtjemmmemenljbaaZFoldFactsParts15
import Derived.Deep.RegionWith
section
namespace Go.Proofs.Ytjemmmemenljbaa.PFold
open Go.RowKit Go.Proofs.YtjemmmemenljbaaW.PrintWords Go.Proofs.YtjemmmemenljbaaW.PrintLast Go.Proofs.YtjemmmemenljbaaW.PrintMore
set_option linter.unusedVariables false
set_option linter.unusedSimpArgs false
set_option maxHeartbeats 8000000
set_option maxRecDepth 100000
def putE (b : List Int) (a : Ag) (out : List En) : Option (List En) :=
  if out.length < 1000 ∧ (∀ y ∈ out, y.f0.all isB = true) ∧ b.all isB = true then
    (if thereE out b = true then
      (if inU (rd_T51 out (placeE out b : Nat)).f1.f2.f1 ∧ inU a.f2.f1 then some (out.set (placeE out b) ⟨(rd_T51 out (placeE out b : Nat)).f0, mergeA (rd_T51 out (placeE out b : Nat)).f1 a⟩) else none)
    else some (out.take (placeE out b) ++ [⟨b, a⟩] ++ out.drop (placeE out b)))
  else none
def foldGo (k : Nat) (g : List Gr) (keep wm : Int) : List En → List En → Option (List En)
  | [], out => some out
  | x :: r, out => (fold_at.f k g keep wm x.f0).bind fun p => if p.2 = true then foldGo k g keep wm r out else (putE p.1 x.f1 out).bind fun o => foldGo k g keep wm r o
def fold_Fold.f (k : Nat) (g : List Gr) (keep wm : Int) (l : List En) : Option (List En × Int) :=
  (fold_check.f k g keep wm l).bind fun e => if e = 0 then (foldGo k g keep wm l []).bind fun out => some (out, 0) else some ([], e)
theorem placeE_le_ (l : List En) (b : List Int) : placeE l b ≤ l.length := (bsF_le l b l.length 0 l.length (Nat.zero_le _)).1
theorem enter_fold (args : Array Value) (w : World) : (callFunc 39 args).run Try.prog w = .ok (.enter 39 args) w := enters_ Try.func39 (by kernel_rfl) (by kernel_rfl) args w
theorem row_agg {W : World} {base g cap : Nat} {xs : List En} (h : Kd.R k51 51 W base (fun _ => True) (.slice (some ⟨g, 0, none⟩) xs.length cap) xs) (i : Nat) (hi : i < xs.length) (m : Ag) (ad : Addr) (had : ad = ⟨g, i * 7, none⟩) :
    Kd.R k51 51 ((((((W.setCell ⟨ad.block, ad.off + 1, none⟩ (.int .u64 m.f0)).setCell ⟨ad.block, ad.off + 1 + 1, none⟩ (.bool m.f1)).setCell ⟨ad.block, ad.off + 1 + 2, none⟩ (.int .i64 m.f2.f0)).setCell ⟨ad.block, ad.off + 1 + 3, none⟩ (.int .u64 m.f2.f1)).setCell ⟨ad.block, ad.off + 1 + 4, none⟩ (.int .i64 m.f3)).setCell ⟨ad.block, ad.off + 1 + 5, none⟩ (.int .i64 m.f4)) base (fun _ => True) (.slice (some ⟨g, 0, none⟩) xs.length cap) (xs.set i ⟨(rd_T51 xs (i : Nat)).f0, m⟩) ∧
    W.grownBy ((((((W.setCell ⟨ad.block, ad.off + 1, none⟩ (.int .u64 m.f0)).setCell ⟨ad.block, ad.off + 1 + 1, none⟩ (.bool m.f1)).setCell ⟨ad.block, ad.off + 1 + 2, none⟩ (.int .i64 m.f2.f0)).setCell ⟨ad.block, ad.off + 1 + 3, none⟩ (.int .u64 m.f2.f1)).setCell ⟨ad.block, ad.off + 1 + 4, none⟩ (.int .i64 m.f3)).setCell ⟨ad.block, ad.off + 1 + 5, none⟩ (.int .i64 m.f4)) (some g) := by
  subst had
  obtain ⟨c, hcl, hM, hcc, _⟩ := Kd.R_elem h z51 (i : Int) (by omega) (by omega)
  obtain ⟨v0, hc, hv0⟩ := k51_openM hM
  have := Kd.R_seg h (i : Int) (by omega) (by omega) (c := c) (seg := [.int .u64 m.f0, .bool m.f1, .int .i64 m.f2.f0, .int .u64 m.f2.f1, .int .i64 m.f3, .int .i64 m.f4]) (j := 1) hcl hcc (show 1 + 6 ≤ 7 by decide) (x' := ⟨(rd_T51 xs (i : Nat)).f0, m⟩) (okp := fun k => True ∧ k ≠ g) (by rw [hc]; exact k51_mkM W base _ ⟨(rd_T51 xs (i : Nat)).f0, m⟩ hv0) (fun _ hk => hk)
  exact this
def FoldRel (k : Nat) (g : List Gr) (A0 : Option Addr) (c0 : Nat) (keep wm : Int) (l r : List En) (w : World) (v : Value) (j : Nat) (wr : World) : Prop :=
  j ≤ l.length ∧ ∃ out, Below w.heap.size w wr ∧ wr.heap[w.heap.size]? = some (.cells #[.slice A0 g.length c0, .int .i64 keep] 24 (0, 0)) ∧ Kd.R k51 51 wr w.heap.size (fun _ => True) v out ∧ foldGo k g keep wm (l.drop j) out = some r
theorem fold_Fold.calls (k : Nat) (A0_0 : Option Addr) (c0_0 : Nat) (l0_0 : List Gr) (a0_1 : Int) (a1 : Int) (A2 : Option Addr) (c2 : Nat) (l2 : List En) (r1 : List En) (r2 : Int) (w : World) (hr0_0 : Kd.C k67 w A0_0 l0_0.length l0_0) (hc0_0 : l0_0.length ≤ c0_0) (hr2 : Kd.C k51 w A2 l2.length l2) (hc2 : l2.length ≤ c2) (h : fold_Fold.f k l0_0 a0_1 a1 l2 = some (r1, r2)) :
    Calls Try.prog 16 #[.agg #[.slice A0_0 l0_0.length c0_0, .int .i64 a0_1], .int .i64 a1, .slice A2 l2.length c2] w fun e w' => ∃ v0_ : Value, e = .returned (.tuple #[v0_, .int .i64 r2]) ∧ Kd.R k51 51 w' w.heap.size (fun _ => True) v0_ r1 ∧ Below w.heap.size w w' := by
  have HG := Lib.hid hr0_0; have HE := Lib.hid hr2; clear hr0_0 hr2
  have HBX := Lib.hid (blk_new w (.cells #[.slice A0_0 l0_0.length c0_0, .int .i64 a0_1] 24))
  have HB0 : Hid (Below w.heap.size w (w.alloc (.cells #[.slice A0_0 l0_0.length c0_0, .int .i64 a0_1] 24))) := Lib.hid ((Below.refl _ _).alloc (Nat.le_refl _) _)
  unfold fold_Fold.f at h
  obtain ⟨e0, he0, h2⟩ := Option.bind_eq_some_iff.mp h
  have HCK := Lib.hid he0
  by_cases hz : e0 = 0
  · subst hz
    rw [if_pos rfl] at h2
    obtain ⟨out, hb, h3⟩ := Option.bind_eq_some_iff.mp h2
    simp only [Option.some.injEq, Prod.mk.injEq] at h3
    obtain ⟨rfl, rfl⟩ := h3
    have HQ := Lib.hid hb
    clear h he0 h2 hb
    go_enter Try.func16, Try.ntmps16
    go_wp2
    go_step3
    go_wp2_with (go_at_call 27; refine (fold_check.calls k A0_0 c0_0 l0_0 a0_1 a1 A2 c2 l2 _ _ (Kd.C_below HG.out HB0.out) hc0_0 (Kd.C_below HE.out HB0.out) hc2 HCK.out).mono ?_; rintro e w1 ⟨rfl, hb⟩; have HB1 := Lib.hid (below_step HB0.out hb); have HBX1 := Lib.hid (blk_below HBX.out hb); clear hb)
    go_step3
    go_wp2_with (fail)
    go_loopw [25, 9] (fun v u wr => ∃ j : Nat, v = .int .i64 j ∧ FoldRel k l0_0 A0_0 c0_0 a0_1 a1 l2 out w u j wr) (fun v _ _ => l2.length - (intOf v).toNat)
    case atStart => exact ⟨0, rfl, Nat.zero_le _, [], HB1.out, HBX1.out, Kd.R_nil _ _ _ _ _, HQ.out⟩
    case round =>
      obtain ⟨j, rfl, hj, acc, hB, hX, hR, hF⟩ := hrel
      have HJB := Lib.hid hB; have HJX := Lib.hid hX; have HJR := Lib.hid hR
      clear HB1 HBX1 HQ hB hX hR
      have hmx : l2.length ≤ 9223372036854775807 := HE.out.2.1
      obtain ⟨Ar, cr, hu9⟩ := Kd.R_slice HJR.out
      subst hu9
      by_cases hlt : j < l2.length
      · have e1 : decide ((j : Int) < (l2.length : Int)) = true := decide_eq_true (by omega)
        obtain ⟨ad, A1, c1, ha, hx0, hx1, hx2, hx3, hx4, hx5, hx6, hlc, hin⟩ := at_T51 HE.out (j : Int) (by omega) (by omega)
        subst ha
        have HIN := Lib.hid hin
        have hxx := rd_ent hlt
        obtain ⟨x, hx⟩ : ∃ x, x = rd_T51 l2 (j : Int) := ⟨_, rfl⟩
        rw [← hx] at hx0 hx1 hx2 hx3 hx4 hx5 hx6 hlc HIN
        simp only [Int.toNat_natCast] at hx0 hx1 hx2 hx3 hx4 hx5 hx6
        replace hx0 := (HJB.out.cell (World.block_lt_of_cell? w _ hx0)).trans hx0
        replace hx1 := (HJB.out.cell (World.block_lt_of_cell? w _ hx1)).trans hx1
        replace hx2 := (HJB.out.cell (World.block_lt_of_cell? w _ hx2)).trans hx2
        replace hx3 := (HJB.out.cell (World.block_lt_of_cell? w _ hx3)).trans hx3
        replace hx4 := (HJB.out.cell (World.block_lt_of_cell? w _ hx4)).trans hx4
        replace hx5 := (HJB.out.cell (World.block_lt_of_cell? w _ hx5)).trans hx5
        replace hx6 := (HJB.out.cell (World.block_lt_of_cell? w _ hx6)).trans hx6
        have hF1 : foldGo k l0_0 a0_1 a1 (x :: l2.drop (j + 1)) acc = some out := by rw [← hF, hx, hxx, ← List.drop_eq_getElem_cons hlt]
        clear hF hx hxx hin
        unfold foldGo at hF1
        obtain ⟨⟨kb, gone⟩, hat, hF2⟩ := Option.bind_eq_some_iff.mp hF1
        have HAT := Lib.hid hat
        clear hF1 hat
        have hk0 := (blk_cell HJX.out 0).trans (show _ = some (Value.slice A0_0 l0_0.length c0_0) from rfl)
        have hk1 := (blk_cell HJX.out 1).trans (show _ = some (Value.int .i64 a0_1) from rfl)
        have hlw := blk_lt HJX.out
        have HXB := Lib.hid (blk_new wr (.cells #[.slice A1 x.f0.length c1, .int .u64 x.f1.f0, .bool x.f1.f1, .int .i64 x.f1.f2.f0, .int .u64 x.f1.f2.f1, .int .i64 x.f1.f3, .int .i64 x.f1.f4] 51))
        have HAB : Hid (Below w.heap.size w (wr.alloc (.cells #[.slice A1 x.f0.length c1, .int .u64 x.f1.f0, .bool x.f1.f1, .int .i64 x.f1.f2.f0, .int .u64 x.f1.f2.f1, .int .i64 x.f1.f3, .int .i64 x.f1.f4] 51))) := Lib.hid (HJB.out.alloc HJB.out.size _)
        have HAX := Lib.hid (blk_alloc HJX.out (.cells #[.slice A1 x.f0.length c1, .int .u64 x.f1.f0, .bool x.f1.f1, .int .i64 x.f1.f2.f0, .int .u64 x.f1.f2.f1, .int .i64 x.f1.f3, .int .i64 x.f1.f4] 51))
        have HAR := Lib.hid (Kd.R_below HJR.out ((Below.refl _ _).alloc (Nat.le_refl _) (.cells #[.slice A1 x.f0.length c1, .int .u64 x.f1.f0, .bool x.f1.f1, .int .i64 x.f1.f2.f0, .int .u64 x.f1.f2.f1, .int .i64 x.f1.f3, .int .i64 x.f1.f4] 51)))
        cases gone with
        | true =>
          have hF3 : Hid (foldGo k l0_0 a0_1 a1 (l2.drop (j + 1)) acc = some out) := Lib.hid (by simpa using hF2)
          clear hF2
          go_wp2_with (go_at_call 38; refine (fold_at.calls k A0_0 c0_0 l0_0 a0_1 a1 A1 c1 x.f0 _ _ _ (Kd.C_below HG.out HAB.out) hc0_0 (Kd.C_below HIN.out HAB.out) hlc HAT.out).mono ?_; rintro e w1 ⟨v0, rfl, hr, hw⟩; obtain ⟨Av, cv, hv⟩ := Kd.R_slice hr; subst hv; have HR := Lib.hid hr; have HW := Lib.hid hw; clear hr hw)
          go_roundw
          case rel => exact ⟨j + 1, by go_num, hlt, acc, below_step HAB.out HW.out, blk_below HAX.out HW.out, Kd.R_below HAR.out HW.out, hF3.out⟩
          case measure => simp [intOf]; omega
        | false =>
          have hF3 : (putE kb x.f1 acc).bind (fun o => foldGo k l0_0 a0_1 a1 (l2.drop (j + 1)) o) = some out := by simpa using hF2
          clear hF2
          obtain ⟨acc', hput, hF4⟩ := Option.bind_eq_some_iff.mp hF3
          have HF := Lib.hid hF4
          clear hF3 hF4
          unfold putE at hput
          by_cases hg : acc.length < 1000 ∧ (∀ y ∈ acc, y.f0.all isB = true) ∧ kb.all isB = true
          case neg => rw [if_neg hg] at hput; cases hput
          rw [if_pos hg] at hput
          obtain ⟨hlen, hall, hkb⟩ := hg
          have HALL := Lib.hid hall; have HKB := Lib.hid hkb
          clear hall hkb
          obtain ⟨i, hi⟩ : ∃ i, i = placeE acc kb := ⟨_, rfl⟩
          obtain ⟨th, hth⟩ : ∃ th, th = thereE acc kb := ⟨_, rfl⟩
          rw [← hi, ← hth] at hput
          have hil : i ≤ acc.length := by rw [hi]; exact placeE_le_ acc kb
          have hS := fun (B : Option Addr) (d : Nat) (W : World) (h1 : Kd.C k51 W Ar acc.length acc) (h2 : Kd.C (Kd.int .u8) W B kb.length kb) (h3 : kb.length ≤ d) => search_ents 39 cmp_fold enter_fold Ar cr acc B d kb W h1 (by omega) h2 h3 HALL.out HKB.out
          rw [← hi, ← hth] at hS
          have HS := Lib.hid hS
          have HTH := Lib.hid hth; have HI := Lib.hid hi
          clear hS hth hi
          cases th with
          | false =>
            rw [if_neg (by simp)] at hput
            obtain rfl := Option.some.inj hput
            clear hput
            go_wp2_with (first
              | (go_at_call 38; refine (fold_at.calls k A0_0 c0_0 l0_0 a0_1 a1 A1 c1 x.f0 _ _ _ (Kd.C_below HG.out HAB.out) hc0_0 (Kd.C_below HIN.out HAB.out) hlc HAT.out).mono ?_; rintro e w1 ⟨v0, rfl, hr, hw⟩; obtain ⟨Av, cv, hv⟩ := Kd.R_slice hr; subst hv; have HR := Lib.hid hr; have HW := Lib.hid hw; have HRR := Lib.hid (Kd.R_below HAR.out hw); have HXX := Lib.hid (blk_below HXB.out hw); have HRN := Lib.hid (Kd.R_lower (Kd.R_new hr (Kd.R_own HAR.out).choose_spec) HAB.out.size); have HB1 := Lib.hid (below_step HAB.out hw); have HX1 := Lib.hid (blk_below HAX.out hw); clear hr hw)
              | (go_at_call 31; refine (HS.out Av cv w1 (Kd.R_reads' HRR.out).2.2 (Kd.R_reads' HR.out).2.2 (Kd.R_reads' HR.out).2.1).mono ?_; rintro e w2 ⟨rfl, hw2⟩; have HW2 := Lib.hid hw2; have HXX2 := Lib.hid (blk_below HXX.out hw2); have HRR2 := Lib.hid (Kd.R_below HRR.out hw2); have HRN2 := Lib.hid (Kd.R_below HRN.out hw2); have HB2 := Lib.hid (below_step HB1.out hw2); have HX2 := Lib.hid (blk_below HX1.out hw2); have hy1 := (blk_cell HXX2.out 1).trans (show _ = some (Value.int .u64 x.f1.f0) from rfl); have hy2 := (blk_cell HXX2.out 2).trans (show _ = some (Value.bool x.f1.f1) from rfl); have hy3 := (blk_cell HXX2.out 3).trans (show _ = some (Value.int .i64 x.f1.f2.f0) from rfl); have hy4 := (blk_cell HXX2.out 4).trans (show _ = some (Value.int .u64 x.f1.f2.f1) from rfl); have hy5 := (blk_cell HXX2.out 5).trans (show _ = some (Value.int .i64 x.f1.f3) from rfl); have hy6 := (blk_cell HXX2.out 6).trans (show _ = some (Value.int .i64 x.f1.f4) from rfl); clear hw2)
              | (go_at_call 34; refine (insert_row w2 w.heap.size (.slice Ar acc.length cr) acc i ⟨kb, x.f1⟩ [.slice Av kb.length cv, .int .u64 x.f1.f0, .bool x.f1.f1, .int .i64 x.f1.f2.f0, .int .u64 x.f1.f2.f1, .int .i64 x.f1.f3, .int .i64 x.f1.f4] _ HRR2.out (k51_mkM w2 w.heap.size _ ⟨kb, x.f1⟩ HRN2.out) (fun _ hk => hk.2) HB2.out.size (by omega) hil).mono ?_; rintro e w3 ⟨v3, rfl, hr3, hg3, hat3⟩; have HR3 := Lib.hid hr3; have HB3 := Lib.hid (HB2.out.grown hg3 HB2.out.size (own_base (Kd.R_own HRR2.out).choose_spec)); have HX3 := Lib.hid (blk_grown HX2.out hg3 (Kd.R_ne HRR2.out HX2.out (by decide))); clear hr3 hg3 hat3))
            go_roundw
            case rel => exact ⟨j + 1, by go_num, hlt, _, HB3.out, HX3.out, HR3.out, HF.out⟩
            case measure => simp [intOf]; omega
          | true =>
            rw [if_pos rfl] at hput
            have hil2 : i < acc.length := by
              have := HTH.out
              unfold thereE at this
              rw [← HI.out] at this
              simp only [Bool.true_eq, Bool.and_eq_true, decide_eq_true_eq] at this
              exact this.1
            obtain ⟨y, hy⟩ : ∃ y, y = rd_T51 acc (i : Nat) := ⟨_, rfl⟩
            rw [← hy] at hput
            by_cases hu : inU y.f1.f2.f1 ∧ inU x.f1.f2.f1
            case neg => rw [if_neg hu] at hput; cases hput
            rw [if_pos hu] at hput
            obtain rfl := Option.some.inj hput
            clear hput
            have HM : Hid (agg_Merge.f y.f1.f0 y.f1.f1 y.f1.f2.f0 y.f1.f2.f1 y.f1.f3 y.f1.f4 x.f1.f0 x.f1.f1 x.f1.f2.f0 x.f1.f2.f1 x.f1.f3 x.f1.f4 = some ((mergeA y.f1 x.f1).f0, (mergeA y.f1 x.f1).f1, (mergeA y.f1 x.f1).f2.f0, (mergeA y.f1 x.f1).f2.f1, (mergeA y.f1 x.f1).f3, (mergeA y.f1 x.f1).f4)) := Lib.hid (by unfold agg_Merge.f; rw [if_pos hu])
            clear hu
            generalize mergeA y.f1 x.f1 = m at HM HF
            have HY := Lib.hid hy
            clear hy
            have hw2' : IntKind.i64.wrap ((i : Int)) = (i : Int) := by rw [IntKind.wrap_i64]; omega
            go_upto_region 12 with (first
              | (go_at_call 38; refine (fold_at.calls k A0_0 c0_0 l0_0 a0_1 a1 A1 c1 x.f0 _ _ _ (Kd.C_below HG.out HAB.out) hc0_0 (Kd.C_below HIN.out HAB.out) hlc HAT.out).mono ?_; rintro e w1 ⟨v0, rfl, hr, hw⟩; obtain ⟨Av, cv, hv⟩ := Kd.R_slice hr; subst hv; have HR := Lib.hid hr; have HW := Lib.hid hw; have HRR := Lib.hid (Kd.R_below HAR.out hw); have HXX := Lib.hid (blk_below HXB.out hw); have HRN := Lib.hid (Kd.R_lower (Kd.R_new hr (Kd.R_own HAR.out).choose_spec) HAB.out.size); have HB1 := Lib.hid (below_step HAB.out hw); have HX1 := Lib.hid (blk_below HAX.out hw); clear hr hw)
              | (go_at_call 31; refine (HS.out Av cv w1 (Kd.R_reads' HRR.out).2.2 (Kd.R_reads' HR.out).2.2 (Kd.R_reads' HR.out).2.1).mono ?_; rintro e w2 ⟨rfl, hw2⟩; have HW2 := Lib.hid hw2; have HXX2 := Lib.hid (blk_below HXX.out hw2); have HRR2 := Lib.hid (Kd.R_below HRR.out hw2); have HRN2 := Lib.hid (Kd.R_below HRN.out hw2); have HB2 := Lib.hid (below_step HB1.out hw2); have HX2 := Lib.hid (blk_below HX1.out hw2); have hy1 := (blk_cell HXX2.out 1).trans (show _ = some (Value.int .u64 x.f1.f0) from rfl); have hy2 := (blk_cell HXX2.out 2).trans (show _ = some (Value.bool x.f1.f1) from rfl); have hy3 := (blk_cell HXX2.out 3).trans (show _ = some (Value.int .i64 x.f1.f2.f0) from rfl); have hy4 := (blk_cell HXX2.out 4).trans (show _ = some (Value.int .u64 x.f1.f2.f1) from rfl); have hy5 := (blk_cell HXX2.out 5).trans (show _ = some (Value.int .i64 x.f1.f3) from rfl); have hy6 := (blk_cell HXX2.out 6).trans (show _ = some (Value.int .i64 x.f1.f4) from rfl); clear hw2))
            obtain ⟨g, hgA, hgw⟩ : ∃ g, Ar = some ⟨g, 0, none⟩ ∧ ∃ cur, w2.heap[g]? = some (.cells cur 51 (0, 0)) := by
              rcases (Kd.R_own HRR2.out).choose_spec.2 with ⟨_, h0⟩ | ⟨g, cap, cur, hv, hb, hh, _⟩
              · omega
              · injection hv with h1 _ _
                exact ⟨g, h1, cur, hh⟩
            obtain ⟨ad, Ay, cy, ha, hz0, hz1, hz2, hz3, hz4, hz5, hz6, hlc2, hin2⟩ := at_T51 (Kd.R_reads' HRR2.out).2.2 (i : Int) (by omega) (by omega)
            subst ha
            have hadg : ad = ⟨g, 0, none⟩ := by injection hgA
            rw [← HY.out] at hz0 hz1 hz2 hz3 hz4 hz5 hz6 hlc2 hin2
            simp only [Int.toNat_natCast] at hz0 hz1 hz2 hz3 hz4 hz5 hz6
            have hblk : (ad.add (i * 7)).block = g := by rw [hadg, add_plain]
            have hlg : g < w2.heap.size := blk_lt hgw.choose_spec
            have hfz : ∀ (w3 : World), Below w2.heap.size w2 w3 → ∀ o, w3.frozen? ⟨(ad.add (i * 7)).block, o, none⟩ = false := fun w3 hb o => by
              rw [hblk]; exact blk_frozen (blk_below hgw.choose_spec hb) o
            have HFZ := Lib.hid hfz; have HADG := Lib.hid hadg; have HGW := Lib.hid hgw
            clear hfz hadg hgw hgA hblk
            go_region_with (go_at_call 18; refine (agg_Merge.calls y.f1.f0 y.f1.f1 y.f1.f2.f0 y.f1.f2.f1 y.f1.f3 y.f1.f4 x.f1.f0 x.f1.f1 x.f1.f2.f0 x.f1.f2.f1 x.f1.f3 x.f1.f4 _ _ _ _ _ _ _ HM.out).mono ?_; rintro e w3 ⟨rfl, hw3d⟩; have hw3 : Below w2.heap.size w2 w3 := ⟨hw3d.os, hw3d.tape, hw3d.output, hw3d.size, hw3d.block⟩; have HW3 := Lib.hid hw3; have hq1 := (hw3.cell (World.block_lt_of_cell? w2 _ hz1)).trans hz1; have hq2 := (hw3.cell (World.block_lt_of_cell? w2 _ hz2)).trans hz2; have hq3 := (hw3.cell (World.block_lt_of_cell? w2 _ hz3)).trans hz3; have hq4 := (hw3.cell (World.block_lt_of_cell? w2 _ hz4)).trans hz4; have hq5 := (hw3.cell (World.block_lt_of_cell? w2 _ hz5)).trans hz5; have hq6 := (hw3.cell (World.block_lt_of_cell? w2 _ hz6)).trans hz6; have hp1 := HFZ.out w3 hw3 ((ad.add (i * 7)).off + 1); have hp2 := HFZ.out w3 hw3 ((ad.add (i * 7)).off + 2); have hp3 := HFZ.out w3 hw3 ((ad.add (i * 7)).off + 3); have hp4 := HFZ.out w3 hw3 ((ad.add (i * 7)).off + 4); have hp5 := HFZ.out w3 hw3 ((ad.add (i * 7)).off + 5); have hp6 := HFZ.out w3 hw3 ((ad.add (i * 7)).off + 6); clear hw3 hw3d)
            all_goals
              have hrow := row_agg (Kd.R_below (v := .slice (some ⟨g, 0, none⟩) acc.length cr) (by have := HRR2.out; rw [HADG.out] at this; exact this) HW3.out) i hil2 m (ad.add (i * 7)) (by rw [HADG.out, add_plain])
              rw [← HADG.out] at hrow
              have HROW := Lib.hid hrow
              clear hrow hq1 hq2 hq3 hq4 hq5 hq6 hp1 hp2 hp3 hp4 hp5 hp6
              go_wp2_with (fail)
              go_roundw
              case rel => exact ⟨j + 1, by go_num, hlt, _, (below_step HB2.out HW3.out).grown HROW.out.2 (below_step HB2.out HW3.out).size (by intro k hk; injection hk with hk; have := own_base (Kd.R_own HRR2.out).choose_spec k; rw [HADG.out] at this; subst hk; exact this rfl), blk_grown (blk_below HX2.out HW3.out) HROW.out.2 (by have := Kd.R_ne HRR2.out HX2.out (by decide); rw [HADG.out] at this; exact this), HROW.out.1, by have := HY.out; rw [this] at HF; exact HF.out⟩
              case measure => simp [intOf]; omega
      · have e1 : decide ((j : Int) < (l2.length : Int)) = false := decide_eq_false (by omega)
        rw [List.drop_eq_nil_of_le (by omega)] at hF
        unfold foldGo at hF
        obtain rfl := Option.some.inj hF
        clear hF
        go_wp2
        rw [Exit.noGoto_ret]
        go_ret2
        exact ⟨_, rfl, HJR.out, HJB.out⟩
  · rw [if_neg hz] at h2
    simp only [Option.some.injEq, Prod.mk.injEq] at h2
    obtain ⟨rfl, rfl⟩ := h2
    have hz' : (e0 != 0) = true := bne_iff_ne.2 hz
    have hz'' : (e0 == 0) = false := beq_eq_false_iff_ne.2 hz
    clear h he0 hz
    go_enter Try.func16, Try.ntmps16
    go_wp2
    go_step3
    go_wp2_with (go_at_call 27; refine (fold_check.calls k A0_0 c0_0 l0_0 a0_1 a1 A2 c2 l2 _ _ (Kd.C_below HG.out HB0.out) hc0_0 (Kd.C_below HE.out HB0.out) hc2 HCK.out).mono ?_; rintro e w1 ⟨rfl, hb⟩; have HB1 := Lib.hid (below_step HB0.out hb); clear hb)
    rw [Exit.noGoto_ret]
    go_ret2
    exact ⟨_, rfl, Kd.R_nil _ _ _ _ _, HB1.out⟩
end Go.Proofs.Ytjemmmemenljbaa.PFold
end
section
namespace Go.Proofs.Ytjemmmemenljbaa.PFold
open Go.RowKit Go.Proofs.YtjemmmemenljbaaW.PrintWords Go.Proofs.YtjemmmemenljbaaW.PrintLast Go.Proofs.YtjemmmemenljbaaW.PrintMore
attribute [local go_sem] max2_int min2_int max_two min_two max_three min_three max_four min_four   -- for this text's walks alone
set_option linter.unusedVariables false
set_option linter.unusedSimpArgs false
set_option maxHeartbeats 8000000
set_option maxRecDepth 100000
def bytes_Equal.f (l0 : List Int) (l1 : List Int) : Option (Bool) := some ((strOfNums l0).toList == (strOfNums l1).toList)
theorem bytes_Equal.calls (A0 : Option Addr) (c0 : Nat) (l0 : List Int) (A1 : Option Addr) (c1 : Nat) (l1 : List Int) (r : Bool) (w : World) (hr0 : Kd.C (Kd.int .u8) w A0 l0.length l0) (hc0 : l0.length ≤ c0) (hr1 : Kd.C (Kd.int .u8) w A1 l1.length l1) (hc1 : l1.length ≤ c1) (h : bytes_Equal.f l0 l1 = some r) :
  Calls Try.prog 51 #[.slice A0 l0.length c0, .slice A1 l1.length c1] w fun e w' => e = .returned (.bool r) ∧ Drawn0 w w' := by
 have HR0 := Aside0.mk hr0
 have HC0 := Aside0.mk hc0
 clear hr0 hc0
 have HR1 := Aside0.mk hr1
 have HC1 := Aside0.mk hc1
 clear hr1 hc1
 have H : (some ((strOfNums l0).toList == (strOfNums l1).toList)) = some r := h
 clear h
 obtain rfl := Option.some.inj H
 have hcv3 := Kd.C_string (P := Try.prog) (A := A0) (c := c0) Try.underlying49 Try.underlying5 Try.underlying9 HR0.out
 have hcv4 := fun (n_ : Nat) => Kd.C_string (P := Try.prog) (A := A0) (c := c0) Try.underlying49 Try.underlying5 Try.underlying9 (Kd.C_drewN HR0.out n_)
 have hcv5 := Kd.C_string (P := Try.prog) (A := A1) (c := c1) Try.underlying49 Try.underlying5 Try.underlying9 HR1.out
 have hcv6 := fun (n_ : Nat) => Kd.C_string (P := Try.prog) (A := A1) (c := c1) Try.underlying49 Try.underlying5 Try.underlying9 (Kd.C_drewN HR1.out n_)
 go_enter Try.func51, Try.ntmps51
 go_wp2
 go_ret
 exact ⟨by first | rfl | (simp; done) | (simp [*]; done), by repeat (first | exact Drawn0.refl _ | apply Drawn0.step)⟩
end Go.Proofs.Ytjemmmemenljbaa.PFold
end
section
namespace Go.Proofs.Ytjemmmemenljbaa.PFold
open Go.RowKit Go.Proofs.YtjemmmemenljbaaW.PrintWords Go.Proofs.YtjemmmemenljbaaW.PrintLast Go.Proofs.YtjemmmemenljbaaW.PrintMore
set_option linter.unusedVariables false
set_option linter.unusedSimpArgs false
set_option maxHeartbeats 8000000
set_option maxRecDepth 100000
def eqE (y x : En) : Bool := (strOfNums y.f0).toList == (strOfNums x.f0).toList
def putM (x : En) (acc : List En) : Option (List En) :=
  if acc.length < 1000 then
    (if 0 < acc.length ∧ eqE (rd_T51 acc ((acc.length - 1 : Nat) : Int)) x = true then
      (if inU (rd_T51 acc ((acc.length - 1 : Nat) : Int)).f1.f2.f1 ∧ inU x.f1.f2.f1 then some (acc.set (acc.length - 1) ⟨(rd_T51 acc ((acc.length - 1 : Nat) : Int)).f0, mergeA (rd_T51 acc ((acc.length - 1 : Nat) : Int)).f1 x.f1⟩) else none)
    else some (acc ++ [x]))
  else none
def mrgGo : Nat → List Fr → List En → Option (List En)
  | 0, _, _ => none
  | _ + 1, [], acc => some acc
  | k + 1, f :: q, acc => match f.l.head? with
    | none => none
    | some x => (putM x acc).bind fun a => mrgGo k (nextFs f q) a
theorem R_FK {base : Nat} {ok : Nat → Prop} {W W' : World} {v : Value} {xs : List En} (h : Kd.R k51 51 W base ok v xs) (q : FK base W W') : Kd.R k51 51 W' base ok v xs :=
  Kd.R_mono (Kd.R_step (Kd.R_bound h) (fun k hk hlt => q.rest k hlt (fun cells => by
    obtain ⟨_, _, _, t, ht, cl, hc⟩ := hk
    rw [hc]
    constructor
    · intro e
      injection e with e
      injection e with _ e _
      subst e
      revert ht
      decide
    · intro e
      injection e with e
      injection e with _ e _
      subst e
      revert ht
      decide))) (fun _ hk => hk.1)
theorem sinkFs_len (fs : List Fr) : (sinkFs fs).length = fs.length := by
  unfold sinkFs
  split
  · split <;> rfl
  · rfl
theorem sinkFs_mem {fs : List Fr} {f : Fr} (h : f ∈ sinkFs fs) : f ∈ fs := by
  unfold sinkFs at h
  split at h
  · split at h
    · simp at h ⊢; exact h.symm
    · exact h
  · exact h
theorem nextFs_len (f : Fr) (q : List Fr) (hq : q.length ≤ 1) : (nextFs f q).length ≤ 2 := by
  unfold nextFs
  rw [sinkFs_len]
  split
  · simp; omega
  · omega
theorem nextFs_in {w : World} {f : Fr} {q : List Fr} (hm : ∀ x ∈ f :: q, FrIn w x) : ∀ x ∈ nextFs f q, FrIn w x := fun x hx => by
  have := sinkFs_mem hx
  split at this
  · rename_i hl
    rcases List.mem_cons.1 this with rfl | h
    · exact Fr.tail_in (hm f (by simp)) hl
    · exact hm x (List.mem_cons_of_mem _ h)
  · exact hm x (List.mem_cons_of_mem _ this)
theorem frontsOf_len (rs : List Fr) : (frontsOf rs).length ≤ rs.length := List.length_filter_le _ _
theorem frontsOf_in {w : World} {rs : List Fr} (hr : ∀ f ∈ rs, RowIn w f) : ∀ f ∈ frontsOf rs, FrIn w f := fun f hf => by
  unfold frontsOf at hf
  rw [List.mem_filter] at hf
  exact (hr f hf.1).fr (by simpa using hf.2)
theorem all_errs (gr : Nat) (rs : List Fr) (h2 : rs.length = 2) (hp : ∀ j (hj : j < rs.length), rs[j].p = (j : Int)) (w : World) (hg : w.heap[gr]? = some (.cells (rs.map Fr.v).toArray 28 (0, 0))) (hr : ∀ f ∈ rs, RowIn w f) (hz : firstE rs ≠ 0) :
    Calls Try.prog 25 #[.slice (some ⟨gr, 0, none⟩) 2 2] w fun e w' => e = .returned (.tuple #[.slice none 0 0, .int .i64 (firstE rs)]) ∧ Below w.heap.size w w' := by
  have HN := Lib.hid (new_calls gr rs h2 hp w hg hr)
  clear hg hr hp h2
  obtain ⟨z, hz'⟩ : ∃ z, z = firstE rs := ⟨_, rfl⟩
  rw [← hz'] at hz HN ⊢
  have e1 : (z != 0) = true := bne_iff_ne.2 hz
  clear hz'
  go_enter Try.func25, Try.ntmps25
  go_wp2_with (go_at_call 59; go_loud (refine HN.out.mono ?_; rintro e w1 ⟨hb, hc⟩; rw [if_neg hz] at hc; subst hc; have HB := Lib.hid hb; clear hb))
  go_ret2
  exact ⟨by rfl, HB.out⟩
theorem HpRow.grown {base h : Nat} {W W' : World} {fs : List Fr} (k : HpRow W base h fs) {row : Option Nat} (hg : W.grownBy W' row) (hrow : ∀ b, row = some b → ∃ cells, W.heap[b]? = some (.cells cells 51 (0, 0))) : HpRow W' base h fs := by
  obtain ⟨v, hv, ho⟩ := k
  have hne : some h ≠ row := fun e => by
    obtain ⟨cells, hc⟩ := hrow h e.symm
    rw [hv] at hc
    injection hc with hc
    injection hc with _ hc _
    revert hc
    decide
  refine ⟨v, blk_grown hv hg hne, own_other ho hg ?_⟩
  cases hr : row with
  | none => cases hvb : v.ownBlock with
    | none => exact .inl rfl
    | some b => exact .inr (by simp)
  | some b =>
    obtain ⟨cells, hc⟩ := hrow b hr
    exact .inr (fun e => own_ne ho hc (by decide) e.symm)
def AllRel (w : World) (h : Nat) (r : List En) (kq : Nat) (v : Value) (wr : World) : Prop :=
  ∃ fs acc, Below w.heap.size w wr ∧ HpRow wr w.heap.size h fs ∧ fs.length ≤ 2 ∧ (∀ f ∈ fs, FrIn w f) ∧ Kd.R k51 51 wr w.heap.size (fun _ => True) v acc ∧ mrgGo kq fs acc = some r
theorem all_calls (k gr : Nat) (rs : List Fr) (r : List En) (h2 : rs.length = 2) (hp : ∀ j (hj : j < rs.length), rs[j].p = (j : Int)) (w : World) (hg : w.heap[gr]? = some (.cells (rs.map Fr.v).toArray 28 (0, 0))) (hr : ∀ f ∈ rs, RowIn w f) (hz : firstE rs = 0) (hgo : mrgGo k (sinkFs (frontsOf rs)) [] = some r) :
    Calls Try.prog 25 #[.slice (some ⟨gr, 0, none⟩) 2 2] w fun e w' => ∃ v, e = .returned (.tuple #[v, .int .i64 0]) ∧ Kd.R k51 51 w' w.heap.size (fun _ => True) v r ∧ Below w.heap.size w w' := by
  have HN := Lib.hid (new_calls gr rs h2 hp w hg hr)
  have HFL := Lib.hid (show (sinkFs (frontsOf rs)).length ≤ 2 by rw [sinkFs_len]; have := frontsOf_len rs; omega)
  have HFI := Lib.hid (show ∀ f ∈ sinkFs (frontsOf rs), FrIn w f from fun f hf => frontsOf_in hr f (sinkFs_mem hf))
  have HGO := Lib.hid hgo
  clear hg hr hp h2 hgo
  go_enter Try.func25, Try.ntmps25
  go_wp2_with (go_at_call 59; go_loud (refine HN.out.mono ?_; rintro e w1 ⟨hb, hc⟩; rw [if_pos hz] at hc; obtain ⟨h, rfl, hh, hhp⟩ := hc; have HB1 := Lib.hid hb; have HH1 := Lib.hid hhp; have HH := Lib.hid hh; clear hb hh hhp))
  go_loopg [6] k (fun kq v6 wr => AllRel w h r kq v6 wr)
  case atStart => exact ⟨_, [], HB1.out, HH1.out, HFL.out, HFI.out, Kd.R_nil _ _ _ _ _, HGO.out⟩
  case round =>
    obtain ⟨fs, acc, hB, hH, hl, hin, hR, hG⟩ := hrel
    clear HB1 HH1 HGO HFL HFI
    obtain ⟨Av, cv, rfl⟩ := Kd.R_slice hR
    have HB := Lib.hid hB; have HHP := Lib.hid hH; have HIN := Lib.hid hin; have HR := Lib.hid hR; have HG := Lib.hid hG
    clear hB hH hin hR hG
    cases gk with
    | zero => exact absurd HG.out (by simp [mrgGo])
    | succ k1 =>
      cases fs with
      | nil =>
        have hacc : acc = r := by simpa [mrgGo] using HG.out
        subst hacc
        go_wp2_with (go_at_call 60; go_loud (refine (next_none w.heap.size h _ HHP.out).mono ?_; rintro e w2 ⟨rfl, hb⟩; have HB2 := Lib.hid (below_step HB.out hb); have HR2 := Lib.hid (Kd.R_below HR.out hb); clear hb))
        go_ret2
        exact ⟨_, rfl, Kd.R_alloc HR2.out _, HB2.out.alloc HB2.out.size _⟩
      | cons f q =>
        have hq1 : q.length ≤ 1 := by simp at hl; omega
        have F := HIN.out f (by simp)
        obtain ⟨x, hx⟩ : ∃ x, f.l.head? = some x := ⟨_, List.head?_eq_getElem?.trans (List.getElem?_eq_getElem F.pos)⟩
        have hG := HG.out
        unfold mrgGo at hG
        rw [hx] at hG
        obtain ⟨acc2, hput, hG2⟩ := Option.bind_eq_some_iff.mp hG
        have HG2 := Lib.hid hG2; have HX := Lib.hid hx
        have HNI := Lib.hid (nextFs_in (w := w) HIN.out)
        clear hG hG2 hx F hl
        unfold putM at hput
        by_cases hlen : acc.length < 1000
        case neg => rw [if_neg hlen] at hput; cases hput
        rw [if_pos hlen] at hput
        have e1 : decide ((0 : Int) < (acc.length : Int)) = decide (0 < acc.length) := by
          by_cases h0 : 0 < acc.length
          · rw [decide_eq_true h0]; exact decide_eq_true (by omega)
          · rw [decide_eq_false h0]; exact decide_eq_false (by omega)
        go_wp2_with (go_at_call 60; go_loud (refine (next_some w h f q hq1 _ HB.out HHP.out HIN.out HH.out).mono ?_; rintro e w2 ⟨vk, x2, rfl, hx2, hkr, hfk, hhp⟩; obtain rfl : x = x2 := Option.some.inj (HX.out.symm.trans hx2); obtain ⟨Avk, cvk, evk⟩ := Kd.R_slice hkr; subst evk; have HB2 := Lib.hid (HB.out.trans hfk.low); have HR2 := Lib.hid (R_FK HR.out hfk); have HH2 := Lib.hid hhp; have HK2 := Lib.hid (Kd.R_lower (Kd.R_new hkr (Kd.R_own HR.out).choose_spec) HB.out.size); clear hkr hfk hhp hx2))
        have HB3 := Lib.hid (HB2.out.alloc HB2.out.size (.cells #[.slice Avk x.f0.length cvk, .int .u64 x.f1.f0, .bool x.f1.f1, .int .i64 x.f1.f2.f0, .int .u64 x.f1.f2.f1, .int .i64 x.f1.f3, .int .i64 x.f1.f4] 51 (0, 0)))
        have HR3 := Lib.hid (Kd.R_alloc HR2.out (.cells #[.slice Avk x.f0.length cvk, .int .u64 x.f1.f0, .bool x.f1.f1, .int .i64 x.f1.f2.f0, .int .u64 x.f1.f2.f1, .int .i64 x.f1.f3, .int .i64 x.f1.f4] 51 (0, 0)))
        have HK3 := Lib.hid (Kd.R_alloc HK2.out (.cells #[.slice Avk x.f0.length cvk, .int .u64 x.f1.f0, .bool x.f1.f1, .int .i64 x.f1.f2.f0, .int .u64 x.f1.f2.f1, .int .i64 x.f1.f3, .int .i64 x.f1.f4] 51 (0, 0)))
        have HH3 := Lib.hid (HH2.out.below ((Below.refl _ _).alloc (Nat.le_refl _) (.cells #[.slice Avk x.f0.length cvk, .int .u64 x.f1.f0, .bool x.f1.f1, .int .i64 x.f1.f2.f0, .int .u64 x.f1.f2.f1, .int .i64 x.f1.f3, .int .i64 x.f1.f4] 51 (0, 0))))
        have hx3 := blk_new w2 (.cells #[.slice Avk x.f0.length cvk, .int .u64 x.f1.f0, .bool x.f1.f1, .int .i64 x.f1.f2.f0, .int .u64 x.f1.f2.f1, .int .i64 x.f1.f3, .int .i64 x.f1.f4] 51 (0, 0))
        generalize w2.alloc (.cells #[.slice Avk x.f0.length cvk, .int .u64 x.f1.f0, .bool x.f1.f1, .int .i64 x.f1.f2.f0, .int .u64 x.f1.f2.f1, .int .i64 x.f1.f3, .int .i64 x.f1.f4] 51 (0, 0)) = w3 at HB3 HR3 HK3 HH3 hx3 ⊢
        obtain ⟨bx, hbx⟩ : ∃ bx, bx = w2.heap.size := ⟨_, rfl⟩
        rw [← hbx] at hx3 ⊢
        have HX3 := Lib.hid hx3
        have hb0 := (blk_cell hx3 0).trans (show _ = some (Value.slice Avk x.f0.length cvk) from rfl)
        have hb1 := (blk_cell hx3 1).trans (show _ = some (Value.int .u64 x.f1.f0) from rfl)
        have hb2 := (blk_cell hx3 2).trans (show _ = some (Value.bool x.f1.f1) from rfl)
        have hb3 := (blk_cell hx3 3).trans (show _ = some (Value.int .i64 x.f1.f2.f0) from rfl)
        have hb4 := (blk_cell hx3 4).trans (show _ = some (Value.int .u64 x.f1.f2.f1) from rfl)
        have hb5 := (blk_cell hx3 5).trans (show _ = some (Value.int .i64 x.f1.f3) from rfl)
        have hb6 := (blk_cell hx3 6).trans (show _ = some (Value.int .i64 x.f1.f4) from rfl)
        clear hx3 HB2 HR2 HH2 HK2 HHP HR HB hbx
        by_cases h0 : 0 < acc.length
        case neg =>
          rw [if_neg (fun hc => h0 hc.1)] at hput
          obtain rfl := Option.some.inj hput
          have e2 : decide ((0 : Int) < (acc.length : Int)) = false := decide_eq_false (by omega)
          clear e1 hput
          go_wp2
          go_quiet (fail)
          go_wp2_with ((with_reducible refine gate_builtin (b := .append) (xs := #[.tmp 57, .tmp 59]) rfl ?_); at_builtin; go_loud (refine Kd.R_append k51 (w0 := w) w.heap.size rfl (.tmp 57) (.tmp 59) 28 51 (.agg #[.slice none 0 0, .int .u64 0, .bool false, .int .i64 0, .int .u64 0, .int .i64 0, .int .i64 0]) 72 rfl Try.underlying28 info51 rfl (by decide) (by decide) (.slice Av acc.length cv) acc x [.slice Avk x.f0.length cvk, .int .u64 x.f1.f0, .bool x.f1.f1, .int .i64 x.f1.f2.f0, .int .u64 x.f1.f2.f1, .int .i64 x.f1.f3, .int .i64 x.f1.f4] (fun _ => True) (fun k => True ∧ some k ≠ (Value.slice Av acc.length cv).ownBlock) rfl rfl (k51_mkM _ _ _ x (Kd.R_drewN HK3.out _)) (fun _ hk => hk) (fun _ _ => trivial) (Kd.R_drewN HR3.out _) (pw_below_drewN HB3.out _) HB3.out.size (by omega) ?_; intro v1 w4 ho4 hb4 hg4 _; have HR4 := Lib.hid ho4; have HB4 := Lib.hid hb4; have HH4 := Lib.hid ((HH3.out.below (pw_below_drewN (Below.refl _ _) _)).grown hg4 (fun b hb => own_typed (Kd.R_own (Kd.R_drewN HR3.out _)).choose_spec b hb)); clear ho4 hb4 hg4))
          go_roundg k1
          case measure => omega
          case rel => exact ⟨nextFs f q, acc ++ [x], HB4.out, HH4.out, nextFs_len f q hq1, HNI.out, HR4.out, HG2.out⟩
        have e2 : decide ((0 : Int) < (acc.length : Int)) = true := decide_eq_true (by omega)
        clear e1
        obtain ⟨i, hi⟩ : ∃ i, i = acc.length - 1 := ⟨_, rfl⟩
        rw [← hi] at hput
        have hil : i < acc.length := by omega
        have ew : IntKind.i64.wrap ((acc.length : Int) - 1) = (i : Int) := by rw [IntKind.wrap_i64] <;> omega
        have e3 : decide ((0 : Int) ≤ (i : Int)) = true := decide_eq_true (by omega)
        have e4 : decide ((i : Int) < (acc.length : Int)) = true := decide_eq_true (by omega)
        have e3b := eq_true (of_decide_eq_true e3); have e4b := eq_true (of_decide_eq_true e4)
        clear hi
        obtain ⟨g, hgA, hgw⟩ : ∃ g, Av = some ⟨g, 0, none⟩ ∧ ∃ cur, w3.heap[g]? = some (.cells cur 51 (0, 0)) := by
          rcases (Kd.R_own HR3.out).choose_spec.2 with ⟨_, hq⟩ | ⟨g, cap, cur, hv, hb, hh, _⟩
          · omega
          · injection hv with h1 _ _
            exact ⟨g, h1, cur, hh⟩
        obtain ⟨ad, Ay, cy, ha, hz0, hz1, hz2, hz3, hz4, hz5, hz6, hlcy, hiny⟩ := at_T51 (Kd.R_reads' HR3.out).2.2 (i : Int) (by omega) (by omega)
        subst ha
        have hadg : ad = ⟨g, 0, none⟩ := by injection hgA
        obtain ⟨y, hy⟩ : ∃ y, y = rd_T51 acc (i : Nat) := ⟨_, rfl⟩
        rw [← hy] at hz0 hz1 hz2 hz3 hz4 hz5 hz6 hlcy hiny hput
        simp only [Int.toNat_natCast] at hz0 hz1 hz2 hz3 hz4 hz5 hz6
        have hblk : (ad.add (i * 7)).block = g := by rw [hadg, add_plain]
        have hfz : ∀ (w5 : World), Below w3.heap.size w3 w5 → ∀ o, w5.frozen? ⟨(ad.add (i * 7)).block, o, none⟩ = false := fun w5 hb o => by
          rw [hblk]; exact blk_frozen (blk_below hgw.choose_spec hb) o
        have HFZ := Lib.hid hfz; have HADG := Lib.hid hadg; have HGW := Lib.hid hgw; have HIY := Lib.hid hiny; have HY := Lib.hid hy
        clear hfz hadg hgw hgA hblk hiny hy
        by_cases he : eqE y x = true
        case neg =>
          rw [if_neg (fun hc => he hc.2)] at hput
          obtain rfl := Option.some.inj hput
          have e9 : ((strOfNums y.f0).toList == (strOfNums x.f0).toList) = false := Bool.eq_false_iff.2 he
          clear hput he
          go_wp2
          go_quiet ((go_at_call 51; refine (bytes_Equal.calls Ay cy y.f0 Avk cvk x.f0 _ _ (Kd.C_drewN HIY.out _) hlcy (Kd.C_drewN (Kd.R_reads' HK3.out).2.2 _) (Kd.R_reads' HK3.out).2.1 rfl).mono ?_; rintro e w' ⟨rfl, ⟨nd, rfl⟩⟩; (try first | exact ⟨rfl, _, World.drewN_drewN _ _ _⟩ | exact ⟨rfl, _, Eq.trans (World.drewN_drewN _ _ _) (congrArg (World.drewN _) (Nat.add_assoc _ _ _))⟩)))
          go_wp2_with ((with_reducible refine gate_builtin (b := .append) (xs := #[.tmp 57, .tmp 59]) rfl ?_); at_builtin; go_loud (refine Kd.R_append k51 (w0 := w) w.heap.size rfl (.tmp 57) (.tmp 59) 28 51 (.agg #[.slice none 0 0, .int .u64 0, .bool false, .int .i64 0, .int .u64 0, .int .i64 0, .int .i64 0]) 72 rfl Try.underlying28 info51 rfl (by decide) (by decide) (.slice (some ad) acc.length cv) acc x [.slice Avk x.f0.length cvk, .int .u64 x.f1.f0, .bool x.f1.f1, .int .i64 x.f1.f2.f0, .int .u64 x.f1.f2.f1, .int .i64 x.f1.f3, .int .i64 x.f1.f4] (fun _ => True) (fun k => True ∧ some k ≠ (Value.slice (some ad) acc.length cv).ownBlock) rfl rfl (k51_mkM _ _ _ x (Kd.R_drewN HK3.out _)) (fun _ hk => hk) (fun _ _ => trivial) (Kd.R_drewN HR3.out _) (pw_below_drewN HB3.out _) HB3.out.size (by omega) ?_; intro v1 w4 ho4 hb4 hg4 _; have HR4 := Lib.hid ho4; have HB4 := Lib.hid hb4; have HH4 := Lib.hid ((HH3.out.below (pw_below_drewN (Below.refl _ _) _)).grown hg4 (fun b hb => own_typed (Kd.R_own (Kd.R_drewN HR3.out _)).choose_spec b hb)); clear ho4 hb4 hg4))
          go_roundg k1
          case measure => omega
          case rel => exact ⟨nextFs f q, acc ++ [x], HB4.out, HH4.out, nextFs_len f q hq1, HNI.out, HR4.out, HG2.out⟩
        rw [if_pos ⟨h0, he⟩] at hput
        have e9 : ((strOfNums y.f0).toList == (strOfNums x.f0).toList) = true := he
        by_cases hu : inU y.f1.f2.f1 ∧ inU x.f1.f2.f1
        case neg => rw [if_neg hu] at hput; cases hput
        rw [if_pos hu] at hput
        obtain rfl := Option.some.inj hput
        have HM : Hid (agg_Merge.f y.f1.f0 y.f1.f1 y.f1.f2.f0 y.f1.f2.f1 y.f1.f3 y.f1.f4 x.f1.f0 x.f1.f1 x.f1.f2.f0 x.f1.f2.f1 x.f1.f3 x.f1.f4 = some ((mergeA y.f1 x.f1).f0, (mergeA y.f1 x.f1).f1, (mergeA y.f1 x.f1).f2.f0, (mergeA y.f1 x.f1).f2.f1, (mergeA y.f1 x.f1).f3, (mergeA y.f1 x.f1).f4)) := Lib.hid (by unfold agg_Merge.f; rw [if_pos hu])
        clear hu hput he
        generalize mergeA y.f1 x.f1 = m at HM HG2
        go_wp2
        go_quiet ((go_at_call 51; refine (bytes_Equal.calls Ay cy y.f0 Avk cvk x.f0 _ _ (Kd.C_drewN HIY.out _) hlcy (Kd.C_drewN (Kd.R_reads' HK3.out).2.2 _) (Kd.R_reads' HK3.out).2.1 rfl).mono ?_; rintro e w' ⟨rfl, ⟨nd, rfl⟩⟩; (try first | exact ⟨rfl, _, World.drewN_drewN _ _ _⟩ | exact ⟨rfl, _, Eq.trans (World.drewN_drewN _ _ _) (congrArg (World.drewN _) (Nat.add_assoc _ _ _))⟩)))
        go_wp2
        go_region_with (go_at_call 18; go_loud (refine (agg_Merge.calls y.f1.f0 y.f1.f1 y.f1.f2.f0 y.f1.f2.f1 y.f1.f3 y.f1.f4 x.f1.f0 x.f1.f1 x.f1.f2.f0 x.f1.f2.f1 x.f1.f3 x.f1.f4 _ _ _ _ _ _ _ HM.out).mono ?_; rintro e w5 ⟨rfl, hw5d⟩; have hw5 : Below w3.heap.size w3 w5 := ⟨hw5d.os, hw5d.tape, hw5d.output, hw5d.size, hw5d.block⟩; have HW5 := Lib.hid hw5; have hq1 := (hw5.cell (World.block_lt_of_cell? w3 _ hz1)).trans hz1; have hq2 := (hw5.cell (World.block_lt_of_cell? w3 _ hz2)).trans hz2; have hq3 := (hw5.cell (World.block_lt_of_cell? w3 _ hz3)).trans hz3; have hq4 := (hw5.cell (World.block_lt_of_cell? w3 _ hz4)).trans hz4; have hq5 := (hw5.cell (World.block_lt_of_cell? w3 _ hz5)).trans hz5; have hq6 := (hw5.cell (World.block_lt_of_cell? w3 _ hz6)).trans hz6; have hp1 := HFZ.out w5 hw5 ((ad.add (i * 7)).off + 1); have hp2 := HFZ.out w5 hw5 ((ad.add (i * 7)).off + 2); have hp3 := HFZ.out w5 hw5 ((ad.add (i * 7)).off + 3); have hp4 := HFZ.out w5 hw5 ((ad.add (i * 7)).off + 4); have hp5 := HFZ.out w5 hw5 ((ad.add (i * 7)).off + 5); have hp6 := HFZ.out w5 hw5 ((ad.add (i * 7)).off + 6); clear hw5 hw5d))
        all_goals
          have hrow := row_agg (Kd.R_below (v := .slice (some ⟨g, 0, none⟩) acc.length cv) (by have := HR3.out; rw [HADG.out] at this; exact this) HW5.out) i hil m (ad.add (i * 7)) (by rw [HADG.out, add_plain])
          rw [← HADG.out] at hrow
          have HROW := Lib.hid hrow
          clear hrow hq1 hq2 hq3 hq4 hq5 hq6 hp1 hp2 hp3 hp4 hp5 hp6
          go_wp2_with (fail)
          go_roundg k1
          case measure => omega
          case rel => exact ⟨nextFs f q, _, (below_step HB3.out HW5.out).grown HROW.out.2 (below_step HB3.out HW5.out).size (by intro k hk; injection hk with hk; have := own_base (Kd.R_own HR3.out).choose_spec k; rw [HADG.out] at this; subst hk; exact this rfl), (HH3.out.below HW5.out).grown HROW.out.2 (fun b hb => by injection hb with hb; subst hb; exact ⟨_, blk_below HGW.out.choose_spec HW5.out⟩), nextFs_len f q hq1, HNI.out, HROW.out.1, by have := HY.out; rw [this] at HG2; exact HG2.out⟩
end Go.Proofs.Ytjemmmemenljbaa.PFold
end
section
namespace Go.Proofs.Ytjemmmemenljbaa.PFold
open Go.RowKit Go.Proofs.YtjemmmemenljbaaW.PrintWords Go.Proofs.YtjemmmemenljbaaW.PrintLast Go.Proofs.YtjemmmemenljbaaW.PrintMore
attribute [local go_sem] max2_int min2_int max_two min_two max_three min_three max_four min_four   -- for this text's walks alone
set_option linter.unusedVariables false
set_option linter.unusedSimpArgs false
set_option maxHeartbeats 8000000
set_option maxRecDepth 100000
def wide_Of.f (a0 : Int) : Option (Int × Int) := some (a0 / 9223372036854775808, IntKind.u64.wrap (a0))
theorem wide_Of.calls (a0 : Int) (r1 : Int) (r2 : Int) (w : World) (h : wide_Of.f a0 = some (r1, r2)) :
  Calls Try.prog 46 #[.int .i64 a0] w fun e w' => e = .returned (.agg #[.int .i64 r1, .int .u64 r2]) ∧ Below w.heap.size w w' := by
 have hu39 := Try.underlying39
 have HB := Aside0.mk (Below.refl w.heap.size w)
 have H : (some (a0 / 9223372036854775808, IntKind.u64.wrap (a0))) = some (r1, r2) := h
 clear h
 simp only [Option.some.injEq, Prod.mk.injEq] at H
 obtain ⟨rfl, rfl⟩ := H
 go_enter Try.func46, Try.ntmps46
 go_wp2_with (first | ((with_reducible refine gate_dst (N := 2) rfl ?_); refine boxA 2 #[.int .i64 0, .int .u64 0] 39 ?_; intro gb230 hg w2 hbox hb; have BK230 := Aside0.mk (hbox); have GE230 := ge1 hg (belA HB.out); replace HB := bst HB hb; clear hb hbox hg; obtain ⟨hcz3_0, hcz3_1, hfz3_0, hfz3_1⟩ := blk2 BK230))
 refine bodyPost_ret (results_cell_row rfl _ _ gb230 39 #[.int .i64 (a0 / 9223372036854775808), .int .u64 (IntKind.u64.wrap (a0))] (0, 0) _ rfl (putA BK230.out) Try.underlying39 rfl (by kernel_rfl)) rfl ?_
 exact ⟨ret1, belB HB.out GE230.out⟩
def agg_One.f (a0 : Int) : Option (Int × Bool × Int × Int × Int × Int) := (wide_Of.f a0).bind fun bt232 => (some (1, false, bt232.1, bt232.2, a0, a0))
theorem agg_One.calls (a0 : Int) (r1 : Int) (r2 : Bool) (r3 : Int) (r4 : Int) (r5 : Int) (r6 : Int) (w : World) (h : agg_One.f a0 = some (r1, r2, r3, r4, r5, r6)) :
  Calls Try.prog 19 #[.int .i64 a0] w fun e w' => e = .returned (.agg #[.int .u64 r1, .bool r2, .int .i64 r3, .int .u64 r4, .int .i64 r5, .int .i64 r6]) ∧ Below w.heap.size w w' := by
 have hu41 := Try.underlying41
 have HB := Aside0.mk (Below.refl w.heap.size w)
 have H : ((wide_Of.f a0).bind fun bt232 => (some (1, false, bt232.1, bt232.2, a0, a0))) = some (r1, r2, r3, r4, r5, r6) := h
 clear h
 replace H := bnA H
 obtain ⟨⟨t232, t233⟩, A2, H⟩ := H
 replace H : (some (1, false, t232, t233, a0, a0)) = some (r1, r2, r3, r4, r5, r6) := H
 simp only [Option.some.injEq, Prod.mk.injEq] at H
 obtain ⟨rfl, rfl, rfl, rfl, rfl, rfl⟩ := H
 go_enter Try.func19, Try.ntmps19
 go_wp2_with (first | ((with_reducible refine gate_dst (N := 2) rfl ?_); refine boxA 2 #[.int .u64 0, .bool false, .int .i64 0, .int .u64 0, .int .i64 0, .int .i64 0] 41 ?_; intro gb231 hg w3 hbox hb; have BK231 := Aside0.mk (hbox); have GE231 := ge1 hg (belA HB.out); replace HB := bst HB hb; clear hb hbox hg) | ((with_reducible refine gate_callee (f := 46) rfl ?_); refine goesL_ (some 4) rfl rfl Try.func46 (by kernel_rfl) rfl #[.int .i64 a0] rfl argA ?_; (with_reducible refine (wide_Of.calls a0 t232 t233 _ A2.out).mono ?_); rintro e w4 ⟨rfl, hb⟩; refine ⟨_, rfl, ?_⟩; replace BK231 := blkB BK231 hb; replace HB := bs2 HB GE231 hb; (try clear hb); obtain ⟨hcz5_0, hcz5_1, hcz5_2, hcz5_3, hcz5_4, hcz5_5, hfz5_0, hfz5_1, hfz5_2, hfz5_3, hfz5_4, hfz5_5⟩ := blk6 BK231))
 refine bodyPost_ret (results_cell_row rfl _ _ gb231 41 #[.int .u64 1, .bool false, .int .i64 t232, .int .u64 t233, .int .i64 a0, .int .i64 a0] (0, 0) _ rfl (putA BK231.out) Try.underlying41 rfl (by kernel_rfl)) rfl ?_
 exact ⟨ret1, belB HB.out GE231.out⟩
def rickyardlaw15_Rules.f  : Option ((List (S67)) × Int) := some ((([(⟨1, 0⟩ : S67), (⟨10, 20⟩ : S67)] : List (S67))), 100)
theorem rickyardlaw15_Rules.calls  (r1 : List (S67)) (r2 : Int) (w : World) (h : rickyardlaw15_Rules.f  = some (r1, r2)) :
  Calls Try.prog 26 #[] w fun e w' => ∃ v0_ : Value, e = .returned (.agg #[v0_, .int .i64 r2]) ∧ Kd.R k67 67 w' w.heap.size (fun _ => True) v0_ r1 ∧ Below w.heap.size w w' := by
 have hu24 := Try.underlying24
 have hu67 := Try.underlying67
 have HB := Aside0.mk (Below.refl w.heap.size w)
 have H : (some ((([(⟨1, 0⟩ : S67), (⟨10, 20⟩ : S67)] : List (S67))), 100)) = some (r1, r2) := h
 clear h
 obtain ⟨y235, hy235⟩ : ∃ y_ : List (S67), y_ = (([(⟨1, 0⟩ : S67), (⟨10, 20⟩ : S67)] : List (S67))) := ⟨_, rfl⟩
 replace H : (some (y235, 100)) = some (r1, r2) := nmA hy235 H
 have Ny235 := Aside0.mk hy235
 clear hy235
 simp only [Option.some.injEq, Prod.mk.injEq] at H
 obtain ⟨rfl, rfl⟩ := H
 go_enter Try.func26, Try.ntmps26
 go_wp2_with (first | ((with_reducible refine gate_dst (N := 0) rfl ?_); refine boxA 0 #[.slice none 0 0, .int .i64 0] 24 ?_; intro gb234 hg w1 hbox hb; have BK234 := Aside0.mk (hbox); have GE234 := ge1 hg (belA HB.out); replace HB := bst HB hb; clear hb hbox hg) | ((with_reducible refine gate_dst (N := 3) rfl ?_); refine Kd.R_lit k67 _ 67 ?hg (N := 3) ?hd (xs := ([(⟨1, 0⟩ : S67), (⟨10, 20⟩ : S67)] : List (S67))) (inner := [.int .i64 1, .int .i64 0, .int .i64 10, .int .i64 20]) (ok := fun _ => True) (okp := fun _ => True) ?hr ?hp (fun _ hk => hk) trivial (Below.refl _ _) (Nat.le_refl _) (by simp) ?_; (case hd => rfl); (case hg => rfl); (case hr => first | (go_simp; done) | (go_simp; rfl)); (case hp => exact (Reps.c2 (show Kd.M k67 _ _ _ (⟨1, 0⟩ : S67) [.int .i64 1, .int .i64 0] from (k67_mkM _ _ _ (⟨1, 0⟩ : S67) )) (Reps.c2 (show Kd.M k67 _ _ _ (⟨10, 20⟩ : S67) [.int .i64 10, .int .i64 20] from (k67_mkM _ _ _ (⟨10, 20⟩ : S67) )) (Reps.none _ _)))); intro v236 w2 ho3 hb hg_ hnew_; clear hg_ hnew_; (first | rw [← Ny235.out] at ho3 | (simp only [Int.reduceToNat] at ho3; rw [← Ny235.out] at ho3)); have HO237 := Aside0.mk (Kd.R_lower ho3 (below_size (belB HB.out GE234.out))); replace BK234 := blkB BK234 hb; replace HB := bs2 HB GE234 hb; clear hb ho3; obtain ⟨Ao4, co4, eo4⟩ := Kd.R_slice HO237.out; subst eo4; obtain ⟨hcz5_0, hcz5_1, hfz5_0, hfz5_1⟩ := blk2 BK234))
 refine bodyPost_ret (results_cell_row rfl _ _ gb234 24 #[.slice Ao4 y235.length co4, .int .i64 100] (0, 0) _ rfl (putA BK234.out) Try.underlying24 rfl (by kernel_rfl)) rfl ?_
 exact ⟨_, ret1, by (with_reducible repeat (first | apply Kd.R_alloc | apply Kd.R_drewN | apply Kd.R_drew)); exact Kd.R_mono (Kd.R_far (p := ⟨gb234, 1, none⟩) (Kd.R_far (p := ⟨gb234, 0, none⟩) (Kd.R_types HO237.out BK234.out (by decide)) (fun _ hk => hk.2) (.slice Ao4 y235.length co4)) (fun _ hk => hk.2) (.int .i64 100)) (fun _ hk => trivial), belB HB.out GE234.out⟩
end Go.Proofs.Ytjemmmemenljbaa.PFold
end
