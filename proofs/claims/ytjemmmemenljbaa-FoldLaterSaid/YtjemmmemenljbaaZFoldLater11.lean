import Derived.Test.YtjemmmemenljbaaZFoldLater02
import Derived.Test.YtjemmmemenljbaaZFoldLater04
import Derived.Test.YtjemmmemenljbaaZFoldLater07
import Derived.Test.YtjemmmemenljbaaZFoldLater09
import Derived.Test.YtjemmmemenljbaaZFoldLater10
import Derived.Deep.RegionWith
section
namespace Go.Proofs.Ytjemmmemenljbaa.PFold
open Go.RowKit Go.Proofs.YtjemmmemenljbaaW.PrintWords Go.Proofs.YtjemmmemenljbaaW.PrintLast Go.Proofs.YtjemmmemenljbaaW.PrintMore
def putE (b : List Int) (a : Ag) (out : List En) : Option (List En) :=
  if out.length < 1000 ∧ (∀ y ∈ out, y.f0.all isB = true) ∧ b.all isB = true then
    (if thereE out b = true then
      (if inU (rd_T51 out (placeE out b : Nat)).f1.f2.f1 ∧ inU a.f2.f1 then some (out.set (placeE out b) ⟨(rd_T51 out (placeE out b : Nat)).f0, mergeA (rd_T51 out (placeE out b : Nat)).f1 a⟩) else none)
    else some (out.take (placeE out b) ++ [⟨b, a⟩] ++ out.drop (placeE out b)))
  else none
def foldGo (k : Nat) (g : List Gr) (keep wm : Int) : List En → List En → Option (List En)
  | [], out => some out
  | x :: r, out => (fold_at.f k g keep wm x.f0).bind fun p => if p.2 = true then foldGo k g keep wm r out else (putE p.1 x.f1 out).bind fun o => foldGo k g keep wm r o
def fold_Fold.f (k : Nat) (g : List Gr) (keep wm : Int) (l : List En) : Option (List En × Int) :=
  (fold_check.f k g keep wm l).bind fun e => if e = 0 then (foldGo k g keep wm l []).bind fun out => some (out, 0) else some ([], e)
theorem placeE_le_ (l : List En) (b : List Int) : placeE l b ≤ l.length := (bsF_le l b l.length 0 l.length (Nat.zero_le _)).1
theorem enter_fold (args : Array Value) (w : World) : (callFunc 39 args).run Try.prog w = .ok (.enter 39 args) w := enters_ Try.func39 (by kernel_rfl) (by kernel_rfl) args w
theorem row_agg {W : World} {base g cap : Nat} {xs : List En} (h : Kd.R k51 51 W base (fun _ => True) (.slice (some ⟨g, 0, none⟩) xs.length cap) xs) (i : Nat) (hi : i < xs.length) (m : Ag) (ad : Addr) (had : ad = ⟨g, i * 7, none⟩) :
    Kd.R k51 51 ((((((W.setCell ⟨ad.block, ad.off + 1, none⟩ (.int .u64 m.f0)).setCell ⟨ad.block, ad.off + 1 + 1, none⟩ (.bool m.f1)).setCell ⟨ad.block, ad.off + 1 + 2, none⟩ (.int .i64 m.f2.f0)).setCell ⟨ad.block, ad.off + 1 + 3, none⟩ (.int .u64 m.f2.f1)).setCell ⟨ad.block, ad.off + 1 + 4, none⟩ (.int .i64 m.f3)).setCell ⟨ad.block, ad.off + 1 + 5, none⟩ (.int .i64 m.f4)) base (fun _ => True) (.slice (some ⟨g, 0, none⟩) xs.length cap) (xs.set i ⟨(rd_T51 xs (i : Nat)).f0, m⟩) ∧
    W.grownBy ((((((W.setCell ⟨ad.block, ad.off + 1, none⟩ (.int .u64 m.f0)).setCell ⟨ad.block, ad.off + 1 + 1, none⟩ (.bool m.f1)).setCell ⟨ad.block, ad.off + 1 + 2, none⟩ (.int .i64 m.f2.f0)).setCell ⟨ad.block, ad.off + 1 + 3, none⟩ (.int .u64 m.f2.f1)).setCell ⟨ad.block, ad.off + 1 + 4, none⟩ (.int .i64 m.f3)).setCell ⟨ad.block, ad.off + 1 + 5, none⟩ (.int .i64 m.f4)) (some g) := by
  subst had
  obtain ⟨c, hcl, hM, hcc, _⟩ := Kd.R_elem h z51 (i : Int) (by omega) (by omega)
  obtain ⟨v0, hc, hv0⟩ := k51_openM hM
  have := Kd.R_seg h (i : Int) (by omega) (by omega) (c := c) (seg := [.int .u64 m.f0, .bool m.f1, .int .i64 m.f2.f0, .int .u64 m.f2.f1, .int .i64 m.f3, .int .i64 m.f4]) (j := 1) hcl hcc (show 1 + 6 ≤ 7 by decide) (x' := ⟨(rd_T51 xs (i : Nat)).f0, m⟩) (okp := fun k => True ∧ k ≠ g) (by rw [hc]; exact k51_mkM W base _ ⟨(rd_T51 xs (i : Nat)).f0, m⟩ hv0) (fun _ hk => hk)
  exact this
def FoldRel (k : Nat) (g : List Gr) (A0 : Option Addr) (c0 : Nat) (keep wm : Int) (l r : List En) (w : World) (v : Value) (j : Nat) (wr : World) : Prop :=
  j ≤ l.length ∧ ∃ out, Below w.heap.size w wr ∧ wr.heap[w.heap.size]? = some (.cells #[.slice A0 g.length c0, .int .i64 keep] 24 (0, 0)) ∧ Kd.R k51 51 wr w.heap.size (fun _ => True) v out ∧ foldGo k g keep wm (l.drop j) out = some r
set_option maxHeartbeats 4000000 in
set_option maxRecDepth 100000 in
theorem fold_Fold.calls (k : Nat) (A0_0 : Option Addr) (c0_0 : Nat) (l0_0 : List Gr) (a0_1 : Int) (a1 : Int) (A2 : Option Addr) (c2 : Nat) (l2 : List En) (r1 : List En) (r2 : Int) (w : World) (hr0_0 : Kd.C k67 w A0_0 l0_0.length l0_0) (hc0_0 : l0_0.length ≤ c0_0) (hr2 : Kd.C k51 w A2 l2.length l2) (hc2 : l2.length ≤ c2) (h : fold_Fold.f k l0_0 a0_1 a1 l2 = some (r1, r2)) :
    Calls Try.prog 16 #[.agg #[.slice A0_0 l0_0.length c0_0, .int .i64 a0_1], .int .i64 a1, .slice A2 l2.length c2] w fun e w' => ∃ v0_ : Value, e = .returned (.tuple #[v0_, .int .i64 r2]) ∧ Kd.R k51 51 w' w.heap.size (fun _ => True) v0_ r1 ∧ Below w.heap.size w w' := by
  have HG := Lib.hid hr0_0; have HE := Lib.hid hr2; clear hr0_0 hr2
  have HBX := Lib.hid (blk_new w (.cells #[.slice A0_0 l0_0.length c0_0, .int .i64 a0_1] 24))
  have HB0 : Hid (Below w.heap.size w (w.alloc (.cells #[.slice A0_0 l0_0.length c0_0, .int .i64 a0_1] 24))) := Lib.hid ((Below.refl _ _).alloc (Nat.le_refl _) _)
  unfold fold_Fold.f at h
  obtain ⟨e0, he0, h2⟩ := Option.bind_eq_some_iff.mp h
  have HCK := Lib.hid he0
  by_cases hz : e0 = 0
  · subst hz
    rw [if_pos rfl] at h2
    obtain ⟨out, hb, h3⟩ := Option.bind_eq_some_iff.mp h2
    simp only [Option.some.injEq, Prod.mk.injEq] at h3
    obtain ⟨rfl, rfl⟩ := h3
    have HQ := Lib.hid hb
    clear h he0 h2 hb
    go_enter Try.func16, Try.ntmps16
    go_wp2
    go_step3
    go_wp2_with (go_at_call 27; refine (fold_check.calls k A0_0 c0_0 l0_0 a0_1 a1 A2 c2 l2 _ _ (Kd.C_below HG.out HB0.out) hc0_0 (Kd.C_below HE.out HB0.out) hc2 HCK.out).mono ?_; rintro e w1 ⟨rfl, hb⟩; have HB1 := Lib.hid (below_step HB0.out hb); have HBX1 := Lib.hid (blk_below HBX.out hb); clear hb)
    go_step3
    go_wp2_with (fail)
    go_loopw [25, 9] (fun v u wr => ∃ j : Nat, v = .int .i64 j ∧ FoldRel k l0_0 A0_0 c0_0 a0_1 a1 l2 out w u j wr) (fun v _ _ => l2.length - (intOf v).toNat)
    case atStart => exact ⟨0, rfl, Nat.zero_le _, [], HB1.out, HBX1.out, Kd.R_nil _ _ _ _ _, HQ.out⟩
    case round =>
      obtain ⟨j, rfl, hj, acc, hB, hX, hR, hF⟩ := hrel
      have HJB := Lib.hid hB; have HJX := Lib.hid hX; have HJR := Lib.hid hR
      clear HB1 HBX1 HQ hB hX hR
      have hmx : l2.length ≤ 9223372036854775807 := HE.out.2.1
      obtain ⟨Ar, cr, hu9⟩ := Kd.R_slice HJR.out
      subst hu9
      by_cases hlt : j < l2.length
      · have e1 : decide ((j : Int) < (l2.length : Int)) = true := decide_eq_true (by omega)
        obtain ⟨ad, A1, c1, ha, hx0, hx1, hx2, hx3, hx4, hx5, hx6, hlc, hin⟩ := at_T51 HE.out (j : Int) (by omega) (by omega)
        subst ha
        have HIN := Lib.hid hin
        have hxx := rd_ent hlt
        obtain ⟨x, hx⟩ : ∃ x, x = rd_T51 l2 (j : Int) := ⟨_, rfl⟩
        rw [← hx] at hx0 hx1 hx2 hx3 hx4 hx5 hx6 hlc HIN
        simp only [Int.toNat_natCast] at hx0 hx1 hx2 hx3 hx4 hx5 hx6
        replace hx0 := (HJB.out.cell (World.block_lt_of_cell? w _ hx0)).trans hx0
        replace hx1 := (HJB.out.cell (World.block_lt_of_cell? w _ hx1)).trans hx1
        replace hx2 := (HJB.out.cell (World.block_lt_of_cell? w _ hx2)).trans hx2
        replace hx3 := (HJB.out.cell (World.block_lt_of_cell? w _ hx3)).trans hx3
        replace hx4 := (HJB.out.cell (World.block_lt_of_cell? w _ hx4)).trans hx4
        replace hx5 := (HJB.out.cell (World.block_lt_of_cell? w _ hx5)).trans hx5
        replace hx6 := (HJB.out.cell (World.block_lt_of_cell? w _ hx6)).trans hx6
        have hF1 : foldGo k l0_0 a0_1 a1 (x :: l2.drop (j + 1)) acc = some out := by rw [← hF, hx, hxx, ← List.drop_eq_getElem_cons hlt]
        clear hF hx hxx hin
        unfold foldGo at hF1
        obtain ⟨⟨kb, gone⟩, hat, hF2⟩ := Option.bind_eq_some_iff.mp hF1
        have HAT := Lib.hid hat
        clear hF1 hat
        have hk0 := (blk_cell HJX.out 0).trans (show _ = some (Value.slice A0_0 l0_0.length c0_0) from rfl)
        have hk1 := (blk_cell HJX.out 1).trans (show _ = some (Value.int .i64 a0_1) from rfl)
        have hlw := blk_lt HJX.out
        have HXB := Lib.hid (blk_new wr (.cells #[.slice A1 x.f0.length c1, .int .u64 x.f1.f0, .bool x.f1.f1, .int .i64 x.f1.f2.f0, .int .u64 x.f1.f2.f1, .int .i64 x.f1.f3, .int .i64 x.f1.f4] 51))
        have HAB : Hid (Below w.heap.size w (wr.alloc (.cells #[.slice A1 x.f0.length c1, .int .u64 x.f1.f0, .bool x.f1.f1, .int .i64 x.f1.f2.f0, .int .u64 x.f1.f2.f1, .int .i64 x.f1.f3, .int .i64 x.f1.f4] 51))) := Lib.hid (HJB.out.alloc HJB.out.size _)
        have HAX := Lib.hid (blk_alloc HJX.out (.cells #[.slice A1 x.f0.length c1, .int .u64 x.f1.f0, .bool x.f1.f1, .int .i64 x.f1.f2.f0, .int .u64 x.f1.f2.f1, .int .i64 x.f1.f3, .int .i64 x.f1.f4] 51))
        have HAR := Lib.hid (Kd.R_below HJR.out ((Below.refl _ _).alloc (Nat.le_refl _) (.cells #[.slice A1 x.f0.length c1, .int .u64 x.f1.f0, .bool x.f1.f1, .int .i64 x.f1.f2.f0, .int .u64 x.f1.f2.f1, .int .i64 x.f1.f3, .int .i64 x.f1.f4] 51)))
        cases gone with
        | true =>
          have hF3 : Hid (foldGo k l0_0 a0_1 a1 (l2.drop (j + 1)) acc = some out) := Lib.hid (by simpa using hF2)
          clear hF2
          go_wp2_with (go_at_call 38; refine (fold_at.calls k A0_0 c0_0 l0_0 a0_1 a1 A1 c1 x.f0 _ _ _ (Kd.C_below HG.out HAB.out) hc0_0 (Kd.C_below HIN.out HAB.out) hlc HAT.out).mono ?_; rintro e w1 ⟨v0, rfl, hr, hw⟩; obtain ⟨Av, cv, hv⟩ := Kd.R_slice hr; subst hv; have HR := Lib.hid hr; have HW := Lib.hid hw; clear hr hw)
          go_roundw
          case rel => exact ⟨j + 1, by go_num, hlt, acc, below_step HAB.out HW.out, blk_below HAX.out HW.out, Kd.R_below HAR.out HW.out, hF3.out⟩
          case measure => simp [intOf]; omega
        | false =>
          have hF3 : (putE kb x.f1 acc).bind (fun o => foldGo k l0_0 a0_1 a1 (l2.drop (j + 1)) o) = some out := by simpa using hF2
          clear hF2
          obtain ⟨acc', hput, hF4⟩ := Option.bind_eq_some_iff.mp hF3
          have HF := Lib.hid hF4
          clear hF3 hF4
          unfold putE at hput
          by_cases hg : acc.length < 1000 ∧ (∀ y ∈ acc, y.f0.all isB = true) ∧ kb.all isB = true
          case neg => rw [if_neg hg] at hput; cases hput
          rw [if_pos hg] at hput
          obtain ⟨hlen, hall, hkb⟩ := hg
          have HALL := Lib.hid hall; have HKB := Lib.hid hkb
          clear hall hkb
          obtain ⟨i, hi⟩ : ∃ i, i = placeE acc kb := ⟨_, rfl⟩
          obtain ⟨th, hth⟩ : ∃ th, th = thereE acc kb := ⟨_, rfl⟩
          rw [← hi, ← hth] at hput
          have hil : i ≤ acc.length := by rw [hi]; exact placeE_le_ acc kb
          have hS := fun (B : Option Addr) (d : Nat) (W : World) (h1 : Kd.C k51 W Ar acc.length acc) (h2 : Kd.C (Kd.int .u8) W B kb.length kb) (h3 : kb.length ≤ d) => search_ents 39 cmp_fold enter_fold Ar cr acc B d kb W h1 (by omega) h2 h3 HALL.out HKB.out
          rw [← hi, ← hth] at hS
          have HS := Lib.hid hS
          have HTH := Lib.hid hth; have HI := Lib.hid hi
          clear hS hth hi
          cases th with
          | false =>
            rw [if_neg (by simp)] at hput
            obtain rfl := Option.some.inj hput
            clear hput
            go_wp2_with (first
              | (go_at_call 38; refine (fold_at.calls k A0_0 c0_0 l0_0 a0_1 a1 A1 c1 x.f0 _ _ _ (Kd.C_below HG.out HAB.out) hc0_0 (Kd.C_below HIN.out HAB.out) hlc HAT.out).mono ?_; rintro e w1 ⟨v0, rfl, hr, hw⟩; obtain ⟨Av, cv, hv⟩ := Kd.R_slice hr; subst hv; have HR := Lib.hid hr; have HW := Lib.hid hw; have HRR := Lib.hid (Kd.R_below HAR.out hw); have HXX := Lib.hid (blk_below HXB.out hw); have HRN := Lib.hid (Kd.R_lower (Kd.R_new hr (Kd.R_own HAR.out).choose_spec) HAB.out.size); have HB1 := Lib.hid (below_step HAB.out hw); have HX1 := Lib.hid (blk_below HAX.out hw); clear hr hw)
              | (go_at_call 31; refine (HS.out Av cv w1 (Kd.R_reads' HRR.out).2.2 (Kd.R_reads' HR.out).2.2 (Kd.R_reads' HR.out).2.1).mono ?_; rintro e w2 ⟨rfl, hw2⟩; have HW2 := Lib.hid hw2; have HXX2 := Lib.hid (blk_below HXX.out hw2); have HRR2 := Lib.hid (Kd.R_below HRR.out hw2); have HRN2 := Lib.hid (Kd.R_below HRN.out hw2); have HB2 := Lib.hid (below_step HB1.out hw2); have HX2 := Lib.hid (blk_below HX1.out hw2); have hy1 := (blk_cell HXX2.out 1).trans (show _ = some (Value.int .u64 x.f1.f0) from rfl); have hy2 := (blk_cell HXX2.out 2).trans (show _ = some (Value.bool x.f1.f1) from rfl); have hy3 := (blk_cell HXX2.out 3).trans (show _ = some (Value.int .i64 x.f1.f2.f0) from rfl); have hy4 := (blk_cell HXX2.out 4).trans (show _ = some (Value.int .u64 x.f1.f2.f1) from rfl); have hy5 := (blk_cell HXX2.out 5).trans (show _ = some (Value.int .i64 x.f1.f3) from rfl); have hy6 := (blk_cell HXX2.out 6).trans (show _ = some (Value.int .i64 x.f1.f4) from rfl); clear hw2)
              | (go_at_call 34; refine (insert_row w2 w.heap.size (.slice Ar acc.length cr) acc i ⟨kb, x.f1⟩ [.slice Av kb.length cv, .int .u64 x.f1.f0, .bool x.f1.f1, .int .i64 x.f1.f2.f0, .int .u64 x.f1.f2.f1, .int .i64 x.f1.f3, .int .i64 x.f1.f4] _ HRR2.out (k51_mkM w2 w.heap.size _ ⟨kb, x.f1⟩ HRN2.out) (fun _ hk => hk.2) HB2.out.size (by omega) hil).mono ?_; rintro e w3 ⟨v3, rfl, hr3, hg3, hat3⟩; have HR3 := Lib.hid hr3; have HB3 := Lib.hid (HB2.out.grown hg3 HB2.out.size (own_base (Kd.R_own HRR2.out).choose_spec)); have HX3 := Lib.hid (blk_grown HX2.out hg3 (Kd.R_ne HRR2.out HX2.out (by decide))); clear hr3 hg3 hat3))
            go_roundw
            case rel => exact ⟨j + 1, by go_num, hlt, _, HB3.out, HX3.out, HR3.out, HF.out⟩
            case measure => simp [intOf]; omega
          | true =>
            rw [if_pos rfl] at hput
            have hil2 : i < acc.length := by
              have := HTH.out
              unfold thereE at this
              rw [← HI.out] at this
              simp only [Bool.true_eq, Bool.and_eq_true, decide_eq_true_eq] at this
              exact this.1
            obtain ⟨y, hy⟩ : ∃ y, y = rd_T51 acc (i : Nat) := ⟨_, rfl⟩
            rw [← hy] at hput
            by_cases hu : inU y.f1.f2.f1 ∧ inU x.f1.f2.f1
            case neg => rw [if_neg hu] at hput; cases hput
            rw [if_pos hu] at hput
            obtain rfl := Option.some.inj hput
            clear hput
            have HM : Hid (agg_Merge.f y.f1.f0 y.f1.f1 y.f1.f2.f0 y.f1.f2.f1 y.f1.f3 y.f1.f4 x.f1.f0 x.f1.f1 x.f1.f2.f0 x.f1.f2.f1 x.f1.f3 x.f1.f4 = some ((mergeA y.f1 x.f1).f0, (mergeA y.f1 x.f1).f1, (mergeA y.f1 x.f1).f2.f0, (mergeA y.f1 x.f1).f2.f1, (mergeA y.f1 x.f1).f3, (mergeA y.f1 x.f1).f4)) := Lib.hid (by unfold agg_Merge.f; rw [if_pos hu])
            clear hu
            generalize mergeA y.f1 x.f1 = m at HM HF
            have HY := Lib.hid hy
            clear hy
            have hw2' : IntKind.i64.wrap ((i : Int)) = (i : Int) := by rw [IntKind.wrap_i64]; omega
            go_upto_region 12 with (first
              | (go_at_call 38; refine (fold_at.calls k A0_0 c0_0 l0_0 a0_1 a1 A1 c1 x.f0 _ _ _ (Kd.C_below HG.out HAB.out) hc0_0 (Kd.C_below HIN.out HAB.out) hlc HAT.out).mono ?_; rintro e w1 ⟨v0, rfl, hr, hw⟩; obtain ⟨Av, cv, hv⟩ := Kd.R_slice hr; subst hv; have HR := Lib.hid hr; have HW := Lib.hid hw; have HRR := Lib.hid (Kd.R_below HAR.out hw); have HXX := Lib.hid (blk_below HXB.out hw); have HRN := Lib.hid (Kd.R_lower (Kd.R_new hr (Kd.R_own HAR.out).choose_spec) HAB.out.size); have HB1 := Lib.hid (below_step HAB.out hw); have HX1 := Lib.hid (blk_below HAX.out hw); clear hr hw)
              | (go_at_call 31; refine (HS.out Av cv w1 (Kd.R_reads' HRR.out).2.2 (Kd.R_reads' HR.out).2.2 (Kd.R_reads' HR.out).2.1).mono ?_; rintro e w2 ⟨rfl, hw2⟩; have HW2 := Lib.hid hw2; have HXX2 := Lib.hid (blk_below HXX.out hw2); have HRR2 := Lib.hid (Kd.R_below HRR.out hw2); have HRN2 := Lib.hid (Kd.R_below HRN.out hw2); have HB2 := Lib.hid (below_step HB1.out hw2); have HX2 := Lib.hid (blk_below HX1.out hw2); have hy1 := (blk_cell HXX2.out 1).trans (show _ = some (Value.int .u64 x.f1.f0) from rfl); have hy2 := (blk_cell HXX2.out 2).trans (show _ = some (Value.bool x.f1.f1) from rfl); have hy3 := (blk_cell HXX2.out 3).trans (show _ = some (Value.int .i64 x.f1.f2.f0) from rfl); have hy4 := (blk_cell HXX2.out 4).trans (show _ = some (Value.int .u64 x.f1.f2.f1) from rfl); have hy5 := (blk_cell HXX2.out 5).trans (show _ = some (Value.int .i64 x.f1.f3) from rfl); have hy6 := (blk_cell HXX2.out 6).trans (show _ = some (Value.int .i64 x.f1.f4) from rfl); clear hw2))
            obtain ⟨g, hgA, hgw⟩ : ∃ g, Ar = some ⟨g, 0, none⟩ ∧ ∃ cur, w2.heap[g]? = some (.cells cur 51 (0, 0)) := by
              rcases (Kd.R_own HRR2.out).choose_spec.2 with ⟨_, h0⟩ | ⟨g, cap, cur, hv, hb, hh, _⟩
              · omega
              · injection hv with h1 _ _
                exact ⟨g, h1, cur, hh⟩
            obtain ⟨ad, Ay, cy, ha, hz0, hz1, hz2, hz3, hz4, hz5, hz6, hlc2, hin2⟩ := at_T51 (Kd.R_reads' HRR2.out).2.2 (i : Int) (by omega) (by omega)
            subst ha
            have hadg : ad = ⟨g, 0, none⟩ := by injection hgA
            rw [← HY.out] at hz0 hz1 hz2 hz3 hz4 hz5 hz6 hlc2 hin2
            simp only [Int.toNat_natCast] at hz0 hz1 hz2 hz3 hz4 hz5 hz6
            have hblk : (ad.add (i * 7)).block = g := by rw [hadg, add_plain]
            have hlg : g < w2.heap.size := blk_lt hgw.choose_spec
            have hfz : ∀ (w3 : World), Below w2.heap.size w2 w3 → ∀ o, w3.frozen? ⟨(ad.add (i * 7)).block, o, none⟩ = false := fun w3 hb o => by
              rw [hblk]; exact blk_frozen (blk_below hgw.choose_spec hb) o
            have HFZ := Lib.hid hfz; have HADG := Lib.hid hadg; have HGW := Lib.hid hgw
            clear hfz hadg hgw hgA hblk
            go_region_with (go_at_call 18; refine (agg_Merge.calls y.f1.f0 y.f1.f1 y.f1.f2.f0 y.f1.f2.f1 y.f1.f3 y.f1.f4 x.f1.f0 x.f1.f1 x.f1.f2.f0 x.f1.f2.f1 x.f1.f3 x.f1.f4 _ _ _ _ _ _ _ HM.out).mono ?_; rintro e w3 ⟨rfl, hw3d⟩; have hw3 : Below w2.heap.size w2 w3 := ⟨hw3d.os, hw3d.tape, hw3d.output, hw3d.size, hw3d.block⟩; have HW3 := Lib.hid hw3; have hq1 := (hw3.cell (World.block_lt_of_cell? w2 _ hz1)).trans hz1; have hq2 := (hw3.cell (World.block_lt_of_cell? w2 _ hz2)).trans hz2; have hq3 := (hw3.cell (World.block_lt_of_cell? w2 _ hz3)).trans hz3; have hq4 := (hw3.cell (World.block_lt_of_cell? w2 _ hz4)).trans hz4; have hq5 := (hw3.cell (World.block_lt_of_cell? w2 _ hz5)).trans hz5; have hq6 := (hw3.cell (World.block_lt_of_cell? w2 _ hz6)).trans hz6; have hp1 := HFZ.out w3 hw3 ((ad.add (i * 7)).off + 1); have hp2 := HFZ.out w3 hw3 ((ad.add (i * 7)).off + 2); have hp3 := HFZ.out w3 hw3 ((ad.add (i * 7)).off + 3); have hp4 := HFZ.out w3 hw3 ((ad.add (i * 7)).off + 4); have hp5 := HFZ.out w3 hw3 ((ad.add (i * 7)).off + 5); have hp6 := HFZ.out w3 hw3 ((ad.add (i * 7)).off + 6); clear hw3 hw3d)
            all_goals
              have hrow := row_agg (Kd.R_below (v := .slice (some ⟨g, 0, none⟩) acc.length cr) (by have := HRR2.out; rw [HADG.out] at this; exact this) HW3.out) i hil2 m (ad.add (i * 7)) (by rw [HADG.out, add_plain])
              rw [← HADG.out] at hrow
              have HROW := Lib.hid hrow
              clear hrow hq1 hq2 hq3 hq4 hq5 hq6 hp1 hp2 hp3 hp4 hp5 hp6
              go_wp2_with (fail)
              go_roundw
              case rel => exact ⟨j + 1, by go_num, hlt, _, (below_step HB2.out HW3.out).grown HROW.out.2 (below_step HB2.out HW3.out).size (by intro k hk; injection hk with hk; have := own_base (Kd.R_own HRR2.out).choose_spec k; rw [HADG.out] at this; subst hk; exact this rfl), blk_grown (blk_below HX2.out HW3.out) HROW.out.2 (by have := Kd.R_ne HRR2.out HX2.out (by decide); rw [HADG.out] at this; exact this), HROW.out.1, by have := HY.out; rw [this] at HF; exact HF.out⟩
              case measure => simp [intOf]; omega
      · have e1 : decide ((j : Int) < (l2.length : Int)) = false := decide_eq_false (by omega)
        rw [List.drop_eq_nil_of_le (by omega)] at hF
        unfold foldGo at hF
        obtain rfl := Option.some.inj hF
        clear hF
        go_wp2
        rw [Exit.noGoto_ret]
        go_ret2
        exact ⟨_, rfl, HJR.out, HJB.out⟩
  · rw [if_neg hz] at h2
    simp only [Option.some.injEq, Prod.mk.injEq] at h2
    obtain ⟨rfl, rfl⟩ := h2
    have hz' : (e0 != 0) = true := bne_iff_ne.2 hz
    have hz'' : (e0 == 0) = false := beq_eq_false_iff_ne.2 hz
    clear h he0 hz
    go_enter Try.func16, Try.ntmps16
    go_wp2
    go_step3
    go_wp2_with (go_at_call 27; refine (fold_check.calls k A0_0 c0_0 l0_0 a0_1 a1 A2 c2 l2 _ _ (Kd.C_below HG.out HB0.out) hc0_0 (Kd.C_below HE.out HB0.out) hc2 HCK.out).mono ?_; rintro e w1 ⟨rfl, hb⟩; have HB1 := Lib.hid (below_step HB0.out hb); clear hb)
    rw [Exit.noGoto_ret]
    go_ret2
    exact ⟨_, rfl, Kd.R_nil _ _ _ _ _, HB1.out⟩
end Go.Proofs.Ytjemmmemenljbaa.PFold
end
section
namespace Go.Proofs.Ytjemmmemenljbaa.PFold
open Go.RowKit Go.Proofs.YtjemmmemenljbaaW.PrintWords Go.Proofs.YtjemmmemenljbaaW.PrintLast Go.Proofs.YtjemmmemenljbaaW.PrintMore
abbrev Fa := S46
def agOf (o : Int × Bool × Int × Int × Int × Int) : Ag := ⟨o.1, o.2.1, ⟨o.2.2.1, o.2.2.2.1⟩, o.2.2.2.2.1, o.2.2.2.2.2⟩
def factGo (k : Nat) (g : List Gr) : List Fa → List En → Option (Option (List En))
  | [], all => some (some all)
  | x :: r, all => (key_Right.f x.f0 x.f1 0).bind fun t => if t = true then
      (if 0 < g.length then (grain_Floor.f x.f1 (rd_T67 g 0).f0).bind fun fl => (key_Write.f k x.f0 fl.1 0).bind fun kb => (agg_One.f x.f2).bind fun o => (putE kb.1 (agOf o) all).bind fun a => factGo k g r a else none)
    else some none
def fold_Facts.f (k : Nat) (g : List Gr) (keep wm : Int) (l : List Fa) : Option (List En × Int) :=
  (fold_check.f k g keep wm []).bind fun e => if e = 0 then (factGo k g l []).bind fun o => (match o with | none => some ([], 110) | some all => fold_Fold.f k g keep wm all) else some ([], e)
theorem enter_facts (args : Array Value) (w : World) : (callFunc 32 args).run Try.prog w = .ok (.enter 32 args) w := enters_ Try.func32 (by kernel_rfl) (by kernel_rfl) args w
theorem no_ents (w : World) : Kd.C k51 w none ([] : List En).length [] := ⟨rfl, by simp, fun h => absurd h (by simp)⟩
def FactRel (k : Nat) (g : List Gr) (A0 : Option Addr) (c0 : Nat) (keep : Int) (l : List Fa) (r : Option (List En)) (w : World) (v : Value) (j : Nat) (wr : World) : Prop :=
  j ≤ l.length ∧ ∃ all, Below w.heap.size w wr ∧ wr.heap[w.heap.size]? = some (.cells #[.slice A0 g.length c0, .int .i64 keep] 24 (0, 0)) ∧ Kd.R k51 51 wr w.heap.size (fun _ => True) v all ∧ factGo k g (l.drop j) all = some r
def FactMid (w : World) (gf gk : Nat) (g : List Gr) (A0 : Option Addr) (c0 : Nat) (keep : Int) (A : Option Addr) (c : Nat) (x : Fa) (fl : Int) (v : Value) (all : List En) (wx : World) : Prop :=
  Below w.heap.size w wx ∧ wx.heap[w.heap.size]? = some (.cells #[.slice A0 g.length c0, .int .i64 keep] 24 (0, 0)) ∧ wx.heap[gf]? = some (.cells #[.slice A x.f0.length c, .int .i64 x.f1, .int .i64 x.f2] 46 (0, 0)) ∧ wx.heap[gk]? = some (.cells #[.slice A x.f0.length c, .int .i64 fl, .int .i64 0] 62 (0, 0)) ∧ Kd.R k51 51 wx w.heap.size (fun _ => True) v all
theorem rd_fact {l : List Fa} {i : Nat} (h : i < l.length) : rd_T46 l (i : Int) = l[i] := by
  unfold rd_T46
  rw [show ((i : Int)).toNat = i from by omega, List.getD_eq_getElem?_getD, List.getElem?_eq_getElem h]
  rfl
set_option maxHeartbeats 4000000 in
set_option maxRecDepth 100000 in
theorem fold_Facts.calls (k : Nat) (A0_0 : Option Addr) (c0_0 : Nat) (l0_0 : List Gr) (a0_1 : Int) (a1 : Int) (A2 : Option Addr) (c2 : Nat) (l2 : List Fa) (r1 : List En) (r2 : Int) (w : World) (hr0_0 : Kd.C k67 w A0_0 l0_0.length l0_0) (hc0_0 : l0_0.length ≤ c0_0) (hr2 : Kd.C k46 w A2 l2.length l2) (_hc2 : l2.length ≤ c2) (h : fold_Facts.f k l0_0 a0_1 a1 l2 = some (r1, r2)) :
    Calls Try.prog 12 #[.agg #[.slice A0_0 l0_0.length c0_0, .int .i64 a0_1], .int .i64 a1, .slice A2 l2.length c2] w fun e w' => ∃ v0_ : Value, e = .returned (.tuple #[v0_, .int .i64 r2]) ∧ Kd.R k51 51 w' w.heap.size (fun _ => True) v0_ r1 ∧ Below w.heap.size w w' := by
  have HG := Lib.hid hr0_0; have HE := Lib.hid hr2; clear hr0_0 hr2
  have HBX := Lib.hid (blk_new w (.cells #[.slice A0_0 l0_0.length c0_0, .int .i64 a0_1] 24))
  have HB0 : Hid (Below w.heap.size w (w.alloc (.cells #[.slice A0_0 l0_0.length c0_0, .int .i64 a0_1] 24))) := Lib.hid ((Below.refl _ _).alloc (Nat.le_refl _) _)
  unfold fold_Facts.f at h
  obtain ⟨e0, he0, h2⟩ := Option.bind_eq_some_iff.mp h
  have HCK := Lib.hid he0
  by_cases hz : e0 = 0
  · subst hz
    rw [if_pos rfl] at h2
    obtain ⟨out, hb, h3⟩ := Option.bind_eq_some_iff.mp h2
    have HQ := Lib.hid hb
    have H3 := Lib.hid h3
    clear h he0 h2 hb h3
    go_enter Try.func12, Try.ntmps12
    go_wp2_with (go_at_call 27; refine (fold_check.calls k A0_0 c0_0 l0_0 a0_1 a1 none 0 [] _ _ (Kd.C_below HG.out HB0.out) hc0_0 (no_ents _) (Nat.le_refl _) HCK.out).mono ?_; rintro e w1 ⟨rfl, hb⟩; have HB1 := Lib.hid (below_step HB0.out hb); have HBX1 := Lib.hid (blk_below HBX.out hb); clear hb)
    go_loopw [25, 9] (fun v u wr => ∃ j : Nat, v = .int .i64 j ∧ FactRel k l0_0 A0_0 c0_0 a0_1 l2 out w u j wr) (fun v _ _ => l2.length - (intOf v).toNat)
    case atStart => exact ⟨0, rfl, Nat.zero_le _, [], HB1.out, HBX1.out, Kd.R_nil _ _ _ _ _, HQ.out⟩
    case round =>
      obtain ⟨j, rfl, hj, acc, hB, hX, hR, hF⟩ := hrel
      have HJB := Lib.hid hB; have HJX := Lib.hid hX; have HJR := Lib.hid hR
      clear HB1 HBX1 HQ hB hX hR
      have hmx : l2.length ≤ 9223372036854775807 := HE.out.2.1
      obtain ⟨Ar, cr, hu9⟩ := Kd.R_slice HJR.out
      subst hu9
      by_cases hlt : j < l2.length
      · have e1 : decide ((j : Int) < (l2.length : Int)) = true := decide_eq_true (by omega)
        obtain ⟨ad, A1, c1, ha, hx0, hx1, hx2, hlc, hin⟩ := at_T46 HE.out (j : Int) (by omega) (by omega)
        subst ha
        have HIN := Lib.hid hin
        have hxx := rd_fact hlt
        obtain ⟨x, hx⟩ : ∃ x, x = rd_T46 l2 (j : Int) := ⟨_, rfl⟩
        rw [← hx] at hx0 hx1 hx2 hlc HIN
        simp only [Int.toNat_natCast] at hx0 hx1 hx2
        replace hx0 := (HJB.out.cell (World.block_lt_of_cell? w _ hx0)).trans hx0
        replace hx1 := (HJB.out.cell (World.block_lt_of_cell? w _ hx1)).trans hx1
        replace hx2 := (HJB.out.cell (World.block_lt_of_cell? w _ hx2)).trans hx2
        have hF1 : factGo k l0_0 (x :: l2.drop (j + 1)) acc = some out := by rw [← hF, hx, hxx, ← List.drop_eq_getElem_cons hlt]
        clear hF hx hxx hin
        unfold factGo at hF1
        obtain ⟨t, hkr, hF2⟩ := Option.bind_eq_some_iff.mp hF1
        have HKR := Lib.hid hkr
        clear hF1 hkr
        have hlw := blk_lt HJX.out
        have HFB := Lib.hid (blk_alloc (blk_new wr (.cells #[.slice A1 x.f0.length c1, .int .i64 x.f1, .int .i64 x.f2] 46)) (.cells #[.slice A1 x.f0.length c1, .int .i64 x.f1, .int .i64 0] 62))
        have HKB : Hid (((wr.alloc (.cells #[.slice A1 x.f0.length c1, .int .i64 x.f1, .int .i64 x.f2] 46)).alloc (.cells #[.slice A1 x.f0.length c1, .int .i64 x.f1, .int .i64 0] 62)).heap[wr.heap.size + 1]? = some (.cells #[.slice A1 x.f0.length c1, .int .i64 x.f1, .int .i64 0] 62 (0, 0))) := Lib.hid (by have := blk_new (wr.alloc (.cells #[.slice A1 x.f0.length c1, .int .i64 x.f1, .int .i64 x.f2] 46)) (.cells #[.slice A1 x.f0.length c1, .int .i64 x.f1, .int .i64 0] 62); simpa using this)
        have HAB : Hid (Below w.heap.size w ((wr.alloc (.cells #[.slice A1 x.f0.length c1, .int .i64 x.f1, .int .i64 x.f2] 46)).alloc (.cells #[.slice A1 x.f0.length c1, .int .i64 x.f1, .int .i64 0] 62))) := Lib.hid ((HJB.out.alloc HJB.out.size _).alloc (Nat.le_trans HJB.out.size (by simp)) _)
        have HAX := Lib.hid (blk_alloc (blk_alloc HJX.out (.cells #[.slice A1 x.f0.length c1, .int .i64 x.f1, .int .i64 x.f2] 46)) (.cells #[.slice A1 x.f0.length c1, .int .i64 x.f1, .int .i64 0] 62))
        have HAR := Lib.hid (Kd.R_below HJR.out (((Below.refl _ _).alloc (Nat.le_refl _) (.cells #[.slice A1 x.f0.length c1, .int .i64 x.f1, .int .i64 x.f2] 46)).alloc (by simp) (.cells #[.slice A1 x.f0.length c1, .int .i64 x.f1, .int .i64 0] 62)))
        cases t with
        | false =>
          rw [if_neg (by simp)] at hF2
          obtain rfl := Option.some.inj hF2
          have h3 := H3.out
          simp only [Option.some.injEq, Prod.mk.injEq] at h3
          obtain ⟨rfl, rfl⟩ := h3
          clear hF2
          go_wp2_with (go_at_call 28; refine (key_Right.calls A1 c1 x.f0 x.f1 0 _ _ (Kd.C_below HIN.out HAB.out) hlc HKR.out).mono ?_; rintro e w1 ⟨rfl, hb⟩; have HW := Lib.hid (below_step HAB.out hb); clear hb)
          go_ret2
          exact ⟨_, rfl, Kd.R_nil _ _ _ _ _, HW.out⟩
        | true =>
          rw [if_pos rfl] at hF2
          by_cases hg0 : 0 < l0_0.length
          case neg => rw [if_neg hg0] at hF2; cases hF2
          rw [if_pos hg0] at hF2
          obtain ⟨⟨fl, fe⟩, hfl, hF3⟩ := Option.bind_eq_some_iff.mp hF2
          obtain ⟨⟨kb, ke⟩, hkw, hF4⟩ := Option.bind_eq_some_iff.mp hF3
          obtain ⟨⟨o1, o2, o3, o4, o5, o6⟩, hone, hF5⟩ := Option.bind_eq_some_iff.mp hF4
          obtain ⟨acc', hput, hF6⟩ := Option.bind_eq_some_iff.mp hF5
          have HFL := Lib.hid hfl; have HKW := Lib.hid hkw; have HONE := Lib.hid hone; have HF := Lib.hid hF6; have HPUT := Lib.hid hput
          clear hF2 hF3 hF4 hF5 hF6 hfl hkw hone hput
          go_upto_region 11 with (go_at_call 28; refine (key_Right.calls A1 c1 x.f0 x.f1 0 _ _ (Kd.C_below HIN.out HAB.out) hlc HKR.out).mono ?_; rintro e w1 ⟨rfl, hb⟩; have HB1 := Lib.hid (below_step HAB.out hb); have HX1 := Lib.hid (blk_below HAX.out hb); have HF1 := Lib.hid (blk_below HFB.out hb); have HK1 := Lib.hid (blk_below HKB.out hb); have HR1 := Lib.hid (Kd.R_below HAR.out hb); clear hb)
          go_cut [] (fun wx => FactMid w wr.heap.size (wr.heap.size + 1) l0_0 A0_0 c0_0 a0_1 A1 c1 x fl (.slice Ar acc.length cr) acc wx)
          case first =>
            have hk0 := (blk_cell HX1.out 0).trans (show _ = some (Value.slice A0_0 l0_0.length c0_0) from rfl)
            have hf1 := (blk_cell HF1.out 1).trans (show _ = some (Value.int .i64 x.f1) from rfl)
            obtain ⟨adg, hag, hg0c, hg1c⟩ := at_T67 (Kd.C_below HG.out HB1.out) 0 (by omega) (by omega)
            subst hag
            simp only [Int.toNat_zero, Nat.zero_mul, show ∀ a : Addr, a.add 0 = a from fun a => by simp [Addr.add]] at hg0c hg1c
            go_region_with (go_at_call 29; refine (grain_Floor.calls x.f1 (rd_T67 l0_0 0).f0 _ _ _ HFL.out).mono ?_; rintro e w3 ⟨rfl, hd⟩; have hw3d := hd.below; have hw3 : Below w1.heap.size w1 w3 := ⟨hw3d.os, hw3d.tape, hw3d.output, hw3d.size, hw3d.block⟩; have HW3 := Lib.hid hw3; have hp0 := blk_frozen (blk_below HK1.out hw3) 1; have hp1 := (blk_cell (blk_below HK1.out hw3) 1).trans (show _ = some (Value.int .i64 x.f1) from rfl); clear hw3 hw3d hd)
            all_goals
              go_wp2_with (fail)
              go_meet
              case rel => exact ⟨below_set (below_step HB1.out HW3.out) (show w.heap.size ≤ wr.heap.size + 1 by omega), blk_far (blk_below HX1.out HW3.out) (show w.heap.size ≠ wr.heap.size + 1 by omega) _, blk_far (blk_below HF1.out HW3.out) (show wr.heap.size ≠ wr.heap.size + 1 by omega) _, blk_put (blk_below HK1.out HW3.out) 1 _ (by simp), Kd.R_set (Kd.R_below HR1.out HW3.out) (blk_below HK1.out HW3.out) (by decide) _ _⟩
          case rest =>
            obtain ⟨hB2, hX2, hF2, hK2, hR2⟩ := hcut
            have HBw := Lib.hid hB2; have HXw := Lib.hid hX2; have HFw := Lib.hid hF2; have HKw := Lib.hid hK2; have HRw := Lib.hid hR2
            have hk0 := (blk_cell hK2 0).trans (show _ = some (Value.slice A1 x.f0.length c1) from rfl)
            have hk1 := (blk_cell hK2 1).trans (show _ = some (Value.int .i64 fl) from rfl)
            have hk2 := (blk_cell hK2 2).trans (show _ = some (Value.int .i64 0) from rfl)
            clear hB2 hX2 hF2 hK2 hR2 HAB HAX HAR HFB HKB
            have hput := HPUT.out
            unfold putE at hput
            by_cases hg : acc.length < 1000 ∧ (∀ y ∈ acc, y.f0.all isB = true) ∧ kb.all isB = true
            case neg => rw [if_neg hg] at hput; cases hput
            rw [if_pos hg] at hput
            obtain ⟨hlen, hall, hkb⟩ := hg
            have HALL := Lib.hid hall; have HKB := Lib.hid hkb
            clear hall hkb HPUT
            obtain ⟨i, hi⟩ : ∃ i, i = placeE acc kb := ⟨_, rfl⟩
            obtain ⟨th, hth⟩ : ∃ th, th = thereE acc kb := ⟨_, rfl⟩
            rw [← hi, ← hth] at hput
            have hil : i ≤ acc.length := by rw [hi]; exact placeE_le_ acc kb
            have hS := fun (B : Option Addr) (d : Nat) (W : World) (h1 : Kd.C k51 W Ar acc.length acc) (h2 : Kd.C (Kd.int .u8) W B kb.length kb) (h3 : kb.length ≤ d) => search_ents 32 cmp_facts enter_facts Ar cr acc B d kb W h1 (by omega) h2 h3 HALL.out HKB.out
            rw [← hi, ← hth] at hS
            have HS := Lib.hid hS
            have HTH := Lib.hid hth; have HI := Lib.hid hi
            clear hS hth hi
            cases th with
            | false =>
              rw [if_neg (by simp)] at hput
              obtain rfl := Option.some.inj hput
              clear hput
              go_wp2_with (first
                | (go_at_call 30; refine (key_Write.calls k A1 c1 x.f0 fl 0 _ _ _ (Kd.C_below HIN.out HBw.out) hlc HKW.out).mono ?_; rintro e w1 ⟨v0, rfl, hr, hw⟩; obtain ⟨Av, cv, hv⟩ := Kd.R_slice hr; subst hv; have HR := Lib.hid hr; have HRR := Lib.hid (Kd.R_below HRw.out hw); have HFF1 := Lib.hid (blk_below HFw.out hw); have HRN := Lib.hid (Kd.R_lower (Kd.R_new hr (Kd.R_own HRw.out).choose_spec) HBw.out.size); have HB1 := Lib.hid (below_step HBw.out hw); have HX1 := Lib.hid (blk_below HXw.out hw); clear hr hw)
                | (go_at_call 31; refine (HS.out Av cv w1 (Kd.R_reads' HRR.out).2.2 (Kd.R_reads' HR.out).2.2 (Kd.R_reads' HR.out).2.1).mono ?_; rintro e w2 ⟨rfl, hw2⟩; have HRR2 := Lib.hid (Kd.R_below HRR.out hw2); have HRN2 := Lib.hid (Kd.R_below HRN.out hw2); have HB2 := Lib.hid (below_step HB1.out hw2); have HX2 := Lib.hid (blk_below HX1.out hw2); have hy2 := (blk_cell (blk_below HFF1.out hw2) 2).trans (show _ = some (Value.int .i64 x.f2) from rfl); clear hw2)
                | (go_at_call 19; refine (agg_One.calls x.f2 _ _ _ _ _ _ _ HONE.out).mono ?_; rintro e w5 ⟨rfl, hw5⟩; have HRR5 := Lib.hid (Kd.R_below HRR2.out hw5); have HRN5 := Lib.hid (Kd.R_below HRN2.out hw5); have HB5 := Lib.hid (below_step HB2.out hw5); have HX5 := Lib.hid (blk_below HX2.out hw5); clear hw5)
                | (go_at_call 34; refine (insert_row w5 w.heap.size (.slice Ar acc.length cr) acc i ⟨kb, agOf (o1, o2, o3, o4, o5, o6)⟩ [.slice Av kb.length cv, .int .u64 o1, .bool o2, .int .i64 o3, .int .u64 o4, .int .i64 o5, .int .i64 o6] _ HRR5.out (k51_mkM w5 w.heap.size _ ⟨kb, agOf (o1, o2, o3, o4, o5, o6)⟩ HRN5.out) (fun _ hk => hk.2) HB5.out.size (by omega) hil).mono ?_; rintro e w6 ⟨v3, rfl, hr3, hg3, hat3⟩; have HR3 := Lib.hid hr3; have HB3 := Lib.hid (HB5.out.grown hg3 HB5.out.size (own_base (Kd.R_own HRR5.out).choose_spec)); have HX3 := Lib.hid (blk_grown HX5.out hg3 (Kd.R_ne HRR5.out HX5.out (by decide))); clear hr3 hg3 hat3))
              go_roundw
              case rel => exact ⟨j + 1, by go_num, hlt, _, HB3.out, HX3.out, HR3.out, HF.out⟩
              case measure => simp [intOf]; omega
            | true =>
              rw [if_pos rfl] at hput
              have hil2 : i < acc.length := by
                have := HTH.out
                unfold thereE at this
                rw [← HI.out] at this
                simp only [Bool.true_eq, Bool.and_eq_true, decide_eq_true_eq] at this
                exact this.1
              obtain ⟨y, hy⟩ : ∃ y, y = rd_T51 acc (i : Nat) := ⟨_, rfl⟩
              rw [← hy] at hput
              by_cases hu : inU y.f1.f2.f1 ∧ inU (agOf (o1, o2, o3, o4, o5, o6)).f2.f1
              case neg => rw [if_neg hu] at hput; cases hput
              rw [if_pos hu] at hput
              obtain rfl := Option.some.inj hput
              clear hput
              have HM : Hid (agg_Merge.f y.f1.f0 y.f1.f1 y.f1.f2.f0 y.f1.f2.f1 y.f1.f3 y.f1.f4 o1 o2 o3 o4 o5 o6 = some ((mergeA y.f1 (agOf (o1, o2, o3, o4, o5, o6))).f0, (mergeA y.f1 (agOf (o1, o2, o3, o4, o5, o6))).f1, (mergeA y.f1 (agOf (o1, o2, o3, o4, o5, o6))).f2.f0, (mergeA y.f1 (agOf (o1, o2, o3, o4, o5, o6))).f2.f1, (mergeA y.f1 (agOf (o1, o2, o3, o4, o5, o6))).f3, (mergeA y.f1 (agOf (o1, o2, o3, o4, o5, o6))).f4)) := Lib.hid (by unfold agg_Merge.f; exact if_pos hu)
              clear hu
              generalize mergeA y.f1 (agOf (o1, o2, o3, o4, o5, o6)) = m at HM HF
              have HY := Lib.hid hy
              clear hy
              have hw2' : IntKind.i64.wrap ((i : Int)) = (i : Int) := by rw [IntKind.wrap_i64]; omega
              go_upto_region 15 with (first
                | (go_at_call 30; refine (key_Write.calls k A1 c1 x.f0 fl 0 _ _ _ (Kd.C_below HIN.out HBw.out) hlc HKW.out).mono ?_; rintro e w1 ⟨v0, rfl, hr, hw⟩; obtain ⟨Av, cv, hv⟩ := Kd.R_slice hr; subst hv; have HR := Lib.hid hr; have HRR := Lib.hid (Kd.R_below HRw.out hw); have HFF1 := Lib.hid (blk_below HFw.out hw); have HRN := Lib.hid (Kd.R_lower (Kd.R_new hr (Kd.R_own HRw.out).choose_spec) HBw.out.size); have HB1 := Lib.hid (below_step HBw.out hw); have HX1 := Lib.hid (blk_below HXw.out hw); clear hr hw)
                | (go_at_call 31; refine (HS.out Av cv w1 (Kd.R_reads' HRR.out).2.2 (Kd.R_reads' HR.out).2.2 (Kd.R_reads' HR.out).2.1).mono ?_; rintro e w2 ⟨rfl, hw2⟩; have HRR2 := Lib.hid (Kd.R_below HRR.out hw2); have HRN2 := Lib.hid (Kd.R_below HRN.out hw2); have HB2 := Lib.hid (below_step HB1.out hw2); have HX2 := Lib.hid (blk_below HX1.out hw2); have hy2 := (blk_cell (blk_below HFF1.out hw2) 2).trans (show _ = some (Value.int .i64 x.f2) from rfl); clear hw2))
              obtain ⟨g, hgA, hgw⟩ : ∃ g, Ar = some ⟨g, 0, none⟩ ∧ ∃ cur, w2.heap[g]? = some (.cells cur 51 (0, 0)) := by
                rcases (Kd.R_own HRR2.out).choose_spec.2 with ⟨_, h0⟩ | ⟨g, cap, cur, hv, hb, hh, _⟩
                · omega
                · injection hv with h1 _ _
                  exact ⟨g, h1, cur, hh⟩
              obtain ⟨ad, Ay, cy, ha, hz0, hz1, hz2, hz3, hz4, hz5, hz6, hlc2, hin2⟩ := at_T51 (Kd.R_reads' HRR2.out).2.2 (i : Int) (by omega) (by omega)
              subst ha
              have hadg : ad = ⟨g, 0, none⟩ := by injection hgA
              rw [← HY.out] at hz0 hz1 hz2 hz3 hz4 hz5 hz6 hlc2 hin2
              simp only [Int.toNat_natCast] at hz0 hz1 hz2 hz3 hz4 hz5 hz6
              have hblk : (ad.add (i * 7)).block = g := by rw [hadg, add_plain]
              have hlg : g < w2.heap.size := blk_lt hgw.choose_spec
              have hfz : ∀ (w3 : World), Below w2.heap.size w2 w3 → ∀ o, w3.frozen? ⟨(ad.add (i * 7)).block, o, none⟩ = false := fun w3 hb o => by
                rw [hblk]; exact blk_frozen (blk_below hgw.choose_spec hb) o
              have HFZ := Lib.hid hfz; have HADG := Lib.hid hadg; have HGW := Lib.hid hgw
              clear hfz hadg hgw hgA hblk
              go_region_with (first
                | (go_at_call 19; refine (agg_One.calls x.f2 _ _ _ _ _ _ _ HONE.out).mono ?_; rintro e w5 ⟨rfl, hw5d⟩; have hw5 : Below w2.heap.size w2 w5 := ⟨hw5d.os, hw5d.tape, hw5d.output, hw5d.size, hw5d.block⟩; have HW5 := Lib.hid hw5; have ho1 := (hw5.cell (World.block_lt_of_cell? w2 _ hz1)).trans hz1; have ho2 := (hw5.cell (World.block_lt_of_cell? w2 _ hz2)).trans hz2; have ho3 := (hw5.cell (World.block_lt_of_cell? w2 _ hz3)).trans hz3; have ho4 := (hw5.cell (World.block_lt_of_cell? w2 _ hz4)).trans hz4; have ho5 := (hw5.cell (World.block_lt_of_cell? w2 _ hz5)).trans hz5; have ho6 := (hw5.cell (World.block_lt_of_cell? w2 _ hz6)).trans hz6; clear hw5 hw5d)
                | (go_at_call 18; refine (agg_Merge.calls y.f1.f0 y.f1.f1 y.f1.f2.f0 y.f1.f2.f1 y.f1.f3 y.f1.f4 o1 o2 o3 o4 o5 o6 _ _ _ _ _ _ _ HM.out).mono ?_; rintro e w3 ⟨rfl, hw3d⟩; have hw3 : Below w2.heap.size w2 w3 := HW5.out.trans (hw3d.mono HW5.out.size); have HW3 := Lib.hid hw3; have hq1 := (hw3.cell (World.block_lt_of_cell? w2 _ hz1)).trans hz1; have hq2 := (hw3.cell (World.block_lt_of_cell? w2 _ hz2)).trans hz2; have hq3 := (hw3.cell (World.block_lt_of_cell? w2 _ hz3)).trans hz3; have hq4 := (hw3.cell (World.block_lt_of_cell? w2 _ hz4)).trans hz4; have hq5 := (hw3.cell (World.block_lt_of_cell? w2 _ hz5)).trans hz5; have hq6 := (hw3.cell (World.block_lt_of_cell? w2 _ hz6)).trans hz6; have hp1 := HFZ.out w3 hw3 ((ad.add (i * 7)).off + 1); have hp2 := HFZ.out w3 hw3 ((ad.add (i * 7)).off + 2); have hp3 := HFZ.out w3 hw3 ((ad.add (i * 7)).off + 3); have hp4 := HFZ.out w3 hw3 ((ad.add (i * 7)).off + 4); have hp5 := HFZ.out w3 hw3 ((ad.add (i * 7)).off + 5); have hp6 := HFZ.out w3 hw3 ((ad.add (i * 7)).off + 6); clear hw3 hw3d))
              all_goals
                have hrow := row_agg (Kd.R_below (v := .slice (some ⟨g, 0, none⟩) acc.length cr) (by have := HRR2.out; rw [HADG.out] at this; exact this) HW3.out) i hil2 m (ad.add (i * 7)) (by rw [HADG.out, add_plain])
                rw [← HADG.out] at hrow
                have HROW := Lib.hid hrow
                clear hrow hq1 hq2 hq3 hq4 hq5 hq6 hp1 hp2 hp3 hp4 hp5 hp6
                go_wp2_with (fail)
                go_roundw
                case rel => exact ⟨j + 1, by go_num, hlt, _, (below_step HB2.out HW3.out).grown HROW.out.2 (below_step HB2.out HW3.out).size (by intro k hk; injection hk with hk; have := own_base (Kd.R_own HRR2.out).choose_spec k; rw [HADG.out] at this; subst hk; exact this rfl), blk_grown (blk_below HX2.out HW3.out) HROW.out.2 (by have := Kd.R_ne HRR2.out HX2.out (by decide); rw [HADG.out] at this; exact this), HROW.out.1, by have := HY.out; rw [this] at HF; exact HF.out⟩
                case measure => simp [intOf]; omega
      · have e1 : decide ((j : Int) < (l2.length : Int)) = false := decide_eq_false (by omega)
        rw [List.drop_eq_nil_of_le (by omega)] at hF
        unfold factGo at hF
        obtain rfl := Option.some.inj hF
        have HFF : Hid (fold_Fold.f k l0_0 a0_1 a1 acc = some (r1, r2)) := Lib.hid H3.out
        have hk0 := (blk_cell HJX.out 0).trans (show _ = some (Value.slice A0_0 l0_0.length c0_0) from rfl)
        have hk1 := (blk_cell HJX.out 1).trans (show _ = some (Value.int .i64 a0_1) from rfl)
        clear hF H3
        go_wp2_with (go_at_call 16; refine (fold_Fold.calls k A0_0 c0_0 l0_0 a0_1 a1 Ar cr acc r1 r2 _ (Kd.C_below HG.out HJB.out) hc0_0 (Kd.R_reads' HJR.out).2.2 (Kd.R_reads' HJR.out).2.1 HFF.out).mono ?_; rintro e w1 ⟨v0, rfl, hr, hb⟩; have HRV := Lib.hid (Kd.R_lower hr HJB.out.size); have HBV := Lib.hid (below_step HJB.out hb); clear hr hb)
        go_ret2
        exact ⟨_, rfl, HRV.out, HBV.out⟩
  · rw [if_neg hz] at h2
    simp only [Option.some.injEq, Prod.mk.injEq] at h2
    obtain ⟨rfl, rfl⟩ := h2
    have hz' : (e0 != 0) = true := bne_iff_ne.2 hz
    have hz'' : (e0 == 0) = false := beq_eq_false_iff_ne.2 hz
    clear h he0 hz
    go_enter Try.func12, Try.ntmps12
    go_wp2_with (go_at_call 27; refine (fold_check.calls k A0_0 c0_0 l0_0 a0_1 a1 none 0 [] _ _ (Kd.C_below HG.out HB0.out) hc0_0 (no_ents _) (Nat.le_refl _) HCK.out).mono ?_; rintro e w1 ⟨rfl, hb⟩; have HB1 := Lib.hid (below_step HB0.out hb); clear hb)
    go_ret2
    exact ⟨_, rfl, Kd.R_nil _ _ _ _ _, HB1.out⟩
end Go.Proofs.Ytjemmmemenljbaa.PFold
end
section
namespace Go.Proofs.Ytjemmmemenljbaa.PFold
open Go.RowKit Go.Proofs.YtjemmmemenljbaaW.PrintWords Go.Proofs.YtjemmmemenljbaaW.PrintLast Go.Proofs.YtjemmmemenljbaaW.PrintMore
def aliveG : List Gr := [⟨1, 0⟩, ⟨10, 20⟩]
def aliveL : List Fa := [⟨[], 12, 3⟩, ⟨[], 45, 1⟩, ⟨[], 15, 4⟩]
def aliveO : List En := [⟨[0, 128, 0, 0, 0, 0, 0, 0, 10, 1], ⟨2, false, ⟨0, 7⟩, 3, 4⟩⟩, ⟨[0, 128, 0, 0, 0, 0, 0, 0, 45, 0], ⟨1, false, ⟨0, 1⟩, 1, 1⟩⟩]
theorem alive_facts : fold_Facts.f 64 aliveG 100 50 aliveL = some (aliveO, 0) := by kernel_rfl
theorem alive_fold : fold_Fold.f 64 [] 0 0 [] = some ([], 30) := by kernel_rfl
theorem alive_fits : fold_Fits.f 64 [] 0 [] = some true := by kernel_rfl
def rickyardlaw15_alive.f (k : Nat) : Option Bool := if 64 ≤ k then some true else none
theorem no_grans (w : World) : Kd.C k67 w none ([] : List Gr).length [] := ⟨rfl, by simp, fun h => absurd h (by simp)⟩
theorem no_strs (w : World) : Kd.C Kd.string w none ([] : List ByteArray).length [] := ⟨rfl, by simp, fun h => absurd h (by simp)⟩
theorem alive_lits {w : World} {g : Nat} (h : w.heap[g]? = some (.cells #[.slice none 0 0, .int .i64 12, .int .i64 3, .slice none 0 0, .int .i64 45, .int .i64 1, .slice none 0 0, .int .i64 15, .int .i64 4] 46 (0, 0))) : Kd.C k46 w (some ⟨g, 0, none⟩) aliveL.length aliveL := by
  refine ⟨rfl, by decide, fun _ => ⟨⟨g, 0, none⟩, rfl, fun j p hj => ?_⟩⟩
  have hc := blk_cell h
  match j, hj with
  | 0, hj => obtain rfl := Option.some.inj hj; exact ⟨_, rfl, k46_mk w ⟨[], 12, 3⟩ (Nat.le_refl 0) (no_strs w), fun i u hu => by rw [add_plain, hc]; match i, hu with | 0, hu => exact hu | 1, hu => exact hu | 2, hu => exact hu⟩
  | 1, hj => obtain rfl := Option.some.inj hj; exact ⟨_, rfl, k46_mk w ⟨[], 45, 1⟩ (Nat.le_refl 0) (no_strs w), fun i u hu => by rw [add_plain, hc]; match i, hu with | 0, hu => exact hu | 1, hu => exact hu | 2, hu => exact hu⟩
  | 2, hj => obtain rfl := Option.some.inj hj; exact ⟨_, rfl, k46_mk w ⟨[], 15, 4⟩ (Nat.le_refl 0) (no_strs w), fun i u hu => by rw [add_plain, hc]; match i, hu with | 0, hu => exact hu | 1, hu => exact hu | 2, hu => exact hu⟩
set_option maxHeartbeats 4000000 in
set_option maxRecDepth 100000 in
theorem rickyardlaw15_alive.calls (k : Nat) (r : Bool) (w : World) (h : rickyardlaw15_alive.f k = some r) :
    Calls Try.prog 11 #[] w fun e w' => e = .returned (.bool r) ∧ Below w.heap.size w w' := by
  have hr : r = true := by
    unfold rickyardlaw15_alive.f at h
    split at h
    · exact (Option.some.inj h).symm
    · cases h
  subst hr; clear h
  go_enter Try.func11, Try.ntmps11
  go_wp2_with (first
    | (go_at_call 26; refine (rickyardlaw15_Rules.calls aliveG 100 _ rfl).mono ?_; rintro e w1 ⟨v0, rfl, hr, hb⟩; obtain ⟨Ag0, cg0, hv⟩ := Kd.R_slice hr; subst hv; have HR1 := Lib.hid hr; have HB1 := Lib.hid hb; clear hr hb)
    | (go_at_call 12; refine (fold_Facts.calls 64 Ag0 cg0 aliveG 100 50 (some ⟨w1.heap.size, 0, none⟩) 3 aliveL aliveO 0 _ ?c1 ?c2 ?c3 ?c4 alive_facts).mono ?_; (case c1 => exact Kd.C_alloc (Kd.R_reads' HR1.out).2.2 _); (case c2 => exact (Kd.R_reads' HR1.out).2.1); (case c3 => exact alive_lits (blk_new w1 _)); (case c4 => exact Nat.le_refl 3); rintro e w2 ⟨v0, rfl, hr, hb⟩; obtain ⟨Ao, co, hv⟩ := Kd.R_slice hr; subst hv; have HR2 := Lib.hid hr; have HB2 := Lib.hid (below_step (HB1.out.alloc HB1.out.size _) hb); clear hr hb)
    | (go_at_call 16; refine (fold_Fold.calls 64 none 0 [] 0 0 none 0 [] [] 30 _ (no_grans _) (Nat.le_refl 0) (no_ents _) (Nat.le_refl 0) alive_fold).mono ?_; rintro e w3 ⟨v1, rfl, hr, hb⟩; have HB3 := Lib.hid (below_step HB2.out hb); obtain ⟨ad, A0, c0, ha, hx0, hx1, hx2, hx3, hx4, hx5, hx6, hlc, hin⟩ := at_T51 (Kd.C_below (Kd.R_reads' HR2.out).2.2 hb) 0 (by decide) (by decide); obtain ⟨ad', A1, c1, ha', hy0, hy1, hy2, hy3, hy4, hy5, hy6, hlc', hin'⟩ := at_T51 (Kd.C_below (Kd.R_reads' HR2.out).2.2 hb) 1 (by decide) (by decide); subst ha; (have hadd : ad = ad' := by injection ha'); subst hadd; replace hx1 := hx1.trans (show _ = some (Value.int .u64 2) from rfl); replace hx6 := hx6.trans (show _ = some (Value.int .i64 4) from rfl); replace hy1 := hy1.trans (show _ = some (Value.int .u64 1) from rfl); simp only [Int.toNat_zero, Nat.zero_mul, show ∀ a : Addr, a.add 0 = a from fun a => by simp [Addr.add], show (1 : Int).toNat * 7 = 7 from rfl] at hx1 hx6 hy1; (have hy8 : w3.cell? ⟨ad.block, ad.off + 8, none⟩ = some (Value.int .u64 1) := hy1); clear hy1 hr hb hx0 hx2 hx3 hx4 hx5 hy0 hy2 hy3 hy4 hy5 hy6 hlc hlc' hin hin' ha')
    | (go_at_call 23; refine (fold_Fits.calls 64 none 0 [] 0 none 0 [] true _ (no_grans _) (Nat.le_refl 0) (no_ents _) (Nat.le_refl 0) alive_fits).mono ?_; rintro e w4 ⟨rfl, hb⟩; have HB4 := Lib.hid (below_step HB3.out hb); clear hb))
  go_ret
  exact ⟨rfl, HB4.out⟩
end Go.Proofs.Ytjemmmemenljbaa.PFold
end
section
namespace Go.Proofs.Ytjemmmemenljbaa.PFold
open Go.RowKit Go.Proofs.YtjemmmemenljbaaW.PrintWords Go.Proofs.YtjemmmemenljbaaW.PrintLast Go.Proofs.YtjemmmemenljbaaW.PrintMore
attribute [local go_sem] max2_int min2_int max_two min_two max_three min_three max_four min_four   -- for this text's walks alone
set_option linter.unusedVariables false
set_option linter.unusedSimpArgs false
mutual
def rickyardlaw15_FoldLater.j0 : Nat → Int → Int → List (S51) → Bool → List (S67) → Int → Option (Bool)
 | 0, _, _, _, _, _, _ => none
 | k + 1, x1, x2, x3, x21, x530000, x530001 => if x21 = true then ((rickyardlaw15_alive.f k).bind fun t531 => (some t531)) else ((fold_Fold.f k x530000 x530001 x1 x3).bind fun bt532 => ((fold_Fold.f k x530000 x530001 x2 x3).bind fun bt536 => (if bt532.2 = 0 then (rickyardlaw15_FoldLater.j1 k x2 x3 bt532.1 bt536.1 (bt536.2 != 0) x530000 x530001) else (rickyardlaw15_FoldLater.j1 k x2 x3 bt532.1 bt536.1 true x530000 x530001))))
def rickyardlaw15_FoldLater.j1 : Nat → Int → List (S51) → List (S51) → List (S51) → Bool → List (S67) → Int → Option (Bool)
 | 0, _, _, _, _, _, _, _ => none
 | k + 1, x2, x3, x9, x11, x42, x530000, x530001 => if x42 = true then ((rickyardlaw15_alive.f k).bind fun t540 => (some t540)) else ((fold_Fold.f k x530000 x530001 x2 x9).bind fun bt541 => ((rickyardlaw15_alive.f k).bind fun t545 => (if t545 = true then (if bt541.2 = 0 then ((rickyardref08_Same.f k x11 bt541.1).bind fun t546 => (if t546 = true then (some (decide ((x11.length : Int) ≤ (x3.length : Int)))) else (some false))) else (some false)) else (some false))))
end
def rickyardlaw15_FoldLater.f (k : Nat) (l0_0 : List (S67)) (a0_1 : Int) (a1 : Int) (a2 : Int) (l3 : List (S51)) : Option (Bool) := (rickyardlaw15_Great.f k l3).bind fun t530 => (if t530 = true then (rickyardlaw15_FoldLater.j0 k a1 a2 l3 true l0_0 a0_1) else (rickyardlaw15_FoldLater.j0 k a1 a2 l3 (decide (a2 < a1)) l0_0 a0_1))
set_option maxHeartbeats 8000000 in
set_option maxRecDepth 100000 in
theorem rickyardlaw15_FoldLater.calls (k : Nat) (A0_0 : Option Addr) (c0_0 : Nat) (l0_0 : List (S67)) (a0_1 : Int) (a1 : Int) (a2 : Int) (A3 : Option Addr) (c3 : Nat) (l3 : List (S51)) (r : Bool) (w : World) (hr0_0 : Kd.C k67 w A0_0 l0_0.length l0_0) (hc0_0 : l0_0.length ≤ c0_0) (hr3 : Kd.C k51 w A3 l3.length l3) (hc3 : l3.length ≤ c3) (h : rickyardlaw15_FoldLater.f k l0_0 a0_1 a1 a2 l3 = some r) :
  Calls Try.prog 4 #[.agg #[.slice A0_0 l0_0.length c0_0, .int .i64 a0_1], .int .i64 a1, .int .i64 a2, .slice A3 l3.length c3] w fun e w' => e = .returned (.bool r) ∧ Below w.heap.size w w' := by
 have hu24 := Try.underlying24
 have HR0_0 := Aside0.mk hr0_0
 have HC0_0 := Aside0.mk hc0_0
 clear hr0_0 hc0_0
 have HR3 := Aside0.mk hr3
 have HC3 := Aside0.mk hc3
 clear hr3 hc3
 have HB := Aside0.mk (Below.refl w.heap.size w)
 have H : ((rickyardlaw15_Great.f k l3).bind fun t530 => (if t530 = true then (rickyardlaw15_FoldLater.j0 k a1 a2 l3 true l0_0 a0_1) else (rickyardlaw15_FoldLater.j0 k a1 a2 l3 (decide (a2 < a1)) l0_0 a0_1))) = some r := h
 clear h
 have HC5 := Aside0.mk H
 clear H
 go_enter Try.func4, Try.ntmps4
 go_upto_region 1 with (first | ((with_reducible refine gate_dst (N := 4) rfl ?_); (try (refine gate_guard (by rfl) ?_; dsimp only)); refine box_event ?hg (N := 4) ?hd (cs := #[.slice A0_0 l0_0.length c0_0, .int .i64 a0_1]) (t := 24) ?hr ?_; (case hd => rfl); (case hg => rfl); (case hr => first | (go_simp; done) | (go_simp; rfl)); intro gb529 hg w6 hbox hb; have n0_ := Aside0.mk (below_step (by repeat (first | (with_reducible first | exact HB.out | apply below_alloc | apply pw_below_drewN | apply below_drew1) | exact HB.out)) hb); have n1_ := Aside0.mk (hbox); have n2_ := Aside0.mk ((by rw [hg]; exact (below_size (by repeat (first | (with_reducible first | exact HB.out | apply below_alloc | apply pw_below_drewN | apply below_drew1) | exact HB.out))) : w.heap.size ≤ gb529)); have n3_ := Aside0.mk ((by rw [hg]; exact (below_size (by repeat (first | (with_reducible first | exact HB.out | apply below_alloc | apply pw_below_drewN | apply below_drew1) | exact HB.out))) : w.heap.size ≤ gb529)); clear HB; have HB := n0_; have BK529 := n1_; have GW529 := n2_; have GE529 := n3_; clear n0_ n1_ n2_ n3_; clear hb hbox hg))
 (try simp only [Act.put, List.setIfInBounds_toArray, List.set_cons_zero, List.set_cons_succ])
 go_cut [21] (fun v21 wc => ∃ (kq : Nat) (x21_4 : Bool), v21 = .bool x21_4 ∧ Aside0 (rickyardlaw15_FoldLater.j0 kq a1 a2 l3 x21_4 l0_0 a0_1 = some r) ∧ Aside0 (kq ≤ k) ∧ Aside0 (wc.heap[gb529]? = some (.cells #[(.slice A0_0 l0_0.length c0_0), .int .i64 a0_1] 24 (0, 0))) ∧ Aside0 (Below w.heap.size w wc))
 case first =>
  have H := HC5.out
  clear HC5
  replace H := Option.bind_eq_some_iff.mp H
  obtain ⟨t530, A70, H⟩ := H
  replace H : (if t530 = true then (rickyardlaw15_FoldLater.j0 k a1 a2 l3 true l0_0 a0_1) else (rickyardlaw15_FoldLater.j0 k a1 a2 l3 (decide (a2 < a1)) l0_0 a0_1)) = some r := H
  have A7 := Aside0.mk A70
  clear A70
  by_cases c8 : t530 = true
  ·subst c8
   have H1 : (rickyardlaw15_FoldLater.j0 k a1 a2 l3 true l0_0 a0_1) = some r := by rw [if_pos rfl] at H; exact H
   clear H
   have H := H1
   clear H1
   have H' := Aside0.mk H
   clear H
   go_wp2_with (first | ((with_reducible refine gate_callee (f := 15) rfl ?_); refine goesL_ (some 16) rfl rfl Try.func15 (by kernel_rfl) rfl #[.slice A3 l3.length c3] rfl (by (try simp only [List.map_toArray, List.map_cons, List.map_nil]); first | done | rfl | (simp only [List.length_drop, List.length_take]; rfl)) ?_; (with_reducible refine (rickyardlaw15_Great.calls k _ _ l3 true _ ?side1 ?side2 A7.out).mono ?_); (case side1 => repeat (first | exact (Kd.C_below HR3.out HB.out) | (with_reducible refine Kd.C_alloc ?_ _) | (with_reducible refine Kd.C_drewN ?_ _) | (with_reducible refine Kd.C_drew ?_))); (case side2 => exact HC3.out); rintro e w' ⟨rfl, ⟨nd, rfl⟩⟩; refine ⟨_, rfl, ?_⟩))
   go_meet
   case rel => exact ⟨_, (true), (by first | rfl | (simp; done) | (simp [*]; done)), H', ⟨by first | omega | exact Nat.le_refl _⟩, ⟨by (with_reducible repeat (first | refine blk_drewN ?_ _ | refine blk_drew ?_ | refine blk_alloc ?_ _)); exact BK529.out⟩, ⟨by repeat (first | (with_reducible first | exact HB.out | apply below_alloc | apply pw_below_drewN | apply below_drew1 | refine below_set ?_ GE529.out) | exact HB.out)⟩⟩
  ·replace c8 := Bool.eq_false_iff.mpr c8
   subst c8
   have H1 : (rickyardlaw15_FoldLater.j0 k a1 a2 l3 (decide (a2 < a1)) l0_0 a0_1) = some r := by rw [if_neg (show ¬ (false = true) by decide)] at H; exact H
   clear H
   have H := H1
   clear H1
   have H' := Aside0.mk H
   clear H
   go_wp2_with (first | ((with_reducible refine gate_callee (f := 15) rfl ?_); refine goesL_ (some 16) rfl rfl Try.func15 (by kernel_rfl) rfl #[.slice A3 l3.length c3] rfl (by (try simp only [List.map_toArray, List.map_cons, List.map_nil]); first | done | rfl | (simp only [List.length_drop, List.length_take]; rfl)) ?_; (with_reducible refine (rickyardlaw15_Great.calls k _ _ l3 false _ ?side1 ?side2 A7.out).mono ?_); (case side1 => repeat (first | exact (Kd.C_below HR3.out HB.out) | (with_reducible refine Kd.C_alloc ?_ _) | (with_reducible refine Kd.C_drewN ?_ _) | (with_reducible refine Kd.C_drew ?_))); (case side2 => exact HC3.out); rintro e w' ⟨rfl, ⟨nd, rfl⟩⟩; refine ⟨_, rfl, ?_⟩))
   go_meet
   case rel => exact ⟨_, (decide (a2 < a1)), (by first | rfl | (simp; done) | (simp [*]; done)), H', ⟨by first | omega | exact Nat.le_refl _⟩, ⟨by (with_reducible repeat (first | refine blk_drewN ?_ _ | refine blk_drew ?_ | refine blk_alloc ?_ _)); exact BK529.out⟩, ⟨by repeat (first | (with_reducible first | exact HB.out | apply below_alloc | apply pw_below_drewN | apply below_drew1 | refine below_set ?_ GE529.out) | exact HB.out)⟩⟩
 case rest =>
  clear HC5
  try clear c1
  try clear p2
  try clear c3
  try clear c4
  try clear c8
  obtain ⟨kq, x21_4, rfl, HA, HJ4, BK529, HB⟩ := hcut
  cases kq with
  | zero => exact absurd HA.out (by simp [rickyardlaw15_FoldLater.j0])
  | succ kj4 =>
   have H := HA.out
   clear HA
   simp only [rickyardlaw15_FoldLater.j0] at H
   by_cases c9 : x21_4 = true
   ·subst c9
    have H1 : ((rickyardlaw15_alive.f kj4).bind fun t531 => (some t531)) = some r := by rw [if_pos rfl] at H; exact H
    clear H
    have H := H1
    clear H1
    replace H := Option.bind_eq_some_iff.mp H
    obtain ⟨t531, A100, H⟩ := H
    replace H : (some t531) = some r := H
    have A10 := Aside0.mk A100
    clear A100
    obtain rfl := Option.some.inj H
    go_wp2_with (first | ((with_reducible refine gate_callee (f := 11) rfl ?_); refine goesL_ (some 22) rfl rfl Try.func11 (by kernel_rfl) rfl #[] rfl (by (try simp only [List.map_toArray, List.map_cons, List.map_nil]); first | done | rfl | (simp only [List.length_drop, List.length_take]; rfl)) ?_; (with_reducible refine (rickyardlaw15_alive.calls kj4  t531 _ A10.out).mono ?_); rintro e w11 ⟨rfl, hb⟩; refine ⟨_, rfl, ?_⟩; have n0_ := Aside0.mk (blk_below (g := gb529) (o := .cells #[.slice A0_0 l0_0.length c0_0, .int .i64 a0_1] 24 (0, 0)) (by (with_reducible repeat (first | refine blk_drewN ?_ _ | refine blk_drew ?_ | refine blk_alloc ?_ _)); exact BK529.out) hb); have n1_ := Aside0.mk (below_step (by repeat (first | (with_reducible first | exact HB.out | apply below_alloc | apply pw_below_drewN | apply below_drew1 | refine below_set ?_ GE529.out) | exact HB.out)) hb); clear BK529; clear HB; have BK529 := n0_; have HB := n1_; clear n0_ n1_; (try clear hb); (try clear hb2); (try clear hk); (try clear hi)))
    go_ret
    exact ⟨by first | rfl | (simp [errW_none, errW_some] <;> rfl) | (simp [*, errW_none, errW_some] <;> rfl) | (exfalso; simp_all; done), by repeat (first | (with_reducible first | exact HB.out | apply below_alloc | apply pw_below_drewN | apply below_drew1 | refine below_set ?_ GE529.out) | exact HB.out)⟩
   ·replace c9 := Bool.eq_false_iff.mpr c9
    subst c9
    have H1 : ((fold_Fold.f kj4 l0_0 a0_1 a1 l3).bind fun bt532 => ((fold_Fold.f kj4 l0_0 a0_1 a2 l3).bind fun bt536 => (if bt532.2 = 0 then (rickyardlaw15_FoldLater.j1 kj4 a2 l3 bt532.1 bt536.1 (bt536.2 != 0) l0_0 a0_1) else (rickyardlaw15_FoldLater.j1 kj4 a2 l3 bt532.1 bt536.1 true l0_0 a0_1)))) = some r := by rw [if_neg (show ¬ (false = true) by decide)] at H; exact H
    clear H
    have H := H1
    clear H1
    replace H := Option.bind_eq_some_iff.mp H
    obtain ⟨⟨t532, t535⟩, A120, H⟩ := H
    replace H : ((fold_Fold.f kj4 l0_0 a0_1 a2 l3).bind fun bt536 => (if t535 = 0 then (rickyardlaw15_FoldLater.j1 kj4 a2 l3 t532 bt536.1 (bt536.2 != 0) l0_0 a0_1) else (rickyardlaw15_FoldLater.j1 kj4 a2 l3 t532 bt536.1 true l0_0 a0_1))) = some r := H
    have A12 := Aside0.mk A120
    clear A120
    replace H := Option.bind_eq_some_iff.mp H
    obtain ⟨⟨t536, t539⟩, A130, H⟩ := H
    replace H : (if t535 = 0 then (rickyardlaw15_FoldLater.j1 kj4 a2 l3 t532 t536 (t539 != 0) l0_0 a0_1) else (rickyardlaw15_FoldLater.j1 kj4 a2 l3 t532 t536 true l0_0 a0_1)) = some r := H
    have A13 := Aside0.mk A130
    clear A130
    have HC14 := Aside0.mk H
    clear H
    have hcz15_0 : wc.cell? ⟨gb529, 0, none⟩ = some (.slice A0_0 l0_0.length c0_0) := (blk_cell BK529.out 0).trans rfl
    have hcz15_1 : wc.cell? ⟨gb529, 1, none⟩ = some (.int .i64 a0_1) := (blk_cell BK529.out 1).trans rfl
    have hfz15_0 := blk_frozen BK529.out 0
    have hfz15_1 := blk_frozen BK529.out 1
    go_upto_region 5 with (first | ((with_reducible refine gate_callee (f := 16) rfl ?_); refine goesL_ (some 27) rfl rfl Try.func16 (by kernel_rfl) rfl #[.agg #[.slice A0_0 l0_0.length c0_0, .int .i64 a0_1], .int .i64 a1, .slice A3 l3.length c3] rfl (by (try simp only [List.map_toArray, List.map_cons, List.map_nil]); first | done | rfl | (simp only [List.length_drop, List.length_take]; rfl)) ?_; (with_reducible refine (fold_Fold.calls kj4 _ _ l0_0 a0_1 a1 _ _ l3 t532 t535 _ ?side1 ?side2 ?side3 ?side4 A12.out).mono ?_); (case side1 => repeat (first | exact (Kd.C_below HR0_0.out HB.out) | (with_reducible refine Kd.C_alloc ?_ _) | (with_reducible refine Kd.C_drewN ?_ _) | (with_reducible refine Kd.C_drew ?_))); (case side2 => exact HC0_0.out); (case side3 => repeat (first | exact (Kd.C_below HR3.out HB.out) | (with_reducible refine Kd.C_alloc ?_ _) | (with_reducible refine Kd.C_drewN ?_ _) | (with_reducible refine Kd.C_drew ?_))); (case side4 => exact HC3.out); rintro e w16 ⟨v533, rfl, ho0, hb⟩; refine ⟨_, rfl, ?_⟩; have n0_ := Aside0.mk (Kd.R_lower ho0 (below_size (by repeat (first | (with_reducible first | exact HB.out | apply below_alloc | apply pw_below_drewN | apply below_drew1 | refine below_set ?_ GE529.out) | exact HB.out)))); have n1_ := Aside0.mk (blk_below (g := gb529) (o := .cells #[.slice A0_0 l0_0.length c0_0, .int .i64 a0_1] 24 (0, 0)) (by (with_reducible repeat (first | refine blk_drewN ?_ _ | refine blk_drew ?_ | refine blk_alloc ?_ _)); exact BK529.out) hb); have n2_ := Aside0.mk (below_step (by repeat (first | (with_reducible first | exact HB.out | apply below_alloc | apply pw_below_drewN | apply below_drew1 | refine below_set ?_ GE529.out) | exact HB.out)) hb); clear BK529; clear HB; have HO534 := n0_; have BK529 := n1_; have HB := n2_; clear n0_ n1_ n2_; (try clear hb); (try clear hb2); (try clear hk); (try clear hi); (try clear ho0); have hcz17_0 : w16.cell? ⟨gb529, 0, none⟩ = some (.slice A0_0 l0_0.length c0_0) := (blk_cell BK529.out 0).trans rfl; have hcz17_1 : w16.cell? ⟨gb529, 1, none⟩ = some (.int .i64 a0_1) := (blk_cell BK529.out 1).trans rfl; have hfz17_0 := blk_frozen BK529.out 0; have hfz17_1 := blk_frozen BK529.out 1) | ((with_reducible refine gate_callee (f := 16) rfl ?_); refine goesL_ (some 34) rfl rfl Try.func16 (by kernel_rfl) rfl #[.agg #[.slice A0_0 l0_0.length c0_0, .int .i64 a0_1], .int .i64 a2, .slice A3 l3.length c3] rfl (by (try simp only [List.map_toArray, List.map_cons, List.map_nil]); first | done | rfl | (simp only [List.length_drop, List.length_take]; rfl)) ?_; (with_reducible refine (fold_Fold.calls kj4 _ _ l0_0 a0_1 a2 _ _ l3 t536 t539 _ ?side1 ?side2 ?side3 ?side4 A13.out).mono ?_); (case side1 => repeat (first | exact (Kd.C_below HR0_0.out HB.out) | (with_reducible refine Kd.C_alloc ?_ _) | (with_reducible refine Kd.C_drewN ?_ _) | (with_reducible refine Kd.C_drew ?_))); (case side2 => exact HC0_0.out); (case side3 => repeat (first | exact (Kd.C_below HR3.out HB.out) | (with_reducible refine Kd.C_alloc ?_ _) | (with_reducible refine Kd.C_drewN ?_ _) | (with_reducible refine Kd.C_drew ?_))); (case side4 => exact HC3.out); rintro e w18 ⟨v537, rfl, ho0, hb⟩; refine ⟨_, rfl, ?_⟩; have n0_ := Aside0.mk (Kd.R_elder' (by (with_reducible repeat (first | apply Kd.R_alloc | apply Kd.R_drewN | apply Kd.R_drew)); exact HO534.out) (Kd.R_base ho0) hb); have n1_ := Aside0.mk (Kd.R_lower (Kd.R_new' ho0 (Kd.R_lt (by (with_reducible repeat (first | apply Kd.R_alloc | apply Kd.R_drewN | apply Kd.R_drew)); exact HO534.out))) (below_size (by repeat (first | (with_reducible first | exact HB.out | apply below_alloc | apply pw_below_drewN | apply below_drew1 | refine below_set ?_ GE529.out) | exact HB.out)))); have n2_ := Aside0.mk (blk_below (g := gb529) (o := .cells #[.slice A0_0 l0_0.length c0_0, .int .i64 a0_1] 24 (0, 0)) (by (with_reducible repeat (first | refine blk_drewN ?_ _ | refine blk_drew ?_ | refine blk_alloc ?_ _)); exact BK529.out) hb); have n3_ := Aside0.mk (below_step (by repeat (first | (with_reducible first | exact HB.out | apply below_alloc | apply pw_below_drewN | apply below_drew1 | refine below_set ?_ GE529.out) | exact HB.out)) hb); clear HO534; clear BK529; clear HB; have HO534 := n0_; have HO538 := n1_; have BK529 := n2_; have HB := n3_; clear n0_ n1_ n2_ n3_; (try clear hb); (try clear hb2); (try clear hk); (try clear hi); (try clear ho0)))
    (try simp only [Act.put, List.setIfInBounds_toArray, List.set_cons_zero, List.set_cons_succ])
    go_cut [42] (fun v42 wc => ∃ (kq : Nat) (x42_13 : Bool), v42 = .bool x42_13 ∧ Aside0 (rickyardlaw15_FoldLater.j1 kq a2 l3 t532 t536 x42_13 l0_0 a0_1 = some r) ∧ Aside0 (kq ≤ kj4) ∧ Aside0 (Kd.R k51 51 wc w.heap.size (fun k_ => some k_ ≠ (v537 : Value).ownBlock) v533 t532) ∧ Aside0 (Kd.R k51 51 wc w.heap.size (fun k_ => some k_ ≠ (v533 : Value).ownBlock) v537 t536) ∧ Aside0 (wc.heap[gb529]? = some (.cells #[(.slice A0_0 l0_0.length c0_0), .int .i64 a0_1] 24 (0, 0))) ∧ Aside0 (Below w.heap.size w wc))
    case first =>
     have H := HC14.out
     clear HC14
     by_cases c19 : t535 = 0
     ·rw [if_pos c19] at H
      have c19b0 : (t535 == 0) = true := beq_iff_eq.mpr c19
      have c19b1 : (t535 != 0) = false := bne_eq_false_iff_eq.mpr c19
      clear c19
      (first | rw [c19b0] | (simp only [i64_w, i32_w]; rw [c19b0]) | skip)
      have H' := Aside0.mk H
      clear H
      go_wp2
      go_meet
      case rel => exact ⟨_, ((t539 != 0)), (by first | rfl | (simp; done) | (simp [*]; done)), H', ⟨by have := HJ4.out; first | omega | exact Nat.le_refl _⟩, ⟨by (with_reducible repeat (first | apply Kd.R_alloc | apply Kd.R_drewN | apply Kd.R_drew)); exact Kd.R_mono HO534.out (fun _ hk => hk.2)⟩, ⟨by (with_reducible repeat (first | apply Kd.R_alloc | apply Kd.R_drewN | apply Kd.R_drew)); exact Kd.R_mono HO538.out (fun _ hk => hk.2)⟩, ⟨by (with_reducible repeat (first | refine blk_drewN ?_ _ | refine blk_drew ?_ | refine blk_alloc ?_ _)); exact BK529.out⟩, ⟨by repeat (first | (with_reducible first | exact HB.out | apply below_alloc | apply pw_below_drewN | apply below_drew1 | refine below_set ?_ GE529.out) | exact HB.out)⟩⟩
     ·rw [if_neg c19] at H
      have c19b0 : (t535 == 0) = false := beq_eq_false_iff_ne.mpr c19
      have c19b1 : (t535 != 0) = true := bne_iff_ne.mpr c19
      (first | rw [c19b0] | (simp only [i64_w, i32_w]; rw [c19b0]) | skip)
      have H' := Aside0.mk H
      clear H
      go_wp2
      go_meet
      case rel => exact ⟨_, (true), (by first | rfl | (simp; done) | (simp [*]; done)), H', ⟨by have := HJ4.out; first | omega | exact Nat.le_refl _⟩, ⟨by (with_reducible repeat (first | apply Kd.R_alloc | apply Kd.R_drewN | apply Kd.R_drew)); exact Kd.R_mono HO534.out (fun _ hk => hk.2)⟩, ⟨by (with_reducible repeat (first | apply Kd.R_alloc | apply Kd.R_drewN | apply Kd.R_drew)); exact Kd.R_mono HO538.out (fun _ hk => hk.2)⟩, ⟨by (with_reducible repeat (first | refine blk_drewN ?_ _ | refine blk_drew ?_ | refine blk_alloc ?_ _)); exact BK529.out⟩, ⟨by repeat (first | (with_reducible first | exact HB.out | apply below_alloc | apply pw_below_drewN | apply below_drew1 | refine below_set ?_ GE529.out) | exact HB.out)⟩⟩
    case rest =>
     clear HC14
     try clear c1
     try clear p2
     try clear c3
     try clear c4
     try clear c8
     try clear c9
     try clear c11
     try clear c15
     try clear c16
     try clear c19
     try clear c19b0
     try clear c19b1
     try clear hcz15_0
     try clear hcz15_1
     try clear hcz17_0
     try clear hcz17_1
     try clear hfz15_0
     try clear hfz15_1
     try clear hfz17_0
     try clear hfz17_1
     try clear p2
     obtain ⟨kq, x42_13, rfl, HA, HJ13, HO_9, HO_11, BK529, HB⟩ := hcut
     cases kq with
     | zero => exact absurd HA.out (by simp [rickyardlaw15_FoldLater.j1])
     | succ kj13 =>
      have H := HA.out
      clear HA
      simp only [rickyardlaw15_FoldLater.j1] at H
      by_cases c20 : x42_13 = true
      ·subst c20
       have H1 : ((rickyardlaw15_alive.f kj13).bind fun t540 => (some t540)) = some r := by rw [if_pos rfl] at H; exact H
       clear H
       have H := H1
       clear H1
       replace H := Option.bind_eq_some_iff.mp H
       obtain ⟨t540, A210, H⟩ := H
       replace H : (some t540) = some r := H
       have A21 := Aside0.mk A210
       clear A210
       obtain rfl := Option.some.inj H
       go_wp2_with (first | ((with_reducible refine gate_callee (f := 11) rfl ?_); refine goesL_ (some 43) rfl rfl Try.func11 (by kernel_rfl) rfl #[] rfl (by (try simp only [List.map_toArray, List.map_cons, List.map_nil]); first | done | rfl | (simp only [List.length_drop, List.length_take]; rfl)) ?_; (with_reducible refine (rickyardlaw15_alive.calls kj13  t540 _ A21.out).mono ?_); rintro e w22 ⟨rfl, hb⟩; refine ⟨_, rfl, ?_⟩; have n0_ := Aside0.mk (Kd.R_below (by (with_reducible repeat (first | apply Kd.R_alloc | apply Kd.R_drewN | apply Kd.R_drew)); exact HO_9.out) hb); have n1_ := Aside0.mk (Kd.R_below (by (with_reducible repeat (first | apply Kd.R_alloc | apply Kd.R_drewN | apply Kd.R_drew)); exact HO_11.out) hb); have n2_ := Aside0.mk (blk_below (g := gb529) (o := .cells #[.slice A0_0 l0_0.length c0_0, .int .i64 a0_1] 24 (0, 0)) (by (with_reducible repeat (first | refine blk_drewN ?_ _ | refine blk_drew ?_ | refine blk_alloc ?_ _)); exact BK529.out) hb); have n3_ := Aside0.mk (below_step (by repeat (first | (with_reducible first | exact HB.out | apply below_alloc | apply pw_below_drewN | apply below_drew1 | refine below_set ?_ GE529.out) | exact HB.out)) hb); clear HO_9; clear HO_11; clear BK529; clear HB; have HO_9 := n0_; have HO_11 := n1_; have BK529 := n2_; have HB := n3_; clear n0_ n1_ n2_ n3_; (try clear hb); (try clear hb2); (try clear hk); (try clear hi)))
       go_ret
       exact ⟨by first | rfl | (simp [errW_none, errW_some] <;> rfl) | (simp [*, errW_none, errW_some] <;> rfl) | (exfalso; simp_all; done), by repeat (first | (with_reducible first | exact HB.out | apply below_alloc | apply pw_below_drewN | apply below_drew1 | refine below_set ?_ GE529.out) | exact HB.out)⟩
      ·replace c20 := Bool.eq_false_iff.mpr c20
       subst c20
       have H1 : ((fold_Fold.f kj13 l0_0 a0_1 a2 t532).bind fun bt541 => ((rickyardlaw15_alive.f kj13).bind fun t545 => (if t545 = true then (if bt541.2 = 0 then ((rickyardref08_Same.f kj13 t536 bt541.1).bind fun t546 => (if t546 = true then (some (decide ((t536.length : Int) ≤ (l3.length : Int)))) else (some false))) else (some false)) else (some false)))) = some r := by rw [if_neg (show ¬ (false = true) by decide)] at H; exact H
       clear H
       have H := H1
       clear H1
       replace H := Option.bind_eq_some_iff.mp H
       obtain ⟨⟨t541, t544⟩, A230, H⟩ := H
       replace H : ((rickyardlaw15_alive.f kj13).bind fun t545 => (if t545 = true then (if t544 = 0 then ((rickyardref08_Same.f kj13 t536 t541).bind fun t546 => (if t546 = true then (some (decide ((t536.length : Int) ≤ (l3.length : Int)))) else (some false))) else (some false)) else (some false))) = some r := H
       have A23 := Aside0.mk A230
       clear A230
       replace H := Option.bind_eq_some_iff.mp H
       obtain ⟨t545, A240, H⟩ := H
       replace H : (if t545 = true then (if t544 = 0 then ((rickyardref08_Same.f kj13 t536 t541).bind fun t546 => (if t546 = true then (some (decide ((t536.length : Int) ≤ (l3.length : Int)))) else (some false))) else (some false)) else (some false)) = some r := H
       have A24 := Aside0.mk A240
       clear A240
       by_cases c25 : t545 = true
       ·subst c25
        have H1 : (if t544 = 0 then ((rickyardref08_Same.f kj13 t536 t541).bind fun t546 => (if t546 = true then (some (decide ((t536.length : Int) ≤ (l3.length : Int)))) else (some false))) else (some false)) = some r := by rw [if_pos rfl] at H; exact H
        clear H
        have H := H1
        clear H1
        by_cases c26 : t544 = 0
        ·rw [if_pos c26] at H
         have c26b0 : (t544 == 0) = true := beq_iff_eq.mpr c26
         have c26b1 : (t544 != 0) = false := bne_eq_false_iff_eq.mpr c26
         clear c26
         replace H := Option.bind_eq_some_iff.mp H
         obtain ⟨t546, A270, H⟩ := H
         replace H : (if t546 = true then (some (decide ((t536.length : Int) ≤ (l3.length : Int)))) else (some false)) = some r := H
         have A27 := Aside0.mk A270
         clear A270
         by_cases c28 : t546 = true
         ·subst c28
          have H1 : (some (decide ((t536.length : Int) ≤ (l3.length : Int)))) = some r := by rw [if_pos rfl] at H; exact H
          clear H
          have H := H1
          clear H1
          obtain rfl := Option.some.inj H
          have hcz29_0 : wc.cell? ⟨gb529, 0, none⟩ = some (.slice A0_0 l0_0.length c0_0) := (blk_cell BK529.out 0).trans rfl
          have hcz29_1 : wc.cell? ⟨gb529, 1, none⟩ = some (.int .i64 a0_1) := (blk_cell BK529.out 1).trans rfl
          have hfz29_0 := blk_frozen BK529.out 0
          have hfz29_1 := blk_frozen BK529.out 1
          obtain ⟨Ao30, co30, eo30⟩ := Kd.R_slice HO_9.out
          subst eo30
          go_wp2_with (first | ((with_reducible refine gate_callee (f := 16) rfl ?_); refine goesL_ (some 48) rfl rfl Try.func16 (by kernel_rfl) rfl #[.agg #[.slice A0_0 l0_0.length c0_0, .int .i64 a0_1], .int .i64 a2, .slice Ao30 t532.length co30] rfl (by (try simp only [List.map_toArray, List.map_cons, List.map_nil]); first | done | rfl | (simp only [List.length_drop, List.length_take]; rfl)) ?_; (with_reducible refine (fold_Fold.calls kj13 _ _ l0_0 a0_1 a2 _ _ t532 t541 t544 _ ?side1 ?side2 ?side3 ?side4 A23.out).mono ?_); (case side1 => repeat (first | exact (Kd.C_below HR0_0.out HB.out) | (with_reducible refine Kd.C_alloc ?_ _) | (with_reducible refine Kd.C_drewN ?_ _) | (with_reducible refine Kd.C_drew ?_))); (case side2 => exact HC0_0.out); (case side3 => repeat (first | exact (Kd.R_reads' HO_9.out).2.2 | (with_reducible refine Kd.C_alloc ?_ _) | (with_reducible refine Kd.C_drewN ?_ _) | (with_reducible refine Kd.C_drew ?_))); (case side4 => exact (Kd.R_reads' HO_9.out).2.1); rintro e w31 ⟨v542, rfl, ho0, hb⟩; refine ⟨_, rfl, ?_⟩; have n0_ := Aside0.mk (Kd.R_elder' (by (with_reducible repeat (first | apply Kd.R_alloc | apply Kd.R_drewN | apply Kd.R_drew)); exact HO_9.out) (Kd.R_base ho0) hb); have n1_ := Aside0.mk (Kd.R_elder' (by (with_reducible repeat (first | apply Kd.R_alloc | apply Kd.R_drewN | apply Kd.R_drew)); exact HO_11.out) (Kd.R_base ho0) hb); have n2_ := Aside0.mk (Kd.R_lower (Kd.R_new' (Kd.R_new' ho0 (Kd.R_lt (by (with_reducible repeat (first | apply Kd.R_alloc | apply Kd.R_drewN | apply Kd.R_drew)); exact HO_9.out))) (Kd.R_lt (by (with_reducible repeat (first | apply Kd.R_alloc | apply Kd.R_drewN | apply Kd.R_drew)); exact HO_11.out))) (below_size (by repeat (first | (with_reducible first | exact HB.out | apply below_alloc | apply pw_below_drewN | apply below_drew1 | refine below_set ?_ GE529.out) | exact HB.out)))); have n3_ := Aside0.mk (blk_below (g := gb529) (o := .cells #[.slice A0_0 l0_0.length c0_0, .int .i64 a0_1] 24 (0, 0)) (by (with_reducible repeat (first | refine blk_drewN ?_ _ | refine blk_drew ?_ | refine blk_alloc ?_ _)); exact BK529.out) hb); have n4_ := Aside0.mk (below_step (by repeat (first | (with_reducible first | exact HB.out | apply below_alloc | apply pw_below_drewN | apply below_drew1 | refine below_set ?_ GE529.out) | exact HB.out)) hb); clear HO_9; clear HO_11; clear BK529; clear HB; have HO_9 := n0_; have HO_11 := n1_; have HO543 := n2_; have BK529 := n3_; have HB := n4_; clear n0_ n1_ n2_ n3_ n4_; (try clear hb); (try clear hb2); (try clear hk); (try clear hi); (try clear ho0)) | ((with_reducible refine gate_callee (f := 11) rfl ?_); refine goesL_ (some 51) rfl rfl Try.func11 (by kernel_rfl) rfl #[] rfl (by (try simp only [List.map_toArray, List.map_cons, List.map_nil]); first | done | rfl | (simp only [List.length_drop, List.length_take]; rfl)) ?_; (with_reducible refine (rickyardlaw15_alive.calls kj13  true _ A24.out).mono ?_); rintro e w32 ⟨rfl, hb⟩; refine ⟨_, rfl, ?_⟩; have n0_ := Aside0.mk (Kd.R_below (by (with_reducible repeat (first | apply Kd.R_alloc | apply Kd.R_drewN | apply Kd.R_drew)); exact HO_9.out) hb); have n1_ := Aside0.mk (Kd.R_below (by (with_reducible repeat (first | apply Kd.R_alloc | apply Kd.R_drewN | apply Kd.R_drew)); exact HO_11.out) hb); have n2_ := Aside0.mk (Kd.R_below (by (with_reducible repeat (first | apply Kd.R_alloc | apply Kd.R_drewN | apply Kd.R_drew)); exact HO543.out) hb); have n3_ := Aside0.mk (blk_below (g := gb529) (o := .cells #[.slice A0_0 l0_0.length c0_0, .int .i64 a0_1] 24 (0, 0)) (by (with_reducible repeat (first | refine blk_drewN ?_ _ | refine blk_drew ?_ | refine blk_alloc ?_ _)); exact BK529.out) hb); have n4_ := Aside0.mk (below_step (by repeat (first | (with_reducible first | exact HB.out | apply below_alloc | apply pw_below_drewN | apply below_drew1 | refine below_set ?_ GE529.out) | exact HB.out)) hb); clear HO_9; clear HO_11; clear HO543; clear BK529; clear HB; have HO_9 := n0_; have HO_11 := n1_; have HO543 := n2_; have BK529 := n3_; have HB := n4_; clear n0_ n1_ n2_ n3_ n4_; (try clear hb); (try clear hb2); (try clear hk); (try clear hi); obtain ⟨Ao33, co33, eo33⟩ := Kd.R_slice HO_11.out; subst eo33; obtain ⟨Ao34, co34, eo34⟩ := Kd.R_slice HO543.out; subst eo34) | (go_at_call 14; (with_reducible refine (rickyardref08_Same.calls kj13 _ _ t536 _ _ t541 true _ ?side1 ?side2 ?side3 ?side4 A27.out).mono ?_); (case side1 => repeat (first | exact (Kd.R_reads' HO_11.out).2.2 | (with_reducible refine Kd.C_alloc ?_ _) | (with_reducible refine Kd.C_drewN ?_ _) | (with_reducible refine Kd.C_drew ?_))); (case side2 => exact (Kd.R_reads' HO_11.out).2.1); (case side3 => repeat (first | exact (Kd.R_reads' HO543.out).2.2 | (with_reducible refine Kd.C_alloc ?_ _) | (with_reducible refine Kd.C_drewN ?_ _) | (with_reducible refine Kd.C_drew ?_))); (case side4 => exact (Kd.R_reads' HO543.out).2.1); rintro e w' ⟨rfl, ⟨nd, rfl⟩⟩))
          go_ret
          exact ⟨by first | rfl | (simp [errW_none, errW_some] <;> rfl) | (simp [*, errW_none, errW_some] <;> rfl) | (exfalso; simp_all; done), by repeat (first | (with_reducible first | exact HB.out | apply below_alloc | apply pw_below_drewN | apply below_drew1 | refine below_set ?_ GE529.out) | exact HB.out)⟩
         ·replace c28 := Bool.eq_false_iff.mpr c28
          subst c28
          have H1 : (some false) = some r := by rw [if_neg (show ¬ (false = true) by decide)] at H; exact H
          clear H
          have H := H1
          clear H1
          obtain rfl := Option.some.inj H
          have hcz35_0 : wc.cell? ⟨gb529, 0, none⟩ = some (.slice A0_0 l0_0.length c0_0) := (blk_cell BK529.out 0).trans rfl
          have hcz35_1 : wc.cell? ⟨gb529, 1, none⟩ = some (.int .i64 a0_1) := (blk_cell BK529.out 1).trans rfl
          have hfz35_0 := blk_frozen BK529.out 0
          have hfz35_1 := blk_frozen BK529.out 1
          obtain ⟨Ao36, co36, eo36⟩ := Kd.R_slice HO_9.out
          subst eo36
          go_wp2_with (first | ((with_reducible refine gate_callee (f := 16) rfl ?_); refine goesL_ (some 48) rfl rfl Try.func16 (by kernel_rfl) rfl #[.agg #[.slice A0_0 l0_0.length c0_0, .int .i64 a0_1], .int .i64 a2, .slice Ao36 t532.length co36] rfl (by (try simp only [List.map_toArray, List.map_cons, List.map_nil]); first | done | rfl | (simp only [List.length_drop, List.length_take]; rfl)) ?_; (with_reducible refine (fold_Fold.calls kj13 _ _ l0_0 a0_1 a2 _ _ t532 t541 t544 _ ?side1 ?side2 ?side3 ?side4 A23.out).mono ?_); (case side1 => repeat (first | exact (Kd.C_below HR0_0.out HB.out) | (with_reducible refine Kd.C_alloc ?_ _) | (with_reducible refine Kd.C_drewN ?_ _) | (with_reducible refine Kd.C_drew ?_))); (case side2 => exact HC0_0.out); (case side3 => repeat (first | exact (Kd.R_reads' HO_9.out).2.2 | (with_reducible refine Kd.C_alloc ?_ _) | (with_reducible refine Kd.C_drewN ?_ _) | (with_reducible refine Kd.C_drew ?_))); (case side4 => exact (Kd.R_reads' HO_9.out).2.1); rintro e w37 ⟨v542, rfl, ho0, hb⟩; refine ⟨_, rfl, ?_⟩; have n0_ := Aside0.mk (Kd.R_elder' (by (with_reducible repeat (first | apply Kd.R_alloc | apply Kd.R_drewN | apply Kd.R_drew)); exact HO_9.out) (Kd.R_base ho0) hb); have n1_ := Aside0.mk (Kd.R_elder' (by (with_reducible repeat (first | apply Kd.R_alloc | apply Kd.R_drewN | apply Kd.R_drew)); exact HO_11.out) (Kd.R_base ho0) hb); have n2_ := Aside0.mk (Kd.R_lower (Kd.R_new' (Kd.R_new' ho0 (Kd.R_lt (by (with_reducible repeat (first | apply Kd.R_alloc | apply Kd.R_drewN | apply Kd.R_drew)); exact HO_9.out))) (Kd.R_lt (by (with_reducible repeat (first | apply Kd.R_alloc | apply Kd.R_drewN | apply Kd.R_drew)); exact HO_11.out))) (below_size (by repeat (first | (with_reducible first | exact HB.out | apply below_alloc | apply pw_below_drewN | apply below_drew1 | refine below_set ?_ GE529.out) | exact HB.out)))); have n3_ := Aside0.mk (blk_below (g := gb529) (o := .cells #[.slice A0_0 l0_0.length c0_0, .int .i64 a0_1] 24 (0, 0)) (by (with_reducible repeat (first | refine blk_drewN ?_ _ | refine blk_drew ?_ | refine blk_alloc ?_ _)); exact BK529.out) hb); have n4_ := Aside0.mk (below_step (by repeat (first | (with_reducible first | exact HB.out | apply below_alloc | apply pw_below_drewN | apply below_drew1 | refine below_set ?_ GE529.out) | exact HB.out)) hb); clear HO_9; clear HO_11; clear BK529; clear HB; have HO_9 := n0_; have HO_11 := n1_; have HO543 := n2_; have BK529 := n3_; have HB := n4_; clear n0_ n1_ n2_ n3_ n4_; (try clear hb); (try clear hb2); (try clear hk); (try clear hi); (try clear ho0)) | ((with_reducible refine gate_callee (f := 11) rfl ?_); refine goesL_ (some 51) rfl rfl Try.func11 (by kernel_rfl) rfl #[] rfl (by (try simp only [List.map_toArray, List.map_cons, List.map_nil]); first | done | rfl | (simp only [List.length_drop, List.length_take]; rfl)) ?_; (with_reducible refine (rickyardlaw15_alive.calls kj13  true _ A24.out).mono ?_); rintro e w38 ⟨rfl, hb⟩; refine ⟨_, rfl, ?_⟩; have n0_ := Aside0.mk (Kd.R_below (by (with_reducible repeat (first | apply Kd.R_alloc | apply Kd.R_drewN | apply Kd.R_drew)); exact HO_9.out) hb); have n1_ := Aside0.mk (Kd.R_below (by (with_reducible repeat (first | apply Kd.R_alloc | apply Kd.R_drewN | apply Kd.R_drew)); exact HO_11.out) hb); have n2_ := Aside0.mk (Kd.R_below (by (with_reducible repeat (first | apply Kd.R_alloc | apply Kd.R_drewN | apply Kd.R_drew)); exact HO543.out) hb); have n3_ := Aside0.mk (blk_below (g := gb529) (o := .cells #[.slice A0_0 l0_0.length c0_0, .int .i64 a0_1] 24 (0, 0)) (by (with_reducible repeat (first | refine blk_drewN ?_ _ | refine blk_drew ?_ | refine blk_alloc ?_ _)); exact BK529.out) hb); have n4_ := Aside0.mk (below_step (by repeat (first | (with_reducible first | exact HB.out | apply below_alloc | apply pw_below_drewN | apply below_drew1 | refine below_set ?_ GE529.out) | exact HB.out)) hb); clear HO_9; clear HO_11; clear HO543; clear BK529; clear HB; have HO_9 := n0_; have HO_11 := n1_; have HO543 := n2_; have BK529 := n3_; have HB := n4_; clear n0_ n1_ n2_ n3_ n4_; (try clear hb); (try clear hb2); (try clear hk); (try clear hi); obtain ⟨Ao39, co39, eo39⟩ := Kd.R_slice HO_11.out; subst eo39; obtain ⟨Ao40, co40, eo40⟩ := Kd.R_slice HO543.out; subst eo40) | (go_at_call 14; (with_reducible refine (rickyardref08_Same.calls kj13 _ _ t536 _ _ t541 false _ ?side1 ?side2 ?side3 ?side4 A27.out).mono ?_); (case side1 => repeat (first | exact (Kd.R_reads' HO_11.out).2.2 | (with_reducible refine Kd.C_alloc ?_ _) | (with_reducible refine Kd.C_drewN ?_ _) | (with_reducible refine Kd.C_drew ?_))); (case side2 => exact (Kd.R_reads' HO_11.out).2.1); (case side3 => repeat (first | exact (Kd.R_reads' HO543.out).2.2 | (with_reducible refine Kd.C_alloc ?_ _) | (with_reducible refine Kd.C_drewN ?_ _) | (with_reducible refine Kd.C_drew ?_))); (case side4 => exact (Kd.R_reads' HO543.out).2.1); rintro e w' ⟨rfl, ⟨nd, rfl⟩⟩))
          go_ret
          exact ⟨by first | rfl | (simp [errW_none, errW_some] <;> rfl) | (simp [*, errW_none, errW_some] <;> rfl) | (exfalso; simp_all; done), by repeat (first | (with_reducible first | exact HB.out | apply below_alloc | apply pw_below_drewN | apply below_drew1 | refine below_set ?_ GE529.out) | exact HB.out)⟩
        ·rw [if_neg c26] at H
         have c26b0 : (t544 == 0) = false := beq_eq_false_iff_ne.mpr c26
         have c26b1 : (t544 != 0) = true := bne_iff_ne.mpr c26
         obtain rfl := Option.some.inj H
         have hcz41_0 : wc.cell? ⟨gb529, 0, none⟩ = some (.slice A0_0 l0_0.length c0_0) := (blk_cell BK529.out 0).trans rfl
         have hcz41_1 : wc.cell? ⟨gb529, 1, none⟩ = some (.int .i64 a0_1) := (blk_cell BK529.out 1).trans rfl
         have hfz41_0 := blk_frozen BK529.out 0
         have hfz41_1 := blk_frozen BK529.out 1
         obtain ⟨Ao42, co42, eo42⟩ := Kd.R_slice HO_9.out
         subst eo42
         go_wp2_with (first | ((with_reducible refine gate_callee (f := 16) rfl ?_); refine goesL_ (some 48) rfl rfl Try.func16 (by kernel_rfl) rfl #[.agg #[.slice A0_0 l0_0.length c0_0, .int .i64 a0_1], .int .i64 a2, .slice Ao42 t532.length co42] rfl (by (try simp only [List.map_toArray, List.map_cons, List.map_nil]); first | done | rfl | (simp only [List.length_drop, List.length_take]; rfl)) ?_; (with_reducible refine (fold_Fold.calls kj13 _ _ l0_0 a0_1 a2 _ _ t532 t541 t544 _ ?side1 ?side2 ?side3 ?side4 A23.out).mono ?_); (case side1 => repeat (first | exact (Kd.C_below HR0_0.out HB.out) | (with_reducible refine Kd.C_alloc ?_ _) | (with_reducible refine Kd.C_drewN ?_ _) | (with_reducible refine Kd.C_drew ?_))); (case side2 => exact HC0_0.out); (case side3 => repeat (first | exact (Kd.R_reads' HO_9.out).2.2 | (with_reducible refine Kd.C_alloc ?_ _) | (with_reducible refine Kd.C_drewN ?_ _) | (with_reducible refine Kd.C_drew ?_))); (case side4 => exact (Kd.R_reads' HO_9.out).2.1); rintro e w43 ⟨v542, rfl, ho0, hb⟩; refine ⟨_, rfl, ?_⟩; have n0_ := Aside0.mk (Kd.R_elder' (by (with_reducible repeat (first | apply Kd.R_alloc | apply Kd.R_drewN | apply Kd.R_drew)); exact HO_9.out) (Kd.R_base ho0) hb); have n1_ := Aside0.mk (Kd.R_elder' (by (with_reducible repeat (first | apply Kd.R_alloc | apply Kd.R_drewN | apply Kd.R_drew)); exact HO_11.out) (Kd.R_base ho0) hb); have n2_ := Aside0.mk (Kd.R_lower (Kd.R_new' (Kd.R_new' ho0 (Kd.R_lt (by (with_reducible repeat (first | apply Kd.R_alloc | apply Kd.R_drewN | apply Kd.R_drew)); exact HO_9.out))) (Kd.R_lt (by (with_reducible repeat (first | apply Kd.R_alloc | apply Kd.R_drewN | apply Kd.R_drew)); exact HO_11.out))) (below_size (by repeat (first | (with_reducible first | exact HB.out | apply below_alloc | apply pw_below_drewN | apply below_drew1 | refine below_set ?_ GE529.out) | exact HB.out)))); have n3_ := Aside0.mk (blk_below (g := gb529) (o := .cells #[.slice A0_0 l0_0.length c0_0, .int .i64 a0_1] 24 (0, 0)) (by (with_reducible repeat (first | refine blk_drewN ?_ _ | refine blk_drew ?_ | refine blk_alloc ?_ _)); exact BK529.out) hb); have n4_ := Aside0.mk (below_step (by repeat (first | (with_reducible first | exact HB.out | apply below_alloc | apply pw_below_drewN | apply below_drew1 | refine below_set ?_ GE529.out) | exact HB.out)) hb); clear HO_9; clear HO_11; clear BK529; clear HB; have HO_9 := n0_; have HO_11 := n1_; have HO543 := n2_; have BK529 := n3_; have HB := n4_; clear n0_ n1_ n2_ n3_ n4_; (try clear hb); (try clear hb2); (try clear hk); (try clear hi); (try clear ho0)) | ((with_reducible refine gate_callee (f := 11) rfl ?_); refine goesL_ (some 51) rfl rfl Try.func11 (by kernel_rfl) rfl #[] rfl (by (try simp only [List.map_toArray, List.map_cons, List.map_nil]); first | done | rfl | (simp only [List.length_drop, List.length_take]; rfl)) ?_; (with_reducible refine (rickyardlaw15_alive.calls kj13  true _ A24.out).mono ?_); rintro e w44 ⟨rfl, hb⟩; refine ⟨_, rfl, ?_⟩; have n0_ := Aside0.mk (Kd.R_below (by (with_reducible repeat (first | apply Kd.R_alloc | apply Kd.R_drewN | apply Kd.R_drew)); exact HO_9.out) hb); have n1_ := Aside0.mk (Kd.R_below (by (with_reducible repeat (first | apply Kd.R_alloc | apply Kd.R_drewN | apply Kd.R_drew)); exact HO_11.out) hb); have n2_ := Aside0.mk (Kd.R_below (by (with_reducible repeat (first | apply Kd.R_alloc | apply Kd.R_drewN | apply Kd.R_drew)); exact HO543.out) hb); have n3_ := Aside0.mk (blk_below (g := gb529) (o := .cells #[.slice A0_0 l0_0.length c0_0, .int .i64 a0_1] 24 (0, 0)) (by (with_reducible repeat (first | refine blk_drewN ?_ _ | refine blk_drew ?_ | refine blk_alloc ?_ _)); exact BK529.out) hb); have n4_ := Aside0.mk (below_step (by repeat (first | (with_reducible first | exact HB.out | apply below_alloc | apply pw_below_drewN | apply below_drew1 | refine below_set ?_ GE529.out) | exact HB.out)) hb); clear HO_9; clear HO_11; clear HO543; clear BK529; clear HB; have HO_9 := n0_; have HO_11 := n1_; have HO543 := n2_; have BK529 := n3_; have HB := n4_; clear n0_ n1_ n2_ n3_ n4_; (try clear hb); (try clear hb2); (try clear hk); (try clear hi)))
         go_ret
         exact ⟨by first | rfl | (simp [errW_none, errW_some] <;> rfl) | (simp [*, errW_none, errW_some] <;> rfl) | (exfalso; simp_all; done), by repeat (first | (with_reducible first | exact HB.out | apply below_alloc | apply pw_below_drewN | apply below_drew1 | refine below_set ?_ GE529.out) | exact HB.out)⟩
       ·replace c25 := Bool.eq_false_iff.mpr c25
        subst c25
        have H1 : (some false) = some r := by rw [if_neg (show ¬ (false = true) by decide)] at H; exact H
        clear H
        have H := H1
        clear H1
        obtain rfl := Option.some.inj H
        have hcz45_0 : wc.cell? ⟨gb529, 0, none⟩ = some (.slice A0_0 l0_0.length c0_0) := (blk_cell BK529.out 0).trans rfl
        have hcz45_1 : wc.cell? ⟨gb529, 1, none⟩ = some (.int .i64 a0_1) := (blk_cell BK529.out 1).trans rfl
        have hfz45_0 := blk_frozen BK529.out 0
        have hfz45_1 := blk_frozen BK529.out 1
        obtain ⟨Ao46, co46, eo46⟩ := Kd.R_slice HO_9.out
        subst eo46
        go_wp2_with (first | ((with_reducible refine gate_callee (f := 16) rfl ?_); refine goesL_ (some 48) rfl rfl Try.func16 (by kernel_rfl) rfl #[.agg #[.slice A0_0 l0_0.length c0_0, .int .i64 a0_1], .int .i64 a2, .slice Ao46 t532.length co46] rfl (by (try simp only [List.map_toArray, List.map_cons, List.map_nil]); first | done | rfl | (simp only [List.length_drop, List.length_take]; rfl)) ?_; (with_reducible refine (fold_Fold.calls kj13 _ _ l0_0 a0_1 a2 _ _ t532 t541 t544 _ ?side1 ?side2 ?side3 ?side4 A23.out).mono ?_); (case side1 => repeat (first | exact (Kd.C_below HR0_0.out HB.out) | (with_reducible refine Kd.C_alloc ?_ _) | (with_reducible refine Kd.C_drewN ?_ _) | (with_reducible refine Kd.C_drew ?_))); (case side2 => exact HC0_0.out); (case side3 => repeat (first | exact (Kd.R_reads' HO_9.out).2.2 | (with_reducible refine Kd.C_alloc ?_ _) | (with_reducible refine Kd.C_drewN ?_ _) | (with_reducible refine Kd.C_drew ?_))); (case side4 => exact (Kd.R_reads' HO_9.out).2.1); rintro e w47 ⟨v542, rfl, ho0, hb⟩; refine ⟨_, rfl, ?_⟩; have n0_ := Aside0.mk (Kd.R_elder' (by (with_reducible repeat (first | apply Kd.R_alloc | apply Kd.R_drewN | apply Kd.R_drew)); exact HO_9.out) (Kd.R_base ho0) hb); have n1_ := Aside0.mk (Kd.R_elder' (by (with_reducible repeat (first | apply Kd.R_alloc | apply Kd.R_drewN | apply Kd.R_drew)); exact HO_11.out) (Kd.R_base ho0) hb); have n2_ := Aside0.mk (Kd.R_lower (Kd.R_new' (Kd.R_new' ho0 (Kd.R_lt (by (with_reducible repeat (first | apply Kd.R_alloc | apply Kd.R_drewN | apply Kd.R_drew)); exact HO_9.out))) (Kd.R_lt (by (with_reducible repeat (first | apply Kd.R_alloc | apply Kd.R_drewN | apply Kd.R_drew)); exact HO_11.out))) (below_size (by repeat (first | (with_reducible first | exact HB.out | apply below_alloc | apply pw_below_drewN | apply below_drew1 | refine below_set ?_ GE529.out) | exact HB.out)))); have n3_ := Aside0.mk (blk_below (g := gb529) (o := .cells #[.slice A0_0 l0_0.length c0_0, .int .i64 a0_1] 24 (0, 0)) (by (with_reducible repeat (first | refine blk_drewN ?_ _ | refine blk_drew ?_ | refine blk_alloc ?_ _)); exact BK529.out) hb); have n4_ := Aside0.mk (below_step (by repeat (first | (with_reducible first | exact HB.out | apply below_alloc | apply pw_below_drewN | apply below_drew1 | refine below_set ?_ GE529.out) | exact HB.out)) hb); clear HO_9; clear HO_11; clear BK529; clear HB; have HO_9 := n0_; have HO_11 := n1_; have HO543 := n2_; have BK529 := n3_; have HB := n4_; clear n0_ n1_ n2_ n3_ n4_; (try clear hb); (try clear hb2); (try clear hk); (try clear hi); (try clear ho0)) | ((with_reducible refine gate_callee (f := 11) rfl ?_); refine goesL_ (some 51) rfl rfl Try.func11 (by kernel_rfl) rfl #[] rfl (by (try simp only [List.map_toArray, List.map_cons, List.map_nil]); first | done | rfl | (simp only [List.length_drop, List.length_take]; rfl)) ?_; (with_reducible refine (rickyardlaw15_alive.calls kj13  false _ A24.out).mono ?_); rintro e w48 ⟨rfl, hb⟩; refine ⟨_, rfl, ?_⟩; have n0_ := Aside0.mk (Kd.R_below (by (with_reducible repeat (first | apply Kd.R_alloc | apply Kd.R_drewN | apply Kd.R_drew)); exact HO_9.out) hb); have n1_ := Aside0.mk (Kd.R_below (by (with_reducible repeat (first | apply Kd.R_alloc | apply Kd.R_drewN | apply Kd.R_drew)); exact HO_11.out) hb); have n2_ := Aside0.mk (Kd.R_below (by (with_reducible repeat (first | apply Kd.R_alloc | apply Kd.R_drewN | apply Kd.R_drew)); exact HO543.out) hb); have n3_ := Aside0.mk (blk_below (g := gb529) (o := .cells #[.slice A0_0 l0_0.length c0_0, .int .i64 a0_1] 24 (0, 0)) (by (with_reducible repeat (first | refine blk_drewN ?_ _ | refine blk_drew ?_ | refine blk_alloc ?_ _)); exact BK529.out) hb); have n4_ := Aside0.mk (below_step (by repeat (first | (with_reducible first | exact HB.out | apply below_alloc | apply pw_below_drewN | apply below_drew1 | refine below_set ?_ GE529.out) | exact HB.out)) hb); clear HO_9; clear HO_11; clear HO543; clear BK529; clear HB; have HO_9 := n0_; have HO_11 := n1_; have HO543 := n2_; have BK529 := n3_; have HB := n4_; clear n0_ n1_ n2_ n3_ n4_; (try clear hb); (try clear hb2); (try clear hk); (try clear hi)))
        go_ret
        exact ⟨by first | rfl | (simp [errW_none, errW_some] <;> rfl) | (simp [*, errW_none, errW_some] <;> rfl) | (exfalso; simp_all; done), by repeat (first | (with_reducible first | exact HB.out | apply below_alloc | apply pw_below_drewN | apply below_drew1 | refine below_set ?_ GE529.out) | exact HB.out)⟩
end Go.Proofs.Ytjemmmemenljbaa.PFold
end
section
namespace Go.Proofs.Ytjemmmemenljbaa.PFold
open Go.RowKit Go.Proofs.YtjemmmemenljbaaW.PrintWords Go.Proofs.YtjemmmemenljbaaW.PrintLast Go.Proofs.YtjemmmemenljbaaW.PrintMore
attribute [local go_sem] max2_int min2_int max_two min_two max_three min_three max_four min_four   -- for this text's walks alone
set_option linter.unusedVariables false
set_option linter.unusedSimpArgs false
def rickyardlaw15_FoldLater.Pure : Prop := ∀ (l0_0 : List (S67)) (a0_1 : Int) (a1 : Int) (a2 : Int) (l3 : List (S51)), (l0_0.length * 16 ≤ 140737488351232 ∧ ∀ z4 ∈ l0_0, wfS67 z4) → (Lit.int .i64 a0_1).wf = true → (Lit.int .i64 a1).wf = true → (Lit.int .i64 a2).wf = true → (l3.length * 72 ≤ 140737488351232 ∧ ∀ z2 ∈ l3, wfS51 z2) → ∃ k, rickyardlaw15_FoldLater.f k l0_0 a0_1 a1 a2 l3 = some true
end Go.Proofs.Ytjemmmemenljbaa.PFold
end
