import Derived.Test.YtdopbhbbpgfliaaZAskAll17
section
namespace Go.Proofs.Ytdopbhbbpgfliaa.PAsk
open Go.RowKit Go.Proofs.YtdopbhbbpgfliaaW.PrintWords Go.Proofs.YtdopbhbbpgfliaaW.PrintLast Go.Proofs.YtdopbhbbpgfliaaW.PrintMore
set_option linter.unusedVariables false
set_option linter.unusedSimpArgs false
set_option maxHeartbeats 8000000
set_option maxRecDepth 100000
def keyG (g : List Int) : KeyB := (strOfNums g).data.toList
def rollGo (k : Nat) (mask lo hi : Int) : List Rw → List (KeyB × Rw) → Option (List (KeyB × Rw))
  | [], M => some M
  | x :: r, M => if lo ≤ x.f1 ∧ x.f1 < hi then (key_Part.f k x.f0 mask).bind fun d => (key_Group.f k d.1).bind fun g =>
      (agg_Merge.f ((lookG (keyG g.1) M).getD rowZ).f3.f0 ((lookG (keyG g.1) M).getD rowZ).f3.f1 ((lookG (keyG g.1) M).getD rowZ).f3.f2.f0 ((lookG (keyG g.1) M).getD rowZ).f3.f2.f1 ((lookG (keyG g.1) M).getD rowZ).f3.f3 ((lookG (keyG g.1) M).getD rowZ).f3.f4 x.f3.f0 x.f3.f1 x.f3.f2.f0 x.f3.f2.f1 x.f3.f3 x.f3.f4).bind fun o =>
        rollGo k mask lo hi r (putG (keyG g.1) ⟨d.1, lo, IntKind.i64.wrap (hi - lo), ⟨o.1, o.2.1, ⟨o.2.2.1, o.2.2.2.1⟩, o.2.2.2.2.1, o.2.2.2.2.2⟩⟩ M)
    else rollGo k mask lo hi r M
def ask_Rollup.f (k : Nat) (l0_0 : List S84) (a0_1 a1 : Int) (l2 : List S60) (a3 a4 a5 : Int) : Option (List Rw × Int) :=
  (ask_rows.f k l0_0 a0_1 a1 l2).bind fun a => if a.2 = 0 then if a3 < 0 then some ([], 1) else (ask_ranged.f a4 a5).bind fun t => if t = true then (rollGo k a3 a4 a5 a.1 []).bind fun M => if a.1.length < 1000000 then some (M.map (·.2), 0) else none
    else some ([], 1) else some ([], a.2)
theorem zeroRow (w : World) : (zeroValue 44).run Try.prog w = .ok (.agg #[.slice none 0 0, .int .i64 0, .int .i64 0, .int .u64 0, .bool false, .int .i64 0, .int .u64 0, .int .i64 0, .int .i64 0]) w := by kernel_rfl
theorem fieldRow (v : Value) (i1 i2 c : Int) (b : Bool) (h l m n : Int) (w : World) : (Instr.field 44 (.agg #[v, .int .i64 i1, .int .i64 i2, .int .u64 c, .bool b, .int .i64 h, .int .u64 l, .int .i64 m, .int .i64 n]) 3).run Try.prog w = .ok (.agg #[.int .u64 c, .bool b, .int .i64 h, .int .u64 l, .int .i64 m, .int .i64 n]) w := by kernel_rfl
theorem R_max {α : Type} {d : Kd α} {e : Nat} {w : World} {base : Nat} {ok : Nat → Prop} {A : Option Addr} {c : Nat} {xs : List α} (h : d.R e w base ok (.slice A xs.length c) xs) : xs.length ≤ 9223372036854775807 := (Kd.R_reads' h).2.2.2.1
theorem keyG_of (g : List Int) (h : g.length ≤ 9223372036854775807) : keyOf Try.prog 9 (.string (strOfNums g)) = some (.string (keyG g)) := Go.WideMaps.keyOf_string_mk Try.underlying9 (by
  have : (strOfNums g).size = g.length := by simp [strOfNums, ByteArray.size]
  rw [this]; unfold maxLen; omega)
def RollRel (k : Nat) (mask lo hi : Int) (all : List Rw) (va : Value) (res : List (KeyB × Rw)) (w : World) (b j : Nat) (wr : World) : Prop :=
  j ≤ all.length ∧ Below w.heap.size w wr ∧ Kd.R k44 44 wr w.heap.size (fun i => i < b) va all ∧ ∃ M D, MapRel wr w.heap.size (fun i => b < i) b j M D ∧ rollGo k mask lo hi (all.drop j) M = some res
def NameRel (w : World) (M : List (KeyB × Rw)) (D : DataW Value) (b n H1 : Nat) (v : Value) (wr : World) : Prop :=
  ∃ (left : Lit → Bool) (cnt : Nat) (ss : List KeyB), wr.ranges Try.prog 9 heldR b H1 n D left cnt ∧ ss.length + cnt ≤ Maps.size D ∧ wr.ownsRow w.heap.size 9 1 v ss.length (ss.map Go.Proofs.encStr) ∧ Collected D left ss ∧
  Below w.heap.size w wr ∧ MapRel wr w.heap.size (fun i => b < i ∧ i < H1) b n M D ∧ (∀ i, v.ownBlock = some i → H1 < i) ∧ H1 < wr.heap.size
def RowsRel (w : World) (M : List (KeyB × Rw)) (D : DataW Value) (b n H1 H2 : Nat) (Av : Option Addr) (cv j : Nat) (v : Value) (wr : World) : Prop :=
  j ≤ M.length ∧ Below w.heap.size w wr ∧ MapRel wr w.heap.size (fun i => b < i ∧ i < H1) b n M D ∧ wr.ownsRow w.heap.size 9 1 (.slice Av M.length cv) M.length ((M.map (·.1)).map Go.Proofs.encStr) ∧
  Kd.R k44 44 wr w.heap.size (fun _ => True) v ((M.take j).map (·.2)) ∧ (∀ i, v.ownBlock = some i → H2 ≤ i) ∧ H2 ≤ wr.heap.size
theorem keyG_max {w : World} {base b n : Nat} {ok : Nat → Prop} {M : List (KeyB × Rw)} {D : DataW Value} (h : MapRel w base ok b n M D) {j : Nat} (hj : j < M.length) : keyOf Try.prog 9 (Go.Proofs.encStr M[j].1) = some (.string M[j].1) := by
  have hm : M[j].1 ∈ strKeys D := h.keys.mem_iff.1 (List.mem_map.2 ⟨M[j], List.getElem_mem hj, rfl⟩)
  have := strKeys_le h.2.1 Try.underlying9 _ hm
  have h2 := Go.WideMaps.keyOf_string_mk (k := 9) Try.underlying9 (s := ⟨M[j].1.toArray⟩) (by simpa [ByteArray.size] using this)
  simpa using h2
theorem ask_Rollup.calls (k : Nat) (A0_0 : Option Addr) (c0_0 : Nat) (l0_0 : List S84) (a0_1 : Int) (a1 : Int) (A2 : Option Addr) (c2 : Nat) (l2 : List S60) (a3 a4 a5 : Int) (r1 : List Rw) (r2 : Int) (w : World)
    (hr0_0 : Kd.C k84 w A0_0 l0_0.length l0_0) (hc0_0 : l0_0.length ≤ c0_0) (hr2 : Kd.C k60 w A2 l2.length l2) (hc2 : l2.length ≤ c2)
    (h : ask_Rollup.f k l0_0 a0_1 a1 l2 a3 a4 a5 = some (r1, r2)) :
    Calls Try.prog 13 #[.agg #[.slice A0_0 l0_0.length c0_0, .int .i64 a0_1], .int .i64 a1, .slice A2 l2.length c2, .int .i64 a3, .int .i64 a4, .int .i64 a5] w fun e w' => ∃ v0_ : Value, e = .returned (.tuple #[v0_, .int .i64 r2]) ∧ Kd.R k44 44 w' w.heap.size (fun _ => True) v0_ r1 ∧ Below w.heap.size w w' := by
  have HG := Lib.hid hr0_0; have HL := Lib.hid hr2
  clear hr0_0 hr2
  have HB0 : Hid (Below w.heap.size w (w.alloc (.cells #[.slice A0_0 l0_0.length c0_0, .int .i64 a0_1] 24))) := Lib.hid ((Below.refl _ _).alloc (Nat.le_refl _) _)
  unfold ask_Rollup.f at h
  obtain ⟨⟨all, e0⟩, h1, h2⟩ := Option.bind_eq_some_iff.mp h
  have HRW := Lib.hid h1
  clear h h1
  simp only at h2
  by_cases z : e0 = 0
  case neg =>
    rw [if_neg z] at h2
    simp only [Option.some.injEq, Prod.mk.injEq] at h2
    obtain ⟨rfl, rfl⟩ := h2
    have e1 : (e0 != 0) = true := bne_iff_ne.2 z
    clear z
    go_enter Try.func13, Try.ntmps13
    go_wp2_with (go_at_call 22; with_reducible refine (ask_rows.calls k A0_0 c0_0 l0_0 a0_1 a1 A2 c2 l2 _ _ _ (Kd.C_below HG.out HB0.out) hc0_0 (Kd.C_below HL.out HB0.out) hc2 HRW.out).mono ?_; rintro e w1 ⟨va, rfl, hra, hb⟩; obtain ⟨Aa, ca, eva⟩ := Kd.R_slice hra; subst eva; have HRA := Lib.hid (Kd.R_lower hra HB0.out.size); have HB1 := Lib.hid (below_step HB0.out hb); clear hra hb)
    go_ret2
    exact ⟨_, rfl, Kd.R_nil _ _ _ _ _, HB1.out⟩
  rw [if_pos z] at h2
  subst z
  by_cases hm : a3 < 0
  · rw [if_pos hm] at h2
    simp only [Option.some.injEq, Prod.mk.injEq] at h2
    obtain ⟨rfl, rfl⟩ := h2
    have e1 : decide (a3 < 0) = true := decide_eq_true hm
    clear hm
    go_enter Try.func13, Try.ntmps13
    go_wp2_with (go_at_call 22; with_reducible refine (ask_rows.calls k A0_0 c0_0 l0_0 a0_1 a1 A2 c2 l2 _ _ _ (Kd.C_below HG.out HB0.out) hc0_0 (Kd.C_below HL.out HB0.out) hc2 HRW.out).mono ?_; rintro e w1 ⟨va, rfl, hra, hb⟩; obtain ⟨Aa, ca, eva⟩ := Kd.R_slice hra; subst eva; have HRA := Lib.hid (Kd.R_lower hra HB0.out.size); have HB1 := Lib.hid (below_step HB0.out hb); clear hra hb)
    go_ret2
    exact ⟨_, rfl, Kd.R_nil _ _ _ _ _, HB1.out⟩
  rw [if_neg hm] at h2
  have e1 : decide (a3 < 0) = false := decide_eq_false hm
  clear hm
  obtain ⟨tq, htq, h4⟩ := Option.bind_eq_some_iff.mp h2
  have HT := Lib.hid htq
  clear h2 htq
  cases tq with
  | false =>
    rw [if_neg (by decide)] at h4
    simp only [Option.some.injEq, Prod.mk.injEq] at h4
    obtain ⟨rfl, rfl⟩ := h4
    go_enter Try.func13, Try.ntmps13
    go_wp2_with (first
      | (go_at_call 22; with_reducible refine (ask_rows.calls k A0_0 c0_0 l0_0 a0_1 a1 A2 c2 l2 _ _ _ (Kd.C_below HG.out HB0.out) hc0_0 (Kd.C_below HL.out HB0.out) hc2 HRW.out).mono ?_; rintro e w1 ⟨va, rfl, hra, hb⟩; obtain ⟨Aa, ca, eva⟩ := Kd.R_slice hra; subst eva; have HRA := Lib.hid (Kd.R_lower hra HB0.out.size); have HB1 := Lib.hid (below_step HB0.out hb); clear hra hb)
      | (go_at_call 24; with_reducible refine (ask_ranged.calls a4 a5 _ _ HT.out).mono ?_; rintro e w3 ⟨rfl, ⟨n3, rfl⟩⟩; have HB3 := Lib.hid (pw_below_drewN HB1.out n3); have HRA3 := Lib.hid (Kd.R_drewN HRA.out n3)))
    go_ret2
    exact ⟨_, rfl, Kd.R_nil _ _ _ _ _, HB3.out⟩
  | true =>
  rw [if_pos rfl] at h4
  obtain ⟨res, ho, h5⟩ := Option.bind_eq_some_iff.mp h4
  by_cases hln : all.length < 1000000
  case neg => rw [if_neg hln] at h5; cases h5
  rw [if_pos hln] at h5
  simp only [Option.some.injEq, Prod.mk.injEq] at h5
  obtain ⟨rfl, rfl⟩ := h5
  have HO := Lib.hid ho; have HLN := Lib.hid hln
  clear h4 ho hln
  have hmm := @run_makeMap Try.prog
  go_enter Try.func13, Try.ntmps13
  go_wp2_with (first
    | (go_at_call 22; with_reducible refine (ask_rows.calls k A0_0 c0_0 l0_0 a0_1 a1 A2 c2 l2 _ _ _ (Kd.C_below HG.out HB0.out) hc0_0 (Kd.C_below HL.out HB0.out) hc2 HRW.out).mono ?_; rintro e w1 ⟨va, rfl, hra, hb⟩; obtain ⟨Aa, ca, eva⟩ := Kd.R_slice hra; subst eva; have HRA := Lib.hid (Kd.R_lower hra HB0.out.size); have HB1 := Lib.hid (below_step HB0.out hb); clear hra hb)
    | (go_at_call 24; with_reducible refine (ask_ranged.calls a4 a5 _ _ HT.out).mono ?_; rintro e w3 ⟨rfl, ⟨n3, rfl⟩⟩; have HB3 := Lib.hid (pw_below_drewN HB1.out n3); have HRA3 := Lib.hid (Kd.R_drewN HRA.out n3)))
  have HMP := Lib.hid (MapRel.made (w1.drewN n3) w.heap.size (fun i => w1.heap.size < i))
  go_loopw [52] (fun v wr => ∃ j : Nat, v = .int .i64 j ∧ RollRel k a3 a4 a5 all (.slice Aa all.length ca) res w w1.heap.size j wr) (fun v _ => all.length - (intOf v).toNat)
  case atStart => exact ⟨0, rfl, Nat.zero_le _, HB3.out.alloc HB3.out.size _, Kd.R_alloc (Kd.R_mono (Kd.R_bound HRA3.out) (fun _ hk => hk.2.2.1)) _, [], _, HMP.out, HO.out⟩
  case round =>
    obtain ⟨j, rfl, hj, hB, hR, M, D, hM, hF⟩ := hrel
    have HJB := Lib.hid hB; have HJR := Lib.hid hR; have HJM := Lib.hid hM
    have hmx : all.length ≤ 9223372036854775807 := (Kd.R_reads' HJR.out).2.2.2.1
    have HBL := Lib.hid hM.lt
    have HB1S := Lib.hid HB1.out.size
    clear hB hR hM HO HRA HRA3 HMP HB3 hmm
    by_cases hlt : j < all.length
    · have e1 : decide ((j : Int) < (all.length : Int)) = true := decide_eq_true (by omega)
      obtain ⟨ad, A1, c1, ha, hRD, hx0, hx1, hx2, hx3, hx4, hx5, hx6, hx7, hx8⟩ := row_at HJR.out rfl (j : Int) (by omega) (by omega)
      subst ha
      have hxx := rd_row hlt
      obtain ⟨x, hx⟩ : ∃ x, x = rd_T44 all (j : Int) := ⟨_, rfl⟩
      rw [← hx] at hRD hx0 hx1 hx2 hx3 hx4 hx5 hx6 hx7 hx8
      simp only [Int.toNat_natCast] at hx0 hx1 hx2 hx3 hx4 hx5 hx6 hx7 hx8
      have hF1 : rollGo k a3 a4 a5 (x :: all.drop (j + 1)) M = some res := by rw [← hF, hx, hxx, ← List.drop_eq_getElem_cons hlt]
      have HIN := Lib.hid (Kd.R_reads' hRD)
      clear hF hxx hx hRD
      unfold rollGo at hF1
      have HXB := Lib.hid (blk_new wr (.cells #[.slice A1 x.f0.length c1, .int .i64 x.f1, .int .i64 x.f2, .int .u64 x.f3.f0, .bool x.f3.f1, .int .i64 x.f3.f2.f0, .int .u64 x.f3.f2.f1, .int .i64 x.f3.f3, .int .i64 x.f3.f4] 44))
      by_cases hgo : a4 ≤ x.f1 ∧ x.f1 < a5
      case neg =>
        rw [if_neg hgo] at hF1
        have HS : Hid (RollRel k a3 a4 a5 all (.slice (some ad) all.length ca) res w w1.heap.size (j + 1) (wr.alloc (.cells #[.slice A1 x.f0.length c1, .int .i64 x.f1, .int .i64 x.f2, .int .u64 x.f3.f0, .bool x.f3.f1, .int .i64 x.f3.f2.f0, .int .u64 x.f3.f2.f1, .int .i64 x.f3.f3, .int .i64 x.f3.f4] 44))) := Lib.hid ⟨hlt, HJB.out.alloc HJB.out.size _, Kd.R_alloc HJR.out _, M, D, ⟨HJM.out.1, (HJM.out.2.1.mono (Nat.le_succ _)).alloc _, HJM.out.2.2.1, (HJM.out.below ((Below.refl _ _).alloc (Nat.le_refl _) (.cells #[.slice A1 x.f0.length c1, .int .i64 x.f1, .int .i64 x.f2, .int .u64 x.f3.f0, .bool x.f3.f1, .int .i64 x.f3.f2.f0, .int .u64 x.f3.f2.f1, .int .i64 x.f3.f3, .int .i64 x.f3.f4] 44))).2.2.2⟩, hF1⟩
        clear hF1
        by_cases n1 : x.f1 < a4
        · have d1 : decide (x.f1 < a4) = true := decide_eq_true n1
          clear n1 hgo
          go_wp2
          go_roundw
          case rel => exact ⟨j + 1, by go_num, HS.out⟩
          case measure => simp [intOf]; omega
        · have n2 : a5 ≤ x.f1 := by omega
          have d1 : decide (x.f1 < a4) = false := decide_eq_false n1
          have d2 : decide (a5 ≤ x.f1) = true := decide_eq_true n2
          clear n1 n2 hgo
          go_wp2
          go_roundw
          case rel => exact ⟨j + 1, by go_num, HS.out⟩
          case measure => simp [intOf]; omega
      rw [if_pos hgo] at hF1
      obtain ⟨⟨pd, pe⟩, hpd, hF2⟩ := Option.bind_eq_some_iff.mp hF1
      obtain ⟨⟨gg, ge⟩, hgg, hF3⟩ := Option.bind_eq_some_iff.mp hF2
      obtain ⟨⟨o1, o2, o3, o4, o5, o6⟩, hmg, hF4⟩ := Option.bind_eq_some_iff.mp hF3
      simp only at hgg hmg hF4
      have d1 : decide (x.f1 < a4) = false := decide_eq_false (by omega)
      have d2 : decide (a5 ≤ x.f1) = false := decide_eq_false (by omega)
      have HPD := Lib.hid hpd; have HGG := Lib.hid hgg; have HMG := Lib.hid hmg; have HF := Lib.hid hF4
      clear hF1 hF2 hF3 hpd hgg hmg hF4 hgo
      obtain ⟨y, hy⟩ : ∃ y, y = (lookG (keyG gg) M).getD rowZ := ⟨_, rfl⟩
      rw [← hy] at HMG
      have hat : ∃ vy, D.atKey (.string (keyG gg)) (.held (.agg #[.slice none 0 0, .int .i64 0, .int .i64 0, .int .u64 0, .bool false, .int .i64 0, .int .u64 0, .int .i64 0, .int .i64 0])) = .held (rowV vy y) := by
        cases hl : lookG (keyG gg) M with
        | none =>
          refine ⟨.slice none 0 0, ?_⟩
          rw [hl] at hy
          subst hy
          exact Maps.atKey_of_not_has (by rw [HJM.out.2.2.1, hl]; rfl) _
        | some y' =>
          rw [hl] at hy
          obtain rfl : y = y' := hy
          obtain ⟨v0, h1, _⟩ := HJM.out.2.2.2 _ _ hl
          exact ⟨v0, h1 _⟩
      obtain ⟨vy, hat⟩ := hat
      have HAT := Lib.hid hat
      clear hat hy
      have hfl := fieldRow
      go_upto_region 14 with (first
        | (go_at_call 15; with_reducible refine (key_Part.calls k A1 c1 x.f0 a3 _ _ _ (Kd.C_alloc HIN.out.2.2 _) HIN.out.2.1 HPD.out).mono ?_; rintro e w4 ⟨v4, rfl, hr4, hb4⟩; obtain ⟨A4, c4, e4⟩ := Kd.R_slice hr4; subst e4; have HR4 := Lib.hid hr4; have HB4 := Lib.hid hb4; clear hr4 hb4)
        | (go_at_call 27; with_reducible refine (key_Group.calls k A4 c4 pd _ _ w4 (Kd.R_reads' HR4.out).2.2 (Kd.R_reads' HR4.out).2.1 HGG.out).mono ?_; rintro e w5 ⟨v5, rfl, hr5, hb5⟩; obtain ⟨A5, c5, e5⟩ := Kd.R_slice hr5; subst e5; have HGL : Hid (gg.length ≤ 9223372036854775807) := Lib.hid (R_max hr5); have HR5 := Lib.hid hr5; have HB5 := Lib.hid hb5; have hcv := Kd.C_string (P := Try.prog) (A := A5) (c := c5) Try.underlying58 Try.underlying5 Try.underlying9 (Kd.R_reads' hr5).2.2; have HX5 := Lib.hid (blk_below (blk_below HXB.out HB4.out) hb5); have HM5 := Lib.hid ((HJM.out.below ((Below.refl _ _).alloc (Nat.le_refl _) (.cells #[.slice A1 x.f0.length c1, .int .i64 x.f1, .int .i64 x.f2, .int .u64 x.f3.f0, .bool x.f3.f1, .int .i64 x.f3.f2.f0, .int .u64 x.f3.f2.f1, .int .i64 x.f3.f3, .int .i64 x.f3.f4] 44))).below (below_step (Below.refl _ _) HB4.out) |>.below hb5); have hy3 := (blk_cell HX5.out 3).trans (show _ = some (Value.int .u64 x.f3.f0) from rfl); have hy4 := (blk_cell HX5.out 4).trans (show _ = some (Value.bool x.f3.f1) from rfl); have hy5 := (blk_cell HX5.out 5).trans (show _ = some (Value.int .i64 x.f3.f2.f0) from rfl); have hy6 := (blk_cell HX5.out 6).trans (show _ = some (Value.int .u64 x.f3.f2.f1) from rfl); have hy7 := (blk_cell HX5.out 7).trans (show _ = some (Value.int .i64 x.f3.f3) from rfl); have hy8 := (blk_cell HX5.out 8).trans (show _ = some (Value.int .i64 x.f3.f4) from rfl); clear hr5 hb5)
        | (at_lookup; refine wpList_look _ rfl _ _ 75 rfl 9 44 (Maps.string_keyed Try.underlying9) Try.underlying75 (zeroRow _) w1.heap.size j D rfl HM5.out.2.1 _ _ rfl (keyG_of gg HGL.out) (.agg #[vy, .int .i64 y.f1, .int .i64 y.f2, .int .u64 y.f3.f0, .bool y.f3.f1, .int .i64 y.f3.f2.f0, .int .u64 y.f3.f2.f1, .int .i64 y.f3.f3, .int .i64 y.f3.f4]) HAT.out ?_)
        | (go_at_call 14; refine (agg_Merge.calls y.f3.f0 y.f3.f1 y.f3.f2.f0 y.f3.f2.f1 y.f3.f3 y.f3.f4 x.f3.f0 x.f3.f1 x.f3.f2.f0 x.f3.f2.f1 x.f3.f3 x.f3.f4 _ _ _ _ _ _ _ HMG.out).mono ?_; rintro e w6 ⟨rfl, hb6⟩; have HB6 := Lib.hid hb6; clear hb6))
      have HXO : Hid (Below w.heap.size w (wr.alloc (.cells #[.slice A1 x.f0.length c1, .int .i64 x.f1, .int .i64 x.f2, .int .u64 x.f3.f0, .bool x.f3.f1, .int .i64 x.f3.f2.f0, .int .u64 x.f3.f2.f1, .int .i64 x.f3.f3, .int .i64 x.f3.f4] 44))) := Lib.hid (HJB.out.alloc HJB.out.size _)
      have HB6' := Lib.hid (below_step (below_step (below_step HXO.out HB4.out) HB5.out) HB6.out)
      have HW8 : Hid (Below w.heap.size w (w6.alloc (.cells #[.int .u64 o1, .bool o2, .int .i64 o3, .int .u64 o4, .int .i64 o5, .int .i64 o6] 42))) := Lib.hid (HB6'.out.alloc HB6'.out.size _)
      have HM8 := Lib.hid (MapRel.below (HM5.out.below HB6.out) ((Below.refl _ _).alloc (Nat.le_refl _) (.cells #[.int .u64 o1, .bool o2, .int .i64 o3, .int .u64 o4, .int .i64 o5, .int .i64 o6] 42)))
      have HR8 := Lib.hid (Kd.R_alloc (Kd.R_below (Kd.R_below (Kd.R_lower (base' := w.heap.size) (Kd.R_mono (Kd.R_bound HR4.out) (ok' := fun i => w1.heap.size < i) (fun i hi => by have h1 := hi.2.1; have h2 := HBL.out; simp at h1; omega)) HXO.out.size) HB5.out) HB6.out) (.cells #[.int .u64 o1, .bool o2, .int .i64 o3, .int .u64 o4, .int .i64 o5, .int .i64 o6] 42))
      have HJ8 := Lib.hid (Kd.R_alloc (Kd.R_below (Kd.R_below (Kd.R_below (Kd.R_alloc HJR.out (.cells #[.slice A1 x.f0.length c1, .int .i64 x.f1, .int .i64 x.f2, .int .u64 x.f3.f0, .bool x.f3.f1, .int .i64 x.f3.f2.f0, .int .u64 x.f3.f2.f1, .int .i64 x.f3.f3, .int .i64 x.f3.f4] 44)) HB4.out) HB5.out) HB6.out) (.cells #[.int .u64 o1, .bool o2, .int .i64 o3, .int .u64 o4, .int .i64 o5, .int .i64 o6] 42))
      have HN8 := Lib.hid (blk_new w6 (.cells #[.int .u64 o1, .bool o2, .int .i64 o3, .int .u64 o4, .int .i64 o5, .int .i64 o6] 42))
      have hcv8 := Kd.C_string (P := Try.prog) (A := A5) (c := c5) Try.underlying58 Try.underlying5 Try.underlying9 (Kd.C_alloc (Kd.C_below (Kd.R_reads' HR5.out).2.2 HB6.out) (.cells #[.int .u64 o1, .bool o2, .int .i64 o3, .int .u64 o4, .int .i64 o5, .int .i64 o6] 42))
      obtain ⟨g8, hg8⟩ : ∃ g8, g8 = w6.heap.size := ⟨_, rfl⟩
      rw [← hg8] at HN8
      rw [← hg8]
      obtain ⟨w8, hw8⟩ : ∃ w8, w8 = w6.alloc (.cells #[.int .u64 o1, .bool o2, .int .i64 o3, .int .u64 o4, .int .i64 o5, .int .i64 o6] 42) := ⟨_, rfl⟩
      rw [← hw8] at HW8 HM8 HR8 HJ8 HN8 hcv8
      rw [← hw8]
      obtain ⟨sz, hsz⟩ : ∃ sz, IntKind.i64.wrap (a5 - a4) = sz := ⟨_, rfl⟩
      have hsz' : wrap64 (a5 - a4) = sz := (i64_w _).symm.trans hsz
      rw [hsz] at HF
      clear hw8 hg8 hfl HB6' HM5 HB6 HB5 HB4 HXO HR4 HR5 HX5 HXB HJB HJR HJM HIN
      have hn0 := (blk_cell HN8.out 0).trans (show _ = some (Value.int .u64 o1) from rfl)
      have hn1 := (blk_cell HN8.out 1).trans (show _ = some (Value.bool o2) from rfl)
      have hn2 := (blk_cell HN8.out 2).trans (show _ = some (Value.int .i64 o3) from rfl)
      have hn3 := (blk_cell HN8.out 3).trans (show _ = some (Value.int .u64 o4) from rfl)
      have hn4 := (blk_cell HN8.out 4).trans (show _ = some (Value.int .i64 o5) from rfl)
      have hn5 := (blk_cell HN8.out 5).trans (show _ = some (Value.int .i64 o6) from rfl)
      go_wp2_with (at_mapUpdate; go_loud (refine wpList_mapUpdate_own _ rfl _ _ _ 75 rfl 9 44 (Maps.string_keyed Try.underlying9) Try.underlying75 heldR w1.heap.size j D rfl HM8.out.2.1 (by have := HLN.out; unfold maxLen; omega) _ _ _ rfl rfl (keyG_of gg HGL.out) _ [] rfl ?_; intro w9 hown9 hgrow9; have HOWN := Lib.hid hown9; have HGR := Lib.hid hgrow9; clear hown9 hgrow9))
      go_roundw
      case rel =>
        refine ⟨j + 1, by go_num, hlt, HW8.out.grown HGR.out HW8.out.size (by intro i hi; injection hi with hi; subst hi; exact HB1S.out), Kd.R_grown HJ8.out HGR.out (fun i hi hc => by injection hc with hc; omega), _, _, MapRel.put HM8.out (keyG gg) ⟨pd, a4, sz, ⟨o1, o2, ⟨o3, o4⟩, o5, o6⟩⟩ _ HR8.out (fun i hi hc => by injection hc with hc; omega) HOWN.out HGR.out, HF.out⟩
      case measure => simp [intOf]; omega
    · have e1 : decide ((j : Int) < (all.length : Int)) = false := decide_eq_false (by omega)
      rw [List.drop_eq_nil_of_le (by omega)] at hF
      obtain rfl := Option.some.inj hF
      obtain rfl : j = all.length := by omega
      clear hF
      obtain ⟨b, hb⟩ : ∃ b, b = w1.heap.size := ⟨_, rfl⟩
      rw [← hb] at HJM HBL HB1S
      rw [← hb]
      clear hb HJR
      obtain ⟨n, hn⟩ : ∃ n, n = all.length := ⟨_, rfl⟩
      rw [← hn] at HJM
      have HNL : Hid (n < 1000000) := Lib.hid (by rw [hn]; exact HLN.out)
      clear hn
      go_wp2_with (at_range; refine wpList_range_own _ rfl _ 75 rfl 9 44 (Maps.string_keyed Try.underlying9) Try.underlying75 heldR b n D rfl HJM.out.2.1 ?_; intro w0 hrg0 hg0 hs0; have HRG0 := Lib.hid hrg0; have HG0 := Lib.hid hg0; have HS0 := Lib.hid hs0; clear hrg0 hg0 hs0; go_frame)
      have HMQ0 := Lib.hid ((MapRel.mono (MapRel.bound HJM.out) (ok' := fun i => b < i ∧ i < wr.heap.size) (fun i hi => ⟨hi.1, hi.2⟩)).grown HG0.out (by simp) (fun i hi => by simp))
      have HBQ0 : Hid (Below w.heap.size w w0) := Lib.hid (HJB.out.grown HG0.out HJB.out.size (fun i hi => by cases hi))
      have HH0 := Lib.hid HJB.out.size
      have HBH := Lib.hid HJM.out.lt
      obtain ⟨H1, hH1⟩ : ∃ H1, H1 = wr.heap.size := ⟨_, rfl⟩
      rw [← hH1] at HRG0 HS0 HMQ0 HH0 HBH
      rw [← hH1]
      clear hH1 HJB HG0
      go_loopw [24] (fun v wq => NameRel w M D b n H1 v wq) (fun _ wq => wq.rangeLeft b H1)
      case atStart => exact ⟨_, _, [], HRG0.out, by simp, World.ownsRow_nil _ _ _ _, Collected.start D, HBQ0.out, HMQ0.out, fun i hi => by simp [Value.ownBlock] at hi, by rw [HS0.out]; exact Nat.lt_succ_self _⟩
      case round =>
        obtain ⟨left, cnt, ss, hrg, hcs, hrow, hC, hBq, hMq, hvb, hHq⟩ := hrel
        have HRG := Lib.hid hrg; have HROW := Lib.hid hrow; have HC := Lib.hid hC; have HBQ := Lib.hid hBq; have HMQ := Lib.hid hMq; have HVB := Lib.hid hvb; have HHQ := Lib.hid hHq; have HCS := Lib.hid hcs
        obtain ⟨Av, cv, hvv⟩ := own_slice hrow
        subst hvv
        have HSZ := Lib.hid (World.ownsMap.size_le hMq.2.1)
        clear hrg hrow hC hBq hMq hvb hHq hcs HRG0 HS0 HJM HMQ0 HBQ0
        go_wp2_with (at_next; refine wpList_next_ranges _ rfl _ rfl 9 (Maps.string_keyed Try.underlying9) heldR Go.Proofs.encStr id (fun key kl hk => by obtain ⟨x, hx, _⟩ := Maps.keyOf_str Try.underlying9 hk; exact ⟨x, hx⟩) (fun v y hv => ⟨v, rfl⟩) b H1 n _ _ _ rfl HRG.out ?_ ?_)
        · intro hc0 hl0
          have hpm : ss.Perm (M.map (·.1)) := (HC.out.perm HMQ.out.2.1 (Maps.string_keyed Try.underlying9) Try.underlying9 hl0).trans HMQ.out.keys.symm
          have hlen : ss.length = M.length := by have := hpm.length_eq; simpa using this
          have HSRT : Hid (Calls Try.prog 28 #[.slice Av M.length cv] wr fun e w' => e = .returned (.tuple #[]) ∧ w'.ownsRow w.heap.size 9 1 (.slice Av M.length cv) M.length ((M.map (·.1)).map Go.Proofs.encStr) ∧ wr.grownBy w' (Value.slice Av M.length cv).ownBlock) := Lib.hid (by
            have h := sort_names HROW.out (by have := HCS.out; have := HSZ.out; have := HNL.out; omega)
            rw [keysG_sorted HMQ.out.1 hpm, hlen] at h
            exact h)
          rw [hlen] at HVB HCS
          rw [hlen]
          have HML : Hid (M.length < 1000000) := Lib.hid (by have := HCS.out; have := HSZ.out; have := HNL.out; omega)
          clear hpm hlen HROW HC hc0 hl0
          have hmm := zeroRow
          go_wp2_with (go_at_call 28; with_reducible refine HSRT.out.mono ?_; rintro e w3 ⟨rfl, hrow3, hg3⟩; have HR3 := Lib.hid hrow3; have HG3 := Lib.hid hg3; clear hrow3 hg3)
          have HB3 : Hid (Below w.heap.size w w3) := Lib.hid (HBQ.out.grown HG3.out HBQ.out.size (fun i hi => by have := HVB.out i hi; have := HH0.out; omega))
          have HM3 := Lib.hid (HMQ.out.grown HG3.out (fun hc => by have := HVB.out _ hc.symm; have := HBH.out; omega) (fun i hi hc => by have := HVB.out _ hc.symm; omega))
          have HNB : Hid (∀ i, (Value.slice Av M.length cv).ownBlock = some i → i < w3.heap.size) := Lib.hid (fun i hi => own_lt HR3.out i hi)
          have HH3 : Hid (H1 < w3.heap.size) := Lib.hid (by have := HG3.out.size; have := HHQ.out; omega)
          obtain ⟨H2, hH2⟩ : ∃ H2, H2 = w3.heap.size := ⟨_, rfl⟩
          rw [← hH2] at HNB HH3
          have HH2 := Lib.hid (Nat.le_of_eq hH2)
          clear hH2 HG3 HSRT HMQ HBQ HRG
          go_loopw [111, 26] (fun v u wt => ∃ j : Nat, v = .int .i64 j ∧ RowsRel w M D b n H1 H2 Av cv j u wt) (fun v _ _ => M.length - (intOf v).toNat)
          case atStart => exact ⟨0, rfl, Nat.zero_le _, HB3.out, HM3.out, HR3.out, Kd.R_nil _ _ _ _ _, fun i hi => by simp [Value.ownBlock] at hi, HH2.out⟩
          case round =>
            obtain ⟨j, rfl, hj, hBt, hMt, hRt, hOt, hvt, hHt⟩ := hrel
            obtain ⟨out, hout⟩ : ∃ out, out = (M.take j).map (·.2) := ⟨_, rfl⟩
            rw [← hout] at hOt
            obtain ⟨Ao, co, hvv⟩ := Kd.R_slice hOt
            subst hvv
            have hol : out.length ≤ M.length := by rw [hout]; simp; omega
            have HBT := Lib.hid hBt; have HMT := Lib.hid hMt; have HRT := Lib.hid hRt; have HOT := Lib.hid hOt; have HVT := Lib.hid hvt; have HHT := Lib.hid hHt; have HOL := Lib.hid hol
            clear hBt hMt hRt hOt hvt hHt hol HB3 HM3 HR3 HH2 HHQ HVB
            have hmx2 : M.length ≤ 9223372036854775807 := by have := HML.out; omega
            by_cases hlt : j < M.length
            · have e1 : decide ((j : Int) < (M.length : Int)) = true := decide_eq_true (by omega)
              obtain ⟨g, hg, hx⟩ := names_at HRT.out (by simp) hlt
              subst hg
              have hkey := keyG_max HMT.out hlt
              have hlk := (lookG_mem HMT.out.1).1 (show (M[j].1, M[j].2) ∈ M from List.getElem_mem hlt)
              simp only [List.getElem_map] at hx
              obtain ⟨p, hp⟩ : ∃ p, p = M[j] := ⟨_, rfl⟩
              have HOUT : Hid ((M.take (j + 1)).map (·.2) = out ++ [p.2]) := Lib.hid (by rw [List.take_succ_eq_append_getElem hlt, List.map_append, ← hout, hp]; rfl)
              rw [← hp] at hkey hlk hx
              obtain ⟨v0, hat, hr0⟩ := HMT.out.2.2.2 _ _ hlk
              obtain ⟨A1, c1, hv0⟩ := Kd.R_slice hr0
              subst hv0
              have HKEY := Lib.hid hkey; have HAT := Lib.hid (hat (.held (.agg #[.slice none 0 0, .int .i64 0, .int .i64 0, .int .u64 0, .bool false, .int .i64 0, .int .u64 0, .int .i64 0, .int .i64 0]))); have HR0 := Lib.hid hr0
              have hx2 : wr.cell? ((⟨g, 0, none⟩ : Addr).add j) = some (Go.Proofs.encStr p.1) := by rw [add_plain]; exact hx
              clear hkey hlk hat hr0 hp hout
              go_wp2_with (first
                | (at_lookup; go_loud (refine wpList_look _ rfl _ _ 75 rfl 9 44 (Maps.string_keyed Try.underlying9) Try.underlying75 (zeroRow _) b n D rfl HMT.out.2.1 _ _ rfl HKEY.out (.agg #[.slice A1 p.2.f0.length c1, .int .i64 p.2.f1, .int .i64 p.2.f2, .int .u64 p.2.f3.f0, .bool p.2.f3.f1, .int .i64 p.2.f3.f2.f0, .int .u64 p.2.f3.f2.f1, .int .i64 p.2.f3.f3, .int .i64 p.2.f3.f4]) HAT.out ?_))
                | ((with_reducible refine gate_builtin (b := .append) (xs := #[.tmp 115, .tmp 119]) rfl ?_); at_builtin; go_loud (refine Kd.R_append k44 (w0 := w) w.heap.size rfl (.tmp 115) (.tmp 119) 32 44 (.agg #[.slice none 0 0, .int .i64 0, .int .i64 0, .int .u64 0, .bool false, .int .i64 0, .int .u64 0, .int .i64 0, .int .i64 0]) 88 rfl Try.underlying32 info44 rfl (by decide) (by decide) (.slice Ao out.length co) out p.2 [.slice A1 p.2.f0.length c1, .int .i64 p.2.f1, .int .i64 p.2.f2, .int .u64 p.2.f3.f0, .bool p.2.f3.f1, .int .i64 p.2.f3.f2.f0, .int .u64 p.2.f3.f2.f1, .int .i64 p.2.f3.f3, .int .i64 p.2.f3.f4] (fun _ => True) (fun i => b < i ∧ i < H1) rfl rfl (k44_mkM _ _ _ p.2 HR0.out) (fun i hi => ⟨trivial, fun hc => by have := HVT.out i hc.symm; have := HH3.out; omega⟩) (fun _ _ => trivial) HOT.out HBT.out HBT.out.size (by have := HML.out; have := HOL.out; omega) ?_); intro v5 w5 ho hb hg hat; have HO5 := Lib.hid ho; have HB5 := Lib.hid hb; have HG5 := Lib.hid hg; have HAT5 := Lib.hid hat; clear ho hb hg hat))
              have hne : ∀ i, i < H2 → some i ≠ (Value.slice Ao out.length co).ownBlock := fun i hi hc => by have := HVT.out i hc.symm; omega
              have HM5 := Lib.hid (HMT.out.grown HG5.out (hne b (by have := HBH.out; have := HH3.out; omega)) (fun i hi => hne i (by have := HH3.out; omega)))
              have HR5 := Lib.hid (HRT.out.kept HG5.out (Or.inr (hne g (HNB.out g (by simp [Value.ownBlock])))))
              have HV5 : Hid (∀ i, v5.ownBlock = some i → H2 ≤ i) := Lib.hid (fun i hi => by
                rcases HAT5.out with h | ⟨b', h, hle⟩
                · exact HVT.out i (h ▸ hi)
                · rw [h] at hi
                  obtain rfl := Option.some.inj hi
                  exact Nat.le_trans HHT.out hle)
              clear hne
              go_roundw
              case rel => exact ⟨j + 1, by go_num, hlt, HB5.out, HM5.out, HR5.out, by rw [HOUT.out]; exact HO5.out, HV5.out, Nat.le_trans HHT.out HG5.out.size⟩
              case measure => simp [intOf]; omega
            · have e1 : decide ((j : Int) < (M.length : Int)) = false := decide_eq_false (by omega)
              obtain rfl : j = M.length := by omega
              rw [List.take_length] at hout
              go_wp2
              go_ret2
              exact ⟨_, rfl, by have := HOT.out; rw [hout] at this; simpa [hout] using this, HBT.out⟩
        · intro x c kl yd yp w2 cnt2 hkey hlk hv hat hrg2 hlt2 hg2 hs2 hen
          obtain ⟨x', ex, rfl, _⟩ := Maps.keyOf_str Try.underlying9 hkey
          obtain rfl : x = x' := encStr_inj ex
          have HRG2 := Lib.hid hrg2; have HG2 := Lib.hid hg2; have HLT2 := Lib.hid hlt2; have HLK := Lib.hid hlk; have HATX := Lib.hid hat
          have HSZ2 := Lib.hid hs2
          have HROW2 : Hid (w2.ownsRow w.heap.size 9 1 (.slice Av ss.length cv) ss.length (ss.map Go.Proofs.encStr)) := Lib.hid (HROW.out.kept hg2 (Or.inr (fun hc => by have := HVB.out _ hc; omega)))
          have HBQ2 : Hid (Below w.heap.size w w2) := Lib.hid (HBQ.out.grown hg2 HBQ.out.size (fun i hi => by injection hi with hi; subst hi; exact HH0.out))
          clear hkey hlk hv hat hrg2 hlt2 hg2 hs2 ex
          go_wp2_with ((with_reducible refine gate_builtin (b := .append) (xs := #[.tmp 103, .tmp 105]) rfl ?_); at_builtin; go_loud (refine print_append_cells (w0 := w) w.heap.size rfl (.tmp 103) (.tmp 105) 26 9 (.string ⟨#[]⟩) 1 16 rfl Try.underlying26 (by kernel_rfl) rfl (by decide) (by decide) (.slice Av ss.length cv) ss.length _ [Go.Proofs.encStr x] rfl rfl rfl (by simp [Value.oneCell', Go.Proofs.encStr]) HROW2.out HBQ2.out HBQ2.out.size (by have := HCS.out; have := HSZ.out; have := HNL.out; omega) ?_); intro v5 w5 ho hb hg hat; obtain ⟨A5, c5, hs5⟩ := own_slice ho; subst hs5; have HO5 := Lib.hid ho; have HB5 := Lib.hid hb; have HG5 := Lib.hid hg; have HAT5 := Lib.hid hat; clear ho hb hg hat)
          have hv2 : ∀ i, (Value.slice Av ss.length cv).ownBlock = some i → H1 < i := HVB.out
          have hne : ∀ i, i ≤ H1 → some i ≠ (Value.slice Av ss.length cv).ownBlock := fun i hi hc => by have := hv2 i hc.symm; omega
          have hrg5 := HRG2.out.kept HG5.out (hne b (Nat.le_of_lt HBH.out)) (hne H1 (Nat.le_refl _))
          have HRG5 := Lib.hid hrg5
          have hm2 := HMQ.out.grown HG2.out (by intro hc; injection hc with hc; have := HBH.out; omega) (fun i hi hc => by injection hc with hc; omega)
          have hm5 := hm2.grown HG5.out (hne b (Nat.le_of_lt HBH.out)) (fun i hi => hne i (Nat.le_of_lt hi.2))
          have HM5 := Lib.hid hm5
          have HLEN : Hid (H1 < w5.heap.size) := Lib.hid (by have h1 := HG5.out.size; have h2 := HSZ2.out; have h3 := HHQ.out; omega)
          have HNV : Hid (∀ i, (Value.slice A5 (ss.length + 1) c5).ownBlock = some i → H1 < i) := Lib.hid (fun i hi => by
            rcases HAT5.out with h | ⟨b', h, hle⟩
            · exact hv2 i (h ▸ hi)
            · rw [h] at hi
              obtain rfl := Option.some.inj hi
              have h2 := HSZ2.out; have h3 := HHQ.out
              omega)
          clear hv2 hne hrg5 hm2 hm5
          go_roundw
          case rel => exact ⟨_, cnt2, ss ++ [x], HRG5.out, by have := HCS.out; have := HLT2.out; simp; omega, by simpa using HO5.out, HC.out.step HLK.out HATX.out, HB5.out, HM5.out, by simpa using HNV.out, HLEN.out⟩
          case measure => rw [HRG5.out.left_eq, HRG.out.left_eq]; exact HLT2.out
end Go.Proofs.Ytdopbhbbpgfliaa.PAsk
end
section
namespace Go.Proofs.Ytdopbhbbpgfliaa.PAsk
open Go.RowKit Go.Proofs.YtdopbhbbpgfliaaW.PrintWords Go.Proofs.YtdopbhbbpgfliaaW.PrintLast Go.Proofs.YtdopbhbbpgfliaaW.PrintMore
attribute [local go_sem] max2_int min2_int max_two min_two max_three min_three max_four min_four   -- for this text's walks alone
set_option linter.unusedVariables false
set_option linter.unusedSimpArgs false
set_option maxHeartbeats 8000000
set_option maxRecDepth 100000
def rickyardref06_Write.f (k : Nat) (l0_0 : List ByteArray) (a0_1 : Int) (a0_2 : Int) : Option (List Int × Int) := (rickyardref06_Right.f k l0_0 a0_1 a0_2).bind fun t424 => (if t424 = true then ((rickyardref06_Group.f k l0_0).bind fun bt425 => ((rickyardref04_Number.f k a0_1).bind fun t429 => (if bt425.1.length + t429.length < 140737488355328 then ((some (bt425.1 ++ t429 : List Int)).bind fun y432 => (if y432.length < 140737488355328 then (some ((y432 ++ [(a0_2) % 256]), bt425.2)) else (none))) else (none)))) else (some (([] : List Int), 40)))
theorem rickyardref06_Write.calls (k : Nat) (A0_0 : Option Addr) (c0_0 : Nat) (l0_0 : List ByteArray) (a0_1 : Int) (a0_2 : Int) (r1 : List Int) (r2 : Int) (w : World) (hr0_0 : Kd.C Kd.string w A0_0 l0_0.length l0_0) (hc0_0 : l0_0.length ≤ c0_0) (h : rickyardref06_Write.f k l0_0 a0_1 a0_2 = some (r1, r2)) :
  Calls Try.prog 36 #[.agg #[.slice A0_0 l0_0.length c0_0, .int .i64 a0_1, .int .i64 a0_2]] w fun e w' => ∃ v0_ : Value, e = .returned (.tuple #[v0_, .int .i64 r2]) ∧ Kd.R (Kd.int .u8) 5 w' w.heap.size (fun _ => True) v0_ r1 ∧ Below w.heap.size w w' := by
 have hu70 := Try.underlying70
 have HR0_0 := Aside0.mk hr0_0
 have HC0_0 := Aside0.mk hc0_0
 clear hr0_0 hc0_0
 have HB := Aside0.mk (Below.refl w.heap.size w)
 have H : ((rickyardref06_Right.f k l0_0 a0_1 a0_2).bind fun t424 => (if t424 = true then ((rickyardref06_Group.f k l0_0).bind fun bt425 => ((rickyardref04_Number.f k a0_1).bind fun t429 => (if bt425.1.length + t429.length < 140737488355328 then ((some (bt425.1 ++ t429 : List Int)).bind fun y432 => (if y432.length < 140737488355328 then (some ((y432 ++ [(a0_2) % 256]), bt425.2)) else (none))) else (none)))) else (some (([] : List Int), 40)))) = some (r1, r2) := h
 clear h
 replace H := bnA H
 obtain ⟨t424, A2, H⟩ := H
 by_cases c3 : t424 = true
 rotate_left
 ·replace c3 := Bool.eq_false_iff.mpr c3
  subst c3
  have H1 : (some (([] : List Int), 40)) = some (r1, r2) := by rw [if_neg (show ¬ (false = true) by decide)] at H; exact H
  clear H
  have H := H1
  clear H1
  simp only [Option.some.injEq, Prod.mk.injEq] at H
  obtain ⟨rfl, rfl⟩ := H
  go_enter Try.func36, Try.ntmps36
  go_wp2_with (first | ((with_reducible refine gate_dst (N := 1) rfl ?_); refine boxA 1 #[.slice A0_0 l0_0.length c0_0, .int .i64 a0_1, .int .i64 a0_2] 70 ?_; intro gb423 hg w19 hbox hb; have BK423 := Aside0.mk (hbox); have GE423 := ge1 hg (belA HB.out); replace HB := bst HB hb; clear hb hbox hg; obtain ⟨hcz20_0, hcz20_1, hcz20_2, hfz20_0, hfz20_1, hfz20_2⟩ := blk3 BK423) | ((with_reducible refine gate_callee (f := 50) rfl ?_); refine goesL_ (some 7) rfl rfl Try.func50 (by kernel_rfl) rfl #[.agg #[.slice A0_0 l0_0.length c0_0, .int .i64 a0_1, .int .i64 a0_2]] rfl argA ?_; (with_reducible refine (rickyardref06_Right.calls k _ _ l0_0 a0_1 a0_2 false _ ?side1 ?side2 A2.out).mono ?_); (case side1 => exact cb1 HR0_0 HB); (case side2 => exact HC0_0.out); rintro e w21 ⟨rfl, hb⟩; refine ⟨_, rfl, ?_⟩; replace BK423 := blkB BK423 hb; replace HB := bs2 HB GE423 hb; (try clear hb)))
  go_ret2
  exact ⟨_, ret1, by first | exact Kd.R_nil _ _ _ _ _ | exact Kd.N_nil _ _ _ _ _ | exact Kd.V_nil _ _ _ _ _ | exact Kd.Q_nil _ _ _ _ _ | exact Kd.S_nil _ _ _ _ _, belB HB.out GE423.out⟩
 subst c3
 have H1 : ((rickyardref06_Group.f k l0_0).bind fun bt425 => ((rickyardref04_Number.f k a0_1).bind fun t429 => (if bt425.1.length + t429.length < 140737488355328 then ((some (bt425.1 ++ t429 : List Int)).bind fun y432 => (if y432.length < 140737488355328 then (some ((y432 ++ [(a0_2) % 256]), bt425.2)) else (none))) else (none)))) = some (r1, r2) := by rw [if_pos rfl] at H; exact H
 clear H
 have H := H1
 clear H1
 replace H := bnA H
 obtain ⟨⟨t425, t426⟩, A4, H⟩ := H
 replace H : ((rickyardref04_Number.f k a0_1).bind fun t429 => (if t425.length + t429.length < 140737488355328 then ((some (t425 ++ t429 : List Int)).bind fun y432 => (if y432.length < 140737488355328 then (some ((y432 ++ [(a0_2) % 256]), t426)) else (none))) else (none))) = some (r1, r2) := H
 replace H := bnA H
 obtain ⟨t429, A5, H⟩ := H
 replace H := ifN H
 obtain ⟨c6, H⟩ := H
 have LMc6 := Aside0.mk c6
 clear c6
 obtain ⟨y432, hy432⟩ : ∃ y_ : List Int, y_ = (t425 ++ t429) := ⟨_, rfl⟩
 replace H : (if y432.length < 140737488355328 then (some ((y432 ++ [(a0_2) % 256]), t426)) else (none)) = some (r1, r2) := nmA hy432 H
 have Ny432 := Aside0.mk hy432
 clear hy432
 replace H := ifN H
 obtain ⟨c7, H⟩ := H
 have LMc7 := Aside0.mk c7
 clear c7
 obtain ⟨y435, hy435⟩ : ∃ y_ : List Int, y_ = (y432 ++ [(a0_2) % 256]) := ⟨_, rfl⟩
 replace H : (some (y435, t426)) = some (r1, r2) := nmA hy435 H
 have Ny435 := Aside0.mk hy435
 clear hy435
 simp only [Option.some.injEq, Prod.mk.injEq] at H
 obtain ⟨rfl, rfl⟩ := H
 go_enter Try.func36, Try.ntmps36
 go_wp2_with (first | ((with_reducible refine gate_dst (N := 1) rfl ?_); refine boxA 1 #[.slice A0_0 l0_0.length c0_0, .int .i64 a0_1, .int .i64 a0_2] 70 ?_; intro gb423 hg w8 hbox hb; have BK423 := Aside0.mk (hbox); have GE423 := ge1 hg (belA HB.out); replace HB := bst HB hb; clear hb hbox hg; obtain ⟨hcz9_0, hcz9_1, hcz9_2, hfz9_0, hfz9_1, hfz9_2⟩ := blk3 BK423) | ((with_reducible refine gate_callee (f := 50) rfl ?_); refine goesL_ (some 7) rfl rfl Try.func50 (by kernel_rfl) rfl #[.agg #[.slice A0_0 l0_0.length c0_0, .int .i64 a0_1, .int .i64 a0_2]] rfl argA ?_; (with_reducible refine (rickyardref06_Right.calls k _ _ l0_0 a0_1 a0_2 true _ ?side1 ?side2 A2.out).mono ?_); (case side1 => exact cb1 HR0_0 HB); (case side2 => exact HC0_0.out); rintro e w10 ⟨rfl, hb⟩; refine ⟨_, rfl, ?_⟩; replace BK423 := blkB BK423 hb; replace HB := bs2 HB GE423 hb; (try clear hb); obtain ⟨hcz11_0, hcz11_1, hcz11_2, hfz11_0, hfz11_1, hfz11_2⟩ := blk3 BK423) | ((with_reducible refine gate_callee (f := 51) rfl ?_); refine goesL_ (some 12) rfl rfl Try.func51 (by kernel_rfl) rfl #[.slice A0_0 l0_0.length c0_0] rfl argA ?_; (with_reducible refine (rickyardref06_Group.calls k _ _ l0_0 t425 t426 _ ?side1 ?side2 A4.out).mono ?_); (case side1 => exact cb1 HR0_0 HB); (case side2 => exact HC0_0.out); rintro e w12 ⟨v427, rfl, ho0, hb⟩; refine ⟨_, rfl, ?_⟩; have HO428 := Aside0.mk (Kd.R_lower ho0 (below_size (belB HB.out GE423.out))); replace BK423 := blkB BK423 hb; replace HB := bs2 HB GE423 hb; (try clear hb); (try clear ho0); obtain ⟨hcz13_0, hcz13_1, hcz13_2, hfz13_0, hfz13_1, hfz13_2⟩ := blk3 BK423) | ((with_reducible refine gate_callee (f := 52) rfl ?_); refine goesL_ (some 18) rfl rfl Try.func52 (by kernel_rfl) rfl #[.int .i64 a0_1] rfl argA ?_; (with_reducible refine (rickyardref04_Number.calls k a0_1 t429 _ A5.out).mono ?_); rintro e w14 ⟨v430, rfl, ho0, hb⟩; refine ⟨_, rfl, ?_⟩; have HO431 := Aside0.mk (Kd.R_lower (Kd.R_new' ho0 (Kd.R_lt (rowA HO428.out))) (below_size (belB HB.out GE423.out))); replace HO428 := Aside0.mk (Kd.R_elder' (rowA HO428.out) (Kd.R_base ho0) hb); replace BK423 := blkB BK423 hb; replace HB := bs2 HB GE423 hb; (try clear hb); (try clear ho0); obtain ⟨Ao16, co16, eo16⟩ := Kd.R_slice HO431.out; subst eo16) | ((with_reducible refine gate_builtin (b := .append) (xs := #[.tmp 15, .tmp 18]) rfl ?_); at_builtin; refine Kd.R_append_rows (Kd.int .u8) (w0 := w) w.heap.size rfl (.tmp 15) (.tmp 18) 58 5 (.int .u8 0) 1 rfl Try.underlying58 info5 rfl (by decide) (by omega) v427 t425 t429 _ _ _ (fun k_ => some k_ ≠ (.slice Ao16 t429.length co16 : Value).ownBlock) (fun _ => False) rfl rfl ?aO ?aR (fun _ _ h => h) (fun _ h => h.elim) ?aF ?aB ?aS ?aL ?_; (case aR => repeat (first | exact (Kd.R_reads' HO431.out).2.2 | (with_reducible refine Kd.C_alloc ?_ _) | (with_reducible refine Kd.C_drewN ?_ _) | (with_reducible refine Kd.C_drew ?_))); (case aB => exact (belB HB.out GE423.out)); (case aF => exact (fun k_ hk => Kd.fresh' (Kd.R_lt (rowA HO431.out)) k_ hk)); (case aO => exact (by (with_reducible repeat (first | apply Kd.R_alloc | apply Kd.R_drewN | apply Kd.R_drew)); exact Kd.R_mono HO428.out (fun _ hk => hk.2))); (case aS => exact (below_size (belB HB.out GE423.out))); (case aL => have := LMc6.out; omega); intro v433 w15 ho hb hg hat; rw [← Ny432.out] at ho; have HO434 := Aside0.mk (ho); replace BK423 := grB BK423 hg (hne := (Kd.R_ne HO428.out BK423.out (by decide))); replace HO431 := Aside0.mk (Kd.R_after (ok := (fun _ => True)) (rowA HO431.out) hg hat); replace HB := Aside0.mk (hb); clear HO428; clear ho hb hg hat; obtain ⟨hcz17_0, hcz17_1, hcz17_2, hfz17_0, hfz17_1, hfz17_2⟩ := blk3 BK423) | ((with_reducible refine gate_builtin (b := .append) (xs := #[.tmp 20, .tmp 24]) rfl ?_); at_builtin; refine Kd.R_append (Kd.int .u8) (w0 := w) w.heap.size rfl (.tmp 20) (.tmp 24) 58 5 (.int .u8 0) 1 rfl Try.underlying58 info5 rfl (by decide) (by omega) v433 y432 ((a0_2) % 256) [.int .u8 ((a0_2) % 256)] (fun k_ => some k_ ≠ (.slice Ao16 t429.length co16 : Value).ownBlock) (fun _ => False) rfl rfl ?aP (fun _ hk => hk.elim) ?aF ?aO ?aB ?aS ?aL ?_; (case aP => exact rfl); (case aB => exact (belB HB.out GE423.out)); (case aF => exact (fun k_ hk => Kd.fresh' (Kd.R_lt (rowA HO431.out)) k_ hk)); (case aO => exact (rowA HO434.out)); (case aS => exact (below_size (belB HB.out GE423.out))); (case aL => have := LMc7.out; omega); intro v436 w18 ho hb hg hat; rw [← Ny435.out] at ho; have HO437 := Aside0.mk (ho); replace BK423 := grB BK423 hg (hne := (Kd.R_ne HO434.out BK423.out (by decide))); replace HO431 := Aside0.mk (Kd.R_after (ok := (fun _ => True)) (rowA HO431.out) hg hat); replace HB := Aside0.mk (hb); clear HO434; clear ho hb hg hat))
 go_ret2
 exact ⟨_, ret1, by (with_reducible repeat (first | apply Kd.R_alloc | apply Kd.R_drewN | apply Kd.R_drew)); exact Kd.R_mono HO437.out (fun _ hk => trivial), belB HB.out GE423.out⟩
end Go.Proofs.Ytdopbhbbpgfliaa.PAsk
end
