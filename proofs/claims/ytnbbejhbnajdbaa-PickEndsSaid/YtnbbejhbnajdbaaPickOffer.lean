/- pick.Offer, walked by hand: what is to be done next. -/
import Derived.Test.YtnbbejhbnajdbaaPickM
import Derived.Lib.LazyBuf
namespace Go.Proofs.Ytnbbejhbnajdbaa.PPick
open Go.RowKit Go.Proofs.YtnbbejhbnajdbaaW.PrintWords Go.Proofs.YtnbbejhbnajdbaaW.PrintLast Go.Proofs.YtnbbejhbnajdbaaW.PrintMore Go.Proofs.Ytnbbejhbnajdbaa.XLib

/-- A row of ints of the call's own, nil where it is empty, in the variable t (block gt), beside the result's place (block gr). -/
structure InT (w : World) (gr gt : Nat) (xs : List Int) (lv : Int) (v : Value) (wr : World) : Prop where
  below : Below w.heap.size w wr
  res : wr.heap[gr]? = some (.cells #[.slice none 0 0, .int .i64 0] 29 (0, 0))
  var : wr.heap[gt]? = some (.cells #[v, .int .i64 lv] 29 (0, 0))
  row : Kd.R (Kd.int .i64) 3 wr w.heap.size (fun _ => True) v xs
  nil : xs = [] → v = .slice none 0 0
theorem InT.later {w wr w1 : World} {gr gt : Nat} {xs : List Int} {lv : Int} {v : Value} (h : InT w gr gt xs lv v wr) (hb : Below wr.heap.size wr w1) : InT w gr gt xs lv v w1 :=
  ⟨below_step h.below hb, blk_below h.res hb, blk_below h.var hb, Kd.R_below h.row hb, h.nil⟩

theorem R_base {e base : Nat} {ok : Nat → Prop} {w : World} {v : Value} {xs : List Int} (h : Kd.R (Kd.int .i64) e w base ok v xs) {k : Nat} (hk : v.ownBlock = some k) : base ≤ k := by
  rcases (Kd.own_of_R h).2 with ⟨hv, _⟩ | ⟨g, cap, cur, hv, hb, _⟩
  · subst hv; cases hk
  · subst hv; injection hk with hk; subst hk; exact hb
/-- Behind the first loop. -/
def CutRel (w : World) (l : List Ru) (gr gt : Nat) (wc : World) : Prop := ∃ v : Value, InT w gr gt (phase1 l).1 (phase1 l).2 v wc
/-- At a level's head. -/
def LevRel (w : World) (l : List Ru) (gr gt : Nat) (i : Nat) (wc : World) : Prop := i ≤ 4 ∧ (∀ j : Nat, j < i → fullB l j = false) ∧ InT w gr gt [] 0 (.slice none 0 0) wc
/-- At a run's head, in a full level. -/
def RunRel (w : World) (l : List Ru) (gr gt : Nat) (i j : Nat) (wc : World) : Prop := j ≤ l.length ∧ ∃ v : Value, InT w gr gt (both (l.take j) i) 0 v wc

/-- At a run's head, when the best stale run is looked for. -/
def BestRel (w : World) (l : List Ru) (gr gt gb : Nat) (j : Nat) (wc : World) : Prop := j ≤ l.length ∧ InT w gr gt [] (phase1 l).2 (.slice none 0 0) wc ∧ gt < gb ∧ ∃ b : Ru, b = best (l.take j) ∧ wc.heap[gb]? = some (.cells #[.int .i64 b.f0, .int .i64 b.f1, .int .i64 b.f2, .bool b.f3] 26 (0, 0))
/-- Behind the choice: a row that is not nil in the variable. -/
def EndRel (w : World) (l : List Ru) (gr gt : Nat) (wc : World) : Prop := ∃ (v : Value) (xs : List Int) (lv : Int), InT w gr gt xs lv v wc ∧ xs ≠ [] ∧ xs.length ≤ 64 ∧ offerB l = (sorted xs, lv, true, 0)
theorem best_snoc {l : List Ru} {j : Nat} (h : j < l.length) : best (l.take (j + 1)) = bst (best (l.take j)) l[j] := by
  unfold best
  rw [List.take_succ_eq_append_getElem h, List.foldl_append]
  rfl

theorem phase_none {l : List Ru} (h : ∀ j : Nat, j < 4 → fullB l j = false) : phase1 l = ([], 0) := by
  have h0 := h 0 (by omega); have h1 := h 1 (by omega); have h2 := h 2 (by omega)
  unfold phase1 fullAt
  have h0' : fullB l 0 = false := h0
  have h1' : fullB l 1 = false := h1
  have h2' : fullB l 2 = false := h2
  simp [h0', h1', h2']
theorem phase_some {l : List Ru} {i : Nat} (h : ∀ j : Nat, j < i → fullB l j = false) (hi : fullB l i = true) : i < 3 ∧ phase1 l = (both l i, (i : Int) + 1) := by
  have h3 : i < 3 := by
    rcases Nat.lt_or_ge i 3 with h | h
    · exact h
    · exfalso
      unfold fullB at hi
      rw [if_neg (by omega), if_neg (by omega)] at hi
      cases hi
  refine ⟨h3, ?_⟩
  unfold phase1 fullAt
  have : i = 0 ∨ i = 1 ∨ i = 2 := by omega
  rcases this with rfl | rfl | rfl
  · have hi' : fullB l 0 = true := hi
    simp [hi']
  · have h0 : fullB l 0 = false := h 0 (by omega)
    have hi' : fullB l 1 = true := hi
    simp [h0, hi']
  · have h0 : fullB l 0 = false := h 0 (by omega)
    have h1 : fullB l 1 = false := h 1 (by omega)
    have hi' : fullB l 2 = true := hi
    simp [h0, h1, hi']
theorem both_len (l : List Ru) (i : Int) : (both l i).length ≤ l.length := by
  unfold both
  rw [List.length_map]
  exact List.length_filter_le _ _
theorem phase_len {l : List Ru} (h : l.length ≤ 64) : (phase1 l).1.length ≤ 64 := by
  unfold phase1
  split
  · exact Nat.le_trans (both_len l _) h
  · simp
theorem both_snoc {l : List Ru} {j : Nat} {i : Int} (h : j < l.length) : both (l.take (j + 1)) i = both (l.take j) i ++ (if l[j].f1 = i ∨ l[j].f1 = i + 1 then [l[j].f0] else []) := by
  unfold both
  rw [List.take_succ_eq_append_getElem h, List.filter_append, List.map_append]
  congr 1
  by_cases hc : l[j].f1 = i ∨ l[j].f1 = i + 1
  · rw [if_pos hc]; simp [hc]
  · rw [if_neg hc]; simp [hc]

theorem full_calls (A0 : Option Addr) (c0 : Nat) (l : List Ru) (i : Int) (W w : World) (hr0 : Kd.C k26 w A0 l.length l) (hc0 : l.length ≤ c0) (hi : 0 ≤ i) (hlen : l.length ≤ 64) (hB : Below w.heap.size w W) {b : Bool} (hb : fullB l i = b) :
    Calls Try.prog 22 #[.slice A0 l.length c0, .int .i64 i] W fun e w' => e = .returned (.bool b) ∧ Below W.heap.size W w' := by
  subst hb
  obtain ⟨k, hk⟩ := full_tells l i hi (by omega)
  exact pick_full.calls k A0 c0 l i _ W (Kd.C_below hr0 hB) hc0 hk

set_option maxHeartbeats 4000000 in
set_option maxRecDepth 100000 in
theorem pick_Offer.calls (A0 : Option Addr) (c0 : Nat) (l0 : List Ru) (r1 : List Int) (r2 : Int) (r3 : Bool) (r4 : Int) (w : World) (hr0 : Kd.C k26 w A0 l0.length l0) (hc0 : l0.length ≤ c0) (h : pick_Offer.f l0 = some (r1, r2, r3, r4)) :
    Calls Try.prog 11 #[.slice A0 l0.length c0] w fun e w' => ∃ v0_ : Value, e = .returned (.tuple #[.agg #[v0_, .int .i64 r2], .bool r3, .int .i64 r4]) ∧ Kd.R (Kd.int .i64) 3 w' w.heap.size (fun _ => True) v0_ r1 ∧ Below w.heap.size w w' := by
  unfold pick_Offer.f at h
  by_cases hall : l0.all (fun x => (Lit.int .i64 x.f0).wf) = true
  case neg => rw [if_neg hall] at h; cases h
  rw [if_pos hall] at h
  have ho : Hid (offerB l0 = (r1, r2, r3, r4)) := Lib.hid (Option.some.inj h)
  have HR : Hid (pick_Right.f l0 = some (rightB l0)) := Lib.hid (by unfold pick_Right.f; rw [if_pos hall])
  clear h hall
  have HC := Lib.hid hr0; clear hr0
  by_cases hright : rightB l0 = true
  case neg =>
    have hright' : rightB l0 = false := by simpa using hright
    rw [hright'] at HR
    have ho' : Hid (([], 0, false, 1) = (r1, r2, r3, r4)) := Lib.hid (by rw [← ho.out]; unfold offerB; rw [if_pos hright'])
    clear ho hright hright'
    go_enter Try.func11, Try.ntmps11
    go_wp2
    go_step3
    go_wp2_with (go_at_call 9; refine (pick_Right.calls A0 c0 l0 false _ (Kd.C_below HC.out ((Below.refl _ _).alloc (Nat.le_refl _) _)) hc0 HR.out).mono ?_; rintro e w1 ⟨rfl, hb⟩; have hk := Lib.hid (blk_below (blk_new w _) hb); have hB := Lib.hid (below_step ((Below.refl w.heap.size w).alloc (Nat.le_refl _) _) hb); clear hb; have hc0_ := blk_cell hk.out 0; have hc1_ := blk_cell hk.out 1; have hf0_ := blk_frozen hk.out 0; have hf1_ := blk_frozen hk.out 1; simp at hc0_ hc1_)
    rw [Exit.noGoto_ret]
    refine bodyPost_ret (v := .tuple #[.agg #[.slice none 0 0, .int .i64 0], .bool false, .int .i64 1]) (by simp [results, Try.results11, go_sem, hc0_, hc1_]) rfl ?_
    have e1 := ho'.out
    simp only [Prod.mk.injEq] at e1
    obtain ⟨rfl, rfl, rfl, rfl⟩ := e1
    exact ⟨_, rfl, Kd.R_nil _ _ _ _ _, below_set (below_set hB.out (Nat.le_refl _)) (Nat.le_refl _)⟩
  case pos =>
    rw [hright] at HR
    go_enter Try.func11, Try.ntmps11
    go_wp2
    go_step3
    go_wp2_with (go_at_call 9; refine (pick_Right.calls A0 c0 l0 true _ (Kd.C_below HC.out ((Below.refl _ _).alloc (Nat.le_refl _) _)) hc0 HR.out).mono ?_; rintro e w1 ⟨rfl, hb⟩; have hk := Lib.hid (blk_below (blk_new w _) hb); have hB := Lib.hid (below_step ((Below.refl w.heap.size w).alloc (Nat.le_refl _) _) hb); clear hb; have hc0_ := blk_cell hk.out 0; have hc1_ := blk_cell hk.out 1; have hf0_ := blk_frozen hk.out 0; have hf1_ := blk_frozen hk.out 1; simp at hc0_ hc1_)
    go_step3
    have hlen : l0.length ≤ 64 := by
      have := hright
      unfold rightB at this
      split at this
      · cases this
      · omega
    have hI0 : Hid (InT w w.heap.size w1.heap.size [] 0 (.slice none 0 0) (w1.alloc (.cells #[.slice none 0 0, .int .i64 0] 29))) :=
      Lib.hid ⟨hB.out.alloc (Nat.le_trans (by simp) hB.out.size) _, blk_alloc hk.out _, blk_new _ _, Kd.R_nil _ _ _ _ _, fun _ => rfl⟩
    have hne : Hid (w.heap.size < w1.heap.size) := Lib.hid (blk_lt hk.out)
    have hright := Lib.hid hright
    clear hc0_ hc1_ hf0_ hf1_ hk
    go_upto_block 0 with (fail)
    go_cut [] (fun wc => CutRel w l0 w.heap.size w1.heap.size wc)
    case first =>
      go_wp2_with (fail)
      go_loopw [16] (fun v wr => ∃ i : Nat, v = .int .i64 i ∧ LevRel w l0 w.heap.size w1.heap.size i wr) (fun v _ => 4 - (intOf v).toNat)
      case atStart => exact ⟨0, rfl, by omega, fun j hj => by omega, hI0.out⟩
      case round =>
        obtain ⟨i, rfl, hi4, hnf, hI⟩ := hrel
        have HI := Lib.hid hI; have HN := Lib.hid hnf; clear hI hnf hI0
        by_cases hlt : i < 4
        · have q1 : decide ((i : Int) < 4) = true := decide_eq_true (by omega)
          cases hfull : fullB l0 i with
          | false =>
            have HF := Lib.hid hfull; clear hfull
            go_wp2_with (go_at_call 22; refine (full_calls A0 c0 l0 i _ w HC.out hc0 (by omega) hlen HI.out.below HF.out).mono ?_; rintro e w2 ⟨rfl, hb2⟩; have hB2 := Lib.hid hb2; clear hb2)
            go_roundw
            case rel =>
              refine ⟨i + 1, by go_num, by omega, fun j hj => ?_, HI.out.later hB2.out⟩
              rcases Nat.lt_or_ge j i with h | h
              · exact HN.out j h
              · obtain rfl : j = i := by omega
                exact HF.out
            case measure => simp [intOf]; omega
          | true =>
            have HF := Lib.hid hfull; clear hfull
            go_wp2_with (go_at_call 22; refine (full_calls A0 c0 l0 i _ w HC.out hc0 (by omega) hlen HI.out.below HF.out).mono ?_; rintro e w2 ⟨rfl, hb2⟩; have hB2 := Lib.hid hb2; clear hb2)
            have hI2 := Lib.hid (HI.out.later hB2.out)
            have hph := Lib.hid (phase_some HN.out HF.out)
            clear HI hB2 HN HF
            go_loopw [25] (fun v wr => ∃ j : Nat, v = .int .i64 j ∧ RunRel w l0 w.heap.size w1.heap.size i j wr) (fun v _ => l0.length - (intOf v).toNat)
            case atStart => exact ⟨0, rfl, Nat.zero_le _, _, hI2.out⟩
            case round =>
              obtain ⟨j, rfl, hj, vt, hJ⟩ := hrel
              have HJ := Lib.hid hJ; clear hJ hI2
              by_cases hlt2 : j < l0.length
              · have e1 : decide ((j : Int) < (l0.length : Int)) = true := decide_eq_true (by omega)
                obtain ⟨ad, ha, hx0, hx1, hx2, hx3⟩ := at_T26 HC.out (j : Int) (by omega) (by omega)
                subst ha
                obtain ⟨x, hx⟩ : ∃ x, x = rd_T26 l0 (j : Int) := ⟨_, rfl⟩
                rw [← hx] at hx0 hx1 hx2 hx3
                simp only [Int.toNat_natCast] at hx0 hx1 hx2 hx3
                have hxl : x = l0[j] := by
                  rw [hx]; unfold rd_T26
                  rw [show ((j : Int)).toNat = j from by omega, List.getD_eq_getElem?_getD, List.getElem?_eq_getElem hlt2]
                  rfl
                have hsn : Hid (both (l0.take (j + 1)) i = both (l0.take j) i ++ (if x.f1 = i ∨ x.f1 = (i : Int) + 1 then [x.f0] else [])) := Lib.hid (by rw [both_snoc hlt2, ← hxl])
                clear hxl hx
                have hBJ := HJ.out.below
                replace hx0 := (hBJ.cell (World.block_lt_of_cell? w _ hx0)).trans hx0
                replace hx1 := (hBJ.cell (World.block_lt_of_cell? w _ hx1)).trans hx1
                replace hx2 := (hBJ.cell (World.block_lt_of_cell? w _ hx2)).trans hx2
                replace hx3 := (hBJ.cell (World.block_lt_of_cell? w _ hx3)).trans hx3
                have hsz := hBJ.size
                clear hBJ
                generalize hW1 : wr.alloc (.cells #[.int .i64 x.f0, .int .i64 x.f1, .int .i64 x.f2, .bool x.f3] 26) = W1
                have HK := Lib.hid (HJ.out.later (w1 := W1) (by rw [← hW1]; exact (Below.refl _ _).alloc (Nat.le_refl _) _))
                have hv0 := (blk_cell HK.out.var 0).trans (show _ = some vt from rfl)
                have hv0' := (blk_cell HJ.out.var 0).trans (show _ = some vt from rfl)
                have hltv := blk_lt HJ.out.var
                have hlen2 : Hid ((both (l0.take j) i).length ≤ 64) := Lib.hid (by
                  unfold both
                  rw [List.length_map]
                  exact Nat.le_trans (List.length_filter_le _ _) (by rw [List.length_take]; omega))
                by_cases hc : x.f1 = (i : Int) ∨ x.f1 = (i : Int) + 1
                · have hsn' : Hid (both (l0.take (j + 1)) i = both (l0.take j) i ++ [x.f0]) := Lib.hid (by have := hsn.out; rw [if_pos hc] at this; exact this)
                  rw [← hW1] at hv0
                  have HW1 := Lib.hid hW1; clear hsn hW1
                  by_cases hc1 : x.f1 = (i : Int)
                  all_goals
                    first
                      | (have b1 : (x.f1 == (i : Int)) = true := beq_iff_eq.2 hc1; have b2 : True := trivial)
                      | (have b1 : (x.f1 == (i : Int)) = false := beq_eq_false_iff_ne.2 hc1; have b2 : (x.f1 == (i : Int) + 1) = true := beq_iff_eq.2 (hc.resolve_left hc1))
                    clear hc hc1
                    go_wp2_with (first | ((with_reducible refine gate_builtin (b := .append) (xs := #[.tmp 41, .tmp 44]) rfl ?_); at_builtin; go_loud (refine Kd.R_append (Kd.int .i64) (w0 := w) w.heap.size rfl (.tmp 41) (.tmp 44) 27 3 (.int .i64 0) 8 rfl Try.underlying27 info3 rfl (by decide) (by omega) vt (both (l0.take j) i) x.f0 [.int .i64 x.f0] (fun _ => True) (fun _ => False) rfl (show Value.slice (some ⟨wr.heap.size + 1, 0, none⟩) 1 1 = _ from by simp) ?aP (fun _ hk => hk.elim) ?aF ?aO ?aB ?aS ?aL ?_); (case aP => exact rfl); (case aF => exact fun _ _ => trivial); (case aO => (first | (rw [HW1.out]; exact HK.out.row) | trace_state)); (case aB => rw [HW1.out]; exact HK.out.below); (case aS => rw [HW1.out]; exact HK.out.below.size); (case aL => have := hlen2.out; omega); intro v1 w5 ho hb hg hat; rw [HW1.out] at hg hat; obtain ⟨A1, c1, hv1⟩ := Kd.R_slice ho; subst hv1; have HO := Lib.hid ho; have HBn := Lib.hid hb; have HG := Lib.hid hg; have hv5 := blk_grown HK.out.var hg (Kd.R_ne HK.out.row HK.out.var (by decide)); have HV5 := Lib.hid hv5; have hc5 := (blk_cell hv5 0).trans (show _ = some vt from rfl); have hf5 := blk_frozen hv5 0; have hr5 := Lib.hid (blk_grown HK.out.res hg (Kd.R_ne HK.out.row HK.out.res (by decide))); clear ho hb hg hat hv5))
                    go_roundw
                    case rel =>
                      refine ⟨j + 1, by go_num, hlt2, .slice A1 (both (l0.take j) i ++ [x.f0]).length c1, ?_⟩
                      rw [hsn'.out]
                      exact ⟨below_set HBn.out (Nat.le_of_lt hne.out |> Nat.le_trans (by omega)), blk_far hr5.out (Nat.ne_of_lt hne.out) _, blk_put HV5.out 0 _ (by simp), Kd.R_set HO.out HV5.out (by decide) _ _, fun h => absurd h (by simp)⟩
                    case measure => simp [intOf]; omega
                · have hsn' : Hid (both (l0.take (j + 1)) i = both (l0.take j) i) := Lib.hid (by have := hsn.out; rw [if_neg hc, List.append_nil] at this; exact this)
                  have b1 : (x.f1 == (i : Int)) = false := beq_eq_false_iff_ne.2 (fun h => hc (.inl h))
                  have b2 : (x.f1 == (i : Int) + 1) = false := beq_eq_false_iff_ne.2 (fun h => hc (.inr h))
                  have HW1 := Lib.hid hW1; clear hsn hW1 hc hv0
                  go_wp2
                  go_roundw
                  case rel =>
                    refine ⟨j + 1, by go_num, hlt2, vt, ?_⟩
                    rw [hsn'.out]
                    have := HK.out
                    rw [← HW1.out] at this
                    exact this
                  case measure => simp [intOf]; omega
              · have e1 : decide ((j : Int) < (l0.length : Int)) = false := decide_eq_false (by omega)
                have hbo : Hid (both (l0.take j) i = both l0 i) := Lib.hid (by rw [List.take_of_length_le (by omega)])
                have hcv := (blk_cell HJ.out.var 1).trans (show _ = some (Value.int .i64 0) from rfl)
                have hfv := blk_frozen HJ.out.var 1
                go_wp2
                go_meet
                case rel =>
                  refine ⟨vt, ?_⟩
                  rw [hph.out.2, ← hbo.out]
                  exact ⟨below_set HJ.out.below (Nat.le_of_lt hne.out), blk_far HJ.out.res (Nat.ne_of_lt hne.out) _, blk_put HJ.out.var 1 _ (by simp), Kd.R_set HJ.out.row HJ.out.var (by decide) _ _, HJ.out.nil⟩
        · have q1 : decide ((i : Int) < 4) = false := decide_eq_false (by omega)
          have hp : Hid (phase1 l0 = ([], 0)) := Lib.hid (phase_none (fun j hj => HN.out j (by omega)))
          go_wp2
          go_meet
          case rel => exact ⟨_, by rw [hp.out]; exact HI.out⟩
    case rest =>
      obtain ⟨vt, hJ⟩ := hcut
      have HJ := Lib.hid hJ; clear hJ
      have qn : ∀ (w : World) (a : Option Addr) (n c : Nat), (binOp .eql 27 (Value.slice a n c) (Value.slice none 0 0)).run Try.prog w = .ok (.bool a.isNone) w := fun w a n c => run_eql_slice_nil w _ _ a n c Try.underlying27
      obtain ⟨A1, c1, hv1⟩ := Kd.R_slice HJ.out.row
      have hnone : A1 = none → (phase1 l0).1 = [] := by
        intro h
        subst h; subst hv1
        rcases (Kd.own_of_R HJ.out.row).2 with ⟨_, h0⟩ | ⟨g, cap, cur, hv, _⟩
        · exact List.length_eq_zero_iff.1 h0
        · cases hv
      have hsome : A1 ≠ none → (phase1 l0).1 ≠ [] := by
        intro h h0
        have := HJ.out.nil h0
        rw [hv1] at this
        injection this with h1
        exact h h1
      subst hv1
      have hvr := Lib.hid HJ.out.var
      have hcv0 := (blk_cell hvr.out 0).trans (show _ = some (Value.slice A1 _ c1) from rfl)
      go_upto_if 54 with (fail)
      go_cut [] (fun wx => EndRel w l0 w.heap.size w1.heap.size wx)
      case first =>
        by_cases hA : A1 = none
        · have hnil := Lib.hid (hnone hA)
          subst hA
          clear hnone hsome
          go_wp2_with (fail)
          go_loopw [58] (fun v wr => ∃ j : Nat, v = .int .i64 j ∧ BestRel w l0 w.heap.size w1.heap.size wc.heap.size j wr) (fun v _ => l0.length - (intOf v).toNat)
          case atStart =>
            refine ⟨0, rfl, Nat.zero_le _, ?_, blk_lt hvr.out, ⟨0, 4, 0, false⟩, rfl, ?_⟩
            · have := HJ.out
              rw [this.nil hnil.out, hnil.out] at this
              exact this.later (by first | exact (Below.refl _ _).alloc (Nat.le_refl _) _ | skip)
            · exact blk_new _ _
          case round =>
            obtain ⟨j, rfl, hj, hJ, hgb, b, hb, hB0⟩ := hrel
            have HJ2 := Lib.hid hJ; have HB0 := Lib.hid hB0; clear hJ hB0
            by_cases hlt2 : j < l0.length
            · have e1 : decide ((j : Int) < (l0.length : Int)) = true := decide_eq_true (by omega)
              obtain ⟨ad, ha, hx0, hx1, hx2, hx3⟩ := at_T26 HC.out (j : Int) (by omega) (by omega)
              subst ha
              obtain ⟨x, hx⟩ : ∃ x, x = rd_T26 l0 (j : Int) := ⟨_, rfl⟩
              rw [← hx] at hx0 hx1 hx2 hx3
              simp only [Int.toNat_natCast] at hx0 hx1 hx2 hx3
              have hxl : x = l0[j] := by
                rw [hx]; unfold rd_T26
                rw [show ((j : Int)).toNat = j from by omega, List.getD_eq_getElem?_getD, List.getElem?_eq_getElem hlt2]
                rfl
              have hbn : Hid (best (l0.take (j + 1)) = bst b x) := Lib.hid (by rw [best_snoc hlt2, ← hxl, hb])
              clear hxl hx hb
              have hBJ := HJ2.out.below
              replace hx0 := (hBJ.cell (World.block_lt_of_cell? w _ hx0)).trans hx0
              replace hx1 := (hBJ.cell (World.block_lt_of_cell? w _ hx1)).trans hx1
              replace hx2 := (hBJ.cell (World.block_lt_of_cell? w _ hx2)).trans hx2
              replace hx3 := (hBJ.cell (World.block_lt_of_cell? w _ hx3)).trans hx3
              clear hBJ
              have hlb := blk_lt HB0.out
              have hg0 := (blk_cell HB0.out 0).trans (show _ = some (Value.int .i64 b.f0) from rfl)
              have hg1 := (blk_cell HB0.out 1).trans (show _ = some (Value.int .i64 b.f1) from rfl)
              have hg2 := (blk_cell HB0.out 2).trans (show _ = some (Value.int .i64 b.f2) from rfl)
              have hg3 := (blk_cell HB0.out 3).trans (show _ = some (Value.bool b.f3) from rfl)
              have hp0 := blk_frozen HB0.out 0
              have hp1 := blk_frozen HB0.out 1
              have hp2 := blk_frozen HB0.out 2
              have hp3 := blk_frozen HB0.out 3
              have hgr : Hid (w.heap.size ≤ wc.heap.size ∧ w.heap.size ≠ wc.heap.size ∧ w1.heap.size ≠ wc.heap.size) := Lib.hid (by have := hne.out; omega)
              have hgt' := Lib.hid hgb
              clear hgb
              by_cases hc : x.f3 = true ∧ (x.f1 < b.f1 ∨ x.f1 = b.f1 ∧ x.f0 < b.f0)
              · have hbn' : Hid (best (l0.take (j + 1)) = x) := Lib.hid (by rw [hbn.out]; unfold bst; rw [if_pos hc])
                obtain ⟨c1', c2'⟩ := hc
                have hf3 := Lib.hid c1'
                rw [c1'] at hx3
                clear hbn c1'
                by_cases c3 : x.f1 < b.f1
                all_goals
                  first
                    | have d1 : decide (x.f1 < b.f1) = true := decide_eq_true c3
                    | (have d1 : decide (x.f1 < b.f1) = false := decide_eq_false c3; have d2 : (x.f1 == b.f1) = true := beq_iff_eq.2 (c2'.resolve_left c3).1; have d3 : decide (x.f0 < b.f0) = true := decide_eq_true (c2'.resolve_left c3).2)
                  clear c2' c3
                  go_wp2_with (fail)
                  go_roundw
                  case rel =>
                    refine ⟨j + 1, by go_num, hlt2, ⟨?_, ?_, ?_, Kd.R_nil _ _ _ _ _, fun _ => rfl⟩, hgt'.out, x, hbn'.out.symm, ?_⟩
                    · exact (below_set (below_set (below_set (below_set HJ2.out.below hgr.out.1) hgr.out.1) hgr.out.1) hgr.out.1).alloc (by simpa [World.setCell] using HJ2.out.below.size) _
                    · exact blk_alloc (blk_far (blk_far (blk_far (blk_far HJ2.out.res hgr.out.2.1 _) hgr.out.2.1 _) hgr.out.2.1 _) hgr.out.2.1 _) _
                    · exact blk_alloc (blk_far (blk_far (blk_far (blk_far HJ2.out.var hgr.out.2.2 _) hgr.out.2.2 _) hgr.out.2.2 _) hgr.out.2.2 _) _
                    · rw [hf3.out]
                      exact blk_alloc (blk_put (blk_put (blk_put (blk_put HB0.out 0 _ rfl) 1 _ rfl) 2 _ rfl) 3 _ rfl) _
                  case measure => simp [intOf]; omega
              · have hbn' : Hid (best (l0.take (j + 1)) = b) := Lib.hid (by rw [hbn.out]; unfold bst; rw [if_neg hc])
                clear hbn
                cases hf3 : x.f3 with
                | false =>
                  rw [hf3] at hx3
                  clear hc hf3
                  go_wp2_with (fail)
                  go_roundw
                  case rel => exact ⟨j + 1, by go_num, hlt2, HJ2.out.later ((Below.refl _ _).alloc (Nat.le_refl _) _), hgt'.out, b, hbn'.out.symm, blk_alloc HB0.out _⟩
                  case measure => simp [intOf]; omega
                | true =>
                  rw [hf3] at hx3
                  have d1 : decide (x.f1 < b.f1) = false := decide_eq_false (fun h => hc ⟨hf3, .inl h⟩)
                  by_cases c4 : x.f1 = b.f1
                  all_goals
                    first
                      | (have d2 : (x.f1 == b.f1) = true := beq_iff_eq.2 c4; have d3 : decide (x.f0 < b.f0) = false := decide_eq_false (fun h => hc ⟨hf3, .inr ⟨c4, h⟩⟩))
                      | have d2 : (x.f1 == b.f1) = false := beq_eq_false_iff_ne.2 c4
                    clear hc hf3 c4
                    go_wp2_with (fail)
                    go_roundw
                    case rel => exact ⟨j + 1, by go_num, hlt2, HJ2.out.later ((Below.refl _ _).alloc (Nat.le_refl _) _), hgt'.out, b, hbn'.out.symm, blk_alloc HB0.out _⟩
                    case measure => simp [intOf]; omega
            · have e1 : decide ((j : Int) < (l0.length : Int)) = false := decide_eq_false (by omega)
              have hbb : Hid (b = best l0) := Lib.hid (by rw [hb, List.take_of_length_le (by omega)])
              have hg0 := (blk_cell HB0.out 0).trans (show _ = some (Value.int .i64 b.f0) from rfl)
              have hg1 := (blk_cell HB0.out 1).trans (show _ = some (Value.int .i64 b.f1) from rfl)
              have hs0 := (blk_cell HJ2.out.res 0).trans (show _ = some (Value.slice none 0 0) from rfl)
              have hs1 := (blk_cell HJ2.out.res 1).trans (show _ = some (Value.int .i64 0) from rfl)
              have hq0 := blk_frozen HJ2.out.res 0
              have hq1 := blk_frozen HJ2.out.res 1
              have ht0 := (blk_cell HJ2.out.var 0).trans (show _ = some (Value.slice none 0 0) from rfl)
              have ht1 := (blk_cell HJ2.out.var 1).trans (show _ = some (Value.int .i64 (phase1 l0).2) from rfl)
              have hp0 := blk_frozen HJ2.out.var 0
              have hp1 := blk_frozen HJ2.out.var 1
              have hlb := blk_lt HB0.out
              have hlt := blk_lt HJ2.out.var
              clear hb
              by_cases hz : b.f0 = 0
              · have hz' : (b.f0 == 0) = true := beq_iff_eq.2 hz
                have HZ := Lib.hid hz; clear hz
                go_wp2_with (fail)
                rw [Exit.noGoto_ret]
                refine bodyPost_ret (v := .tuple #[.agg #[.slice none 0 0, .int .i64 0], .bool false, .int .i64 0]) (by simp [results, Try.results11, go_sem, hs0, hs1]) rfl ?_
                have e2 := ho.out
                unfold offerB at e2
                rw [if_neg (by rw [hright.out]; decide), if_neg (by rw [hnil.out]; exact fun h => h rfl), if_pos (by rw [← hbb.out]; exact HZ.out)] at e2
                simp only [Prod.mk.injEq] at e2
                obtain ⟨rfl, rfl, rfl, rfl⟩ := e2
                exact ⟨_, rfl, Kd.R_nil _ _ _ _ _, below_set (below_set HJ2.out.below (Nat.le_refl _)) (Nat.le_refl _)⟩
              · have hz' : (b.f0 == 0) = false := beq_eq_false_iff_ne.2 hz
                have HZ := Lib.hid hz; clear hz
                go_wp2_with (fail)
                go_meet
                case rel =>
                  refine ⟨.slice (some ⟨wr.heap.size, 0, none⟩) 1 1, [b.f0], b.f1, ⟨?_, ?_, ?_, ?_, fun h => absurd h (by simp)⟩, by simp, by simp, ?_⟩
                  · exact (below_set (below_set HJ2.out.below (Nat.le_of_lt hne.out)) (Nat.le_of_lt hne.out)).alloc (by simpa [World.setCell] using HJ2.out.below.size) _
                  · exact blk_alloc (blk_far (blk_far HJ2.out.res (Nat.ne_of_lt hne.out) _) (Nat.ne_of_lt hne.out) _) _
                  · exact blk_alloc (blk_put (blk_put HJ2.out.var 0 _ rfl) 1 _ rfl) _
                  · refine Kd.R_of_own ⟨rfl, .inr ⟨wr.heap.size, 1, #[.int .i64 b.f0], rfl, HJ2.out.below.size, ?_, Nat.le_refl _, by decide, rfl, rfl⟩⟩ (fun _ _ => trivial)
                    have := blk_new ((wr.setCell ⟨w1.heap.size, 0, none⟩ (.slice (some ⟨wr.heap.size, 0, none⟩) 1 1)).setCell ⟨w1.heap.size, 1, none⟩ (.int .i64 b.f1)) (.cells #[.int .i64 b.f0] 3)
                    simpa using this
                  · unfold offerB
                    rw [if_neg (by rw [hright.out]; decide), if_neg (by rw [hnil.out]; exact fun h => h rfl), if_neg (by rw [← hbb.out]; exact HZ.out), ← hbb.out]
                    simp [sorted]
        · have hne1 := Lib.hid (hsome hA)
          clear hnone hsome
          cases A1 with
          | none => exact absurd rfl hA
          | some ad =>
            go_wp2_with (fail)
            go_meet
            case rel =>
              refine ⟨_, _, _, HJ.out, hne1.out, ?_, ?_⟩
              · exact phase_len hlen
              · unfold offerB
                rw [if_neg (by rw [hright.out]; decide), if_pos hne1.out]
      case rest =>
        obtain ⟨v2, xs2, lv2, hJ2, hx2, hl2, ho2⟩ := hcut
        have HJ2 := Lib.hid hJ2; have HX2 := Lib.hid hx2; have HL2 := Lib.hid hl2; have HO2 := Lib.hid ho2
        obtain ⟨A2, c2, hv2⟩ := Kd.R_slice hJ2.row
        subst hv2
        clear hJ2 hx2 hl2 ho2
        have hs0 := (blk_cell HJ2.out.res 0).trans (show _ = some (Value.slice none 0 0) from rfl)
        have hs1 := (blk_cell HJ2.out.res 1).trans (show _ = some (Value.int .i64 0) from rfl)
        have ht0 := (blk_cell HJ2.out.var 0).trans (show _ = some (Value.slice A2 _ c2) from rfl)
        go_wp2_with (go_at_call 23; refine (sort_own HJ2.out.row (by have := HL2.out; omega)).mono ?_; rintro e w3 ⟨rfl, hrow3, hg3⟩; have HR3 := Lib.hid hrow3; have HRs := Lib.hid (blk_grown HJ2.out.res hg3 (Kd.R_ne HJ2.out.row HJ2.out.res (by decide))); have HVr := Lib.hid (blk_grown HJ2.out.var hg3 (Kd.R_ne HJ2.out.row HJ2.out.var (by decide))); have HB3 := Lib.hid (Below.grown HJ2.out.below hg3 HJ2.out.below.size (fun k hk => R_base HJ2.out.row hk)); clear hrow3 hg3; have hs0 := (blk_cell HRs.out 0).trans (show _ = some (Value.slice none 0 0) from rfl); have hs1 := (blk_cell HRs.out 1).trans (show _ = some (Value.int .i64 0) from rfl); have ht0 := (blk_cell HVr.out 0).trans (show _ = some (Value.slice A2 _ c2) from rfl); have ht1 := (blk_cell HVr.out 1).trans (show _ = some (Value.int .i64 lv2) from rfl); have hq0 := blk_frozen HRs.out 0; have hq1 := blk_frozen HRs.out 1)
        rw [Exit.noGoto_ret]
        refine bodyPost_ret (v := .tuple #[.agg #[.slice A2 xs2.length c2, .int .i64 lv2], .bool true, .int .i64 0]) (by simp [results, Try.results11, go_sem, hs0, hs1]) rfl ?_
        have e2 := ho.out
        rw [HO2.out] at e2
        simp only [Prod.mk.injEq] at e2
        obtain ⟨rfl, rfl, rfl, rfl⟩ := e2
        exact ⟨_, rfl, Kd.R_set (Kd.R_set HR3.out HRs.out (by decide) _ _) (blk_put HRs.out 0 _ rfl) (by decide) _ _, below_set (below_set HB3.out (Nat.le_refl _)) (Nat.le_refl _)⟩
end Go.Proofs.Ytnbbejhbnajdbaa.PPick
