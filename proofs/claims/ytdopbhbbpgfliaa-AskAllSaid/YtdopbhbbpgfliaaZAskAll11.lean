import Derived.Test.YtdopbhbbpgfliaaZAskAll10
section
namespace Go.Proofs.Ytdopbhbbpgfliaa.PAsk
open Go.RowKit Go.Proofs.YtdopbhbbpgfliaaW.PrintWords Go.Proofs.YtdopbhbbpgfliaaW.PrintLast Go.Proofs.YtdopbhbbpgfliaaW.PrintMore
set_option linter.unusedVariables false
set_option linter.unusedSimpArgs false
set_option maxHeartbeats 8000000
set_option maxRecDepth 100000
abbrev Ag := S42
def leastI (a b : Int) : Int := if b < a then b else a
def mostI (a b : Int) : Int := if a < b then b else a
theorem better_less (a b : Int) (w : World) : Calls Try.prog 32 #[.int .i64 a, .int .i64 b, .func (.func 29) #[] #[]] w fun e w' => e = .returned (.int .i64 (leastI a b)) ∧ w = w' := by
  unfold leastI
  have hc : Calls Try.prog 29 #[.int .i64 b, .int .i64 a] w fun e w' => e = .returned (.bool (decide (b < a))) ∧ w = w' := by
    go_enter Try.func29, Try.ntmps29
    go_wp2
    go_ret
    exact ⟨rfl, rfl⟩
  by_cases h : b < a
  all_goals
    first | have e : decide (b < a) = true := decide_eq_true h | have e : decide (b < a) = false := decide_eq_false h
    go_enter Try.func32, Try.ntmps32
    go_wp2_with (go_at_call 29; refine hc.mono ?_; rintro e w' ⟨rfl, rfl⟩)
    go_ret
    exact ⟨by first | rfl | (simp [h]; done), rfl⟩
theorem better_more (a b : Int) (w : World) : Calls Try.prog 32 #[.int .i64 a, .int .i64 b, .func (.func 30) #[] #[]] w fun e w' => e = .returned (.int .i64 (mostI a b)) ∧ w = w' := by
  unfold mostI
  have hc : Calls Try.prog 30 #[.int .i64 b, .int .i64 a] w fun e w' => e = .returned (.bool (decide (a < b))) ∧ w = w' := by
    go_enter Try.func30, Try.ntmps30
    go_wp2
    go_ret
    exact ⟨rfl, rfl⟩
  by_cases h : a < b
  all_goals
    first | have e : decide (a < b) = true := decide_eq_true h | have e : decide (a < b) = false := decide_eq_false h
    go_enter Try.func32, Try.ntmps32
    go_wp2_with (go_at_call 30; refine hc.mono ?_; rintro e w' ⟨rfl, rfl⟩)
    go_ret
    exact ⟨by first | rfl | (simp [h]; done), rfl⟩
theorem bcell {W w1 : World} (hb : Below W.heap.size W w1) : (∀ b o, b < W.heap.size → w1.cell? ⟨b, o, none⟩ = W.cell? ⟨b, o, none⟩) ∧ (∀ b o, b < W.heap.size → w1.frozen? ⟨b, o, none⟩ = W.frozen? ⟨b, o, none⟩) :=
  ⟨fun b o h => hb.cell (p := ⟨b, o, none⟩) h, fun b o h => hb.frozen (p := ⟨b, o, none⟩) h⟩
def MgS (w : World) (g : Nat) (ca cb : Array Value) (wr : World) : Prop := Below w.heap.size w wr ∧ wr.heap[g]? = some (.cells ca 42 (0, 0)) ∧ wr.heap[g + 1]? = some (.cells cb 42 (0, 0)) ∧ wr.heap[g + 1 + 1]? = some (.cells #[.int .u64 0, .bool false, .int .i64 0, .int .u64 0, .int .i64 0, .int .i64 0] 42 (0, 0))
section
variable {w : World} {g : Nat} {ca cb : Array Value} {wr w1 : World}
theorem MgS.below (h : MgS w g ca cb wr) (hb : Below wr.heap.size wr w1) : MgS w g ca cb w1 := ⟨below_step h.1 hb, blk_below h.2.1 hb, blk_below h.2.2.1 hb, blk_below h.2.2.2 hb⟩
theorem MgS.start (w : World) (ca cb : Array Value) : MgS w w.heap.size ca cb (((w.alloc (.cells ca 42)).alloc (.cells cb 42)).alloc (.cells #[.int .u64 0, .bool false, .int .i64 0, .int .u64 0, .int .i64 0, .int .i64 0] 42)) := by
  refine ⟨(((Below.refl w.heap.size w).alloc (Nat.le_refl _) _).alloc (by simp) _).alloc (by simp; omega) _, blk_alloc (blk_alloc (blk_new _ _) _) _, ?_, ?_⟩
  · have := blk_alloc (blk_new (w.alloc (.cells ca 42)) (.cells cb 42)) (.cells #[.int .u64 0, .bool false, .int .i64 0, .int .u64 0, .int .i64 0, .int .i64 0] 42)
    simpa using this
  · have := blk_new ((w.alloc (.cells ca 42)).alloc (.cells cb 42)) (.cells #[.int .u64 0, .bool false, .int .i64 0, .int .u64 0, .int .i64 0, .int .i64 0] 42)
    simpa using this
theorem MgS.sized (h : MgS w g ca cb wr) : g + 1 + 1 < wr.heap.size := blk_lt h.2.2.2
theorem MgS.drew (h : MgS w g ca cb wr) : MgS w g ca cb wr.drew := ⟨below_drew1 h.1, h.2.1, h.2.2.1, h.2.2.2⟩
theorem MgS.alloc (h : MgS w g ca cb wr) (o : Obj) : MgS w g ca cb (wr.alloc o) := h.below ((Below.refl _ _).alloc (Nat.le_refl _) _)
theorem MgS.set (h : MgS w g ca cb wr) {p : Addr} (hp : g + 1 + 1 < p.block) (hw : w.heap.size ≤ g) (u : Value) : MgS w g ca cb (wr.setCell p u) :=
  ⟨Below.setCell h.1 (by omega) _, blk_far h.2.1 (by omega) u, blk_far h.2.2.1 (by omega) u, blk_far h.2.2.2 (by omega) u⟩
end
theorem mgC {w : World} {g : Nat} {a0 : Int} {a1 : Bool} {a2 a3 a4 a5 b0 : Int} {b1 : Bool} {b2 b3 b4 b5 : Int} {w' : World} (h : MgS w g #[.int .u64 a0, .bool a1, .int .i64 a2, .int .u64 a3, .int .i64 a4, .int .i64 a5] #[.int .u64 b0, .bool b1, .int .i64 b2, .int .u64 b3, .int .i64 b4, .int .i64 b5] w') :
    ((w'.cell? ⟨g, 0, none⟩ = some (.int .u64 a0) ∧ w'.cell? ⟨g, 1, none⟩ = some (.bool a1) ∧ w'.cell? ⟨g, 2, none⟩ = some (.int .i64 a2) ∧ w'.cell? ⟨g, 3, none⟩ = some (.int .u64 a3) ∧ w'.cell? ⟨g, 4, none⟩ = some (.int .i64 a4) ∧ w'.cell? ⟨g, 5, none⟩ = some (.int .i64 a5)) ∧ (w'.cell? ⟨g + 1, 0, none⟩ = some (.int .u64 b0) ∧ w'.cell? ⟨g + 1, 1, none⟩ = some (.bool b1) ∧ w'.cell? ⟨g + 1, 2, none⟩ = some (.int .i64 b2) ∧ w'.cell? ⟨g + 1, 3, none⟩ = some (.int .u64 b3) ∧ w'.cell? ⟨g + 1, 4, none⟩ = some (.int .i64 b4) ∧ w'.cell? ⟨g + 1, 5, none⟩ = some (.int .i64 b5))) ∧ MgS w g #[.int .u64 a0, .bool a1, .int .i64 a2, .int .u64 a3, .int .i64 a4, .int .i64 a5] #[.int .u64 b0, .bool b1, .int .i64 b2, .int .u64 b3, .int .i64 b4, .int .i64 b5] w' :=
  ⟨⟨⟨blk_cell h.2.1 0, blk_cell h.2.1 1, blk_cell h.2.1 2, blk_cell h.2.1 3, blk_cell h.2.1 4, blk_cell h.2.1 5⟩, ⟨blk_cell h.2.2.1 0, blk_cell h.2.2.1 1, blk_cell h.2.2.1 2, blk_cell h.2.2.1 3, blk_cell h.2.2.1 4, blk_cell h.2.2.1 5⟩⟩, h⟩
def MgD (w : World) (g : Nat) (ca cb cm : Array Value) (wr : World) (v : Value) : Prop := ∃ gb, v = .pointer (some ⟨gb, 0, none⟩) ∧ g + 1 + 1 < gb ∧ MgS w g ca cb wr ∧ wr.heap[gb]? = some (.cells cm 42 (0, 0))
def mgTop (c a0 : Int) (ov : Bool) : Int × Bool := if c < a0 ∨ ov = true then (18446744073709551615, true) else (c, false)
theorem take_at {P : Program} {md : Region.Mode} {ops : Array Oper} {Q : Exit → Act → World → Prop} {S : World → Prop} {i : Nat} {N : Tmp} {oi : Oper} {v : Value} {fuel : Nat} {listed : Array Bool} {a : Act} {w : World} (hi : ops[i]? = some oi) (hN : oi.dst = some N)
    (hs : Region.noSelect ops = true) (hf : Region.free md ops listed i = true) (hr : (Region.ready md ops listed).contains i = true)
    (hQ : ∀ c a w, Q (.panic c) (a.put oi.dst v) w → Q (.panic c) a w) (hy : YieldsIf P ops S oi v a) (hS : S w)
    (h : wpAnyH P md ops Q S fuel (listed.setIfInBounds i true) (a.put (some N) v) w) : wpAnyH P md ops Q S (fuel + 1) listed a w :=
  wpAnyH_take hi hs hf hr hQ hy hS (by rw [hN]; exact h)
theorem merge_no (a0 a2 a3 a4 a5 b0 : Int) (b1 : Bool) (b2 b3 b4 b5 : Int) (w : World) (h0 : ¬ a0 = 0) (h1 : ¬ b0 = 0) (hu : inU a3 ∧ inU b3) :
    Calls Try.prog 14 #[.agg #[.int .u64 a0, .bool false, .int .i64 a2, .int .u64 a3, .int .i64 a4, .int .i64 a5], .agg #[.int .u64 b0, .bool b1, .int .i64 b2, .int .u64 b3, .int .i64 b4, .int .i64 b5]] w fun e w' => e = .returned (.agg #[.int .u64 (mgTop (IntKind.u64.wrap (a0 + b0)) a0 b1).1, .bool (mgTop (IntKind.u64.wrap (a0 + b0)) a0 b1).2, .int .i64 (addW ⟨a2, a3⟩ ⟨b2, b3⟩).f0, .int .u64 (addW ⟨a2, a3⟩ ⟨b2, b3⟩).f1, .int .i64 (leastI a4 b4), .int .i64 (mostI a5 b5)]) ∧ Below w.heap.size w w' := by
  have e0 : (a0 == 0) = false := beq_eq_false_iff_ne.2 h0
  have e1 : (b0 == 0) = false := beq_eq_false_iff_ne.2 h1
  have HU := Lib.hid hu
  have HS := Lib.hid (MgS.start w #[.int .u64 a0, .bool false, .int .i64 a2, .int .u64 a3, .int .i64 a4, .int .i64 a5] #[.int .u64 b0, .bool b1, .int .i64 b2, .int .u64 b3, .int .i64 b4, .int .i64 b5])
  have HADD : Hid (wide_Add.f a2 a3 b2 b3 = some ((addW ⟨a2, a3⟩ ⟨b2, b3⟩).f0, (addW ⟨a2, a3⟩ ⟨b2, b3⟩).f1)) := Lib.hid (by unfold wide_Add.f; rw [if_pos HU.out])
  clear h0 h1 hu
  go_enter Try.func14, Try.ntmps14
  go_upto_region 7 with (fail)
  generalize hW0 : (((w.alloc (.cells #[.int .u64 a0, .bool false, .int .i64 a2, .int .u64 a3, .int .i64 a4, .int .i64 a5] 42)).alloc (.cells #[.int .u64 b0, .bool b1, .int .i64 b2, .int .u64 b3, .int .i64 b4, .int .i64 b5] 42)).alloc (.cells #[.int .u64 0, .bool false, .int .i64 0, .int .u64 0, .int .i64 0, .int .i64 0] 42)) = W0 at HS ⊢
  clear hW0
  go_cut [7] (fun v7 wc => MgD w w.heap.size #[.int .u64 a0, .bool false, .int .i64 a2, .int .u64 a3, .int .i64 a4, .int .i64 a5] #[.int .u64 b0, .bool b1, .int .i64 b2, .int .u64 b3, .int .i64 b4, .int .i64 b5] #[.int .u64 (IntKind.u64.wrap (a0 + b0)), .bool b1, .int .i64 (addW ⟨a2, a3⟩ ⟨b2, b3⟩).f0, .int .u64 (addW ⟨a2, a3⟩ ⟨b2, b3⟩).f1, .int .i64 (leastI a4 b4), .int .i64 (mostI a5 b5)] wc v7)
  case first =>
    have hz := HS.out.sized
    go_region_held3 (fun w' => ((w'.cell? ⟨w.heap.size, 0, none⟩ = some (.int .u64 a0) ∧ w'.cell? ⟨w.heap.size, 1, none⟩ = some (.bool false) ∧ w'.cell? ⟨w.heap.size, 2, none⟩ = some (.int .i64 a2) ∧ w'.cell? ⟨w.heap.size, 3, none⟩ = some (.int .u64 a3) ∧ w'.cell? ⟨w.heap.size, 4, none⟩ = some (.int .i64 a4) ∧ w'.cell? ⟨w.heap.size, 5, none⟩ = some (.int .i64 a5)) ∧ (w'.cell? ⟨w.heap.size + 1, 0, none⟩ = some (.int .u64 b0) ∧ w'.cell? ⟨w.heap.size + 1, 1, none⟩ = some (.bool b1) ∧ w'.cell? ⟨w.heap.size + 1, 2, none⟩ = some (.int .i64 b2) ∧ w'.cell? ⟨w.heap.size + 1, 3, none⟩ = some (.int .u64 b3) ∧ w'.cell? ⟨w.heap.size + 1, 4, none⟩ = some (.int .i64 b4) ∧ w'.cell? ⟨w.heap.size + 1, 5, none⟩ = some (.int .i64 b5))) ∧ MgS w w.heap.size #[.int .u64 a0, .bool false, .int .i64 a2, .int .u64 a3, .int .i64 a4, .int .i64 a5] #[.int .u64 b0, .bool b1, .int .i64 b2, .int .u64 b3, .int .i64 b4, .int .i64 b5] w') (first | (with_reducible assumption) | (with_reducible exact mgC HS.out.drew) | (have h_ := ‹(_ ∧ _) ∧ MgS _ _ _ _ _›.2; refine mgC ?_; first | (with_reducible exact h_) | (with_reducible exact MgS.below h_ hb1) | (with_reducible exact MgS.alloc h_ _) | (with_reducible exact MgS.alloc (MgS.below HS.out.drew hb1) _) | (with_reducible exact MgS.drew (MgS.alloc HS.out _)) | ((with_reducible refine MgS.set (MgS.set (MgS.set (MgS.set (MgS.set (MgS.set h_ ?_ (Nat.le_refl _) _) ?_ (Nat.le_refl _) _) ?_ (Nat.le_refl _) _) ?_ (Nat.le_refl _) _) ?_ (Nat.le_refl _) _) ?_ (Nat.le_refl _) _) <;> exact hz))) (first | (go_at_call 31; (with_reducible refine (wide_Add.calls _ _ _ _ _ _ _ HADD.out).mono ?_); rintro e w1 ⟨rfl, hb1⟩; obtain ⟨hcc, hff⟩ := bcell hb1) | (go_at_call 32; (with_reducible refine (better_less _ _ _).mono ?_); rintro e w1 ⟨rfl, rfl⟩) | (go_at_call 32; (with_reducible refine (better_more _ _ _).mono ?_); rintro e w1 ⟨rfl, rfl⟩))
    all_goals
      go_wp2
      go_meet
      case rel =>
        have h_ := ‹(_ ∧ _) ∧ MgS _ _ _ _ _›.2
        refine ⟨_, rfl, ?_, h_, ?_⟩
        · first | exact hz | (have := hb1.size; simp at this; omega)
        · first
            | (with_reducible exact blk_new _ _)
            | exact blk_put (blk_put (blk_put (blk_put (blk_put (blk_put (blk_below (show (W0.alloc (.cells #[.int .u64 0, .bool false, .int .i64 0, .int .u64 0, .int .i64 0, .int .i64 0] 42)).drew.heap[W0.heap.size]? = some _ from blk_new W0 _) hb1) 0 _ rfl) 1 _ rfl) 2 _ rfl) 3 _ rfl) 4 _ rfl) 5 _ rfl
  case rest =>
    obtain ⟨gb, rfl, hgb, hM, hm⟩ := hcut
    have HM := Lib.hid hM; have HG := Lib.hid hm; have HGB := Lib.hid hgb; have HBW := Lib.hid hM.1; have HRS := Lib.hid hM.2.2.2
    clear hM hm HS HADD
    have hA0 := (blk_cell HM.out.2.1 0).trans (show _ = some (Value.int .u64 a0) from rfl)
    have hm0 := (blk_cell HG.out 0).trans (show _ = some (Value.int .u64 (IntKind.u64.wrap (a0 + b0))) from rfl)
    have hm1 := (blk_cell HG.out 1).trans (show _ = some (Value.bool b1) from rfl)
    have hm2 := (blk_cell HG.out 2).trans (show _ = some (Value.int .i64 (addW ⟨a2, a3⟩ ⟨b2, b3⟩).f0) from rfl)
    have hm3 := (blk_cell HG.out 3).trans (show _ = some (Value.int .u64 (addW ⟨a2, a3⟩ ⟨b2, b3⟩).f1) from rfl)
    have hm4 := (blk_cell HG.out 4).trans (show _ = some (Value.int .i64 (leastI a4 b4)) from rfl)
    have hm5 := (blk_cell HG.out 5).trans (show _ = some (Value.int .i64 (mostI a5 b5)) from rfl)
    have hfm0 := blk_frozen HG.out 0; have hfm1 := blk_frozen HG.out 1
    have hr0 := (blk_cell HM.out.2.2.2 0).trans (show _ = some (Value.int .u64 0) from rfl)
    have hr1 := (blk_cell HM.out.2.2.2 1).trans (show _ = some (Value.bool false) from rfl)
    have hr2 := (blk_cell HM.out.2.2.2 2).trans (show _ = some (Value.int .i64 0) from rfl)
    have hr3 := (blk_cell HM.out.2.2.2 3).trans (show _ = some (Value.int .u64 0) from rfl)
    have hr4 := (blk_cell HM.out.2.2.2 4).trans (show _ = some (Value.int .i64 0) from rfl)
    have hr5 := (blk_cell HM.out.2.2.2 5).trans (show _ = some (Value.int .i64 0) from rfl)
    have hfr0 := blk_frozen HM.out.2.2.2 0; have hfr1 := blk_frozen HM.out.2.2.2 1; have hfr2 := blk_frozen HM.out.2.2.2 2
    have hfr3 := blk_frozen HM.out.2.2.2 3; have hfr4 := blk_frozen HM.out.2.2.2 4; have hfr5 := blk_frozen HM.out.2.2.2 5
    have hne : (gb = w.heap.size + 1 + 1) = False := eq_false (by omega)
    have hne2 : (w.heap.size + 1 + 1 = gb) = False := eq_false (by omega)
    have hne3 : (gb = w.heap.size) = False := eq_false (by omega)
    obtain ⟨c, hc⟩ : ∃ c, c = IntKind.u64.wrap (a0 + b0) := ⟨_, rfl⟩
    rw [← hc] at hm0
    have HCC := Lib.hid hc
    clear hc hgb
    by_cases hlt : c < a0
    · have d1 : decide (c < a0) = true := decide_eq_true hlt
      go_wp2
      refine bodyPost_ret (results_cell_row rfl _ _ (w.heap.size + 1 + 1) 42 #[.int .u64 18446744073709551615, .bool true, .int .i64 (addW ⟨a2, a3⟩ ⟨b2, b3⟩).f0, .int .u64 (addW ⟨a2, a3⟩ ⟨b2, b3⟩).f1, .int .i64 (leastI a4 b4), .int .i64 (mostI a5 b5)] (0, 0) _ rfl ?hg Try.underlying42 rfl (by kernel_rfl)) rfl ?_
      case hg =>
        refine blk_put (cs := #[.int .u64 18446744073709551615, .bool true, .int .i64 (addW ⟨a2, a3⟩ ⟨b2, b3⟩).f0, .int .u64 (addW ⟨a2, a3⟩ ⟨b2, b3⟩).f1, .int .i64 (leastI a4 b4), .int .i64 0]) ?_ 5 _ rfl
        refine blk_put (cs := #[.int .u64 18446744073709551615, .bool true, .int .i64 (addW ⟨a2, a3⟩ ⟨b2, b3⟩).f0, .int .u64 (addW ⟨a2, a3⟩ ⟨b2, b3⟩).f1, .int .i64 0, .int .i64 0]) ?_ 4 _ rfl
        refine blk_put (cs := #[.int .u64 18446744073709551615, .bool true, .int .i64 (addW ⟨a2, a3⟩ ⟨b2, b3⟩).f0, .int .u64 0, .int .i64 0, .int .i64 0]) ?_ 3 _ rfl
        refine blk_put (cs := #[.int .u64 18446744073709551615, .bool true, .int .i64 0, .int .u64 0, .int .i64 0, .int .i64 0]) ?_ 2 _ rfl
        refine blk_put (cs := #[.int .u64 18446744073709551615, .bool false, .int .i64 0, .int .u64 0, .int .i64 0, .int .i64 0]) ?_ 1 _ rfl
        refine blk_put (cs := #[.int .u64 0, .bool false, .int .i64 0, .int .u64 0, .int .i64 0, .int .i64 0]) ?_ 0 _ rfl
        repeat (refine blk_far ?_ (by have := HGB.out; show w.heap.size + 1 + 1 ≠ gb; omega) _)
        exact HRS.out
      refine ⟨?_, ?_⟩
      · rw [← HCC.out, show mgTop c a0 b1 = (18446744073709551615, true) from if_pos (.inl hlt)]
      · repeat (first | (with_reducible exact HBW.out) | (refine below_set ?_ (by have := HGB.out; omega)))
    · have d1 : decide (c < a0) = false := decide_eq_false hlt
      have HLT := Lib.hid hlt; clear hlt
      cases b1 with
      | true =>
        go_wp2
        refine bodyPost_ret (results_cell_row rfl _ _ (w.heap.size + 1 + 1) 42 #[.int .u64 18446744073709551615, .bool true, .int .i64 (addW ⟨a2, a3⟩ ⟨b2, b3⟩).f0, .int .u64 (addW ⟨a2, a3⟩ ⟨b2, b3⟩).f1, .int .i64 (leastI a4 b4), .int .i64 (mostI a5 b5)] (0, 0) _ rfl ?hg Try.underlying42 rfl (by kernel_rfl)) rfl ?_
        case hg =>
          refine blk_put (cs := #[.int .u64 18446744073709551615, .bool true, .int .i64 (addW ⟨a2, a3⟩ ⟨b2, b3⟩).f0, .int .u64 (addW ⟨a2, a3⟩ ⟨b2, b3⟩).f1, .int .i64 (leastI a4 b4), .int .i64 0]) ?_ 5 _ rfl
          refine blk_put (cs := #[.int .u64 18446744073709551615, .bool true, .int .i64 (addW ⟨a2, a3⟩ ⟨b2, b3⟩).f0, .int .u64 (addW ⟨a2, a3⟩ ⟨b2, b3⟩).f1, .int .i64 0, .int .i64 0]) ?_ 4 _ rfl
          refine blk_put (cs := #[.int .u64 18446744073709551615, .bool true, .int .i64 (addW ⟨a2, a3⟩ ⟨b2, b3⟩).f0, .int .u64 0, .int .i64 0, .int .i64 0]) ?_ 3 _ rfl
          refine blk_put (cs := #[.int .u64 18446744073709551615, .bool true, .int .i64 0, .int .u64 0, .int .i64 0, .int .i64 0]) ?_ 2 _ rfl
          refine blk_put (cs := #[.int .u64 18446744073709551615, .bool false, .int .i64 0, .int .u64 0, .int .i64 0, .int .i64 0]) ?_ 1 _ rfl
          refine blk_put (cs := #[.int .u64 0, .bool false, .int .i64 0, .int .u64 0, .int .i64 0, .int .i64 0]) ?_ 0 _ rfl
          repeat (refine blk_far ?_ (by have := HGB.out; show w.heap.size + 1 + 1 ≠ gb; omega) _)
          exact HRS.out
        refine ⟨?_, ?_⟩
        · rw [← HCC.out, show mgTop c a0 true = (18446744073709551615, true) from if_pos (.inr rfl)]
        · repeat (first | (with_reducible exact HBW.out) | (refine below_set ?_ (by have := HGB.out; omega)))
      | false =>
        go_wp2
        refine bodyPost_ret (results_cell_row rfl _ _ (w.heap.size + 1 + 1) 42 #[.int .u64 c, .bool false, .int .i64 (addW ⟨a2, a3⟩ ⟨b2, b3⟩).f0, .int .u64 (addW ⟨a2, a3⟩ ⟨b2, b3⟩).f1, .int .i64 (leastI a4 b4), .int .i64 (mostI a5 b5)] (0, 0) _ rfl ?hg Try.underlying42 rfl (by kernel_rfl)) rfl ?_
        case hg =>
          refine blk_put (cs := #[.int .u64 c, .bool false, .int .i64 (addW ⟨a2, a3⟩ ⟨b2, b3⟩).f0, .int .u64 (addW ⟨a2, a3⟩ ⟨b2, b3⟩).f1, .int .i64 (leastI a4 b4), .int .i64 0]) ?_ 5 _ rfl
          refine blk_put (cs := #[.int .u64 c, .bool false, .int .i64 (addW ⟨a2, a3⟩ ⟨b2, b3⟩).f0, .int .u64 (addW ⟨a2, a3⟩ ⟨b2, b3⟩).f1, .int .i64 0, .int .i64 0]) ?_ 4 _ rfl
          refine blk_put (cs := #[.int .u64 c, .bool false, .int .i64 (addW ⟨a2, a3⟩ ⟨b2, b3⟩).f0, .int .u64 0, .int .i64 0, .int .i64 0]) ?_ 3 _ rfl
          refine blk_put (cs := #[.int .u64 c, .bool false, .int .i64 0, .int .u64 0, .int .i64 0, .int .i64 0]) ?_ 2 _ rfl
          refine blk_put (cs := #[.int .u64 c, .bool false, .int .i64 0, .int .u64 0, .int .i64 0, .int .i64 0]) ?_ 1 _ rfl
          refine blk_put (cs := #[.int .u64 0, .bool false, .int .i64 0, .int .u64 0, .int .i64 0, .int .i64 0]) ?_ 0 _ rfl
          repeat (refine blk_far ?_ (by have := HGB.out; show w.heap.size + 1 + 1 ≠ gb; omega) _)
          exact HRS.out
        refine ⟨?_, ?_⟩
        · rw [← HCC.out, show mgTop c a0 false = (c, false) from if_neg (by have := HLT.out; simp; omega)]
        · repeat (first | (with_reducible exact HBW.out) | (refine below_set ?_ (by have := HGB.out; omega)))
theorem merge_yes (a0 a2 a3 a4 a5 b0 : Int) (b1 : Bool) (b2 b3 b4 b5 : Int) (w : World) (h0 : ¬ a0 = 0) (h1 : ¬ b0 = 0) (hu : inU a3 ∧ inU b3) :
    Calls Try.prog 14 #[.agg #[.int .u64 a0, .bool true, .int .i64 a2, .int .u64 a3, .int .i64 a4, .int .i64 a5], .agg #[.int .u64 b0, .bool b1, .int .i64 b2, .int .u64 b3, .int .i64 b4, .int .i64 b5]] w fun e w' => e = .returned (.agg #[.int .u64 (mgTop (IntKind.u64.wrap (a0 + b0)) a0 true).1, .bool (mgTop (IntKind.u64.wrap (a0 + b0)) a0 true).2, .int .i64 (addW ⟨a2, a3⟩ ⟨b2, b3⟩).f0, .int .u64 (addW ⟨a2, a3⟩ ⟨b2, b3⟩).f1, .int .i64 (leastI a4 b4), .int .i64 (mostI a5 b5)]) ∧ Below w.heap.size w w' := by
  have e0 : (a0 == 0) = false := beq_eq_false_iff_ne.2 h0
  have e1 : (b0 == 0) = false := beq_eq_false_iff_ne.2 h1
  have HU := Lib.hid hu
  have HS := Lib.hid (MgS.start w #[.int .u64 a0, .bool true, .int .i64 a2, .int .u64 a3, .int .i64 a4, .int .i64 a5] #[.int .u64 b0, .bool b1, .int .i64 b2, .int .u64 b3, .int .i64 b4, .int .i64 b5])
  have HADD : Hid (wide_Add.f a2 a3 b2 b3 = some ((addW ⟨a2, a3⟩ ⟨b2, b3⟩).f0, (addW ⟨a2, a3⟩ ⟨b2, b3⟩).f1)) := Lib.hid (by unfold wide_Add.f; rw [if_pos HU.out])
  clear h0 h1 hu
  go_enter Try.func14, Try.ntmps14
  go_upto_region 7 with (fail)
  generalize hW0 : (((w.alloc (.cells #[.int .u64 a0, .bool true, .int .i64 a2, .int .u64 a3, .int .i64 a4, .int .i64 a5] 42)).alloc (.cells #[.int .u64 b0, .bool b1, .int .i64 b2, .int .u64 b3, .int .i64 b4, .int .i64 b5] 42)).alloc (.cells #[.int .u64 0, .bool false, .int .i64 0, .int .u64 0, .int .i64 0, .int .i64 0] 42)) = W0 at HS ⊢
  clear hW0
  go_cut [7] (fun v7 wc => MgD w w.heap.size #[.int .u64 a0, .bool true, .int .i64 a2, .int .u64 a3, .int .i64 a4, .int .i64 a5] #[.int .u64 b0, .bool b1, .int .i64 b2, .int .u64 b3, .int .i64 b4, .int .i64 b5] #[.int .u64 (IntKind.u64.wrap (a0 + b0)), .bool true, .int .i64 (addW ⟨a2, a3⟩ ⟨b2, b3⟩).f0, .int .u64 (addW ⟨a2, a3⟩ ⟨b2, b3⟩).f1, .int .i64 (leastI a4 b4), .int .i64 (mostI a5 b5)] wc v7)
  case first =>
    have hz := HS.out.sized
    refine wp_region_held_drew (S := fun w' => ((w'.cell? ⟨w.heap.size, 0, none⟩ = some (.int .u64 a0) ∧ w'.cell? ⟨w.heap.size, 1, none⟩ = some (.bool true) ∧ w'.cell? ⟨w.heap.size, 2, none⟩ = some (.int .i64 a2) ∧ w'.cell? ⟨w.heap.size, 3, none⟩ = some (.int .u64 a3) ∧ w'.cell? ⟨w.heap.size, 4, none⟩ = some (.int .i64 a4) ∧ w'.cell? ⟨w.heap.size, 5, none⟩ = some (.int .i64 a5)) ∧ (w'.cell? ⟨w.heap.size + 1, 0, none⟩ = some (.int .u64 b0) ∧ w'.cell? ⟨w.heap.size + 1, 1, none⟩ = some (.bool b1) ∧ w'.cell? ⟨w.heap.size + 1, 2, none⟩ = some (.int .i64 b2) ∧ w'.cell? ⟨w.heap.size + 1, 3, none⟩ = some (.int .u64 b3) ∧ w'.cell? ⟨w.heap.size + 1, 4, none⟩ = some (.int .i64 b4) ∧ w'.cell? ⟨w.heap.size + 1, 5, none⟩ = some (.int .i64 b5))) ∧ MgS w w.heap.size #[.int .u64 a0, .bool true, .int .i64 a2, .int .u64 a3, .int .i64 a4, .int .i64 a5] #[.int .u64 b0, .bool b1, .int .i64 b2, .int .u64 b3, .int .i64 b4, .int .i64 b5] w') (by kernel_rfl) (mgC HS.out.drew) (fun hHeld => ?_)
    refine take_at (i := 0) (N := 16) (v := .pointer (some ⟨w.heap.size, 0, none⟩)) rfl rfl (by kernel_rfl) (by kernel_rfl) (by kernel_rfl) (fun _ _ _ h => h) (Or.inl ⟨by rfl, ?_⟩) hHeld ?_
    · intro w hSw; (try dsimp only at hSw); go_simp
    (try simp only [Act.put, List.setIfInBounds_toArray, List.set_cons_zero, List.set_cons_succ])
    refine take_at (i := 1) (N := 17) (v := .int .u64 a0) rfl rfl (by kernel_rfl) (by kernel_rfl) (by kernel_rfl) (fun _ _ _ h => h) (Or.inl ⟨by rfl, ?_⟩) hHeld ?_
    · intro w hSw; (try dsimp only at hSw); go_simp
    (try simp only [Act.put, List.setIfInBounds_toArray, List.set_cons_zero, List.set_cons_succ])
    refine take_at (i := 2) (N := 18) (v := .pointer (some ⟨w.heap.size + 1, 0, none⟩)) rfl rfl (by kernel_rfl) (by kernel_rfl) (by kernel_rfl) (fun _ _ _ h => h) (Or.inl ⟨by rfl, ?_⟩) hHeld ?_
    · intro w hSw; (try dsimp only at hSw); go_simp
    (try simp only [Act.put, List.setIfInBounds_toArray, List.set_cons_zero, List.set_cons_succ])
    refine take_at (i := 3) (N := 19) (v := .int .u64 b0) rfl rfl (by kernel_rfl) (by kernel_rfl) (by kernel_rfl) (fun _ _ _ h => h) (Or.inl ⟨by rfl, ?_⟩) hHeld ?_
    · intro w hSw; (try dsimp only at hSw); go_simp
    (try simp only [Act.put, List.setIfInBounds_toArray, List.set_cons_zero, List.set_cons_succ])
    refine take_at (i := 4) (N := 20) (v := .int .u64 (IntKind.u64.wrap (a0 + b0))) rfl rfl (by kernel_rfl) (by kernel_rfl) (by kernel_rfl) (fun _ _ _ h => h) (Or.inl ⟨by rfl, ?_⟩) hHeld ?_
    · intro w hSw; (try dsimp only at hSw); go_simp
    (try simp only [Act.put, List.setIfInBounds_toArray, List.set_cons_zero, List.set_cons_succ])
    refine take_at (i := 5) (N := 21) (v := .pointer (some ⟨w.heap.size, 1, none⟩)) rfl rfl (by kernel_rfl) (by kernel_rfl) (by kernel_rfl) (fun _ _ _ h => h) (Or.inl ⟨by rfl, ?_⟩) hHeld ?_
    · intro w hSw; (try dsimp only at hSw); go_simp
    (try simp only [Act.put, List.setIfInBounds_toArray, List.set_cons_zero, List.set_cons_succ])
    refine take_at (i := 6) (N := 22) (v := .bool true) rfl rfl (by kernel_rfl) (by kernel_rfl) (by kernel_rfl) (fun _ _ _ h => h) (Or.inl ⟨by rfl, ?_⟩) hHeld ?_
    · intro w hSw; (try dsimp only at hSw); go_simp
    (try simp only [Act.put, List.setIfInBounds_toArray, List.set_cons_zero, List.set_cons_succ])
    refine take_at (i := 7) (N := 23) (v := .bool true) rfl rfl (by kernel_rfl) (by kernel_rfl) (by kernel_rfl) (fun _ _ _ h => h) (Or.inl ⟨by rfl, ?_⟩) hHeld ?_
    · intro w hSw; (try dsimp only at hSw); go_simp
    (try simp only [Act.put, List.setIfInBounds_toArray, List.set_cons_zero, List.set_cons_succ])
    refine take_at (i := 8) (N := 24) (v := undef) rfl rfl (by kernel_rfl) (by kernel_rfl) (by kernel_rfl) (fun _ _ _ h => h) (Or.inr ⟨by rfl, rfl⟩) hHeld ?_
    (try simp only [Act.put, List.setIfInBounds_toArray, List.set_cons_zero, List.set_cons_succ])
    refine take_at (i := 9) (N := 25) (v := undef) rfl rfl (by kernel_rfl) (by kernel_rfl) (by kernel_rfl) (fun _ _ _ h => h) (Or.inr ⟨by rfl, rfl⟩) hHeld ?_
    (try simp only [Act.put, List.setIfInBounds_toArray, List.set_cons_zero, List.set_cons_succ])
    refine take_at (i := 10) (N := 26) (v := .bool true) rfl rfl (by kernel_rfl) (by kernel_rfl) (by kernel_rfl) (fun _ _ _ h => h) (Or.inl ⟨by rfl, ?_⟩) hHeld ?_
    · intro w hSw; (try dsimp only at hSw); go_simp
    (try simp only [Act.put, List.setIfInBounds_toArray, List.set_cons_zero, List.set_cons_succ])
    refine take_at (i := 11) (N := 27) (v := .pointer (some ⟨w.heap.size, 2, none⟩)) rfl rfl (by kernel_rfl) (by kernel_rfl) (by kernel_rfl) (fun _ _ _ h => h) (Or.inl ⟨by rfl, ?_⟩) hHeld ?_
    · intro w hSw; (try dsimp only at hSw); go_simp
    (try simp only [Act.put, List.setIfInBounds_toArray, List.set_cons_zero, List.set_cons_succ])
    refine take_at (i := 12) (N := 28) (v := .agg #[.int .i64 a2, .int .u64 a3]) rfl rfl (by kernel_rfl) (by kernel_rfl) (by kernel_rfl) (fun _ _ _ h => h) (Or.inl ⟨by rfl, ?_⟩) hHeld ?_
    · intro w hSw; (try dsimp only at hSw); go_simp
    (try simp only [Act.put, List.setIfInBounds_toArray, List.set_cons_zero, List.set_cons_succ])
    refine take_at (i := 13) (N := 29) (v := .pointer (some ⟨w.heap.size + 1, 2, none⟩)) rfl rfl (by kernel_rfl) (by kernel_rfl) (by kernel_rfl) (fun _ _ _ h => h) (Or.inl ⟨by rfl, ?_⟩) hHeld ?_
    · intro w hSw; (try dsimp only at hSw); go_simp
    (try simp only [Act.put, List.setIfInBounds_toArray, List.set_cons_zero, List.set_cons_succ])
    refine take_at (i := 14) (N := 30) (v := .agg #[.int .i64 b2, .int .u64 b3]) rfl rfl (by kernel_rfl) (by kernel_rfl) (by kernel_rfl) (fun _ _ _ h => h) (Or.inl ⟨by rfl, ?_⟩) hHeld ?_
    · intro w hSw; (try dsimp only at hSw); go_simp
    (try simp only [Act.put, List.setIfInBounds_toArray, List.set_cons_zero, List.set_cons_succ])
    refine take_at (i := 16) (N := 32) (v := .pointer (some ⟨w.heap.size, 4, none⟩)) rfl rfl (by kernel_rfl) (by kernel_rfl) (by kernel_rfl) (fun _ _ _ h => h) (Or.inl ⟨by rfl, ?_⟩) hHeld ?_
    · intro w hSw; (try dsimp only at hSw); go_simp
    (try simp only [Act.put, List.setIfInBounds_toArray, List.set_cons_zero, List.set_cons_succ])
    refine take_at (i := 17) (N := 33) (v := .int .i64 a4) rfl rfl (by kernel_rfl) (by kernel_rfl) (by kernel_rfl) (fun _ _ _ h => h) (Or.inl ⟨by rfl, ?_⟩) hHeld ?_
    · intro w hSw; (try dsimp only at hSw); go_simp
    (try simp only [Act.put, List.setIfInBounds_toArray, List.set_cons_zero, List.set_cons_succ])
    refine take_at (i := 18) (N := 34) (v := .pointer (some ⟨w.heap.size + 1, 4, none⟩)) rfl rfl (by kernel_rfl) (by kernel_rfl) (by kernel_rfl) (fun _ _ _ h => h) (Or.inl ⟨by rfl, ?_⟩) hHeld ?_
    · intro w hSw; (try dsimp only at hSw); go_simp
    (try simp only [Act.put, List.setIfInBounds_toArray, List.set_cons_zero, List.set_cons_succ])
    refine take_at (i := 19) (N := 35) (v := .int .i64 b4) rfl rfl (by kernel_rfl) (by kernel_rfl) (by kernel_rfl) (fun _ _ _ h => h) (Or.inl ⟨by rfl, ?_⟩) hHeld ?_
    · intro w hSw; (try dsimp only at hSw); go_simp
    (try simp only [Act.put, List.setIfInBounds_toArray, List.set_cons_zero, List.set_cons_succ])
    refine take_at (i := 20) (N := 36) (v := .func (.func 29) #[] #[]) rfl rfl (by kernel_rfl) (by kernel_rfl) (by kernel_rfl) (fun _ _ _ h => h) (Or.inl ⟨by rfl, ?_⟩) hHeld ?_
    · intro w hSw; (try dsimp only at hSw); go_simp
    (try simp only [Act.put, List.setIfInBounds_toArray, List.set_cons_zero, List.set_cons_succ])
    refine take_at (i := 22) (N := 38) (v := .pointer (some ⟨w.heap.size, 5, none⟩)) rfl rfl (by kernel_rfl) (by kernel_rfl) (by kernel_rfl) (fun _ _ _ h => h) (Or.inl ⟨by rfl, ?_⟩) hHeld ?_
    · intro w hSw; (try dsimp only at hSw); go_simp
    (try simp only [Act.put, List.setIfInBounds_toArray, List.set_cons_zero, List.set_cons_succ])
    refine take_at (i := 23) (N := 39) (v := .int .i64 a5) rfl rfl (by kernel_rfl) (by kernel_rfl) (by kernel_rfl) (fun _ _ _ h => h) (Or.inl ⟨by rfl, ?_⟩) hHeld ?_
    · intro w hSw; (try dsimp only at hSw); go_simp
    (try simp only [Act.put, List.setIfInBounds_toArray, List.set_cons_zero, List.set_cons_succ])
    refine take_at (i := 24) (N := 40) (v := .pointer (some ⟨w.heap.size + 1, 5, none⟩)) rfl rfl (by kernel_rfl) (by kernel_rfl) (by kernel_rfl) (fun _ _ _ h => h) (Or.inl ⟨by rfl, ?_⟩) hHeld ?_
    · intro w hSw; (try dsimp only at hSw); go_simp
    (try simp only [Act.put, List.setIfInBounds_toArray, List.set_cons_zero, List.set_cons_succ])
    refine take_at (i := 25) (N := 41) (v := .int .i64 b5) rfl rfl (by kernel_rfl) (by kernel_rfl) (by kernel_rfl) (fun _ _ _ h => h) (Or.inl ⟨by rfl, ?_⟩) hHeld ?_
    · intro w hSw; (try dsimp only at hSw); go_simp
    (try simp only [Act.put, List.setIfInBounds_toArray, List.set_cons_zero, List.set_cons_succ])
    refine take_at (i := 26) (N := 42) (v := .func (.func 30) #[] #[]) rfl rfl (by kernel_rfl) (by kernel_rfl) (by kernel_rfl) (fun _ _ _ h => h) (Or.inl ⟨by rfl, ?_⟩) hHeld ?_
    · intro w hSw; (try dsimp only at hSw); go_simp
    (try simp only [Act.put, List.setIfInBounds_toArray, List.set_cons_zero, List.set_cons_succ])
    refine wpAnyH_ready (rs := [15, 29]) (by kernel_rfl) (by simp) ?_
    refine AllReadyH.cons rfl (fun K hK => ?_) ?_
    · go_simp
      go_wp2_with (first | (go_at_call 31; (with_reducible refine (wide_Add.calls _ _ _ _ _ _ _ HADD.out).mono ?_); rintro e w1 ⟨rfl, hb1⟩; obtain ⟨hcc, hff⟩ := bcell hb1))
      refine hK.out _ _ ?_ (fun hHeld => ?_)
      · (try dsimp only); (first | (with_reducible exact hHeld) | (have h_ := hHeld.2; refine mgC ?_; first | (with_reducible exact h_) | (with_reducible exact MgS.below h_ hb1) | (with_reducible exact MgS.alloc h_ _) | (with_reducible exact MgS.alloc (MgS.below HS.out.drew hb1) _) | (with_reducible exact MgS.drew (MgS.alloc HS.out _)) | ((with_reducible refine MgS.set (MgS.set (MgS.set (MgS.set (MgS.set (MgS.set h_ ?_ (Nat.le_refl _) _) ?_ (Nat.le_refl _) _) ?_ (Nat.le_refl _) _) ?_ (Nat.le_refl _) _) ?_ (Nat.le_refl _) _) ?_ (Nat.le_refl _) _) <;> exact hz)))
      clear hK K
      (try simp only [Act.put, List.setIfInBounds_toArray, List.set_cons_zero, List.set_cons_succ])
      refine wpAnyH_ready (rs := [21, 29]) (by kernel_rfl) (by simp) ?_
      refine AllReadyH.cons rfl (fun K hK => ?_) ?_
      · go_simp
        go_wp2_with (first | (go_at_call 32; (with_reducible refine (better_less _ _ _).mono ?_); rintro e w1 ⟨rfl, rfl⟩))
        refine hK.out _ _ ?_ (fun hHeld => ?_)
        · (try dsimp only); (first | (with_reducible exact hHeld) | (have h_ := hHeld.2; refine mgC ?_; first | (with_reducible exact h_) | (with_reducible exact MgS.below h_ hb1) | (with_reducible exact MgS.alloc h_ _) | (with_reducible exact MgS.alloc (MgS.below HS.out.drew hb1) _) | (with_reducible exact MgS.drew (MgS.alloc HS.out _)) | ((with_reducible refine MgS.set (MgS.set (MgS.set (MgS.set (MgS.set (MgS.set h_ ?_ (Nat.le_refl _) _) ?_ (Nat.le_refl _) _) ?_ (Nat.le_refl _) _) ?_ (Nat.le_refl _) _) ?_ (Nat.le_refl _) _) ?_ (Nat.le_refl _) _) <;> exact hz)))
        clear hK K
        (try simp only [Act.put, List.setIfInBounds_toArray, List.set_cons_zero, List.set_cons_succ])
        refine wpAnyH_ready (rs := [27, 29]) (by kernel_rfl) (by simp) ?_
        refine AllReadyH.cons rfl (fun K hK => ?_) ?_
        · go_simp
          go_wp2_with (first | (go_at_call 32; (with_reducible refine (better_more _ _ _).mono ?_); rintro e w1 ⟨rfl, rfl⟩))
          refine hK.out _ _ ?_ (fun hHeld => ?_)
          · (try dsimp only); (first | (with_reducible exact hHeld) | (have h_ := hHeld.2; refine mgC ?_; first | (with_reducible exact h_) | (with_reducible exact MgS.below h_ hb1) | (with_reducible exact MgS.alloc h_ _) | (with_reducible exact MgS.alloc (MgS.below HS.out.drew hb1) _) | (with_reducible exact MgS.drew (MgS.alloc HS.out _)) | ((with_reducible refine MgS.set (MgS.set (MgS.set (MgS.set (MgS.set (MgS.set h_ ?_ (Nat.le_refl _) _) ?_ (Nat.le_refl _) _) ?_ (Nat.le_refl _) _) ?_ (Nat.le_refl _) _) ?_ (Nat.le_refl _) _) ?_ (Nat.le_refl _) _) <;> exact hz)))
          clear hK K
          (try simp only [Act.put, List.setIfInBounds_toArray, List.set_cons_zero, List.set_cons_succ])
          refine take_at (i := 28) (N := 44) (v := .agg #[.int .u64 (IntKind.u64.wrap (a0 + b0)), .bool true, .int .i64 (addW ⟨a2, a3⟩ ⟨b2, b3⟩).f0, .int .u64 (addW ⟨a2, a3⟩ ⟨b2, b3⟩).f1, .int .i64 (leastI a4 b4), .int .i64 (mostI a5 b5)]) rfl rfl (by kernel_rfl) (by kernel_rfl) (by kernel_rfl) (fun _ _ _ h => h) (Or.inl ⟨by rfl, ?_⟩) hHeld ?_
          · intro w hSw; (try dsimp only at hSw); go_simp
          (try simp only [Act.put, List.setIfInBounds_toArray, List.set_cons_zero, List.set_cons_succ])
          refine wpAnyH_ready (rs := [29]) (by kernel_rfl) (by simp) ?_
          refine AllReadyH.cons rfl (fun K hK => ?_) ?_
          · go_simp
            refine hK.out _ _ ?_ (fun hHeld => ?_)
            · (try dsimp only); (first | (with_reducible exact hHeld) | (have h_ := hHeld.2; refine mgC ?_; first | (with_reducible exact h_) | (with_reducible exact MgS.below h_ hb1) | (with_reducible exact MgS.alloc h_ _) | (with_reducible exact MgS.alloc (MgS.below HS.out.drew hb1) _) | (with_reducible exact MgS.drew (MgS.alloc HS.out _)) | ((with_reducible refine MgS.set (MgS.set (MgS.set (MgS.set (MgS.set (MgS.set h_ ?_ (Nat.le_refl _) _) ?_ (Nat.le_refl _) _) ?_ (Nat.le_refl _) _) ?_ (Nat.le_refl _) _) ?_ (Nat.le_refl _) _) ?_ (Nat.le_refl _) _) <;> exact hz)))
            clear hK K
            (try simp only [Act.put, List.setIfInBounds_toArray, List.set_cons_zero, List.set_cons_succ])
            refine wpAnyH_ready (rs := [30]) (by kernel_rfl) (by simp) ?_
            refine AllReadyH.cons rfl (fun K hK => ?_) ?_
            · go_simp
              refine hK.out _ _ ?_ (fun hHeld => ?_)
              · (try dsimp only); (first | (with_reducible exact hHeld) | (have h_ := hHeld.2; refine mgC ?_; first | (with_reducible exact h_) | (with_reducible exact MgS.below h_ hb1) | (with_reducible exact MgS.alloc h_ _) | (with_reducible exact MgS.alloc (MgS.below HS.out.drew hb1) _) | (with_reducible exact MgS.drew (MgS.alloc HS.out _)) | ((with_reducible refine MgS.set (MgS.set (MgS.set (MgS.set (MgS.set (MgS.set h_ ?_ (Nat.le_refl _) _) ?_ (Nat.le_refl _) _) ?_ (Nat.le_refl _) _) ?_ (Nat.le_refl _) _) ?_ (Nat.le_refl _) _) ?_ (Nat.le_refl _) _) <;> exact hz)))
              clear hK K
              (try simp only [Act.put, List.setIfInBounds_toArray, List.set_cons_zero, List.set_cons_succ])
              refine wpAnyH_done (by kernel_rfl) ?_ _
              go_wp2
              go_meet
              case rel =>
                have h_ := hHeld.2
                refine ⟨_, rfl, ?_, h_, ?_⟩
                · first | exact hz | (have := hb1.size; simp at this; omega)
                · first
                  | (with_reducible exact blk_new _ _)
                  | exact blk_put (blk_put (blk_put (blk_put (blk_put (blk_put (blk_below (show (W0.alloc (.cells #[.int .u64 0, .bool false, .int .i64 0, .int .u64 0, .int .i64 0, .int .i64 0] 42)).drew.heap[W0.heap.size]? = some _ from blk_new W0 _) hb1) 0 _ rfl) 1 _ rfl) 2 _ rfl) 3 _ rfl) 4 _ rfl) 5 _ rfl
            exact AllReadyH.nil
          exact AllReadyH.nil
        refine AllReadyH.cons rfl (fun K hK => ?_) ?_
        · go_simp
          refine hK.out _ _ ?_ (fun hHeld => ?_)
          · (try dsimp only); (first | (with_reducible exact hHeld) | (have h_ := hHeld.2; refine mgC ?_; first | (with_reducible exact h_) | (with_reducible exact MgS.below h_ hb1) | (with_reducible exact MgS.alloc h_ _) | (with_reducible exact MgS.alloc (MgS.below HS.out.drew hb1) _) | (with_reducible exact MgS.drew (MgS.alloc HS.out _)) | ((with_reducible refine MgS.set (MgS.set (MgS.set (MgS.set (MgS.set (MgS.set h_ ?_ (Nat.le_refl _) _) ?_ (Nat.le_refl _) _) ?_ (Nat.le_refl _) _) ?_ (Nat.le_refl _) _) ?_ (Nat.le_refl _) _) ?_ (Nat.le_refl _) _) <;> exact hz)))
          clear hK K
          (try simp only [Act.put, List.setIfInBounds_toArray, List.set_cons_zero, List.set_cons_succ])
          refine wpAnyH_ready (rs := [27]) (by kernel_rfl) (by simp) ?_
          refine AllReadyH.cons rfl (fun K hK => ?_) ?_
          · go_simp
            go_wp2_with (first | (go_at_call 32; (with_reducible refine (better_more _ _ _).mono ?_); rintro e w1 ⟨rfl, rfl⟩))
            refine hK.out _ _ ?_ (fun hHeld => ?_)
            · (try dsimp only); (first | (with_reducible exact hHeld) | (have h_ := hHeld.2; refine mgC ?_; first | (with_reducible exact h_) | (with_reducible exact MgS.below h_ hb1) | (with_reducible exact MgS.alloc h_ _) | (with_reducible exact MgS.alloc (MgS.below HS.out.drew hb1) _) | (with_reducible exact MgS.drew (MgS.alloc HS.out _)) | ((with_reducible refine MgS.set (MgS.set (MgS.set (MgS.set (MgS.set (MgS.set h_ ?_ (Nat.le_refl _) _) ?_ (Nat.le_refl _) _) ?_ (Nat.le_refl _) _) ?_ (Nat.le_refl _) _) ?_ (Nat.le_refl _) _) ?_ (Nat.le_refl _) _) <;> exact hz)))
            clear hK K
            (try simp only [Act.put, List.setIfInBounds_toArray, List.set_cons_zero, List.set_cons_succ])
            refine take_at (i := 28) (N := 44) (v := .agg #[.int .u64 (IntKind.u64.wrap (a0 + b0)), .bool true, .int .i64 (addW ⟨a2, a3⟩ ⟨b2, b3⟩).f0, .int .u64 (addW ⟨a2, a3⟩ ⟨b2, b3⟩).f1, .int .i64 (leastI a4 b4), .int .i64 (mostI a5 b5)]) rfl rfl (by kernel_rfl) (by kernel_rfl) (by kernel_rfl) (fun _ _ _ h => h) (Or.inl ⟨by rfl, ?_⟩) hHeld ?_
            · intro w hSw; (try dsimp only at hSw); go_simp
            (try simp only [Act.put, List.setIfInBounds_toArray, List.set_cons_zero, List.set_cons_succ])
            refine wpAnyH_ready (rs := [30]) (by kernel_rfl) (by simp) ?_
            refine AllReadyH.cons rfl (fun K hK => ?_) ?_
            · go_simp
              refine hK.out _ _ ?_ (fun hHeld => ?_)
              · (try dsimp only); (first | (with_reducible exact hHeld) | (have h_ := hHeld.2; refine mgC ?_; first | (with_reducible exact h_) | (with_reducible exact MgS.below h_ hb1) | (with_reducible exact MgS.alloc h_ _) | (with_reducible exact MgS.alloc (MgS.below HS.out.drew hb1) _) | (with_reducible exact MgS.drew (MgS.alloc HS.out _)) | ((with_reducible refine MgS.set (MgS.set (MgS.set (MgS.set (MgS.set (MgS.set h_ ?_ (Nat.le_refl _) _) ?_ (Nat.le_refl _) _) ?_ (Nat.le_refl _) _) ?_ (Nat.le_refl _) _) ?_ (Nat.le_refl _) _) ?_ (Nat.le_refl _) _) <;> exact hz)))
              clear hK K
              (try simp only [Act.put, List.setIfInBounds_toArray, List.set_cons_zero, List.set_cons_succ])
              refine wpAnyH_done (by kernel_rfl) ?_ _
              go_wp2
              go_meet
              case rel =>
                have h_ := hHeld.2
                refine ⟨_, rfl, ?_, h_, ?_⟩
                · first | exact hz | (have := hb1.size; simp at this; omega)
                · first
                  | (with_reducible exact blk_new _ _)
                  | exact blk_put (blk_put (blk_put (blk_put (blk_put (blk_put (blk_below (show (W0.alloc (.cells #[.int .u64 0, .bool false, .int .i64 0, .int .u64 0, .int .i64 0, .int .i64 0] 42)).drew.heap[W0.heap.size]? = some _ from blk_new W0 _) hb1) 0 _ rfl) 1 _ rfl) 2 _ rfl) 3 _ rfl) 4 _ rfl) 5 _ rfl
            exact AllReadyH.nil
          exact AllReadyH.nil
        exact AllReadyH.nil
      refine AllReadyH.cons rfl (fun K hK => ?_) ?_
      · go_simp
        refine hK.out _ _ ?_ (fun hHeld => ?_)
        · (try dsimp only); (first | (with_reducible exact hHeld) | (have h_ := hHeld.2; refine mgC ?_; first | (with_reducible exact h_) | (with_reducible exact MgS.below h_ hb1) | (with_reducible exact MgS.alloc h_ _) | (with_reducible exact MgS.alloc (MgS.below HS.out.drew hb1) _) | (with_reducible exact MgS.drew (MgS.alloc HS.out _)) | ((with_reducible refine MgS.set (MgS.set (MgS.set (MgS.set (MgS.set (MgS.set h_ ?_ (Nat.le_refl _) _) ?_ (Nat.le_refl _) _) ?_ (Nat.le_refl _) _) ?_ (Nat.le_refl _) _) ?_ (Nat.le_refl _) _) ?_ (Nat.le_refl _) _) <;> exact hz)))
        clear hK K
        (try simp only [Act.put, List.setIfInBounds_toArray, List.set_cons_zero, List.set_cons_succ])
        refine wpAnyH_ready (rs := [21]) (by kernel_rfl) (by simp) ?_
        refine AllReadyH.cons rfl (fun K hK => ?_) ?_
        · go_simp
          go_wp2_with (first | (go_at_call 32; (with_reducible refine (better_less _ _ _).mono ?_); rintro e w1 ⟨rfl, rfl⟩))
          refine hK.out _ _ ?_ (fun hHeld => ?_)
          · (try dsimp only); (first | (with_reducible exact hHeld) | (have h_ := hHeld.2; refine mgC ?_; first | (with_reducible exact h_) | (with_reducible exact MgS.below h_ hb1) | (with_reducible exact MgS.alloc h_ _) | (with_reducible exact MgS.alloc (MgS.below HS.out.drew hb1) _) | (with_reducible exact MgS.drew (MgS.alloc HS.out _)) | ((with_reducible refine MgS.set (MgS.set (MgS.set (MgS.set (MgS.set (MgS.set h_ ?_ (Nat.le_refl _) _) ?_ (Nat.le_refl _) _) ?_ (Nat.le_refl _) _) ?_ (Nat.le_refl _) _) ?_ (Nat.le_refl _) _) ?_ (Nat.le_refl _) _) <;> exact hz)))
          clear hK K
          (try simp only [Act.put, List.setIfInBounds_toArray, List.set_cons_zero, List.set_cons_succ])
          refine wpAnyH_ready (rs := [27]) (by kernel_rfl) (by simp) ?_
          refine AllReadyH.cons rfl (fun K hK => ?_) ?_
          · go_simp
            go_wp2_with (first | (go_at_call 32; (with_reducible refine (better_more _ _ _).mono ?_); rintro e w1 ⟨rfl, rfl⟩))
            refine hK.out _ _ ?_ (fun hHeld => ?_)
            · (try dsimp only); (first | (with_reducible exact hHeld) | (have h_ := hHeld.2; refine mgC ?_; first | (with_reducible exact h_) | (with_reducible exact MgS.below h_ hb1) | (with_reducible exact MgS.alloc h_ _) | (with_reducible exact MgS.alloc (MgS.below HS.out.drew hb1) _) | (with_reducible exact MgS.drew (MgS.alloc HS.out _)) | ((with_reducible refine MgS.set (MgS.set (MgS.set (MgS.set (MgS.set (MgS.set h_ ?_ (Nat.le_refl _) _) ?_ (Nat.le_refl _) _) ?_ (Nat.le_refl _) _) ?_ (Nat.le_refl _) _) ?_ (Nat.le_refl _) _) ?_ (Nat.le_refl _) _) <;> exact hz)))
            clear hK K
            (try simp only [Act.put, List.setIfInBounds_toArray, List.set_cons_zero, List.set_cons_succ])
            refine take_at (i := 28) (N := 44) (v := .agg #[.int .u64 (IntKind.u64.wrap (a0 + b0)), .bool true, .int .i64 (addW ⟨a2, a3⟩ ⟨b2, b3⟩).f0, .int .u64 (addW ⟨a2, a3⟩ ⟨b2, b3⟩).f1, .int .i64 (leastI a4 b4), .int .i64 (mostI a5 b5)]) rfl rfl (by kernel_rfl) (by kernel_rfl) (by kernel_rfl) (fun _ _ _ h => h) (Or.inl ⟨by rfl, ?_⟩) hHeld ?_
            · intro w hSw; (try dsimp only at hSw); go_simp
            (try simp only [Act.put, List.setIfInBounds_toArray, List.set_cons_zero, List.set_cons_succ])
            refine wpAnyH_ready (rs := [30]) (by kernel_rfl) (by simp) ?_
            refine AllReadyH.cons rfl (fun K hK => ?_) ?_
            · go_simp
              refine hK.out _ _ ?_ (fun hHeld => ?_)
              · (try dsimp only); (first | (with_reducible exact hHeld) | (have h_ := hHeld.2; refine mgC ?_; first | (with_reducible exact h_) | (with_reducible exact MgS.below h_ hb1) | (with_reducible exact MgS.alloc h_ _) | (with_reducible exact MgS.alloc (MgS.below HS.out.drew hb1) _) | (with_reducible exact MgS.drew (MgS.alloc HS.out _)) | ((with_reducible refine MgS.set (MgS.set (MgS.set (MgS.set (MgS.set (MgS.set h_ ?_ (Nat.le_refl _) _) ?_ (Nat.le_refl _) _) ?_ (Nat.le_refl _) _) ?_ (Nat.le_refl _) _) ?_ (Nat.le_refl _) _) ?_ (Nat.le_refl _) _) <;> exact hz)))
              clear hK K
              (try simp only [Act.put, List.setIfInBounds_toArray, List.set_cons_zero, List.set_cons_succ])
              refine wpAnyH_done (by kernel_rfl) ?_ _
              go_wp2
              go_meet
              case rel =>
                have h_ := hHeld.2
                refine ⟨_, rfl, ?_, h_, ?_⟩
                · first | exact hz | (have := hb1.size; simp at this; omega)
                · first
                  | (with_reducible exact blk_new _ _)
                  | exact blk_put (blk_put (blk_put (blk_put (blk_put (blk_put (blk_below (show (W0.alloc (.cells #[.int .u64 0, .bool false, .int .i64 0, .int .u64 0, .int .i64 0, .int .i64 0] 42)).drew.heap[W0.heap.size]? = some _ from blk_new W0 _) hb1) 0 _ rfl) 1 _ rfl) 2 _ rfl) 3 _ rfl) 4 _ rfl) 5 _ rfl
            exact AllReadyH.nil
          exact AllReadyH.nil
        exact AllReadyH.nil
      exact AllReadyH.nil
    refine AllReadyH.cons rfl (fun K hK => ?_) ?_
    · go_simp
      refine hK.out _ _ ?_ (fun hHeld => ?_)
      · (try dsimp only); (first | (with_reducible exact hHeld) | (have h_ := hHeld.2; refine mgC ?_; first | (with_reducible exact h_) | (with_reducible exact MgS.below h_ hb1) | (with_reducible exact MgS.alloc h_ _) | (with_reducible exact MgS.alloc (MgS.below HS.out.drew hb1) _) | (with_reducible exact MgS.drew (MgS.alloc HS.out _)) | ((with_reducible refine MgS.set (MgS.set (MgS.set (MgS.set (MgS.set (MgS.set h_ ?_ (Nat.le_refl _) _) ?_ (Nat.le_refl _) _) ?_ (Nat.le_refl _) _) ?_ (Nat.le_refl _) _) ?_ (Nat.le_refl _) _) ?_ (Nat.le_refl _) _) <;> exact hz)))
      clear hK K
      (try simp only [Act.put, List.setIfInBounds_toArray, List.set_cons_zero, List.set_cons_succ])
      refine wpAnyH_ready (rs := [15]) (by kernel_rfl) (by simp) ?_
      refine AllReadyH.cons rfl (fun K hK => ?_) ?_
      · go_simp
        go_wp2_with (first | (go_at_call 31; (with_reducible refine (wide_Add.calls _ _ _ _ _ _ _ HADD.out).mono ?_); rintro e w1 ⟨rfl, hb1⟩; obtain ⟨hcc, hff⟩ := bcell hb1))
        refine hK.out _ _ ?_ (fun hHeld => ?_)
        · (try dsimp only); (first | (with_reducible exact hHeld) | (have h_ := hHeld.2; refine mgC ?_; first | (with_reducible exact h_) | (with_reducible exact MgS.below h_ hb1) | (with_reducible exact MgS.alloc h_ _) | (with_reducible exact MgS.alloc (MgS.below HS.out.drew hb1) _) | (with_reducible exact MgS.drew (MgS.alloc HS.out _)) | ((with_reducible refine MgS.set (MgS.set (MgS.set (MgS.set (MgS.set (MgS.set h_ ?_ (Nat.le_refl _) _) ?_ (Nat.le_refl _) _) ?_ (Nat.le_refl _) _) ?_ (Nat.le_refl _) _) ?_ (Nat.le_refl _) _) ?_ (Nat.le_refl _) _) <;> exact hz)))
        clear hK K
        (try simp only [Act.put, List.setIfInBounds_toArray, List.set_cons_zero, List.set_cons_succ])
        refine wpAnyH_ready (rs := [21]) (by kernel_rfl) (by simp) ?_
        refine AllReadyH.cons rfl (fun K hK => ?_) ?_
        · go_simp
          go_wp2_with (first | (go_at_call 32; (with_reducible refine (better_less _ _ _).mono ?_); rintro e w1 ⟨rfl, rfl⟩))
          refine hK.out _ _ ?_ (fun hHeld => ?_)
          · (try dsimp only); (first | (with_reducible exact hHeld) | (have h_ := hHeld.2; refine mgC ?_; first | (with_reducible exact h_) | (with_reducible exact MgS.below h_ hb1) | (with_reducible exact MgS.alloc h_ _) | (with_reducible exact MgS.alloc (MgS.below HS.out.drew hb1) _) | (with_reducible exact MgS.drew (MgS.alloc HS.out _)) | ((with_reducible refine MgS.set (MgS.set (MgS.set (MgS.set (MgS.set (MgS.set h_ ?_ (Nat.le_refl _) _) ?_ (Nat.le_refl _) _) ?_ (Nat.le_refl _) _) ?_ (Nat.le_refl _) _) ?_ (Nat.le_refl _) _) ?_ (Nat.le_refl _) _) <;> exact hz)))
          clear hK K
          (try simp only [Act.put, List.setIfInBounds_toArray, List.set_cons_zero, List.set_cons_succ])
          refine wpAnyH_ready (rs := [27]) (by kernel_rfl) (by simp) ?_
          refine AllReadyH.cons rfl (fun K hK => ?_) ?_
          · go_simp
            go_wp2_with (first | (go_at_call 32; (with_reducible refine (better_more _ _ _).mono ?_); rintro e w1 ⟨rfl, rfl⟩))
            refine hK.out _ _ ?_ (fun hHeld => ?_)
            · (try dsimp only); (first | (with_reducible exact hHeld) | (have h_ := hHeld.2; refine mgC ?_; first | (with_reducible exact h_) | (with_reducible exact MgS.below h_ hb1) | (with_reducible exact MgS.alloc h_ _) | (with_reducible exact MgS.alloc (MgS.below HS.out.drew hb1) _) | (with_reducible exact MgS.drew (MgS.alloc HS.out _)) | ((with_reducible refine MgS.set (MgS.set (MgS.set (MgS.set (MgS.set (MgS.set h_ ?_ (Nat.le_refl _) _) ?_ (Nat.le_refl _) _) ?_ (Nat.le_refl _) _) ?_ (Nat.le_refl _) _) ?_ (Nat.le_refl _) _) ?_ (Nat.le_refl _) _) <;> exact hz)))
            clear hK K
            (try simp only [Act.put, List.setIfInBounds_toArray, List.set_cons_zero, List.set_cons_succ])
            refine take_at (i := 28) (N := 44) (v := .agg #[.int .u64 (IntKind.u64.wrap (a0 + b0)), .bool true, .int .i64 (addW ⟨a2, a3⟩ ⟨b2, b3⟩).f0, .int .u64 (addW ⟨a2, a3⟩ ⟨b2, b3⟩).f1, .int .i64 (leastI a4 b4), .int .i64 (mostI a5 b5)]) rfl rfl (by kernel_rfl) (by kernel_rfl) (by kernel_rfl) (fun _ _ _ h => h) (Or.inl ⟨by rfl, ?_⟩) hHeld ?_
            · intro w hSw; (try dsimp only at hSw); go_simp
            (try simp only [Act.put, List.setIfInBounds_toArray, List.set_cons_zero, List.set_cons_succ])
            refine wpAnyH_ready (rs := [30]) (by kernel_rfl) (by simp) ?_
            refine AllReadyH.cons rfl (fun K hK => ?_) ?_
            · go_simp
              refine hK.out _ _ ?_ (fun hHeld => ?_)
              · (try dsimp only); (first | (with_reducible exact hHeld) | (have h_ := hHeld.2; refine mgC ?_; first | (with_reducible exact h_) | (with_reducible exact MgS.below h_ hb1) | (with_reducible exact MgS.alloc h_ _) | (with_reducible exact MgS.alloc (MgS.below HS.out.drew hb1) _) | (with_reducible exact MgS.drew (MgS.alloc HS.out _)) | ((with_reducible refine MgS.set (MgS.set (MgS.set (MgS.set (MgS.set (MgS.set h_ ?_ (Nat.le_refl _) _) ?_ (Nat.le_refl _) _) ?_ (Nat.le_refl _) _) ?_ (Nat.le_refl _) _) ?_ (Nat.le_refl _) _) ?_ (Nat.le_refl _) _) <;> exact hz)))
              clear hK K
              (try simp only [Act.put, List.setIfInBounds_toArray, List.set_cons_zero, List.set_cons_succ])
              refine wpAnyH_done (by kernel_rfl) ?_ _
              go_wp2
              go_meet
              case rel =>
                have h_ := hHeld.2
                refine ⟨_, rfl, ?_, h_, ?_⟩
                · first | exact hz | (have := hb1.size; simp at this; omega)
                · first
                  | (with_reducible exact blk_new _ _)
                  | exact blk_put (blk_put (blk_put (blk_put (blk_put (blk_put (blk_below (show (W0.alloc (.cells #[.int .u64 0, .bool false, .int .i64 0, .int .u64 0, .int .i64 0, .int .i64 0] 42)).drew.heap[W0.heap.size]? = some _ from blk_new W0 _) hb1) 0 _ rfl) 1 _ rfl) 2 _ rfl) 3 _ rfl) 4 _ rfl) 5 _ rfl
            exact AllReadyH.nil
          exact AllReadyH.nil
        exact AllReadyH.nil
      exact AllReadyH.nil
    exact AllReadyH.nil
  case rest =>
    obtain ⟨gb, rfl, hgb, hM, hm⟩ := hcut
    have HM := Lib.hid hM; have HG := Lib.hid hm; have HGB := Lib.hid hgb; have HBW := Lib.hid hM.1; have HRS := Lib.hid hM.2.2.2
    clear hM hm HS HADD
    have hA0 := (blk_cell HM.out.2.1 0).trans (show _ = some (Value.int .u64 a0) from rfl)
    have hm0 := (blk_cell HG.out 0).trans (show _ = some (Value.int .u64 (IntKind.u64.wrap (a0 + b0))) from rfl)
    have hm1 := (blk_cell HG.out 1).trans (show _ = some (Value.bool true) from rfl)
    have hm2 := (blk_cell HG.out 2).trans (show _ = some (Value.int .i64 (addW ⟨a2, a3⟩ ⟨b2, b3⟩).f0) from rfl)
    have hm3 := (blk_cell HG.out 3).trans (show _ = some (Value.int .u64 (addW ⟨a2, a3⟩ ⟨b2, b3⟩).f1) from rfl)
    have hm4 := (blk_cell HG.out 4).trans (show _ = some (Value.int .i64 (leastI a4 b4)) from rfl)
    have hm5 := (blk_cell HG.out 5).trans (show _ = some (Value.int .i64 (mostI a5 b5)) from rfl)
    have hfm0 := blk_frozen HG.out 0; have hfm1 := blk_frozen HG.out 1
    have hr0 := (blk_cell HM.out.2.2.2 0).trans (show _ = some (Value.int .u64 0) from rfl)
    have hr1 := (blk_cell HM.out.2.2.2 1).trans (show _ = some (Value.bool false) from rfl)
    have hr2 := (blk_cell HM.out.2.2.2 2).trans (show _ = some (Value.int .i64 0) from rfl)
    have hr3 := (blk_cell HM.out.2.2.2 3).trans (show _ = some (Value.int .u64 0) from rfl)
    have hr4 := (blk_cell HM.out.2.2.2 4).trans (show _ = some (Value.int .i64 0) from rfl)
    have hr5 := (blk_cell HM.out.2.2.2 5).trans (show _ = some (Value.int .i64 0) from rfl)
    have hfr0 := blk_frozen HM.out.2.2.2 0; have hfr1 := blk_frozen HM.out.2.2.2 1; have hfr2 := blk_frozen HM.out.2.2.2 2
    have hfr3 := blk_frozen HM.out.2.2.2 3; have hfr4 := blk_frozen HM.out.2.2.2 4; have hfr5 := blk_frozen HM.out.2.2.2 5
    have hne : (gb = w.heap.size + 1 + 1) = False := eq_false (by omega)
    have hne2 : (w.heap.size + 1 + 1 = gb) = False := eq_false (by omega)
    have hne3 : (gb = w.heap.size) = False := eq_false (by omega)
    obtain ⟨c, hc⟩ : ∃ c, c = IntKind.u64.wrap (a0 + b0) := ⟨_, rfl⟩
    rw [← hc] at hm0
    have HCC := Lib.hid hc
    clear hc hgb
    by_cases hlt : c < a0
    · have d1 : decide (c < a0) = true := decide_eq_true hlt
      go_wp2
      refine bodyPost_ret (results_cell_row rfl _ _ (w.heap.size + 1 + 1) 42 #[.int .u64 18446744073709551615, .bool true, .int .i64 (addW ⟨a2, a3⟩ ⟨b2, b3⟩).f0, .int .u64 (addW ⟨a2, a3⟩ ⟨b2, b3⟩).f1, .int .i64 (leastI a4 b4), .int .i64 (mostI a5 b5)] (0, 0) _ rfl ?hg Try.underlying42 rfl (by kernel_rfl)) rfl ?_
      case hg =>
        refine blk_put (cs := #[.int .u64 18446744073709551615, .bool true, .int .i64 (addW ⟨a2, a3⟩ ⟨b2, b3⟩).f0, .int .u64 (addW ⟨a2, a3⟩ ⟨b2, b3⟩).f1, .int .i64 (leastI a4 b4), .int .i64 0]) ?_ 5 _ rfl
        refine blk_put (cs := #[.int .u64 18446744073709551615, .bool true, .int .i64 (addW ⟨a2, a3⟩ ⟨b2, b3⟩).f0, .int .u64 (addW ⟨a2, a3⟩ ⟨b2, b3⟩).f1, .int .i64 0, .int .i64 0]) ?_ 4 _ rfl
        refine blk_put (cs := #[.int .u64 18446744073709551615, .bool true, .int .i64 (addW ⟨a2, a3⟩ ⟨b2, b3⟩).f0, .int .u64 0, .int .i64 0, .int .i64 0]) ?_ 3 _ rfl
        refine blk_put (cs := #[.int .u64 18446744073709551615, .bool true, .int .i64 0, .int .u64 0, .int .i64 0, .int .i64 0]) ?_ 2 _ rfl
        refine blk_put (cs := #[.int .u64 18446744073709551615, .bool false, .int .i64 0, .int .u64 0, .int .i64 0, .int .i64 0]) ?_ 1 _ rfl
        refine blk_put (cs := #[.int .u64 0, .bool false, .int .i64 0, .int .u64 0, .int .i64 0, .int .i64 0]) ?_ 0 _ rfl
        repeat (refine blk_far ?_ (by have := HGB.out; show w.heap.size + 1 + 1 ≠ gb; omega) _)
        exact HRS.out
      refine ⟨?_, ?_⟩
      · rw [← HCC.out, show mgTop c a0 true = (18446744073709551615, true) from if_pos (.inl hlt)]
      · repeat (first | (with_reducible exact HBW.out) | (refine below_set ?_ (by have := HGB.out; omega)))
    · have d1 : decide (c < a0) = false := decide_eq_false hlt
      have HLT := Lib.hid hlt; clear hlt
      go_wp2
      refine bodyPost_ret (results_cell_row rfl _ _ (w.heap.size + 1 + 1) 42 #[.int .u64 18446744073709551615, .bool true, .int .i64 (addW ⟨a2, a3⟩ ⟨b2, b3⟩).f0, .int .u64 (addW ⟨a2, a3⟩ ⟨b2, b3⟩).f1, .int .i64 (leastI a4 b4), .int .i64 (mostI a5 b5)] (0, 0) _ rfl ?hg Try.underlying42 rfl (by kernel_rfl)) rfl ?_
      case hg =>
        refine blk_put (cs := #[.int .u64 18446744073709551615, .bool true, .int .i64 (addW ⟨a2, a3⟩ ⟨b2, b3⟩).f0, .int .u64 (addW ⟨a2, a3⟩ ⟨b2, b3⟩).f1, .int .i64 (leastI a4 b4), .int .i64 0]) ?_ 5 _ rfl
        refine blk_put (cs := #[.int .u64 18446744073709551615, .bool true, .int .i64 (addW ⟨a2, a3⟩ ⟨b2, b3⟩).f0, .int .u64 (addW ⟨a2, a3⟩ ⟨b2, b3⟩).f1, .int .i64 0, .int .i64 0]) ?_ 4 _ rfl
        refine blk_put (cs := #[.int .u64 18446744073709551615, .bool true, .int .i64 (addW ⟨a2, a3⟩ ⟨b2, b3⟩).f0, .int .u64 0, .int .i64 0, .int .i64 0]) ?_ 3 _ rfl
        refine blk_put (cs := #[.int .u64 18446744073709551615, .bool true, .int .i64 0, .int .u64 0, .int .i64 0, .int .i64 0]) ?_ 2 _ rfl
        refine blk_put (cs := #[.int .u64 18446744073709551615, .bool false, .int .i64 0, .int .u64 0, .int .i64 0, .int .i64 0]) ?_ 1 _ rfl
        refine blk_put (cs := #[.int .u64 0, .bool false, .int .i64 0, .int .u64 0, .int .i64 0, .int .i64 0]) ?_ 0 _ rfl
        repeat (refine blk_far ?_ (by have := HGB.out; show w.heap.size + 1 + 1 ≠ gb; omega) _)
        exact HRS.out
      refine ⟨?_, ?_⟩
      · rw [← HCC.out, show mgTop c a0 true = (18446744073709551615, true) from if_pos (.inr rfl)]
      · repeat (first | (with_reducible exact HBW.out) | (refine below_set ?_ (by have := HGB.out; omega)))
def mergeA (a b : Ag) : Ag := if a.f0 = 0 then b else if b.f0 = 0 then a else
  ⟨(mgTop (IntKind.u64.wrap (a.f0 + b.f0)) a.f0 (a.f1 || b.f1)).1, (mgTop (IntKind.u64.wrap (a.f0 + b.f0)) a.f0 (a.f1 || b.f1)).2, addW a.f2 b.f2, leastI a.f3 b.f3, mostI a.f4 b.f4⟩
def agg_Merge.f (a0 : Int) (a1 : Bool) (a2 a3 a4 a5 b0 : Int) (b1 : Bool) (b2 b3 b4 b5 : Int) : Option (Int × Bool × Int × Int × Int × Int) :=
  if inU a3 ∧ inU b3 then
    let m := mergeA ⟨a0, a1, ⟨a2, a3⟩, a4, a5⟩ ⟨b0, b1, ⟨b2, b3⟩, b4, b5⟩
    some (m.f0, m.f1, m.f2.f0, m.f2.f1, m.f3, m.f4)
  else none
theorem agg_Merge.calls (a0 : Int) (a1 : Bool) (a2 a3 a4 a5 b0 : Int) (b1 : Bool) (b2 b3 b4 b5 : Int) (r1 : Int) (r2 : Bool) (r3 r4 r5 r6 : Int) (w : World) (h : agg_Merge.f a0 a1 a2 a3 a4 a5 b0 b1 b2 b3 b4 b5 = some (r1, r2, r3, r4, r5, r6)) :
    Calls Try.prog 14 #[.agg #[.int .u64 a0, .bool a1, .int .i64 a2, .int .u64 a3, .int .i64 a4, .int .i64 a5], .agg #[.int .u64 b0, .bool b1, .int .i64 b2, .int .u64 b3, .int .i64 b4, .int .i64 b5]] w fun e w' => e = .returned (.agg #[.int .u64 r1, .bool r2, .int .i64 r3, .int .u64 r4, .int .i64 r5, .int .i64 r6]) ∧ Below w.heap.size w w' := by
  unfold agg_Merge.f at h
  by_cases hu : inU a3 ∧ inU b3
  case neg => rw [if_neg hu] at h; cases h
  rw [if_pos hu] at h
  simp only [Option.some.injEq, Prod.mk.injEq] at h
  by_cases h0 : a0 = 0
  · have hm : mergeA ⟨a0, a1, ⟨a2, a3⟩, a4, a5⟩ ⟨b0, b1, ⟨b2, b3⟩, b4, b5⟩ = ⟨b0, b1, ⟨b2, b3⟩, b4, b5⟩ := if_pos h0
    rw [hm] at h
    obtain ⟨rfl, rfl, rfl, rfl, rfl, rfl⟩ := h
    subst h0
    clear hm hu
    go_enter Try.func14, Try.ntmps14
    go_wp2
    refine bodyPost_ret (results_cell_row rfl _ _ (w.heap.size + 1 + 1) 42 #[.int .u64 b0, .bool b1, .int .i64 b2, .int .u64 b3, .int .i64 b4, .int .i64 b5] (0, 0) _ rfl ?hg Try.underlying42 rfl (by kernel_rfl)) rfl ⟨rfl, ?_⟩
    case hg =>
      have := blk_new ((w.alloc (.cells #[.int .u64 0, .bool a1, .int .i64 a2, .int .u64 a3, .int .i64 a4, .int .i64 a5] 42)).alloc (.cells #[.int .u64 b0, .bool b1, .int .i64 b2, .int .u64 b3, .int .i64 b4, .int .i64 b5] 42)) (.cells #[.int .u64 b0, .bool b1, .int .i64 b2, .int .u64 b3, .int .i64 b4, .int .i64 b5] 42)
      simpa using this
    exact (((Below.refl w.heap.size w).alloc (Nat.le_refl _) _).alloc (by simp) _).alloc (by simp; omega) _
  · by_cases h1 : b0 = 0
    · have hm : mergeA ⟨a0, a1, ⟨a2, a3⟩, a4, a5⟩ ⟨b0, b1, ⟨b2, b3⟩, b4, b5⟩ = ⟨a0, a1, ⟨a2, a3⟩, a4, a5⟩ := by unfold mergeA; rw [if_neg h0, if_pos h1]
      rw [hm] at h
      obtain ⟨rfl, rfl, rfl, rfl, rfl, rfl⟩ := h
      subst h1
      have e0 : (a0 == 0) = false := beq_eq_false_iff_ne.2 h0
      clear hm hu h0
      go_enter Try.func14, Try.ntmps14
      go_wp2
      refine bodyPost_ret (results_cell_row rfl _ _ (w.heap.size + 1 + 1) 42 #[.int .u64 a0, .bool a1, .int .i64 a2, .int .u64 a3, .int .i64 a4, .int .i64 a5] (0, 0) _ rfl ?hg Try.underlying42 rfl (by kernel_rfl)) rfl ⟨rfl, ?_⟩
      case hg =>
        have := blk_new ((w.alloc (.cells #[.int .u64 a0, .bool a1, .int .i64 a2, .int .u64 a3, .int .i64 a4, .int .i64 a5] 42)).alloc (.cells #[.int .u64 0, .bool b1, .int .i64 b2, .int .u64 b3, .int .i64 b4, .int .i64 b5] 42)) (.cells #[.int .u64 a0, .bool a1, .int .i64 a2, .int .u64 a3, .int .i64 a4, .int .i64 a5] 42)
        simpa using this
      exact (((Below.refl w.heap.size w).alloc (Nat.le_refl _) _).alloc (by simp) _).alloc (by simp; omega) _
    · have hm : mergeA ⟨a0, a1, ⟨a2, a3⟩, a4, a5⟩ ⟨b0, b1, ⟨b2, b3⟩, b4, b5⟩ = ⟨(mgTop (IntKind.u64.wrap (a0 + b0)) a0 (a1 || b1)).1, (mgTop (IntKind.u64.wrap (a0 + b0)) a0 (a1 || b1)).2, addW ⟨a2, a3⟩ ⟨b2, b3⟩, leastI a4 b4, mostI a5 b5⟩ := by unfold mergeA; rw [if_neg h0, if_neg h1]
      rw [hm] at h
      obtain ⟨rfl, rfl, rfl, rfl, rfl, rfl⟩ := h
      cases a1 with
      | false => exact merge_no a0 a2 a3 a4 a5 b0 b1 b2 b3 b4 b5 w h0 h1 hu
      | true => exact merge_yes a0 a2 a3 a4 a5 b0 b1 b2 b3 b4 b5 w h0 h1 hu
end Go.Proofs.Ytdopbhbbpgfliaa.PAsk
end
