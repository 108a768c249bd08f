import Derived.Test.YtdopbhbbpgfliaaZAskEach04
import Derived.Lib.Hide
import Derived.Outline
section
namespace Go.Proofs.Ytdopbhbbpgfliaa.PAsk
open Go.RowKit Go.Proofs.YtdopbhbbpgfliaaW.PrintWords Go.Proofs.YtdopbhbbpgfliaaW.PrintLast Go.Proofs.YtdopbhbbpgfliaaW.PrintMore
set_option linter.unusedVariables false
set_option linter.unusedSimpArgs false
set_option maxHeartbeats 8000000
set_option maxRecDepth 100000
def szR (g : List S84) (i : Nat) : Int := (rd_T84 g (i : Int)).f0
def agR0 (g : List S84) (i : Nat) : Int := (rd_T84 g (i : Int)).f1
def stepR (g : List S84) (i : Nat) : Bool := decide (1 ≤ szR g i) && (decide (szR g i ≤ 1099511627776) && (decide (agR0 g i ≤ 1099511627776) && (decide (i = 0) || (decide (szR g (i - 1) < szR g i) && (decide (Int.tmod (szR g i) (szR g (i - 1)) = 0) && decide (agR0 g (i - 1) ≤ agR0 g i))))))
def rightR (g : List S84) (keep : Int) : Bool := decide (1 ≤ g.length) && (decide (g.length ≤ 4) && (decide (agR0 g 0 = 0) && ((List.range g.length).all (stepR g) && (decide (agR0 g (g.length - 1) ≤ keep) && decide (keep ≤ 2199023255552)))))
def grain_Right.f (_ : Nat) (g : List S84) (keep : Int) : Option Bool := some (rightR g keep)
def RightRel (w : World) (g : List S84) (A0 : Option Addr) (c0 : Nat) (keep : Int) (j : Nat) (wr : World) : Prop :=
  Below w.heap.size w wr ∧ wr.heap[w.heap.size]? = some (.cells #[.slice A0 g.length c0, .int .i64 keep] 24 (0, 0)) ∧ ∀ q, q < j → stepR g q = true
theorem grain_Right.calls (k : Nat) (A0_0 : Option Addr) (c0_0 : Nat) (l0_0 : List S84) (a0_1 : Int) (r : Bool) (w : World) (hr0_0 : Kd.C k84 w A0_0 l0_0.length l0_0) (hc0_0 : l0_0.length ≤ c0_0) (h : grain_Right.f k l0_0 a0_1 = some r) :
    Calls Try.prog 47 #[.agg #[.slice A0_0 l0_0.length c0_0, .int .i64 a0_1]] w fun e w' => e = .returned (.bool r) ∧ Below w.heap.size w w' := by
  unfold grain_Right.f at h
  obtain rfl := Option.some.inj h
  have HG := Lib.hid hr0_0; clear hr0_0 h
  by_cases h1 : l0_0.length < 1
  · have e1 : decide ((l0_0.length : Int) < 1) = true := decide_eq_true (by omega)
    have e2 : decide (l0_0.length < 1) = true := decide_eq_true h1
    have hR : rightR l0_0 a0_1 = false := by unfold rightR; rw [decide_eq_false (by omega)]; rfl
    rw [hR]
    go_enter Try.func47, Try.ntmps47
    (go_wp2; repeat (go_step3; try (go_wp2)))
    rw [Exit.noGoto_ret]
    go_ret
    exact ⟨rfl, below_alloc (Below.refl _ _) _⟩
  by_cases h4 : 4 < l0_0.length
  · have e1 : decide ((l0_0.length : Int) < 1) = false := decide_eq_false (by omega)
    have e2 : decide (l0_0.length < 1) = false := decide_eq_false h1
    have e3 : decide (4 < (l0_0.length : Int)) = true := decide_eq_true (by omega)
    have e4 : decide (4 < l0_0.length) = true := decide_eq_true h4
    have hR : rightR l0_0 a0_1 = false := by unfold rightR; rw [decide_eq_true (show 1 ≤ l0_0.length by omega), decide_eq_false (show ¬ l0_0.length ≤ 4 by omega)]; rfl
    rw [hR]
    go_enter Try.func47, Try.ntmps47
    (go_wp2; repeat (go_step3; try (go_wp2)))
    rw [Exit.noGoto_ret]
    go_ret
    exact ⟨rfl, below_alloc (Below.refl _ _) _⟩
  have e1 : decide ((l0_0.length : Int) < 1) = false := decide_eq_false (by omega)
  have e2 : decide (l0_0.length < 1) = false := decide_eq_false h1
  have e3 : decide (4 < (l0_0.length : Int)) = false := decide_eq_false (by omega)
  have e4 : decide (4 < l0_0.length) = false := decide_eq_false h4
  obtain ⟨ad, ha, hx0, hx1⟩ := at_T84 HG.out 0 (by omega) (by omega)
  subst ha
  have hpos : (0 < l0_0.length) = True := eq_true (by omega)
  have hpos2 : ((0 : Int) < (l0_0.length : Int)) = True := eq_true (by omega)
  simp only [Int.toNat_zero, Nat.zero_mul, Addr.add_zero'] at hx0 hx1
  replace hx0 := (Below.cell (below_alloc (Below.refl w.heap.size w) (.cells #[.slice (some ad) l0_0.length c0_0, .int .i64 a0_1] 24)) (World.block_lt_of_cell? w _ hx0)).trans hx0
  replace hx1 := (Below.cell (below_alloc (Below.refl w.heap.size w) (.cells #[.slice (some ad) l0_0.length c0_0, .int .i64 a0_1] 24)) (World.block_lt_of_cell? w _ hx1)).trans hx1
  have hz0 : (rd_T84 l0_0 0).f1 = agR0 l0_0 0 := rfl
  rw [hz0] at hx1
  by_cases h0 : agR0 l0_0 0 = 0
  case neg =>
    have e5 : (agR0 l0_0 0 != 0) = true := bne_iff_ne.mpr h0
    have e6 : (agR0 l0_0 0 == 0) = false := beq_eq_false_iff_ne.mpr h0
    have hR : rightR l0_0 a0_1 = false := by unfold rightR; rw [decide_eq_true (show 1 ≤ l0_0.length by omega), decide_eq_true (show l0_0.length ≤ 4 by omega), decide_eq_false h0]; rfl
    rw [hR]
    go_enter Try.func47, Try.ntmps47
    (go_wp2; repeat (go_step3; try (go_wp2)))
    rw [Exit.noGoto_ret]
    go_ret
    exact ⟨rfl, below_alloc (Below.refl _ _) _⟩
  case pos =>
    have e5 : (agR0 l0_0 0 != 0) = false := bne_eq_false_iff_eq.mpr h0
    have e6 : (agR0 l0_0 0 == 0) = true := beq_iff_eq.mpr h0
    have HX : Hid (w.cell? ad = w.cell? ad) := Lib.hid rfl
    go_enter Try.func47, Try.ntmps47
    (go_wp2; repeat (go_step3; try (go_wp2)))
    go_loopw [4, 26] (fun v4 v wr => ∃ j : Nat, v = .int .i64 j ∧ v4 = .bool true ∧ j ≤ l0_0.length ∧ RightRel w l0_0 (some ad) c0_0 a0_1 j wr) (fun _ v _ => l0_0.length - (intOf v).toNat)
    case atStart => exact ⟨0, rfl, rfl, Nat.zero_le _, below_alloc (Below.refl _ _) _, blk_new _ _, fun q hq => absurd hq (Nat.not_lt_zero _)⟩
    case round =>
      obtain ⟨j, rfl, rfl, hj, hB, hX, hs⟩ := hrel
      have HB := Lib.hid hB; have HXX := Lib.hid hX; have HS := Lib.hid hs; clear hB hX hs
      have hk0 := (blk_cell HXX.out 0).trans (show _ = some (Value.slice (some ad) l0_0.length c0_0) from rfl)
      have hk1 := (blk_cell HXX.out 1).trans (show _ = some (Value.int .i64 a0_1) from rfl)
      clear hx0 hx1 hz0 e5 e6
      by_cases hlt : j < l0_0.length
      · have q1 : decide ((j : Int) < (l0_0.length : Int)) = true := decide_eq_true (by omega)
        have q2 : (0 ≤ (j : Int)) = True := eq_true (by omega)
        have q3 : ((j : Int) < (l0_0.length : Int)) = True := eq_true (by omega)
        obtain ⟨ad2, ha2, hy0, hy1⟩ := at_T84 HG.out (j : Int) (by omega) (by omega)
        obtain rfl : ad = ad2 := by injection ha2
        simp only [Int.toNat_natCast] at hy0 hy1
        replace hy0 := (HB.out.cell (World.block_lt_of_cell? w _ hy0)).trans hy0
        replace hy1 := (HB.out.cell (World.block_lt_of_cell? w _ hy1)).trans hy1
        have HST := Lib.hid (show stepR l0_0 j = stepR l0_0 j from rfl)
        have hF : stepR l0_0 j = false → rightR l0_0 a0_1 = false := fun hh => by
          have ha : (List.range l0_0.length).all (stepR l0_0) = false := List.all_eq_false.2 ⟨j, List.mem_range.2 hlt, by rw [hh]; decide⟩
          unfold rightR
          rw [ha, Bool.false_and, Bool.and_false, Bool.and_false, Bool.and_false]
        have hsj : stepR l0_0 j = (decide (1 ≤ szR l0_0 j) && (decide (szR l0_0 j ≤ 1099511627776) && (decide (agR0 l0_0 j ≤ 1099511627776) && (decide (j = 0) || (decide (szR l0_0 (j - 1) < szR l0_0 j) && (decide (Int.tmod (szR l0_0 j) (szR l0_0 (j - 1)) = 0) && decide (agR0 l0_0 (j - 1) ≤ agR0 l0_0 j))))))) := rfl
        rw [show (rd_T84 l0_0 (j : Int)).f0 = szR l0_0 j from rfl] at hy0
        rw [show (rd_T84 l0_0 (j : Int)).f1 = agR0 l0_0 j from rfl] at hy1
        have HSZ := Lib.hid (below_size HB.out)
        by_cases c1 : 1 ≤ szR l0_0 j
        case neg =>
          have f1 : decide (1 ≤ szR l0_0 j) = false := decide_eq_false c1
          have HF := Lib.hid (hF (by rw [hsj, f1]; rfl))
          clear hsj hF c1
          generalize szR l0_0 j = s at *
          generalize agR0 l0_0 j = a at *
          (go_wp2; repeat (go_step3; try (go_wp2)))
          repeat (go_quiet (fail); try (go_wp2; repeat (go_step3; try (go_wp2))))
          rw [Exit.noGoto_ret]
          go_ret
          exact ⟨by rw [HF.out]; rfl, by repeat (first | (with_reducible first | exact HB.out | apply below_alloc | apply pw_below_drewN | apply below_drew1 | refine below_set ?_ HSZ.out) | exact HB.out)⟩
        have f1 : decide (1 ≤ szR l0_0 j) = true := decide_eq_true c1
        by_cases c2 : szR l0_0 j ≤ 1099511627776
        case neg =>
          have f2 : decide (szR l0_0 j ≤ 1099511627776) = false := decide_eq_false c2
          have HF := Lib.hid (hF (by rw [hsj, f1, f2]; rfl))
          clear hsj hF c1 c2
          generalize szR l0_0 j = s at *
          generalize agR0 l0_0 j = a at *
          (go_wp2; repeat (go_step3; try (go_wp2)))
          repeat (go_quiet (fail); try (go_wp2; repeat (go_step3; try (go_wp2))))
          rw [Exit.noGoto_ret]
          go_ret
          exact ⟨by rw [HF.out]; rfl, by repeat (first | (with_reducible first | exact HB.out | apply below_alloc | apply pw_below_drewN | apply below_drew1 | refine below_set ?_ HSZ.out) | exact HB.out)⟩
        have f2 : decide (szR l0_0 j ≤ 1099511627776) = true := decide_eq_true c2
        by_cases c3 : agR0 l0_0 j ≤ 1099511627776
        case neg =>
          have f3 : decide (agR0 l0_0 j ≤ 1099511627776) = false := decide_eq_false c3
          have HF := Lib.hid (hF (by rw [hsj, f1, f2, f3]; rfl))
          clear hsj hF c1 c2 c3
          generalize szR l0_0 j = s at *
          generalize agR0 l0_0 j = a at *
          (go_wp2; repeat (go_step3; try (go_wp2)))
          repeat (go_quiet (fail); try (go_wp2; repeat (go_step3; try (go_wp2))))
          rw [Exit.noGoto_ret]
          go_ret
          exact ⟨by rw [HF.out]; rfl, by repeat (first | (with_reducible first | exact HB.out | apply below_alloc | apply pw_below_drewN | apply below_drew1 | refine below_set ?_ HSZ.out) | exact HB.out)⟩
        have f3 : decide (agR0 l0_0 j ≤ 1099511627776) = true := decide_eq_true c3
        by_cases hj0 : j = 0
        case pos =>
          have HN := Lib.hid (show stepR l0_0 j = true by rw [hsj, f1, f2, f3, decide_eq_true hj0]; rfl)
          have q4 : decide ((0 : Int) < (j : Int)) = false := decide_eq_false (by omega)
          have q5 : decide (0 < j) = false := decide_eq_false (by omega)
          clear hsj hF c1 c2 c3 hj0
          generalize szR l0_0 j = s at *
          generalize agR0 l0_0 j = a at *
          (go_wp2; repeat (go_step3; try (go_wp2)))
          exact ⟨⟨j + 1, by go_num, rfl, hlt, by repeat (first | (with_reducible first | exact HB.out | apply below_alloc | apply pw_below_drewN | apply below_drew1 | refine below_set ?_ HSZ.out) | exact HB.out), blk_alloc HXX.out _, fun q hq => by
            rcases Nat.lt_or_ge q j with h | h
            · exact HS.out q h
            · obtain rfl : q = j := by omega
              exact HN.out⟩, by simp [intOf]; omega⟩
        have q4 : decide ((0 : Int) < (j : Int)) = true := decide_eq_true (by omega)
        have q5 : decide (0 < j) = true := decide_eq_true (by omega)
        have q6 : IntKind.i64.wrap ((j : Int) - 1) = ((j - 1 : Nat) : Int) := by rw [IntKind.wrap_i64]; omega
        have q7 : (0 ≤ ((j - 1 : Nat) : Int)) = True := eq_true (by omega)
        have q8 : (((j - 1 : Nat) : Int) < (l0_0.length : Int)) = True := eq_true (by omega)
        obtain ⟨ad3, ha3, hv0, hv1⟩ := at_T84 HG.out ((j - 1 : Nat) : Int) (by omega) (by omega)
        obtain rfl : ad = ad3 := by injection ha3
        simp only [Int.toNat_natCast] at hv0 hv1
        replace hv0 := (HB.out.cell (World.block_lt_of_cell? w _ hv0)).trans hv0
        replace hv1 := (HB.out.cell (World.block_lt_of_cell? w _ hv1)).trans hv1
        rw [show (rd_T84 l0_0 ((j - 1 : Nat) : Int)).f0 = szR l0_0 (j - 1) from rfl] at hv0
        rw [show (rd_T84 l0_0 ((j - 1 : Nat) : Int)).f1 = agR0 l0_0 (j - 1) from rfl] at hv1
        have hs1 : ¬ szR l0_0 (j - 1) = 0 := by
          have := HS.out (j - 1) (by omega)
          unfold stepR at this
          rw [Bool.and_eq_true, decide_eq_true_iff] at this
          have := this.1
          omega
        have f5 : (szR l0_0 (j - 1) == 0) = false := beq_eq_false_iff_ne.mpr hs1
        by_cases c4 : szR l0_0 (j - 1) < szR l0_0 j
        case neg =>
          have f6 : decide (szR l0_0 (j - 1) < szR l0_0 j) = false := decide_eq_false c4
          have HF := Lib.hid (hF (by rw [hsj, f1, f2, f3, decide_eq_false hj0, f6]; rfl))
          clear hsj hF c1 c2 c3 c4
          generalize szR l0_0 j = s at *
          generalize agR0 l0_0 j = a at *
          generalize szR l0_0 (j - 1) = s' at *
          generalize agR0 l0_0 (j - 1) = a' at *
          have hA := fun (x : Addr) (u : Value) (h : wr.cell? x = some u) => ((below_alloc (Below.refl wr.heap.size wr) (.cells #[.int .i64 s, .int .i64 a] 84)).cell (World.block_lt_of_cell? wr _ h)).trans h
          have hk0' := hA _ _ hk0; have hk1' := hA _ _ hk1; have hv0' := hA _ _ hv0; have hv1' := hA _ _ hv1
          have hg0 := (blk_cell (blk_new wr (.cells #[.int .i64 s, .int .i64 a] 84)) 0).trans (show _ = some (Value.int .i64 s) from rfl); have hg1 := (blk_cell (blk_new wr (.cells #[.int .i64 s, .int .i64 a] 84)) 1).trans (show _ = some (Value.int .i64 a) from rfl)
          have hn0 := (blk_cell (blk_alloc (blk_new wr (.cells #[.int .i64 s, .int .i64 a] 84)) (.cells #[.int .i64 s', .int .i64 a'] 84)) 0).trans (show _ = some (Value.int .i64 s) from rfl); have hn1 := (blk_cell (blk_alloc (blk_new wr (.cells #[.int .i64 s, .int .i64 a] 84)) (.cells #[.int .i64 s', .int .i64 a'] 84)) 1).trans (show _ = some (Value.int .i64 a) from rfl)
          have hm0 := (blk_cell (blk_new (wr.alloc (.cells #[.int .i64 s, .int .i64 a] 84)) (.cells #[.int .i64 s', .int .i64 a'] 84)) 0).trans (show _ = some (Value.int .i64 s') from rfl); have hm1 := (blk_cell (blk_new (wr.alloc (.cells #[.int .i64 s, .int .i64 a] 84)) (.cells #[.int .i64 s', .int .i64 a'] 84)) 1).trans (show _ = some (Value.int .i64 a') from rfl)
          clear hA
          (go_wp2; repeat (go_step3; try (go_wp2)))
          repeat (go_quiet (fail); try (go_wp2; repeat (go_step3; try (go_wp2))))
          rw [Exit.noGoto_ret]
          go_ret
          exact ⟨by rw [HF.out]; rfl, by repeat (first | (with_reducible first | exact HB.out | apply below_alloc | apply pw_below_drewN | apply below_drew1 | refine below_set ?_ HSZ.out) | exact HB.out)⟩
        have f6 : decide (szR l0_0 (j - 1) < szR l0_0 j) = true := decide_eq_true c4
        by_cases c5 : Int.tmod (szR l0_0 j) (szR l0_0 (j - 1)) = 0
        case neg =>
          have f7 : (Int.tmod (szR l0_0 j) (szR l0_0 (j - 1)) == 0) = false := beq_eq_false_iff_ne.mpr c5
          have HF := Lib.hid (hF (by rw [hsj, f1, f2, f3, decide_eq_false hj0, f6, decide_eq_false c5]; rfl))
          clear hsj hF c1 c2 c3 c4 c5
          generalize szR l0_0 j = s at *
          generalize agR0 l0_0 j = a at *
          generalize szR l0_0 (j - 1) = s' at *
          generalize agR0 l0_0 (j - 1) = a' at *
          have hA := fun (x : Addr) (u : Value) (h : wr.cell? x = some u) => ((below_alloc (Below.refl wr.heap.size wr) (.cells #[.int .i64 s, .int .i64 a] 84)).cell (World.block_lt_of_cell? wr _ h)).trans h
          have hk0' := hA _ _ hk0; have hk1' := hA _ _ hk1; have hv0' := hA _ _ hv0; have hv1' := hA _ _ hv1
          have hg0 := (blk_cell (blk_new wr (.cells #[.int .i64 s, .int .i64 a] 84)) 0).trans (show _ = some (Value.int .i64 s) from rfl); have hg1 := (blk_cell (blk_new wr (.cells #[.int .i64 s, .int .i64 a] 84)) 1).trans (show _ = some (Value.int .i64 a) from rfl)
          have hn0 := (blk_cell (blk_alloc (blk_new wr (.cells #[.int .i64 s, .int .i64 a] 84)) (.cells #[.int .i64 s', .int .i64 a'] 84)) 0).trans (show _ = some (Value.int .i64 s) from rfl); have hn1 := (blk_cell (blk_alloc (blk_new wr (.cells #[.int .i64 s, .int .i64 a] 84)) (.cells #[.int .i64 s', .int .i64 a'] 84)) 1).trans (show _ = some (Value.int .i64 a) from rfl)
          have hm0 := (blk_cell (blk_new (wr.alloc (.cells #[.int .i64 s, .int .i64 a] 84)) (.cells #[.int .i64 s', .int .i64 a'] 84)) 0).trans (show _ = some (Value.int .i64 s') from rfl); have hm1 := (blk_cell (blk_new (wr.alloc (.cells #[.int .i64 s, .int .i64 a] 84)) (.cells #[.int .i64 s', .int .i64 a'] 84)) 1).trans (show _ = some (Value.int .i64 a') from rfl)
          clear hA
          (go_wp2; repeat (go_step3; try (go_wp2)))
          repeat (go_quiet (fail); try (go_wp2; repeat (go_step3; try (go_wp2))))
          rw [Exit.noGoto_ret]
          go_ret
          exact ⟨by rw [HF.out]; rfl, by repeat (first | (with_reducible first | exact HB.out | apply below_alloc | apply pw_below_drewN | apply below_drew1 | refine below_set ?_ HSZ.out) | exact HB.out)⟩
        have f7 : (Int.tmod (szR l0_0 j) (szR l0_0 (j - 1)) == 0) = true := beq_iff_eq.mpr c5
        by_cases c6 : agR0 l0_0 (j - 1) ≤ agR0 l0_0 j
        case neg =>
          have f8 : decide (agR0 l0_0 (j - 1) ≤ agR0 l0_0 j) = false := decide_eq_false c6
          have HF := Lib.hid (hF (by rw [hsj, f1, f2, f3, decide_eq_false hj0, f6, decide_eq_true c5, f8]; rfl))
          clear hsj hF c1 c2 c3 c4 c5 c6
          generalize szR l0_0 j = s at *
          generalize agR0 l0_0 j = a at *
          generalize szR l0_0 (j - 1) = s' at *
          generalize agR0 l0_0 (j - 1) = a' at *
          have hA := fun (x : Addr) (u : Value) (h : wr.cell? x = some u) => ((below_alloc (Below.refl wr.heap.size wr) (.cells #[.int .i64 s, .int .i64 a] 84)).cell (World.block_lt_of_cell? wr _ h)).trans h
          have hk0' := hA _ _ hk0; have hk1' := hA _ _ hk1; have hv0' := hA _ _ hv0; have hv1' := hA _ _ hv1
          have hg0 := (blk_cell (blk_new wr (.cells #[.int .i64 s, .int .i64 a] 84)) 0).trans (show _ = some (Value.int .i64 s) from rfl); have hg1 := (blk_cell (blk_new wr (.cells #[.int .i64 s, .int .i64 a] 84)) 1).trans (show _ = some (Value.int .i64 a) from rfl)
          have hn0 := (blk_cell (blk_alloc (blk_new wr (.cells #[.int .i64 s, .int .i64 a] 84)) (.cells #[.int .i64 s', .int .i64 a'] 84)) 0).trans (show _ = some (Value.int .i64 s) from rfl); have hn1 := (blk_cell (blk_alloc (blk_new wr (.cells #[.int .i64 s, .int .i64 a] 84)) (.cells #[.int .i64 s', .int .i64 a'] 84)) 1).trans (show _ = some (Value.int .i64 a) from rfl)
          have hm0 := (blk_cell (blk_new (wr.alloc (.cells #[.int .i64 s, .int .i64 a] 84)) (.cells #[.int .i64 s', .int .i64 a'] 84)) 0).trans (show _ = some (Value.int .i64 s') from rfl); have hm1 := (blk_cell (blk_new (wr.alloc (.cells #[.int .i64 s, .int .i64 a] 84)) (.cells #[.int .i64 s', .int .i64 a'] 84)) 1).trans (show _ = some (Value.int .i64 a') from rfl)
          clear hA
          (go_wp2; repeat (go_step3; try (go_wp2)))
          repeat (go_quiet (fail); try (go_wp2; repeat (go_step3; try (go_wp2))))
          rw [Exit.noGoto_ret]
          go_ret
          exact ⟨by rw [HF.out]; rfl, by repeat (first | (with_reducible first | exact HB.out | apply below_alloc | apply pw_below_drewN | apply below_drew1 | refine below_set ?_ HSZ.out) | exact HB.out)⟩
        have f8 : decide (agR0 l0_0 (j - 1) ≤ agR0 l0_0 j) = true := decide_eq_true c6
        have HN := Lib.hid (show stepR l0_0 j = true by rw [hsj, f1, f2, f3, decide_eq_false hj0, f6, decide_eq_true c5, f8]; rfl)
        clear hsj hF c1 c2 c3 c4 c5 c6
        generalize szR l0_0 j = s at *
        generalize agR0 l0_0 j = a at *
        generalize szR l0_0 (j - 1) = s' at *
        generalize agR0 l0_0 (j - 1) = a' at *
        have hA := fun (x : Addr) (u : Value) (h : wr.cell? x = some u) => ((below_alloc (Below.refl wr.heap.size wr) (.cells #[.int .i64 s, .int .i64 a] 84)).cell (World.block_lt_of_cell? wr _ h)).trans h
        have hk0' := hA _ _ hk0; have hk1' := hA _ _ hk1; have hv0' := hA _ _ hv0; have hv1' := hA _ _ hv1
        have hg0 := (blk_cell (blk_new wr (.cells #[.int .i64 s, .int .i64 a] 84)) 0).trans (show _ = some (Value.int .i64 s) from rfl); have hg1 := (blk_cell (blk_new wr (.cells #[.int .i64 s, .int .i64 a] 84)) 1).trans (show _ = some (Value.int .i64 a) from rfl)
        have hn0 := (blk_cell (blk_alloc (blk_new wr (.cells #[.int .i64 s, .int .i64 a] 84)) (.cells #[.int .i64 s', .int .i64 a'] 84)) 0).trans (show _ = some (Value.int .i64 s) from rfl); have hn1 := (blk_cell (blk_alloc (blk_new wr (.cells #[.int .i64 s, .int .i64 a] 84)) (.cells #[.int .i64 s', .int .i64 a'] 84)) 1).trans (show _ = some (Value.int .i64 a) from rfl)
        have hm0 := (blk_cell (blk_new (wr.alloc (.cells #[.int .i64 s, .int .i64 a] 84)) (.cells #[.int .i64 s', .int .i64 a'] 84)) 0).trans (show _ = some (Value.int .i64 s') from rfl); have hm1 := (blk_cell (blk_new (wr.alloc (.cells #[.int .i64 s, .int .i64 a] 84)) (.cells #[.int .i64 s', .int .i64 a'] 84)) 1).trans (show _ = some (Value.int .i64 a') from rfl)
        clear hA
        (go_wp2; repeat (go_step3; try (go_wp2)))
        exact ⟨⟨j + 1, by go_num, rfl, hlt, by repeat (first | (with_reducible first | exact HB.out | apply below_alloc | apply pw_below_drewN | apply below_drew1 | refine below_set ?_ HSZ.out) | exact HB.out), blk_alloc (blk_alloc HXX.out _) _, fun q hq => by
          rcases Nat.lt_or_ge q j with h | h
          · exact HS.out q h
          · obtain rfl : q = j := by omega
            exact HN.out⟩, by simp [intOf]; omega⟩
      · obtain rfl : j = l0_0.length := by omega
        have q1 : decide ((l0_0.length : Int) < (l0_0.length : Int)) = false := decide_eq_false (by omega)
        have q6 : IntKind.i64.wrap ((l0_0.length : Int) - 1) = ((l0_0.length - 1 : Nat) : Int) := by
          have := HG.out.2.1
          rw [IntKind.wrap_i64]; omega
        have q7 : (0 ≤ ((l0_0.length - 1 : Nat) : Int)) = True := eq_true (by omega)
        have q8 : (((l0_0.length - 1 : Nat) : Int) < (l0_0.length : Int)) = True := eq_true (by omega)
        obtain ⟨ad3, ha3, hv0, hv1⟩ := at_T84 HG.out ((l0_0.length - 1 : Nat) : Int) (by omega) (by omega)
        obtain rfl : ad = ad3 := by injection ha3
        simp only [Int.toNat_natCast] at hv0 hv1
        replace hv0 := (HB.out.cell (World.block_lt_of_cell? w _ hv0)).trans hv0
        replace hv1 := (HB.out.cell (World.block_lt_of_cell? w _ hv1)).trans hv1
        rw [show (rd_T84 l0_0 ((l0_0.length - 1 : Nat) : Int)).f1 = agR0 l0_0 (l0_0.length - 1) from rfl] at hv1
        have HF : Hid (rightR l0_0 a0_1 = (decide (agR0 l0_0 (l0_0.length - 1) ≤ a0_1) && decide (a0_1 ≤ 2199023255552))) := Lib.hid (by
          unfold rightR
          rw [decide_eq_true (show 1 ≤ l0_0.length by omega), decide_eq_true (show l0_0.length ≤ 4 by omega), decide_eq_true h0, List.all_eq_true.2 (fun q hq => HS.out q (List.mem_range.1 hq))]
          rfl)
        have HSZ := Lib.hid (below_size HB.out)
        clear hv0
        by_cases c1 : agR0 l0_0 (l0_0.length - 1) ≤ a0_1
        case neg =>
          have f1 : decide (agR0 l0_0 (l0_0.length - 1) ≤ a0_1) = false := decide_eq_false c1
          rw [f1, Bool.false_and] at HF
          generalize agR0 l0_0 (l0_0.length - 1) = a at *
          (go_wp2; repeat (go_step3; try (go_wp2)))
          repeat (go_quiet (fail); try (go_wp2; repeat (go_step3; try (go_wp2))))
          rw [Exit.noGoto_ret]
          go_ret
          exact ⟨by rw [HF.out]; rfl, by repeat (first | (with_reducible first | exact HB.out | apply below_alloc | apply pw_below_drewN | apply below_drew1 | refine below_set ?_ HSZ.out) | exact HB.out)⟩
        case pos =>
          have f1 : decide (agR0 l0_0 (l0_0.length - 1) ≤ a0_1) = true := decide_eq_true c1
          rw [f1, Bool.true_and] at HF
          generalize agR0 l0_0 (l0_0.length - 1) = a at *
          (go_wp2; repeat (go_step3; try (go_wp2)))
          repeat (go_quiet (fail); try (go_wp2; repeat (go_step3; try (go_wp2))))
          rw [Exit.noGoto_ret]
          go_ret
          exact ⟨by rw [HF.out]; rfl, by repeat (first | (with_reducible first | exact HB.out | apply below_alloc | apply pw_below_drewN | apply below_drew1 | refine below_set ?_ HSZ.out) | exact HB.out)⟩
end Go.Proofs.Ytdopbhbbpgfliaa.PAsk
end
