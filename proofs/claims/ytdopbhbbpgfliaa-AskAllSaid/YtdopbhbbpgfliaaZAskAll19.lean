import Derived.Test.YtdopbhbbpgfliaaZAskAll10
import Derived.Deep.MidRow
import Derived.Orders
import Derived.RegionTactic
section
namespace Go.Proofs.Ytdopbhbbpgfliaa.PAsk
open Go.RowKit Go.Proofs.YtdopbhbbpgfliaaW.PrintWords Go.Proofs.YtdopbhbbpgfliaaW.PrintLast Go.Proofs.YtdopbhbbpgfliaaW.PrintMore
set_option linter.unusedVariables false
set_option linter.unusedSimpArgs false
set_option maxHeartbeats 8000000
set_option maxRecDepth 100000
def digs (a b : Int) (j : Nat) : List Int := (List.range 16).map fun q => if q % 8 < j then (if q < 8 then a / 256 ^ q % 256 else b / 256 ^ (q - 8) % 256) else 0
def digC (l : List Int) : Array Value := (l.map (Value.int .i64)).toArray
theorem digs_len (a b : Int) (j : Nat) : (digs a b j).length = 16 := by simp [digs]
theorem digs_zero (a b : Int) : digC (digs a b 0) = #[.int .i64 0, .int .i64 0, .int .i64 0, .int .i64 0, .int .i64 0, .int .i64 0, .int .i64 0, .int .i64 0, .int .i64 0, .int .i64 0, .int .i64 0, .int .i64 0, .int .i64 0, .int .i64 0, .int .i64 0, .int .i64 0] := rfl
theorem digs_step (a b : Int) {j : Nat} (hj : j < 8) : digC (digs a b (j + 1)) = ((digC (digs a b j)).setIfInBounds j (.int .i64 (a / 256 ^ j % 256))).setIfInBounds (8 + j) (.int .i64 (b / 256 ^ j % 256)) := by
  unfold digC digs
  simp only [List.map_map, List.setIfInBounds_toArray]
  congr 1
  apply List.ext_getElem
  · simp
  · intro q h1 h2
    have hq : q < 16 := by simpa using h1
    simp only [List.getElem_map, List.getElem_range, Function.comp_apply, List.getElem_set]
    by_cases e1 : 8 + j = q
    · subst e1
      rw [if_pos (by omega), if_neg (by omega), if_pos rfl, show 8 + j - 8 = j from by omega]
    · rw [if_neg e1]
      by_cases e2 : j = q
      · subst e2
        rw [if_pos (by omega), if_pos hj, if_pos rfl]
      · rw [if_neg e2]
        by_cases e3 : q % 8 < j
        · rw [if_pos (by omega), if_pos e3]
        · rw [if_neg (by omega), if_neg e3]
theorem quo_bd {a : Int} (j : Nat) (h : inU a) : 0 ≤ a / 256 ^ j ∧ a / 256 ^ j < 18446744073709551616 := by
  have hp : (0 : Int) < 256 ^ j := Int.pow_pos (by decide)
  exact ⟨Int.ediv_nonneg h.1 (by omega), Int.lt_of_le_of_lt (Int.ediv_le_self _ h.1) h.2⟩
theorem quo_step (a : Int) (j : Nat) : a / 256 ^ (j + 1) = a / 256 ^ j / 256 := by
  rw [Int.pow_succ, Int.ediv_ediv_of_nonneg (Int.le_of_lt (Int.pow_pos (by decide)))]
theorem dig_cell {wr : World} {g : Nat} {a b : Int} {m : Nat} (h : wr.heap[g]? = some (.cells (digC (digs a b m)) 145 (0, 0))) {j : Nat} (hj : j < 16) : ∃ u, wr.cell? ⟨g, j, none⟩ = some (.int .i64 u) :=
  ⟨(digs a b m)[j]'(by rw [digs_len]; exact hj), (blk_cell h j).trans (by unfold digC; simp [digs_len, hj])⟩
def DigRel (w : World) (a b : Int) (j : Nat) (wr : World) : Prop :=
  Below w.heap.size w wr ∧ wr.heap[w.heap.size + 1]? = some (.cells (digC (digs 0 0 0)) 145 (0, 0)) ∧ wr.heap[w.heap.size + 2]? = some (.cells (digC (digs a b j)) 145 (0, 0))
theorem digits_calls (hi lo : Int) (hlo : inU lo) (w : World) :
    Calls Try.prog 95 #[.agg #[.int .i64 hi, .int .u64 lo]] w fun e w' => e = .returned (.agg (digC (digs lo (IntKind.u64.wrap hi) 8))) ∧ Below w.heap.size w w' := by
  have hh : inU (IntKind.u64.wrap hi) := by rw [u64_wrap]; exact mod_mW _
  have HL := Lib.hid hlo; have HH := Lib.hid hh; clear hlo hh
  go_enter Try.func95, Try.ntmps95
  go_wp2
  go_quiet (fail)
  go_wp2
  go_loopw [4, 5, 6] (fun v4 v5 v wr => ∃ j : Nat, v = .int .i64 j ∧ j ≤ 8 ∧ v4 = .int .u64 (lo / 256 ^ j) ∧ v5 = .int .u64 (IntKind.u64.wrap hi / 256 ^ j) ∧ DigRel w lo (IntKind.u64.wrap hi) j wr) (fun _ _ v _ => 8 - (intOf v).toNat)
  case atStart => exact ⟨0, rfl, Nat.zero_le _, by simp, by simp, pw_below_drewN (below_alloc (below_alloc (below_alloc (Below.refl _ _) _) _) _) _, by
    have := blk_drewN (blk_alloc (blk_new (w.alloc (.cells #[.int .i64 hi, .int .u64 lo] 40)) (.cells (digC (digs 0 0 0)) 145)) (.cells (digC (digs 0 0 0)) 145)) nq
    simpa [digs_zero] using this, by
    have := blk_drewN (blk_new ((w.alloc (.cells #[.int .i64 hi, .int .u64 lo] 40)).alloc (.cells (digC (digs 0 0 0)) 145)) (.cells (digC (digs 0 0 0)) 145)) nq
    simpa [digs_zero] using this⟩
  case round =>
    obtain ⟨j, rfl, hj, rfl, rfl, hB, h1, h2⟩ := hrel
    have HB := Lib.hid hB; have H1 := Lib.hid h1; have H2 := Lib.hid h2; clear hB h1 h2
    have bx := quo_bd j HL.out; have by_ := quo_bd j HH.out
    by_cases hlt : j < 8
    · have e1 : decide ((j : Int) < 8) = true := decide_eq_true (by omega)
      obtain ⟨u1, hu1⟩ := dig_cell H2.out (show j < 16 by omega)
      obtain ⟨u2, hu2⟩ := dig_cell H2.out (show 8 + j < 16 by omega)
      have hf1 := blk_frozen H2.out j
      have hf2 := blk_frozen H2.out (8 + j)
      have HX := Lib.hid (digs_step lo (IntKind.u64.wrap hi) hlt)
      have ha := quo_step lo j; have hb := quo_step (IntKind.u64.wrap hi) j
      have HA := Lib.hid ha; have HBB := Lib.hid hb; clear ha hb
      have HV1 := Lib.hid (rfl : lo / 256 ^ j % 256 = lo / 256 ^ j % 256); have HV2 := Lib.hid (rfl : IntKind.u64.wrap hi / 256 ^ j % 256 = IntKind.u64.wrap hi / 256 ^ j % 256)
      generalize lo / 256 ^ j = x at *
      generalize IntKind.u64.wrap hi / 256 ^ j = y at *
      go_wp2
      refine ⟨⟨j + 1, by go_num, hlt, by rw [HA.out], by rw [HBB.out], below_set (below_set HB.out (by omega)) (by omega), blk_far (blk_far H1.out (by simp) _) (by simp) _, ?_⟩, by simp [intOf]; omega⟩
      rw [HX.out]
      exact blk_put (blk_put H2.out j _ (by rw [← HV1.out])) (8 + j) _ (by rw [← HV2.out])
    · obtain rfl : j = 8 := by omega
      have e1 : decide (((8 : Nat) : Int) < 8) = false := rfl
      clear bx by_
      obtain ⟨d0, d1, d2, d3, d4, d5, d6, d7, d8, d9, d10, d11, d12, d13, d14, d15, hD⟩ : ∃ d0 d1 d2 d3 d4 d5 d6 d7 d8 d9 d10 d11 d12 d13 d14 d15, digs lo (IntKind.u64.wrap hi) 8 = [d0, d1, d2, d3, d4, d5, d6, d7, d8, d9, d10, d11, d12, d13, d14, d15] := ⟨_, _, _, _, _, _, _, _, _, _, _, _, _, _, _, _, rfl⟩
      have HD := Lib.hid hD; clear hD
      have hx0 := (blk_cell H2.out 0).trans (show _ = some (Value.int .i64 d0) from by rw [HD.out]; rfl)
      have hx1 := (blk_cell H2.out 1).trans (show _ = some (Value.int .i64 d1) from by rw [HD.out]; rfl)
      have hx2 := (blk_cell H2.out 2).trans (show _ = some (Value.int .i64 d2) from by rw [HD.out]; rfl)
      have hx3 := (blk_cell H2.out 3).trans (show _ = some (Value.int .i64 d3) from by rw [HD.out]; rfl)
      have hx4 := (blk_cell H2.out 4).trans (show _ = some (Value.int .i64 d4) from by rw [HD.out]; rfl)
      have hx5 := (blk_cell H2.out 5).trans (show _ = some (Value.int .i64 d5) from by rw [HD.out]; rfl)
      have hx6 := (blk_cell H2.out 6).trans (show _ = some (Value.int .i64 d6) from by rw [HD.out]; rfl)
      have hx7 := (blk_cell H2.out 7).trans (show _ = some (Value.int .i64 d7) from by rw [HD.out]; rfl)
      have hx8 := (blk_cell H2.out 8).trans (show _ = some (Value.int .i64 d8) from by rw [HD.out]; rfl)
      have hx9 := (blk_cell H2.out 9).trans (show _ = some (Value.int .i64 d9) from by rw [HD.out]; rfl)
      have hx10 := (blk_cell H2.out 10).trans (show _ = some (Value.int .i64 d10) from by rw [HD.out]; rfl)
      have hx11 := (blk_cell H2.out 11).trans (show _ = some (Value.int .i64 d11) from by rw [HD.out]; rfl)
      have hx12 := (blk_cell H2.out 12).trans (show _ = some (Value.int .i64 d12) from by rw [HD.out]; rfl)
      have hx13 := (blk_cell H2.out 13).trans (show _ = some (Value.int .i64 d13) from by rw [HD.out]; rfl)
      have hx14 := (blk_cell H2.out 14).trans (show _ = some (Value.int .i64 d14) from by rw [HD.out]; rfl)
      have hx15 := (blk_cell H2.out 15).trans (show _ = some (Value.int .i64 d15) from by rw [HD.out]; rfl)
      have hz0 := (blk_cell H1.out 0).trans (show _ = some (Value.int .i64 0) from rfl); have hf0 := blk_frozen H1.out 0
      have hz1 := (blk_cell H1.out 1).trans (show _ = some (Value.int .i64 0) from rfl); have hf1 := blk_frozen H1.out 1
      have hz2 := (blk_cell H1.out 2).trans (show _ = some (Value.int .i64 0) from rfl); have hf2 := blk_frozen H1.out 2
      have hz3 := (blk_cell H1.out 3).trans (show _ = some (Value.int .i64 0) from rfl); have hf3 := blk_frozen H1.out 3
      have hz4 := (blk_cell H1.out 4).trans (show _ = some (Value.int .i64 0) from rfl); have hf4 := blk_frozen H1.out 4
      have hz5 := (blk_cell H1.out 5).trans (show _ = some (Value.int .i64 0) from rfl); have hf5 := blk_frozen H1.out 5
      have hz6 := (blk_cell H1.out 6).trans (show _ = some (Value.int .i64 0) from rfl); have hf6 := blk_frozen H1.out 6
      have hz7 := (blk_cell H1.out 7).trans (show _ = some (Value.int .i64 0) from rfl); have hf7 := blk_frozen H1.out 7
      have hz8 := (blk_cell H1.out 8).trans (show _ = some (Value.int .i64 0) from rfl); have hf8 := blk_frozen H1.out 8
      have hz9 := (blk_cell H1.out 9).trans (show _ = some (Value.int .i64 0) from rfl); have hf9 := blk_frozen H1.out 9
      have hz10 := (blk_cell H1.out 10).trans (show _ = some (Value.int .i64 0) from rfl); have hf10 := blk_frozen H1.out 10
      have hz11 := (blk_cell H1.out 11).trans (show _ = some (Value.int .i64 0) from rfl); have hf11 := blk_frozen H1.out 11
      have hz12 := (blk_cell H1.out 12).trans (show _ = some (Value.int .i64 0) from rfl); have hf12 := blk_frozen H1.out 12
      have hz13 := (blk_cell H1.out 13).trans (show _ = some (Value.int .i64 0) from rfl); have hf13 := blk_frozen H1.out 13
      have hz14 := (blk_cell H1.out 14).trans (show _ = some (Value.int .i64 0) from rfl); have hf14 := blk_frozen H1.out 14
      have hz15 := (blk_cell H1.out 15).trans (show _ = some (Value.int .i64 0) from rfl); have hf15 := blk_frozen H1.out 15
      generalize lo / 256 ^ 8 = x at *
      generalize IntKind.u64.wrap hi / 256 ^ 8 = y at *
      go_wp2
      refine bodyPost_ret (v := .agg #[.int .i64 d0, .int .i64 d1, .int .i64 d2, .int .i64 d3, .int .i64 d4, .int .i64 d5, .int .i64 d6, .int .i64 d7, .int .i64 d8, .int .i64 d9, .int .i64 d10, .int .i64 d11, .int .i64 d12, .int .i64 d13, .int .i64 d14, .int .i64 d15]) (by simp [results, Try.results95, go_sem, hz0, hz1, hz2, hz3, hz4, hz5, hz6, hz7, hz8, hz9, hz10, hz11, hz12, hz13, hz14, hz15]) rfl ?_
      rw [HD.out]
      exact ⟨rfl, by (repeat (with_reducible refine below_set ?_ (by omega))); exact HB.out⟩
def valB : List Int → Int
  | [] => 0
  | d :: r => d + 256 * valB r
def isD (l : List Int) : Prop := ∀ x ∈ l, 0 ≤ x ∧ x < 256
theorem valB_bd : ∀ {l : List Int}, isD l → 0 ≤ valB l ∧ valB l < 256 ^ l.length
  | [], _ => by simp [valB]
  | d :: r, h => by
    have h1 := valB_bd (l := r) (fun x hx => h x (List.mem_cons_of_mem _ hx))
    have h2 := h d List.mem_cons_self
    simp only [valB, List.length_cons, Int.pow_succ]
    omega
def FromRel (w : World) (l : List Int) (wr : World) : Prop :=
  Below w.heap.size w wr ∧ wr.heap[w.heap.size]? = some (.cells (digC l) 145 (0, 0)) ∧ wr.heap[w.heap.size + 1]? = some (.cells #[.int .i64 0, .int .u64 0] 40 (0, 0))
theorem cell_dig {wr : World} {g : Nat} {l : List Int} (h : wr.heap[g]? = some (.cells (digC l) 145 (0, 0))) {j : Nat} (hj : j < l.length) : wr.cell? ⟨g, j, none⟩ = some (.int .i64 l[j]) :=
  (blk_cell h j).trans (by unfold digC; simp [hj])
theorem part_step {l : List Int} {i : Nat} (hi : i < l.length) : valB (l.drop i) = l[i] + 256 * valB (l.drop (i + 1)) := by
  rw [List.drop_eq_getElem_cons hi]; rfl
theorem from_calls (l : List Int) (hl : l.length = 16) (hd : isD l) (w : World) :
    Calls Try.prog 96 #[.agg (digC l)] w fun e w' => e = .returned (.agg #[.int .i64 (wrap64 (valB (l.drop 8))), .int .u64 (valB (l.take 8))]) ∧ Below w.heap.size w w' := by
  have HD := Lib.hid hd; have HN := Lib.hid hl; clear hd hl
  go_enter Try.func96, Try.ntmps96
  go_wp2
  go_loopw [3, 4, 5] (fun v3 v4 v wr => ∃ m : Nat, v = .int .i64 ((m : Int) - 1) ∧ m ≤ 8 ∧ v3 = .int .u64 (valB ((l.take 8).drop m)) ∧ v4 = .int .u64 (valB ((l.drop 8).drop m)) ∧ FromRel w l wr) (fun _ _ v _ => (intOf v + 1).toNat)
  case atStart => exact ⟨8, rfl, Nat.le_refl _, by rw [List.drop_eq_nil_of_le (by rw [List.length_take]; omega)]; rfl, by rw [List.drop_eq_nil_of_le (by rw [List.length_drop, HN.out]; omega)]; rfl, below_alloc (below_alloc (Below.refl _ _) _) _, blk_alloc (blk_new _ _) _, by
    have := blk_new (w.alloc (.cells (digC l) 145)) (.cells #[.int .i64 0, .int .u64 0] 40)
    simpa using this⟩
  case round =>
    obtain ⟨m, rfl, hm, rfl, rfl, hB, h1, h2⟩ := hrel
    have HB := Lib.hid hB; have H1 := Lib.hid h1; have H2 := Lib.hid h2; clear hB h1 h2
    rcases m with _ | i
    · have e1 : decide ((((0 : Nat) : Int) - 1) ≥ 0) = false := rfl
      have hz0 := (blk_cell H2.out 0).trans (show _ = some (Value.int .i64 0) from rfl)
      have hz1 := (blk_cell H2.out 1).trans (show _ = some (Value.int .u64 0) from rfl)
      have hf0 := blk_frozen H2.out 0
      have hf1 := blk_frozen H2.out 1
      rw [show ((0 : Nat) : Int) - 1 = -1 from rfl]
      rw [List.drop_zero, List.drop_zero]
      obtain ⟨x, hx⟩ : ∃ x, valB (l.take 8) = x := ⟨_, rfl⟩
      obtain ⟨y, hy⟩ : ∃ y, valB (l.drop 8) = y := ⟨_, rfl⟩
      rw [hx, hy]
      have HX := Lib.hid hx; have HY := Lib.hid hy
      clear hx hy
      go_wp2
      refine bodyPost_ret (v := .agg #[.int .i64 (wrap64 y), .int .u64 x]) (by simp [results, Try.results96, go_sem, hz0, hz1]) rfl ?_
      rw [HX.out, HY.out]
      exact ⟨rfl, below_set (below_set HB.out (by omega)) (by omega)⟩
    · have e1 : decide ((i : Int) ≥ 0) = true := decide_eq_true (by omega)
      rw [show ((i + 1 : Nat) : Int) - 1 = (i : Int) from by omega]
      have hl := HN.out
      have hx := cell_dig H1.out (show i < l.length by omega)
      have hy := cell_dig H1.out (show 8 + i < l.length by omega)
      have bx := HD.out l[i] (List.getElem_mem _)
      have by_ := HD.out l[8 + i] (List.getElem_mem _)
      have px : valB ((l.take 8).drop i) = l[i] + 256 * valB ((l.take 8).drop (i + 1)) := by
        rw [part_step (by rw [List.length_take]; omega), List.getElem_take]
      have py : valB ((l.drop 8).drop i) = l[8 + i] + 256 * valB ((l.drop 8).drop (i + 1)) := by
        rw [part_step (by rw [List.length_drop]; omega), List.getElem_drop]
      have qx := valB_bd (l := (l.take 8).drop (i + 1)) (fun x hx => HD.out x (List.mem_of_mem_take (List.mem_of_mem_drop hx)))
      have qy := valB_bd (l := (l.drop 8).drop (i + 1)) (fun x hx => HD.out x (List.mem_of_mem_drop (List.mem_of_mem_drop hx)))
      rw [List.length_drop, List.length_take] at qx
      rw [List.length_drop, List.length_drop] at qy
      have hp : (256 : Int) ^ (min 8 l.length - (i + 1)) ≤ 256 ^ 7 := by
        have : (256 : Nat) ^ (min 8 l.length - (i + 1)) ≤ 256 ^ 7 := Nat.pow_le_pow_right (by decide) (by omega)
        exact_mod_cast this
      have hp2 : (256 : Int) ^ (l.length - 8 - (i + 1)) ≤ 256 ^ 7 := by
        have : (256 : Nat) ^ (l.length - 8 - (i + 1)) ≤ 256 ^ 7 := Nat.pow_le_pow_right (by decide) (by omega)
        exact_mod_cast this
      have bq : valB ((l.take 8).drop (i + 1)) < 72057594037927936 := by have : (256 : Int) ^ 7 = 72057594037927936 := by decide
                                                                         omega
      have bq2 : valB ((l.drop 8).drop (i + 1)) < 72057594037927936 := by have : (256 : Int) ^ 7 = 72057594037927936 := by decide
                                                                          omega
      have PX := Lib.hid px; have PY := Lib.hid py
      have q0 := qx.1; have q1 := qy.1
      clear px py hp hp2 qx qy
      generalize valB ((l.take 8).drop (i + 1)) = x at *
      generalize valB ((l.drop 8).drop (i + 1)) = y at *
      generalize l[i] = dx at *
      generalize l[8 + i] = dy at *
      go_wp2
      go_quiet (fail)
      go_wp2
      exact ⟨⟨i, rfl, by omega, by rw [PX.out, Int.add_comm], by rw [PY.out, Int.add_comm], pw_below_drewN HB.out _, blk_drewN H1.out _, blk_drewN H2.out _⟩, by simp [intOf]⟩
def setFrom (cs : Array Value) : Nat → List Value → Array Value
  | _, [] => cs
  | o, v :: r => setFrom (cs.setIfInBounds o v) (o + 1) r
theorem setFrom_mid : ∀ (vs pre old : List Value), old.length = vs.length → setFrom (pre ++ old).toArray pre.length vs = (pre ++ vs).toArray
  | [], pre, old, h => by obtain rfl := List.length_eq_zero_iff.1 h; rfl
  | v :: r, pre, [], h => by cases h
  | v :: r, pre, x :: old, h => by
    have e : (pre ++ x :: old).toArray.setIfInBounds pre.length v = ((pre ++ [v]) ++ old).toArray := by simp [List.setIfInBounds_toArray]
    have := setFrom_mid r (pre ++ [v]) old (by simpa using h)
    simp only [setFrom]
    rw [e, show pre.length + 1 = (pre ++ [v]).length from by simp, this]
    simp
theorem blk_cells {t : TypeId} {b : Nat} : ∀ (vs : List Value) (o : Nat) {w : World} {cs : Array Value}, w.heap[b]? = some (.cells cs t (0, 0)) → (w.setCells b o vs).heap[b]? = some (.cells (setFrom cs o vs) t (0, 0))
  | [], _, _, _, h => h
  | v :: r, o, _, _, h => blk_cells r (o + 1) (blk_set h o v)
theorem blk_cells_far {t : TypeId} {b g : Nat} (hne : g ≠ b) : ∀ (vs : List Value) (o : Nat) {w : World} {cs : Array Value}, w.heap[g]? = some (.cells cs t (0, 0)) → (w.setCells b o vs).heap[g]? = some (.cells cs t (0, 0))
  | [], _, _, _, h => h
  | v :: r, o, _, _, h => blk_cells_far hne r (o + 1) (blk_far h hne v)
theorem below_cells {b : Nat} {w : World} (hb : w.heap.size ≤ b) : ∀ (vs : List Value) (o : Nat) {W : World}, Below w.heap.size w W → Below w.heap.size w (W.setCells b o vs)
  | [], _, _, h => h
  | _ :: r, o, _, h => below_cells hb r (o + 1) (below_set h hb)
theorem left_lt : ∀ (l : List Bool) (i : Nat), l[i]? = some false → ((l.set i true).filter (!·)).length < (l.filter (!·)).length
  | [], _, h => by simp at h
  | b :: l, 0, h => by
    obtain rfl : b = false := by simpa using h
    simp
  | b :: l, i + 1, h => by
    have := left_lt l i (by simpa using h)
    cases b <;> simp [List.set_cons_succ] <;> omega
theorem wpAny_inv {P : Program} {md : Region.Mode} {ops : Array Oper} {Q : Exit → Act → World → Prop} (Inv : Array Bool → Act → World → Prop)
    (hs : ∀ listed a w i, Inv listed a w → i ∈ Region.ready md ops listed → wpOp P ops Q i (Inv (listed.setIfInBounds i true)) a w)
    (hd : ∀ listed a w, Inv listed a w → Region.ready md ops listed = [] → Q .normal a w) :
    ∀ (fuel : Nat) (listed : Array Bool) (a : Act) (w : World), (listed.toList.filter (!·)).length ≤ fuel → listed.size = ops.size → Inv listed a w → wpAny P md ops Q fuel listed a w
  | 0, listed, a, w, hf, hz, h => by
    have hr : Region.ready md ops listed = [] := by
      rw [List.eq_nil_iff_forall_not_mem]
      intro i hi
      obtain ⟨h1, o, ho, _⟩ := mem_ready.1 hi
      have hlt : i < listed.size := by rw [hz]; exact (Array.getElem?_eq_some_iff.1 ho).1
      have : listed.toList[i]? = some false := by
        rw [Array.getElem?_toList, Array.getElem?_eq_getElem hlt]
        rw [Array.getD_eq_getD_getElem?, Array.getElem?_eq_getElem hlt] at h1
        simpa using h1
      have := left_lt _ _ this
      omega
    exact ⟨hr, hd _ _ _ h hr⟩
  | fuel + 1, listed, a, w, hf, hz, h => by
    refine ⟨hd _ _ _ h, fun i hi => wpOp_mono (fun a' w' h' => wpAny_inv Inv hs hd fuel _ a' w' ?_ (by simpa using hz) h') (hs _ _ _ _ h hi)⟩
    obtain ⟨h1, o, ho, _⟩ := mem_ready.1 hi
    have hlt : i < listed.size := by rw [hz]; exact (Array.getElem?_eq_some_iff.1 ho).1
    have : listed.toList[i]? = some false := by
      rw [Array.getElem?_toList, Array.getElem?_eq_getElem hlt]
      rw [Array.getD_eq_getD_getElem?, Array.getElem?_eq_getElem hlt] at h1
      simpa using h1
    have := left_lt _ _ this
    rw [Array.toList_setIfInBounds]
    omega
def addL (x y : List Int) : Nat → List Int × Int
  | 0 => (x, 0)
  | j + 1 => ((addL x y j).1.set j (((addL x y j).1.getD j 0 + y.getD j 0 + (addL x y j).2) % 256), ((addL x y j).1.getD j 0 + y.getD j 0 + (addL x y j).2) / 256)
theorem getD_at {l : List Int} {j : Nat} (h : j < l.length) : l.getD j 0 = l[j] := by rw [List.getD_eq_getElem?_getD, List.getElem?_eq_getElem h]; rfl
theorem valB_take : ∀ (j : Nat) (l : List Int), j < l.length → valB (l.take (j + 1)) = valB (l.take j) + l.getD j 0 * 256 ^ j
  | _, [], h => by simp at h
  | 0, d :: r, _ => by simp [valB]
  | j + 1, d :: r, h => by
    have := valB_take j r (by simpa using h)
    simp only [List.take_succ_cons, valB, List.getD_cons_succ] at this ⊢
    rw [this, Int.mul_add, Int.pow_succ, Int.add_assoc]
    congr 2
    rw [Int.mul_comm 256, Int.mul_assoc]
theorem addL_ok {x y : List Int} (hx : isD x) (hy : isD y) (lx : x.length = 16) (ly : y.length = 16) : ∀ j, j ≤ 16 → (addL x y j).1.length = 16 ∧ isD (addL x y j).1 ∧ (0 ≤ (addL x y j).2 ∧ (addL x y j).2 ≤ 1) ∧ (∀ q, j ≤ q → (addL x y j).1.getD q 0 = x.getD q 0) ∧
    valB ((addL x y j).1.take j) + (addL x y j).2 * 256 ^ j = valB (x.take j) + valB (y.take j)
  | 0, _ => ⟨lx, hx, by simp [addL], fun _ _ => rfl, by simp [addL, valB]⟩
  | j + 1, hj => by
    obtain ⟨h1, h2, h3, h4, h5⟩ := addL_ok hx hy lx ly j (by omega)
    have b1 := h2 _ (List.getElem_mem (show j < (addL x y j).1.length by omega))
    have b2 := hy _ (List.getElem_mem (show j < y.length by omega))
    rw [← getD_at] at b1 b2
    have e := h4 j (Nat.le_refl _)
    have ex := valB_take j x (by omega)
    have ey := valB_take j y (by omega)
    have es := valB_take j (addL x y (j + 1)).1 (by simp only [addL, List.length_set]; omega)
    have et : (addL x y (j + 1)).1.take j = (addL x y j).1.take j := by simp only [addL]; rw [List.take_set_of_le (Nat.le_refl _)]
    have eg : (addL x y (j + 1)).1.getD j 0 = ((addL x y j).1.getD j 0 + y.getD j 0 + (addL x y j).2) % 256 := by
      simp only [addL]
      rw [getD_at (by rw [List.length_set]; omega), List.getElem_set_self]
    have ec : (addL x y (j + 1)).2 = ((addL x y j).1.getD j 0 + y.getD j 0 + (addL x y j).2) / 256 := rfl
    rw [et, eg] at es
    refine ⟨by simp only [addL, List.length_set]; exact h1, fun z hz => ?_, ?_, fun q hq => ?_, ?_⟩
    · simp only [addL] at hz
      rcases List.mem_or_eq_of_mem_set hz with hz | rfl
      · exact h2 z hz
      · omega
    · rw [ec]; omega
    · simp only [addL, List.getD_eq_getElem?_getD]
      rw [List.getElem?_set_ne (by omega), ← List.getD_eq_getElem?_getD, ← List.getD_eq_getElem?_getD]
      exact h4 q (by omega)
    · rw [es, ec, ex, ey]
      generalize (addL x y j).1.getD j 0 = u at *
      generalize y.getD j 0 = v at *
      generalize (addL x y j).2 = c at *
      rw [← e, Int.pow_succ]
      have hn := Int.emod_add_mul_ediv (u + v + c) 256
      generalize (u + v + c) % 256 = r at *
      generalize (u + v + c) / 256 = q at *
      have e3 : r * 256 ^ j + q * (256 ^ j * 256) = (u + v + c) * 256 ^ j := by
        rw [← hn, Int.add_mul]
        congr 1
        rw [Int.mul_comm (256 ^ j) 256, ← Int.mul_assoc, Int.mul_comm q 256]
      rw [Int.add_mul, Int.add_mul] at e3
      generalize u * 256 ^ j = uu at *
      generalize v * 256 ^ j = vv at *
      generalize c * 256 ^ j = cc at *
      generalize r * 256 ^ j = rr at *
      generalize q * (256 ^ j * 256) = qq at *
      omega
theorem valB_append : ∀ (a b : List Int), valB (a ++ b) = valB a + 256 ^ a.length * valB b
  | [], b => by simp [valB]
  | d :: a, b => by
    simp only [List.cons_append, valB, List.length_cons, valB_append a b, Int.mul_add, Int.pow_succ, Int.add_assoc]
    congr 2
    rw [← Int.mul_assoc, Int.mul_comm 256 (256 ^ a.length)]
def digL (a : Int) : Nat → List Int
  | 0 => []
  | n + 1 => a % 256 :: digL (a / 256) n
theorem digL_val : ∀ (n a : Nat), valB (digL (a : Int) n) = ((a % 256 ^ n : Nat) : Int)
  | 0, a => by simp [digL, valB, Nat.mod_one]
  | n + 1, a => by
    have h := digL_val n (a / 256)
    have e : ((a : Int) / 256) = ((a / 256 : Nat) : Int) := by omega
    simp only [digL, valB]
    rw [e, h, Nat.pow_succ, Nat.mul_comm (256 ^ n) 256, Nat.mod_mul]
    generalize a / 256 % 256 ^ n = z
    omega
theorem digL_map : ∀ (n : Nat) (a : Int), digL a n = (List.range n).map fun q => a / 256 ^ q % 256
  | 0, _ => rfl
  | n + 1, a => by
    rw [List.range_succ_eq_map, List.map_cons, List.map_map, digL, digL_map n]
    have e : a / 256 ^ 0 = a := by simp
    rw [e]
    congr 1
    apply List.map_congr_left
    intro q _
    simp only [Function.comp_apply, Nat.succ_eq_add_one]
    rw [Int.pow_succ, Int.mul_comm (256 ^ q) 256, Int.ediv_ediv_of_nonneg (by decide)]
theorem digs_eq (a b : Int) : digs a b 8 = digL a 8 ++ digL b 8 := by
  rw [digL_map, digL_map]
  rfl
theorem digs_val {a b : Int} (ha : inU a) (hb : inU b) : valB (digs a b 8) = a + 18446744073709551616 * b := by
  obtain ⟨x, rfl⟩ := Int.eq_ofNat_of_zero_le ha.1
  obtain ⟨y, rfl⟩ := Int.eq_ofNat_of_zero_le hb.1
  rw [digs_eq, valB_append, digL_val, digL_val]
  have e : (256 : Int) ^ 8 = 18446744073709551616 := by decide
  have e2 : 256 ^ 8 = 18446744073709551616 := by decide
  unfold inU mW at *
  rw [show (digL (x : Int) 8).length = 8 from rfl, e, e2]
  omega
theorem digs_isD (a b : Int) : isD (digs a b 8) := fun z hz => by
  unfold digs at hz
  obtain ⟨q, _, rfl⟩ := List.mem_map.1 hz
  split
  · split <;> omega
  · omega
theorem add_eq {D : List Int} {c h l k m : Int} (hD : D.length = 16) (dD : isD D) (h0 : 0 ≤ c) (h1 : c ≤ 1) (hl : inU l) (_hm : inU m)
    (hv : valB D + c * 256 ^ 16 = (l + 18446744073709551616 * IntKind.u64.wrap h) + (m + 18446744073709551616 * IntKind.u64.wrap k)) :
    wrap64 (valB (D.drop 8)) = (addW ⟨h, l⟩ ⟨k, m⟩).f0 ∧ valB (D.take 8) = (addW ⟨h, l⟩ ⟨k, m⟩).f1 := by
  have e := valB_append (D.take 8) (D.drop 8)
  rw [List.take_append_drop] at e
  have b1 := valB_bd (l := D.take 8) (fun x hx => dD x (List.mem_of_mem_take hx))
  have b2 := valB_bd (l := D.drop 8) (fun x hx => dD x (List.mem_of_mem_drop hx))
  rw [List.length_take, hD] at b1 e
  rw [List.length_drop, hD] at b2
  have p8 : (256 : Int) ^ 8 = 18446744073709551616 := by decide
  have p16 : (256 : Int) ^ 16 = 340282366920938463463374607431768211456 := by decide
  rw [show min 8 16 = 8 from rfl, p8] at b1 e
  rw [show 16 - 8 = 8 from rfl, p8] at b2
  have s2 : (sumW [⟨h, l⟩, ⟨k, m⟩]).2 = (l + m) % mW := by
    simp only [sumW, List.foldl_cons, List.foldl_nil, stW]
    unfold inU mW at *
    omega
  have s1 : (sumW [⟨h, l⟩, ⟨k, m⟩]).1 = (h + k + (l + m) / mW) % mW := by
    simp only [sumW, List.foldl_cons, List.foldl_nil, stW, u64_wrap]
    unfold inU mW at *
    omega
  unfold addW
  rw [s1, s2]
  rw [e, p16, u64_wrap, u64_wrap] at hv
  generalize valB (D.take 8) = P at *
  generalize valB (D.drop 8) = Q at *
  unfold inU mW at *
  simp only
  unfold wrap64
  rcases (show c = 0 ∨ c = 1 from by omega) with rfl | rfl
  · omega
  · omega
abbrev wC (h l : Int) : Array Value := #[.int .i64 h, .int .u64 l]
def SlotA (b : Nat) (L : Bool) (v : Value) (l : List Int) (wr : World) : Prop := L = true → ∃ g, v = .pointer (some ⟨g, 0, none⟩) ∧ b + 3 ≤ g ∧ wr.heap[g]? = some (.cells (digC l) 145 (0, 0))
def nulls : List Int := digs 0 0 0
structure AddW (w : World) (h l k m : Int) (wr : World) : Prop where
  below : Below w.heap.size w wr
  a : wr.heap[w.heap.size]? = some (.cells (wC h l) 40 (0, 0))
  b : wr.heap[w.heap.size + 1]? = some (.cells (wC k m) 40 (0, 0))
  r : wr.heap[w.heap.size + 1 + 1]? = some (.cells (wC 0 0) 40 (0, 0))
def addAct (w : World) (h l k m : Int) (v5 v6 v10 v11 v12 v13 : Value) : Act :=
  ⟨#[.agg (wC h l), .agg (wC k m), .pointer (some ⟨w.heap.size, 0, none⟩), .pointer (some ⟨w.heap.size + 1, 0, none⟩), .pointer (some ⟨w.heap.size + 1 + 1, 0, none⟩), v5, v6, undef, undef, undef, v10, v11, v12, v13, undef, undef, undef, undef, undef, undef, undef, undef, undef, undef, undef, undef, undef, undef, undef, undef, undef, undef, undef, undef, undef], []⟩
def AddInv (w : World) (h l k m : Int) (x y : List Int) (L : Array Bool) (a : Act) (wr : World) : Prop :=
  ∃ (b0 b1 b2 b3 b4 b5 b6 b7 : Bool) (v5 v6 v10 v11 v12 v13 : Value), L = #[b0, b1, b2, b3, b4, b5, b6, b7] ∧ a = addAct w h l k m v5 v6 v10 v11 v12 v13 ∧ AddW w h l k m wr ∧
    (b0 = true → v10 = .agg (wC h l)) ∧ (b1 = true → v11 = .agg (digC x)) ∧ (b2 = true → v12 = .agg (wC k m)) ∧ (b3 = true → v13 = .agg (digC y)) ∧
    SlotA w.heap.size b4 v5 (if b6 then x else nulls) wr ∧ SlotA w.heap.size b5 v6 (if b7 then y else nulls) wr ∧ (b4 = true → b5 = true → v5 ≠ v6) ∧ (b6 = true → b4 = true) ∧ (b7 = true → b5 = true)
theorem AddW.step {w : World} {h l k m : Int} {wr w1 : World} (H : AddW w h l k m wr) (hb : Below wr.heap.size wr w1) : AddW w h l k m w1 :=
  ⟨below_step H.below hb, blk_below H.a hb, blk_below H.b hb, blk_below H.r hb⟩
theorem SlotA.step {b : Nat} {L : Bool} {v : Value} {l : List Int} {wr w1 : World} (H : SlotA b L v l wr) (hb : Below wr.heap.size wr w1) : SlotA b L v l w1 := fun hL => by
  obtain ⟨g, e, h1, h2⟩ := H hL
  exact ⟨g, e, h1, blk_below h2 hb⟩
theorem alloc_below (wr : World) (o : Obj) : Below wr.heap.size wr (wr.alloc o) := (Below.refl _ _).alloc (Nat.le_refl _) o
theorem AddW.size {w : World} {h l k m : Int} {wr : World} (H : AddW w h l k m wr) : w.heap.size + 3 ≤ wr.heap.size := by have := blk_lt H.r; omega
theorem digC_size (l : List Int) : (digC l).size = l.length := by simp [digC]
theorem digC_one (l : List Int) : (digC l).all (·.oneCell') = true := by
  unfold digC
  refine all_oneCell_toArray (fun v hv => ?_)
  obtain ⟨x, _, rfl⟩ := List.mem_map.1 hv
  rfl
theorem blk_there {wr : World} {g : Nat} {l : List Int} (h : wr.heap[g]? = some (.cells (digC l) 145 (0, 0))) {n : Nat} (hn : n ≤ l.length) : wr.there g 0 n := fun j hj => by
  rw [Nat.zero_add]
  exact ⟨by rw [cell_dig h (show j < l.length by omega)]; rfl, blk_frozen h j⟩
theorem blk_store {wr : World} {g : Nat} {l x : List Int} (h : wr.heap[g]? = some (.cells (digC l) 145 (0, 0))) (hn : l.length = x.length) : (wr.setCells g 0 (digC x).toList).heap[g]? = some (.cells (digC x) 145 (0, 0)) := by
  have := blk_cells (digC x).toList 0 h
  have e := setFrom_mid (x.map (Value.int .i64)) [] (l.map (Value.int .i64)) (by simp [hn])
  rw [this]
  simp only [List.nil_append, List.length_nil] at e
  unfold digC at *
  rw [e]
def AddLoop (w : World) (x y : List Int) (g5 g6 : Nat) (j : Nat) (wr : World) : Prop :=
  Below w.heap.size w wr ∧ wr.heap[w.heap.size + 1 + 1]? = some (.cells (wC 0 0) 40 (0, 0)) ∧ wr.heap[g5]? = some (.cells (digC (addL x y j).1) 145 (0, 0)) ∧ wr.heap[g6]? = some (.cells (digC y) 145 (0, 0))
theorem digC_set (l : List Int) (j : Nat) (d : Int) : (digC l).setIfInBounds j (.int .i64 d) = digC (l.set j d) := by
  unfold digC
  rw [List.setIfInBounds_toArray, List.map_set]
theorem list16 {l : List Int} (h : l.length = 16) : ∃ d0 d1 d2 d3 d4 d5 d6 d7 d8 d9 d10 d11 d12 d13 d14 d15, l = [d0, d1, d2, d3, d4, d5, d6, d7, d8, d9, d10, d11, d12, d13, d14, d15] := by
  match l, h with
  | [d0, d1, d2, d3, d4, d5, d6, d7, d8, d9, d10, d11, d12, d13, d14, d15], _ => exact ⟨_, _, _, _, _, _, _, _, _, _, _, _, _, _, _, _, rfl⟩
theorem refadd_calls (h l k m : Int) (hl : inU l) (hm : inU m) (w : World) :
    Calls Try.prog 80 #[.agg (wC h l), .agg (wC k m)] w fun e w' => e = .returned (.agg (wC (addW ⟨h, l⟩ ⟨k, m⟩).f0 (addW ⟨h, l⟩ ⟨k, m⟩).f1)) ∧ Below w.heap.size w w' := by
  go_enter Try.func80, Try.ntmps80
  go_upto_region 1 with (fail)
  refine wp_region_any rfl ?_
  refine wpAny_inv (AddInv w h l k m (digs l (IntKind.u64.wrap h) 8) (digs m (IntKind.u64.wrap k) 8)) ?_ ?_ _ _ _ _ ?_ ?_ ?_
  · intro L a wr i hI hi
    obtain ⟨hun, o, ho, hall⟩ := mem_ready.1 hi
    obtain ⟨b0, b1, b2, b3, b4, b5, b6, b7, v5, v6, v10, v11, v12, v13, rfl, rfl, hW, e0, e1, e2, e3, s5, s6, hne, i6, i7⟩ := hI
    have hi8 : i < 8 := (Array.getElem?_eq_some_iff.1 ho).1
    have hsz := hW.size
    unfold addAct
    rcases i with _ | _ | _ | _ | _ | _ | _ | _ | i
    · have hx0 := (blk_cell hW.a 0).trans (show _ = some (Value.int .i64 h) from rfl)
      have hx1 := (blk_cell hW.a 1).trans (show _ = some (Value.int .u64 l) from rfl)
      clear hi ho hall hun e0
      refine wpOp_step rfl (fun K' hK => ?_)
      go_wp2
      exact ⟨true, b1, b2, b3, b4, b5, b6, b7, v5, v6, .agg (wC h l), v11, v12, v13, rfl, rfl, hW, fun _ => rfl, e1, e2, e3, s5, s6, hne, i6, i7⟩
    · have d0 : b0 = true := by obtain rfl := Option.some.inj ho; simpa using hall ⟨0, .data⟩ (by simp) rfl
      obtain rfl := e0 d0
      clear hi ho hall hun e1
      refine wpOp_step rfl (fun K' hK => ?_)
      go_wp2_with (go_at_call 95; refine (digits_calls h l hl _).mono ?_; rintro e w1 ⟨rfl, hb⟩)
      exact ⟨b0, true, b2, b3, b4, b5, b6, b7, v5, v6, .agg (wC h l), .agg (digC (digs l (IntKind.u64.wrap h) 8)), v12, v13, rfl, rfl, hW.step hb, fun _ => rfl, fun _ => rfl, e2, e3, s5.step hb, s6.step hb, hne, i6, i7⟩
    · have hx0 := (blk_cell hW.b 0).trans (show _ = some (Value.int .i64 k) from rfl)
      have hx1 := (blk_cell hW.b 1).trans (show _ = some (Value.int .u64 m) from rfl)
      clear hi ho hall hun e2
      refine wpOp_step rfl (fun K' hK => ?_)
      go_wp2
      exact ⟨b0, b1, true, b3, b4, b5, b6, b7, v5, v6, v10, v11, .agg (wC k m), v13, rfl, rfl, hW, e0, e1, fun _ => rfl, e3, s5, s6, hne, i6, i7⟩
    · have d2 : b2 = true := by obtain rfl := Option.some.inj ho; simpa using hall ⟨2, .data⟩ (by simp) rfl
      obtain rfl := e2 d2
      clear hi ho hall hun e3
      refine wpOp_step rfl (fun K' hK => ?_)
      go_wp2_with (go_at_call 95; refine (digits_calls k m hm _).mono ?_; rintro e w1 ⟨rfl, hb⟩)
      exact ⟨b0, b1, b2, true, b4, b5, b6, b7, v5, v6, v10, v11, .agg (wC k m), .agg (digC (digs m (IntKind.u64.wrap k) 8)), rfl, rfl, hW.step hb, e0, e1, fun _ => rfl, fun _ => rfl, s5.step hb, s6.step hb, hne, i6, i7⟩
    · have n4 : b4 = false := by simpa using hun
      have n6 : b6 = false := Bool.eq_false_iff.2 (fun h6 => by rw [i6 h6] at n4; cases n4)
      subst n4 n6
      clear hi ho hall hun s5 i6
      refine wpOp_step rfl (fun K' hK => ?_)
      go_wp2
      refine ⟨b0, b1, b2, b3, true, b5, false, b7, .pointer (some ⟨wr.heap.size, 0, none⟩), v6, v10, v11, v12, v13, rfl, rfl, hW.step (alloc_below _ _), e0, e1, e2, e3, fun _ => ⟨_, rfl, hsz, blk_new _ _⟩, s6.step (alloc_below _ _), fun _ h5 => ?_, (fun h => by cases h), i7⟩
      obtain ⟨g, rfl, _, hg⟩ := s6 h5
      have := blk_lt hg
      intro he
      injection he with he
      injection he with he
      injection he with he
      omega
    · have n5 : b5 = false := by simpa using hun
      have n7 : b7 = false := Bool.eq_false_iff.2 (fun h7 => by rw [i7 h7] at n5; cases n5)
      subst n5 n7
      clear hi ho hall hun s6 i7
      refine wpOp_step rfl (fun K' hK => ?_)
      go_wp2
      refine ⟨b0, b1, b2, b3, b4, true, b6, false, v5, .pointer (some ⟨wr.heap.size, 0, none⟩), v10, v11, v12, v13, rfl, rfl, hW.step (alloc_below _ _), e0, e1, e2, e3, s5.step (alloc_below _ _), fun _ => ⟨_, rfl, hsz, blk_new _ _⟩, fun h4 _ => ?_, i6, (fun h => by cases h)⟩
      obtain ⟨g, rfl, _, hg⟩ := s5 h4
      have := blk_lt hg
      intro he
      injection he with he
      injection he with he
      injection he with he
      omega
    · have d4 : b4 = true := by obtain rfl := Option.some.inj ho; simpa using hall ⟨4, .data⟩ (by simp) rfl
      have d1 : b1 = true := by obtain rfl := Option.some.inj ho; simpa using hall ⟨1, .data⟩ (by simp) rfl
      have n6 : b6 = false := by simpa using hun
      subst n6
      obtain ⟨g, rfl, hge, hg⟩ := s5 d4
      obtain rfl := e1 d1
      clear hi ho hall hun s5
      refine wpOp_step rfl (fun K' hK => ?_)
      have hst := blk_store hg (x := digs l (IntKind.u64.wrap h) 8) (by rw [digs_len]; exact digs_len 0 0 0)
      split
      rotate_left
      · rename_i hc; exact absurd rfl hc
      refine wp_store_mid 145 (.tmp 5) (.tmp 11) rfl g 0 (digC (digs l (IntKind.u64.wrap h) 8)) rfl rfl (blk_there hg (by rw [digC_size, digs_len]; exact Nat.le_of_eq (digs_len 0 0 0).symm)) (by rw [digC_size, digs_len]; rfl) (digC_one _) (hK _ _ ?_)
      refine ⟨b0, true, b2, b3, true, b5, true, b7, .pointer (some ⟨g, 0, none⟩), v6, v10, .agg (digC (digs l (IntKind.u64.wrap h) 8)), v12, v13, by subst d1 d4; rfl, rfl, ⟨below_cells (by omega) _ _ hW.below, blk_cells_far (by omega) _ _ hW.a, blk_cells_far (by omega) _ _ hW.b, blk_cells_far (by omega) _ _ hW.r⟩, e0, fun _ => rfl, e2, e3, fun _ => ⟨g, rfl, hge, hst⟩, fun h5 => ?_, fun h4 h5 => hne d4 h5, fun _ => rfl, i7⟩
      obtain ⟨g', rfl, hge', hg'⟩ := s6 h5
      exact ⟨g', rfl, hge', blk_cells_far (fun he => hne d4 h5 (by rw [he])) _ _ hg'⟩
    · have d5 : b5 = true := by obtain rfl := Option.some.inj ho; simpa using hall ⟨5, .data⟩ (by simp) rfl
      have d3 : b3 = true := by obtain rfl := Option.some.inj ho; simpa using hall ⟨3, .data⟩ (by simp) rfl
      have n7 : b7 = false := by simpa using hun
      subst n7
      obtain ⟨g, rfl, hge, hg⟩ := s6 d5
      obtain rfl := e3 d3
      clear hi ho hall hun s6
      refine wpOp_step rfl (fun K' hK => ?_)
      have hst := blk_store hg (x := digs m (IntKind.u64.wrap k) 8) (by rw [digs_len]; exact digs_len 0 0 0)
      split
      rotate_left
      · rename_i hc; exact absurd rfl hc
      refine wp_store_mid 145 (.tmp 6) (.tmp 13) rfl g 0 (digC (digs m (IntKind.u64.wrap k) 8)) rfl rfl (blk_there hg (by rw [digC_size, digs_len]; exact Nat.le_of_eq (digs_len 0 0 0).symm)) (by rw [digC_size, digs_len]; rfl) (digC_one _) (hK _ _ ?_)
      refine ⟨b0, b1, b2, true, b4, true, b6, true, v5, .pointer (some ⟨g, 0, none⟩), v10, v11, v12, .agg (digC (digs m (IntKind.u64.wrap k) 8)), by subst d3 d5; rfl, rfl, ⟨below_cells (by omega) _ _ hW.below, blk_cells_far (by omega) _ _ hW.a, blk_cells_far (by omega) _ _ hW.b, blk_cells_far (by omega) _ _ hW.r⟩, e0, e1, e2, fun _ => rfl, fun h4 => ?_, fun _ => ⟨g, rfl, hge, hst⟩, fun h4 h5 => hne h4 d5, i6, fun _ => rfl⟩
      obtain ⟨g', rfl, hge', hg'⟩ := s5 h4
      exact ⟨g', rfl, hge', blk_cells_far (fun he => hne h4 d5 (by rw [he])) _ _ hg'⟩
    · omega
  · intro L a wr hI hr
    obtain ⟨b0, b1, b2, b3, b4, b5, b6, b7, v5, v6, v10, v11, v12, v13, rfl, rfl, hW, e0, e1, e2, e3, s5, s6, hne, i6, i7⟩ := hI
    have key := fun (i : Nat) => (congrArg (fun s => i ∈ s) hr).mp
    obtain rfl : b0 = true := by
      cases b0 with
      | true => rfl
      | false => exact absurd (key 0 (mem_ready.2 ⟨rfl, _, rfl, by intro e he _; simp at he⟩)) (by simp)
    obtain rfl : b1 = true := by
      cases b1 with
      | true => rfl
      | false => exact absurd (key 1 (mem_ready.2 ⟨rfl, _, rfl, by intro e he _; simp at he; rcases he with rfl <;> rfl⟩)) (by simp)
    obtain rfl : b2 = true := by
      cases b2 with
      | true => rfl
      | false => exact absurd (key 2 (mem_ready.2 ⟨rfl, _, rfl, by intro e he _; simp at he⟩)) (by simp)
    obtain rfl : b3 = true := by
      cases b3 with
      | true => rfl
      | false => exact absurd (key 3 (mem_ready.2 ⟨rfl, _, rfl, by intro e he _; simp at he; rcases he with rfl | rfl <;> rfl⟩)) (by simp)
    obtain rfl : b4 = true := by
      cases b4 with
      | true => rfl
      | false => exact absurd (key 4 (mem_ready.2 ⟨rfl, _, rfl, by intro e he _; simp at he⟩)) (by simp)
    obtain rfl : b5 = true := by
      cases b5 with
      | true => rfl
      | false => exact absurd (key 5 (mem_ready.2 ⟨rfl, _, rfl, by intro e he _; simp at he⟩)) (by simp)
    obtain rfl : b6 = true := by
      cases b6 with
      | true => rfl
      | false => exact absurd (key 6 (mem_ready.2 ⟨rfl, _, rfl, by intro e he _; simp at he; rcases he with rfl | rfl | rfl | rfl | rfl | rfl | rfl | rfl | rfl <;> rfl⟩)) (by simp)
    obtain rfl : b7 = true := by
      cases b7 with
      | true => rfl
      | false => exact absurd (key 7 (mem_ready.2 ⟨rfl, _, rfl, by intro e he _; simp at he; rcases he with rfl | rfl | rfl | rfl | rfl | rfl | rfl | rfl | rfl | rfl <;> rfl⟩)) (by simp)
    clear key hr i6 i7
    obtain rfl := e0 rfl
    obtain rfl := e1 rfl
    obtain rfl := e2 rfl
    obtain rfl := e3 rfl
    obtain ⟨g5, rfl, hg5, hb5⟩ := s5 rfl
    obtain ⟨g6, rfl, hg6, hb6⟩ := s6 rfl
    have hne2 : g5 ≠ g6 := fun he => hne rfl rfl (by rw [he])
    rw [if_pos rfl] at hb5 hb6
    clear e0 e1 e2 e3 s5 s6 hne
    unfold addAct
    have HW := Lib.hid hW; have H5 := Lib.hid hb5; have H6 := Lib.hid hb6; clear hW hb5 hb6
    have hx := digs_isD l (IntKind.u64.wrap h); have hy := digs_isD m (IntKind.u64.wrap k)
    have hH : inU (IntKind.u64.wrap h) := by rw [u64_wrap]; exact mod_mW _
    have hK : inU (IntKind.u64.wrap k) := by rw [u64_wrap]; exact mod_mW _
    have vx := digs_val hl hH; have vy := digs_val hm hK
    have lx := digs_len l (IntKind.u64.wrap h) 8; have ly := digs_len m (IntKind.u64.wrap k) 8
    generalize digs l (IntKind.u64.wrap h) 8 = x at *
    generalize digs m (IntKind.u64.wrap k) 8 = y at *
    have HX := Lib.hid hx; have HY := Lib.hid hy; have LX := Lib.hid lx; have LY := Lib.hid ly; have VX := Lib.hid vx; have VY := Lib.hid vy; clear hx hy lx ly vx vy hH hK
    go_wp2
    go_loopw [7, 8, 9] (fun v7 v _ wr => ∃ j : Nat, v = .int .i64 j ∧ j ≤ 16 ∧ v7 = .int .i64 (addL x y j).2 ∧ AddLoop w x y g5 g6 j wr) (fun _ v _ _ => 16 - (intOf v).toNat)
    case atStart => exact ⟨0, rfl, Nat.zero_le _, rfl, HW.out.below, HW.out.r, H5.out, H6.out⟩
    case round =>
      obtain ⟨j, rfl, hj, rfl, hB, h1, h2, h3⟩ := hrel
      have HB := Lib.hid hB; have H1 := Lib.hid h1; have H2 := Lib.hid h2; have H3 := Lib.hid h3; clear hB h1 h2 h3
      obtain ⟨k1, k2, k3, k4, k5⟩ := addL_ok HX.out HY.out LX.out LY.out j hj
      by_cases hlt : j < 16
      · have e1 : decide ((j : Int) < 16) = true := decide_eq_true (by omega)
        have hz : y.length = 16 := LY.out
        have hu := cell_dig H2.out (show j < (addL x y j).1.length by omega)
        have hv := cell_dig H3.out (show j < y.length by omega)
        have hf := blk_frozen H2.out j
        have b1 := k2 _ (List.getElem_mem (show j < (addL x y j).1.length by omega))
        have b2 := HY.out _ (List.getElem_mem (show j < y.length by omega))
        have n1 : (addL x y (j + 1)).1 = (addL x y j).1.set j (((addL x y j).1[j] + y[j] + (addL x y j).2) % 256) := by simp only [addL]; rw [getD_at (by omega), getD_at (by omega)]
        have n2 : (addL x y (j + 1)).2 = ((addL x y j).1[j] + y[j] + (addL x y j).2) / 256 := by simp only [addL]; rw [getD_at (by omega), getD_at (by omega)]
        have N1 := Lib.hid n1; have N2 := Lib.hid n2
        clear n1 n2
        generalize (addL x y j).1[j] = u at *
        generalize y[j] = v at *
        generalize (addL x y j).2 = c at *
        clear k2 k4 k5
        go_wp2
        go_quiet (fail)
        go_wp2
        refine ⟨⟨j + 1, by go_num, hlt, by rw [N2.out], below_set (pw_below_drewN HB.out _) (by omega), blk_far (blk_drewN H1.out _) (by simp; omega) _, ?_, blk_far (blk_drewN H3.out _) (by simp; omega) _⟩, by simp [intOf]; omega⟩
        rw [N1.out]
        exact blk_put (blk_drewN H2.out _) j _ (digC_set _ _ _)
      · obtain rfl : j = 16 := by omega
        have e1 : decide (((16 : Nat) : Int) < 16) = false := rfl
        obtain ⟨d0, d1, d2, d3, d4, d5, d6, d7, d8, d9, d10, d11, d12, d13, d14, d15, hD⟩ := list16 k1
        have HD := Lib.hid hD; have K2 := Lib.hid k2; have K5 := Lib.hid k5; have K3 := Lib.hid k3
        clear hD k1 k2 k3 k4 k5
        have hx0 := (blk_cell H2.out 0).trans (show _ = some (Value.int .i64 d0) from by rw [HD.out]; rfl)
        have hx1 := (blk_cell H2.out 1).trans (show _ = some (Value.int .i64 d1) from by rw [HD.out]; rfl)
        have hx2 := (blk_cell H2.out 2).trans (show _ = some (Value.int .i64 d2) from by rw [HD.out]; rfl)
        have hx3 := (blk_cell H2.out 3).trans (show _ = some (Value.int .i64 d3) from by rw [HD.out]; rfl)
        have hx4 := (blk_cell H2.out 4).trans (show _ = some (Value.int .i64 d4) from by rw [HD.out]; rfl)
        have hx5 := (blk_cell H2.out 5).trans (show _ = some (Value.int .i64 d5) from by rw [HD.out]; rfl)
        have hx6 := (blk_cell H2.out 6).trans (show _ = some (Value.int .i64 d6) from by rw [HD.out]; rfl)
        have hx7 := (blk_cell H2.out 7).trans (show _ = some (Value.int .i64 d7) from by rw [HD.out]; rfl)
        have hx8 := (blk_cell H2.out 8).trans (show _ = some (Value.int .i64 d8) from by rw [HD.out]; rfl)
        have hx9 := (blk_cell H2.out 9).trans (show _ = some (Value.int .i64 d9) from by rw [HD.out]; rfl)
        have hx10 := (blk_cell H2.out 10).trans (show _ = some (Value.int .i64 d10) from by rw [HD.out]; rfl)
        have hx11 := (blk_cell H2.out 11).trans (show _ = some (Value.int .i64 d11) from by rw [HD.out]; rfl)
        have hx12 := (blk_cell H2.out 12).trans (show _ = some (Value.int .i64 d12) from by rw [HD.out]; rfl)
        have hx13 := (blk_cell H2.out 13).trans (show _ = some (Value.int .i64 d13) from by rw [HD.out]; rfl)
        have hx14 := (blk_cell H2.out 14).trans (show _ = some (Value.int .i64 d14) from by rw [HD.out]; rfl)
        have hx15 := (blk_cell H2.out 15).trans (show _ = some (Value.int .i64 d15) from by rw [HD.out]; rfl)
        generalize (addL x y 16).2 = c at K5 K3 ⊢
        go_wp2_with (go_at_call 96; refine (from_calls [d0, d1, d2, d3, d4, d5, d6, d7, d8, d9, d10, d11, d12, d13, d14, d15] rfl (by rw [← HD.out]; exact K2.out) _).mono ?_; rintro e w1 ⟨rfl, hb⟩; have HB1 := Lib.hid (below_step HB.out hb); have HR1 := Lib.hid (blk_below H1.out hb); have hz0 := (blk_cell HR1.out 0).trans (show _ = some (Value.int .i64 0) from rfl); have hz1 := (blk_cell HR1.out 1).trans (show _ = some (Value.int .u64 0) from rfl); have hf0 := blk_frozen HR1.out 0; have hf1 := blk_frozen HR1.out 1; clear hb)
        have hv : valB [d0, d1, d2, d3, d4, d5, d6, d7, d8, d9, d10, d11, d12, d13, d14, d15] + c * 256 ^ 16 = (l + 18446744073709551616 * IntKind.u64.wrap h) + (m + 18446744073709551616 * IntKind.u64.wrap k) := by
          have := K5.out
          rw [HD.out, ← VX.out, ← VY.out] at *
          rw [List.take_of_length_le (Nat.le_of_eq LX.out), List.take_of_length_le (Nat.le_of_eq LY.out)] at this
          exact this
        obtain ⟨r1, r2⟩ := add_eq (D := [d0, d1, d2, d3, d4, d5, d6, d7, d8, d9, d10, d11, d12, d13, d14, d15]) rfl (by rw [← HD.out]; exact K2.out) K3.out.1 K3.out.2 hl hm hv
        refine bodyPost_ret (v := .agg #[.int .i64 (wrap64 (valB [d8, d9, d10, d11, d12, d13, d14, d15])), .int .u64 (valB [d0, d1, d2, d3, d4, d5, d6, d7])]) (by simp [results, Try.results80, go_sem, hz0, hz1]) rfl ?_
        exact ⟨by rw [← r1, ← r2]; rfl, below_set (below_set HB1.out (by omega)) (by omega)⟩
  · simp
  · rfl
  · exact ⟨false, false, false, false, false, false, false, false, undef, undef, undef, undef, undef, undef, rfl, rfl, ⟨below_drew1 (below_alloc (below_alloc (below_alloc (Below.refl _ _) _) _) _), blk_drew (blk_alloc (blk_alloc (blk_new _ _) _) _), by
      have := blk_alloc (blk_new (w.alloc (.cells (wC h l) 40)) (.cells (wC k m) 40)) (.cells (wC 0 0) 40)
      rw [show (w.alloc (.cells (wC h l) 40)).heap.size = w.heap.size + 1 from by simp] at this
      exact this, by
      have := blk_new ((w.alloc (.cells (wC h l) 40)).alloc (.cells (wC k m) 40)) (.cells (wC 0 0) 40)
      rw [show ((w.alloc (.cells (wC h l) 40)).alloc (.cells (wC k m) 40)).heap.size = w.heap.size + 1 + 1 from by simp] at this
      exact this⟩, (fun h => by cases h), (fun h => by cases h), (fun h => by cases h), (fun h => by cases h), (fun h => by cases h), (fun h => by cases h), (fun h => by cases h), (fun h => by cases h), (fun h => by cases h)⟩
def rickyardref01_Add.f (a0_0 a0_1 a1_0 a1_1 : Int) : Option (Int × Int) := if inU a0_1 ∧ inU a1_1 then some ((addW ⟨a0_0, a0_1⟩ ⟨a1_0, a1_1⟩).f0, (addW ⟨a0_0, a0_1⟩ ⟨a1_0, a1_1⟩).f1) else none
theorem rickyardref01_Add.calls (a0_0 a0_1 a1_0 a1_1 : Int) (r1 r2 : Int) (w : World) (h : rickyardref01_Add.f a0_0 a0_1 a1_0 a1_1 = some (r1, r2)) :
    Calls Try.prog 80 #[.agg #[.int .i64 a0_0, .int .u64 a0_1], .agg #[.int .i64 a1_0, .int .u64 a1_1]] w fun e w' => e = .returned (.agg #[.int .i64 r1, .int .u64 r2]) ∧ Below w.heap.size w w' := by
  unfold rickyardref01_Add.f at h
  by_cases hu : inU a0_1 ∧ inU a1_1
  case neg => rw [if_neg hu] at h; cases h
  rw [if_pos hu] at h
  simp only [Option.some.injEq, Prod.mk.injEq] at h
  obtain ⟨rfl, rfl⟩ := h
  exact refadd_calls a0_0 a0_1 a1_0 a1_1 hu.1 hu.2 w
end Go.Proofs.Ytdopbhbbpgfliaa.PAsk
end
