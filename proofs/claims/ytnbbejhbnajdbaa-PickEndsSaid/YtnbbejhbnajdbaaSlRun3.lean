/- slices.Delete of one run, at a row of the call's own. -/
import Derived.Test.YtnbbejhbnajdbaaSlRun
import Derived.Sort.WalkB12
namespace Go.Proofs.Ytnbbejhbnajdbaa.PPick
open Go.RowKit Go.Proofs.YtnbbejhbnajdbaaW.PrintWords Go.Proofs.YtnbbejhbnajdbaaW.PrintLast Go.Proofs.YtnbbejhbnajdbaaW.PrintMore Go.Proofs.Ytnbbejhbnajdbaa.XLib

/-- A list with others laid over it from place o on. -/
def putL (cur : List Value) (o : Nat) (vs : List Value) : List Value := cur.take o ++ vs ++ cur.drop (o + vs.length)
theorem setCells_blk {b e : Nat} (vs : List Value) : ∀ (o : Nat) (w : World) (cur : Array Value), w.heap[b]? = some (.cells cur e (0, 0)) → o + vs.length ≤ cur.size → ∃ cur' : Array Value, (w.setCells b o vs).heap[b]? = some (.cells cur' e (0, 0)) ∧ cur'.toList = putL cur.toList o vs := by
  induction vs with
  | nil =>
    intro o w cur h _
    exact ⟨cur, h, by simp [putL]⟩
  | cons v r ih =>
    intro o w cur h hl
    simp only [List.length_cons] at hl
    obtain ⟨cur', h1, h2⟩ := ih (o + 1) (w.setCell ⟨b, o, none⟩ v) (cur.setIfInBounds o v) (blk_put h o v rfl) (by simp; omega)
    refine ⟨cur', h1, ?_⟩
    rw [h2]
    unfold putL
    have ho : o < cur.toList.length := by simp; omega
    rw [Array.toList_setIfInBounds, List.take_succ_eq_append_getElem (by simpa using ho), List.getElem_set_self, List.take_set_of_le (Nat.le_refl _), List.drop_set_of_lt (by omega)]
    simp [Nat.add_assoc, Nat.add_comm 1]
theorem setCells_grown (b : Nat) (vs : List Value) : ∀ (o : Nat) (w : World), w.grownBy (w.setCells b o vs) (some b) := by
  induction vs with
  | nil => intro o w; exact World.grownBy.refl w _
  | cons v r ih =>
    intro o w
    have h := ih (o + 1) (w.setCell ⟨b, o, none⟩ v)
    refine ⟨h.os, h.tape, h.output, (by have := h.size; rwa [World.size_setCell] at this), fun k hk hne => ?_⟩
    refine (h.block k (by simpa using hk) hne).trans (Below.heap_setCell w _ v k (fun e => hne (by rw [e])))
/-- clear(s) at elements of several cells. -/
theorem run_clear_cells {P : Program} (w : World) (t e ty : TypeId) (z : Value) (ht : P.underlying t = some (.slice e)) (hv : ∀ w, (zeroValue e).run P w = .ok z w) (b o n c : Nat) (hn : 0 < n) (news : List Value) (hz : (Builtin.zeroCells z.cells n).toList = news)
    (h1 : ∀ v ∈ news, v.oneCell' = true) (hc : ∀ j, j < news.length → (w.cell? ⟨b, o + j, none⟩).isSome = true) (hf : ∀ j, j < news.length → w.frozen? ⟨b, o + j, none⟩ = false) :
    (Builtin.clear_ #[t] ty #[.slice (some ⟨b, o, none⟩) n c]).run P w = .ok (.tuple #[]) (w.setCells b o news) := by
  have hst := run_storeCells_cells (P := P) b o news 0 w (by simpa using hc) (by simpa using hf) h1
  simp only [Nat.add_zero] at hst
  obtain ⟨m, rfl⟩ : ∃ m, n = m + 1 := ⟨n - 1, by omega⟩
  simp [Builtin.clear_, run_underlying ht, hv, hz, hst]

theorem zero_run : (Builtin.zeroCells (Value.agg #[.int .i64 0, .int .i64 0, .int .i64 0, .bool false]).cells 1).toList = [.int .i64 0, .int .i64 0, .int .i64 0, .bool false] := by
  kernel_rfl

set_option maxHeartbeats 4000000 in
set_option maxRecDepth 100000 in
theorem delete_run (W : World) (base : Nat) (ok : Nat → Prop) (v : Value) (l : List S26) (i : Nat) (hr : Kd.R k26 26 W base ok v l) (hi : i < l.length) (hl : l.length ≤ 1000) :
    Calls Try.prog 30 #[v, .int .i64 i, .int .i64 ((i : Int) + 1)] W fun e w' => ∃ v' : Value, e = .returned v' ∧ v'.ownBlock = v.ownBlock ∧ Kd.R k26 26 w' base ok v' (l.eraseIdx i) ∧ W.grownBy w' v.ownBlock := by
  obtain ⟨hok, hlen0, hrow⟩ := R_flat.1 hr
  rcases hrow with ⟨_, h0⟩ | ⟨g, cap, cur, rfl, hb, hg, hlc, hcm, hcs, hct⟩
  · omega
  have hn : l.length = l.length := rfl
  generalize hnn : l.length = n at *
  obtain ⟨news, hnews⟩ : ∃ news, news = flat (l.drop (i + 1)) := ⟨_, rfl⟩
  have hnl : news.length = (n - (i + 1)) * 4 := by rw [hnews, flat_len, List.length_drop, hnn]
  have hcurlen : cur.toList.length = cap * 4 := by simpa using hcs
  have hG : Hid (W.heap[g]? = some (.cells cur 26 (0, 0))) := Lib.hid hg
  -- the cells behind the run that falls
  have hcut : flat (l.drop (i + 1)) = (flat l).drop ((i + 1) * 4) := by
    have e : flat l = flat (l.take (i + 1)) ++ flat (l.drop (i + 1)) := by unfold flat; rw [← List.flatMap_append, List.take_append_drop]
    rw [e, List.drop_left' (by rw [flat_len, List.length_take]; omega)]
  have hsrc : Hid (∀ t u, news[t]? = some u → W.drew.cell? ⟨g, (i + 1) * 4 + t, none⟩ = some u) := Lib.hid (by
    intro t u hu
    have hb2 : W.drew.heap[g]? = some (.cells cur 26 (0, 0)) := hg
    rw [blk_cell hb2]
    rw [hnews, hcut, ← hct, List.drop_take, List.getElem?_take] at hu
    split at hu
    · rw [List.getElem?_drop] at hu
      simpa using hu
    · cases hu)
  obtain ⟨A, hA, hsrcA⟩ : ∃ A : Addr, (if cap = i + 1 then some (⟨g, 0, none⟩ : Addr) else some ⟨g, (i + 1) * 4, none⟩) = some A ∧ Hid (∀ t u, news[t]? = some u → W.drew.cell? (A.add t) = some u) := by
    by_cases h : cap = i + 1
    · refine ⟨⟨g, 0, none⟩, by simp [h], Lib.hid fun t u hu => ?_⟩
      have h0 : news.length = 0 := by rw [hnl]; omega
      rw [List.length_eq_zero_iff.1 h0] at hu
      simp at hu
    · refine ⟨⟨g, (i + 1) * 4, none⟩, by simp [h], Lib.hid fun t u hu => ?_⟩
      rw [Addr.add_lit]
      exact hsrc.out t u hu
  have s1 : Hid (news.length = (n - (i + 1)) * 4) := Lib.hid hnl
  have s2 : Hid (∀ u ∈ news, u.oneCell' = true) := Lib.hid (by rw [hnews]; exact flat_one _)
  have s3 : Hid (∀ t, t < news.length → (W.drew.cell? ⟨g, 0 + i * 4 + t, none⟩).isSome = true ∧ W.drew.frozen? ⟨g, 0 + i * 4 + t, none⟩ = false) := Lib.hid (by
    intro t ht
    have hb2 : W.drew.heap[g]? = some (.cells cur 26 (0, 0)) := hg
    refine ⟨?_, blk_frozen hb2 _⟩
    rw [blk_cell hb2, Array.getElem?_eq_getElem (by omega)]
    rfl)
  obtain ⟨W1, hW1⟩ : ∃ W1, W1 = W.drew.setCells g (0 + i * 4) news := ⟨_, rfl⟩
  obtain ⟨cur1, hk1, hl1⟩ : ∃ cur1 : Array Value, W1.heap[g]? = some (.cells cur1 26 (0, 0)) ∧ cur1.toList = putL cur.toList (0 + i * 4) news := by
    rw [hW1]; exact setCells_blk news _ _ cur hg (by omega)
  have hHW := Lib.hid hW1
  have HK1 := Lib.hid hk1; have HL1 := Lib.hid hl1
  obtain ⟨i0, hi0⟩ := info_run
  have HI := Lib.hid hi0
  have hcap := Lib.hid hcm; have hcur := Lib.hid hcs; have hctl := Lib.hid hct; have hnw := Lib.hid hnews; have hok' := Lib.hid hok; have hbase := Lib.hid hb
  clear hW1 hk1 hl1 hi0 hcm hcs hct hnews hok hb hg hr hlen0 hcut hcurlen hnl hsrc
  obtain ⟨zs, hzs⟩ : ∃ zs : List Value, zs = [.int .i64 0, .int .i64 0, .int .i64 0, .bool false] := ⟨_, rfl⟩
  have hzl : zs.length = 4 := by rw [hzs]; rfl
  have hc1 : cur1.size = cap * 4 := by
    have := congrArg List.length HL1.out
    simp only [putL, List.length_append, List.length_take, List.length_drop, Array.length_toList] at this
    rw [this, hcur.out, s1.out]
    omega
  have hcl : ∀ ty, (Builtin.clear_ #[22] ty #[.slice (some ⟨g, (i + (n - (i + 1))) * 4, none⟩) (n - (i + (n - (i + 1)))) (cap - (i + (n - (i + 1))))]).run Try.prog W1 = .ok (.tuple #[]) (W1.setCells g ((i + (n - (i + 1))) * 4) zs) := fun ty =>
    run_clear_cells W1 _ _ ty (.agg #[.int .i64 0, .int .i64 0, .int .i64 0, .bool false]) Try.underlying22 (by intro w; kernel_rfl) g _ _ _ (by omega) zs (by rw [show n - (i + (n - (i + 1))) = 1 by omega, hzs]; exact zero_run) (by rw [hzs]; decide)
      (fun j hj => by rw [blk_cell HK1.out, Array.getElem?_eq_getElem (by omega)]; rfl) (fun j _ => blk_frozen HK1.out _)
  obtain ⟨W2, hW2⟩ : ∃ W2, W2 = W1.setCells g ((i + (n - (i + 1))) * 4) zs := ⟨_, rfl⟩
  obtain ⟨cur2, hk2, hl2⟩ : ∃ cur2 : Array Value, W2.heap[g]? = some (.cells cur2 26 (0, 0)) ∧ cur2.toList = putL cur1.toList ((i + (n - (i + 1))) * 4) zs := by
    rw [hW2]; exact setCells_blk zs _ _ cur1 HK1.out (by omega)
  have HK2 := Lib.hid hk2
  have hc2 : Hid (cur2.size = cap * 4) := Lib.hid (by
    have := congrArg List.length hl2
    simp only [putL, List.length_append, List.length_take, List.length_drop, Array.length_toList] at this
    rw [this, hc1, hzl]
    omega)
  have htake : Hid (cur2.toList.take ((n - 1) * 4) = flat (l.eraseIdx i)) := Lib.hid (by
    have e1 : (i + (n - (i + 1))) * 4 = (n - 1) * 4 := by omega
    have hl1len : cur1.toList.length = cap * 4 := by simpa using hc1
    have hcl0 : cur.toList.length = cap * 4 := by simpa using hcur.out
    rw [hl2, e1]
    unfold putL
    rw [List.append_assoc, List.take_append_of_le_length (by rw [List.length_take]; omega), List.take_take, Nat.min_self, HL1.out]
    unfold putL
    rw [List.take_append_of_le_length (by rw [List.length_append, List.length_take, s1.out]; omega), List.take_of_length_le (by rw [List.length_append, List.length_take, s1.out]; omega)]
    have e2 : cur.toList.take (0 + i * 4) = flat (l.take i) := by
      have e3 : flat l = flat (l.take i) ++ flat (l.drop i) := by unfold flat; rw [← List.flatMap_append, List.take_append_drop]
      have e4 : cur.toList.take (0 + i * 4) = (cur.toList.take (n * 4)).take (i * 4) := by
        rw [List.take_take]; congr 1; omega
      rw [e4, hctl.out, e3, List.take_left' (by rw [flat_len, List.length_take]; omega)]
    rw [e2, hnw.out, List.eraseIdx_eq_take_drop_succ]
    unfold flat
    rw [List.flatMap_append])
  have hgr : Hid (W.grownBy W2 (some g)) := Lib.hid (by
    have a1 := setCells_grown g news (0 + i * 4) W.drew
    rw [← hHW.out] at a1
    have a2 := setCells_grown g zs ((i + (n - (i + 1))) * 4) W1
    rw [← hW2] at a2
    exact ⟨a2.os.trans a1.os, a2.tape.trans a1.tape, a2.output.trans a1.output, Nat.le_trans a1.size a2.size, fun k hk hne => (a2.block k (Nat.lt_of_lt_of_le hk a1.size) hne).trans (a1.block k hk hne)⟩)
  rw [← hW2] at hcl
  clear hk2 hl2 hW2 hc1 hzs hzl
  have q1 : ((i : Int) == (i : Int) + 1) = false := beq_eq_false_iff_ne.2 (by omega)
  have hic : i ≤ cap := by omega
  have hb0 : 0 ≤ (i : Int) + 1 := by omega
  have hb1 : (i : Int) + 1 ≤ (n : Int) := by omega
  have hjc : i + 1 ≤ cap := by omega
  have hjn : i + 1 ≤ n := by omega
  go_enter Try.func30, Try.ntmps30
  go_wp2_with fail
  go_region_law (refine step_append_room rfl (.tmp 22) (.tmp 25) 22 rfl 26 i0 4 Try.underlying22 HI.out.1 HI.out.2.2.1 g 0 i cap (by simp [Act.eval, Act.put]) A (n - (i + 1)) (cap - (i + 1)) news (by simp [Act.eval, Act.put]; first | exact hA | skip) s1.out hsrcA.out s2.out (by omega) s3.out ?_; rw [← hHW.out])
  go_wp2_with fail
  go_ret
  have hel : (l.eraseIdx i).length = n - 1 := by rw [List.length_eraseIdx_of_lt (by omega), hnn]
  refine ⟨_, rfl, rfl, R_flat.2 ⟨hok'.out, ?_⟩, hgr.out⟩
  refine ⟨flat_len _, .inr ⟨g, cap, cur2, ?_, hbase.out, HK2.out, by omega, hcap.out, hc2.out, by rw [hel]; exact htake.out⟩⟩
  rw [hel, show i + (n - (i + 1)) = n - 1 by omega]
  rfl
end Go.Proofs.Ytnbbejhbnajdbaa.PPick
