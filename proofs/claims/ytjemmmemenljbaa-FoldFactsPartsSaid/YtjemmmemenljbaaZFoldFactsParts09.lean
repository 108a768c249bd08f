import Derived.Test.YtjemmmemenljbaaZFoldFactsParts08
import Derived.Lib.SliceRun
section
namespace Go.Proofs.Ytjemmmemenljbaa.PFold
open Go.RowKit Go.Proofs.YtjemmmemenljbaaW.PrintWords Go.Proofs.YtjemmmemenljbaaW.PrintLast Go.Proofs.YtjemmmemenljbaaW.PrintMore
set_option linter.unusedVariables false
set_option linter.unusedSimpArgs false
set_option maxHeartbeats 8000000
set_option maxRecDepth 100000
theorem clone_calls (A : Option Addr) (c : Nat) (l : List Int) (w : World) (hr : Kd.C (Kd.int .u8) w A l.length l) (hl : l.length ≤ 140737488355327) :
    Calls Try.prog 84 #[.slice A l.length c] w fun e w' => ∃ v, e = .returned v ∧ Kd.R (Kd.int .u8) 5 w' w.heap.size (fun _ => True) v l ∧ Below w.heap.size w w' := by
  have HR := Lib.hid hr
  have hq := fun W => Lib.run_eql_slice_nil (P := Try.prog) W 49 5 A l.length c 0 0 Try.underlying49
  cases A with
  | none =>
    have h0 : l = [] := by
      cases l with
      | nil => rfl
      | cons x r =>
        obtain ⟨ad, h, _⟩ := hr.2.2 (by simp)
        cases h
    subst h0
    simp only [Option.isNone_none, List.length_nil] at hq ⊢
    go_enter Try.func84, Try.ntmps84
    go_wp2

    go_ret
    exact ⟨_, rfl, Kd.R_nil _ _ _ _ _, Below.refl _ _⟩
  | some ad =>
    simp only [Option.isNone_some] at hq
    have HO : Hid (Kd.R (Kd.int .u8) 5 (w.alloc (.cells #[] 5 (0, 0))) w.heap.size (fun _ => True) (.slice (some ⟨w.heap.size, 0, none⟩) 0 0) []) :=
      Lib.hid ⟨fun _ _ => trivial, [], (show World.ownsRow _ _ _ 1 _ _ _ from by simpa using World.ownsRow_lit (base := w.heap.size) (e := 5) (size := 1) w #[] 0 (Nat.le_refl _) (by simp [maxLen]) rfl), Reps.none _ _⟩
    go_enter Try.func84, Try.ntmps84
    go_wp2_with ((with_reducible refine gate_builtin (b := .append) (xs := #[.tmp 5, .tmp 6]) rfl ?_); at_builtin; refine Kd.R_append_row (Value.int .u8) 0 (w0 := w) w.heap.size rfl (.tmp 5) (.tmp 6) 49 5 (.int .u8 0) 1 rfl Try.underlying49 info5 rfl (by decide) (.slice (some ⟨w.heap.size, 0, none⟩) 0 0) [] l (some ad) l.length c (fun _ => True) rfl rfl (fun _ _ => trivial) HO.out (Kd.C_below HR.out ((Below.refl _ _).alloc (Nat.le_refl _) _)) ((Below.refl _ _).alloc (Nat.le_refl _) _) (by simp) (by simp; omega) ?_; intro v1 w1 ho hb hg hat; have HV := Lib.hid ho; have HB := Lib.hid hb; clear ho hb hg hat)
    go_ret
    exact ⟨_, rfl, HV.out, HB.out⟩
structure RowIn (w : World) (f : Fr) : Prop where
  row : Kd.C k51 w f.A f.l.length f.l
  cap : f.l.length ≤ f.c
  big : f.l.length ≤ 140737488355328
  isb : ∀ y ∈ f.l, y.f0.all isB = true
  kln : ∀ y ∈ f.l, y.f0.length ≤ 140737488355327
theorem RowIn.below {w W : World} {f : Fr} (h : RowIn w f) (hb : Below w.heap.size w W) : RowIn W f := ⟨Kd.C_below h.row hb, h.cap, h.big, h.isb, h.kln⟩
theorem RowIn.fr {w : World} {f : Fr} (h : RowIn w f) (hp : 0 < f.l.length) : FrIn w f := ⟨h.row, hp, h.cap, h.big, h.isb, h.kln⟩
open Classical in
noncomputable def firstE : List Fr → Int
  | [] => 0
  | r :: q => if rowE r.l = 0 then firstE q else rowE r.l
def Fr.cs (f : Fr) : List Value := [f.v, .int .i64 f.p]
def frontsOf (rs : List Fr) : List Fr := rs.filter fun f => decide (0 < f.l.length)
theorem frontsOf_snoc (rs : List Fr) (f : Fr) : frontsOf (rs ++ [f]) = frontsOf rs ++ (if 0 < f.l.length then [f] else []) := by
  unfold frontsOf
  rw [List.filter_append]
  by_cases h : 0 < f.l.length <;> simp [h]
def HpRow (W : World) (base h : Nat) (fs : List Fr) : Prop := ∃ v, W.heap[h]? = some (.cells #[v] 115 (0, 0)) ∧ W.ownsRow base 118 2 v fs.length (fs.flatMap Fr.cs)
theorem HpRow.below {W W' : World} {base h : Nat} {fs : List Fr} (k : HpRow W base h fs) (hb : Below W.heap.size W W') : HpRow W' base h fs := by
  obtain ⟨v, h1, h2⟩ := k
  exact ⟨v, blk_below h1 hb, own_move h2 (fun g hg => hb.block g (own_lt h2 g hg))⟩
structure FK (base : Nat) (W W' : World) : Prop where
  low : Below base W W'
  rest : ∀ k, k < W.heap.size → (∀ cells, W.heap[k]? ≠ some (.cells cells 118 (0, 0)) ∧ W.heap[k]? ≠ some (.cells cells 115 (0, 0))) → W'.heap[k]? = W.heap[k]?
theorem FK.of_below {base : Nat} {W W' : World} (h : Below W.heap.size W W') (hb : base ≤ W.heap.size) : FK base W W' := ⟨⟨h.os, h.tape, h.output, h.size, fun k hk => h.block k (by omega)⟩, fun k hk _ => h.block k hk⟩
theorem FK.trans {base : Nat} {W W1 W2 : World} (h : FK base W W1) (k : FK base W1 W2) : FK base W W2 :=
  ⟨h.low.trans k.low, fun i hi hn => by
    have e := h.rest i hi hn
    rw [k.rest i (Nat.lt_of_lt_of_le hi h.low.size) (fun cells => by rw [e]; exact hn cells), e]⟩
theorem FK.of_grown {base g : Nat} {W W' : World} {cells : Array Value} {t : Nat} (h : W.grownBy W' (some g)) (hg : W.heap[g]? = some (.cells cells t (0, 0))) (ht : t = 118 ∨ t = 115) (hb : base ≤ g) (hs : base ≤ W.heap.size) : FK base W W' :=
  ⟨⟨h.os, h.tape, h.output, h.size, fun k hk => h.block k (by omega) (fun e => by injection e with e; omega)⟩, fun k hk hn => h.block k hk (fun e => by
    injection e with e
    subst e
    rcases ht with rfl | rfl
    · exact (hn cells).1 hg
    · exact (hn cells).2 hg)⟩
theorem take4 {l : List Value} {a b c d : Value} (h0 : l[0]? = some a) (h1 : l[1]? = some b) (h2 : l[2]? = some c) (h3 : l[3]? = some d) : l.take 4 = [a, b, c, d] := by
  match l, h0, h1, h2, h3 with
  | x :: y :: z :: u :: r, h0, h1, h2, h3 =>
    simp at h0 h1 h2 h3
    subst h0 h1 h2 h3
    rfl
def sinkFs : List Fr → List Fr
  | [a, b] => if lessFr b a = true then [b, a] else [a, b]
  | l => l
theorem HpRow.two {W : World} {base h : Nat} {a b : Fr} (k : HpRow W base h [a, b]) : ∃ g c, W.heap[h]? = some (.cells #[.slice (some ⟨g, 0, none⟩) 2 c] 115 (0, 0)) ∧ base ≤ g ∧ 2 ≤ c ∧ c ≤ maxLen ∧ Two W g (c * 2) a b := by
  obtain ⟨v, hv, hl, h0 | ⟨g, cap, cur, rfl, hb, hh, hn, hm, hs, ht⟩⟩ := k
  · exact absurd h0.2 (by simp)
  · refine ⟨g, cap, hv, hb, hn, hm, ⟨cur, hh, hs, ?_⟩⟩
    have hti : ∀ i, i < 4 → cur[i]? = (([a, b].flatMap Fr.cs))[i]? := fun i hi => by
      rw [← ht, List.getElem?_take, if_pos (by simpa using hi)]
      simp
    refine ⟨(hti 0 (by decide)).trans rfl, (hti 1 (by decide)).trans rfl, (hti 2 (by decide)).trans rfl, (hti 3 (by decide)).trans rfl⟩
theorem HpRow.of_two {W : World} {base h g c : Nat} {a b : Fr} (hv : W.heap[h]? = some (.cells #[.slice (some ⟨g, 0, none⟩) 2 c] 115 (0, 0))) (hb : base ≤ g) (hn : 2 ≤ c) (hm : c ≤ maxLen) (T : Two W g (c * 2) a b) : HpRow W base h [a, b] := by
  obtain ⟨cur, hh, hs, q0, q1, q2, q3⟩ := T.ex
  refine ⟨_, hv, by simp [Fr.cs], .inr ⟨g, c, cur, rfl, hb, hh, hn, hm, hs, ?_⟩⟩
  have := take4 (l := cur.toList) (by simpa using q0) (by simpa using q1) (by simpa using q2) (by simpa using q3)
  simpa [Fr.cs] using this
theorem sink_calls (base h : Nat) (fs : List Fr) (hl : fs.length ≤ 2) (W : World) (k : HpRow W base h fs) (hm : ∀ f ∈ fs, FrIn W f) (hs : base ≤ W.heap.size) :
    Calls Try.prog 83 #[.pointer (some ⟨h, 0, none⟩), .int .i64 0] W fun e w' => e = .returned (.tuple #[]) ∧ FK base W w' ∧ HpRow w' base h (sinkFs fs) ∧ ∀ v, W.heap[h]? = some (.cells #[v] 115 (0, 0)) → W.grownBy w' v.ownBlock := by
  match fs, hl, k, hm with
  | [], _, k, _ =>
    obtain ⟨v, hv, ho⟩ := k
    obtain ⟨A, c, rfl⟩ := own_slice ho
    refine (sink_idle h 0 c A 0 (by decide) (by decide) W hv).mono ?_
    rintro e w' ⟨rfl, rfl⟩
    exact ⟨rfl, FK.of_below (Below.refl _ _) hs, ⟨_, hv, ho⟩, fun _ _ => ⟨rfl, rfl, rfl, Nat.le_refl _, fun _ _ _ => rfl⟩⟩
  | [a], _, k, _ =>
    obtain ⟨v, hv, ho⟩ := k
    obtain ⟨A, c, rfl⟩ := own_slice ho
    refine (sink_idle h 1 c A 0 (by decide) (by decide) W hv).mono ?_
    rintro e w' ⟨rfl, rfl⟩
    exact ⟨rfl, FK.of_below (Below.refl _ _) hs, ⟨_, hv, ho⟩, fun _ _ => ⟨rfl, rfl, rfl, Nat.le_refl _, fun _ _ _ => rfl⟩⟩
  | [a, b], _, k, hm =>
    obtain ⟨g, c, hv, hb, hn, hx, T⟩ := k.two
    obtain ⟨cur, hh, _⟩ := T.ex
    refine (sink_two h g c (c * 2) a b hn W hv T (hm a (by simp)) (hm b (by simp))).mono ?_
    rintro e w' ⟨rfl, hg, hT⟩
    have hv' : w'.heap[h]? = some (.cells #[.slice (some ⟨g, 0, none⟩) 2 c] 115 (0, 0)) := blk_grown hv hg (fun e => by injection e with e; exact blk_ne hv hh (by decide) e)
    refine ⟨rfl, FK.of_grown hg hh (.inl rfl) hb hs, ?_, fun v hv2 => by rw [hv] at hv2; injection hv2 with hv2; injection hv2 with hv2; injection hv2 with hv2; injection hv2 with hv2; subst hv2; exact hg⟩
    show HpRow w' base h (if lessFr b a = true then [b, a] else [a, b])
    by_cases t : lessFr b a = true
    · rw [if_pos t] at hT ⊢
      exact HpRow.of_two hv' hb hn hx hT
    · rw [if_neg t] at hT ⊢
      exact HpRow.of_two hv' hb hn hx hT
def NewRel (w : World) (h : Nat) (rs : List Fr) (j : Nat) (wr : World) : Prop :=
  j ≤ rs.length ∧ w.heap.size ≤ h ∧ Below w.heap.size w wr ∧ HpRow wr w.heap.size h (frontsOf (rs.take j)) ∧ firstE rs = firstE (rs.drop j)
theorem new_calls (gr : Nat) (rs : List Fr) (h2 : rs.length = 2) (hp : ∀ j (hj : j < rs.length), rs[j].p = (j : Int)) (w : World) (hg : w.heap[gr]? = some (.cells (rs.map Fr.v).toArray 28 (0, 0))) (hr : ∀ f ∈ rs, RowIn w f) :
    Calls Try.prog 59 #[.slice (some ⟨gr, 0, none⟩) 2 2] w fun e w' => Below w.heap.size w w' ∧ (if firstE rs = 0 then ∃ h, e = .returned (.tuple #[.pointer (some ⟨h, 0, none⟩), .int .i64 0]) ∧ w.heap.size ≤ h ∧ HpRow w' w.heap.size h (sinkFs (frontsOf rs)) else e = .returned (.tuple #[.pointer none, .int .i64 (firstE rs)])) := by
  have HR := Lib.hid hr; have HG := Lib.hid hg; have HP := Lib.hid hp; have H2 := Lib.hid h2
  clear hr hg hp h2
  go_enter Try.func59, Try.ntmps59
  go_wp2
  go_loopw [13] (fun v wr => ∃ j : Nat, v = .int .i64 j ∧ NewRel w w.heap.size rs j wr) (fun v _ => 2 - (intOf v).toNat)
  case atStart => exact ⟨0, rfl, Nat.zero_le _, Nat.le_refl _, (Below.refl _ _).alloc (Nat.le_refl _) _, ⟨_, blk_new w _, World.ownsRow_nil _ _ _ _⟩, rfl⟩
  case round =>
    obtain ⟨j, rfl, hj, _, hB, hH, hF⟩ := hrel
    have HJ := Lib.hid hB; have HH := Lib.hid hH; have HFI := Lib.hid hF
    clear hB hH hF
    by_cases hlt2 : j < 2
    · have hlt : j < rs.length := by rw [H2.out]; exact hlt2
      have e1 : decide ((j : Int) < 2) = true := decide_eq_true (by omega)
      have e1b : ((j : Int) < 2) = True := eq_true (by omega)
      have e0b : ((0 : Int) ≤ (j : Int)) = True := eq_true (by omega)
      have hx := (blk_cell (blk_below HG.out (⟨HJ.out.os, HJ.out.tape, HJ.out.output, HJ.out.size, HJ.out.block⟩ : Below w.heap.size w wr)) j).trans (show (rs.map Fr.v).toArray[j]? = some rs[j].v by simp [hlt])
      have HI := Lib.hid (HR.out _ (List.getElem_mem hlt))
      have HFN : Hid (firstE (rs.drop j) = if rowE rs[j].l = 0 then firstE (rs.drop (j + 1)) else rowE rs[j].l) := Lib.hid (by rw [List.drop_eq_getElem_cons hlt]; rfl)
      have HSN : Hid (frontsOf (rs.take (j + 1)) = frontsOf (rs.take j) ++ (if 0 < rs[j].l.length then [rs[j]] else [])) := Lib.hid (by rw [List.take_succ_eq_append_getElem hlt, frontsOf_snoc])
      have hpj := HP.out j hlt
      obtain ⟨f, hf⟩ : ∃ f, f = rs[j] := ⟨_, rfl⟩
      rw [← hf] at hx HI HFN HSN hpj
      clear hf
      unfold Fr.v at hx
      have HMR := Lib.hid (mright_calls f.A f.c f.l wr (Kd.C_below HI.out.row HJ.out) HI.out.big HI.out.isb)
      by_cases hz : rowE f.l = 0
      · have e3 : (rowE f.l != 0) = false := bne_eq_false_iff_eq.2 hz
        have HE1 : Hid (firstE rs = firstE (rs.drop (j + 1))) := Lib.hid (by rw [HFI.out, HFN.out, if_pos hz])
        obtain ⟨v, hv, ho⟩ := HH.out
        obtain ⟨Av, cv, rfl⟩ := own_slice ho
        have HN : Hid ((frontsOf (rs.take j)).length ≤ 2) := Lib.hid (by have h1 := List.length_filter_le (fun f : Fr => decide (0 < f.l.length)) (rs.take j); rw [List.length_take] at h1; unfold frontsOf; omega)
        have HV := Lib.hid hv; have HO := Lib.hid ho
        have HLT := Lib.hid hlt
        clear hv ho hlt
        by_cases hpos : 0 < f.l.length
        · have e5 : decide ((0 : Int) < (f.l.length : Int)) = true := decide_eq_true (by omega)
          have e5b : ((0 : Int) < (f.l.length : Int)) = True := eq_true (by omega)
          go_wp2_with (first
            | (go_at_call 82; refine HMR.out.mono ?_; rintro e w1 ⟨rfl, hb⟩; have HB1 := Lib.hid (below_step HJ.out hb); have hv1 := blk_below HV.out hb; have ho1 := own_move HO.out (fun g hg => hb.block g (own_lt HO.out g hg)); have hq0 := (blk_cell hv1 0).trans (show _ = some (Value.slice Av (frontsOf (rs.take j)).length cv) from rfl); have HV1 := Lib.hid hv1; have HO1 := Lib.hid ho1; clear hb hv1 ho1)
            | ((with_reducible refine gate_builtin (b := .append) (xs := #[.tmp 30, .tmp 34]) rfl ?_); at_builtin; refine print_append_cells (w0 := w) w.heap.size rfl (.tmp 30) (.tmp 34) 113 118 (.agg #[.slice none 0 0, .int .i64 0]) 2 32 rfl Try.underlying113 (by kernel_rfl) rfl (by decide) (by decide) (.slice Av (frontsOf (rs.take j)).length cv) (frontsOf (rs.take j)).length _ [.slice f.A f.l.length f.c, .int .i64 (j : Int)] rfl rfl rfl (by simp [Value.oneCell']) HO1.out HB1.out HB1.out.size (by have := HN.out; omega) ?_; intro v1 w2 ho2 hb2 hg2 _; have hv2 := blk_grown HV1.out hg2 (own_ne HO1.out HV1.out (by decide)); obtain ⟨A2, c2, hs2⟩ := own_slice ho2; subst hs2; have hq1 := (blk_cell hv2 0).trans (show _ = some (Value.slice Av (frontsOf (rs.take j)).length cv) from rfl); have hf1 := blk_frozen hv2 0; have HV2 := Lib.hid hv2; have HO2 := Lib.hid ho2; have HB2 := Lib.hid hb2; clear ho2 hb2 hg2 hv2))
          go_roundw
          case rel =>
            refine ⟨j + 1, by go_num, HLT.out, Nat.le_refl _, below_set HB2.out (Nat.le_refl _), ?_, HE1.out⟩
            rw [HSN.out, if_pos hpos]
            refine ⟨_, blk_put HV2.out 0 _ rfl, ?_⟩
            have := own_setCell HO2.out (p := ⟨w.heap.size, 0, none⟩) (own_ne HO2.out HV2.out (by decide)) (.slice A2 ((frontsOf (rs.take j)).length + 1) c2)
            simpa [List.flatMap_append, Fr.cs, Fr.v, hpj] using this
          case measure => simp [intOf]; omega
        · have e5 : decide ((0 : Int) < (f.l.length : Int)) = false := decide_eq_false (by omega)
          have e5b : ((0 : Int) < (f.l.length : Int)) = False := eq_false (by omega)
          go_wp2_with (go_at_call 82; refine HMR.out.mono ?_; rintro e w1 ⟨rfl, hb⟩; have HB1 := Lib.hid (below_step HJ.out hb); have HH1 := Lib.hid (HH.out.below hb); clear hb)
          go_roundw
          case rel => exact ⟨j + 1, by go_num, HLT.out, Nat.le_refl _, HB1.out, by rw [HSN.out, if_neg hpos, List.append_nil]; exact HH1.out, HE1.out⟩
          case measure => simp [intOf]; omega
      · have e3 : (rowE f.l != 0) = true := bne_iff_ne.2 hz
        have e4 : (rowE f.l == 0) = false := beq_eq_false_iff_ne.2 hz
        have hE : firstE rs = rowE f.l := by rw [HFI.out, HFN.out, if_neg hz]
        generalize rowE f.l = r at *
        go_wp2_with (go_at_call 82; refine HMR.out.mono ?_; rintro e w1 ⟨rfl, hb⟩; have HB1 := Lib.hid (below_step HJ.out hb); clear hb)
        go_ret2
        refine ⟨HB1.out, ?_⟩
        first | rfl | (rw [if_neg hz]; rfl) | (rw [hE, if_neg hz]; rfl)
    · have hjj : j = 2 := by have := H2.out; omega
      subst hjj
      have e1 : decide (((2 : Nat) : Int) < 2) = false := decide_eq_false (by omega)
      have hE : Hid (firstE rs = 0) := Lib.hid (by rw [HFI.out, List.drop_eq_nil_of_le (by rw [H2.out]; exact Nat.le_refl _)]; rfl)
      have hH := HH.out
      rw [List.take_of_length_le (by rw [H2.out]; exact Nat.le_refl _)] at hH
      have hlen : (frontsOf rs).length ≤ 2 := by have h1 := List.length_filter_le (fun f : Fr => decide (0 < f.l.length)) rs; have := H2.out; unfold frontsOf; omega
      have hin : ∀ f ∈ frontsOf rs, FrIn wr f := fun f hf => by
        unfold frontsOf at hf
        rw [List.mem_filter] at hf
        exact ((HR.out f hf.1).below (⟨HJ.out.os, HJ.out.tape, HJ.out.output, HJ.out.size, HJ.out.block⟩ : Below w.heap.size w wr)).fr (by simpa using hf.2)
      obtain ⟨fs, hfs⟩ : ∃ fs, fs = frontsOf rs := ⟨_, rfl⟩
      rw [← hfs] at hH hlen hin
      have HFS := Lib.hid hfs
      clear hfs
      obtain ⟨v, hv, ho⟩ := hH
      obtain ⟨Av, cv, rfl⟩ := own_slice ho
      have hq0 := (blk_cell hv 0).trans (show _ = some (Value.slice Av fs.length cv) from rfl)
      have HP0 := Lib.hid (show HpRow wr w.heap.size w.heap.size fs from ⟨_, hv, ho⟩)
      have HS := Lib.hid (sink_calls w.heap.size w.heap.size fs hlen wr ⟨_, hv, ho⟩ hin HJ.out.size)
      have HV := Lib.hid hv
      clear hv ho hin HH
      have cs : fs.length = 0 ∨ fs.length = 1 ∨ fs.length = 2 := by omega
      rcases cs with hc | hc | hc
      all_goals rw [hc] at hq0
      · go_wp2
        refine wp_loop_rounds 2 ?_
        rw [rounds_succ]
        go_wp2_with (go_at_call 83; refine HS.out.mono ?_; rintro e w1 ⟨rfl, hfk, hhp, _⟩; have HFK := Lib.hid hfk; have HHP := Lib.hid hhp; clear hfk hhp)
        rw [rounds_succ]
        go_wp2
        go_ret2
        refine ⟨HJ.out.trans HFK.out.low, ?_⟩
        refine ⟨w.heap.size, by rfl, Nat.le_refl _, ?_⟩
        rw [← HFS.out]
        exact HHP.out
      · go_wp2
        refine wp_loop_rounds 2 ?_
        rw [rounds_succ]
        go_wp2_with (go_at_call 83; refine HS.out.mono ?_; rintro e w1 ⟨rfl, hfk, hhp, _⟩; have HFK := Lib.hid hfk; have HHP := Lib.hid hhp; clear hfk hhp)
        rw [rounds_succ]
        go_wp2
        go_ret2
        refine ⟨HJ.out.trans HFK.out.low, ?_⟩
        refine ⟨w.heap.size, by rfl, Nat.le_refl _, ?_⟩
        rw [← HFS.out]
        exact HHP.out
      · have hv2 := HV.out
        rw [hc] at hv2
        have HI := Lib.hid (sink_idle w.heap.size 2 cv Av 1 (by decide) (by decide) wr hv2)
        clear hv2
        go_wp2
        refine wp_loop_rounds 3 ?_
        rw [rounds_succ]
        go_wp2_with (first | (go_at_call 83; refine HI.out.mono ?_; rintro e w1 ⟨rfl, rfl⟩) | (go_at_call 83; refine HS.out.mono ?_; rintro e w1 ⟨rfl, hfk, hhp, _⟩; have HFK := Lib.hid hfk; have HHP := Lib.hid hhp; clear hfk hhp))
        rw [rounds_succ]
        go_wp2_with (go_at_call 83; refine HS.out.mono ?_; rintro e w1 ⟨rfl, hfk, hhp, _⟩; have HFK := Lib.hid hfk; have HHP := Lib.hid hhp; clear hfk hhp)
        rw [rounds_succ]
        go_wp2
        go_ret2
        refine ⟨HJ.out.trans HFK.out.low, ?_⟩
        refine ⟨w.heap.size, by rfl, Nat.le_refl _, ?_⟩
        rw [← HFS.out]
        exact HHP.out
end Go.Proofs.Ytjemmmemenljbaa.PFold
end
