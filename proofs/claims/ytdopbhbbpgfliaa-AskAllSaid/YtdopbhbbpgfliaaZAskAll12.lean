import Derived.Test.YtdopbhbbpgfliaaZAskAll09
import Derived.Shelf.RegionOpenPlain
import Derived.Lib.Walk
import Derived.Lib.SliceRun
import Derived.Lib.JoinLaws
import Derived.Lib.AppendZeros
import Derived.Lib.Overlaps
import Derived.Lib.AppendZerosOnto
import Derived.Shelf.Spec.SlicesInsert
import Derived.Laws.NewBlocks
import Derived.Deep.RegionLaw
section
namespace Go.Proofs.Ytdopbhbbpgfliaa.PAsk
open Go.RowKit Go.Proofs.YtdopbhbbpgfliaaW.PrintWords Go.Proofs.YtdopbhbbpgfliaaW.PrintLast Go.Proofs.YtdopbhbbpgfliaaW.PrintMore
set_option linter.unusedVariables false
set_option linter.unusedSimpArgs false
set_option maxHeartbeats 8000000
set_option maxRecDepth 100000
abbrev En := S60
def CmpEnt (g : Nat) : Prop := ∀ (W : World) (A : Option Addr) (c : Nat) (x : En) (B : Option Addr) (d : Nat) (b : List Int), Kd.C (Kd.int .u8) W A x.f0.length x.f0 → x.f0.length ≤ c → Kd.C (Kd.int .u8) W B b.length b → b.length ≤ d → x.f0.all isB = true → b.all isB = true →
  Calls Try.prog g #[.agg #[.slice A x.f0.length c, .int .u64 x.f1.f0, .bool x.f1.f1, .int .i64 x.f1.f2.f0, .int .u64 x.f1.f2.f1, .int .i64 x.f1.f3, .int .i64 x.f1.f4], .slice B b.length d] W fun e w' => e = .returned (.int .i64 (cmpB x.f0 b)) ∧ Below W.heap.size W w'
theorem cmp_fold : CmpEnt 58 := by
  intro W A c x B d b hA hc hB hd hx hb
  have H : Hid (bytes_Compare.f x.f0 b = some (cmpB x.f0 b)) := Lib.hid (by unfold bytes_Compare.f; rw [if_pos ⟨hx, hb⟩])
  have HA := Lib.hid hA; have HB := Lib.hid hB
  clear hA hB hx hb
  go_enter Try.func58, Try.ntmps58
  go_wp2_with (go_at_call 59; refine (bytes_Compare.calls A c x.f0 B d b _ _ (Kd.C_below HA.out ((Below.refl _ _).alloc (Nat.le_refl _) _)) hc (Kd.C_below HB.out ((Below.refl _ _).alloc (Nat.le_refl _) _)) hd H.out).mono ?_; rintro e w' ⟨rfl, hw⟩; have HW := Lib.hid hw.below; clear hw)
  go_ret
  exact ⟨rfl, below_step ((Below.refl _ _).alloc (Nat.le_refl _) _) HW.out⟩
def bsF (l : List En) (b : List Int) : Nat → Nat → Nat → Nat
  | 0, i, _ => i
  | f + 1, i, j => if i < j then (if cmpB (rd_T60 l (((i + j) / 2 : Nat) : Int)).f0 b < 0 then bsF l b f ((i + j) / 2 + 1) j else bsF l b f i ((i + j) / 2)) else i
def placeE (l : List En) (b : List Int) : Nat := bsF l b l.length 0 l.length
def thereE (l : List En) (b : List Int) : Bool := decide (placeE l b < l.length) && (cmpB (rd_T60 l ((placeE l b : Nat) : Int)).f0 b == 0)
theorem bsF_le (l : List En) (b : List Int) (f : Nat) : ∀ i j : Nat, i ≤ j → bsF l b f i j ≤ j ∧ i ≤ bsF l b f i j := by
  induction f with
  | zero => intro i j h; exact ⟨h, Nat.le_refl _⟩
  | succ f ih =>
    intro i j h
    unfold bsF
    split
    · split
      · have := ih ((i + j) / 2 + 1) j (by omega); omega
      · have := ih i ((i + j) / 2) (by omega); omega
    · exact ⟨h, Nat.le_refl _⟩
theorem rd_ent {l : List En} {j : Nat} (h : j < l.length) : rd_T60 l (j : Int) = l[j] := by
  unfold rd_T60
  rw [show ((j : Int)).toNat = j from by omega, List.getD_eq_getElem?_getD, List.getElem?_eq_getElem h]
  rfl
def SrchRel (w : World) (l : List En) (b : List Int) (i j : Nat) (wr : World) : Prop := Below w.heap.size w wr ∧ i ≤ j ∧ j ≤ l.length ∧ ∃ f, j ≤ i + f ∧ bsF l b f i j = placeE l b
theorem search_ents (g : Nat) (hg : CmpEnt g) (eg : ∀ args w, (callFunc g args).run Try.prog w = .ok (.enter g args) w) (A0 : Option Addr) (c0 : Nat) (l0 : List En) (B : Option Addr) (d : Nat) (b : List Int) (w : World) (hr0 : Kd.C k60 w A0 l0.length l0) (hl : l0.length ≤ 1000) (hb : Kd.C (Kd.int .u8) w B b.length b) (hd : b.length ≤ d) (hx : ∀ x ∈ l0, x.f0.all isB = true) (hbb : b.all isB = true) :
    Calls Try.prog 57 #[.slice A0 l0.length c0, .slice B b.length d, .func (.func g) #[] #[]] w fun e w' => e = .returned (.tuple #[.int .i64 (placeE l0 b : Nat), .bool (thereE l0 b)]) ∧ Below w.heap.size w w' := by
  have HC := Lib.hid hr0; have HB := Lib.hid hb; have HX := Lib.hid hx; have HBB := Lib.hid hbb; have HG := Lib.hid hg
  clear hr0 hb hx hbb hg
  go_enter Try.func57, Try.ntmps57
  go_wp2
  go_loopw [9, 10, 11] (fun v9 v10 _ wr => ∃ i j : Nat, v9 = .int .i64 i ∧ v10 = .int .i64 j ∧ SrchRel w l0 b i j wr) (fun v9 v10 _ _ => (intOf v10).toNat - (intOf v9).toNat)
  case atStart => exact ⟨0, l0.length, rfl, rfl, Below.refl _ _, Nat.zero_le _, Nat.le_refl _, l0.length, by omega, rfl⟩
  case round =>
    obtain ⟨i, j, rfl, rfl, hB, hij, hj, f, hf, hR⟩ := hrel
    have HBW := Lib.hid hB; have HR := Lib.hid hR
    clear hB hR
    by_cases hlt : i < j
    · have e1 : decide ((i : Int) < (j : Int)) = true := decide_eq_true (by omega)
      have e2 : decide (i < j) = true := decide_eq_true hlt
      obtain ⟨h, hh⟩ : ∃ h, h = (i + j) / 2 := ⟨_, rfl⟩
      have hhl : h < l0.length := by omega
      have hh1 : i ≤ h := by omega
      have hh2 : h < j := by omega
      go_upto_region 5 with (fail)
      have hq : ((i : Int) + (j : Int)) / 2 = (h : Int) := by omega
      rw [hq]
      have HH := Lib.hid hh
      clear hq hh e1 e2
      obtain ⟨ad, A1, c1, ha, hx0, hx1, hx2, hx3, hx4, hx5, hx6, hlc, hin⟩ := at_T60 HC.out (h : Int) (by omega) (by omega)
      subst ha
      have HIN := Lib.hid (Kd.C_below hin HBW.out)
      have hxx := rd_ent hhl
      obtain ⟨x, hx⟩ : ∃ x, x = rd_T60 l0 (h : Int) := ⟨_, rfl⟩
      have hisb : Hid (x.f0.all isB = true) := Lib.hid (HX.out x (by rw [hx, hxx]; exact List.getElem_mem _))
      rw [← hx] at hx0 hx1 hx2 hx3 hx4 hx5 hx6 hlc HIN
      simp only [Int.toNat_natCast] at hx0 hx1 hx2 hx3 hx4 hx5 hx6
      replace hx0 := (HBW.out.cell (World.block_lt_of_cell? w _ hx0)).trans hx0
      replace hx1 := (HBW.out.cell (World.block_lt_of_cell? w _ hx1)).trans hx1
      replace hx2 := (HBW.out.cell (World.block_lt_of_cell? w _ hx2)).trans hx2
      replace hx3 := (HBW.out.cell (World.block_lt_of_cell? w _ hx3)).trans hx3
      replace hx4 := (HBW.out.cell (World.block_lt_of_cell? w _ hx4)).trans hx4
      replace hx5 := (HBW.out.cell (World.block_lt_of_cell? w _ hx5)).trans hx5
      replace hx6 := (HBW.out.cell (World.block_lt_of_cell? w _ hx6)).trans hx6
      have HXR := Lib.hid hx
      have hcall := Lib.hid (HG.out wr A1 c1 x B d b HIN.out hlc (Kd.C_below HB.out HBW.out) hd hisb.out HBB.out)
      clear hx hxx hin hlc
      have hst : Hid (∀ f', f = f' + 1 → (if cmpB x.f0 b < 0 then bsF l0 b f' (h + 1) j else bsF l0 b f' i h) = placeE l0 b) := Lib.hid (fun f' e => by
        rw [← HR.out, e, HXR.out, HH.out]
        conv => rhs; unfold bsF
        rw [if_pos hlt])
      obtain ⟨f', hf'⟩ : ∃ f', f = f' + 1 := ⟨f - 1, by omega⟩
      have hst2 := Lib.hid (hst.out f' hf')
      generalize hcm : cmpB x.f0 b = cm at *
      have HCM := Lib.hid hcm
      clear hcm hst
      by_cases hneg : cm < 0
      · have d1 : decide (cm < 0) = true := decide_eq_true hneg
        have hst3 : Hid (bsF l0 b f' (h + 1) j = placeE l0 b) := Lib.hid (by have := hst2.out; rwa [if_pos hneg] at this)
        clear hneg hst2
        go_wp2_with (go_at_fn g; refine hcall.out.mono ?_; rintro e w' ⟨rfl, hb'⟩; have HB' := Lib.hid hb'; clear hb')
        go_roundw
        case rel => exact ⟨h + 1, j, by go_num, rfl, below_step HBW.out HB'.out, hh2, hj, f', by omega, hst3.out⟩
        case measure => simp [intOf]; omega
      · have d1 : decide (cm < 0) = false := decide_eq_false hneg
        have hst3 : Hid (bsF l0 b f' i h = placeE l0 b) := Lib.hid (by have := hst2.out; rwa [if_neg hneg] at this)
        clear hneg hst2
        go_wp2_with (go_at_fn g; refine hcall.out.mono ?_; rintro e w' ⟨rfl, hb'⟩; have HB' := Lib.hid hb'; clear hb')
        go_roundw
        case rel => exact ⟨i, h, rfl, rfl, below_step HBW.out HB'.out, hh1, by omega, f', by omega, hst3.out⟩
        case measure => simp [intOf]; omega
    · have e1 : decide ((i : Int) < (j : Int)) = false := decide_eq_false (by omega)
      have e2 : decide (i < j) = false := decide_eq_false hlt
      obtain rfl : i = j := by omega
      have hpl : placeE l0 b = i := by
        rw [← HR.out]
        have := bsF_le l0 b f i i (Nat.le_refl _)
        omega
      by_cases hil : i < l0.length
      · have d1 : decide ((i : Int) < (l0.length : Int)) = true := decide_eq_true (by omega)
        have d2 : decide (i < l0.length) = true := decide_eq_true hil
        obtain ⟨ad, A1, c1, ha, hx0, hx1, hx2, hx3, hx4, hx5, hx6, hlc, hin⟩ := at_T60 HC.out (i : Int) (by omega) (by omega)
        subst ha
        have HIN := Lib.hid (Kd.C_below hin HBW.out)
        have hxx := rd_ent hil
        obtain ⟨x, hx⟩ : ∃ x, x = rd_T60 l0 (i : Int) := ⟨_, rfl⟩
        have hisb : Hid (x.f0.all isB = true) := Lib.hid (HX.out x (by rw [hx, hxx]; exact List.getElem_mem _))
        rw [← hx] at hx0 hx1 hx2 hx3 hx4 hx5 hx6 hlc HIN
        simp only [Int.toNat_natCast] at hx0 hx1 hx2 hx3 hx4 hx5 hx6
        replace hx0 := (HBW.out.cell (World.block_lt_of_cell? w _ hx0)).trans hx0
        replace hx1 := (HBW.out.cell (World.block_lt_of_cell? w _ hx1)).trans hx1
        replace hx2 := (HBW.out.cell (World.block_lt_of_cell? w _ hx2)).trans hx2
        replace hx3 := (HBW.out.cell (World.block_lt_of_cell? w _ hx3)).trans hx3
        replace hx4 := (HBW.out.cell (World.block_lt_of_cell? w _ hx4)).trans hx4
        replace hx5 := (HBW.out.cell (World.block_lt_of_cell? w _ hx5)).trans hx5
        replace hx6 := (HBW.out.cell (World.block_lt_of_cell? w _ hx6)).trans hx6
        have HXR := Lib.hid hx
        have hcall := Lib.hid (HG.out wr A1 c1 x B d b HIN.out hlc (Kd.C_below HB.out HBW.out) hd hisb.out HBB.out)
        clear hx hxx hin hlc
        have hth : Hid (thereE l0 b = (cmpB x.f0 b == 0)) := Lib.hid (by
          unfold thereE
          rw [hpl, decide_eq_true hil, HXR.out]
          rfl)
        have HPL := Lib.hid hpl
        clear hpl
        generalize hcm : cmpB x.f0 b = cm at *
        clear hcm
        cases hz : (cm == 0)
        all_goals
          rw [hz] at hth
          have HZ := Lib.hid hz
          go_wp2_with (go_at_fn g; refine hcall.out.mono ?_; rintro e w' ⟨rfl, hb'⟩; have HB' := Lib.hid hb'; clear hb')
          go_ret2
          exact ⟨by rw [hth.out, HPL.out]; rfl, below_step HBW.out HB'.out⟩
      · have d1 : decide ((i : Int) < (l0.length : Int)) = false := decide_eq_false (by omega)
        have d2 : decide (i < l0.length) = false := decide_eq_false hil
        have hth : Hid (thereE l0 b = false) := Lib.hid (by
          unfold thereE
          rw [hpl, decide_eq_false hil]
          rfl)
        have HPL := Lib.hid hpl
        clear hpl
        go_wp2
        go_ret2
        exact ⟨by rw [hth.out, HPL.out]; rfl, HBW.out⟩
end Go.Proofs.Ytdopbhbbpgfliaa.PAsk
end
section
namespace Go.Proofs.Ytdopbhbbpgfliaa.PAsk
open Go.RowKit Go.Proofs.YtdopbhbbpgfliaaW.PrintWords Go.Proofs.YtdopbhbbpgfliaaW.PrintLast Go.Proofs.YtdopbhbbpgfliaaW.PrintMore Go.Lib
set_option linter.unusedVariables false
set_option linter.unusedSimpArgs false
set_option maxHeartbeats 8000000
set_option maxRecDepth 100000
theorem run_copy_sz {P : Program} (w : World) (dT sT ty elem : TypeId) (size : Nat) (b o dLen dCap : Nat) (a : Addr) (sLen sCap : Nat) (cs : List Value) (n : Nat)
    (hu : P.underlying dT = some (.slice elem)) (hs : (P.info? elem).map (·.size) = some size) (hn : n = Nat.min sLen dLen) (hc0 : cs.length = n * size)
    (hsrc : ∀ j v, cs[j]? = some v → w.cell? (a.add j) = some v) (hc : ∀ j, j < cs.length → (w.cell? ⟨b, o + j, none⟩).isSome = true) (hf : ∀ j, j < cs.length → w.frozen? ⟨b, o + j, none⟩ = false) (h1 : ∀ v ∈ cs, v.oneCell' = true) :
    (Builtin.copy_ #[dT, sT] ty #[.slice (some ⟨b, o, none⟩) dLen dCap, .slice (some a) sLen sCap]).run P w = .ok (goInt n) (w.setCells b o cs) := by
  have hl := run_loadCells_list (P := P) w a cs hsrc
  have hst := run_storeCells_cells (P := P) b o cs 0 w (by simpa using hc) (by simpa using hf) h1
  cases hq : P.info? elem with
  | none => simp [hq] at hs
  | some i =>
    have hi : i.size = size := by simpa [hq] using hs
    simp [Builtin.copy_, run_underlying hu, Builtin.lenOf, Builtin.firstCells, sizeOf, typeInfo, hq, hi, ← hn, ← hc0, hl, hst]
def Inserted (W : World) (base : Nat) (v : Value) (n : Nat) (cells : List Value) (e : Ending) (w' : World) : Prop :=
  ∃ v', e = .returned v' ∧ w'.ownsRow base 60 7 v' (n + 1) cells ∧ W.grownBy w' v.ownBlock ∧ (v'.ownBlock = v.ownBlock ∨ ∃ b, v'.ownBlock = some b ∧ W.heap.size ≤ b)
theorem zero_ent : (Value.agg #[.slice none 0 0, .int .u64 0, .bool false, .int .i64 0, .int .u64 0, .int .i64 0, .int .i64 0]).cells.size = 7 := by decide
theorem insert_end (W : World) (base : Nat) (v : Value) (n : Nat) (cs vs : List Value) (hown : W.ownsRow base 60 7 v n cs) (hbase : base ≤ W.heap.size) (hn : n ≤ 1000) (hvs : vs.length = 7) (h1 : ∀ u ∈ vs, u.oneCell' = true) :
    Calls Try.prog 60 #[v, .int .i64 n, .slice (some ⟨W.heap.size, 0, none⟩) 1 1] (W.alloc (.cells vs.toArray 60)) (Inserted W base v n (cs ++ vs)) := by
  have HO := Lib.hid hown; have HV := Lib.hid h1
  rcases hown.2 with ⟨rfl, rfl⟩ | ⟨g, cap, cur, rfl, hb, hg, hnc, hcm, hcs, hct⟩
  · clear hown h1
    go_enter Try.func60, Try.ntmps60
    go_wp2_with (at_builtin; refine print_append_cells (w0 := W) base rfl (.tmp 23) (.tmp 24) 25 60 (.agg #[.slice none 0 0, .int .u64 0, .bool false, .int .i64 0, .int .u64 0, .int .i64 0, .int .i64 0]) 7 72 rfl Try.underlying25 info60 zero_ent (by decide) (by decide) _ _ cs vs rfl (show _ = Value.slice (some ⟨W.heap.size, 0, none⟩) 1 1 from rfl) hvs HV.out HO.out (Below.refl _ _) hbase (by omega) ?_; intro v1 w1 ho1 hb1 hg1 hat1)
    go_ret
    exact ⟨_, rfl, ho1, hg1, hat1⟩
  · have e1 : ((n : Int) == (n : Int)) = true := by simp
    clear hown h1 hg hcs hct
    unfold maxLen at hcm
    by_cases hcn : cap = n
    all_goals
      go_enter Try.func60, Try.ntmps60
      go_wp2_with (at_builtin; refine print_append_cells (w0 := W) base rfl (.tmp 23) (.tmp 24) 25 60 (.agg #[.slice none 0 0, .int .u64 0, .bool false, .int .i64 0, .int .u64 0, .int .i64 0, .int .i64 0]) 7 72 rfl Try.underlying25 info60 zero_ent (by decide) (by decide) _ _ cs vs rfl (show _ = Value.slice (some ⟨W.heap.size, 0, none⟩) 1 1 from rfl) hvs HV.out HO.out (Below.refl _ _) hbase (by omega) ?_; intro v1 w1 ho1 hb1 hg1 hat1)
      go_ret
      exact ⟨_, rfl, ho1, hg1, hat1⟩
def putL (cur : List Value) (o : Nat) (vs : List Value) : List Value := cur.take o ++ vs ++ cur.drop (o + vs.length)
theorem setCells_blk {b e : Nat} (vs : List Value) : ∀ (o : Nat) (w : World) (cur : Array Value), w.heap[b]? = some (.cells cur e (0, 0)) → o + vs.length ≤ cur.size → ∃ cur' : Array Value, (w.setCells b o vs).heap[b]? = some (.cells cur' e (0, 0)) ∧ cur'.toList = putL cur.toList o vs := by
  induction vs with
  | nil =>
    intro o w cur h _
    exact ⟨cur, h, by simp [putL]⟩
  | cons v r ih =>
    intro o w cur h hl
    simp only [List.length_cons] at hl
    obtain ⟨cur', h1, h2⟩ := ih (o + 1) (w.setCell ⟨b, o, none⟩ v) (cur.setIfInBounds o v) (blk_put h o v rfl) (by simp; omega)
    refine ⟨cur', h1, ?_⟩
    rw [h2]
    unfold putL
    have ho : o < cur.toList.length := by simp; omega
    rw [Array.toList_setIfInBounds, List.take_succ_eq_append_getElem (by simpa using ho), List.getElem_set_self, List.take_set_of_le (Nat.le_refl _), List.drop_set_of_lt (by omega)]
    simp [Nat.add_assoc, Nat.add_comm 1]
theorem setCells_grown (b : Nat) (vs : List Value) : ∀ (o : Nat) (w : World), w.grownBy (w.setCells b o vs) (some b) := by
  induction vs with
  | nil => intro o w; exact World.grownBy.refl w _
  | cons v r ih =>
    intro o w
    have h := ih (o + 1) (w.setCell ⟨b, o, none⟩ v)
    refine ⟨h.os, h.tape, h.output, (by have := h.size; rwa [World.size_setCell] at this), fun k hk hne => ?_⟩
    refine (h.block k (by simpa using hk) hne).trans (Below.heap_setCell w _ v k (fun e => hne (by rw [e])))
theorem grown_trans {w w1 w2 : World} {row : Option Nat} (a : w.grownBy w1 row) (b : w1.grownBy w2 row) : w.grownBy w2 row := ⟨b.os.trans a.os, b.tape.trans a.tape, b.output.trans a.output, Nat.le_trans a.size b.size, fun k hk hne => (b.block k (Nat.lt_of_lt_of_le hk a.size) hne).trans (a.block k hk hne)⟩
theorem grown_drew {w : World} {row : Option Nat} : w.grownBy w.drew row := ⟨rfl, rfl, rfl, Nat.le_refl _, fun _ _ _ => rfl⟩
theorem grown_alloc1 {w : World} {row : Option Nat} (o : Obj) : w.grownBy (w.alloc o) row := World.grownBy_alloc w o row
theorem shifted {A cs vs : List Value} {n i cap : Nat} (hA : A.length = cap * 7) (hcs : A.take (n * 7) = cs) (hi : i < n) (hn : n + 1 ≤ cap) (hv : vs.length = 7) :
    (putL (putL A ((i + 1) * 7) (cs.drop (i * 7))) (i * 7) vs).take ((n + 1) * 7) = cs.take (i * 7) ++ vs ++ cs.drop (i * 7) ∧ (putL (putL A ((i + 1) * 7) (cs.drop (i * 7))) (i * 7) vs).length = cap * 7 := by
  have hcl : cs.length = n * 7 := by rw [← hcs, List.length_take]; omega
  have hD : (cs.drop (i * 7)).length = (n - i) * 7 := by rw [List.length_drop]; omega
  have hB : putL A ((i + 1) * 7) (cs.drop (i * 7)) = A.take ((i + 1) * 7) ++ cs.drop (i * 7) ++ A.drop ((n + 1) * 7) := by
    unfold putL
    rw [hD, show (i + 1) * 7 + (n - i) * 7 = (n + 1) * 7 by omega]
  have hT : A.take (i * 7) = cs.take (i * 7) := by rw [← hcs, List.take_take]; congr 1; omega
  have hC : putL (putL A ((i + 1) * 7) (cs.drop (i * 7))) (i * 7) vs = cs.take (i * 7) ++ vs ++ cs.drop (i * 7) ++ A.drop ((n + 1) * 7) := by
    rw [hB]
    unfold putL
    rw [hv, List.append_assoc (A.take ((i + 1) * 7)), List.take_append_of_le_length (by rw [List.length_take]; omega), List.take_take, show min (i * 7) ((i + 1) * 7) = i * 7 by omega, hT,
      List.drop_append_of_le_length (by rw [List.length_take]; omega), (show (A.take ((i + 1) * 7)).drop (i * 7 + 7) = [] from List.drop_eq_nil_of_le (by rw [List.length_take]; omega))]
    simp
  refine ⟨?_, ?_⟩
  · rw [hC, List.take_append_of_le_length (by simp only [List.length_append, List.length_take, hD, hcl, hv]; omega), List.take_of_length_le (by simp only [List.length_append, List.length_take, hD, hcl, hv]; omega)]
  · rw [hC]
    simp only [List.length_append, List.length_take, hD, hcl, hv, List.length_drop, hA]
    omega
theorem size_ent (w : World) : (Go.sizeOf 60).run Try.prog w = .ok 7 w := by kernel_rfl
theorem insert_shift (W : World) (base g n cap i : Nat) (cur : Array Value) (cs vs : List Value) (hb : base ≤ g) (hg : W.heap[g]? = some (.cells cur 60 (0, 0))) (hcm : cap ≤ maxLen) (hcs : cur.size = cap * 7) (hct : cur.toList.take (n * 7) = cs) (hi : i < n) (hroom : n + 1 ≤ cap) (hn : n ≤ 1000) (hvs : vs.length = 7) (h1 : ∀ u ∈ vs, u.oneCell' = true) (h1c : ∀ u ∈ cs, u.oneCell' = true) :
    Calls Try.prog 60 #[.slice (some ⟨g, 0, none⟩) n cap, .int .i64 i, .slice (some ⟨W.heap.size, 0, none⟩) 1 1] (W.alloc (.cells vs.toArray 60)) (Inserted W base (.slice (some ⟨g, 0, none⟩) n cap) n (cs.take (i * 7) ++ vs ++ cs.drop (i * 7))) := by
  obtain ⟨w, hw⟩ : ∃ w, w = W.alloc (.cells vs.toArray 60) := ⟨_, rfl⟩
  have hgl := blk_lt hg
  have hgw : w.heap[g]? = some (.cells cur 60 (0, 0)) := by rw [hw]; exact blk_alloc hg _
  have hvw : w.heap[W.heap.size]? = some (.cells vs.toArray 60 (0, 0)) := by rw [hw]; exact blk_new _ _
  have hcl : cs.length = n * 7 := by rw [← hct, List.length_take]; simp; omega
  have hdl : (cs.drop (i * 7)).length = (n - i) * 7 := by rw [List.length_drop]; omega
  have hcc : ∀ j u, cs[j]? = some u → w.cell? ⟨g, j, none⟩ = some u := fun j u hj => by
    rw [blk_cell hgw, ← Array.getElem?_toList]
    rw [← hct, List.getElem?_take] at hj
    split at hj
    · exact hj
    · cases hj
  have hsp : ∀ j, j < (n + 1) * 7 → (w.cell? ⟨g, j, none⟩).isSome = true := fun j hj => by
    rw [blk_cell hgw, Array.getElem?_eq_getElem (by omega)]; rfl
  have hfz : ∀ j, w.frozen? ⟨g, j, none⟩ = false := fun j => blk_frozen hgw j
  have hov : ∀ off lb cb, (callFunc 86 #[.slice (some ⟨W.heap.size, 0, none⟩) 1 1, .slice (some ⟨g, off, none⟩) lb cb]).run Try.prog w = .ok (.value (.bool false)) w := fun off lb cb => by
    rw [run_callFunc_extern Try.func86 (by kernel_rfl) (by kernel_rfl) (by kernel_rfl) (e := Extern.SlicesOverlaps.overlaps #[25, 25] #[4]) (by kernel_rfl),
      Lib.run_overlaps_apart w 25 4 60 Try.underlying25 7 size_ent ⟨W.heap.size, 0, none⟩ ⟨g, off, none⟩ 1 1 lb cb (by show W.heap.size ≠ g; omega) 60 60 7 cur.size (by unfold World.shape?; rw [hvw]; simp [hvs]) (by unfold World.shape?; rw [hgw]) (by omega) (blk_frozen hvw _) (blk_frozen hvw _)]
    rfl
  have hsz : (Try.prog.info? 60).map (·.size) = some 7 := by
    obtain ⟨i0, hi0, h0, h1, h2⟩ := info_parts info60
    rw [hi0]; simp [h1]
  have hcp1 : ∀ ty dc sc, (Builtin.copy_ #[25, 25] ty #[.slice (some ⟨g, (i + 1) * 7, none⟩) (n + 1 - (i + 1)) dc, .slice (some ⟨g, i * 7, none⟩) (n + 1 - i) sc]).run Try.prog w.drew = .ok (goInt ((n - i : Nat) : Int)) (w.drew.setCells g ((i + 1) * 7) (cs.drop (i * 7))) := fun ty dc sc =>
    run_copy_sz w.drew _ _ ty 60 7 g ((i + 1) * 7) (n + 1 - (i + 1)) dc ⟨g, i * 7, none⟩ (n + 1 - i) sc (cs.drop (i * 7)) (n - i) Try.underlying25 hsz (by simp only [Nat.min_def]; split <;> omega) hdl
      (fun j v hj => by rw [Addr.add_lit]; exact hcc (i * 7 + j) v (by rwa [List.getElem?_drop] at hj))
      (fun j hj => hsp _ (by omega)) (fun j hj => hfz _) (fun v hv => h1c v (List.mem_of_mem_drop hv))
  obtain ⟨W1, hW1⟩ : ∃ W1, W1 = w.drew.setCells g ((i + 1) * 7) (cs.drop (i * 7)) := ⟨_, rfl⟩
  obtain ⟨cur1, hk1, hl1⟩ : ∃ cur1 : Array Value, W1.heap[g]? = some (.cells cur1 60 (0, 0)) ∧ cur1.toList = putL cur.toList ((i + 1) * 7) (cs.drop (i * 7)) := by
    rw [hW1]; exact setCells_blk _ _ _ cur hgw (by omega)
  have hgr1 : w.drew.grownBy W1 (some g) := by rw [hW1]; exact setCells_grown _ _ _ _
  have hv1 : W1.heap[W.heap.size]? = some (.cells vs.toArray 60 (0, 0)) := blk_grown (show w.drew.heap[W.heap.size]? = _ from hvw) hgr1 (by intro e; injection e with e; omega)
  have hsh := shifted (A := cur.toList) (cs := cs) (vs := vs) (n := n) (i := i) (cap := cap) (by simpa using hcs) hct hi hroom hvs
  have hc1 : cur1.size = cap * 7 := by
    have := congrArg List.length hl1
    simp only [putL, List.length_append, List.length_take, List.length_drop, Array.length_toList, hcs] at this
    rw [this]; omega
  have hcp2 : ∀ ty dc, (Builtin.copy_ #[25, 25] ty #[.slice (some ⟨g, i * 7, none⟩) (n + 1 - i) dc, .slice (some ⟨W.heap.size, 0, none⟩) 1 1]).run Try.prog W1 = .ok (goInt ((1 : Nat) : Int)) (W1.setCells g (i * 7) vs) := fun ty dc =>
    run_copy_sz W1 _ _ ty 60 7 g (i * 7) (n + 1 - i) dc ⟨W.heap.size, 0, none⟩ 1 1 vs 1 Try.underlying25 hsz (by simp only [Nat.min_def]; split <;> omega) (by omega)
      (fun j v hj => by rw [add_plain, blk_cell hv1]; simpa using hj)
      (fun j hj => by rw [blk_cell hk1, Array.getElem?_eq_getElem (by omega)]; rfl) (fun j hj => blk_frozen hk1 _) h1
  obtain ⟨W2, hW2⟩ : ∃ W2, W2 = W1.setCells g (i * 7) vs := ⟨_, rfl⟩
  obtain ⟨cur2, hk2, hl2⟩ : ∃ cur2 : Array Value, W2.heap[g]? = some (.cells cur2 60 (0, 0)) ∧ cur2.toList = putL cur1.toList (i * 7) vs := by
    rw [hW2]; exact setCells_blk _ _ _ cur1 hk1 (by omega)
  have hgr2 : W1.grownBy W2 (some g) := by rw [hW2]; exact setCells_grown _ _ _ _
  have HEND : Hid (W2.ownsRow base 60 7 (.slice (some ⟨g, 0, none⟩) (n + 1) cap) (n + 1) (cs.take (i * 7) ++ vs ++ cs.drop (i * 7)) ∧ W.grownBy W2 (some g)) := Lib.hid (by
    rw [hl1] at hl2
    refine ⟨⟨?_, .inr ⟨g, cap, cur2, rfl, hb, hk2, hroom, hcm, ?_, ?_⟩⟩, ?_⟩
    · simp only [List.length_append, List.length_take, hdl, hvs, hcl]; omega
    · have := congrArg List.length hl2
      rw [hsh.2] at this
      simpa using this
    · rw [hl2]; exact hsh.1
    · have a1 : W.grownBy w (some g) := by rw [hw]; exact grown_alloc1 _
      exact grown_trans a1 (grown_trans grown_drew (grown_trans hgr1 hgr2)))
  rw [← hW1] at hcp1
  rw [← hW2] at hcp2
  unfold maxLen at hcm
  have hz2 : ((i : Int) == (n : Int)) = false := beq_eq_false_iff_ne.2 (by omega)
  have hb2 : ¬ (cap = i + 1) := by omega
  have hb4 : ¬ (cap = i) := by omega
  have hz3 : decide ((cap : Int) < (n : Int) + 1) = false := decide_eq_false (by omega)
  have hin : i ≤ n := by omega
  have hic : i ≤ cap := by omega
  rw [← hw]
  clear hw hgl hgw hvw hcl hdl hcc hsp hfz hW1 hk1 hl1 hgr1 hv1 hsh hc1 hW2 hk2 hl2 hgr2 hg hcs hct h1 h1c
  go_enter Try.func60, Try.ntmps60
  go_wp2_with (simp only [hov])
  have hb1 : (0 : Int) ≤ (i : Int) + 1 := by omega
  have hb3 : (i : Int) ≤ (n : Int) + 1 := by omega
  have hb5 : (i : Int) + 1 ≤ (n : Int) + 1 := by omega
  have htn : ((i : Int) + 1).toNat = i + 1 := by omega
  have hw2 : IntKind.i64.wrap ((i : Int) + 1) = (i : Int) + 1 := by rw [IntKind.wrap_i64]; omega
  go_region_law (refine Go.Proofs.step_copy_runI rfl (.tmp 73) (.tmp 76) 25 25 rfl _ _ (by simp [Act.eval, Act.put]; first | rfl | skip) (by simp [Act.eval, Act.put]; first | rfl | skip) (hcp1 _ _ _) ?_)
  clear hw2 hb1 hb3 hb5 htn
  go_wp2_with ((with_reducible refine Go.Proofs.wpList_copy_runI _ rfl (.tmp 80) (.tmp 81) 25 25 rfl _ _ rfl rfl (hcp2 _ _) ?_))
  go_ret
  exact ⟨_, rfl, HEND.out.1, HEND.out.2, .inl rfl⟩
theorem grown_far {W w w1 : World} {row : Option Nat} {b : Nat} (a : W.grownBy w row) (h : w.grownBy w1 (some b)) (hb : W.heap.size ≤ b) : W.grownBy w1 row :=
  ⟨h.os.trans a.os, h.tape.trans a.tape, h.output.trans a.output, Nat.le_trans a.size h.size, fun k hk hne => (h.block k (Nat.lt_of_lt_of_le hk a.size) (fun e => by injection e with e; omega)).trans (a.block k hk hne)⟩
abbrev zE : Value := .agg #[.slice none 0 0, .int .u64 0, .bool false, .int .i64 0, .int .u64 0, .int .i64 0, .int .i64 0]
theorem zeros_len (k : Nat) : (Builtin.zeroCells zE.cells k).toList.length = k * 7 := by
  have : (Builtin.zeroCells zE.cells k).size = k * 7 := by
    unfold Builtin.zeroCells
    simp [Value.cells]
  simpa using this
theorem row_list (a : List Value) (b c : Array Value) : (a.toArray ++ b ++ c).toList = a ++ b.toList ++ c.toList := by simp
theorem laid {R cs vs : List Value} {n i G : Nat} (hR : R.length = G * 7) (hT : R.take (i * 7) = cs.take (i * 7)) (hcl : cs.length = n * 7) (hi : i < n) (hn : n + 1 ≤ G) (hv : vs.length = 7) :
    (putL (putL R (i * 7) vs) ((i + 1) * 7) (cs.drop (i * 7))).take ((n + 1) * 7) = cs.take (i * 7) ++ vs ++ cs.drop (i * 7) ∧ (putL (putL R (i * 7) vs) ((i + 1) * 7) (cs.drop (i * 7))).length = G * 7 := by
  have hD : (cs.drop (i * 7)).length = (n - i) * 7 := by rw [List.length_drop]; omega
  have hB : putL R (i * 7) vs = cs.take (i * 7) ++ vs ++ R.drop ((i + 1) * 7) := by
    unfold putL
    rw [hv, hT, show i * 7 + 7 = (i + 1) * 7 by omega]
  have hl : (cs.take (i * 7) ++ vs).length = (i + 1) * 7 := by rw [List.length_append, List.length_take, hcl, hv]; omega
  have hC : putL (putL R (i * 7) vs) ((i + 1) * 7) (cs.drop (i * 7)) = cs.take (i * 7) ++ vs ++ cs.drop (i * 7) ++ R.drop ((n + 1) * 7) := by
    rw [hB]
    unfold putL
    rw [hD]
    generalize cs.take (i * 7) ++ vs = L at hl
    rw [List.take_left' hl, List.drop_append, List.drop_eq_nil_of_le (show L.length ≤ (i + 1) * 7 + (n - i) * 7 by omega), hl, List.drop_drop, List.nil_append]
    rw [show (i + 1) * 7 + ((i + 1) * 7 + (n - i) * 7 - (i + 1) * 7) = (n + 1) * 7 by omega]
  refine ⟨?_, ?_⟩
  · rw [hC, List.take_append_of_le_length (by rw [List.length_append, hl, hD]; omega), List.take_of_length_le (by rw [List.length_append, hl, hD]; omega)]
  · rw [hC, List.length_append, List.length_append, hl, hD, List.length_drop, hR]
    omega
theorem insert_grow (W : World) (base g n cap i : Nat) (cur : Array Value) (cs vs : List Value) (hbase : base ≤ W.heap.size) (hg : W.heap[g]? = some (.cells cur 60 (0, 0))) (hnc : n ≤ cap) (hcs : cur.size = cap * 7) (hct : cur.toList.take (n * 7) = cs) (hi : i < n) (hroom : cap < n + 1) (hn : n ≤ 1000) (hvs : vs.length = 7) (h1 : ∀ u ∈ vs, u.oneCell' = true) (h1c : ∀ u ∈ cs, u.oneCell' = true) :
    Calls Try.prog 60 #[.slice (some ⟨g, 0, none⟩) n cap, .int .i64 i, .slice (some ⟨W.heap.size, 0, none⟩) 1 1] (W.alloc (.cells vs.toArray 60)) (Inserted W base (.slice (some ⟨g, 0, none⟩) n cap) n (cs.take (i * 7) ++ vs ++ cs.drop (i * 7))) := by
  obtain ⟨w, hw⟩ : ∃ w, w = W.alloc (.cells vs.toArray 60) := ⟨_, rfl⟩
  have hgl := blk_lt hg
  have hws : w.heap.size = W.heap.size + 1 := by rw [hw]; simp
  have hgw : w.heap[g]? = some (.cells cur 60 (0, 0)) := by rw [hw]; exact blk_alloc hg _
  have hvw : w.heap[W.heap.size]? = some (.cells vs.toArray 60 (0, 0)) := by rw [hw]; exact blk_new _ _
  have hcl : cs.length = n * 7 := by rw [← hct, List.length_take]; simp; omega
  have hdl : (cs.drop (i * 7)).length = (n - i) * 7 := by rw [List.length_drop]; omega
  have hcc : ∀ j u, cs[j]? = some u → w.cell? ⟨g, j, none⟩ = some u := fun j u hj => by
    rw [blk_cell hgw, ← Array.getElem?_toList]
    rw [← hct, List.getElem?_take] at hj
    split at hj
    · exact hj
    · cases hj
  obtain ⟨i0, hi0, hz0, hzs, hzb⟩ := info_parts info60
  have hsz : (Try.prog.info? 60).map (·.size) = some 7 := by rw [hi0]; simp [hzs]
  have hold : (Builtin.firstCells i0.size i (.slice (some ⟨g, 0, none⟩) i cap)).run Try.prog w.drew = .ok (cs.take (i * 7)).toArray w.drew := by
    rw [hzs]
    exact run_firstCells_some w.drew 7 i ⟨g, 0, none⟩ i cap (cs.take (i * 7)) (by rw [List.length_take]; omega) (fun j v hj => by
      rw [add_plain]
      rw [List.getElem?_take] at hj
      split at hj
      · exact hcc j v hj
      · cases hj)
  have hik : i + (n + 1 - i) = n + 1 := by omega
  have hkk : (n : Int) + 1 - (i : Int) = ((n + 1 - i : Nat) : Int) := by omega
  obtain ⟨G, hG⟩ : ∃ G, G = grownCap w (n + 1) cap 60 := ⟨_, rfl⟩
  obtain ⟨ROW, hROW⟩ : ∃ ROW : Array Value, ROW = (cs.take (i * 7)).toArray ++ Builtin.zeroCells zE.cells (n + 1 - i) ++ Builtin.zeroCells zE.cells (G - (n + 1)) := ⟨_, rfl⟩
  have hrz : ∀ ty, (Builtin.append_ #[25, 3] ty #[.slice (some ⟨g, 0, none⟩) i cap, .int .i64 ((n : Int) + 1 - (i : Int))]).run Try.prog w = .ok (.slice (some ⟨w.heap.size, 0, none⟩) (n + 1) G) (w.drew.alloc (.cells ROW 60)) := fun ty => by
    have h := Go.Lib.run_append_grow_zeros w 25 3 ty 60 i0 zE .i64 .i64 Try.underlying25 Try.underlying3 hi0 hz0 (some ⟨g, 0, none⟩) i cap (cs.take (i * 7)) hold (n + 1 - i) (by omega) (by omega) (by omega) (by omega) (by rw [hzb]; omega) (by rw [hzb, hik]; exact growslice_fits hroom (by omega))
    rw [hik, ← hG, ← hROW] at h
    rw [hkk]
    exact h
  have hGn : n + 1 ≤ G := by rw [hG]; exact grownCap_ge w _ _ _
  have hGm : G ≤ maxLen := by rw [hG]; exact grownCap_le_maxLen w (n + 1) cap 60 (by unfold maxLen; omega)
  have hRl : ROW.toList.length = G * 7 := by
    rw [hROW]
    rw [row_list]
    simp only [List.length_append, List.length_take, hcl, zeros_len]
    omega
  have hRT : ROW.toList.take (i * 7) = cs.take (i * 7) := by
    rw [hROW]
    rw [row_list, List.append_assoc, List.take_append_of_le_length (by rw [List.length_take, hcl]; omega), List.take_take, Nat.min_self]
  obtain ⟨W1, hW1⟩ : ∃ W1, W1 = w.drew.alloc (.cells ROW 60) := ⟨_, rfl⟩
  have hN1 : W1.heap[w.heap.size]? = some (.cells ROW 60 (0, 0)) := by rw [hW1]; exact blk_new w.drew _
  have hg1 : W1.heap[g]? = some (.cells cur 60 (0, 0)) := by rw [hW1]; exact blk_alloc (show w.drew.heap[g]? = _ from hgw) _
  have hv1 : W1.heap[W.heap.size]? = some (.cells vs.toArray 60 (0, 0)) := by rw [hW1]; exact blk_alloc (show w.drew.heap[W.heap.size]? = _ from hvw) _
  have hRs : ROW.size = G * 7 := by simpa using hRl
  have hcpA : ∀ ty dc, (Builtin.copy_ #[25, 25] ty #[.slice (some ⟨w.heap.size, i * 7, none⟩) (n + 1 - i) dc, .slice (some ⟨W.heap.size, 0, none⟩) 1 1]).run Try.prog W1 = .ok (goInt ((1 : Nat) : Int)) (W1.setCells w.heap.size (i * 7) vs) := fun ty dc =>
    run_copy_sz W1 _ _ ty 60 7 w.heap.size (i * 7) (n + 1 - i) dc ⟨W.heap.size, 0, none⟩ 1 1 vs 1 Try.underlying25 hsz (by simp only [Nat.min_def]; split <;> omega) (by omega)
      (fun j v hj => by rw [add_plain, blk_cell hv1]; simpa using hj)
      (fun j hj => by rw [blk_cell hN1, Array.getElem?_eq_getElem (by omega)]; rfl) (fun j hj => blk_frozen hN1 _) h1
  obtain ⟨W2, hW2⟩ : ∃ W2, W2 = W1.setCells w.heap.size (i * 7) vs := ⟨_, rfl⟩
  obtain ⟨cur2, hk2, hl2⟩ : ∃ cur2 : Array Value, W2.heap[w.heap.size]? = some (.cells cur2 60 (0, 0)) ∧ cur2.toList = putL ROW.toList (i * 7) vs := by
    rw [hW2]; exact setCells_blk _ _ _ ROW hN1 (by omega)
  have hgr2 : W1.grownBy W2 (some w.heap.size) := by rw [hW2]; exact setCells_grown _ _ _ _
  have hg2 : W2.heap[g]? = some (.cells cur 60 (0, 0)) := blk_grown hg1 hgr2 (by intro e; injection e with e; omega)
  have hc2 : cur2.size = G * 7 := by
    have := congrArg List.length hl2
    simp only [putL, List.length_append, List.length_take, List.length_drop, hRl, hvs] at this
    have h : cur2.toList.length = cur2.size := by simp
    omega
  have hcpB : ∀ ty dc sc, (Builtin.copy_ #[25, 25] ty #[.slice (some ⟨w.heap.size, (i + 1) * 7, none⟩) (n + 1 - (i + 1)) dc, .slice (some ⟨g, i * 7, none⟩) (n - i) sc]).run Try.prog W2.drew = .ok (goInt ((n - i : Nat) : Int)) (W2.drew.setCells w.heap.size ((i + 1) * 7) (cs.drop (i * 7))) := fun ty dc sc =>
    run_copy_sz W2.drew _ _ ty 60 7 w.heap.size ((i + 1) * 7) (n + 1 - (i + 1)) dc ⟨g, i * 7, none⟩ (n - i) sc (cs.drop (i * 7)) (n - i) Try.underlying25 hsz (by simp only [Nat.min_def]; split <;> omega) hdl
      (fun j v hj => by
        rw [Addr.add_lit, blk_cell (show W2.drew.heap[g]? = _ from hg2), ← blk_cell hgw]
        exact hcc (i * 7 + j) v (by rwa [List.getElem?_drop] at hj))
      (fun j hj => by rw [blk_cell (show W2.drew.heap[w.heap.size]? = _ from hk2), Array.getElem?_eq_getElem (by omega)]; rfl) (fun j hj => blk_frozen (show W2.drew.heap[w.heap.size]? = _ from hk2) _) (fun v hv => h1c v (List.mem_of_mem_drop hv))
  obtain ⟨W3, hW3⟩ : ∃ W3, W3 = W2.drew.setCells w.heap.size ((i + 1) * 7) (cs.drop (i * 7)) := ⟨_, rfl⟩
  obtain ⟨cur3, hk3, hl3⟩ : ∃ cur3 : Array Value, W3.heap[w.heap.size]? = some (.cells cur3 60 (0, 0)) ∧ cur3.toList = putL cur2.toList ((i + 1) * 7) (cs.drop (i * 7)) := by
    rw [hW3]; exact setCells_blk _ _ _ cur2 hk2 (by omega)
  have hgr3 : W2.drew.grownBy W3 (some w.heap.size) := by rw [hW3]; exact setCells_grown _ _ _ _
  have hsh := laid (R := ROW.toList) (cs := cs) (vs := vs) (n := n) (i := i) (G := G) hRl hRT hcl hi hGn hvs
  have HEND : Hid (W3.ownsRow base 60 7 (.slice (some ⟨w.heap.size, 0, none⟩) (n + 1) G) (n + 1) (cs.take (i * 7) ++ vs ++ cs.drop (i * 7)) ∧ W.grownBy W3 (some g) ∧ W.heap.size ≤ w.heap.size) := Lib.hid (by
    rw [hl2] at hl3
    refine ⟨⟨?_, .inr ⟨w.heap.size, G, cur3, rfl, by omega, hk3, hGn, hGm, ?_, ?_⟩⟩, ?_, by omega⟩
    · simp only [List.length_append, List.length_take, hdl, hvs, hcl]; omega
    · have := congrArg List.length hl3
      rw [hsh.2] at this
      simpa using this
    · rw [hl3]; exact hsh.1
    · have a1 : W.grownBy w (some g) := by rw [hw]; exact grown_alloc1 _
      have a2 : W.grownBy W1 (some g) := grown_trans a1 (grown_trans grown_drew (by rw [hW1]; exact grown_alloc1 _))
      exact grown_far (grown_trans (grown_far a2 hgr2 (by omega)) grown_drew) hgr3 (by omega))
  rw [← hW1] at hrz
  rw [← hW2] at hcpA
  rw [← hW3] at hcpB
  unfold maxLen at hGm
  have hz2 : ((i : Int) == (n : Int)) = false := beq_eq_false_iff_ne.2 (by omega)
  have hb2 : ¬ (G = i + 1) := by omega
  have hb4 : ¬ (G = i) := by omega
  have hb6 : ¬ (cap = i) := by omega
  have hz3 : decide ((cap : Int) < (n : Int) + 1) = true := decide_eq_true (by omega)
  have hin : i ≤ n := by omega
  have hic : i ≤ cap := by omega
  rw [← hw]
  clear hw hgl hgw hvw hcl hdl hcc hsz hold hik hkk hG hROW hRl hRT hW1 hN1 hg1 hv1 hRs hW2 hk2 hl2 hgr2 hg2 hc2 hW3 hk3 hl3 hgr3 hsh hg hcs hct h1 h1c hi0 hz0 hzs hzb hws
  go_enter Try.func60, Try.ntmps60
  go_wp2_with (first
    | ((with_reducible refine Go.Lib.wpList_append_run _ rfl (.tmp 34) (.tmp 39) _ _ rfl _ _ rfl rfl _ _ (hrz _) ?_))
    | ((with_reducible refine Go.Proofs.wpList_copy_runI _ rfl (.tmp 43) (.tmp 44) 25 25 rfl _ _ rfl rfl (hcpA _ _) ?_)))
  have hb1 : (0 : Int) ≤ (i : Int) + 1 := by omega
  have hb3 : (i : Int) ≤ (n : Int) := by omega
  have hb5 : (i : Int) + 1 ≤ (n : Int) + 1 := by omega
  have htn : ((i : Int) + 1).toNat = i + 1 := by omega
  have hw2 : IntKind.i64.wrap ((i : Int) + 1) = (i : Int) + 1 := by rw [IntKind.wrap_i64]; omega
  go_region_law (refine Go.Proofs.step_copy_runI rfl (.tmp 50) (.tmp 53) 25 25 rfl _ _ (by simp [Act.eval, Act.put]; first | rfl | skip) (by simp [Act.eval, Act.put]; first | rfl | skip) (hcpB _ _ _) ?_)
  clear hw2 hb1 hb3 hb5 htn
  go_wp2
  go_ret
  exact ⟨_, rfl, HEND.out.1, HEND.out.2.1, .inr ⟨_, rfl, HEND.out.2.2⟩⟩
theorem reps_ins {α : Type} {R : α → List Value → Prop} {size : Nat} {ps : List α} {cs c : List Value} {p : α} (h : Reps R size ps cs) (hp : R p c) (hc : c.length = size) (i : Nat) (hi : i ≤ ps.length) : Reps R size (ps.take i ++ [p] ++ ps.drop i) (cs.take (i * size) ++ c ++ cs.drop (i * size)) :=
  Kd.reps_append ((Kd.reps_take h hi).snoc hp hc) (Kd.reps_drop h)
theorem insert_row (W : World) (base : Nat) (v : Value) (xs : List S60) (i : Nat) (p : S60) (vs : List Value) (okp : Nat → Prop) (HO : Kd.R k60 60 W base (fun _ => True) v xs) (hp : k60.M W base okp p vs) (hokp : ∀ k, okp k → some k ≠ v.ownBlock) (hbase : base ≤ W.heap.size) (hn : xs.length ≤ 1000) (hi : i ≤ xs.length) :
    Calls Try.prog 60 #[v, .int .i64 i, .slice (some ⟨W.heap.size, 0, none⟩) 1 1] (W.alloc (.cells vs.toArray 60)) fun e w' =>
      ∃ v', e = .returned v' ∧ Kd.R k60 60 w' base (fun _ => True) v' (xs.take i ++ [p] ++ xs.drop i) ∧ W.grownBy w' v.ownBlock ∧ (v'.ownBlock = v.ownBlock ∨ ∃ b, v'.ownBlock = some b ∧ W.heap.size ≤ b) := by
  obtain ⟨h0, inner, hown, hr⟩ := HO
  have hvs : vs.length = 7 := Kd.K_len _ (Kd.K_of_M _ hp)
  have h1 : ∀ u ∈ vs, u.oneCell' = true := Kd.K_one _ (Kd.K_of_M _ hp)
  have h1c : ∀ u ∈ inner, u.oneCell' = true := Kd.reps_one hr (show 0 < 7 by decide) (fun p c hpc => Kd.K_one _ (Kd.K_of_M _ hpc))
  have hown7 : W.ownsRow base 60 7 v xs.length inner := hown
  have hl : inner.length = xs.length * 7 := hown7.1
  have HI : Calls Try.prog 60 #[v, .int .i64 i, .slice (some ⟨W.heap.size, 0, none⟩) 1 1] (W.alloc (.cells vs.toArray 60)) (Inserted W base v xs.length (inner.take (i * 7) ++ vs ++ inner.drop (i * 7))) := by
    rcases Nat.lt_or_ge i xs.length with hlt | hge
    · rcases hown7.2 with ⟨_, h⟩ | ⟨g, cap, cur, rfl, hb, hg, hnc, hcm, hcs, hct⟩
      · omega
      · by_cases hroom : xs.length + 1 ≤ cap
        · exact insert_shift W base g xs.length cap i cur inner vs hb hg hcm hcs hct hlt hroom hn hvs h1 h1c
        · exact insert_grow W base g xs.length cap i cur inner vs hbase hg hnc hcs hct hlt (by omega) hn hvs h1 h1c
    · obtain rfl : i = xs.length := by omega
      rw [List.take_of_length_le (by omega), List.drop_eq_nil_of_le (by omega), List.append_nil]
      exact insert_end W base v xs.length inner vs hown7 hbase hn hvs h1
  refine HI.mono ?_
  rintro e w' ⟨v', rfl, how, hg, hat⟩
  have hne : ∀ k, some k ≠ v.ownBlock → k < W.heap.size → some k ≠ v'.ownBlock := by
    intro k hk hlt
    rcases hat with hat | ⟨b, hb, hle⟩
    · rw [hat]; exact hk
    · rw [hb]
      intro he
      injection he with he
      omega
  have step : ∀ {q : S60} {c : List Value} {o : Nat → Prop}, k60.M W base o q c → (∀ k, o k → some k ≠ v.ownBlock) → k60.M w' base (fun k => True ∧ some k ≠ v'.ownBlock) q c := by
    intro q c o hq ho
    have h1 := Kd.M_move _ (w1 := w') (fun k hk => hg.block k hk.2.2.1 (ho k hk.1)) (Kd.M_bound _ hq)
    exact Kd.M_mono _ (fun k hk => ⟨trivial, hne k (ho k hk.1) hk.2.2.1⟩) h1
  have hlen : (xs.take i ++ [p] ++ xs.drop i).length = xs.length + 1 := by
    simp only [List.length_append, List.length_take, List.length_drop, List.length_singleton]; omega
  exact ⟨v', rfl, ⟨fun _ _ => trivial, _, by rw [hlen]; exact how, reps_ins (hr.imp_ (fun _ _ hq => step hq (fun _ hk => hk.2))) (step hp hokp) hvs i hi⟩, hg, hat⟩
end Go.Proofs.Ytdopbhbbpgfliaa.PAsk
end
