import Derived.Test.YtjemmmemenljbaaZFoldFolds18
import Derived.Test.YtjemmmemenljbaaZFoldFolds19
import Derived.Shelf.RegionOpenPlain
import Derived.Lib.Walk
import Derived.Lib.SliceRun
import Derived.Lib.JoinLaws
import Derived.Lib.AppendZeros
import Derived.Lib.Overlaps
import Derived.Lib.AppendZerosOnto
import Derived.Shelf.Spec.SlicesInsert
import Derived.Laws.NewBlocks
import Derived.Deep.RegionLaw
import Derived.Deep.RegionWith
section
namespace Go.Proofs.Ytjemmmemenljbaa.PFold
open Go.RowKit Go.Proofs.YtjemmmemenljbaaW.PrintWords Go.Proofs.YtjemmmemenljbaaW.PrintLast Go.Proofs.YtjemmmemenljbaaW.PrintMore
set_option linter.unusedVariables false
set_option linter.unusedSimpArgs false
set_option maxHeartbeats 8000000
set_option maxRecDepth 100000
abbrev En := S51
def CmpEnt (g : Nat) : Prop := ∀ (W : World) (A : Option Addr) (c : Nat) (x : En) (B : Option Addr) (d : Nat) (b : List Int), Kd.C (Kd.int .u8) W A x.f0.length x.f0 → x.f0.length ≤ c → Kd.C (Kd.int .u8) W B b.length b → b.length ≤ d → x.f0.all isB = true → b.all isB = true →
  Calls Try.prog g #[.agg #[.slice A x.f0.length c, .int .u64 x.f1.f0, .bool x.f1.f1, .int .i64 x.f1.f2.f0, .int .u64 x.f1.f2.f1, .int .i64 x.f1.f3, .int .i64 x.f1.f4], .slice B b.length d] W fun e w' => e = .returned (.int .i64 (cmpB x.f0 b)) ∧ Below W.heap.size W w'
theorem cmp_fold : CmpEnt 39 := by
  intro W A c x B d b hA hc hB hd hx hb
  have H : Hid (bytes_Compare.f x.f0 b = some (cmpB x.f0 b)) := Lib.hid (by unfold bytes_Compare.f; rw [if_pos ⟨hx, hb⟩])
  have HA := Lib.hid hA; have HB := Lib.hid hB
  clear hA hB hx hb
  go_enter Try.func39, Try.ntmps39
  go_wp2_with (go_at_call 33; refine (bytes_Compare.calls A c x.f0 B d b _ _ (Kd.C_below HA.out ((Below.refl _ _).alloc (Nat.le_refl _) _)) hc (Kd.C_below HB.out ((Below.refl _ _).alloc (Nat.le_refl _) _)) hd H.out).mono ?_; rintro e w' ⟨rfl, hw⟩; have HW := Lib.hid hw.below; clear hw)
  go_ret
  exact ⟨rfl, below_step ((Below.refl _ _).alloc (Nat.le_refl _) _) HW.out⟩
theorem cmp_facts : CmpEnt 32 := by
  intro W A c x B d b hA hc hB hd hx hb
  have H : Hid (bytes_Compare.f x.f0 b = some (cmpB x.f0 b)) := Lib.hid (by unfold bytes_Compare.f; rw [if_pos ⟨hx, hb⟩])
  have HA := Lib.hid hA; have HB := Lib.hid hB
  clear hA hB hx hb
  go_enter Try.func32, Try.ntmps32
  go_wp2_with (go_at_call 33; refine (bytes_Compare.calls A c x.f0 B d b _ _ (Kd.C_below HA.out ((Below.refl _ _).alloc (Nat.le_refl _) _)) hc (Kd.C_below HB.out ((Below.refl _ _).alloc (Nat.le_refl _) _)) hd H.out).mono ?_; rintro e w' ⟨rfl, hw⟩; have HW := Lib.hid hw.below; clear hw)
  go_ret
  exact ⟨rfl, below_step ((Below.refl _ _).alloc (Nat.le_refl _) _) HW.out⟩
def bsF (l : List En) (b : List Int) : Nat → Nat → Nat → Nat
  | 0, i, _ => i
  | f + 1, i, j => if i < j then (if cmpB (rd_T51 l (((i + j) / 2 : Nat) : Int)).f0 b < 0 then bsF l b f ((i + j) / 2 + 1) j else bsF l b f i ((i + j) / 2)) else i
def placeE (l : List En) (b : List Int) : Nat := bsF l b l.length 0 l.length
def thereE (l : List En) (b : List Int) : Bool := decide (placeE l b < l.length) && (cmpB (rd_T51 l ((placeE l b : Nat) : Int)).f0 b == 0)
theorem bsF_le (l : List En) (b : List Int) (f : Nat) : ∀ i j : Nat, i ≤ j → bsF l b f i j ≤ j ∧ i ≤ bsF l b f i j := by
  induction f with
  | zero => intro i j h; exact ⟨h, Nat.le_refl _⟩
  | succ f ih =>
    intro i j h
    unfold bsF
    split
    · split
      · have := ih ((i + j) / 2 + 1) j (by omega); omega
      · have := ih i ((i + j) / 2) (by omega); omega
    · exact ⟨h, Nat.le_refl _⟩
theorem rd_ent {l : List En} {j : Nat} (h : j < l.length) : rd_T51 l (j : Int) = l[j] := by
  unfold rd_T51
  rw [show ((j : Int)).toNat = j from by omega, List.getD_eq_getElem?_getD, List.getElem?_eq_getElem h]
  rfl
def SrchRel (w : World) (l : List En) (b : List Int) (i j : Nat) (wr : World) : Prop := Below w.heap.size w wr ∧ i ≤ j ∧ j ≤ l.length ∧ ∃ f, j ≤ i + f ∧ bsF l b f i j = placeE l b
theorem search_ents (g : Nat) (hg : CmpEnt g) (eg : ∀ args w, (callFunc g args).run Try.prog w = .ok (.enter g args) w) (A0 : Option Addr) (c0 : Nat) (l0 : List En) (B : Option Addr) (d : Nat) (b : List Int) (w : World) (hr0 : Kd.C k51 w A0 l0.length l0) (hl : l0.length ≤ 1000) (hb : Kd.C (Kd.int .u8) w B b.length b) (hd : b.length ≤ d) (hx : ∀ x ∈ l0, x.f0.all isB = true) (hbb : b.all isB = true) :
    Calls Try.prog 31 #[.slice A0 l0.length c0, .slice B b.length d, .func (.func g) #[] #[]] w fun e w' => e = .returned (.tuple #[.int .i64 (placeE l0 b : Nat), .bool (thereE l0 b)]) ∧ Below w.heap.size w w' := by
  have HC := Lib.hid hr0; have HB := Lib.hid hb; have HX := Lib.hid hx; have HBB := Lib.hid hbb; have HG := Lib.hid hg
  clear hr0 hb hx hbb hg
  go_enter Try.func31, Try.ntmps31
  go_wp2
  go_loopw [9, 10, 11] (fun v9 v10 _ wr => ∃ i j : Nat, v9 = .int .i64 i ∧ v10 = .int .i64 j ∧ SrchRel w l0 b i j wr) (fun v9 v10 _ _ => (intOf v10).toNat - (intOf v9).toNat)
  case atStart => exact ⟨0, l0.length, rfl, rfl, Below.refl _ _, Nat.zero_le _, Nat.le_refl _, l0.length, by omega, rfl⟩
  case round =>
    obtain ⟨i, j, rfl, rfl, hB, hij, hj, f, hf, hR⟩ := hrel
    have HBW := Lib.hid hB; have HR := Lib.hid hR
    clear hB hR
    by_cases hlt : i < j
    · have e1 : decide ((i : Int) < (j : Int)) = true := decide_eq_true (by omega)
      have e2 : decide (i < j) = true := decide_eq_true hlt
      obtain ⟨h, hh⟩ : ∃ h, h = (i + j) / 2 := ⟨_, rfl⟩
      have hhl : h < l0.length := by omega
      have hh1 : i ≤ h := by omega
      have hh2 : h < j := by omega
      go_upto_region 5 with (fail)
      have hq : ((i : Int) + (j : Int)) / 2 = (h : Int) := by omega
      rw [hq]
      have HH := Lib.hid hh
      clear hq hh e1 e2
      obtain ⟨ad, A1, c1, ha, hx0, hx1, hx2, hx3, hx4, hx5, hx6, hlc, hin⟩ := at_T51 HC.out (h : Int) (by omega) (by omega)
      subst ha
      have HIN := Lib.hid (Kd.C_below hin HBW.out)
      have hxx := rd_ent hhl
      obtain ⟨x, hx⟩ : ∃ x, x = rd_T51 l0 (h : Int) := ⟨_, rfl⟩
      have hisb : Hid (x.f0.all isB = true) := Lib.hid (HX.out x (by rw [hx, hxx]; exact List.getElem_mem _))
      rw [← hx] at hx0 hx1 hx2 hx3 hx4 hx5 hx6 hlc HIN
      simp only [Int.toNat_natCast] at hx0 hx1 hx2 hx3 hx4 hx5 hx6
      replace hx0 := (HBW.out.cell (World.block_lt_of_cell? w _ hx0)).trans hx0
      replace hx1 := (HBW.out.cell (World.block_lt_of_cell? w _ hx1)).trans hx1
      replace hx2 := (HBW.out.cell (World.block_lt_of_cell? w _ hx2)).trans hx2
      replace hx3 := (HBW.out.cell (World.block_lt_of_cell? w _ hx3)).trans hx3
      replace hx4 := (HBW.out.cell (World.block_lt_of_cell? w _ hx4)).trans hx4
      replace hx5 := (HBW.out.cell (World.block_lt_of_cell? w _ hx5)).trans hx5
      replace hx6 := (HBW.out.cell (World.block_lt_of_cell? w _ hx6)).trans hx6
      have HXR := Lib.hid hx
      have hcall := Lib.hid (HG.out wr A1 c1 x B d b HIN.out hlc (Kd.C_below HB.out HBW.out) hd hisb.out HBB.out)
      clear hx hxx hin hlc
      have hst : Hid (∀ f', f = f' + 1 → (if cmpB x.f0 b < 0 then bsF l0 b f' (h + 1) j else bsF l0 b f' i h) = placeE l0 b) := Lib.hid (fun f' e => by
        rw [← HR.out, e, HXR.out, HH.out]
        conv => rhs; unfold bsF
        rw [if_pos hlt])
      obtain ⟨f', hf'⟩ : ∃ f', f = f' + 1 := ⟨f - 1, by omega⟩
      have hst2 := Lib.hid (hst.out f' hf')
      generalize hcm : cmpB x.f0 b = cm at *
      have HCM := Lib.hid hcm
      clear hcm hst
      by_cases hneg : cm < 0
      · have d1 : decide (cm < 0) = true := decide_eq_true hneg
        have hst3 : Hid (bsF l0 b f' (h + 1) j = placeE l0 b) := Lib.hid (by have := hst2.out; rwa [if_pos hneg] at this)
        clear hneg hst2
        go_wp2_with (go_at_fn g; refine hcall.out.mono ?_; rintro e w' ⟨rfl, hb'⟩; have HB' := Lib.hid hb'; clear hb')
        go_roundw
        case rel => exact ⟨h + 1, j, by go_num, rfl, below_step HBW.out HB'.out, hh2, hj, f', by omega, hst3.out⟩
        case measure => simp [intOf]; omega
      · have d1 : decide (cm < 0) = false := decide_eq_false hneg
        have hst3 : Hid (bsF l0 b f' i h = placeE l0 b) := Lib.hid (by have := hst2.out; rwa [if_neg hneg] at this)
        clear hneg hst2
        go_wp2_with (go_at_fn g; refine hcall.out.mono ?_; rintro e w' ⟨rfl, hb'⟩; have HB' := Lib.hid hb'; clear hb')
        go_roundw
        case rel => exact ⟨i, h, rfl, rfl, below_step HBW.out HB'.out, hh1, by omega, f', by omega, hst3.out⟩
        case measure => simp [intOf]; omega
    · have e1 : decide ((i : Int) < (j : Int)) = false := decide_eq_false (by omega)
      have e2 : decide (i < j) = false := decide_eq_false hlt
      obtain rfl : i = j := by omega
      have hpl : placeE l0 b = i := by
        rw [← HR.out]
        have := bsF_le l0 b f i i (Nat.le_refl _)
        omega
      by_cases hil : i < l0.length
      · have d1 : decide ((i : Int) < (l0.length : Int)) = true := decide_eq_true (by omega)
        have d2 : decide (i < l0.length) = true := decide_eq_true hil
        obtain ⟨ad, A1, c1, ha, hx0, hx1, hx2, hx3, hx4, hx5, hx6, hlc, hin⟩ := at_T51 HC.out (i : Int) (by omega) (by omega)
        subst ha
        have HIN := Lib.hid (Kd.C_below hin HBW.out)
        have hxx := rd_ent hil
        obtain ⟨x, hx⟩ : ∃ x, x = rd_T51 l0 (i : Int) := ⟨_, rfl⟩
        have hisb : Hid (x.f0.all isB = true) := Lib.hid (HX.out x (by rw [hx, hxx]; exact List.getElem_mem _))
        rw [← hx] at hx0 hx1 hx2 hx3 hx4 hx5 hx6 hlc HIN
        simp only [Int.toNat_natCast] at hx0 hx1 hx2 hx3 hx4 hx5 hx6
        replace hx0 := (HBW.out.cell (World.block_lt_of_cell? w _ hx0)).trans hx0
        replace hx1 := (HBW.out.cell (World.block_lt_of_cell? w _ hx1)).trans hx1
        replace hx2 := (HBW.out.cell (World.block_lt_of_cell? w _ hx2)).trans hx2
        replace hx3 := (HBW.out.cell (World.block_lt_of_cell? w _ hx3)).trans hx3
        replace hx4 := (HBW.out.cell (World.block_lt_of_cell? w _ hx4)).trans hx4
        replace hx5 := (HBW.out.cell (World.block_lt_of_cell? w _ hx5)).trans hx5
        replace hx6 := (HBW.out.cell (World.block_lt_of_cell? w _ hx6)).trans hx6
        have HXR := Lib.hid hx
        have hcall := Lib.hid (HG.out wr A1 c1 x B d b HIN.out hlc (Kd.C_below HB.out HBW.out) hd hisb.out HBB.out)
        clear hx hxx hin hlc
        have hth : Hid (thereE l0 b = (cmpB x.f0 b == 0)) := Lib.hid (by
          unfold thereE
          rw [hpl, decide_eq_true hil, HXR.out]
          rfl)
        have HPL := Lib.hid hpl
        clear hpl
        generalize hcm : cmpB x.f0 b = cm at *
        clear hcm
        cases hz : (cm == 0)
        all_goals
          rw [hz] at hth
          have HZ := Lib.hid hz
          go_wp2_with (go_at_fn g; refine hcall.out.mono ?_; rintro e w' ⟨rfl, hb'⟩; have HB' := Lib.hid hb'; clear hb')
          go_ret2
          exact ⟨by rw [hth.out, HPL.out]; rfl, below_step HBW.out HB'.out⟩
      · have d1 : decide ((i : Int) < (l0.length : Int)) = false := decide_eq_false (by omega)
        have d2 : decide (i < l0.length) = false := decide_eq_false hil
        have hth : Hid (thereE l0 b = false) := Lib.hid (by
          unfold thereE
          rw [hpl, decide_eq_false hil]
          rfl)
        have HPL := Lib.hid hpl
        clear hpl
        go_wp2
        go_ret2
        exact ⟨by rw [hth.out, HPL.out]; rfl, HBW.out⟩
end Go.Proofs.Ytjemmmemenljbaa.PFold
end
section
namespace Go.Proofs.Ytjemmmemenljbaa.PFold
open Go.RowKit Go.Proofs.YtjemmmemenljbaaW.PrintWords Go.Proofs.YtjemmmemenljbaaW.PrintLast Go.Proofs.YtjemmmemenljbaaW.PrintMore Go.Lib
set_option linter.unusedVariables false
set_option linter.unusedSimpArgs false
set_option maxHeartbeats 8000000
set_option maxRecDepth 100000
theorem run_copy_sz {P : Program} (w : World) (dT sT ty elem : TypeId) (size : Nat) (b o dLen dCap : Nat) (a : Addr) (sLen sCap : Nat) (cs : List Value) (n : Nat)
    (hu : P.underlying dT = some (.slice elem)) (hs : (P.info? elem).map (·.size) = some size) (hn : n = Nat.min sLen dLen) (hc0 : cs.length = n * size)
    (hsrc : ∀ j v, cs[j]? = some v → w.cell? (a.add j) = some v) (hc : ∀ j, j < cs.length → (w.cell? ⟨b, o + j, none⟩).isSome = true) (hf : ∀ j, j < cs.length → w.frozen? ⟨b, o + j, none⟩ = false) (h1 : ∀ v ∈ cs, v.oneCell' = true) :
    (Builtin.copy_ #[dT, sT] ty #[.slice (some ⟨b, o, none⟩) dLen dCap, .slice (some a) sLen sCap]).run P w = .ok (goInt n) (w.setCells b o cs) := by
  have hl := run_loadCells_list (P := P) w a cs hsrc
  have hst := run_storeCells_cells (P := P) b o cs 0 w (by simpa using hc) (by simpa using hf) h1
  cases hq : P.info? elem with
  | none => simp [hq] at hs
  | some i =>
    have hi : i.size = size := by simpa [hq] using hs
    simp [Builtin.copy_, run_underlying hu, Builtin.lenOf, Builtin.firstCells, sizeOf, typeInfo, hq, hi, ← hn, ← hc0, hl, hst]
def Inserted (W : World) (base : Nat) (v : Value) (n : Nat) (cells : List Value) (e : Ending) (w' : World) : Prop :=
  ∃ v', e = .returned v' ∧ w'.ownsRow base 51 7 v' (n + 1) cells ∧ W.grownBy w' v.ownBlock ∧ (v'.ownBlock = v.ownBlock ∨ ∃ b, v'.ownBlock = some b ∧ W.heap.size ≤ b)
theorem zero_ent : (Value.agg #[.slice none 0 0, .int .u64 0, .bool false, .int .i64 0, .int .u64 0, .int .i64 0, .int .i64 0]).cells.size = 7 := by decide
theorem insert_end (W : World) (base : Nat) (v : Value) (n : Nat) (cs vs : List Value) (hown : W.ownsRow base 51 7 v n cs) (hbase : base ≤ W.heap.size) (hn : n ≤ 1000) (hvs : vs.length = 7) (h1 : ∀ u ∈ vs, u.oneCell' = true) :
    Calls Try.prog 34 #[v, .int .i64 n, .slice (some ⟨W.heap.size, 0, none⟩) 1 1] (W.alloc (.cells vs.toArray 51)) (Inserted W base v n (cs ++ vs)) := by
  have HO := Lib.hid hown; have HV := Lib.hid h1
  rcases hown.2 with ⟨rfl, rfl⟩ | ⟨g, cap, cur, rfl, hb, hg, hnc, hcm, hcs, hct⟩
  · clear hown h1
    go_enter Try.func34, Try.ntmps34
    go_wp2_with (at_builtin; refine print_append_cells (w0 := W) base rfl (.tmp 23) (.tmp 24) 28 51 (.agg #[.slice none 0 0, .int .u64 0, .bool false, .int .i64 0, .int .u64 0, .int .i64 0, .int .i64 0]) 7 72 rfl Try.underlying28 info51 zero_ent (by decide) (by decide) _ _ cs vs rfl (show _ = Value.slice (some ⟨W.heap.size, 0, none⟩) 1 1 from rfl) hvs HV.out HO.out (Below.refl _ _) hbase (by omega) ?_; intro v1 w1 ho1 hb1 hg1 hat1)
    go_ret
    exact ⟨_, rfl, ho1, hg1, hat1⟩
  · have e1 : ((n : Int) == (n : Int)) = true := by simp
    clear hown h1 hg hcs hct
    unfold maxLen at hcm
    by_cases hcn : cap = n
    all_goals
      go_enter Try.func34, Try.ntmps34
      go_wp2_with (at_builtin; refine print_append_cells (w0 := W) base rfl (.tmp 23) (.tmp 24) 28 51 (.agg #[.slice none 0 0, .int .u64 0, .bool false, .int .i64 0, .int .u64 0, .int .i64 0, .int .i64 0]) 7 72 rfl Try.underlying28 info51 zero_ent (by decide) (by decide) _ _ cs vs rfl (show _ = Value.slice (some ⟨W.heap.size, 0, none⟩) 1 1 from rfl) hvs HV.out HO.out (Below.refl _ _) hbase (by omega) ?_; intro v1 w1 ho1 hb1 hg1 hat1)
      go_ret
      exact ⟨_, rfl, ho1, hg1, hat1⟩
def putL (cur : List Value) (o : Nat) (vs : List Value) : List Value := cur.take o ++ vs ++ cur.drop (o + vs.length)
theorem setCells_blk {b e : Nat} (vs : List Value) : ∀ (o : Nat) (w : World) (cur : Array Value), w.heap[b]? = some (.cells cur e (0, 0)) → o + vs.length ≤ cur.size → ∃ cur' : Array Value, (w.setCells b o vs).heap[b]? = some (.cells cur' e (0, 0)) ∧ cur'.toList = putL cur.toList o vs := by
  induction vs with
  | nil =>
    intro o w cur h _
    exact ⟨cur, h, by simp [putL]⟩
  | cons v r ih =>
    intro o w cur h hl
    simp only [List.length_cons] at hl
    obtain ⟨cur', h1, h2⟩ := ih (o + 1) (w.setCell ⟨b, o, none⟩ v) (cur.setIfInBounds o v) (blk_put h o v rfl) (by simp; omega)
    refine ⟨cur', h1, ?_⟩
    rw [h2]
    unfold putL
    have ho : o < cur.toList.length := by simp; omega
    rw [Array.toList_setIfInBounds, List.take_succ_eq_append_getElem (by simpa using ho), List.getElem_set_self, List.take_set_of_le (Nat.le_refl _), List.drop_set_of_lt (by omega)]
    simp [Nat.add_assoc, Nat.add_comm 1]
theorem setCells_grown (b : Nat) (vs : List Value) : ∀ (o : Nat) (w : World), w.grownBy (w.setCells b o vs) (some b) := by
  induction vs with
  | nil => intro o w; exact World.grownBy.refl w _
  | cons v r ih =>
    intro o w
    have h := ih (o + 1) (w.setCell ⟨b, o, none⟩ v)
    refine ⟨h.os, h.tape, h.output, (by have := h.size; rwa [World.size_setCell] at this), fun k hk hne => ?_⟩
    refine (h.block k (by simpa using hk) hne).trans (Below.heap_setCell w _ v k (fun e => hne (by rw [e])))
theorem grown_trans {w w1 w2 : World} {row : Option Nat} (a : w.grownBy w1 row) (b : w1.grownBy w2 row) : w.grownBy w2 row := ⟨b.os.trans a.os, b.tape.trans a.tape, b.output.trans a.output, Nat.le_trans a.size b.size, fun k hk hne => (b.block k (Nat.lt_of_lt_of_le hk a.size) hne).trans (a.block k hk hne)⟩
theorem grown_drew {w : World} {row : Option Nat} : w.grownBy w.drew row := ⟨rfl, rfl, rfl, Nat.le_refl _, fun _ _ _ => rfl⟩
theorem grown_alloc1 {w : World} {row : Option Nat} (o : Obj) : w.grownBy (w.alloc o) row := World.grownBy_alloc w o row
theorem shifted {A cs vs : List Value} {n i cap : Nat} (hA : A.length = cap * 7) (hcs : A.take (n * 7) = cs) (hi : i < n) (hn : n + 1 ≤ cap) (hv : vs.length = 7) :
    (putL (putL A ((i + 1) * 7) (cs.drop (i * 7))) (i * 7) vs).take ((n + 1) * 7) = cs.take (i * 7) ++ vs ++ cs.drop (i * 7) ∧ (putL (putL A ((i + 1) * 7) (cs.drop (i * 7))) (i * 7) vs).length = cap * 7 := by
  have hcl : cs.length = n * 7 := by rw [← hcs, List.length_take]; omega
  have hD : (cs.drop (i * 7)).length = (n - i) * 7 := by rw [List.length_drop]; omega
  have hB : putL A ((i + 1) * 7) (cs.drop (i * 7)) = A.take ((i + 1) * 7) ++ cs.drop (i * 7) ++ A.drop ((n + 1) * 7) := by
    unfold putL
    rw [hD, show (i + 1) * 7 + (n - i) * 7 = (n + 1) * 7 by omega]
  have hT : A.take (i * 7) = cs.take (i * 7) := by rw [← hcs, List.take_take]; congr 1; omega
  have hC : putL (putL A ((i + 1) * 7) (cs.drop (i * 7))) (i * 7) vs = cs.take (i * 7) ++ vs ++ cs.drop (i * 7) ++ A.drop ((n + 1) * 7) := by
    rw [hB]
    unfold putL
    rw [hv, List.append_assoc (A.take ((i + 1) * 7)), List.take_append_of_le_length (by rw [List.length_take]; omega), List.take_take, show min (i * 7) ((i + 1) * 7) = i * 7 by omega, hT,
      List.drop_append_of_le_length (by rw [List.length_take]; omega), (show (A.take ((i + 1) * 7)).drop (i * 7 + 7) = [] from List.drop_eq_nil_of_le (by rw [List.length_take]; omega))]
    simp
  refine ⟨?_, ?_⟩
  · rw [hC, List.take_append_of_le_length (by simp only [List.length_append, List.length_take, hD, hcl, hv]; omega), List.take_of_length_le (by simp only [List.length_append, List.length_take, hD, hcl, hv]; omega)]
  · rw [hC]
    simp only [List.length_append, List.length_take, hD, hcl, hv, List.length_drop, hA]
    omega
theorem size_ent (w : World) : (Go.sizeOf 51).run Try.prog w = .ok 7 w := by kernel_rfl
theorem insert_shift (W : World) (base g n cap i : Nat) (cur : Array Value) (cs vs : List Value) (hb : base ≤ g) (hg : W.heap[g]? = some (.cells cur 51 (0, 0))) (hcm : cap ≤ maxLen) (hcs : cur.size = cap * 7) (hct : cur.toList.take (n * 7) = cs) (hi : i < n) (hroom : n + 1 ≤ cap) (hn : n ≤ 1000) (hvs : vs.length = 7) (h1 : ∀ u ∈ vs, u.oneCell' = true) (h1c : ∀ u ∈ cs, u.oneCell' = true) :
    Calls Try.prog 34 #[.slice (some ⟨g, 0, none⟩) n cap, .int .i64 i, .slice (some ⟨W.heap.size, 0, none⟩) 1 1] (W.alloc (.cells vs.toArray 51)) (Inserted W base (.slice (some ⟨g, 0, none⟩) n cap) n (cs.take (i * 7) ++ vs ++ cs.drop (i * 7))) := by
  obtain ⟨w, hw⟩ : ∃ w, w = W.alloc (.cells vs.toArray 51) := ⟨_, rfl⟩
  have hgl := blk_lt hg
  have hgw : w.heap[g]? = some (.cells cur 51 (0, 0)) := by rw [hw]; exact blk_alloc hg _
  have hvw : w.heap[W.heap.size]? = some (.cells vs.toArray 51 (0, 0)) := by rw [hw]; exact blk_new _ _
  have hcl : cs.length = n * 7 := by rw [← hct, List.length_take]; simp; omega
  have hdl : (cs.drop (i * 7)).length = (n - i) * 7 := by rw [List.length_drop]; omega
  have hcc : ∀ j u, cs[j]? = some u → w.cell? ⟨g, j, none⟩ = some u := fun j u hj => by
    rw [blk_cell hgw, ← Array.getElem?_toList]
    rw [← hct, List.getElem?_take] at hj
    split at hj
    · exact hj
    · cases hj
  have hsp : ∀ j, j < (n + 1) * 7 → (w.cell? ⟨g, j, none⟩).isSome = true := fun j hj => by
    rw [blk_cell hgw, Array.getElem?_eq_getElem (by omega)]; rfl
  have hfz : ∀ j, w.frozen? ⟨g, j, none⟩ = false := fun j => blk_frozen hgw j
  have hov : ∀ off lb cb, (callFunc 66 #[.slice (some ⟨W.heap.size, 0, none⟩) 1 1, .slice (some ⟨g, off, none⟩) lb cb]).run Try.prog w = .ok (.value (.bool false)) w := fun off lb cb => by
    rw [run_callFunc_extern Try.func66 (by kernel_rfl) (by kernel_rfl) (by kernel_rfl) (e := Extern.SlicesOverlaps.overlaps #[28, 28] #[4]) (by kernel_rfl),
      Lib.run_overlaps_apart w 28 4 51 Try.underlying28 7 size_ent ⟨W.heap.size, 0, none⟩ ⟨g, off, none⟩ 1 1 lb cb (by show W.heap.size ≠ g; omega) 51 51 7 cur.size (by unfold World.shape?; rw [hvw]; simp [hvs]) (by unfold World.shape?; rw [hgw]) (by omega) (blk_frozen hvw _) (blk_frozen hvw _)]
    rfl
  have hsz : (Try.prog.info? 51).map (·.size) = some 7 := by
    obtain ⟨i0, hi0, h0, h1, h2⟩ := info_parts info51
    rw [hi0]; simp [h1]
  have hcp1 : ∀ ty dc sc, (Builtin.copy_ #[28, 28] ty #[.slice (some ⟨g, (i + 1) * 7, none⟩) (n + 1 - (i + 1)) dc, .slice (some ⟨g, i * 7, none⟩) (n + 1 - i) sc]).run Try.prog w.drew = .ok (goInt ((n - i : Nat) : Int)) (w.drew.setCells g ((i + 1) * 7) (cs.drop (i * 7))) := fun ty dc sc =>
    run_copy_sz w.drew _ _ ty 51 7 g ((i + 1) * 7) (n + 1 - (i + 1)) dc ⟨g, i * 7, none⟩ (n + 1 - i) sc (cs.drop (i * 7)) (n - i) Try.underlying28 hsz (by simp only [Nat.min_def]; split <;> omega) hdl
      (fun j v hj => by rw [Addr.add_lit]; exact hcc (i * 7 + j) v (by rwa [List.getElem?_drop] at hj))
      (fun j hj => hsp _ (by omega)) (fun j hj => hfz _) (fun v hv => h1c v (List.mem_of_mem_drop hv))
  obtain ⟨W1, hW1⟩ : ∃ W1, W1 = w.drew.setCells g ((i + 1) * 7) (cs.drop (i * 7)) := ⟨_, rfl⟩
  obtain ⟨cur1, hk1, hl1⟩ : ∃ cur1 : Array Value, W1.heap[g]? = some (.cells cur1 51 (0, 0)) ∧ cur1.toList = putL cur.toList ((i + 1) * 7) (cs.drop (i * 7)) := by
    rw [hW1]; exact setCells_blk _ _ _ cur hgw (by omega)
  have hgr1 : w.drew.grownBy W1 (some g) := by rw [hW1]; exact setCells_grown _ _ _ _
  have hv1 : W1.heap[W.heap.size]? = some (.cells vs.toArray 51 (0, 0)) := blk_grown (show w.drew.heap[W.heap.size]? = _ from hvw) hgr1 (by intro e; injection e with e; omega)
  have hsh := shifted (A := cur.toList) (cs := cs) (vs := vs) (n := n) (i := i) (cap := cap) (by simpa using hcs) hct hi hroom hvs
  have hc1 : cur1.size = cap * 7 := by
    have := congrArg List.length hl1
    simp only [putL, List.length_append, List.length_take, List.length_drop, Array.length_toList, hcs] at this
    rw [this]; omega
  have hcp2 : ∀ ty dc, (Builtin.copy_ #[28, 28] ty #[.slice (some ⟨g, i * 7, none⟩) (n + 1 - i) dc, .slice (some ⟨W.heap.size, 0, none⟩) 1 1]).run Try.prog W1 = .ok (goInt ((1 : Nat) : Int)) (W1.setCells g (i * 7) vs) := fun ty dc =>
    run_copy_sz W1 _ _ ty 51 7 g (i * 7) (n + 1 - i) dc ⟨W.heap.size, 0, none⟩ 1 1 vs 1 Try.underlying28 hsz (by simp only [Nat.min_def]; split <;> omega) (by omega)
      (fun j v hj => by rw [add_plain, blk_cell hv1]; simpa using hj)
      (fun j hj => by rw [blk_cell hk1, Array.getElem?_eq_getElem (by omega)]; rfl) (fun j hj => blk_frozen hk1 _) h1
  obtain ⟨W2, hW2⟩ : ∃ W2, W2 = W1.setCells g (i * 7) vs := ⟨_, rfl⟩
  obtain ⟨cur2, hk2, hl2⟩ : ∃ cur2 : Array Value, W2.heap[g]? = some (.cells cur2 51 (0, 0)) ∧ cur2.toList = putL cur1.toList (i * 7) vs := by
    rw [hW2]; exact setCells_blk _ _ _ cur1 hk1 (by omega)
  have hgr2 : W1.grownBy W2 (some g) := by rw [hW2]; exact setCells_grown _ _ _ _
  have HEND : Hid (W2.ownsRow base 51 7 (.slice (some ⟨g, 0, none⟩) (n + 1) cap) (n + 1) (cs.take (i * 7) ++ vs ++ cs.drop (i * 7)) ∧ W.grownBy W2 (some g)) := Lib.hid (by
    rw [hl1] at hl2
    refine ⟨⟨?_, .inr ⟨g, cap, cur2, rfl, hb, hk2, hroom, hcm, ?_, ?_⟩⟩, ?_⟩
    · simp only [List.length_append, List.length_take, hdl, hvs, hcl]; omega
    · have := congrArg List.length hl2
      rw [hsh.2] at this
      simpa using this
    · rw [hl2]; exact hsh.1
    · have a1 : W.grownBy w (some g) := by rw [hw]; exact grown_alloc1 _
      exact grown_trans a1 (grown_trans grown_drew (grown_trans hgr1 hgr2)))
  rw [← hW1] at hcp1
  rw [← hW2] at hcp2
  unfold maxLen at hcm
  have hz2 : ((i : Int) == (n : Int)) = false := beq_eq_false_iff_ne.2 (by omega)
  have hb2 : ¬ (cap = i + 1) := by omega
  have hb4 : ¬ (cap = i) := by omega
  have hz3 : decide ((cap : Int) < (n : Int) + 1) = false := decide_eq_false (by omega)
  have hin : i ≤ n := by omega
  have hic : i ≤ cap := by omega
  rw [← hw]
  clear hw hgl hgw hvw hcl hdl hcc hsp hfz hW1 hk1 hl1 hgr1 hv1 hsh hc1 hW2 hk2 hl2 hgr2 hg hcs hct h1 h1c
  go_enter Try.func34, Try.ntmps34
  go_wp2_with (simp only [hov])
  have hb1 : (0 : Int) ≤ (i : Int) + 1 := by omega
  have hb3 : (i : Int) ≤ (n : Int) + 1 := by omega
  have hb5 : (i : Int) + 1 ≤ (n : Int) + 1 := by omega
  have htn : ((i : Int) + 1).toNat = i + 1 := by omega
  have hw2 : IntKind.i64.wrap ((i : Int) + 1) = (i : Int) + 1 := by rw [IntKind.wrap_i64]; omega
  go_region_law (refine Go.Proofs.step_copy_runI rfl (.tmp 73) (.tmp 76) 28 28 rfl _ _ (by simp [Act.eval, Act.put]; first | rfl | skip) (by simp [Act.eval, Act.put]; first | rfl | skip) (hcp1 _ _ _) ?_)
  clear hw2 hb1 hb3 hb5 htn
  go_wp2_with ((with_reducible refine Go.Proofs.wpList_copy_runI _ rfl (.tmp 80) (.tmp 81) 28 28 rfl _ _ rfl rfl (hcp2 _ _) ?_))
  go_ret
  exact ⟨_, rfl, HEND.out.1, HEND.out.2, .inl rfl⟩
theorem grown_far {W w w1 : World} {row : Option Nat} {b : Nat} (a : W.grownBy w row) (h : w.grownBy w1 (some b)) (hb : W.heap.size ≤ b) : W.grownBy w1 row :=
  ⟨h.os.trans a.os, h.tape.trans a.tape, h.output.trans a.output, Nat.le_trans a.size h.size, fun k hk hne => (h.block k (Nat.lt_of_lt_of_le hk a.size) (fun e => by injection e with e; omega)).trans (a.block k hk hne)⟩
abbrev zE : Value := .agg #[.slice none 0 0, .int .u64 0, .bool false, .int .i64 0, .int .u64 0, .int .i64 0, .int .i64 0]
theorem zeros_len (k : Nat) : (Builtin.zeroCells zE.cells k).toList.length = k * 7 := by
  have : (Builtin.zeroCells zE.cells k).size = k * 7 := by
    unfold Builtin.zeroCells
    simp [Value.cells]
  simpa using this
theorem row_list (a : List Value) (b c : Array Value) : (a.toArray ++ b ++ c).toList = a ++ b.toList ++ c.toList := by simp
theorem laid {R cs vs : List Value} {n i G : Nat} (hR : R.length = G * 7) (hT : R.take (i * 7) = cs.take (i * 7)) (hcl : cs.length = n * 7) (hi : i < n) (hn : n + 1 ≤ G) (hv : vs.length = 7) :
    (putL (putL R (i * 7) vs) ((i + 1) * 7) (cs.drop (i * 7))).take ((n + 1) * 7) = cs.take (i * 7) ++ vs ++ cs.drop (i * 7) ∧ (putL (putL R (i * 7) vs) ((i + 1) * 7) (cs.drop (i * 7))).length = G * 7 := by
  have hD : (cs.drop (i * 7)).length = (n - i) * 7 := by rw [List.length_drop]; omega
  have hB : putL R (i * 7) vs = cs.take (i * 7) ++ vs ++ R.drop ((i + 1) * 7) := by
    unfold putL
    rw [hv, hT, show i * 7 + 7 = (i + 1) * 7 by omega]
  have hl : (cs.take (i * 7) ++ vs).length = (i + 1) * 7 := by rw [List.length_append, List.length_take, hcl, hv]; omega
  have hC : putL (putL R (i * 7) vs) ((i + 1) * 7) (cs.drop (i * 7)) = cs.take (i * 7) ++ vs ++ cs.drop (i * 7) ++ R.drop ((n + 1) * 7) := by
    rw [hB]
    unfold putL
    rw [hD]
    generalize cs.take (i * 7) ++ vs = L at hl
    rw [List.take_left' hl, List.drop_append, List.drop_eq_nil_of_le (show L.length ≤ (i + 1) * 7 + (n - i) * 7 by omega), hl, List.drop_drop, List.nil_append]
    rw [show (i + 1) * 7 + ((i + 1) * 7 + (n - i) * 7 - (i + 1) * 7) = (n + 1) * 7 by omega]
  refine ⟨?_, ?_⟩
  · rw [hC, List.take_append_of_le_length (by rw [List.length_append, hl, hD]; omega), List.take_of_length_le (by rw [List.length_append, hl, hD]; omega)]
  · rw [hC, List.length_append, List.length_append, hl, hD, List.length_drop, hR]
    omega
theorem insert_grow (W : World) (base g n cap i : Nat) (cur : Array Value) (cs vs : List Value) (hbase : base ≤ W.heap.size) (hg : W.heap[g]? = some (.cells cur 51 (0, 0))) (hnc : n ≤ cap) (hcs : cur.size = cap * 7) (hct : cur.toList.take (n * 7) = cs) (hi : i < n) (hroom : cap < n + 1) (hn : n ≤ 1000) (hvs : vs.length = 7) (h1 : ∀ u ∈ vs, u.oneCell' = true) (h1c : ∀ u ∈ cs, u.oneCell' = true) :
    Calls Try.prog 34 #[.slice (some ⟨g, 0, none⟩) n cap, .int .i64 i, .slice (some ⟨W.heap.size, 0, none⟩) 1 1] (W.alloc (.cells vs.toArray 51)) (Inserted W base (.slice (some ⟨g, 0, none⟩) n cap) n (cs.take (i * 7) ++ vs ++ cs.drop (i * 7))) := by
  obtain ⟨w, hw⟩ : ∃ w, w = W.alloc (.cells vs.toArray 51) := ⟨_, rfl⟩
  have hgl := blk_lt hg
  have hws : w.heap.size = W.heap.size + 1 := by rw [hw]; simp
  have hgw : w.heap[g]? = some (.cells cur 51 (0, 0)) := by rw [hw]; exact blk_alloc hg _
  have hvw : w.heap[W.heap.size]? = some (.cells vs.toArray 51 (0, 0)) := by rw [hw]; exact blk_new _ _
  have hcl : cs.length = n * 7 := by rw [← hct, List.length_take]; simp; omega
  have hdl : (cs.drop (i * 7)).length = (n - i) * 7 := by rw [List.length_drop]; omega
  have hcc : ∀ j u, cs[j]? = some u → w.cell? ⟨g, j, none⟩ = some u := fun j u hj => by
    rw [blk_cell hgw, ← Array.getElem?_toList]
    rw [← hct, List.getElem?_take] at hj
    split at hj
    · exact hj
    · cases hj
  obtain ⟨i0, hi0, hz0, hzs, hzb⟩ := info_parts info51
  have hsz : (Try.prog.info? 51).map (·.size) = some 7 := by rw [hi0]; simp [hzs]
  have hold : (Builtin.firstCells i0.size i (.slice (some ⟨g, 0, none⟩) i cap)).run Try.prog w.drew = .ok (cs.take (i * 7)).toArray w.drew := by
    rw [hzs]
    exact run_firstCells_some w.drew 7 i ⟨g, 0, none⟩ i cap (cs.take (i * 7)) (by rw [List.length_take]; omega) (fun j v hj => by
      rw [add_plain]
      rw [List.getElem?_take] at hj
      split at hj
      · exact hcc j v hj
      · cases hj)
  have hik : i + (n + 1 - i) = n + 1 := by omega
  have hkk : (n : Int) + 1 - (i : Int) = ((n + 1 - i : Nat) : Int) := by omega
  obtain ⟨G, hG⟩ : ∃ G, G = grownCap w (n + 1) cap 51 := ⟨_, rfl⟩
  obtain ⟨ROW, hROW⟩ : ∃ ROW : Array Value, ROW = (cs.take (i * 7)).toArray ++ Builtin.zeroCells zE.cells (n + 1 - i) ++ Builtin.zeroCells zE.cells (G - (n + 1)) := ⟨_, rfl⟩
  have hrz : ∀ ty, (Builtin.append_ #[28, 3] ty #[.slice (some ⟨g, 0, none⟩) i cap, .int .i64 ((n : Int) + 1 - (i : Int))]).run Try.prog w = .ok (.slice (some ⟨w.heap.size, 0, none⟩) (n + 1) G) (w.drew.alloc (.cells ROW 51)) := fun ty => by
    have h := Go.Lib.run_append_grow_zeros w 28 3 ty 51 i0 zE .i64 .i64 Try.underlying28 Try.underlying3 hi0 hz0 (some ⟨g, 0, none⟩) i cap (cs.take (i * 7)) hold (n + 1 - i) (by omega) (by omega) (by omega) (by omega) (by rw [hzb]; omega) (by rw [hzb, hik]; exact growslice_fits hroom (by omega))
    rw [hik, ← hG, ← hROW] at h
    rw [hkk]
    exact h
  have hGn : n + 1 ≤ G := by rw [hG]; exact grownCap_ge w _ _ _
  have hGm : G ≤ maxLen := by rw [hG]; exact grownCap_le_maxLen w (n + 1) cap 51 (by unfold maxLen; omega)
  have hRl : ROW.toList.length = G * 7 := by
    rw [hROW]
    rw [row_list]
    simp only [List.length_append, List.length_take, hcl, zeros_len]
    omega
  have hRT : ROW.toList.take (i * 7) = cs.take (i * 7) := by
    rw [hROW]
    rw [row_list, List.append_assoc, List.take_append_of_le_length (by rw [List.length_take, hcl]; omega), List.take_take, Nat.min_self]
  obtain ⟨W1, hW1⟩ : ∃ W1, W1 = w.drew.alloc (.cells ROW 51) := ⟨_, rfl⟩
  have hN1 : W1.heap[w.heap.size]? = some (.cells ROW 51 (0, 0)) := by rw [hW1]; exact blk_new w.drew _
  have hg1 : W1.heap[g]? = some (.cells cur 51 (0, 0)) := by rw [hW1]; exact blk_alloc (show w.drew.heap[g]? = _ from hgw) _
  have hv1 : W1.heap[W.heap.size]? = some (.cells vs.toArray 51 (0, 0)) := by rw [hW1]; exact blk_alloc (show w.drew.heap[W.heap.size]? = _ from hvw) _
  have hRs : ROW.size = G * 7 := by simpa using hRl
  have hcpA : ∀ ty dc, (Builtin.copy_ #[28, 28] ty #[.slice (some ⟨w.heap.size, i * 7, none⟩) (n + 1 - i) dc, .slice (some ⟨W.heap.size, 0, none⟩) 1 1]).run Try.prog W1 = .ok (goInt ((1 : Nat) : Int)) (W1.setCells w.heap.size (i * 7) vs) := fun ty dc =>
    run_copy_sz W1 _ _ ty 51 7 w.heap.size (i * 7) (n + 1 - i) dc ⟨W.heap.size, 0, none⟩ 1 1 vs 1 Try.underlying28 hsz (by simp only [Nat.min_def]; split <;> omega) (by omega)
      (fun j v hj => by rw [add_plain, blk_cell hv1]; simpa using hj)
      (fun j hj => by rw [blk_cell hN1, Array.getElem?_eq_getElem (by omega)]; rfl) (fun j hj => blk_frozen hN1 _) h1
  obtain ⟨W2, hW2⟩ : ∃ W2, W2 = W1.setCells w.heap.size (i * 7) vs := ⟨_, rfl⟩
  obtain ⟨cur2, hk2, hl2⟩ : ∃ cur2 : Array Value, W2.heap[w.heap.size]? = some (.cells cur2 51 (0, 0)) ∧ cur2.toList = putL ROW.toList (i * 7) vs := by
    rw [hW2]; exact setCells_blk _ _ _ ROW hN1 (by omega)
  have hgr2 : W1.grownBy W2 (some w.heap.size) := by rw [hW2]; exact setCells_grown _ _ _ _
  have hg2 : W2.heap[g]? = some (.cells cur 51 (0, 0)) := blk_grown hg1 hgr2 (by intro e; injection e with e; omega)
  have hc2 : cur2.size = G * 7 := by
    have := congrArg List.length hl2
    simp only [putL, List.length_append, List.length_take, List.length_drop, hRl, hvs] at this
    have h : cur2.toList.length = cur2.size := by simp
    omega
  have hcpB : ∀ ty dc sc, (Builtin.copy_ #[28, 28] ty #[.slice (some ⟨w.heap.size, (i + 1) * 7, none⟩) (n + 1 - (i + 1)) dc, .slice (some ⟨g, i * 7, none⟩) (n - i) sc]).run Try.prog W2.drew = .ok (goInt ((n - i : Nat) : Int)) (W2.drew.setCells w.heap.size ((i + 1) * 7) (cs.drop (i * 7))) := fun ty dc sc =>
    run_copy_sz W2.drew _ _ ty 51 7 w.heap.size ((i + 1) * 7) (n + 1 - (i + 1)) dc ⟨g, i * 7, none⟩ (n - i) sc (cs.drop (i * 7)) (n - i) Try.underlying28 hsz (by simp only [Nat.min_def]; split <;> omega) hdl
      (fun j v hj => by
        rw [Addr.add_lit, blk_cell (show W2.drew.heap[g]? = _ from hg2), ← blk_cell hgw]
        exact hcc (i * 7 + j) v (by rwa [List.getElem?_drop] at hj))
      (fun j hj => by rw [blk_cell (show W2.drew.heap[w.heap.size]? = _ from hk2), Array.getElem?_eq_getElem (by omega)]; rfl) (fun j hj => blk_frozen (show W2.drew.heap[w.heap.size]? = _ from hk2) _) (fun v hv => h1c v (List.mem_of_mem_drop hv))
  obtain ⟨W3, hW3⟩ : ∃ W3, W3 = W2.drew.setCells w.heap.size ((i + 1) * 7) (cs.drop (i * 7)) := ⟨_, rfl⟩
  obtain ⟨cur3, hk3, hl3⟩ : ∃ cur3 : Array Value, W3.heap[w.heap.size]? = some (.cells cur3 51 (0, 0)) ∧ cur3.toList = putL cur2.toList ((i + 1) * 7) (cs.drop (i * 7)) := by
    rw [hW3]; exact setCells_blk _ _ _ cur2 hk2 (by omega)
  have hgr3 : W2.drew.grownBy W3 (some w.heap.size) := by rw [hW3]; exact setCells_grown _ _ _ _
  have hsh := laid (R := ROW.toList) (cs := cs) (vs := vs) (n := n) (i := i) (G := G) hRl hRT hcl hi hGn hvs
  have HEND : Hid (W3.ownsRow base 51 7 (.slice (some ⟨w.heap.size, 0, none⟩) (n + 1) G) (n + 1) (cs.take (i * 7) ++ vs ++ cs.drop (i * 7)) ∧ W.grownBy W3 (some g) ∧ W.heap.size ≤ w.heap.size) := Lib.hid (by
    rw [hl2] at hl3
    refine ⟨⟨?_, .inr ⟨w.heap.size, G, cur3, rfl, by omega, hk3, hGn, hGm, ?_, ?_⟩⟩, ?_, by omega⟩
    · simp only [List.length_append, List.length_take, hdl, hvs, hcl]; omega
    · have := congrArg List.length hl3
      rw [hsh.2] at this
      simpa using this
    · rw [hl3]; exact hsh.1
    · have a1 : W.grownBy w (some g) := by rw [hw]; exact grown_alloc1 _
      have a2 : W.grownBy W1 (some g) := grown_trans a1 (grown_trans grown_drew (by rw [hW1]; exact grown_alloc1 _))
      exact grown_far (grown_trans (grown_far a2 hgr2 (by omega)) grown_drew) hgr3 (by omega))
  rw [← hW1] at hrz
  rw [← hW2] at hcpA
  rw [← hW3] at hcpB
  unfold maxLen at hGm
  have hz2 : ((i : Int) == (n : Int)) = false := beq_eq_false_iff_ne.2 (by omega)
  have hb2 : ¬ (G = i + 1) := by omega
  have hb4 : ¬ (G = i) := by omega
  have hb6 : ¬ (cap = i) := by omega
  have hz3 : decide ((cap : Int) < (n : Int) + 1) = true := decide_eq_true (by omega)
  have hin : i ≤ n := by omega
  have hic : i ≤ cap := by omega
  rw [← hw]
  clear hw hgl hgw hvw hcl hdl hcc hsz hold hik hkk hG hROW hRl hRT hW1 hN1 hg1 hv1 hRs hW2 hk2 hl2 hgr2 hg2 hc2 hW3 hk3 hl3 hgr3 hsh hg hcs hct h1 h1c hi0 hz0 hzs hzb hws
  go_enter Try.func34, Try.ntmps34
  go_wp2_with (first
    | ((with_reducible refine Go.Lib.wpList_append_run _ rfl (.tmp 34) (.tmp 39) _ _ rfl _ _ rfl rfl _ _ (hrz _) ?_))
    | ((with_reducible refine Go.Proofs.wpList_copy_runI _ rfl (.tmp 43) (.tmp 44) 28 28 rfl _ _ rfl rfl (hcpA _ _) ?_)))
  have hb1 : (0 : Int) ≤ (i : Int) + 1 := by omega
  have hb3 : (i : Int) ≤ (n : Int) := by omega
  have hb5 : (i : Int) + 1 ≤ (n : Int) + 1 := by omega
  have htn : ((i : Int) + 1).toNat = i + 1 := by omega
  have hw2 : IntKind.i64.wrap ((i : Int) + 1) = (i : Int) + 1 := by rw [IntKind.wrap_i64]; omega
  go_region_law (refine Go.Proofs.step_copy_runI rfl (.tmp 50) (.tmp 53) 28 28 rfl _ _ (by simp [Act.eval, Act.put]; first | rfl | skip) (by simp [Act.eval, Act.put]; first | rfl | skip) (hcpB _ _ _) ?_)
  clear hw2 hb1 hb3 hb5 htn
  go_wp2
  go_ret
  exact ⟨_, rfl, HEND.out.1, HEND.out.2.1, .inr ⟨_, rfl, HEND.out.2.2⟩⟩
theorem reps_ins {α : Type} {R : α → List Value → Prop} {size : Nat} {ps : List α} {cs c : List Value} {p : α} (h : Reps R size ps cs) (hp : R p c) (hc : c.length = size) (i : Nat) (hi : i ≤ ps.length) : Reps R size (ps.take i ++ [p] ++ ps.drop i) (cs.take (i * size) ++ c ++ cs.drop (i * size)) :=
  Kd.reps_append ((Kd.reps_take h hi).snoc hp hc) (Kd.reps_drop h)
theorem insert_row (W : World) (base : Nat) (v : Value) (xs : List S51) (i : Nat) (p : S51) (vs : List Value) (okp : Nat → Prop) (HO : Kd.R k51 51 W base (fun _ => True) v xs) (hp : k51.M W base okp p vs) (hokp : ∀ k, okp k → some k ≠ v.ownBlock) (hbase : base ≤ W.heap.size) (hn : xs.length ≤ 1000) (hi : i ≤ xs.length) :
    Calls Try.prog 34 #[v, .int .i64 i, .slice (some ⟨W.heap.size, 0, none⟩) 1 1] (W.alloc (.cells vs.toArray 51)) fun e w' =>
      ∃ v', e = .returned v' ∧ Kd.R k51 51 w' base (fun _ => True) v' (xs.take i ++ [p] ++ xs.drop i) ∧ W.grownBy w' v.ownBlock ∧ (v'.ownBlock = v.ownBlock ∨ ∃ b, v'.ownBlock = some b ∧ W.heap.size ≤ b) := by
  obtain ⟨h0, inner, hown, hr⟩ := HO
  have hvs : vs.length = 7 := Kd.K_len _ (Kd.K_of_M _ hp)
  have h1 : ∀ u ∈ vs, u.oneCell' = true := Kd.K_one _ (Kd.K_of_M _ hp)
  have h1c : ∀ u ∈ inner, u.oneCell' = true := Kd.reps_one hr (show 0 < 7 by decide) (fun p c hpc => Kd.K_one _ (Kd.K_of_M _ hpc))
  have hown7 : W.ownsRow base 51 7 v xs.length inner := hown
  have hl : inner.length = xs.length * 7 := hown7.1
  have HI : Calls Try.prog 34 #[v, .int .i64 i, .slice (some ⟨W.heap.size, 0, none⟩) 1 1] (W.alloc (.cells vs.toArray 51)) (Inserted W base v xs.length (inner.take (i * 7) ++ vs ++ inner.drop (i * 7))) := by
    rcases Nat.lt_or_ge i xs.length with hlt | hge
    · rcases hown7.2 with ⟨_, h⟩ | ⟨g, cap, cur, rfl, hb, hg, hnc, hcm, hcs, hct⟩
      · omega
      · by_cases hroom : xs.length + 1 ≤ cap
        · exact insert_shift W base g xs.length cap i cur inner vs hb hg hcm hcs hct hlt hroom hn hvs h1 h1c
        · exact insert_grow W base g xs.length cap i cur inner vs hbase hg hnc hcs hct hlt (by omega) hn hvs h1 h1c
    · obtain rfl : i = xs.length := by omega
      rw [List.take_of_length_le (by omega), List.drop_eq_nil_of_le (by omega), List.append_nil]
      exact insert_end W base v xs.length inner vs hown7 hbase hn hvs h1
  refine HI.mono ?_
  rintro e w' ⟨v', rfl, how, hg, hat⟩
  have hne : ∀ k, some k ≠ v.ownBlock → k < W.heap.size → some k ≠ v'.ownBlock := by
    intro k hk hlt
    rcases hat with hat | ⟨b, hb, hle⟩
    · rw [hat]; exact hk
    · rw [hb]
      intro he
      injection he with he
      omega
  have step : ∀ {q : S51} {c : List Value} {o : Nat → Prop}, k51.M W base o q c → (∀ k, o k → some k ≠ v.ownBlock) → k51.M w' base (fun k => True ∧ some k ≠ v'.ownBlock) q c := by
    intro q c o hq ho
    have h1 := Kd.M_move _ (w1 := w') (fun k hk => hg.block k hk.2.2.1 (ho k hk.1)) (Kd.M_bound _ hq)
    exact Kd.M_mono _ (fun k hk => ⟨trivial, hne k (ho k hk.1) hk.2.2.1⟩) h1
  have hlen : (xs.take i ++ [p] ++ xs.drop i).length = xs.length + 1 := by
    simp only [List.length_append, List.length_take, List.length_drop, List.length_singleton]; omega
  exact ⟨v', rfl, ⟨fun _ _ => trivial, _, by rw [hlen]; exact how, reps_ins (hr.imp_ (fun _ _ hq => step hq (fun _ hk => hk.2))) (step hp hokp) hvs i hi⟩, hg, hat⟩
end Go.Proofs.Ytjemmmemenljbaa.PFold
end
section
namespace Go.Proofs.Ytjemmmemenljbaa.PFold
open Go.RowKit Go.Proofs.YtjemmmemenljbaaW.PrintWords Go.Proofs.YtjemmmemenljbaaW.PrintLast Go.Proofs.YtjemmmemenljbaaW.PrintMore
set_option linter.unusedVariables false
set_option linter.unusedSimpArgs false
set_option maxHeartbeats 8000000
set_option maxRecDepth 100000
def putE (b : List Int) (a : Ag) (out : List En) : Option (List En) :=
  if out.length < 1000 ∧ (∀ y ∈ out, y.f0.all isB = true) ∧ b.all isB = true then
    (if thereE out b = true then
      (if inU (rd_T51 out (placeE out b : Nat)).f1.f2.f1 ∧ inU a.f2.f1 then some (out.set (placeE out b) ⟨(rd_T51 out (placeE out b : Nat)).f0, mergeA (rd_T51 out (placeE out b : Nat)).f1 a⟩) else none)
    else some (out.take (placeE out b) ++ [⟨b, a⟩] ++ out.drop (placeE out b)))
  else none
def foldGo (k : Nat) (g : List Gr) (keep wm : Int) : List En → List En → Option (List En)
  | [], out => some out
  | x :: r, out => (fold_at.f k g keep wm x.f0).bind fun p => if p.2 = true then foldGo k g keep wm r out else (putE p.1 x.f1 out).bind fun o => foldGo k g keep wm r o
def fold_Fold.f (k : Nat) (g : List Gr) (keep wm : Int) (l : List En) : Option (List En × Int) :=
  (fold_check.f k g keep wm l).bind fun e => if e = 0 then (foldGo k g keep wm l []).bind fun out => some (out, 0) else some ([], e)
theorem placeE_le_ (l : List En) (b : List Int) : placeE l b ≤ l.length := (bsF_le l b l.length 0 l.length (Nat.zero_le _)).1
theorem enter_fold (args : Array Value) (w : World) : (callFunc 39 args).run Try.prog w = .ok (.enter 39 args) w := enters_ Try.func39 (by kernel_rfl) (by kernel_rfl) args w
theorem row_agg {W : World} {base g cap : Nat} {xs : List En} (h : Kd.R k51 51 W base (fun _ => True) (.slice (some ⟨g, 0, none⟩) xs.length cap) xs) (i : Nat) (hi : i < xs.length) (m : Ag) (ad : Addr) (had : ad = ⟨g, i * 7, none⟩) :
    Kd.R k51 51 ((((((W.setCell ⟨ad.block, ad.off + 1, none⟩ (.int .u64 m.f0)).setCell ⟨ad.block, ad.off + 1 + 1, none⟩ (.bool m.f1)).setCell ⟨ad.block, ad.off + 1 + 2, none⟩ (.int .i64 m.f2.f0)).setCell ⟨ad.block, ad.off + 1 + 3, none⟩ (.int .u64 m.f2.f1)).setCell ⟨ad.block, ad.off + 1 + 4, none⟩ (.int .i64 m.f3)).setCell ⟨ad.block, ad.off + 1 + 5, none⟩ (.int .i64 m.f4)) base (fun _ => True) (.slice (some ⟨g, 0, none⟩) xs.length cap) (xs.set i ⟨(rd_T51 xs (i : Nat)).f0, m⟩) ∧
    W.grownBy ((((((W.setCell ⟨ad.block, ad.off + 1, none⟩ (.int .u64 m.f0)).setCell ⟨ad.block, ad.off + 1 + 1, none⟩ (.bool m.f1)).setCell ⟨ad.block, ad.off + 1 + 2, none⟩ (.int .i64 m.f2.f0)).setCell ⟨ad.block, ad.off + 1 + 3, none⟩ (.int .u64 m.f2.f1)).setCell ⟨ad.block, ad.off + 1 + 4, none⟩ (.int .i64 m.f3)).setCell ⟨ad.block, ad.off + 1 + 5, none⟩ (.int .i64 m.f4)) (some g) := by
  subst had
  obtain ⟨c, hcl, hM, hcc, _⟩ := Kd.R_elem h z51 (i : Int) (by omega) (by omega)
  obtain ⟨v0, hc, hv0⟩ := k51_openM hM
  have := Kd.R_seg h (i : Int) (by omega) (by omega) (c := c) (seg := [.int .u64 m.f0, .bool m.f1, .int .i64 m.f2.f0, .int .u64 m.f2.f1, .int .i64 m.f3, .int .i64 m.f4]) (j := 1) hcl hcc (show 1 + 6 ≤ 7 by decide) (x' := ⟨(rd_T51 xs (i : Nat)).f0, m⟩) (okp := fun k => True ∧ k ≠ g) (by rw [hc]; exact k51_mkM W base _ ⟨(rd_T51 xs (i : Nat)).f0, m⟩ hv0) (fun _ hk => hk)
  exact this
def FoldRel (k : Nat) (g : List Gr) (A0 : Option Addr) (c0 : Nat) (keep wm : Int) (l r : List En) (w : World) (v : Value) (j : Nat) (wr : World) : Prop :=
  j ≤ l.length ∧ ∃ out, Below w.heap.size w wr ∧ wr.heap[w.heap.size]? = some (.cells #[.slice A0 g.length c0, .int .i64 keep] 24 (0, 0)) ∧ Kd.R k51 51 wr w.heap.size (fun _ => True) v out ∧ foldGo k g keep wm (l.drop j) out = some r
theorem fold_Fold.calls (k : Nat) (A0_0 : Option Addr) (c0_0 : Nat) (l0_0 : List Gr) (a0_1 : Int) (a1 : Int) (A2 : Option Addr) (c2 : Nat) (l2 : List En) (r1 : List En) (r2 : Int) (w : World) (hr0_0 : Kd.C k67 w A0_0 l0_0.length l0_0) (hc0_0 : l0_0.length ≤ c0_0) (hr2 : Kd.C k51 w A2 l2.length l2) (hc2 : l2.length ≤ c2) (h : fold_Fold.f k l0_0 a0_1 a1 l2 = some (r1, r2)) :
    Calls Try.prog 16 #[.agg #[.slice A0_0 l0_0.length c0_0, .int .i64 a0_1], .int .i64 a1, .slice A2 l2.length c2] w fun e w' => ∃ v0_ : Value, e = .returned (.tuple #[v0_, .int .i64 r2]) ∧ Kd.R k51 51 w' w.heap.size (fun _ => True) v0_ r1 ∧ Below w.heap.size w w' := by
  have HG := Lib.hid hr0_0; have HE := Lib.hid hr2; clear hr0_0 hr2
  have HBX := Lib.hid (blk_new w (.cells #[.slice A0_0 l0_0.length c0_0, .int .i64 a0_1] 24))
  have HB0 : Hid (Below w.heap.size w (w.alloc (.cells #[.slice A0_0 l0_0.length c0_0, .int .i64 a0_1] 24))) := Lib.hid ((Below.refl _ _).alloc (Nat.le_refl _) _)
  unfold fold_Fold.f at h
  obtain ⟨e0, he0, h2⟩ := Option.bind_eq_some_iff.mp h
  have HCK := Lib.hid he0
  by_cases hz : e0 = 0
  · subst hz
    rw [if_pos rfl] at h2
    obtain ⟨out, hb, h3⟩ := Option.bind_eq_some_iff.mp h2
    simp only [Option.some.injEq, Prod.mk.injEq] at h3
    obtain ⟨rfl, rfl⟩ := h3
    have HQ := Lib.hid hb
    clear h he0 h2 hb
    go_enter Try.func16, Try.ntmps16
    go_wp2
    go_step3
    go_wp2_with (go_at_call 27; refine (fold_check.calls k A0_0 c0_0 l0_0 a0_1 a1 A2 c2 l2 _ _ (Kd.C_below HG.out HB0.out) hc0_0 (Kd.C_below HE.out HB0.out) hc2 HCK.out).mono ?_; rintro e w1 ⟨rfl, hb⟩; have HB1 := Lib.hid (below_step HB0.out hb); have HBX1 := Lib.hid (blk_below HBX.out hb); clear hb)
    go_step3
    go_wp2_with (fail)
    go_loopw [25, 9] (fun v u wr => ∃ j : Nat, v = .int .i64 j ∧ FoldRel k l0_0 A0_0 c0_0 a0_1 a1 l2 out w u j wr) (fun v _ _ => l2.length - (intOf v).toNat)
    case atStart => exact ⟨0, rfl, Nat.zero_le _, [], HB1.out, HBX1.out, Kd.R_nil _ _ _ _ _, HQ.out⟩
    case round =>
      obtain ⟨j, rfl, hj, acc, hB, hX, hR, hF⟩ := hrel
      have HJB := Lib.hid hB; have HJX := Lib.hid hX; have HJR := Lib.hid hR
      clear HB1 HBX1 HQ hB hX hR
      have hmx : l2.length ≤ 9223372036854775807 := HE.out.2.1
      obtain ⟨Ar, cr, hu9⟩ := Kd.R_slice HJR.out
      subst hu9
      by_cases hlt : j < l2.length
      · have e1 : decide ((j : Int) < (l2.length : Int)) = true := decide_eq_true (by omega)
        obtain ⟨ad, A1, c1, ha, hx0, hx1, hx2, hx3, hx4, hx5, hx6, hlc, hin⟩ := at_T51 HE.out (j : Int) (by omega) (by omega)
        subst ha
        have HIN := Lib.hid hin
        have hxx := rd_ent hlt
        obtain ⟨x, hx⟩ : ∃ x, x = rd_T51 l2 (j : Int) := ⟨_, rfl⟩
        rw [← hx] at hx0 hx1 hx2 hx3 hx4 hx5 hx6 hlc HIN
        simp only [Int.toNat_natCast] at hx0 hx1 hx2 hx3 hx4 hx5 hx6
        replace hx0 := (HJB.out.cell (World.block_lt_of_cell? w _ hx0)).trans hx0
        replace hx1 := (HJB.out.cell (World.block_lt_of_cell? w _ hx1)).trans hx1
        replace hx2 := (HJB.out.cell (World.block_lt_of_cell? w _ hx2)).trans hx2
        replace hx3 := (HJB.out.cell (World.block_lt_of_cell? w _ hx3)).trans hx3
        replace hx4 := (HJB.out.cell (World.block_lt_of_cell? w _ hx4)).trans hx4
        replace hx5 := (HJB.out.cell (World.block_lt_of_cell? w _ hx5)).trans hx5
        replace hx6 := (HJB.out.cell (World.block_lt_of_cell? w _ hx6)).trans hx6
        have hF1 : foldGo k l0_0 a0_1 a1 (x :: l2.drop (j + 1)) acc = some out := by rw [← hF, hx, hxx, ← List.drop_eq_getElem_cons hlt]
        clear hF hx hxx hin
        unfold foldGo at hF1
        obtain ⟨⟨kb, gone⟩, hat, hF2⟩ := Option.bind_eq_some_iff.mp hF1
        have HAT := Lib.hid hat
        clear hF1 hat
        have hk0 := (blk_cell HJX.out 0).trans (show _ = some (Value.slice A0_0 l0_0.length c0_0) from rfl)
        have hk1 := (blk_cell HJX.out 1).trans (show _ = some (Value.int .i64 a0_1) from rfl)
        have hlw := blk_lt HJX.out
        have HXB := Lib.hid (blk_new wr (.cells #[.slice A1 x.f0.length c1, .int .u64 x.f1.f0, .bool x.f1.f1, .int .i64 x.f1.f2.f0, .int .u64 x.f1.f2.f1, .int .i64 x.f1.f3, .int .i64 x.f1.f4] 51))
        have HAB : Hid (Below w.heap.size w (wr.alloc (.cells #[.slice A1 x.f0.length c1, .int .u64 x.f1.f0, .bool x.f1.f1, .int .i64 x.f1.f2.f0, .int .u64 x.f1.f2.f1, .int .i64 x.f1.f3, .int .i64 x.f1.f4] 51))) := Lib.hid (HJB.out.alloc HJB.out.size _)
        have HAX := Lib.hid (blk_alloc HJX.out (.cells #[.slice A1 x.f0.length c1, .int .u64 x.f1.f0, .bool x.f1.f1, .int .i64 x.f1.f2.f0, .int .u64 x.f1.f2.f1, .int .i64 x.f1.f3, .int .i64 x.f1.f4] 51))
        have HAR := Lib.hid (Kd.R_below HJR.out ((Below.refl _ _).alloc (Nat.le_refl _) (.cells #[.slice A1 x.f0.length c1, .int .u64 x.f1.f0, .bool x.f1.f1, .int .i64 x.f1.f2.f0, .int .u64 x.f1.f2.f1, .int .i64 x.f1.f3, .int .i64 x.f1.f4] 51)))
        cases gone with
        | true =>
          have hF3 : Hid (foldGo k l0_0 a0_1 a1 (l2.drop (j + 1)) acc = some out) := Lib.hid (by simpa using hF2)
          clear hF2
          go_wp2_with (go_at_call 38; refine (fold_at.calls k A0_0 c0_0 l0_0 a0_1 a1 A1 c1 x.f0 _ _ _ (Kd.C_below HG.out HAB.out) hc0_0 (Kd.C_below HIN.out HAB.out) hlc HAT.out).mono ?_; rintro e w1 ⟨v0, rfl, hr, hw⟩; obtain ⟨Av, cv, hv⟩ := Kd.R_slice hr; subst hv; have HR := Lib.hid hr; have HW := Lib.hid hw; clear hr hw)
          go_roundw
          case rel => exact ⟨j + 1, by go_num, hlt, acc, below_step HAB.out HW.out, blk_below HAX.out HW.out, Kd.R_below HAR.out HW.out, hF3.out⟩
          case measure => simp [intOf]; omega
        | false =>
          have hF3 : (putE kb x.f1 acc).bind (fun o => foldGo k l0_0 a0_1 a1 (l2.drop (j + 1)) o) = some out := by simpa using hF2
          clear hF2
          obtain ⟨acc', hput, hF4⟩ := Option.bind_eq_some_iff.mp hF3
          have HF := Lib.hid hF4
          clear hF3 hF4
          unfold putE at hput
          by_cases hg : acc.length < 1000 ∧ (∀ y ∈ acc, y.f0.all isB = true) ∧ kb.all isB = true
          case neg => rw [if_neg hg] at hput; cases hput
          rw [if_pos hg] at hput
          obtain ⟨hlen, hall, hkb⟩ := hg
          have HALL := Lib.hid hall; have HKB := Lib.hid hkb
          clear hall hkb
          obtain ⟨i, hi⟩ : ∃ i, i = placeE acc kb := ⟨_, rfl⟩
          obtain ⟨th, hth⟩ : ∃ th, th = thereE acc kb := ⟨_, rfl⟩
          rw [← hi, ← hth] at hput
          have hil : i ≤ acc.length := by rw [hi]; exact placeE_le_ acc kb
          have hS := fun (B : Option Addr) (d : Nat) (W : World) (h1 : Kd.C k51 W Ar acc.length acc) (h2 : Kd.C (Kd.int .u8) W B kb.length kb) (h3 : kb.length ≤ d) => search_ents 39 cmp_fold enter_fold Ar cr acc B d kb W h1 (by omega) h2 h3 HALL.out HKB.out
          rw [← hi, ← hth] at hS
          have HS := Lib.hid hS
          have HTH := Lib.hid hth; have HI := Lib.hid hi
          clear hS hth hi
          cases th with
          | false =>
            rw [if_neg (by simp)] at hput
            obtain rfl := Option.some.inj hput
            clear hput
            go_wp2_with (first
              | (go_at_call 38; refine (fold_at.calls k A0_0 c0_0 l0_0 a0_1 a1 A1 c1 x.f0 _ _ _ (Kd.C_below HG.out HAB.out) hc0_0 (Kd.C_below HIN.out HAB.out) hlc HAT.out).mono ?_; rintro e w1 ⟨v0, rfl, hr, hw⟩; obtain ⟨Av, cv, hv⟩ := Kd.R_slice hr; subst hv; have HR := Lib.hid hr; have HW := Lib.hid hw; have HRR := Lib.hid (Kd.R_below HAR.out hw); have HXX := Lib.hid (blk_below HXB.out hw); have HRN := Lib.hid (Kd.R_lower (Kd.R_new hr (Kd.R_own HAR.out).choose_spec) HAB.out.size); have HB1 := Lib.hid (below_step HAB.out hw); have HX1 := Lib.hid (blk_below HAX.out hw); clear hr hw)
              | (go_at_call 31; refine (HS.out Av cv w1 (Kd.R_reads' HRR.out).2.2 (Kd.R_reads' HR.out).2.2 (Kd.R_reads' HR.out).2.1).mono ?_; rintro e w2 ⟨rfl, hw2⟩; have HW2 := Lib.hid hw2; have HXX2 := Lib.hid (blk_below HXX.out hw2); have HRR2 := Lib.hid (Kd.R_below HRR.out hw2); have HRN2 := Lib.hid (Kd.R_below HRN.out hw2); have HB2 := Lib.hid (below_step HB1.out hw2); have HX2 := Lib.hid (blk_below HX1.out hw2); have hy1 := (blk_cell HXX2.out 1).trans (show _ = some (Value.int .u64 x.f1.f0) from rfl); have hy2 := (blk_cell HXX2.out 2).trans (show _ = some (Value.bool x.f1.f1) from rfl); have hy3 := (blk_cell HXX2.out 3).trans (show _ = some (Value.int .i64 x.f1.f2.f0) from rfl); have hy4 := (blk_cell HXX2.out 4).trans (show _ = some (Value.int .u64 x.f1.f2.f1) from rfl); have hy5 := (blk_cell HXX2.out 5).trans (show _ = some (Value.int .i64 x.f1.f3) from rfl); have hy6 := (blk_cell HXX2.out 6).trans (show _ = some (Value.int .i64 x.f1.f4) from rfl); clear hw2)
              | (go_at_call 34; refine (insert_row w2 w.heap.size (.slice Ar acc.length cr) acc i ⟨kb, x.f1⟩ [.slice Av kb.length cv, .int .u64 x.f1.f0, .bool x.f1.f1, .int .i64 x.f1.f2.f0, .int .u64 x.f1.f2.f1, .int .i64 x.f1.f3, .int .i64 x.f1.f4] _ HRR2.out (k51_mkM w2 w.heap.size _ ⟨kb, x.f1⟩ HRN2.out) (fun _ hk => hk.2) HB2.out.size (by omega) hil).mono ?_; rintro e w3 ⟨v3, rfl, hr3, hg3, hat3⟩; have HR3 := Lib.hid hr3; have HB3 := Lib.hid (HB2.out.grown hg3 HB2.out.size (own_base (Kd.R_own HRR2.out).choose_spec)); have HX3 := Lib.hid (blk_grown HX2.out hg3 (Kd.R_ne HRR2.out HX2.out (by decide))); clear hr3 hg3 hat3))
            go_roundw
            case rel => exact ⟨j + 1, by go_num, hlt, _, HB3.out, HX3.out, HR3.out, HF.out⟩
            case measure => simp [intOf]; omega
          | true =>
            rw [if_pos rfl] at hput
            have hil2 : i < acc.length := by
              have := HTH.out
              unfold thereE at this
              rw [← HI.out] at this
              simp only [Bool.true_eq, Bool.and_eq_true, decide_eq_true_eq] at this
              exact this.1
            obtain ⟨y, hy⟩ : ∃ y, y = rd_T51 acc (i : Nat) := ⟨_, rfl⟩
            rw [← hy] at hput
            by_cases hu : inU y.f1.f2.f1 ∧ inU x.f1.f2.f1
            case neg => rw [if_neg hu] at hput; cases hput
            rw [if_pos hu] at hput
            obtain rfl := Option.some.inj hput
            clear hput
            have HM : Hid (agg_Merge.f y.f1.f0 y.f1.f1 y.f1.f2.f0 y.f1.f2.f1 y.f1.f3 y.f1.f4 x.f1.f0 x.f1.f1 x.f1.f2.f0 x.f1.f2.f1 x.f1.f3 x.f1.f4 = some ((mergeA y.f1 x.f1).f0, (mergeA y.f1 x.f1).f1, (mergeA y.f1 x.f1).f2.f0, (mergeA y.f1 x.f1).f2.f1, (mergeA y.f1 x.f1).f3, (mergeA y.f1 x.f1).f4)) := Lib.hid (by unfold agg_Merge.f; rw [if_pos hu])
            clear hu
            generalize mergeA y.f1 x.f1 = m at HM HF
            have HY := Lib.hid hy
            clear hy
            have hw2' : IntKind.i64.wrap ((i : Int)) = (i : Int) := by rw [IntKind.wrap_i64]; omega
            go_upto_region 12 with (first
              | (go_at_call 38; refine (fold_at.calls k A0_0 c0_0 l0_0 a0_1 a1 A1 c1 x.f0 _ _ _ (Kd.C_below HG.out HAB.out) hc0_0 (Kd.C_below HIN.out HAB.out) hlc HAT.out).mono ?_; rintro e w1 ⟨v0, rfl, hr, hw⟩; obtain ⟨Av, cv, hv⟩ := Kd.R_slice hr; subst hv; have HR := Lib.hid hr; have HW := Lib.hid hw; have HRR := Lib.hid (Kd.R_below HAR.out hw); have HXX := Lib.hid (blk_below HXB.out hw); have HRN := Lib.hid (Kd.R_lower (Kd.R_new hr (Kd.R_own HAR.out).choose_spec) HAB.out.size); have HB1 := Lib.hid (below_step HAB.out hw); have HX1 := Lib.hid (blk_below HAX.out hw); clear hr hw)
              | (go_at_call 31; refine (HS.out Av cv w1 (Kd.R_reads' HRR.out).2.2 (Kd.R_reads' HR.out).2.2 (Kd.R_reads' HR.out).2.1).mono ?_; rintro e w2 ⟨rfl, hw2⟩; have HW2 := Lib.hid hw2; have HXX2 := Lib.hid (blk_below HXX.out hw2); have HRR2 := Lib.hid (Kd.R_below HRR.out hw2); have HRN2 := Lib.hid (Kd.R_below HRN.out hw2); have HB2 := Lib.hid (below_step HB1.out hw2); have HX2 := Lib.hid (blk_below HX1.out hw2); have hy1 := (blk_cell HXX2.out 1).trans (show _ = some (Value.int .u64 x.f1.f0) from rfl); have hy2 := (blk_cell HXX2.out 2).trans (show _ = some (Value.bool x.f1.f1) from rfl); have hy3 := (blk_cell HXX2.out 3).trans (show _ = some (Value.int .i64 x.f1.f2.f0) from rfl); have hy4 := (blk_cell HXX2.out 4).trans (show _ = some (Value.int .u64 x.f1.f2.f1) from rfl); have hy5 := (blk_cell HXX2.out 5).trans (show _ = some (Value.int .i64 x.f1.f3) from rfl); have hy6 := (blk_cell HXX2.out 6).trans (show _ = some (Value.int .i64 x.f1.f4) from rfl); clear hw2))
            obtain ⟨g, hgA, hgw⟩ : ∃ g, Ar = some ⟨g, 0, none⟩ ∧ ∃ cur, w2.heap[g]? = some (.cells cur 51 (0, 0)) := by
              rcases (Kd.R_own HRR2.out).choose_spec.2 with ⟨_, h0⟩ | ⟨g, cap, cur, hv, hb, hh, _⟩
              · omega
              · injection hv with h1 _ _
                exact ⟨g, h1, cur, hh⟩
            obtain ⟨ad, Ay, cy, ha, hz0, hz1, hz2, hz3, hz4, hz5, hz6, hlc2, hin2⟩ := at_T51 (Kd.R_reads' HRR2.out).2.2 (i : Int) (by omega) (by omega)
            subst ha
            have hadg : ad = ⟨g, 0, none⟩ := by injection hgA
            rw [← HY.out] at hz0 hz1 hz2 hz3 hz4 hz5 hz6 hlc2 hin2
            simp only [Int.toNat_natCast] at hz0 hz1 hz2 hz3 hz4 hz5 hz6
            have hblk : (ad.add (i * 7)).block = g := by rw [hadg, add_plain]
            have hlg : g < w2.heap.size := blk_lt hgw.choose_spec
            have hfz : ∀ (w3 : World), Below w2.heap.size w2 w3 → ∀ o, w3.frozen? ⟨(ad.add (i * 7)).block, o, none⟩ = false := fun w3 hb o => by
              rw [hblk]; exact blk_frozen (blk_below hgw.choose_spec hb) o
            have HFZ := Lib.hid hfz; have HADG := Lib.hid hadg; have HGW := Lib.hid hgw
            clear hfz hadg hgw hgA hblk
            go_region_with (go_at_call 18; refine (agg_Merge.calls y.f1.f0 y.f1.f1 y.f1.f2.f0 y.f1.f2.f1 y.f1.f3 y.f1.f4 x.f1.f0 x.f1.f1 x.f1.f2.f0 x.f1.f2.f1 x.f1.f3 x.f1.f4 _ _ _ _ _ _ _ HM.out).mono ?_; rintro e w3 ⟨rfl, hw3d⟩; have hw3 : Below w2.heap.size w2 w3 := ⟨hw3d.os, hw3d.tape, hw3d.output, hw3d.size, hw3d.block⟩; have HW3 := Lib.hid hw3; have hq1 := (hw3.cell (World.block_lt_of_cell? w2 _ hz1)).trans hz1; have hq2 := (hw3.cell (World.block_lt_of_cell? w2 _ hz2)).trans hz2; have hq3 := (hw3.cell (World.block_lt_of_cell? w2 _ hz3)).trans hz3; have hq4 := (hw3.cell (World.block_lt_of_cell? w2 _ hz4)).trans hz4; have hq5 := (hw3.cell (World.block_lt_of_cell? w2 _ hz5)).trans hz5; have hq6 := (hw3.cell (World.block_lt_of_cell? w2 _ hz6)).trans hz6; have hp1 := HFZ.out w3 hw3 ((ad.add (i * 7)).off + 1); have hp2 := HFZ.out w3 hw3 ((ad.add (i * 7)).off + 2); have hp3 := HFZ.out w3 hw3 ((ad.add (i * 7)).off + 3); have hp4 := HFZ.out w3 hw3 ((ad.add (i * 7)).off + 4); have hp5 := HFZ.out w3 hw3 ((ad.add (i * 7)).off + 5); have hp6 := HFZ.out w3 hw3 ((ad.add (i * 7)).off + 6); clear hw3 hw3d)
            all_goals
              have hrow := row_agg (Kd.R_below (v := .slice (some ⟨g, 0, none⟩) acc.length cr) (by have := HRR2.out; rw [HADG.out] at this; exact this) HW3.out) i hil2 m (ad.add (i * 7)) (by rw [HADG.out, add_plain])
              rw [← HADG.out] at hrow
              have HROW := Lib.hid hrow
              clear hrow hq1 hq2 hq3 hq4 hq5 hq6 hp1 hp2 hp3 hp4 hp5 hp6
              go_wp2_with (fail)
              go_roundw
              case rel => exact ⟨j + 1, by go_num, hlt, _, (below_step HB2.out HW3.out).grown HROW.out.2 (below_step HB2.out HW3.out).size (by intro k hk; injection hk with hk; have := own_base (Kd.R_own HRR2.out).choose_spec k; rw [HADG.out] at this; subst hk; exact this rfl), blk_grown (blk_below HX2.out HW3.out) HROW.out.2 (by have := Kd.R_ne HRR2.out HX2.out (by decide); rw [HADG.out] at this; exact this), HROW.out.1, by have := HY.out; rw [this] at HF; exact HF.out⟩
              case measure => simp [intOf]; omega
      · have e1 : decide ((j : Int) < (l2.length : Int)) = false := decide_eq_false (by omega)
        rw [List.drop_eq_nil_of_le (by omega)] at hF
        unfold foldGo at hF
        obtain rfl := Option.some.inj hF
        clear hF
        go_wp2
        rw [Exit.noGoto_ret]
        go_ret2
        exact ⟨_, rfl, HJR.out, HJB.out⟩
  · rw [if_neg hz] at h2
    simp only [Option.some.injEq, Prod.mk.injEq] at h2
    obtain ⟨rfl, rfl⟩ := h2
    have hz' : (e0 != 0) = true := bne_iff_ne.2 hz
    have hz'' : (e0 == 0) = false := beq_eq_false_iff_ne.2 hz
    clear h he0 hz
    go_enter Try.func16, Try.ntmps16
    go_wp2
    go_step3
    go_wp2_with (go_at_call 27; refine (fold_check.calls k A0_0 c0_0 l0_0 a0_1 a1 A2 c2 l2 _ _ (Kd.C_below HG.out HB0.out) hc0_0 (Kd.C_below HE.out HB0.out) hc2 HCK.out).mono ?_; rintro e w1 ⟨rfl, hb⟩; have HB1 := Lib.hid (below_step HB0.out hb); clear hb)
    rw [Exit.noGoto_ret]
    go_ret2
    exact ⟨_, rfl, Kd.R_nil _ _ _ _ _, HB1.out⟩
end Go.Proofs.Ytjemmmemenljbaa.PFold
end
