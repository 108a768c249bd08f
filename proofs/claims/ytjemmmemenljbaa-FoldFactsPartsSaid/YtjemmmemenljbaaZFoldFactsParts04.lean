import Derived.Test.YtjemmmemenljbaaZFoldFactsParts03
section
namespace Go.Proofs.Ytjemmmemenljbaa.PFold
open Go.RowKit Go.Proofs.YtjemmmemenljbaaW.PrintWords Go.Proofs.YtjemmmemenljbaaW.PrintLast Go.Proofs.YtjemmmemenljbaaW.PrintMore
set_option linter.unusedVariables false
set_option linter.unusedSimpArgs false
set_option maxHeartbeats 8000000
set_option maxRecDepth 100000
abbrev En := S51
def CmpEnt (g : Nat) : Prop := ∀ (W : World) (A : Option Addr) (c : Nat) (x : En) (B : Option Addr) (d : Nat) (b : List Int), Kd.C (Kd.int .u8) W A x.f0.length x.f0 → x.f0.length ≤ c → Kd.C (Kd.int .u8) W B b.length b → b.length ≤ d → x.f0.all isB = true → b.all isB = true →
  Calls Try.prog g #[.agg #[.slice A x.f0.length c, .int .u64 x.f1.f0, .bool x.f1.f1, .int .i64 x.f1.f2.f0, .int .u64 x.f1.f2.f1, .int .i64 x.f1.f3, .int .i64 x.f1.f4], .slice B b.length d] W fun e w' => e = .returned (.int .i64 (cmpB x.f0 b)) ∧ Below W.heap.size W w'
theorem cmp_fold : CmpEnt 39 := by
  intro W A c x B d b hA hc hB hd hx hb
  have H : Hid (bytes_Compare.f x.f0 b = some (cmpB x.f0 b)) := Lib.hid (by unfold bytes_Compare.f; rw [if_pos ⟨hx, hb⟩])
  have HA := Lib.hid hA; have HB := Lib.hid hB
  clear hA hB hx hb
  go_enter Try.func39, Try.ntmps39
  go_wp2_with (go_at_call 33; refine (bytes_Compare.calls A c x.f0 B d b _ _ (Kd.C_below HA.out ((Below.refl _ _).alloc (Nat.le_refl _) _)) hc (Kd.C_below HB.out ((Below.refl _ _).alloc (Nat.le_refl _) _)) hd H.out).mono ?_; rintro e w' ⟨rfl, hw⟩; have HW := Lib.hid hw.below; clear hw)
  go_ret
  exact ⟨rfl, below_step ((Below.refl _ _).alloc (Nat.le_refl _) _) HW.out⟩
theorem cmp_facts : CmpEnt 32 := by
  intro W A c x B d b hA hc hB hd hx hb
  have H : Hid (bytes_Compare.f x.f0 b = some (cmpB x.f0 b)) := Lib.hid (by unfold bytes_Compare.f; rw [if_pos ⟨hx, hb⟩])
  have HA := Lib.hid hA; have HB := Lib.hid hB
  clear hA hB hx hb
  go_enter Try.func32, Try.ntmps32
  go_wp2_with (go_at_call 33; refine (bytes_Compare.calls A c x.f0 B d b _ _ (Kd.C_below HA.out ((Below.refl _ _).alloc (Nat.le_refl _) _)) hc (Kd.C_below HB.out ((Below.refl _ _).alloc (Nat.le_refl _) _)) hd H.out).mono ?_; rintro e w' ⟨rfl, hw⟩; have HW := Lib.hid hw.below; clear hw)
  go_ret
  exact ⟨rfl, below_step ((Below.refl _ _).alloc (Nat.le_refl _) _) HW.out⟩
def bsF (l : List En) (b : List Int) : Nat → Nat → Nat → Nat
  | 0, i, _ => i
  | f + 1, i, j => if i < j then (if cmpB (rd_T51 l (((i + j) / 2 : Nat) : Int)).f0 b < 0 then bsF l b f ((i + j) / 2 + 1) j else bsF l b f i ((i + j) / 2)) else i
def placeE (l : List En) (b : List Int) : Nat := bsF l b l.length 0 l.length
def thereE (l : List En) (b : List Int) : Bool := decide (placeE l b < l.length) && (cmpB (rd_T51 l ((placeE l b : Nat) : Int)).f0 b == 0)
theorem bsF_le (l : List En) (b : List Int) (f : Nat) : ∀ i j : Nat, i ≤ j → bsF l b f i j ≤ j ∧ i ≤ bsF l b f i j := by
  induction f with
  | zero => intro i j h; exact ⟨h, Nat.le_refl _⟩
  | succ f ih =>
    intro i j h
    unfold bsF
    split
    · split
      · have := ih ((i + j) / 2 + 1) j (by omega); omega
      · have := ih i ((i + j) / 2) (by omega); omega
    · exact ⟨h, Nat.le_refl _⟩
theorem rd_ent {l : List En} {j : Nat} (h : j < l.length) : rd_T51 l (j : Int) = l[j] := by
  unfold rd_T51
  rw [show ((j : Int)).toNat = j from by omega, List.getD_eq_getElem?_getD, List.getElem?_eq_getElem h]
  rfl
def SrchRel (w : World) (l : List En) (b : List Int) (i j : Nat) (wr : World) : Prop := Below w.heap.size w wr ∧ i ≤ j ∧ j ≤ l.length ∧ ∃ f, j ≤ i + f ∧ bsF l b f i j = placeE l b
theorem search_ents (g : Nat) (hg : CmpEnt g) (eg : ∀ args w, (callFunc g args).run Try.prog w = .ok (.enter g args) w) (A0 : Option Addr) (c0 : Nat) (l0 : List En) (B : Option Addr) (d : Nat) (b : List Int) (w : World) (hr0 : Kd.C k51 w A0 l0.length l0) (hl : l0.length ≤ 1000) (hb : Kd.C (Kd.int .u8) w B b.length b) (hd : b.length ≤ d) (hx : ∀ x ∈ l0, x.f0.all isB = true) (hbb : b.all isB = true) :
    Calls Try.prog 31 #[.slice A0 l0.length c0, .slice B b.length d, .func (.func g) #[] #[]] w fun e w' => e = .returned (.tuple #[.int .i64 (placeE l0 b : Nat), .bool (thereE l0 b)]) ∧ Below w.heap.size w w' := by
  have HC := Lib.hid hr0; have HB := Lib.hid hb; have HX := Lib.hid hx; have HBB := Lib.hid hbb; have HG := Lib.hid hg
  clear hr0 hb hx hbb hg
  go_enter Try.func31, Try.ntmps31
  go_wp2
  go_loopw [9, 10, 11] (fun v9 v10 _ wr => ∃ i j : Nat, v9 = .int .i64 i ∧ v10 = .int .i64 j ∧ SrchRel w l0 b i j wr) (fun v9 v10 _ _ => (intOf v10).toNat - (intOf v9).toNat)
  case atStart => exact ⟨0, l0.length, rfl, rfl, Below.refl _ _, Nat.zero_le _, Nat.le_refl _, l0.length, by omega, rfl⟩
  case round =>
    obtain ⟨i, j, rfl, rfl, hB, hij, hj, f, hf, hR⟩ := hrel
    have HBW := Lib.hid hB; have HR := Lib.hid hR
    clear hB hR
    by_cases hlt : i < j
    · have e1 : decide ((i : Int) < (j : Int)) = true := decide_eq_true (by omega)
      have e2 : decide (i < j) = true := decide_eq_true hlt
      obtain ⟨h, hh⟩ : ∃ h, h = (i + j) / 2 := ⟨_, rfl⟩
      have hhl : h < l0.length := by omega
      have hh1 : i ≤ h := by omega
      have hh2 : h < j := by omega
      go_upto_region 5 with (fail)
      have hq : ((i : Int) + (j : Int)) / 2 = (h : Int) := by omega
      rw [hq]
      have HH := Lib.hid hh
      clear hq hh e1 e2
      obtain ⟨ad, A1, c1, ha, hx0, hx1, hx2, hx3, hx4, hx5, hx6, hlc, hin⟩ := at_T51 HC.out (h : Int) (by omega) (by omega)
      subst ha
      have HIN := Lib.hid (Kd.C_below hin HBW.out)
      have hxx := rd_ent hhl
      obtain ⟨x, hx⟩ : ∃ x, x = rd_T51 l0 (h : Int) := ⟨_, rfl⟩
      have hisb : Hid (x.f0.all isB = true) := Lib.hid (HX.out x (by rw [hx, hxx]; exact List.getElem_mem _))
      rw [← hx] at hx0 hx1 hx2 hx3 hx4 hx5 hx6 hlc HIN
      simp only [Int.toNat_natCast] at hx0 hx1 hx2 hx3 hx4 hx5 hx6
      replace hx0 := (HBW.out.cell (World.block_lt_of_cell? w _ hx0)).trans hx0
      replace hx1 := (HBW.out.cell (World.block_lt_of_cell? w _ hx1)).trans hx1
      replace hx2 := (HBW.out.cell (World.block_lt_of_cell? w _ hx2)).trans hx2
      replace hx3 := (HBW.out.cell (World.block_lt_of_cell? w _ hx3)).trans hx3
      replace hx4 := (HBW.out.cell (World.block_lt_of_cell? w _ hx4)).trans hx4
      replace hx5 := (HBW.out.cell (World.block_lt_of_cell? w _ hx5)).trans hx5
      replace hx6 := (HBW.out.cell (World.block_lt_of_cell? w _ hx6)).trans hx6
      have HXR := Lib.hid hx
      have hcall := Lib.hid (HG.out wr A1 c1 x B d b HIN.out hlc (Kd.C_below HB.out HBW.out) hd hisb.out HBB.out)
      clear hx hxx hin hlc
      have hst : Hid (∀ f', f = f' + 1 → (if cmpB x.f0 b < 0 then bsF l0 b f' (h + 1) j else bsF l0 b f' i h) = placeE l0 b) := Lib.hid (fun f' e => by
        rw [← HR.out, e, HXR.out, HH.out]
        conv => rhs; unfold bsF
        rw [if_pos hlt])
      obtain ⟨f', hf'⟩ : ∃ f', f = f' + 1 := ⟨f - 1, by omega⟩
      have hst2 := Lib.hid (hst.out f' hf')
      generalize hcm : cmpB x.f0 b = cm at *
      have HCM := Lib.hid hcm
      clear hcm hst
      by_cases hneg : cm < 0
      · have d1 : decide (cm < 0) = true := decide_eq_true hneg
        have hst3 : Hid (bsF l0 b f' (h + 1) j = placeE l0 b) := Lib.hid (by have := hst2.out; rwa [if_pos hneg] at this)
        clear hneg hst2
        go_wp2_with (go_at_fn g; refine hcall.out.mono ?_; rintro e w' ⟨rfl, hb'⟩; have HB' := Lib.hid hb'; clear hb')
        go_roundw
        case rel => exact ⟨h + 1, j, by go_num, rfl, below_step HBW.out HB'.out, hh2, hj, f', by omega, hst3.out⟩
        case measure => simp [intOf]; omega
      · have d1 : decide (cm < 0) = false := decide_eq_false hneg
        have hst3 : Hid (bsF l0 b f' i h = placeE l0 b) := Lib.hid (by have := hst2.out; rwa [if_neg hneg] at this)
        clear hneg hst2
        go_wp2_with (go_at_fn g; refine hcall.out.mono ?_; rintro e w' ⟨rfl, hb'⟩; have HB' := Lib.hid hb'; clear hb')
        go_roundw
        case rel => exact ⟨i, h, rfl, rfl, below_step HBW.out HB'.out, hh1, by omega, f', by omega, hst3.out⟩
        case measure => simp [intOf]; omega
    · have e1 : decide ((i : Int) < (j : Int)) = false := decide_eq_false (by omega)
      have e2 : decide (i < j) = false := decide_eq_false hlt
      obtain rfl : i = j := by omega
      have hpl : placeE l0 b = i := by
        rw [← HR.out]
        have := bsF_le l0 b f i i (Nat.le_refl _)
        omega
      by_cases hil : i < l0.length
      · have d1 : decide ((i : Int) < (l0.length : Int)) = true := decide_eq_true (by omega)
        have d2 : decide (i < l0.length) = true := decide_eq_true hil
        obtain ⟨ad, A1, c1, ha, hx0, hx1, hx2, hx3, hx4, hx5, hx6, hlc, hin⟩ := at_T51 HC.out (i : Int) (by omega) (by omega)
        subst ha
        have HIN := Lib.hid (Kd.C_below hin HBW.out)
        have hxx := rd_ent hil
        obtain ⟨x, hx⟩ : ∃ x, x = rd_T51 l0 (i : Int) := ⟨_, rfl⟩
        have hisb : Hid (x.f0.all isB = true) := Lib.hid (HX.out x (by rw [hx, hxx]; exact List.getElem_mem _))
        rw [← hx] at hx0 hx1 hx2 hx3 hx4 hx5 hx6 hlc HIN
        simp only [Int.toNat_natCast] at hx0 hx1 hx2 hx3 hx4 hx5 hx6
        replace hx0 := (HBW.out.cell (World.block_lt_of_cell? w _ hx0)).trans hx0
        replace hx1 := (HBW.out.cell (World.block_lt_of_cell? w _ hx1)).trans hx1
        replace hx2 := (HBW.out.cell (World.block_lt_of_cell? w _ hx2)).trans hx2
        replace hx3 := (HBW.out.cell (World.block_lt_of_cell? w _ hx3)).trans hx3
        replace hx4 := (HBW.out.cell (World.block_lt_of_cell? w _ hx4)).trans hx4
        replace hx5 := (HBW.out.cell (World.block_lt_of_cell? w _ hx5)).trans hx5
        replace hx6 := (HBW.out.cell (World.block_lt_of_cell? w _ hx6)).trans hx6
        have HXR := Lib.hid hx
        have hcall := Lib.hid (HG.out wr A1 c1 x B d b HIN.out hlc (Kd.C_below HB.out HBW.out) hd hisb.out HBB.out)
        clear hx hxx hin hlc
        have hth : Hid (thereE l0 b = (cmpB x.f0 b == 0)) := Lib.hid (by
          unfold thereE
          rw [hpl, decide_eq_true hil, HXR.out]
          rfl)
        have HPL := Lib.hid hpl
        clear hpl
        generalize hcm : cmpB x.f0 b = cm at *
        clear hcm
        cases hz : (cm == 0)
        all_goals
          rw [hz] at hth
          have HZ := Lib.hid hz
          go_wp2_with (go_at_fn g; refine hcall.out.mono ?_; rintro e w' ⟨rfl, hb'⟩; have HB' := Lib.hid hb'; clear hb')
          go_ret2
          exact ⟨by rw [hth.out, HPL.out]; rfl, below_step HBW.out HB'.out⟩
      · have d1 : decide ((i : Int) < (l0.length : Int)) = false := decide_eq_false (by omega)
        have d2 : decide (i < l0.length) = false := decide_eq_false hil
        have hth : Hid (thereE l0 b = false) := Lib.hid (by
          unfold thereE
          rw [hpl, decide_eq_false hil]
          rfl)
        have HPL := Lib.hid hpl
        clear hpl
        go_wp2
        go_ret2
        exact ⟨by rw [hth.out, HPL.out]; rfl, HBW.out⟩
theorem dim_long (s : ByteArray) (w : World) : Calls Try.prog 86 #[.string s] w fun e w' => e = .returned (.bool (decide (16 < (s.size : Int)))) ∧ w = w' := by
  go_enter Try.func86, Try.ntmps86
  go_wp2
  go_ret
  exact ⟨rfl, rfl⟩
def lng (s : ByteArray) : Bool := decide (16 < (s.size : Int))
def idxS (l : List ByteArray) : Int := match l.findIdx? lng with | some i => (i : Int) | none => -1
theorem idxS_hit {l : List ByteArray} {j : Nat} (h : j < l.length) (h1 : lng l[j] = true) (h2 : ∀ i, ∀ hi : i < j, lng (l[i]'(by omega)) = false) : idxS l = j := by
  unfold idxS
  have : l.findIdx? lng = some j := by
    rw [List.findIdx?_eq_some_iff_getElem]
    exact ⟨h, h1, fun i hi => by simpa using h2 i hi⟩
  rw [this]
theorem idxS_miss {l : List ByteArray} (h2 : ∀ i, ∀ hi : i < l.length, lng l[i] = false) : idxS l = -1 := by
  unfold idxS
  have : l.findIdx? lng = none := by
    rw [List.findIdx?_eq_none_iff]
    intro x hx
    obtain ⟨i, hi, rfl⟩ := List.mem_iff_getElem.1 hx
    exact h2 i hi
  rw [this]
theorem idxS_any (l : List ByteArray) : decide (idxS l ≥ 0) = l.any lng := by
  unfold idxS
  cases h : l.findIdx? lng with
  | none =>
    rw [List.findIdx?_eq_none_iff] at h
    have : l.any lng = false := by rw [List.any_eq_false]; intro x hx; simp [h x hx]
    rw [this]; rfl
  | some i =>
    rw [List.findIdx?_eq_some_iff_getElem] at h
    obtain ⟨hi, hp, _⟩ := h
    rw [List.any_eq_true.2 ⟨_, List.getElem_mem hi, hp⟩]
    exact decide_eq_true (show ((i : Nat) : Int) ≥ 0 by omega)
def IdxSRel (w : World) (l : List ByteArray) (j : Nat) (wr : World) : Prop := j ≤ l.length ∧ wr = w ∧ ∀ i, i < j → ∀ hi : i < l.length, lng l[i] = false
theorem index_dims (A0 : Option Addr) (c0 : Nat) (l0 : List ByteArray) (w : World) (hr0 : Kd.C Kd.string w A0 l0.length l0) (hl : l0.length ≤ 1000) :
    Calls Try.prog 100 #[.slice A0 l0.length c0, .func (.func 86) #[] #[]] w fun e w' => e = .returned (.int .i64 (idxS l0)) ∧ w = w' := by
  have HC := Lib.hid hr0; clear hr0
  go_enter Try.func100, Try.ntmps100
  go_wp2
  go_loopw [5, 8] (fun _ v wr => ∃ j : Nat, v = .int .i64 j ∧ IdxSRel w l0 j wr) (fun _ v _ => l0.length - (intOf v).toNat)
  case atStart => exact ⟨0, rfl, Nat.zero_le _, rfl, fun i hi => by omega⟩
  case round =>
    obtain ⟨j, rfl, hj, rfl, hno⟩ := hrel
    have HN := Lib.hid hno; clear hno
    by_cases hlt : j < l0.length
    · have e1 : decide ((j : Int) < (l0.length : Int)) = true := decide_eq_true (by omega)
      obtain ⟨ad, ha, hx0⟩ := Kd.at_string HC.out (j : Int) (by omega) (by omega)
      subst ha
      obtain ⟨x, hx⟩ : ∃ x, x = rdOf ByteArray.empty l0 (j : Int) := ⟨_, rfl⟩
      have hxl : Hid (x = l0[j]) := Lib.hid (by
        rw [hx]; unfold rdOf
        rw [show ((j : Int)).toNat = j from by omega, List.getD_eq_getElem?_getD, List.getElem?_eq_getElem hlt]
        rfl)
      rw [← hx] at hx0
      simp only [Int.toNat_natCast] at hx0
      clear hx
      cases hq : lng x with
      | true =>
        have HQ := Lib.hid hq
        unfold lng at hq
        go_wp2_with (go_at_call 86; refine (dim_long x _).mono ?_; rintro e w' ⟨rfl, rfl⟩)
        go_ret
        refine ⟨?_, rfl⟩
        rw [idxS_hit hlt (by rw [← hxl.out]; exact HQ.out) (fun i hi => HN.out i hi (by omega))]
        rfl
      | false =>
        have HQ := Lib.hid hq
        unfold lng at hq
        go_wp2_with (go_at_call 86; refine (dim_long x _).mono ?_; rintro e w' ⟨rfl, rfl⟩)
        go_roundw
        case rel =>
          refine ⟨j + 1, by go_num, hlt, rfl, fun i hi hi' => ?_⟩
          by_cases e : i = j
          · subst e
            rw [← hxl.out]; exact HQ.out
          · exact HN.out i (by omega) hi'
        case measure => simp [intOf]; omega
    · have e1 : decide ((j : Int) < (l0.length : Int)) = false := decide_eq_false (by omega)
      go_wp2
      go_ret
      refine ⟨?_, rfl⟩
      rw [idxS_miss (fun i hi => HN.out i (by omega) hi)]
      rfl
theorem contains_dims (A0 : Option Addr) (c0 : Nat) (l0 : List ByteArray) (w : World) (hr0 : Kd.C Kd.string w A0 l0.length l0) (hl : l0.length ≤ 1000) :
    Calls Try.prog 85 #[.slice A0 l0.length c0, .func (.func 86) #[] #[]] w fun e w' => e = .returned (.bool (l0.any lng)) ∧ w = w' := by
  have HC := Lib.hid hr0; clear hr0
  have hA := Lib.hid (idxS_any l0)
  go_enter Try.func85, Try.ntmps85
  go_wp2_with (go_at_call 100; refine (index_dims A0 c0 l0 w HC.out hl).mono ?_; rintro e w' ⟨rfl, rfl⟩)
  go_ret
  refine ⟨?_, rfl⟩
  rw [← hA.out]
  rfl
def dimsB (l : List ByteArray) : Bool := decide (l.length ≤ 4) && !l.any lng
def key_fits.f (l : List ByteArray) : Option Bool := some (dimsB l)
theorem key_fits.calls (A0 : Option Addr) (c0 : Nat) (l0 : List ByteArray) (r : Bool) (w : World) (hr0 : Kd.C Kd.string w A0 l0.length l0) (_ : l0.length ≤ c0) (h : key_fits.f l0 = some r) :
    Calls Try.prog 61 #[.slice A0 l0.length c0] w fun e w' => e = .returned (.bool r) ∧ Drawn0 w w' := by
  have HC := Lib.hid hr0; clear hr0
  have H : Hid (dimsB l0 = r) := Lib.hid (Option.some.inj h)
  clear h
  by_cases hl : l0.length ≤ 4
  · have e1 : decide ((l0.length : Int) ≤ 4) = true := decide_eq_true (by omega)
    have e2 : decide (l0.length ≤ 4) = true := decide_eq_true hl
    cases hq : l0.any lng with
    | true =>
      have HQ := Lib.hid hq; clear hq
      go_enter Try.func61, Try.ntmps61
      go_wp2_with (go_at_call 85; refine (contains_dims A0 c0 l0 w HC.out (by omega)).mono ?_; rintro e w' ⟨rfl, rfl⟩; rw [HQ.out])
      go_ret
      refine ⟨?_, Drawn0.refl _⟩
      rw [← H.out]; unfold dimsB; rw [HQ.out]; simp
    | false =>
      have HQ := Lib.hid hq; clear hq
      go_enter Try.func61, Try.ntmps61
      go_wp2_with (go_at_call 85; refine (contains_dims A0 c0 l0 w HC.out (by omega)).mono ?_; rintro e w' ⟨rfl, rfl⟩; rw [HQ.out])
      go_ret
      refine ⟨?_, Drawn0.refl _⟩
      rw [← H.out]; unfold dimsB; rw [HQ.out, e2]; rfl
  · have e1 : decide ((l0.length : Int) ≤ 4) = false := decide_eq_false (by omega)
    have e2 : decide (l0.length ≤ 4) = false := decide_eq_false hl
    have H2 : Hid (r = false) := Lib.hid (by rw [← H.out]; unfold dimsB; rw [e2]; rfl)
    go_enter Try.func61, Try.ntmps61
    go_wp2
    go_ret
    exact ⟨by rw [H2.out]; rfl, Drawn0.refl _⟩
def szR (g : List S67) (i : Nat) : Int := (rd_T67 g (i : Int)).f0
def agR0 (g : List S67) (i : Nat) : Int := (rd_T67 g (i : Int)).f1
def stepR (g : List S67) (i : Nat) : Bool := decide (1 ≤ szR g i) && (decide (szR g i ≤ 1099511627776) && (decide (agR0 g i ≤ 1099511627776) && (decide (i = 0) || (decide (szR g (i - 1) < szR g i) && (decide (Int.tmod (szR g i) (szR g (i - 1)) = 0) && decide (agR0 g (i - 1) ≤ agR0 g i))))))
def rightR (g : List S67) (keep : Int) : Bool := decide (1 ≤ g.length) && (decide (g.length ≤ 4) && (decide (agR0 g 0 = 0) && ((List.range g.length).all (stepR g) && (decide (agR0 g (g.length - 1) ≤ keep) && decide (keep ≤ 2199023255552)))))
def grain_Right.f (_ : Nat) (g : List S67) (keep : Int) : Option Bool := some (rightR g keep)
def RightRel (w : World) (g : List S67) (A0 : Option Addr) (c0 : Nat) (keep : Int) (j : Nat) (wr : World) : Prop :=
  Below w.heap.size w wr ∧ wr.heap[w.heap.size]? = some (.cells #[.slice A0 g.length c0, .int .i64 keep] 24 (0, 0)) ∧ ∀ q, q < j → stepR g q = true
theorem grain_Right.calls (k : Nat) (A0_0 : Option Addr) (c0_0 : Nat) (l0_0 : List S67) (a0_1 : Int) (r : Bool) (w : World) (hr0_0 : Kd.C k67 w A0_0 l0_0.length l0_0) (hc0_0 : l0_0.length ≤ c0_0) (h : grain_Right.f k l0_0 a0_1 = some r) :
    Calls Try.prog 52 #[.agg #[.slice A0_0 l0_0.length c0_0, .int .i64 a0_1]] w fun e w' => e = .returned (.bool r) ∧ Below w.heap.size w w' := by
  unfold grain_Right.f at h
  obtain rfl := Option.some.inj h
  have HG := Lib.hid hr0_0; clear hr0_0 h
  by_cases h1 : l0_0.length < 1
  · have e1 : decide ((l0_0.length : Int) < 1) = true := decide_eq_true (by omega)
    have e2 : decide (l0_0.length < 1) = true := decide_eq_true h1
    have hR : rightR l0_0 a0_1 = false := by unfold rightR; rw [decide_eq_false (by omega)]; rfl
    rw [hR]
    go_enter Try.func52, Try.ntmps52
    (go_wp2; repeat (go_step3; try (go_wp2)))
    rw [Exit.noGoto_ret]
    go_ret
    exact ⟨rfl, below_alloc (Below.refl _ _) _⟩
  by_cases h4 : 4 < l0_0.length
  · have e1 : decide ((l0_0.length : Int) < 1) = false := decide_eq_false (by omega)
    have e2 : decide (l0_0.length < 1) = false := decide_eq_false h1
    have e3 : decide (4 < (l0_0.length : Int)) = true := decide_eq_true (by omega)
    have e4 : decide (4 < l0_0.length) = true := decide_eq_true h4
    have hR : rightR l0_0 a0_1 = false := by unfold rightR; rw [decide_eq_true (show 1 ≤ l0_0.length by omega), decide_eq_false (show ¬ l0_0.length ≤ 4 by omega)]; rfl
    rw [hR]
    go_enter Try.func52, Try.ntmps52
    (go_wp2; repeat (go_step3; try (go_wp2)))
    rw [Exit.noGoto_ret]
    go_ret
    exact ⟨rfl, below_alloc (Below.refl _ _) _⟩
  have e1 : decide ((l0_0.length : Int) < 1) = false := decide_eq_false (by omega)
  have e2 : decide (l0_0.length < 1) = false := decide_eq_false h1
  have e3 : decide (4 < (l0_0.length : Int)) = false := decide_eq_false (by omega)
  have e4 : decide (4 < l0_0.length) = false := decide_eq_false h4
  obtain ⟨ad, ha, hx0, hx1⟩ := at_T67 HG.out 0 (by omega) (by omega)
  subst ha
  have hpos : (0 < l0_0.length) = True := eq_true (by omega)
  have hpos2 : ((0 : Int) < (l0_0.length : Int)) = True := eq_true (by omega)
  simp only [Int.toNat_zero, Nat.zero_mul, Addr.add_zero'] at hx0 hx1
  replace hx0 := (Below.cell (below_alloc (Below.refl w.heap.size w) (.cells #[.slice (some ad) l0_0.length c0_0, .int .i64 a0_1] 24)) (World.block_lt_of_cell? w _ hx0)).trans hx0
  replace hx1 := (Below.cell (below_alloc (Below.refl w.heap.size w) (.cells #[.slice (some ad) l0_0.length c0_0, .int .i64 a0_1] 24)) (World.block_lt_of_cell? w _ hx1)).trans hx1
  have hz0 : (rd_T67 l0_0 0).f1 = agR0 l0_0 0 := rfl
  rw [hz0] at hx1
  by_cases h0 : agR0 l0_0 0 = 0
  case neg =>
    have e5 : (agR0 l0_0 0 != 0) = true := bne_iff_ne.mpr h0
    have e6 : (agR0 l0_0 0 == 0) = false := beq_eq_false_iff_ne.mpr h0
    have hR : rightR l0_0 a0_1 = false := by unfold rightR; rw [decide_eq_true (show 1 ≤ l0_0.length by omega), decide_eq_true (show l0_0.length ≤ 4 by omega), decide_eq_false h0]; rfl
    rw [hR]
    go_enter Try.func52, Try.ntmps52
    (go_wp2; repeat (go_step3; try (go_wp2)))
    rw [Exit.noGoto_ret]
    go_ret
    exact ⟨rfl, below_alloc (Below.refl _ _) _⟩
  case pos =>
    have e5 : (agR0 l0_0 0 != 0) = false := bne_eq_false_iff_eq.mpr h0
    have e6 : (agR0 l0_0 0 == 0) = true := beq_iff_eq.mpr h0
    have HX : Hid (w.cell? ad = w.cell? ad) := Lib.hid rfl
    go_enter Try.func52, Try.ntmps52
    (go_wp2; repeat (go_step3; try (go_wp2)))
    go_loopw [4, 26] (fun v4 v wr => ∃ j : Nat, v = .int .i64 j ∧ v4 = .bool true ∧ j ≤ l0_0.length ∧ RightRel w l0_0 (some ad) c0_0 a0_1 j wr) (fun _ v _ => l0_0.length - (intOf v).toNat)
    case atStart => exact ⟨0, rfl, rfl, Nat.zero_le _, below_alloc (Below.refl _ _) _, blk_new _ _, fun q hq => absurd hq (Nat.not_lt_zero _)⟩
    case round =>
      obtain ⟨j, rfl, rfl, hj, hB, hX, hs⟩ := hrel
      have HB := Lib.hid hB; have HXX := Lib.hid hX; have HS := Lib.hid hs; clear hB hX hs
      have hk0 := (blk_cell HXX.out 0).trans (show _ = some (Value.slice (some ad) l0_0.length c0_0) from rfl)
      have hk1 := (blk_cell HXX.out 1).trans (show _ = some (Value.int .i64 a0_1) from rfl)
      clear hx0 hx1 hz0 e5 e6
      by_cases hlt : j < l0_0.length
      · have q1 : decide ((j : Int) < (l0_0.length : Int)) = true := decide_eq_true (by omega)
        have q2 : (0 ≤ (j : Int)) = True := eq_true (by omega)
        have q3 : ((j : Int) < (l0_0.length : Int)) = True := eq_true (by omega)
        obtain ⟨ad2, ha2, hy0, hy1⟩ := at_T67 HG.out (j : Int) (by omega) (by omega)
        obtain rfl : ad = ad2 := by injection ha2
        simp only [Int.toNat_natCast] at hy0 hy1
        replace hy0 := (HB.out.cell (World.block_lt_of_cell? w _ hy0)).trans hy0
        replace hy1 := (HB.out.cell (World.block_lt_of_cell? w _ hy1)).trans hy1
        have HST := Lib.hid (show stepR l0_0 j = stepR l0_0 j from rfl)
        have hF : stepR l0_0 j = false → rightR l0_0 a0_1 = false := fun hh => by
          have ha : (List.range l0_0.length).all (stepR l0_0) = false := List.all_eq_false.2 ⟨j, List.mem_range.2 hlt, by rw [hh]; decide⟩
          unfold rightR
          rw [ha, Bool.false_and, Bool.and_false, Bool.and_false, Bool.and_false]
        have hsj : stepR l0_0 j = (decide (1 ≤ szR l0_0 j) && (decide (szR l0_0 j ≤ 1099511627776) && (decide (agR0 l0_0 j ≤ 1099511627776) && (decide (j = 0) || (decide (szR l0_0 (j - 1) < szR l0_0 j) && (decide (Int.tmod (szR l0_0 j) (szR l0_0 (j - 1)) = 0) && decide (agR0 l0_0 (j - 1) ≤ agR0 l0_0 j))))))) := rfl
        rw [show (rd_T67 l0_0 (j : Int)).f0 = szR l0_0 j from rfl] at hy0
        rw [show (rd_T67 l0_0 (j : Int)).f1 = agR0 l0_0 j from rfl] at hy1
        have HSZ := Lib.hid (below_size HB.out)
        by_cases c1 : 1 ≤ szR l0_0 j
        case neg =>
          have f1 : decide (1 ≤ szR l0_0 j) = false := decide_eq_false c1
          have HF := Lib.hid (hF (by rw [hsj, f1]; rfl))
          clear hsj hF c1
          generalize szR l0_0 j = s at *
          generalize agR0 l0_0 j = a at *
          (go_wp2; repeat (go_step3; try (go_wp2)))
          repeat (go_quiet (fail); try (go_wp2; repeat (go_step3; try (go_wp2))))
          rw [Exit.noGoto_ret]
          go_ret
          exact ⟨by rw [HF.out]; rfl, by repeat (first | (with_reducible first | exact HB.out | apply below_alloc | apply pw_below_drewN | apply below_drew1 | refine below_set ?_ HSZ.out) | exact HB.out)⟩
        have f1 : decide (1 ≤ szR l0_0 j) = true := decide_eq_true c1
        by_cases c2 : szR l0_0 j ≤ 1099511627776
        case neg =>
          have f2 : decide (szR l0_0 j ≤ 1099511627776) = false := decide_eq_false c2
          have HF := Lib.hid (hF (by rw [hsj, f1, f2]; rfl))
          clear hsj hF c1 c2
          generalize szR l0_0 j = s at *
          generalize agR0 l0_0 j = a at *
          (go_wp2; repeat (go_step3; try (go_wp2)))
          repeat (go_quiet (fail); try (go_wp2; repeat (go_step3; try (go_wp2))))
          rw [Exit.noGoto_ret]
          go_ret
          exact ⟨by rw [HF.out]; rfl, by repeat (first | (with_reducible first | exact HB.out | apply below_alloc | apply pw_below_drewN | apply below_drew1 | refine below_set ?_ HSZ.out) | exact HB.out)⟩
        have f2 : decide (szR l0_0 j ≤ 1099511627776) = true := decide_eq_true c2
        by_cases c3 : agR0 l0_0 j ≤ 1099511627776
        case neg =>
          have f3 : decide (agR0 l0_0 j ≤ 1099511627776) = false := decide_eq_false c3
          have HF := Lib.hid (hF (by rw [hsj, f1, f2, f3]; rfl))
          clear hsj hF c1 c2 c3
          generalize szR l0_0 j = s at *
          generalize agR0 l0_0 j = a at *
          (go_wp2; repeat (go_step3; try (go_wp2)))
          repeat (go_quiet (fail); try (go_wp2; repeat (go_step3; try (go_wp2))))
          rw [Exit.noGoto_ret]
          go_ret
          exact ⟨by rw [HF.out]; rfl, by repeat (first | (with_reducible first | exact HB.out | apply below_alloc | apply pw_below_drewN | apply below_drew1 | refine below_set ?_ HSZ.out) | exact HB.out)⟩
        have f3 : decide (agR0 l0_0 j ≤ 1099511627776) = true := decide_eq_true c3
        by_cases hj0 : j = 0
        case pos =>
          have HN := Lib.hid (show stepR l0_0 j = true by rw [hsj, f1, f2, f3, decide_eq_true hj0]; rfl)
          have q4 : decide ((0 : Int) < (j : Int)) = false := decide_eq_false (by omega)
          have q5 : decide (0 < j) = false := decide_eq_false (by omega)
          clear hsj hF c1 c2 c3 hj0
          generalize szR l0_0 j = s at *
          generalize agR0 l0_0 j = a at *
          (go_wp2; repeat (go_step3; try (go_wp2)))
          exact ⟨⟨j + 1, by go_num, rfl, hlt, by repeat (first | (with_reducible first | exact HB.out | apply below_alloc | apply pw_below_drewN | apply below_drew1 | refine below_set ?_ HSZ.out) | exact HB.out), blk_alloc HXX.out _, fun q hq => by
            rcases Nat.lt_or_ge q j with h | h
            · exact HS.out q h
            · obtain rfl : q = j := by omega
              exact HN.out⟩, by simp [intOf]; omega⟩
        have q4 : decide ((0 : Int) < (j : Int)) = true := decide_eq_true (by omega)
        have q5 : decide (0 < j) = true := decide_eq_true (by omega)
        have q6 : IntKind.i64.wrap ((j : Int) - 1) = ((j - 1 : Nat) : Int) := by rw [IntKind.wrap_i64]; omega
        have q7 : (0 ≤ ((j - 1 : Nat) : Int)) = True := eq_true (by omega)
        have q8 : (((j - 1 : Nat) : Int) < (l0_0.length : Int)) = True := eq_true (by omega)
        obtain ⟨ad3, ha3, hv0, hv1⟩ := at_T67 HG.out ((j - 1 : Nat) : Int) (by omega) (by omega)
        obtain rfl : ad = ad3 := by injection ha3
        simp only [Int.toNat_natCast] at hv0 hv1
        replace hv0 := (HB.out.cell (World.block_lt_of_cell? w _ hv0)).trans hv0
        replace hv1 := (HB.out.cell (World.block_lt_of_cell? w _ hv1)).trans hv1
        rw [show (rd_T67 l0_0 ((j - 1 : Nat) : Int)).f0 = szR l0_0 (j - 1) from rfl] at hv0
        rw [show (rd_T67 l0_0 ((j - 1 : Nat) : Int)).f1 = agR0 l0_0 (j - 1) from rfl] at hv1
        have hs1 : ¬ szR l0_0 (j - 1) = 0 := by
          have := HS.out (j - 1) (by omega)
          unfold stepR at this
          rw [Bool.and_eq_true, decide_eq_true_iff] at this
          have := this.1
          omega
        have f5 : (szR l0_0 (j - 1) == 0) = false := beq_eq_false_iff_ne.mpr hs1
        by_cases c4 : szR l0_0 (j - 1) < szR l0_0 j
        case neg =>
          have f6 : decide (szR l0_0 (j - 1) < szR l0_0 j) = false := decide_eq_false c4
          have HF := Lib.hid (hF (by rw [hsj, f1, f2, f3, decide_eq_false hj0, f6]; rfl))
          clear hsj hF c1 c2 c3 c4
          generalize szR l0_0 j = s at *
          generalize agR0 l0_0 j = a at *
          generalize szR l0_0 (j - 1) = s' at *
          generalize agR0 l0_0 (j - 1) = a' at *
          have hA := fun (x : Addr) (u : Value) (h : wr.cell? x = some u) => ((below_alloc (Below.refl wr.heap.size wr) (.cells #[.int .i64 s, .int .i64 a] 67)).cell (World.block_lt_of_cell? wr _ h)).trans h
          have hk0' := hA _ _ hk0; have hk1' := hA _ _ hk1; have hv0' := hA _ _ hv0; have hv1' := hA _ _ hv1
          have hg0 := (blk_cell (blk_new wr (.cells #[.int .i64 s, .int .i64 a] 67)) 0).trans (show _ = some (Value.int .i64 s) from rfl); have hg1 := (blk_cell (blk_new wr (.cells #[.int .i64 s, .int .i64 a] 67)) 1).trans (show _ = some (Value.int .i64 a) from rfl)
          have hn0 := (blk_cell (blk_alloc (blk_new wr (.cells #[.int .i64 s, .int .i64 a] 67)) (.cells #[.int .i64 s', .int .i64 a'] 67)) 0).trans (show _ = some (Value.int .i64 s) from rfl); have hn1 := (blk_cell (blk_alloc (blk_new wr (.cells #[.int .i64 s, .int .i64 a] 67)) (.cells #[.int .i64 s', .int .i64 a'] 67)) 1).trans (show _ = some (Value.int .i64 a) from rfl)
          have hm0 := (blk_cell (blk_new (wr.alloc (.cells #[.int .i64 s, .int .i64 a] 67)) (.cells #[.int .i64 s', .int .i64 a'] 67)) 0).trans (show _ = some (Value.int .i64 s') from rfl); have hm1 := (blk_cell (blk_new (wr.alloc (.cells #[.int .i64 s, .int .i64 a] 67)) (.cells #[.int .i64 s', .int .i64 a'] 67)) 1).trans (show _ = some (Value.int .i64 a') from rfl)
          clear hA
          (go_wp2; repeat (go_step3; try (go_wp2)))
          repeat (go_quiet (fail); try (go_wp2; repeat (go_step3; try (go_wp2))))
          rw [Exit.noGoto_ret]
          go_ret
          exact ⟨by rw [HF.out]; rfl, by repeat (first | (with_reducible first | exact HB.out | apply below_alloc | apply pw_below_drewN | apply below_drew1 | refine below_set ?_ HSZ.out) | exact HB.out)⟩
        have f6 : decide (szR l0_0 (j - 1) < szR l0_0 j) = true := decide_eq_true c4
        by_cases c5 : Int.tmod (szR l0_0 j) (szR l0_0 (j - 1)) = 0
        case neg =>
          have f7 : (Int.tmod (szR l0_0 j) (szR l0_0 (j - 1)) == 0) = false := beq_eq_false_iff_ne.mpr c5
          have HF := Lib.hid (hF (by rw [hsj, f1, f2, f3, decide_eq_false hj0, f6, decide_eq_false c5]; rfl))
          clear hsj hF c1 c2 c3 c4 c5
          generalize szR l0_0 j = s at *
          generalize agR0 l0_0 j = a at *
          generalize szR l0_0 (j - 1) = s' at *
          generalize agR0 l0_0 (j - 1) = a' at *
          have hA := fun (x : Addr) (u : Value) (h : wr.cell? x = some u) => ((below_alloc (Below.refl wr.heap.size wr) (.cells #[.int .i64 s, .int .i64 a] 67)).cell (World.block_lt_of_cell? wr _ h)).trans h
          have hk0' := hA _ _ hk0; have hk1' := hA _ _ hk1; have hv0' := hA _ _ hv0; have hv1' := hA _ _ hv1
          have hg0 := (blk_cell (blk_new wr (.cells #[.int .i64 s, .int .i64 a] 67)) 0).trans (show _ = some (Value.int .i64 s) from rfl); have hg1 := (blk_cell (blk_new wr (.cells #[.int .i64 s, .int .i64 a] 67)) 1).trans (show _ = some (Value.int .i64 a) from rfl)
          have hn0 := (blk_cell (blk_alloc (blk_new wr (.cells #[.int .i64 s, .int .i64 a] 67)) (.cells #[.int .i64 s', .int .i64 a'] 67)) 0).trans (show _ = some (Value.int .i64 s) from rfl); have hn1 := (blk_cell (blk_alloc (blk_new wr (.cells #[.int .i64 s, .int .i64 a] 67)) (.cells #[.int .i64 s', .int .i64 a'] 67)) 1).trans (show _ = some (Value.int .i64 a) from rfl)
          have hm0 := (blk_cell (blk_new (wr.alloc (.cells #[.int .i64 s, .int .i64 a] 67)) (.cells #[.int .i64 s', .int .i64 a'] 67)) 0).trans (show _ = some (Value.int .i64 s') from rfl); have hm1 := (blk_cell (blk_new (wr.alloc (.cells #[.int .i64 s, .int .i64 a] 67)) (.cells #[.int .i64 s', .int .i64 a'] 67)) 1).trans (show _ = some (Value.int .i64 a') from rfl)
          clear hA
          (go_wp2; repeat (go_step3; try (go_wp2)))
          repeat (go_quiet (fail); try (go_wp2; repeat (go_step3; try (go_wp2))))
          rw [Exit.noGoto_ret]
          go_ret
          exact ⟨by rw [HF.out]; rfl, by repeat (first | (with_reducible first | exact HB.out | apply below_alloc | apply pw_below_drewN | apply below_drew1 | refine below_set ?_ HSZ.out) | exact HB.out)⟩
        have f7 : (Int.tmod (szR l0_0 j) (szR l0_0 (j - 1)) == 0) = true := beq_iff_eq.mpr c5
        by_cases c6 : agR0 l0_0 (j - 1) ≤ agR0 l0_0 j
        case neg =>
          have f8 : decide (agR0 l0_0 (j - 1) ≤ agR0 l0_0 j) = false := decide_eq_false c6
          have HF := Lib.hid (hF (by rw [hsj, f1, f2, f3, decide_eq_false hj0, f6, decide_eq_true c5, f8]; rfl))
          clear hsj hF c1 c2 c3 c4 c5 c6
          generalize szR l0_0 j = s at *
          generalize agR0 l0_0 j = a at *
          generalize szR l0_0 (j - 1) = s' at *
          generalize agR0 l0_0 (j - 1) = a' at *
          have hA := fun (x : Addr) (u : Value) (h : wr.cell? x = some u) => ((below_alloc (Below.refl wr.heap.size wr) (.cells #[.int .i64 s, .int .i64 a] 67)).cell (World.block_lt_of_cell? wr _ h)).trans h
          have hk0' := hA _ _ hk0; have hk1' := hA _ _ hk1; have hv0' := hA _ _ hv0; have hv1' := hA _ _ hv1
          have hg0 := (blk_cell (blk_new wr (.cells #[.int .i64 s, .int .i64 a] 67)) 0).trans (show _ = some (Value.int .i64 s) from rfl); have hg1 := (blk_cell (blk_new wr (.cells #[.int .i64 s, .int .i64 a] 67)) 1).trans (show _ = some (Value.int .i64 a) from rfl)
          have hn0 := (blk_cell (blk_alloc (blk_new wr (.cells #[.int .i64 s, .int .i64 a] 67)) (.cells #[.int .i64 s', .int .i64 a'] 67)) 0).trans (show _ = some (Value.int .i64 s) from rfl); have hn1 := (blk_cell (blk_alloc (blk_new wr (.cells #[.int .i64 s, .int .i64 a] 67)) (.cells #[.int .i64 s', .int .i64 a'] 67)) 1).trans (show _ = some (Value.int .i64 a) from rfl)
          have hm0 := (blk_cell (blk_new (wr.alloc (.cells #[.int .i64 s, .int .i64 a] 67)) (.cells #[.int .i64 s', .int .i64 a'] 67)) 0).trans (show _ = some (Value.int .i64 s') from rfl); have hm1 := (blk_cell (blk_new (wr.alloc (.cells #[.int .i64 s, .int .i64 a] 67)) (.cells #[.int .i64 s', .int .i64 a'] 67)) 1).trans (show _ = some (Value.int .i64 a') from rfl)
          clear hA
          (go_wp2; repeat (go_step3; try (go_wp2)))
          repeat (go_quiet (fail); try (go_wp2; repeat (go_step3; try (go_wp2))))
          rw [Exit.noGoto_ret]
          go_ret
          exact ⟨by rw [HF.out]; rfl, by repeat (first | (with_reducible first | exact HB.out | apply below_alloc | apply pw_below_drewN | apply below_drew1 | refine below_set ?_ HSZ.out) | exact HB.out)⟩
        have f8 : decide (agR0 l0_0 (j - 1) ≤ agR0 l0_0 j) = true := decide_eq_true c6
        have HN := Lib.hid (show stepR l0_0 j = true by rw [hsj, f1, f2, f3, decide_eq_false hj0, f6, decide_eq_true c5, f8]; rfl)
        clear hsj hF c1 c2 c3 c4 c5 c6
        generalize szR l0_0 j = s at *
        generalize agR0 l0_0 j = a at *
        generalize szR l0_0 (j - 1) = s' at *
        generalize agR0 l0_0 (j - 1) = a' at *
        have hA := fun (x : Addr) (u : Value) (h : wr.cell? x = some u) => ((below_alloc (Below.refl wr.heap.size wr) (.cells #[.int .i64 s, .int .i64 a] 67)).cell (World.block_lt_of_cell? wr _ h)).trans h
        have hk0' := hA _ _ hk0; have hk1' := hA _ _ hk1; have hv0' := hA _ _ hv0; have hv1' := hA _ _ hv1
        have hg0 := (blk_cell (blk_new wr (.cells #[.int .i64 s, .int .i64 a] 67)) 0).trans (show _ = some (Value.int .i64 s) from rfl); have hg1 := (blk_cell (blk_new wr (.cells #[.int .i64 s, .int .i64 a] 67)) 1).trans (show _ = some (Value.int .i64 a) from rfl)
        have hn0 := (blk_cell (blk_alloc (blk_new wr (.cells #[.int .i64 s, .int .i64 a] 67)) (.cells #[.int .i64 s', .int .i64 a'] 67)) 0).trans (show _ = some (Value.int .i64 s) from rfl); have hn1 := (blk_cell (blk_alloc (blk_new wr (.cells #[.int .i64 s, .int .i64 a] 67)) (.cells #[.int .i64 s', .int .i64 a'] 67)) 1).trans (show _ = some (Value.int .i64 a) from rfl)
        have hm0 := (blk_cell (blk_new (wr.alloc (.cells #[.int .i64 s, .int .i64 a] 67)) (.cells #[.int .i64 s', .int .i64 a'] 67)) 0).trans (show _ = some (Value.int .i64 s') from rfl); have hm1 := (blk_cell (blk_new (wr.alloc (.cells #[.int .i64 s, .int .i64 a] 67)) (.cells #[.int .i64 s', .int .i64 a'] 67)) 1).trans (show _ = some (Value.int .i64 a') from rfl)
        clear hA
        (go_wp2; repeat (go_step3; try (go_wp2)))
        exact ⟨⟨j + 1, by go_num, rfl, hlt, by repeat (first | (with_reducible first | exact HB.out | apply below_alloc | apply pw_below_drewN | apply below_drew1 | refine below_set ?_ HSZ.out) | exact HB.out), blk_alloc (blk_alloc HXX.out _) _, fun q hq => by
          rcases Nat.lt_or_ge q j with h | h
          · exact HS.out q h
          · obtain rfl : q = j := by omega
            exact HN.out⟩, by simp [intOf]; omega⟩
      · obtain rfl : j = l0_0.length := by omega
        have q1 : decide ((l0_0.length : Int) < (l0_0.length : Int)) = false := decide_eq_false (by omega)
        have q6 : IntKind.i64.wrap ((l0_0.length : Int) - 1) = ((l0_0.length - 1 : Nat) : Int) := by
          have := HG.out.2.1
          rw [IntKind.wrap_i64]; omega
        have q7 : (0 ≤ ((l0_0.length - 1 : Nat) : Int)) = True := eq_true (by omega)
        have q8 : (((l0_0.length - 1 : Nat) : Int) < (l0_0.length : Int)) = True := eq_true (by omega)
        obtain ⟨ad3, ha3, hv0, hv1⟩ := at_T67 HG.out ((l0_0.length - 1 : Nat) : Int) (by omega) (by omega)
        obtain rfl : ad = ad3 := by injection ha3
        simp only [Int.toNat_natCast] at hv0 hv1
        replace hv0 := (HB.out.cell (World.block_lt_of_cell? w _ hv0)).trans hv0
        replace hv1 := (HB.out.cell (World.block_lt_of_cell? w _ hv1)).trans hv1
        rw [show (rd_T67 l0_0 ((l0_0.length - 1 : Nat) : Int)).f1 = agR0 l0_0 (l0_0.length - 1) from rfl] at hv1
        have HF : Hid (rightR l0_0 a0_1 = (decide (agR0 l0_0 (l0_0.length - 1) ≤ a0_1) && decide (a0_1 ≤ 2199023255552))) := Lib.hid (by
          unfold rightR
          rw [decide_eq_true (show 1 ≤ l0_0.length by omega), decide_eq_true (show l0_0.length ≤ 4 by omega), decide_eq_true h0, List.all_eq_true.2 (fun q hq => HS.out q (List.mem_range.1 hq))]
          rfl)
        have HSZ := Lib.hid (below_size HB.out)
        clear hv0
        by_cases c1 : agR0 l0_0 (l0_0.length - 1) ≤ a0_1
        case neg =>
          have f1 : decide (agR0 l0_0 (l0_0.length - 1) ≤ a0_1) = false := decide_eq_false c1
          rw [f1, Bool.false_and] at HF
          generalize agR0 l0_0 (l0_0.length - 1) = a at *
          (go_wp2; repeat (go_step3; try (go_wp2)))
          repeat (go_quiet (fail); try (go_wp2; repeat (go_step3; try (go_wp2))))
          rw [Exit.noGoto_ret]
          go_ret
          exact ⟨by rw [HF.out]; rfl, by repeat (first | (with_reducible first | exact HB.out | apply below_alloc | apply pw_below_drewN | apply below_drew1 | refine below_set ?_ HSZ.out) | exact HB.out)⟩
        case pos =>
          have f1 : decide (agR0 l0_0 (l0_0.length - 1) ≤ a0_1) = true := decide_eq_true c1
          rw [f1, Bool.true_and] at HF
          generalize agR0 l0_0 (l0_0.length - 1) = a at *
          (go_wp2; repeat (go_step3; try (go_wp2)))
          repeat (go_quiet (fail); try (go_wp2; repeat (go_step3; try (go_wp2))))
          rw [Exit.noGoto_ret]
          go_ret
          exact ⟨by rw [HF.out]; rfl, by repeat (first | (with_reducible first | exact HB.out | apply below_alloc | apply pw_below_drewN | apply below_drew1 | refine below_set ?_ HSZ.out) | exact HB.out)⟩
end Go.Proofs.Ytjemmmemenljbaa.PFold
end
