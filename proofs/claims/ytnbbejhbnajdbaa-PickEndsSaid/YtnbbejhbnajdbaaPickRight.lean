/- pick.Right, walked by hand: it asks whether runs are a tree. -/
import Derived.Test.YtnbbejhbnajdbaaPPickx0
import Derived.Test.YtnbbejhbnajdbaaLib
import Derived.Lib.Hide
import Derived.Outline
import Derived.WalkMore
import Derived.Maps.OwnOps
import Derived.RegionTactic
import Derived.Carry
namespace Go.Proofs.Ytnbbejhbnajdbaa.PPick
open Go.RowKit Go.Proofs.YtnbbejhbnajdbaaW.PrintWords Go.Proofs.YtnbbejhbnajdbaaW.PrintLast Go.Proofs.YtnbbejhbnajdbaaW.PrintMore Go.Proofs.Ytnbbejhbnajdbaa.XLib

/-- Are runs a tree, with files and levels that were seen ahead of them? -/
def rightFrom (F L : List Int) : List S26 → Bool
  | [] => true
  | r :: rs => if r.f0 < 1 ∨ r.f0 ∈ F ∨ r.f1 < 0 ∨ 4 ≤ r.f1 ∨ r.f2 < 1 ∨ (0 < r.f1 ∧ r.f1 ∈ L) then false else rightFrom (r.f0 :: F) (r.f1 :: L) rs
def rightB (l : List S26) : Bool := if 64 < l.length then false else rightFrom [] [] l
/-- (of runs whose files' numbers are ints) -/
def pick_Right.f (l : List S26) : Option Bool := if l.all (fun x => (Lit.int .i64 x.f0).wf) then some (rightB l) else none

def lev (L : List Int) (i : Int) : Value := .bool (decide (i ∈ L))
/-- What holds at a round's head. -/
def RightRel (w : World) (l : List S26) (r : Bool) (ga mb : Nat) (j : Nat) (wr : World) : Prop :=
  j ≤ l.length ∧ Below w.heap.size w wr ∧ w.heap.size ≤ ga ∧ w.heap.size ≤ mb ∧ ga ≠ mb ∧ ∃ F L : List Int, wr.heap[ga]? = some (.cells #[lev L 0, lev L 1, lev L 2, lev L 3] 53 (0, 0)) ∧
    SetMap Try.prog 3 4 wr mb j F ∧ rightFrom F L (l.drop j) = r

theorem lev_set {W : World} {g : Nat} {L : List Int} {i : Int} (h : W.heap[g]? = some (.cells #[lev L 0, lev L 1, lev L 2, lev L 3] 53 (0, 0))) (h0 : 0 ≤ i) (h4 : i < 4) :
    (W.setCell ⟨g, i.toNat, none⟩ (.bool true)).heap[g]? = some (.cells #[lev (i :: L) 0, lev (i :: L) 1, lev (i :: L) 2, lev (i :: L) 3] 53 (0, 0)) := by
  refine blk_put h i.toNat _ ?_
  have : i = 0 ∨ i = 1 ∨ i = 2 ∨ i = 3 := by omega
  rcases this with h | h | h | h <;> subst h <;> simp [lev, Array.setIfInBounds]

set_option maxHeartbeats 1000000 in
set_option maxRecDepth 100000 in
theorem pick_Right.calls (A0 : Option Addr) (c0 : Nat) (l0 : List S26) (r : Bool) (w : World) (hr0 : Kd.C k26 w A0 l0.length l0) (_ : l0.length ≤ c0) (h : pick_Right.f l0 = some r) :
    Calls Try.prog 9 #[.slice A0 l0.length c0] w fun e w' => e = .returned (.bool r) ∧ Below w.heap.size w w' := by
  have hmm := @run_makeMap Try.prog
  have hwf : ∀ x ∈ l0, (Lit.int .i64 x.f0).wf = true := by
    intro x hx
    by_cases ha : l0.all (fun x => (Lit.int .i64 x.f0).wf) = true
    · exact List.all_eq_true.1 ha x hx
    · unfold pick_Right.f at h
      rw [if_neg ha] at h
      cases h
  have hr : Hid (rightB l0 = r) := by
    apply Lib.hid
    unfold pick_Right.f at h
    rw [if_pos (List.all_eq_true.2 hwf)] at h
    exact Option.some.inj h
  clear h
  have HC := Lib.hid hr0; clear hr0
  have HW := Lib.hid hwf; clear hwf
  by_cases h64 : 64 < l0.length
  · have h64' : decide (64 < (l0.length : Int)) = true := decide_eq_true (by omega)
    have h64n : decide (64 < l0.length) = true := decide_eq_true h64
    have hr' : r = false := by rw [← hr.out]; unfold rightB; rw [if_pos h64]
    have hr'' := Lib.hid hr'; clear hr' hr h64
    go_enter Try.func9, Try.ntmps9
    go_wp2
    go_ret
    exact ⟨by rw [hr''.out]; rfl, Below.refl _ _⟩
  · have h64' : decide (64 < (l0.length : Int)) = false := decide_eq_false (by omega)
    have h64n : decide (64 < l0.length) = false := decide_eq_false h64
    have hr' : rightFrom [] [] l0 = r := by rw [← hr.out]; unfold rightB; rw [if_neg h64]
    have hlen : l0.length ≤ 64 := by omega
    have hr'' := Lib.hid hr'; clear hr' hr h64
    go_enter Try.func9, Try.ntmps9
    go_wp2
    go_loopw [13] (fun v wr => ∃ j : Nat, v = .int .i64 j ∧ RightRel w l0 r w.heap.size (w.heap.size + 1) j wr) (fun v _ => l0.length - (intOf v).toNat)
    case atStart =>
      refine ⟨0, rfl, Nat.zero_le _, ?_, Nat.le_refl _, by omega, by omega, [], [], ?_, ?_, hr''.out⟩
      · exact ((Below.refl _ _).alloc (Nat.le_refl _) _).alloc (by simp) _
      · exact blk_alloc (blk_new w _) _
      · have := SetMap.made Try.prog 3 4 (w.alloc (.cells #[.bool false, .bool false, .bool false, .bool false] 53))
        simpa using this
    case round =>
      obtain ⟨j, rfl, hj, hB, hga, hmb, hne, F, L, hA, hM, hF⟩ := hrel
      have HA := Lib.hid hA; have HM := Lib.hid hM; have HF := Lib.hid hF; have HB := Lib.hid hB; clear hA hM hF hB
      by_cases hlt : j < l0.length
      · have e1 : decide ((j : Int) < (l0.length : Int)) = true := decide_eq_true (by omega)
        have e2 : decide (j < l0.length) = true := decide_eq_true hlt
        obtain ⟨ad, ha, hx0, hx1, hx2, hx3⟩ := at_T26 HC.out (j : Int) (by omega) (by omega)
        subst ha
        obtain ⟨x, hx⟩ : ∃ x, x = rd_T26 l0 (j : Int) := ⟨_, rfl⟩
        rw [← hx] at hx0 hx1 hx2 hx3
        simp only [Int.toNat_natCast] at hx0 hx1 hx2 hx3
        clear hga hmb hne
        have hmem : x ∈ l0 := by
          rw [hx]; unfold rd_T26
          rw [show ((j : Int)).toNat = j from by omega, List.getD_eq_getElem?_getD, List.getElem?_eq_getElem hlt]
          exact List.getElem_mem _
        have hdrop : l0.drop j = x :: l0.drop (j + 1) := by
          rw [hx]; unfold rd_T26
          rw [show ((j : Int)).toNat = j from by omega, List.getD_eq_getElem?_getD, List.getElem?_eq_getElem hlt]
          exact List.drop_eq_getElem_cons hlt
        have hwx := HW.out x hmem
        have hstep : Hid ((if x.f0 < 1 ∨ x.f0 ∈ F ∨ x.f1 < 0 ∨ 4 ≤ x.f1 ∨ x.f2 < 1 ∨ (0 < x.f1 ∧ x.f1 ∈ L) then false else rightFrom (x.f0 :: F) (x.f1 :: L) (l0.drop (j + 1))) = r) := Lib.hid (by
          rw [← HF.out, hdrop]; rfl)
        clear HF hdrop hmem hx
        have hb0 := HB.out.cell (World.block_lt_of_cell? w _ hx0)
        replace hx0 := hb0.trans hx0
        replace hx1 := (HB.out.cell (World.block_lt_of_cell? w _ hx1)).trans hx1
        replace hx2 := (HB.out.cell (World.block_lt_of_cell? w _ hx2)).trans hx2
        replace hx3 := (HB.out.cell (World.block_lt_of_cell? w _ hx3)).trans hx3
        clear hb0
        have hz := HB.out.size
        have hlt2 := HM.out.lt
        generalize hW1 : wr.alloc (.cells #[.int .i64 x.f0, .int .i64 x.f1, .int .i64 x.f2, .bool x.f3] 26) = W1
        have hB1 : Below wr.heap.size wr W1 := by rw [← hW1]; exact (Below.refl _ _).alloc (Nat.le_refl _) _
        have hM1 : SetMap Try.prog 3 4 W1 (w.heap.size + 1) j F := HM.out.below hB1
        have hlook := hM1.look (t := 54) Try.underlying3 Try.underlying54 Try.underlying4 (by kernel_rfl) hwx
        have hA1 : W1.heap[w.heap.size]? = some (.cells #[lev L 0, lev L 1, lev L 2, lev L 3] 53 (0, 0)) := blk_below HA.out hB1
        have HM1 := Lib.hid hM1; have HB1 := Lib.hid hB1; have HA1 := Lib.hid hA1
        clear hB1 hM1 hA1
        by_cases hbad : x.f0 < 1 ∨ x.f0 ∈ F ∨ x.f1 < 0 ∨ 4 ≤ x.f1 ∨ x.f2 < 1 ∨ (0 < x.f1 ∧ x.f1 ∈ L)
        · have hrf : Hid (r = false) := Lib.hid (by have := hstep.out; rw [if_pos hbad] at this; exact this.symm)
          by_cases hq : 0 ≤ x.f1 ∧ x.f1 < 4
          · have hlev : W1.cell? ⟨w.heap.size, x.f1.toNat, none⟩ = some (.bool (decide (x.f1 ∈ L))) := by
              rw [blk_cell HA1.out]
              have : x.f1 = 0 ∨ x.f1 = 1 ∨ x.f1 = 2 ∨ x.f1 = 3 := by omega
              rcases this with h | h | h | h <;> rw [h] <;> rfl
            rw [← hW1] at hlev hlook
            obtain ⟨hq0, hq1⟩ := hq
            clear hstep hW1
            have HX := Lib.hid hbad; clear hbad
            go_wp2
            all_goals first
              | (go_ret; exact ⟨by rw [hrf.out]; rfl, HB.out.alloc hz _⟩)
              | (exfalso; rcases HX.out with h | h | h | h | h | ⟨h1, h2⟩ <;> first | omega | contradiction | (simp_all; done))
          · rw [← hW1] at hlook
            have HX := Lib.hid hq
            clear hstep hW1 hbad hq
            go_wp2
            all_goals first
              | (go_ret; exact ⟨by rw [hrf.out]; rfl, HB.out.alloc hz _⟩)
              | (exfalso; have := HX.out; omega)
        · have hgood : Hid (rightFrom (x.f0 :: F) (x.f1 :: L) (l0.drop (j + 1)) = r) := Lib.hid (by have := hstep.out; rw [if_neg hbad] at this; exact this)
          have q1 : 1 ≤ x.f0 := by omega
          have q3 : 0 ≤ x.f1 := by omega
          have q4 : x.f1 < 4 := by omega
          have q5 : 1 ≤ x.f2 := by omega
          have q2 : decide (x.f0 ∈ F) = false := decide_eq_false (fun h => hbad (.inr (.inl h)))
          rw [q2] at hlook
          have hlev : W1.cell? ⟨w.heap.size, x.f1.toNat, none⟩ = some (.bool (decide (x.f1 ∈ L))) := by
            rw [blk_cell HA1.out]
            have : x.f1 = 0 ∨ x.f1 = 1 ∨ x.f1 = 2 ∨ x.f1 = 3 := by omega
            rcases this with h | h | h | h <;> rw [h] <;> rfl
          have q6 : 0 < x.f1 → decide (x.f1 ∈ L) = false := fun h0 => decide_eq_false (fun h => hbad (.inr (.inr (.inr (.inr (.inr ⟨h0, h⟩))))))
          have hA1' := HA1.out
          obtain ⟨w2, hput1, hM2, hg2⟩ := SetMap.put (t := 54) (show SetMap Try.prog 3 4 W1.drew (w.heap.size + 1) j F from HM1.out) Try.underlying3 Try.underlying54 Try.underlying4 (by unfold maxLen; omega) hwx
          have hA2 : w2.heap[w.heap.size]? = some (.cells #[lev L 0, lev L 1, lev L 2, lev L 3] 53 (0, 0)) := blk_grown (show W1.drew.heap[w.heap.size]? = _ from hA1') hg2 (by simp)
          have hB2 : Below w.heap.size w w2 := Below.grown (below_drew1 (HB.out.trans (HB1.out.mono hz))) hg2 (Nat.le_trans hz HB1.out.size) (fun k hk => by injection hk with hk; omega)
          have hG2 : w2.heap[wr.heap.size]? = some (.cells #[.int .i64 x.f0, .int .i64 x.f1, .int .i64 x.f2, .bool x.f3] 26 (0, 0)) := blk_grown (show W1.drew.heap[wr.heap.size]? = _ from by rw [← hW1]; exact blk_new wr _) hg2 (by intro h; injection h with h; omega)
          have hG2' := (blk_cell hG2 1).trans (show _ = some (Value.int .i64 x.f1) from rfl)
          have R1 : Hid (RightRel w l0 r w.heap.size (w.heap.size + 1) (j + 1) (w2.setCell ⟨w.heap.size, x.f1.toNat, none⟩ (.bool true))) :=
            Lib.hid ⟨hlt, below_set hB2 (Nat.le_refl _), Nat.le_refl _, by omega, by omega, _, _, lev_set hA2 q3 q4, hM2.setCell (by simp) _, hgood.out⟩
          obtain ⟨w3, hput2, hM3, hg3⟩ := SetMap.put (t := 54) (show SetMap Try.prog 3 4 (W1.drew.setCell ⟨w.heap.size, x.f1.toNat, none⟩ (.bool true)) (w.heap.size + 1) j F from SetMap.setCell HM1.out (by simp) _) Try.underlying3 Try.underlying54 Try.underlying4 (by unfold maxLen; omega) hwx
          have hB3 : Below w.heap.size w w3 := Below.grown (below_set (below_drew1 (HB.out.trans (HB1.out.mono hz))) (Nat.le_refl _)) hg3 (by simpa [World.setCell] using Nat.le_trans hz HB1.out.size) (fun k hk => by injection hk with hk; omega)
          have R2 : Hid (RightRel w l0 r w.heap.size (w.heap.size + 1) (j + 1) w3) :=
            Lib.hid ⟨hlt, hB3, Nat.le_refl _, by omega, by omega, _, _, blk_grown (lev_set (show W1.drew.heap[w.heap.size]? = _ from hA1') q3 q4) hg3 (by simp), hM3, hgood.out⟩
          have hc2 : w2.cell? ⟨w.heap.size, x.f1.toNat, none⟩ = some (.bool (decide (x.f1 ∈ L))) := by
            rw [blk_cell hA2]
            have : x.f1 = 0 ∨ x.f1 = 1 ∨ x.f1 = 2 ∨ x.f1 = 3 := by omega
            rcases this with h | h | h | h <;> rw [h] <;> rfl
          have hf2 := blk_frozen hA2 x.f1.toNat
          have hfA := blk_frozen hA1' x.f1.toNat
          clear hG2 hA2 hM2 hg2 hB2 hM3 hg3 hB3 hA1'
          rw [← hW1] at hlev hlook hput1 hput2 hfA
          have R1' := R1; have R2' := R2
          clear hstep hW1 hbad q2 R1' R2'
          by_cases hf : 0 < x.f1
          all_goals
            first | (rw [q6 hf] at hlev) | skip
            clear q6
            go_wp2
            go_region
            all_goals
              go_wp2
              go_roundw
              case rel => exact ⟨j + 1, by go_num, by first | exact R1.out | exact R2.out⟩
              case measure => simp [intOf]; omega
      · have e1 : decide ((j : Int) < (l0.length : Int)) = false := decide_eq_false (by omega)
        have e2 : decide (j < l0.length) = false := decide_eq_false hlt
        have hrt : Hid (r = true) := Lib.hid (by rw [← HF.out, List.drop_eq_nil_of_le (by omega)]; rfl)
        go_wp2
        go_ret
        exact ⟨by rw [hrt.out]; rfl, HB.out⟩
end Go.Proofs.Ytnbbejhbnajdbaa.PPick
