/- Which levels of a tree of runs are full, and what is offered, in plain lists. -/
import Derived.Test.YtnbbejhbnajdbaaPPickx2
import Derived.Test.YtnbbejhbnajdbaaPickRight
import Derived.Test.YtnbbejhbnajdbaaSort
namespace Go.Proofs.Ytnbbejhbnajdbaa.PPick
open Go.RowKit Go.Proofs.YtnbbejhbnajdbaaW.PrintWords Go.Proofs.YtnbbejhbnajdbaaW.PrintLast Go.Proofs.Ytnbbejhbnajdbaa.XLib

abbrev Ru := S26
/-- How many runs a level has, and the count of its last one. -/
def stf (i : Int) (s : Int × Int) (r : Ru) : Int × Int := if r.f1 = i then (s.1 + 1, r.f2) else s
def fullB (l : List Ru) (i : Int) : Bool :=
  if i = 0 then decide (2 ≤ (l.foldl (stf i) (0, 0)).1) else if i < 3 then decide ((if i = 1 then 64 else 256) < (l.foldl (stf i) (0, 0)).2) else false

theorem full_from (l : List Ru) (i : Int) (hi : 0 ≤ i) (hlen : l.length < 4611686018427387904) (d : Nat) : ∀ (j : Nat) (s : Int × Int) (k : Nat), l.length - j = d → j ≤ l.length → 0 ≤ s.1 → s.1 ≤ j →
    pick_full.l0 (k + d + 1) i s.1 s.2 l (l.length : Int) (j : Int) = some (if i = 0 then decide (2 ≤ ((l.drop j).foldl (stf i) s).1) else if i < 3 then decide ((if i = 1 then 64 else 256) < ((l.drop j).foldl (stf i) s).2) else false) := by
  induction d with
  | zero =>
    intro j s k hd hj h0 h1
    rw [List.drop_eq_nil_of_le (by omega)]
    simp only [pick_full.l0, List.foldl_nil]
    rw [if_neg (by omega)]
    by_cases z : i = 0
    · rw [if_pos z, if_pos z]
      rfl
    · rw [if_neg z, if_neg z]
      by_cases z3 : i < 3
      · rw [if_pos z3, if_pos z3]
        have : i = 1 ∨ i = 2 := by omega
        rcases this with rfl | rfl
        · rw [show wrap64 (2 * 1) = 2 from by decide +kernel, if_pos (by decide), show shl .i64 16 2 = 64 from by decide +kernel]; rfl
        · rw [show wrap64 (2 * 2) = 4 from by decide +kernel, if_pos (by decide), show shl .i64 16 4 = 256 from by decide +kernel]; rfl
      · rw [if_neg z3, if_neg z3]
  | succ d ih =>
    intro j s k hd hj h0 h1
    have hlt : j < l.length := by omega
    have e1 : wrap64 ((j : Int) + 1) = ((j + 1 : Nat) : Int) := by unfold wrap64; omega
    have e2 : wrap64 (s.1 + 1) = s.1 + 1 := by unfold wrap64; omega
    have e3 : rd_T26 l (j : Int) = l[j] := by
      unfold rd_T26
      rw [show ((j : Int)).toNat = j from by omega, List.getD_eq_getElem?_getD, List.getElem?_eq_getElem hlt]
      rfl
    rw [show k + (d + 1) + 1 = (k + d + 1) + 1 from by omega, List.drop_eq_getElem_cons hlt]
    generalize hm : k + d + 1 = m
    simp only [pick_full.l0, List.foldl_cons, e1, e2, e3]
    rw [if_pos (by omega), if_pos (by omega), if_pos (by omega), ← hm]
    by_cases h : l[j].f1 = i
    · rw [if_pos h]
      have := ih (j + 1) (s.1 + 1, l[j].f2) k (by omega) (by omega) (by show 0 ≤ s.1 + 1; omega) (by show s.1 + 1 ≤ _; omega)
      rw [this]
      simp only [stf, if_pos h]
    · rw [if_neg h]
      have := ih (j + 1) s k (by omega) (by omega) h0 (by omega)
      rw [this]
      simp only [stf, if_neg h]
theorem full_tells (l : List Ru) (i : Int) (hi : 0 ≤ i) (hlen : l.length < 4611686018427387904) : ∃ k, pick_full.f k l i = some (fullB l i) := by
  refine ⟨l.length + 1, ?_⟩
  have := full_from l i hi hlen l.length 0 (0, 0) 0 rfl (by omega) (by simp) (by simp)
  unfold pick_full.f fullB
  rw [show l.length + 1 = 0 + l.length + 1 from by omega]
  exact this

/-- The first full level, from level i on. -/
def fullAt (l : List Ru) : Option Int := if fullB l 0 then some 0 else if fullB l 1 then some 1 else if fullB l 2 then some 2 else none
/-- The files of a level, and of the next one. -/
def both (l : List Ru) (i : Int) : List Int := (l.filter fun r => decide (r.f1 = i) || decide (r.f1 = i + 1)).map (·.f0)
def phase1 (l : List Ru) : List Int × Int := match fullAt l with
  | some i => (both l i, i + 1)
  | none => ([], 0)
/-- The better one of two stale runs. -/
def bst (b r : Ru) : Ru := if r.f3 = true ∧ (r.f1 < b.f1 ∨ r.f1 = b.f1 ∧ r.f0 < b.f0) then r else b
def best (l : List Ru) : Ru := l.foldl bst ⟨0, 4, 0, false⟩
/-- What is offered: the files, the level, whether there is something, the error. -/
def offerB (l : List Ru) : List Int × Int × Bool × Int :=
  if rightB l = false then ([], 0, false, 1)
  else if (phase1 l).1 ≠ [] then (sorted (phase1 l).1, (phase1 l).2, true, 0)
  else if (best l).f0 = 0 then ([], 0, false, 0)
  else ([(best l).f0], (best l).f1, true, 0)
def pick_Offer.f (l : List Ru) : Option (List Int × Int × Bool × Int) := if l.all (fun x => (Lit.int .i64 x.f0).wf) then some (offerB l) else none
end Go.Proofs.Ytnbbejhbnajdbaa.PPick
