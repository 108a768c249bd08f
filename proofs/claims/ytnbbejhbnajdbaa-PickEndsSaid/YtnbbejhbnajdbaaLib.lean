/- Laws at operations that the walks of this seat use: a look-up in a map of bools that the call made. No program in sight. -/
import Derived.Test.YtnbbejhbnajdbaaWWords
import Derived.Maps.OwnSet
namespace Go.Proofs.Ytnbbejhbnajdbaa.XLib
open Go.RowKit Go.Proofs.YtnbbejhbnajdbaaW.PrintWords Go.Maps

/-- Block b is a map of bools, keyed by ints, in which just the numbers of a list are true. -/
def SetMap (P : Program) (k e : TypeId) (w : World) (b n : Nat) (S : List Int) : Prop :=
  ∃ D : DataW Unit, w.ownsMap P k (plainElem P e) b n D ∧ ∀ x : Int, (Lit.int .i64 x).wf = true → D.atKey (.int .i64 x) (.lit (.bool false)) = .lit (.bool (decide (x ∈ S)))

section
variable {P : Program} {k e t : TypeId} {w w1 : World} {b n : Nat} {S : List Int}

theorem plainElem_bool_inv {H : Type} {P : Program} {e : TypeId} (he : P.underlying e = some .bool) {v : Value} {z : DataW H × List MemPlace} (h : plainElem P e v = some z) : ∃ x, v = .bool x ∧ z = (.lit (.bool x), []) := by
  unfold plainElem at h
  rw [he] at h
  cases v <;> simp at h
  exact ⟨_, rfl, h.symm⟩

theorem SetMap.made (P : Program) (k e : TypeId) (w : World) : SetMap P k e (w.alloc (.map #[] 0)) w.heap.size 0 [] :=
  ⟨.map [], World.ownsMap_made w P k _, fun x _ => by simp [DataW.atKey]⟩
theorem SetMap.lt (h : SetMap P k e w b n S) : b < w.heap.size := by
  obtain ⟨D, ho, _⟩ := h
  exact ho.lt
theorem SetMap.below (h : SetMap P k e w b n S) (hb : Below w.heap.size w w1) : SetMap P k e w1 b n S := by
  have hlt := h.lt
  obtain ⟨D, ⟨es, clock, h1, h2⟩, hx⟩ := h
  exact ⟨D, ⟨es, clock, (hb.block b hlt).trans h1, h2⟩, hx⟩
theorem SetMap.setCell (h : SetMap P k e w b n S) {a : Addr} (ha : b ≠ a.block) (u : Value) : SetMap P k e (w.setCell a u) b n S := by
  obtain ⟨D, ho, hx⟩ := h
  exact ⟨D, ho.setCell ha u, hx⟩
theorem SetMap.drewN (h : SetMap P k e w b n S) (m : Nat) : SetMap P k e (w.drewN m) b n S := h
theorem SetMap.mono (h : SetMap P k e w b n S) {n' : Nat} (hn : n ≤ n') : SetMap P k e w b n' S := by
  obtain ⟨D, ho, hx⟩ := h
  exact ⟨D, ho.mono hn, hx⟩

theorem SetMap.look (h : SetMap P k e w b n S) (hk : P.underlying k = some (.int .i64)) (ht : P.underlying t = some (.map k e)) (he : P.underlying e = some .bool) (hz : (zeroValue e).run P w = .ok (.bool false) w) {x : Int} (hx : (Lit.int .i64 x).wf = true) :
    (Instr.lookup t (.map (some b)) (.int .i64 x) false).run P w = .ok (.bool (decide (x ∈ S))) w := by
  obtain ⟨D, ho, hS⟩ := h
  obtain ⟨v, ps, hrun, hv⟩ := ho.lookup (int_keyed hk) ht hz (plainElem_bool he false) (keyOf_int_mk hk hx)
  obtain ⟨y, rfl, hy⟩ := plainElem_bool_inv he hv
  simp only [Prod.mk.injEq] at hy
  rw [hrun]
  have := hS x hx
  rw [hy.1] at this
  injection this with this
  injection this with this
  rw [this]
theorem SetMap.put (h : SetMap P k e w b n S) (hk : P.underlying k = some (.int .i64)) (ht : P.underlying t = some (.map k e)) (he : P.underlying e = some .bool) (hn : n < maxLen) {x : Int} (hx : (Lit.int .i64 x).wf = true) :
    ∃ w', (Instr.mapUpdate t (.map (some b)) (.int .i64 x) (.bool true)).run P w = .ok () w' ∧ SetMap P k e w' b (n + 1) (x :: S) ∧ w.grownBy w' (some b) := by
  obtain ⟨D, ho, hS⟩ := h
  obtain ⟨w', hrun, ho', hg⟩ := ho.update (int_keyed hk) ht hn (keyOf_int_mk hk hx) (plainElem_bool he true)
  refine ⟨w', hrun, ⟨_, ho', fun y hy => ?_⟩, hg⟩
  by_cases e : y = x
  · rw [e, atKey_put_same ho.isMap (show WideAt.IsKeyLit (.int .i64 x) from trivial)]
    simp
  · rw [atKey_put_other (by simpa using e), hS y hy]
    simp [e]
end
end Go.Proofs.Ytnbbejhbnajdbaa.XLib
