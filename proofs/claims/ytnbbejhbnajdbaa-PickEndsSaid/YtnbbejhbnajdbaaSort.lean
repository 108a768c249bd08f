/- slices.Sort at a row of ints of the call's own: it stays the row, and holds the same numbers, rising. -/
import Derived.Test.YtnbbejhbnajdbaaShelf
import Derived.Test.YtnbbejhbnajdbaaWWords
import Derived.Sort.OwnSortedInts
namespace Go.Proofs.Ytnbbejhbnajdbaa.XLib
open Go.RowKit Go.Proofs.YtnbbejhbnajdbaaW.PrintWords Go.Sort

def sorted (xs : List Int) : List Int := xs.mergeSort fun x y => decide (x ≤ y)

theorem sort_own {W : World} {base : Nat} {ok : Nat → Prop} {v : Value} {xs : List Int} (h : Kd.R (Kd.int .i64) 3 W base ok v xs) (hsz : xs.length < 4611686018427387904) :
    Calls Try.prog 23 #[v] W fun e w' => e = .returned (.tuple #[]) ∧ Kd.R (Kd.int .i64) 3 w' base ok v (sorted xs) ∧ W.grownBy w' v.ownBlock := by
  have hok := h.1
  have ho := Kd.own_of_R h
  rcases ho.2 with ⟨hv, h0⟩ | ⟨g, cap, cur, hv, hb, hg, hl, hc, hs, ht⟩
  · have h0' : xs = [] := List.length_eq_zero_iff.1 h0
    subst hv h0'
    refine (Try.slices_Sort_int_none none 0 W).mono ?_
    rintro e w' ⟨he, rfl⟩
    refine ⟨he, ?_, ⟨rfl, rfl, rfl, Nat.le_refl _, fun _ _ _ => rfl⟩⟩
    simpa [sorted] using h
  · subst hv
    rw [Nat.mul_one] at ht
    have hlen : (sorted xs).length = xs.length := by simp [sorted]
    refine (Try.slices_Sort_int g 0 cap xs W (holds_of_blockI hg (by simpa [encs] using ht)) (Array.getElem?_eq_some_iff.1 hg).1 hsz).mono ?_
    rintro e w' ⟨he, n, os, rfl⟩
    refine ⟨he, ?_, grownBy_sortedI _⟩
    have := ownsRow_sortedI (n := n) (os := os) (ts := sorted xs) hlen hb hg hl hc hs
    exact Kd.R_of_own (by rw [hlen]; exact this) hok
end Go.Proofs.Ytnbbejhbnajdbaa.XLib
