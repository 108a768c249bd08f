/- What must come of fixed calls, and small words on the printed functions of layer pick. -/
import Derived.Test.YtnbbejhbnajdbaaPPickx10
import Derived.Test.YtnbbejhbnajdbaaPickP
import Derived.Test.YtnbbejhbnajdbaaPPickxO
namespace Go.Proofs.Ytnbbejhbnajdbaa.PickP
open List Go.RowKit Go.Proofs.YtnbbejhbnajdbaaW.PrintWords Go.Proofs.YtnbbejhbnajdbaaW.PrintLast Go.Proofs.YtnbbejhbnajdbaaW.PrintMore Go.Proofs.Ytnbbejhbnajdbaa.PPick Go.Proofs.Ytnbbejhbnajdbaa.XLib

theorem w64 {x : Int} (h0 : -9223372036854775808 ≤ x) (h1 : x ≤ 9223372036854775807) : wrap64 x = x := by unfold wrap64; omega
theorem w64n (j : Nat) (h : j < 4611686018427387904) : wrap64 ((j : Int) + 1) = ((j + 1 : Nat) : Int) := by rw [w64] <;> omega
theorem rd_run {l : List Ru} {j : Nat} (h : j < l.length) : rd_T26 l (j : Int) = l[j] := by
  unfold rd_T26
  rw [show ((j : Int)).toNat = j from by omega, List.getD_eq_getElem?_getD, List.getElem?_eq_getElem h]
  rfl
/-- Files that are ints. -/
def wfF (l : List Ru) : Prop := ∀ r ∈ l, (Lit.int .i64 r.f0).wf = true
theorem offer_some {l : List Ru} (h : wfF l) : pick_Offer.f l = some (offerB l) := by
  unfold pick_Offer.f
  rw [if_pos (all_eq_true.2 h)]
theorem right_some {l : List Ru} (h : wfF l) : pick_Right.f l = some (rightB l) := by
  unfold pick_Right.f
  rw [if_pos (all_eq_true.2 h)]
theorem wf_of {l : List Ru} (h : l.length * 32 ≤ 140737488351232 ∧ ∀ z ∈ l, wfS26 z) : wfF l := fun r hr => by
  have := h.2 r hr
  unfold wfS26 at this
  simp_all
theorem and_1023 (x : Int) : ∃ t : Nat, t ≤ 1023 ∧ bits .and .i64 x 1023 = (t : Int) := by
  refine ⟨(BitVec.ofInt 64 x &&& BitVec.ofInt 64 1023).toNat, ?_, ?_⟩
  · rw [BitVec.toNat_and]
    exact Nat.le_trans Nat.and_le_right (by decide)
  · have h : (BitVec.ofInt 64 x &&& BitVec.ofInt 64 1023).toNat ≤ 1023 := by
      rw [BitVec.toNat_and]
      exact Nat.le_trans Nat.and_le_right (by decide)
    show IntKind.i64.wrap ((BitVec.ofInt 64 x &&& BitVec.ofInt 64 1023).toNat : Int) = _
    generalize (BitVec.ofInt 64 x &&& BitVec.ofInt 64 1023).toNat = n at h
    rw [i64_w, w64] <;> omega

theorem alive_tells : rickyardlaw16_alive.f = some true := by
  have h1 : pick_Offer.f [(⟨3, 0, 1, false⟩ : Ru), ⟨1, 0, 2, false⟩, ⟨2, 1, 3, false⟩] = some ([1, 2, 3], 1, true, 0) := by
    rw [offer_some (by unfold wfF; decide), offer_full (i := 0) ((right_iff _).1 (by decide)) (by decide) (by decide) (by intro j _ _; omega)]
    rw [← sorted_unique (xs := both [(⟨3, 0, 1, false⟩ : Ru), ⟨1, 0, 2, false⟩, ⟨2, 1, 3, false⟩] 0) (ys := [1, 2, 3]) (by decide) (by decide)]
    rfl
  have h2 : pick_Offer.f ([] : List Ru) = some ([], 0, false, 0) := by
    rw [offer_some (by unfold wfF; simp)]
    rfl
  have h3 : pick_Right.f [(⟨0, 0, 0, false⟩ : Ru)] = some false := by
    rw [right_some (by unfold wfF; decide)]
    rfl
  unfold rickyardlaw16_alive.f
  rw [h1, h2, h3]
  rfl
end Go.Proofs.Ytnbbejhbnajdbaa.PickP
