-- written by a program of this session, out of the translation
import Derived.Test.YtnbbejhbnajdbaaRows
import Derived.Test.YtnbbejhbnajdbaaPPickxSPickEnds
import Derived.Test.YtnbbejhbnajdbaaPurePickEnds
import Derived.WalkKit
import Derived.ProofKit
import Derived.OpenShut
import Derived.ShutString
import Derived.ChangeOld
import Derived.Below
import Derived.SizedLaws
namespace Go.Proofs.Ytnbbejhbnajdbaa.pickEnds
open Go.ChangeShapes Go.WideShapes Go.ChangeAt Go.RowKit Go.Proofs.Ytnbbejhbnajdbaa.Open Go.Proofs.Ytnbbejhbnajdbaa.PPick Go.Proofs.YtnbbejhbnajdbaaW.PrintWords
set_option linter.unusedVariables false
theorem own : ownKnob Try.prog.godebug = none := by kernel_rfl
theorem laidOut : laidOutB Try.prog = true := by kernel_rfl
set_option maxRecDepth 100000 in
theorem lifted (os : Os) (started : os.Started) (H : Type) (enc : TypeId × Value → H) :
    ReturnsInHanded {} Try.checked os 8 .any (Rows.pickEndsSpec.pre6 enc Try.prog Try.f8 Rows.pickEndsRow.domain false) (Rows.pickEndsSpec.post enc Try.prog Try.f8 false true false false) := by
  refine returnsInHanded_of_change_sized (C := Try.checked) own started (by kernel_rfl) Try.func8
    (ChangeSpec.witness6 (enc := enc) (C := Try.checked) false ⟨#[], #[.slice none 0 0, .slice none 0 0], []⟩ 8 (by kernel_rfl) (by kernel_rfl) (by kernel_rfl) (by kernel_rfl)) ?_
  intro W base args ds gs before hval0 hW hcnd hsz0 _
  have hsz : (DataW.weightsEach Try.prog (Try.f8.params.toList ++ Rows.pickEndsSpec.plain.varTypes Try.prog) (ds ++ gs)).all (· ≤ reachBytes) = true := hsz0
  have hval : ∀ (j : Nat) t v, Try.f8.params[j]? = some t → args[j]? = some v → Value.okWide Try.prog W .any base t v := hval0
  have hW' := hW
  obtain ⟨p, q, hA0, hV, rfl, hfz, hnd⟩ := hW
  have hA : DataW.TrodAll enc Try.prog W 0 (fun _ => true) true Try.f8.params.toList args.toList ds p := hA0
  rw [Try.params8] at hA hval hsz
  obtain ⟨v0, vs0, d0, ds0, p0, q0, hargs, rfl, rfl, h0, r0⟩ := trodAll_cons hA
  obtain ⟨v1, vs1, d1, ds1, p1, q1, rfl, rfl, rfl, h1, r1⟩ := trodAll_cons r0
  obtain ⟨rfl, rfl, rfl⟩ := trodAll_nil r1
  obtain rfl : args = #[v0, v1] := by cases args; simp_all
  obtain ⟨rfl, rfl⟩ := trodVars_none hV
  have lt0 := lt_of_trod h0
  obtain ⟨x0, hK0, hw0⟩ := ((Opens.slice Try.underlying22 (by kernel_rfl) (by kernel_rfl) (open_S26 enc W)) : Opens enc Try.prog W 22 (Kd.slice 26 k26) _).arg h0 hsz (j := 0) rfl rfl
  generalize hcs0 : v0.cells.toList = cs0 at hK0
  obtain ⟨A0, c0, rfl, hc0, hr0⟩ := hK0
  obtain rfl : v0 = .slice A0 x0.length c0 := slice_of Try.underlying22 (hval 0 22 v0 rfl rfl) hcs0
  clear hcs0
  have lt1 := lt_of_trod h1
  obtain ⟨x1, hK1, hw1⟩ := ((Opens.slice Try.underlying50 (by kernel_rfl) (by kernel_rfl) (Opens.int Try.underlying51)) : Opens enc Try.prog W 50 (Kd.slice 51 (Kd.int .u16)) _).arg h1 hsz (j := 1) rfl rfl
  generalize hcs1 : v1.cells.toList = cs1 at hK1
  obtain ⟨A1, c1, rfl, hc1, hr1⟩ := hK1
  obtain rfl : v1 = .slice A1 x1.length c1 := slice_of Try.underlying50 (hval 1 50 v1 rfl rfl) hcs1
  clear hcs1
  (try clear hA0 hval0 hsz0 hsz)
  have hp := Pure.PickEnds x0 x1 hw0 hw1
  refine (rickyardlaw16_PickEnds.calls A0 c0 x0 A1 c1 x1 true W hr0 hc0 hr1 hc1 hp).mono fun e W' h' => ?_
  obtain ⟨he, hd⟩ := h'
  have bel : Below W.heap.size W W' := hd
  subst he
  exact ⟨_, rfl, _, _, _, [], _, [], hW', trodAll_mk1 (shut_bool Try.underlying4 _), (trodAll_cons_mk (Below.trod laidOut (by kernel_rfl) (of_decide_eq_true (by kernel_rfl)) h0 bel lt0) (trodAll_cons_mk (Below.trod laidOut (by kernel_rfl) (of_decide_eq_true (by kernel_rfl)) h1 bel lt1) trodAll_mk0)), rfl, bel.frame _, fun h => by cases h⟩
theorem over : Rows.pickEndsRow.holds Try.pinned (OpenSpec.ofChange Rows.pickEndsSpec) :=
  OpenClaim.holds_of_wide 8 Try.f8 rfl rfl rfl rfl rfl rfl rfl ⟨rfl, rfl, rfl, rfl, rfl⟩ rfl rfl rfl rfl rfl (by kernel_rfl) Try.func8 (by kernel_rfl)
    (of_decide_eq_true (by kernel_rfl)) (by unfold Func.isWrapper; first | (rw [if_pos (by decide +kernel)]; kernel_rfl) | (rw [if_neg (by decide +kernel)]; exact ⟨rfl, rfl⟩))
    (fun os started H enc _ => lifted os started H enc)
end Go.Proofs.Ytnbbejhbnajdbaa.pickEnds
namespace Go.Proofs.Ytnbbejhbnajdbaa
/-- The row, under a short name, for the claim. -/
theorem pickEnds_holds : Rows.PickEndsSaid := pickEnds.over
#print axioms pickEnds_holds
end Go.Proofs.Ytnbbejhbnajdbaa
