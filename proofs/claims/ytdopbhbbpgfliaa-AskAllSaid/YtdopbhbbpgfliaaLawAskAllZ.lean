import Derived.Test.YtdopbhbbpgfliaaZAskAll27
import Derived.Test.YtdopbhbbpgfliaaRows
import Derived.ProofKit
import Derived.OpenShut
import Derived.ShutString
namespace Go.Proofs.Ytdopbhbbpgfliaa.askAll
open Go.ChangeShapes Go.WideShapes Go.ChangeAt Go.RowKit Go.Proofs.Ytdopbhbbpgfliaa.Open Go.Proofs.Ytdopbhbbpgfliaa.PAsk Go.Proofs.YtdopbhbbpgfliaaW.PrintWords
set_option linter.unusedVariables false
theorem own : ownKnob Try.prog.godebug = none := by kernel_rfl
theorem laidOut : laidOutB Try.prog = true := by kernel_rfl
set_option maxRecDepth 100000 in
theorem lifted (os : Os) (started : os.Started) (H : Type) (enc : TypeId × Value → H) :
    ReturnsInHanded {} Try.checked os 4 .any (Rows.askAllSpec.pre6 enc Try.prog Try.f4 Rows.askAllRow.domain false) (Rows.askAllSpec.post enc Try.prog Try.f4 false true false false) := by
  refine returnsInHanded_of_change_sized (C := Try.checked) own started (by kernel_rfl) Try.func4
    (ChangeSpec.witness6 (enc := enc) (C := Try.checked) false ⟨#[], #[.agg #[.slice none 0 0, .int .i64 0], .int .i64 0, .slice none 0 0, .agg #[.slice none 0 0, .int .i64 0, .int .i64 0, .int .i64 0, .int .i64 0]], []⟩ 8 (by kernel_rfl) (by kernel_rfl) (by kernel_rfl) (by kernel_rfl)) ?_
  intro W base args ds gs before hval0 hW hcnd hsz0 _
  have hsz : (DataW.weightsEach Try.prog (Try.f4.params.toList ++ Rows.askAllSpec.plain.varTypes Try.prog) (ds ++ gs)).all (· ≤ reachBytes) = true := hsz0
  have hval : ∀ (j : Nat) t v, Try.f4.params[j]? = some t → args[j]? = some v → Value.okWide Try.prog W .any base t v := hval0
  have hW' := hW
  obtain ⟨p, q, hA0, hV, rfl, hfz, hnd⟩ := hW
  have hA : DataW.TrodAll enc Try.prog W 0 (fun _ => true) true Try.f4.params.toList args.toList ds p := hA0
  rw [Try.params4] at hA hval hsz
  obtain ⟨v0, vs0, d0, ds0, p0, q0, hargs, rfl, rfl, h0, r0⟩ := trodAll_cons hA
  obtain ⟨v1, vs1, d1, ds1, p1, q1, rfl, rfl, rfl, h1, r1⟩ := trodAll_cons r0
  obtain ⟨v2, vs2, d2, ds2, p2, q2, rfl, rfl, rfl, h2, r2⟩ := trodAll_cons r1
  obtain ⟨v3, vs3, d3, ds3, p3, q3, rfl, rfl, rfl, h3, r3⟩ := trodAll_cons r2
  obtain ⟨rfl, rfl, rfl⟩ := trodAll_nil r3
  obtain rfl : args = #[v0, v1, v2, v3] := by cases args; simp_all
  obtain ⟨rfl, rfl⟩ := trodVars_none hV
  have lt0 := lt_of_trod h0
  obtain ⟨x0, hK0, hw0⟩ := ((open_T24 enc W) : Opens enc Try.prog W 24 (Kd.pair (Kd.slice 84 k84) (Kd.int .i64)) _).arg h0 hsz (j := 0) rfl rfl
  obtain ⟨l0_0, a0_1⟩ := x0
  generalize hcs0 : v0.cells.toList = cs0 at hK0
  obtain ⟨_, _, rfl, ⟨A0_0, c0_0, rfl, hc0_0, hr0_0⟩, rfl⟩ := hK0
  obtain rfl : v0 = .agg #[.slice A0_0 l0_0.length c0_0, .int .i64 a0_1] := agg_of Try.underlying24 (hval 0 24 v0 rfl rfl) hcs0
  clear hcs0
  have lt1 := lt_of_trod h1
  obtain ⟨x1, hK1, hw1⟩ := ((Opens.int Try.underlying2) : Opens enc Try.prog W 2 (Kd.int .i64) _).arg h1 hsz (j := 1) rfl rfl
  generalize hcs1 : v1.cells.toList = cs1 at hK1
  obtain rfl := hK1
  obtain rfl : v1 = .int .i64 x1 := one_of (.inl ⟨_, Try.underlying2⟩) (hval 1 2 v1 rfl rfl) hcs1
  clear hcs1
  have lt2 := lt_of_trod h2
  obtain ⟨x2, hK2, hw2⟩ := ((Opens.slice Try.underlying25 (by kernel_rfl) (by kernel_rfl) (open_S60 enc W)) : Opens enc Try.prog W 25 (Kd.slice 60 k60) _).arg h2 hsz (j := 2) rfl rfl
  generalize hcs2 : v2.cells.toList = cs2 at hK2
  obtain ⟨A2, c2, rfl, hc2, hr2⟩ := hK2
  obtain rfl : v2 = .slice A2 x2.length c2 := slice_of Try.underlying25 (hval 2 25 v2 rfl rfl) hcs2
  clear hcs2
  have lt3 := lt_of_trod h3
  obtain ⟨x3, hK3, hw3⟩ := ((open_T28 enc W) : Opens enc Try.prog W 28 (Kd.pair (Kd.slice 9 Kd.string) (Kd.pair (Kd.int .i64) (Kd.pair (Kd.int .i64) (Kd.pair (Kd.int .i64) (Kd.int .i64))))) _).arg h3 hsz (j := 3) rfl rfl
  obtain ⟨l3_0, a3_1, a3_2, a3_3, a3_4⟩ := x3
  generalize hcs3 : v3.cells.toList = cs3 at hK3
  obtain ⟨_, _, rfl, ⟨A3_0, c3_0, rfl, hc3_0, hr3_0⟩, ⟨_, _, rfl, rfl, ⟨_, _, rfl, rfl, ⟨_, _, rfl, rfl, rfl⟩⟩⟩⟩ := hK3
  obtain rfl : v3 = .agg #[.slice A3_0 l3_0.length c3_0, .int .i64 a3_1, .int .i64 a3_2, .int .i64 a3_3, .int .i64 a3_4] := agg_of Try.underlying28 (hval 3 28 v3 rfl rfl) hcs3
  clear hcs3
  (try clear hA0 hval0 hsz0 hsz)
  obtain ⟨k, hp⟩ := Pure.AskAll l0_0 a0_1 x1 x2 l3_0 a3_1 a3_2 a3_3 a3_4 hw0.1 hw0.2 hw1 hw2 hw3.1 hw3.2.1 hw3.2.2.1 hw3.2.2.2.1 hw3.2.2.2.2
  refine (rickyardlaw17_AskAll.calls k A0_0 c0_0 l0_0 a0_1 x1 A2 c2 x2 A3_0 c3_0 l3_0 a3_1 a3_2 a3_3 a3_4 true W hr0_0 hc0_0 hr2 hc2 hr3_0 hc3_0 hp).mono fun e W' h' => ?_
  obtain ⟨he, hd⟩ := h'
  have bel : Below W.heap.size W W' := hd
  subst he
  exact ⟨_, rfl, _, _, _, [], _, [], hW', trodAll_mk1 (shut_bool Try.underlying4 _), (trodAll_cons_mk (Below.trod laidOut (by kernel_rfl) (of_decide_eq_true (by kernel_rfl)) h0 bel lt0) (trodAll_cons_mk (Below.trod laidOut (by kernel_rfl) (of_decide_eq_true (by kernel_rfl)) h1 bel lt1) (trodAll_cons_mk (Below.trod laidOut (by kernel_rfl) (of_decide_eq_true (by kernel_rfl)) h2 bel lt2) (trodAll_cons_mk (Below.trod laidOut (by kernel_rfl) (of_decide_eq_true (by kernel_rfl)) h3 bel lt3) trodAll_mk0)))), rfl, bel.frame _, fun h => by cases h⟩
theorem over : Rows.askAllRow.holds Try.pinned (OpenSpec.ofChange Rows.askAllSpec) :=
  OpenClaim.holds_of_wide 4 Try.f4 rfl rfl rfl rfl rfl rfl rfl ⟨rfl, rfl, rfl, rfl, rfl⟩ rfl rfl rfl rfl rfl (by kernel_rfl) Try.func4 (by kernel_rfl)
    (of_decide_eq_true (by kernel_rfl)) (by unfold Func.isWrapper; first | (rw [if_pos (by decide +kernel)]; kernel_rfl) | (rw [if_neg (by decide +kernel)]; exact ⟨rfl, rfl⟩))
    (fun os started H enc _ => lifted os started H enc)
end Go.Proofs.Ytdopbhbbpgfliaa.askAll
namespace Go.Proofs.Ytdopbhbbpgfliaa
theorem askAll_holds : Rows.AskAllSaid := askAll.over
#print axioms askAll_holds
end Go.Proofs.Ytdopbhbbpgfliaa
