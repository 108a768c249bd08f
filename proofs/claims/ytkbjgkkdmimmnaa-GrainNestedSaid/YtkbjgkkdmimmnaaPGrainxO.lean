-- written by a program of this session, out of the translation
import Derived.Test.YtkbjgkkdmimmnaaPGrainx0
import Derived.Test.YtkbjgkkdmimmnaaOpen
import Derived.KernelRfl
namespace Go.Proofs.Ytkbjgkkdmimmnaa.PGrain
open Go.RowKit Go.Proofs.YtkbjgkkdmimmnaaW.PrintWords Go.Proofs.YtkbjgkkdmimmnaaW.PrintLast Go.Proofs.YtkbjgkkdmimmnaaW.PrintMore
attribute [local go_sem] max2_int min2_int max_two min_two max_three min_three max_four min_four   -- for this text's walks alone
set_option linter.unusedVariables false
set_option linter.unusedSimpArgs false

open Go.Proofs.Ytkbjgkkdmimmnaa.Open

def wfS42 (x : S42) : Prop := (Lit.int .i64 x.f0).wf = true ∧ (Lit.int .i64 x.f1).wf = true
theorem open_S42 {H : Type} (enc : TypeId × Value → H) (W : World) : Opens enc Try.prog W 42 k42 wfS42 :=
  Opens.struct (wf := _) (fun x : S42 => (x.f0, x.f1)) (fun y => ⟨y.1, y.2⟩) (fun _ => rfl) (fun y h => ⟨h.1, h.2⟩) Try.underlying42 (by kernel_rfl) (FieldsOpen.cons (Opens.int Try.underlying2) (by kernel_rfl) rfl (by simp [Kd.pair, Kd.slice, Kd.int, Kd.bool, Kd.string, Kd.scalar, Kd.iso]) (FieldsOpen.one (Opens.int Try.underlying2) (by kernel_rfl) rfl))
theorem open_T24 {H : Type} (enc : TypeId × Value → H) (W : World) : Opens enc Try.prog W 24 (Kd.pair (Kd.slice 42 k42) (Kd.int .i64)) (fun x => (fun xs => xs.length * 16 ≤ 140737488351232 ∧ ∀ x ∈ xs, wfS42 x) x.1 ∧ (fun x => (Lit.int .i64 x).wf = true) x.2) :=
  Opens.structT Try.underlying24 (by kernel_rfl) (FieldsOpen.cons (Opens.slice Try.underlying22 (by kernel_rfl) (by kernel_rfl) (open_S42 enc W)) (by kernel_rfl) rfl (by simp [Kd.pair, Kd.slice, Kd.int, Kd.bool, Kd.string, Kd.scalar, Kd.iso, k42]) (FieldsOpen.one (Opens.int Try.underlying2) (by kernel_rfl) rfl))
end Go.Proofs.Ytkbjgkkdmimmnaa.PGrain
