-- written by a program of this session, out of the translation
import Derived.Test.YtnbbejhbnajdbaaPPickx0
import Derived.Test.YtnbbejhbnajdbaaOpen
import Derived.KernelRfl
namespace Go.Proofs.Ytnbbejhbnajdbaa.PPick
open Go.RowKit Go.Proofs.YtnbbejhbnajdbaaW.PrintWords Go.Proofs.YtnbbejhbnajdbaaW.PrintLast Go.Proofs.YtnbbejhbnajdbaaW.PrintMore
attribute [local go_sem] max2_int min2_int max_two min_two max_three min_three max_four min_four   -- for this text's walks alone
set_option linter.unusedVariables false
set_option linter.unusedSimpArgs false

open Go.Proofs.Ytnbbejhbnajdbaa.Open

def wfS26 (x : S26) : Prop := (Lit.int .i64 x.f0).wf = true ∧ (Lit.int .i64 x.f1).wf = true ∧ (Lit.int .i64 x.f2).wf = true
theorem open_S26 {H : Type} (enc : TypeId × Value → H) (W : World) : Opens enc Try.prog W 26 k26 wfS26 :=
  Opens.struct (wf := _) (fun x : S26 => (x.f0, x.f1, x.f2, x.f3)) (fun y => ⟨y.1, y.2.1, y.2.2.1, y.2.2.2⟩) (fun _ => rfl) (fun y h => ⟨h.1, h.2.1, h.2.2.1⟩) Try.underlying26 (by kernel_rfl) (FieldsOpen.cons (Opens.int Try.underlying3) (by kernel_rfl) rfl (by simp [Kd.pair, Kd.slice, Kd.int, Kd.bool, Kd.string, Kd.scalar, Kd.iso]) (FieldsOpen.cons (Opens.int Try.underlying3) (by kernel_rfl) rfl (by simp [Kd.pair, Kd.slice, Kd.int, Kd.bool, Kd.string, Kd.scalar, Kd.iso]) (FieldsOpen.cons (Opens.int Try.underlying3) (by kernel_rfl) rfl (by simp [Kd.pair, Kd.slice, Kd.int, Kd.bool, Kd.string, Kd.scalar, Kd.iso]) (FieldsOpen.one (Opens.bool Try.underlying4) (by kernel_rfl) rfl))))
theorem open_T29 {H : Type} (enc : TypeId × Value → H) (W : World) : Opens enc Try.prog W 29 (Kd.pair (Kd.slice 3 (Kd.int .i64)) (Kd.int .i64)) (fun x => (fun xs => xs.length * 8 ≤ 140737488351232 ∧ ∀ x ∈ xs, (fun x => (Lit.int .i64 x).wf = true) x) x.1 ∧ (fun x => (Lit.int .i64 x).wf = true) x.2) :=
  Opens.structT Try.underlying29 (by kernel_rfl) (FieldsOpen.cons (Opens.slice Try.underlying27 (by kernel_rfl) (by kernel_rfl) (Opens.int Try.underlying3)) (by kernel_rfl) rfl (by simp [Kd.pair, Kd.slice, Kd.int, Kd.bool, Kd.string, Kd.scalar, Kd.iso]) (FieldsOpen.one (Opens.int Try.underlying3) (by kernel_rfl) rfl))
end Go.Proofs.Ytnbbejhbnajdbaa.PPick
