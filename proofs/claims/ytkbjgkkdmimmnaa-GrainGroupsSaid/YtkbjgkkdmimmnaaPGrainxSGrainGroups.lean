-- written by a program of this session, out of the translation
import Derived.Test.YtkbjgkkdmimmnaaPGrainxO
import Derived.Test.YtkbjgkkdmimmnaaPGrainx5
namespace Go.Proofs.Ytkbjgkkdmimmnaa.PGrain
open Go.RowKit Go.Proofs.YtkbjgkkdmimmnaaW.PrintWords Go.Proofs.YtkbjgkkdmimmnaaW.PrintLast Go.Proofs.YtkbjgkkdmimmnaaW.PrintMore
attribute [local go_sem] max2_int min2_int max_two min_two max_three min_three max_four min_four   -- for this text's walks alone
set_option linter.unusedVariables false
set_option linter.unusedSimpArgs false

def rickyardlaw03_GrainGroups.Pure : Prop := ∀ (l0_0 : List (S42)) (a0_1 : Int) (a1 : Int) (a2 : Int) (a3 : Int) (a4 : Int), (l0_0.length * 16 ≤ 140737488351232 ∧ ∀ z4 ∈ l0_0, wfS42 z4) → (Lit.int .i64 a0_1).wf = true → (Lit.int .i64 a1).wf = true → (Lit.int .i64 a2).wf = true → (Lit.int .i64 a3).wf = true → (Lit.int .i64 a4).wf = true → ∃ k, rickyardlaw03_GrainGroups.f k l0_0 a0_1 a1 a2 a3 a4 = some true
end Go.Proofs.Ytkbjgkkdmimmnaa.PGrain
