-- written by a program of this session, out of the translation
import Derived.Test.YtnbbejhbnajdbaaPPickxO
import Derived.Test.YtnbbejhbnajdbaaPPickx22
namespace Go.Proofs.Ytnbbejhbnajdbaa.PPick
open Go.RowKit Go.Proofs.YtnbbejhbnajdbaaW.PrintWords Go.Proofs.YtnbbejhbnajdbaaW.PrintLast Go.Proofs.YtnbbejhbnajdbaaW.PrintMore
attribute [local go_sem] max2_int min2_int max_two min_two max_three min_three max_four min_four   -- for this text's walks alone
set_option linter.unusedVariables false
set_option linter.unusedSimpArgs false

def rickyardlaw16_PickAfter.Pure : Prop := ∀ (l0 : List (S26)) (l1_0 : List Int) (a1_1 : Int) (a2 : Int) (a3 : Int), (l0.length * 32 ≤ 140737488351232 ∧ ∀ z2 ∈ l0, wfS26 z2) → (l1_0.length * 8 ≤ 140737488351232 ∧ ∀ z4 ∈ l1_0, (Lit.int .i64 z4).wf = true) → (Lit.int .i64 a1_1).wf = true → (Lit.int .i64 a2).wf = true → (Lit.int .i64 a3).wf = true → ∃ k, rickyardlaw16_PickAfter.f k l0 l1_0 a1_1 a2 a3 = some true
end Go.Proofs.Ytnbbejhbnajdbaa.PPick
