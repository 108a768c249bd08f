-- written by a program of this session, out of the translation
import Derived.Test.YtnbbejhbnajdbaaPPickxO
import Derived.Test.YtnbbejhbnajdbaaPickEnds
namespace Go.Proofs.Ytnbbejhbnajdbaa.PPick
open Go.RowKit Go.Proofs.YtnbbejhbnajdbaaW.PrintWords Go.Proofs.YtnbbejhbnajdbaaW.PrintLast Go.Proofs.YtnbbejhbnajdbaaW.PrintMore
attribute [local go_sem] max2_int min2_int max_two min_two max_three min_three max_four min_four   -- for this text's walks alone
set_option linter.unusedVariables false
set_option linter.unusedSimpArgs false

def rickyardlaw16_PickEnds.Pure : Prop := ∀ (l0 : List (S26)) (l1 : List Int), (l0.length * 32 ≤ 140737488351232 ∧ ∀ z2 ∈ l0, wfS26 z2) → (l1.length * 2 ≤ 140737488351232 ∧ ∀ z2 ∈ l1, (Lit.int .u16 z2).wf = true) → rickyardlaw16_PickEnds.f l0 l1 = some true
end Go.Proofs.Ytnbbejhbnajdbaa.PPick
