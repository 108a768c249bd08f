/- The plain law of PickEnds: it ends, with whatever counts (the walk itself shows that the answer is true). -/
import Derived.Test.YtnbbejhbnajdbaaPPickxSPickEnds
namespace Go.Proofs.Ytnbbejhbnajdbaa.Pure
open Go.Proofs.Ytnbbejhbnajdbaa.PPick
theorem PickEnds : rickyardlaw16_PickEnds.Pure := by
  intro l cs hl hcs
  unfold rickyardlaw16_PickEnds.f
  rw [if_pos ⟨List.all_eq_true.2 (Go.Proofs.Ytnbbejhbnajdbaa.PickP.wf_of hl), List.all_eq_true.2 fun x hx => hcs.2 x hx⟩]
end Go.Proofs.Ytnbbejhbnajdbaa.Pure
