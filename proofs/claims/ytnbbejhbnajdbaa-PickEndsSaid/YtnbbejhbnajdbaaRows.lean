/-
  No cell of these rows narrows 'for every input' (looked for: loops, veiled, ifaces, maps, wideKeys, modest, calm, conditions, laid).
  DERIVED. THE GIVEN ROWS OF THIS SEAT. 6 by the template 'for every input the law returns true; each argument reads behind the call as it read before'; 0 by the template 'total and deterministic' (their statements: YtnbbejhbnajdbaaTotals.lean).
  GIVEN WITH THE SEED: the statements are not yours to turn. If you find one false, say at which input.
  Laid BY PROGRAM, IN A SANDBOX (cutbox-rows.mjs): the forced cells as the released guide's own fill.sh prints them over the translation 0f3fdbe3915e1f81… (all of the seat's roots in one cut). By AI agents, Wed Nov 11 2026. No macro, syntax, notation, axiom, sorry.
-/
import Derived.Test.YtnbbejhbnajdbaaChecked
import GoSem.Claim
import GoSem.ClaimJoined
import GoSem.ClaimMapViews
import Derived.JoinedTies
import Derived.KernelRfl
namespace Go.Proofs.Ytnbbejhbnajdbaa
/- THE CELL 'sum', in the pinned program and in every row, IS THE sha256 OF THE DUMP (.gsa) THAT YtnbbejhbnajdbaaProg.lean LOADS. Nothing in Lean hashes anything: it is a label: what it is worth is what the hold of that sum in a sandbox is worth. -/
noncomputable def Try.pinned : Pinned := { name := "ytnbbejhbnajdbaa", sum := "0f3fdbe3915e1f81f978edc406a2d7ddbe5a54f88bc53754790e695b65d5ea02", checked := Try.checked }
namespace Rows
def none {H : Type} : Left H := { results := [], args := [] }

/-- 'rickyardlaw16.PickOrder': WHATEVER THE INPUT: true; the input reads as it did. -/
def pickOrderSpec : ChangeSpec := { name := "pickOrder", fn := fun _ => fun
  | [d1, d2] => { results := [.lit (.bool true)], args := [d1, d2] }
  | _ => none }
def pickOrderRow : OpenClaim := { program := "ytnbbejhbnajdbaa", sum := "0f3fdbe3915e1f81f978edc406a2d7ddbe5a54f88bc53754790e695b65d5ea02", func := "rickyard/rickyardlaw16.PickOrder", spec := "pickOrder", recurses := true, apart := false }
def PickOrderSaid : Prop := pickOrderRow.holds Try.pinned (OpenSpec.ofChange pickOrderSpec)

/-- ITS FALSE NEIGHBOUR: 'it returns false'. Refute it at one input. -/
def pickOrderWrong : ChangeSpec := { name := "pickOrder", fn := fun _ => fun
  | [d1, d2] => { results := [.lit (.bool false)], args := [d1, d2] }
  | _ => none }
def PickOrderWrongFalsely : Prop := pickOrderRow.holds Try.pinned (OpenSpec.ofChange pickOrderWrong)

/-- 'rickyardlaw16.PickOffers': WHATEVER THE INPUT: true; the input reads as it did. -/
def pickOffersSpec : ChangeSpec := { name := "pickOffers", fn := fun _ => fun
  | [d1, d2] => { results := [.lit (.bool true)], args := [d1, d2] }
  | _ => none }
def pickOffersRow : OpenClaim := { program := "ytnbbejhbnajdbaa", sum := "0f3fdbe3915e1f81f978edc406a2d7ddbe5a54f88bc53754790e695b65d5ea02", func := "rickyard/rickyardlaw16.PickOffers", spec := "pickOffers", recurses := true, apart := false }
def PickOffersSaid : Prop := pickOffersRow.holds Try.pinned (OpenSpec.ofChange pickOffersSpec)

/-- ITS FALSE NEIGHBOUR: 'it returns false'. Refute it at one input. -/
def pickOffersWrong : ChangeSpec := { name := "pickOffers", fn := fun _ => fun
  | [d1, d2] => { results := [.lit (.bool false)], args := [d1, d2] }
  | _ => none }
def PickOffersWrongFalsely : Prop := pickOffersRow.holds Try.pinned (OpenSpec.ofChange pickOffersWrong)

/-- 'rickyardlaw16.PickAll': WHATEVER THE INPUT: true; the input reads as it did. -/
def pickAllSpec : ChangeSpec := { name := "pickAll", fn := fun _ => fun
  | [d] => { results := [.lit (.bool true)], args := [d] }
  | _ => none }
def pickAllRow : OpenClaim := { program := "ytnbbejhbnajdbaa", sum := "0f3fdbe3915e1f81f978edc406a2d7ddbe5a54f88bc53754790e695b65d5ea02", func := "rickyard/rickyardlaw16.PickAll", spec := "pickAll", recurses := true, apart := false }
def PickAllSaid : Prop := pickAllRow.holds Try.pinned (OpenSpec.ofChange pickAllSpec)

/-- ITS FALSE NEIGHBOUR: 'it returns false'. Refute it at one input. -/
def pickAllWrong : ChangeSpec := { name := "pickAll", fn := fun _ => fun
  | [d] => { results := [.lit (.bool false)], args := [d] }
  | _ => none }
def PickAllWrongFalsely : Prop := pickAllRow.holds Try.pinned (OpenSpec.ofChange pickAllWrong)

/-- 'rickyardlaw16.PickAfter': WHATEVER THE INPUT: true; the input reads as it did. -/
def pickAfterSpec : ChangeSpec := { name := "pickAfter", fn := fun _ => fun
  | [d1, d2, d3, d4] => { results := [.lit (.bool true)], args := [d1, d2, d3, d4] }
  | _ => none }
def pickAfterRow : OpenClaim := { program := "ytnbbejhbnajdbaa", sum := "0f3fdbe3915e1f81f978edc406a2d7ddbe5a54f88bc53754790e695b65d5ea02", func := "rickyard/rickyardlaw16.PickAfter", spec := "pickAfter", unfollowed := true, recurses := true, apart := false }
def PickAfterSaid : Prop := pickAfterRow.holds Try.pinned (OpenSpec.ofChange pickAfterSpec)

/-- ITS FALSE NEIGHBOUR: 'it returns false'. Refute it at one input. -/
def pickAfterWrong : ChangeSpec := { name := "pickAfter", fn := fun _ => fun
  | [d1, d2, d3, d4] => { results := [.lit (.bool false)], args := [d1, d2, d3, d4] }
  | _ => none }
def PickAfterWrongFalsely : Prop := pickAfterRow.holds Try.pinned (OpenSpec.ofChange pickAfterWrong)

/-- 'rickyardlaw16.PickMay': WHATEVER THE INPUT: true; the input reads as it did. -/
def pickMaySpec : ChangeSpec := { name := "pickMay", fn := fun _ => fun
  | [d1, d2] => { results := [.lit (.bool true)], args := [d1, d2] }
  | _ => none }
def pickMayRow : OpenClaim := { program := "ytnbbejhbnajdbaa", sum := "0f3fdbe3915e1f81f978edc406a2d7ddbe5a54f88bc53754790e695b65d5ea02", func := "rickyard/rickyardlaw16.PickMay", spec := "pickMay", unfollowed := true, recurses := true, apart := false }
def PickMaySaid : Prop := pickMayRow.holds Try.pinned (OpenSpec.ofChange pickMaySpec)

/-- ITS FALSE NEIGHBOUR: 'it returns false'. Refute it at one input. -/
def pickMayWrong : ChangeSpec := { name := "pickMay", fn := fun _ => fun
  | [d1, d2] => { results := [.lit (.bool false)], args := [d1, d2] }
  | _ => none }
def PickMayWrongFalsely : Prop := pickMayRow.holds Try.pinned (OpenSpec.ofChange pickMayWrong)

/-- 'rickyardlaw16.PickEnds': WHATEVER THE INPUT: true; the input reads as it did. -/
def pickEndsSpec : ChangeSpec := { name := "pickEnds", fn := fun _ => fun
  | [d1, d2] => { results := [.lit (.bool true)], args := [d1, d2] }
  | _ => none }
def pickEndsRow : OpenClaim := { program := "ytnbbejhbnajdbaa", sum := "0f3fdbe3915e1f81f978edc406a2d7ddbe5a54f88bc53754790e695b65d5ea02", func := "rickyard/rickyardlaw16.PickEnds", spec := "pickEnds", unfollowed := true, recurses := true, apart := false }
def PickEndsSaid : Prop := pickEndsRow.holds Try.pinned (OpenSpec.ofChange pickEndsSpec)

/-- ITS FALSE NEIGHBOUR: 'it returns false'. Refute it at one input. -/
def pickEndsWrong : ChangeSpec := { name := "pickEnds", fn := fun _ => fun
  | [d1, d2] => { results := [.lit (.bool false)], args := [d1, d2] }
  | _ => none }
def PickEndsWrongFalsely : Prop := pickEndsRow.holds Try.pinned (OpenSpec.ofChange pickEndsWrong)

/- THE SECOND FORM. 'bulk': how many values and letters a reading holds, each counted each time it is reached (what is shared counts as often as it is met; a slice's spare places count too). A statement '..UptoSaid' is the law's where the arguments, and the package variables that the reading takes, are together of bulk at most 1048576: NARROWER than '..Said'. Prove '..Said' where nothing that the law and all that it calls make is longer than what came in: it says more and counts as full. Else prove '..UptoSaid'. A law counts once. -/
mutual
def uptoBulk {H : Type} : DataW H → Nat
  | .lit (.string bytes) => bytes.length + 1
  | .lit _ => 1
  | .nil => 1
  | .ptr d => uptoBulk d + 1
  | .slice elems spare => uptoBulkAll elems + uptoBulkAll spare + 1
  | .agg parts => uptoBulkAll parts + 1
  | .iface _ d => uptoBulk d + 1
  | .map entries => uptoBulkEntries entries + 1
  | .held _ => 1
def uptoBulkAll {H : Type} : List (DataW H) → Nat
  | [] => 0
  | d :: r => uptoBulk d + uptoBulkAll r
def uptoBulkEntries {H : Type} : List (Lit × DataW H) → Nat
  | [] => 0
  | x :: r => uptoBulkEntry x + uptoBulkEntries r
def uptoBulkEntry {H : Type} : Lit × DataW H → Nat
  | (.string bytes, d) => bytes.length + uptoBulk d + 1
  | (_, d) => uptoBulk d + 1
 end
def uptoSmall : (H : Type) → List (DataW H) → Bool := fun _ ds => decide (uptoBulkAll ds ≤ 1048576)
def OpenSpec.upto (s : _root_.Go.ChangeSpec) : _root_.Go.OpenSpec := { _root_.Go.OpenSpec.ofChange s with cond := some uptoSmall }

/-- 'rickyardlaw16.PickOrder', WHERE WHAT IT READS IS OF BULK AT MOST 1048576: true; the input reads as it did. -/
def pickOrderUptoRow : OpenClaim := { program := "ytnbbejhbnajdbaa", sum := "0f3fdbe3915e1f81f978edc406a2d7ddbe5a54f88bc53754790e695b65d5ea02", func := "rickyard/rickyardlaw16.PickOrder", spec := "pickOrder", recurses := true, apart := false, narrowed := true }
def PickOrderUptoSaid : Prop := pickOrderUptoRow.holds Try.pinned (OpenSpec.upto pickOrderSpec)

/-- 'rickyardlaw16.PickOffers', WHERE WHAT IT READS IS OF BULK AT MOST 1048576: true; the input reads as it did. -/
def pickOffersUptoRow : OpenClaim := { program := "ytnbbejhbnajdbaa", sum := "0f3fdbe3915e1f81f978edc406a2d7ddbe5a54f88bc53754790e695b65d5ea02", func := "rickyard/rickyardlaw16.PickOffers", spec := "pickOffers", recurses := true, apart := false, narrowed := true }
def PickOffersUptoSaid : Prop := pickOffersUptoRow.holds Try.pinned (OpenSpec.upto pickOffersSpec)

/-- 'rickyardlaw16.PickAll', WHERE WHAT IT READS IS OF BULK AT MOST 1048576: true; the input reads as it did. -/
def pickAllUptoRow : OpenClaim := { program := "ytnbbejhbnajdbaa", sum := "0f3fdbe3915e1f81f978edc406a2d7ddbe5a54f88bc53754790e695b65d5ea02", func := "rickyard/rickyardlaw16.PickAll", spec := "pickAll", recurses := true, apart := false, narrowed := true }
def PickAllUptoSaid : Prop := pickAllUptoRow.holds Try.pinned (OpenSpec.upto pickAllSpec)

/-- 'rickyardlaw16.PickAfter', WHERE WHAT IT READS IS OF BULK AT MOST 1048576: true; the input reads as it did. -/
def pickAfterUptoRow : OpenClaim := { program := "ytnbbejhbnajdbaa", sum := "0f3fdbe3915e1f81f978edc406a2d7ddbe5a54f88bc53754790e695b65d5ea02", func := "rickyard/rickyardlaw16.PickAfter", spec := "pickAfter", unfollowed := true, recurses := true, apart := false, narrowed := true }
def PickAfterUptoSaid : Prop := pickAfterUptoRow.holds Try.pinned (OpenSpec.upto pickAfterSpec)

/-- 'rickyardlaw16.PickMay', WHERE WHAT IT READS IS OF BULK AT MOST 1048576: true; the input reads as it did. -/
def pickMayUptoRow : OpenClaim := { program := "ytnbbejhbnajdbaa", sum := "0f3fdbe3915e1f81f978edc406a2d7ddbe5a54f88bc53754790e695b65d5ea02", func := "rickyard/rickyardlaw16.PickMay", spec := "pickMay", unfollowed := true, recurses := true, apart := false, narrowed := true }
def PickMayUptoSaid : Prop := pickMayUptoRow.holds Try.pinned (OpenSpec.upto pickMaySpec)

/-- 'rickyardlaw16.PickEnds', WHERE WHAT IT READS IS OF BULK AT MOST 1048576: true; the input reads as it did. -/
def pickEndsUptoRow : OpenClaim := { program := "ytnbbejhbnajdbaa", sum := "0f3fdbe3915e1f81f978edc406a2d7ddbe5a54f88bc53754790e695b65d5ea02", func := "rickyard/rickyardlaw16.PickEnds", spec := "pickEnds", unfollowed := true, recurses := true, apart := false, narrowed := true }
def PickEndsUptoSaid : Prop := pickEndsUptoRow.holds Try.pinned (OpenSpec.upto pickEndsSpec)

end Rows
end Go.Proofs.Ytnbbejhbnajdbaa
