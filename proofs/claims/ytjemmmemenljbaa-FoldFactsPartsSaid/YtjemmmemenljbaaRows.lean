/-
  No cell of these rows narrows 'for every input' (looked for: loops, veiled, ifaces, maps, wideKeys, modest, calm, conditions, laid).
  DERIVED. THE GIVEN ROWS OF THIS SEAT. 7 by the template 'for every input the law returns true; each argument reads behind the call as it read before'; 0 by the template 'total and deterministic' (their statements: YtjemmmemenljbaaTotals.lean).
  GIVEN WITH THE SEED: the statements are not yours to turn. If you find one false, say at which input.
  Laid BY PROGRAM, IN A SANDBOX (cutbox-rows.mjs): the forced cells as the released guide's own fill.sh prints them over the translation 282a4ff3f7405c8a… (all of the seat's roots in one cut). By AI agents, Wed Nov 11 2026. No macro, syntax, notation, axiom, sorry.
-/
import Derived.Test.YtjemmmemenljbaaChecked
import GoSem.Claim
import GoSem.ClaimJoined
import GoSem.ClaimMapViews
import Derived.JoinedTies
import Derived.KernelRfl
namespace Go.Proofs.Ytjemmmemenljbaa
/- THE CELL 'sum', in the pinned program and in every row, IS THE sha256 OF THE DUMP (.gsa) THAT YtjemmmemenljbaaProg.lean LOADS. Nothing in Lean hashes anything: it is a label: what it is worth is what the hold of that sum in a sandbox is worth. -/
noncomputable def Try.pinned : Pinned := { name := "ytjemmmemenljbaa", sum := "282a4ff3f7405c8a585feafdfe27fa7864b632c6423d5b57284620fddc8bf4c1", checked := Try.checked }
namespace Rows
def none {H : Type} : Left H := { results := [], args := [] }

/-- 'rickyardlaw15.FoldFacts': WHATEVER THE INPUT: true; the input reads as it did. -/
def foldFactsSpec : ChangeSpec := { name := "foldFacts", fn := fun _ => fun
  | [d1, d2, d3] => { results := [.lit (.bool true)], args := [d1, d2, d3] }
  | _ => none }
def foldFactsRow : OpenClaim := { program := "ytjemmmemenljbaa", sum := "282a4ff3f7405c8a585feafdfe27fa7864b632c6423d5b57284620fddc8bf4c1", func := "rickyard/rickyardlaw15.FoldFacts", spec := "foldFacts", inPlace := ["internal/bytealg.Compare", "math/bits.Add64", "slices.overlaps[rickyard/api.Entry]"], unfollowed := true, recurses := true, apart := false }
def FoldFactsSaid : Prop := foldFactsRow.holds Try.pinned (OpenSpec.ofChange foldFactsSpec)

/-- ITS FALSE NEIGHBOUR: 'it returns false'. Refute it at one input. -/
def foldFactsWrong : ChangeSpec := { name := "foldFacts", fn := fun _ => fun
  | [d1, d2, d3] => { results := [.lit (.bool false)], args := [d1, d2, d3] }
  | _ => none }
def FoldFactsWrongFalsely : Prop := foldFactsRow.holds Try.pinned (OpenSpec.ofChange foldFactsWrong)

/-- 'rickyardlaw15.FoldLater': WHATEVER THE INPUT: true; the input reads as it did. -/
def foldLaterSpec : ChangeSpec := { name := "foldLater", fn := fun _ => fun
  | [d1, d2, d3, d4] => { results := [.lit (.bool true)], args := [d1, d2, d3, d4] }
  | _ => none }
def foldLaterRow : OpenClaim := { program := "ytjemmmemenljbaa", sum := "282a4ff3f7405c8a585feafdfe27fa7864b632c6423d5b57284620fddc8bf4c1", func := "rickyard/rickyardlaw15.FoldLater", spec := "foldLater", inPlace := ["internal/bytealg.Compare", "math/bits.Add64", "slices.overlaps[rickyard/api.Entry]"], unfollowed := true, recurses := true, apart := false }
def FoldLaterSaid : Prop := foldLaterRow.holds Try.pinned (OpenSpec.ofChange foldLaterSpec)

/-- ITS FALSE NEIGHBOUR: 'it returns false'. Refute it at one input. -/
def foldLaterWrong : ChangeSpec := { name := "foldLater", fn := fun _ => fun
  | [d1, d2, d3, d4] => { results := [.lit (.bool false)], args := [d1, d2, d3, d4] }
  | _ => none }
def FoldLaterWrongFalsely : Prop := foldLaterRow.holds Try.pinned (OpenSpec.ofChange foldLaterWrong)

/-- 'rickyardlaw15.FoldKeeps': WHATEVER THE INPUT: true; the input reads as it did. -/
def foldKeepsSpec : ChangeSpec := { name := "foldKeeps", fn := fun _ => fun
  | [d1, d2, d3] => { results := [.lit (.bool true)], args := [d1, d2, d3] }
  | _ => none }
def foldKeepsRow : OpenClaim := { program := "ytjemmmemenljbaa", sum := "282a4ff3f7405c8a585feafdfe27fa7864b632c6423d5b57284620fddc8bf4c1", func := "rickyard/rickyardlaw15.FoldKeeps", spec := "foldKeeps", inPlace := ["internal/bytealg.Compare", "math/bits.Add64", "slices.overlaps[rickyard/api.Entry]"], unfollowed := true, recurses := true, apart := false }
def FoldKeepsSaid : Prop := foldKeepsRow.holds Try.pinned (OpenSpec.ofChange foldKeepsSpec)

/-- ITS FALSE NEIGHBOUR: 'it returns false'. Refute it at one input. -/
def foldKeepsWrong : ChangeSpec := { name := "foldKeeps", fn := fun _ => fun
  | [d1, d2, d3] => { results := [.lit (.bool false)], args := [d1, d2, d3] }
  | _ => none }
def FoldKeepsWrongFalsely : Prop := foldKeepsRow.holds Try.pinned (OpenSpec.ofChange foldKeepsWrong)

/-- 'rickyardlaw15.FoldFolds': WHATEVER THE INPUT: true; the input reads as it did. -/
def foldFoldsSpec : ChangeSpec := { name := "foldFolds", fn := fun _ => fun
  | [d1, d2, d3] => { results := [.lit (.bool true)], args := [d1, d2, d3] }
  | _ => none }
def foldFoldsRow : OpenClaim := { program := "ytjemmmemenljbaa", sum := "282a4ff3f7405c8a585feafdfe27fa7864b632c6423d5b57284620fddc8bf4c1", func := "rickyard/rickyardlaw15.FoldFolds", spec := "foldFolds", inPlace := ["internal/bytealg.Compare", "math/bits.Add64", "slices.overlaps[rickyard/api.Entry]"], unfollowed := true, recurses := true, apart := false }
def FoldFoldsSaid : Prop := foldFoldsRow.holds Try.pinned (OpenSpec.ofChange foldFoldsSpec)

/-- ITS FALSE NEIGHBOUR: 'it returns false'. Refute it at one input. -/
def foldFoldsWrong : ChangeSpec := { name := "foldFolds", fn := fun _ => fun
  | [d1, d2, d3] => { results := [.lit (.bool false)], args := [d1, d2, d3] }
  | _ => none }
def FoldFoldsWrongFalsely : Prop := foldFoldsRow.holds Try.pinned (OpenSpec.ofChange foldFoldsWrong)

/-- 'rickyardlaw15.FoldAgain': WHATEVER THE INPUT: true; the input reads as it did. -/
def foldAgainSpec : ChangeSpec := { name := "foldAgain", fn := fun _ => fun
  | [d1, d2, d3] => { results := [.lit (.bool true)], args := [d1, d2, d3] }
  | _ => none }
def foldAgainRow : OpenClaim := { program := "ytjemmmemenljbaa", sum := "282a4ff3f7405c8a585feafdfe27fa7864b632c6423d5b57284620fddc8bf4c1", func := "rickyard/rickyardlaw15.FoldAgain", spec := "foldAgain", inPlace := ["internal/bytealg.Compare", "math/bits.Add64", "slices.overlaps[rickyard/api.Entry]"], unfollowed := true, recurses := true, apart := false }
def FoldAgainSaid : Prop := foldAgainRow.holds Try.pinned (OpenSpec.ofChange foldAgainSpec)

/-- ITS FALSE NEIGHBOUR: 'it returns false'. Refute it at one input. -/
def foldAgainWrong : ChangeSpec := { name := "foldAgain", fn := fun _ => fun
  | [d1, d2, d3] => { results := [.lit (.bool false)], args := [d1, d2, d3] }
  | _ => none }
def FoldAgainWrongFalsely : Prop := foldAgainRow.holds Try.pinned (OpenSpec.ofChange foldAgainWrong)

/-- 'rickyardlaw15.FoldParts': WHATEVER THE INPUT: true; the input reads as it did. -/
def foldPartsSpec : ChangeSpec := { name := "foldParts", fn := fun _ => fun
  | [d1, d2, d3, d4, d5, d6] => { results := [.lit (.bool true)], args := [d1, d2, d3, d4, d5, d6] }
  | _ => none }
def foldPartsRow : OpenClaim := { program := "ytjemmmemenljbaa", sum := "282a4ff3f7405c8a585feafdfe27fa7864b632c6423d5b57284620fddc8bf4c1", func := "rickyard/rickyardlaw15.FoldParts", spec := "foldParts", inPlace := ["internal/bytealg.Compare", "math/bits.Add64", "slices.overlaps[rickyard/api.Entry]"], unfollowed := true, recurses := true, apart := false }
def FoldPartsSaid : Prop := foldPartsRow.holds Try.pinned (OpenSpec.ofChange foldPartsSpec)

/-- ITS FALSE NEIGHBOUR: 'it returns false'. Refute it at one input. -/
def foldPartsWrong : ChangeSpec := { name := "foldParts", fn := fun _ => fun
  | [d1, d2, d3, d4, d5, d6] => { results := [.lit (.bool false)], args := [d1, d2, d3, d4, d5, d6] }
  | _ => none }
def FoldPartsWrongFalsely : Prop := foldPartsRow.holds Try.pinned (OpenSpec.ofChange foldPartsWrong)

/-- 'rickyardlaw15.FoldFactsParts': WHATEVER THE INPUT: true; the input reads as it did. -/
def foldFactsPartsSpec : ChangeSpec := { name := "foldFactsParts", fn := fun _ => fun
  | [d1, d2, d3, d4, d5] => { results := [.lit (.bool true)], args := [d1, d2, d3, d4, d5] }
  | _ => none }
def foldFactsPartsRow : OpenClaim := { program := "ytjemmmemenljbaa", sum := "282a4ff3f7405c8a585feafdfe27fa7864b632c6423d5b57284620fddc8bf4c1", func := "rickyard/rickyardlaw15.FoldFactsParts", spec := "foldFactsParts", inPlace := ["internal/bytealg.Compare", "math/bits.Add64", "slices.overlaps[rickyard/api.Entry]"], unfollowed := true, recurses := true, apart := false }
def FoldFactsPartsSaid : Prop := foldFactsPartsRow.holds Try.pinned (OpenSpec.ofChange foldFactsPartsSpec)

/-- ITS FALSE NEIGHBOUR: 'it returns false'. Refute it at one input. -/
def foldFactsPartsWrong : ChangeSpec := { name := "foldFactsParts", fn := fun _ => fun
  | [d1, d2, d3, d4, d5] => { results := [.lit (.bool false)], args := [d1, d2, d3, d4, d5] }
  | _ => none }
def FoldFactsPartsWrongFalsely : Prop := foldFactsPartsRow.holds Try.pinned (OpenSpec.ofChange foldFactsPartsWrong)

/- THE SECOND FORM. 'bulk': how many values and letters a reading holds, each counted each time it is reached (what is shared counts as often as it is met; a slice's spare places count too). A statement '..UptoSaid' is the law's where the arguments, and the package variables that the reading takes, are together of bulk at most 1048576: NARROWER than '..Said'. Prove '..Said' where nothing that the law and all that it calls make is longer than what came in: it says more and counts as full. Else prove '..UptoSaid'. A law counts once. -/
mutual
def uptoBulk {H : Type} : DataW H → Nat
  | .lit (.string bytes) => bytes.length + 1
  | .lit _ => 1
  | .nil => 1
  | .ptr d => uptoBulk d + 1
  | .slice elems spare => uptoBulkAll elems + uptoBulkAll spare + 1
  | .agg parts => uptoBulkAll parts + 1
  | .iface _ d => uptoBulk d + 1
  | .map entries => uptoBulkEntries entries + 1
  | .held _ => 1
def uptoBulkAll {H : Type} : List (DataW H) → Nat
  | [] => 0
  | d :: r => uptoBulk d + uptoBulkAll r
def uptoBulkEntries {H : Type} : List (Lit × DataW H) → Nat
  | [] => 0
  | x :: r => uptoBulkEntry x + uptoBulkEntries r
def uptoBulkEntry {H : Type} : Lit × DataW H → Nat
  | (.string bytes, d) => bytes.length + uptoBulk d + 1
  | (_, d) => uptoBulk d + 1
 end
def uptoSmall : (H : Type) → List (DataW H) → Bool := fun _ ds => decide (uptoBulkAll ds ≤ 1048576)
def OpenSpec.upto (s : _root_.Go.ChangeSpec) : _root_.Go.OpenSpec := { _root_.Go.OpenSpec.ofChange s with cond := some uptoSmall }

/-- 'rickyardlaw15.FoldFacts', WHERE WHAT IT READS IS OF BULK AT MOST 1048576: true; the input reads as it did. -/
def foldFactsUptoRow : OpenClaim := { program := "ytjemmmemenljbaa", sum := "282a4ff3f7405c8a585feafdfe27fa7864b632c6423d5b57284620fddc8bf4c1", func := "rickyard/rickyardlaw15.FoldFacts", spec := "foldFacts", inPlace := ["internal/bytealg.Compare", "math/bits.Add64", "slices.overlaps[rickyard/api.Entry]"], unfollowed := true, recurses := true, apart := false, narrowed := true }
def FoldFactsUptoSaid : Prop := foldFactsUptoRow.holds Try.pinned (OpenSpec.upto foldFactsSpec)

/-- 'rickyardlaw15.FoldLater', WHERE WHAT IT READS IS OF BULK AT MOST 1048576: true; the input reads as it did. -/
def foldLaterUptoRow : OpenClaim := { program := "ytjemmmemenljbaa", sum := "282a4ff3f7405c8a585feafdfe27fa7864b632c6423d5b57284620fddc8bf4c1", func := "rickyard/rickyardlaw15.FoldLater", spec := "foldLater", inPlace := ["internal/bytealg.Compare", "math/bits.Add64", "slices.overlaps[rickyard/api.Entry]"], unfollowed := true, recurses := true, apart := false, narrowed := true }
def FoldLaterUptoSaid : Prop := foldLaterUptoRow.holds Try.pinned (OpenSpec.upto foldLaterSpec)

/-- 'rickyardlaw15.FoldKeeps', WHERE WHAT IT READS IS OF BULK AT MOST 1048576: true; the input reads as it did. -/
def foldKeepsUptoRow : OpenClaim := { program := "ytjemmmemenljbaa", sum := "282a4ff3f7405c8a585feafdfe27fa7864b632c6423d5b57284620fddc8bf4c1", func := "rickyard/rickyardlaw15.FoldKeeps", spec := "foldKeeps", inPlace := ["internal/bytealg.Compare", "math/bits.Add64", "slices.overlaps[rickyard/api.Entry]"], unfollowed := true, recurses := true, apart := false, narrowed := true }
def FoldKeepsUptoSaid : Prop := foldKeepsUptoRow.holds Try.pinned (OpenSpec.upto foldKeepsSpec)

/-- 'rickyardlaw15.FoldFolds', WHERE WHAT IT READS IS OF BULK AT MOST 1048576: true; the input reads as it did. -/
def foldFoldsUptoRow : OpenClaim := { program := "ytjemmmemenljbaa", sum := "282a4ff3f7405c8a585feafdfe27fa7864b632c6423d5b57284620fddc8bf4c1", func := "rickyard/rickyardlaw15.FoldFolds", spec := "foldFolds", inPlace := ["internal/bytealg.Compare", "math/bits.Add64", "slices.overlaps[rickyard/api.Entry]"], unfollowed := true, recurses := true, apart := false, narrowed := true }
def FoldFoldsUptoSaid : Prop := foldFoldsUptoRow.holds Try.pinned (OpenSpec.upto foldFoldsSpec)

/-- 'rickyardlaw15.FoldAgain', WHERE WHAT IT READS IS OF BULK AT MOST 1048576: true; the input reads as it did. -/
def foldAgainUptoRow : OpenClaim := { program := "ytjemmmemenljbaa", sum := "282a4ff3f7405c8a585feafdfe27fa7864b632c6423d5b57284620fddc8bf4c1", func := "rickyard/rickyardlaw15.FoldAgain", spec := "foldAgain", inPlace := ["internal/bytealg.Compare", "math/bits.Add64", "slices.overlaps[rickyard/api.Entry]"], unfollowed := true, recurses := true, apart := false, narrowed := true }
def FoldAgainUptoSaid : Prop := foldAgainUptoRow.holds Try.pinned (OpenSpec.upto foldAgainSpec)

/-- 'rickyardlaw15.FoldParts', WHERE WHAT IT READS IS OF BULK AT MOST 1048576: true; the input reads as it did. -/
def foldPartsUptoRow : OpenClaim := { program := "ytjemmmemenljbaa", sum := "282a4ff3f7405c8a585feafdfe27fa7864b632c6423d5b57284620fddc8bf4c1", func := "rickyard/rickyardlaw15.FoldParts", spec := "foldParts", inPlace := ["internal/bytealg.Compare", "math/bits.Add64", "slices.overlaps[rickyard/api.Entry]"], unfollowed := true, recurses := true, apart := false, narrowed := true }
def FoldPartsUptoSaid : Prop := foldPartsUptoRow.holds Try.pinned (OpenSpec.upto foldPartsSpec)

/-- 'rickyardlaw15.FoldFactsParts', WHERE WHAT IT READS IS OF BULK AT MOST 1048576: true; the input reads as it did. -/
def foldFactsPartsUptoRow : OpenClaim := { program := "ytjemmmemenljbaa", sum := "282a4ff3f7405c8a585feafdfe27fa7864b632c6423d5b57284620fddc8bf4c1", func := "rickyard/rickyardlaw15.FoldFactsParts", spec := "foldFactsParts", inPlace := ["internal/bytealg.Compare", "math/bits.Add64", "slices.overlaps[rickyard/api.Entry]"], unfollowed := true, recurses := true, apart := false, narrowed := true }
def FoldFactsPartsUptoSaid : Prop := foldFactsPartsUptoRow.holds Try.pinned (OpenSpec.upto foldFactsPartsSpec)

end Rows
end Go.Proofs.Ytjemmmemenljbaa
