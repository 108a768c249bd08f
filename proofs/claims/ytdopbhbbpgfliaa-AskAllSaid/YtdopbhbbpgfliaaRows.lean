/-
  No cell of these rows narrows 'for every input' (looked for: loops, veiled, ifaces, maps, wideKeys, modest, calm, conditions, laid).
  DERIVED. THE GIVEN ROWS OF THIS SEAT. 4 by the template 'for every input the law returns true; each argument reads behind the call as it read before'; 0 by the template 'total and deterministic' (their statements: YtdopbhbbpgfliaaTotals.lean).
  GIVEN WITH THE SEED: the statements are not yours to turn. If you find one false, say at which input.
  Laid BY PROGRAM, IN A SANDBOX (cutbox-rows.mjs): the forced cells as the released guide's own fill.sh prints them over the translation f616c4d1adf59f07… (all of the seat's roots in one cut). By AI agents, Wed Nov 11 2026. No macro, syntax, notation, axiom, sorry.
-/
import Derived.Test.YtdopbhbbpgfliaaChecked
import GoSem.Claim
import GoSem.ClaimJoined
import GoSem.ClaimMapViews
import Derived.JoinedTies
import Derived.KernelRfl
namespace Go.Proofs.Ytdopbhbbpgfliaa
/- THE CELL 'sum', in the pinned program and in every row, IS THE sha256 OF THE DUMP (.gsa) THAT YtdopbhbbpgfliaaProg.lean LOADS. Nothing in Lean hashes anything: it is a label: what it is worth is what the hold of that sum in a sandbox is worth. -/
noncomputable def Try.pinned : Pinned := { name := "ytdopbhbbpgfliaa", sum := "f616c4d1adf59f07f490790765f6bd0e8f4323995fe550f728c9de051a6869fb", checked := Try.checked }
namespace Rows
def none {H : Type} : Left H := { results := [], args := [] }

/-- 'rickyardlaw17.AskRanges': WHATEVER THE INPUT: true; the input reads as it did. -/
def askRangesSpec : ChangeSpec := { name := "askRanges", fn := fun _ => fun
  | [d1, d2, d3, d4, d5] => { results := [.lit (.bool true)], args := [d1, d2, d3, d4, d5] }
  | _ => none }
def askRangesRow : OpenClaim := { program := "ytdopbhbbpgfliaa", sum := "f616c4d1adf59f07f490790765f6bd0e8f4323995fe550f728c9de051a6869fb", func := "rickyard/rickyardlaw17.AskRanges", spec := "askRanges", inPlace := ["internal/bytealg.Compare", "math/bits.Add64", "slices.overlaps[rickyard/api.Entry]"], unfollowed := true, recurses := true, apart := false }
def AskRangesSaid : Prop := askRangesRow.holds Try.pinned (OpenSpec.ofChange askRangesSpec)

/-- ITS FALSE NEIGHBOUR: 'it returns false'. Refute it at one input. -/
def askRangesWrong : ChangeSpec := { name := "askRanges", fn := fun _ => fun
  | [d1, d2, d3, d4, d5] => { results := [.lit (.bool false)], args := [d1, d2, d3, d4, d5] }
  | _ => none }
def AskRangesWrongFalsely : Prop := askRangesRow.holds Try.pinned (OpenSpec.ofChange askRangesWrong)

/-- 'rickyardlaw17.AskAll': WHATEVER THE INPUT: true; the input reads as it did. -/
def askAllSpec : ChangeSpec := { name := "askAll", fn := fun _ => fun
  | [d1, d2, d3, d4] => { results := [.lit (.bool true)], args := [d1, d2, d3, d4] }
  | _ => none }
def askAllRow : OpenClaim := { program := "ytdopbhbbpgfliaa", sum := "f616c4d1adf59f07f490790765f6bd0e8f4323995fe550f728c9de051a6869fb", func := "rickyard/rickyardlaw17.AskAll", spec := "askAll", inPlace := ["internal/bytealg.Compare", "math/bits.Add64", "slices.overlaps[rickyard/api.Entry]"], unfollowed := true, recurses := true, apart := false }
def AskAllSaid : Prop := askAllRow.holds Try.pinned (OpenSpec.ofChange askAllSpec)

/-- ITS FALSE NEIGHBOUR: 'it returns false'. Refute it at one input. -/
def askAllWrong : ChangeSpec := { name := "askAll", fn := fun _ => fun
  | [d1, d2, d3, d4] => { results := [.lit (.bool false)], args := [d1, d2, d3, d4] }
  | _ => none }
def AskAllWrongFalsely : Prop := askAllRow.holds Try.pinned (OpenSpec.ofChange askAllWrong)

/-- 'rickyardlaw17.AskEach': WHATEVER THE INPUT: true; the input reads as it did. -/
def askEachSpec : ChangeSpec := { name := "askEach", fn := fun _ => fun
  | [d1, d2, d3, d4] => { results := [.lit (.bool true)], args := [d1, d2, d3, d4] }
  | _ => none }
def askEachRow : OpenClaim := { program := "ytdopbhbbpgfliaa", sum := "f616c4d1adf59f07f490790765f6bd0e8f4323995fe550f728c9de051a6869fb", func := "rickyard/rickyardlaw17.AskEach", spec := "askEach", inPlace := ["internal/bytealg.Compare", "math/bits.Add64", "slices.overlaps[rickyard/api.Entry]"], unfollowed := true, recurses := true, apart := false }
def AskEachSaid : Prop := askEachRow.holds Try.pinned (OpenSpec.ofChange askEachSpec)

/-- ITS FALSE NEIGHBOUR: 'it returns false'. Refute it at one input. -/
def askEachWrong : ChangeSpec := { name := "askEach", fn := fun _ => fun
  | [d1, d2, d3, d4] => { results := [.lit (.bool false)], args := [d1, d2, d3, d4] }
  | _ => none }
def AskEachWrongFalsely : Prop := askEachRow.holds Try.pinned (OpenSpec.ofChange askEachWrong)

/-- 'rickyardlaw17.AskLater': WHATEVER THE INPUT: true; the input reads as it did. -/
def askLaterSpec : ChangeSpec := { name := "askLater", fn := fun _ => fun
  | [d1, d2, d3, d4] => { results := [.lit (.bool true)], args := [d1, d2, d3, d4] }
  | _ => none }
def askLaterRow : OpenClaim := { program := "ytdopbhbbpgfliaa", sum := "f616c4d1adf59f07f490790765f6bd0e8f4323995fe550f728c9de051a6869fb", func := "rickyard/rickyardlaw17.AskLater", spec := "askLater", inPlace := ["internal/bytealg.Compare", "math/bits.Add64", "slices.overlaps[rickyard/api.Entry]"], unfollowed := true, recurses := true, apart := false }
def AskLaterSaid : Prop := askLaterRow.holds Try.pinned (OpenSpec.ofChange askLaterSpec)

/-- ITS FALSE NEIGHBOUR: 'it returns false'. Refute it at one input. -/
def askLaterWrong : ChangeSpec := { name := "askLater", fn := fun _ => fun
  | [d1, d2, d3, d4] => { results := [.lit (.bool false)], args := [d1, d2, d3, d4] }
  | _ => none }
def AskLaterWrongFalsely : Prop := askLaterRow.holds Try.pinned (OpenSpec.ofChange askLaterWrong)

/- THE SECOND FORM. 'bulk': how many values and letters a reading holds, each counted each time it is reached (what is shared counts as often as it is met; a slice's spare places count too). A statement '..UptoSaid' is the law's where the arguments, and the package variables that the reading takes, are together of bulk at most 1048576: NARROWER than '..Said'. Prove '..Said' where nothing that the law and all that it calls make is longer than what came in: it says more and counts as full. Else prove '..UptoSaid'. A law counts once. -/
mutual
def uptoBulk {H : Type} : DataW H → Nat
  | .lit (.string bytes) => bytes.length + 1
  | .lit _ => 1
  | .nil => 1
  | .ptr d => uptoBulk d + 1
  | .slice elems spare => uptoBulkAll elems + uptoBulkAll spare + 1
  | .agg parts => uptoBulkAll parts + 1
  | .iface _ d => uptoBulk d + 1
  | .map entries => uptoBulkEntries entries + 1
  | .held _ => 1
def uptoBulkAll {H : Type} : List (DataW H) → Nat
  | [] => 0
  | d :: r => uptoBulk d + uptoBulkAll r
def uptoBulkEntries {H : Type} : List (Lit × DataW H) → Nat
  | [] => 0
  | x :: r => uptoBulkEntry x + uptoBulkEntries r
def uptoBulkEntry {H : Type} : Lit × DataW H → Nat
  | (.string bytes, d) => bytes.length + uptoBulk d + 1
  | (_, d) => uptoBulk d + 1
 end
def uptoSmall : (H : Type) → List (DataW H) → Bool := fun _ ds => decide (uptoBulkAll ds ≤ 1048576)
def OpenSpec.upto (s : _root_.Go.ChangeSpec) : _root_.Go.OpenSpec := { _root_.Go.OpenSpec.ofChange s with cond := some uptoSmall }

/-- 'rickyardlaw17.AskRanges', WHERE WHAT IT READS IS OF BULK AT MOST 1048576: true; the input reads as it did. -/
def askRangesUptoRow : OpenClaim := { program := "ytdopbhbbpgfliaa", sum := "f616c4d1adf59f07f490790765f6bd0e8f4323995fe550f728c9de051a6869fb", func := "rickyard/rickyardlaw17.AskRanges", spec := "askRanges", inPlace := ["internal/bytealg.Compare", "math/bits.Add64", "slices.overlaps[rickyard/api.Entry]"], unfollowed := true, recurses := true, apart := false, narrowed := true }
def AskRangesUptoSaid : Prop := askRangesUptoRow.holds Try.pinned (OpenSpec.upto askRangesSpec)

/-- 'rickyardlaw17.AskAll', WHERE WHAT IT READS IS OF BULK AT MOST 1048576: true; the input reads as it did. -/
def askAllUptoRow : OpenClaim := { program := "ytdopbhbbpgfliaa", sum := "f616c4d1adf59f07f490790765f6bd0e8f4323995fe550f728c9de051a6869fb", func := "rickyard/rickyardlaw17.AskAll", spec := "askAll", inPlace := ["internal/bytealg.Compare", "math/bits.Add64", "slices.overlaps[rickyard/api.Entry]"], unfollowed := true, recurses := true, apart := false, narrowed := true }
def AskAllUptoSaid : Prop := askAllUptoRow.holds Try.pinned (OpenSpec.upto askAllSpec)

/-- 'rickyardlaw17.AskEach', WHERE WHAT IT READS IS OF BULK AT MOST 1048576: true; the input reads as it did. -/
def askEachUptoRow : OpenClaim := { program := "ytdopbhbbpgfliaa", sum := "f616c4d1adf59f07f490790765f6bd0e8f4323995fe550f728c9de051a6869fb", func := "rickyard/rickyardlaw17.AskEach", spec := "askEach", inPlace := ["internal/bytealg.Compare", "math/bits.Add64", "slices.overlaps[rickyard/api.Entry]"], unfollowed := true, recurses := true, apart := false, narrowed := true }
def AskEachUptoSaid : Prop := askEachUptoRow.holds Try.pinned (OpenSpec.upto askEachSpec)

/-- 'rickyardlaw17.AskLater', WHERE WHAT IT READS IS OF BULK AT MOST 1048576: true; the input reads as it did. -/
def askLaterUptoRow : OpenClaim := { program := "ytdopbhbbpgfliaa", sum := "f616c4d1adf59f07f490790765f6bd0e8f4323995fe550f728c9de051a6869fb", func := "rickyard/rickyardlaw17.AskLater", spec := "askLater", inPlace := ["internal/bytealg.Compare", "math/bits.Add64", "slices.overlaps[rickyard/api.Entry]"], unfollowed := true, recurses := true, apart := false, narrowed := true }
def AskLaterUptoSaid : Prop := askLaterUptoRow.holds Try.pinned (OpenSpec.upto askLaterSpec)

end Rows
end Go.Proofs.Ytdopbhbbpgfliaa
