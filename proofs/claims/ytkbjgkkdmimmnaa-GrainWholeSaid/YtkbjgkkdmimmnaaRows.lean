/-
  No cell of these rows narrows 'for every input' (looked for: loops, veiled, ifaces, maps, wideKeys, modest, calm, conditions, laid).
  DERIVED. THE GIVEN ROWS OF THIS SEAT. 8 by the template 'for every input the law returns true; each argument reads behind the call as it read before'; 0 by the template 'total and deterministic' (their statements: YtkbjgkkdmimmnaaTotals.lean).
  GIVEN WITH THE SEED: the statements are not yours to turn. If you find one false, say at which input.
  Laid BY PROGRAM, IN A SANDBOX (cutbox-rows.mjs): the forced cells as the released guide's own fill.sh prints them over the translation d5959ea0c5510b04… (all of the seat's roots in one cut). By AI agents, Wed Nov 11 2026. No macro, syntax, notation, axiom, sorry.
-/
import Derived.Test.YtkbjgkkdmimmnaaChecked
import GoSem.Claim
import GoSem.ClaimJoined
import GoSem.ClaimMapViews
import Derived.JoinedTies
import Derived.KernelRfl
namespace Go.Proofs.Ytkbjgkkdmimmnaa
/- THE CELL 'sum', in the pinned program and in every row, IS THE sha256 OF THE DUMP (.gsa) THAT YtkbjgkkdmimmnaaProg.lean LOADS. Nothing in Lean hashes anything: it is a label: what it is worth is what the hold of that sum in a sandbox is worth. -/
noncomputable def Try.pinned : Pinned := { name := "ytkbjgkkdmimmnaa", sum := "d5959ea0c5510b042501a240620e42ed35a4c01724905cad3b611446dbcad2b8", checked := Try.checked }
namespace Rows
def none {H : Type} : Left H := { results := [], args := [] }

/-- 'rickyardlaw03.GrainSteps': WHATEVER THE INPUT: true; the input reads as it did. -/
def grainStepsSpec : ChangeSpec := { name := "grainSteps", fn := fun _ => fun
  | [d1, d2, d3] => { results := [.lit (.bool true)], args := [d1, d2, d3] }
  | _ => none }
def grainStepsRow : OpenClaim := { program := "ytkbjgkkdmimmnaa", sum := "d5959ea0c5510b042501a240620e42ed35a4c01724905cad3b611446dbcad2b8", func := "rickyard/rickyardlaw03.GrainSteps", spec := "grainSteps", apart := false }
def GrainStepsSaid : Prop := grainStepsRow.holds Try.pinned (OpenSpec.ofChange grainStepsSpec)

/-- ITS FALSE NEIGHBOUR: 'it returns false'. Refute it at one input. -/
def grainStepsWrong : ChangeSpec := { name := "grainSteps", fn := fun _ => fun
  | [d1, d2, d3] => { results := [.lit (.bool false)], args := [d1, d2, d3] }
  | _ => none }
def GrainStepsWrongFalsely : Prop := grainStepsRow.holds Try.pinned (OpenSpec.ofChange grainStepsWrong)

/-- 'rickyardlaw03.GrainNever': WHATEVER THE INPUT: true; the input reads as it did. -/
def grainNeverSpec : ChangeSpec := { name := "grainNever", fn := fun _ => fun
  | [d1, d2, d3, d4] => { results := [.lit (.bool true)], args := [d1, d2, d3, d4] }
  | _ => none }
def grainNeverRow : OpenClaim := { program := "ytkbjgkkdmimmnaa", sum := "d5959ea0c5510b042501a240620e42ed35a4c01724905cad3b611446dbcad2b8", func := "rickyard/rickyardlaw03.GrainNever", spec := "grainNever", apart := false }
def GrainNeverSaid : Prop := grainNeverRow.holds Try.pinned (OpenSpec.ofChange grainNeverSpec)

/-- ITS FALSE NEIGHBOUR: 'it returns false'. Refute it at one input. -/
def grainNeverWrong : ChangeSpec := { name := "grainNever", fn := fun _ => fun
  | [d1, d2, d3, d4] => { results := [.lit (.bool false)], args := [d1, d2, d3, d4] }
  | _ => none }
def GrainNeverWrongFalsely : Prop := grainNeverRow.holds Try.pinned (OpenSpec.ofChange grainNeverWrong)

/-- 'rickyardlaw03.GrainGroups': WHATEVER THE INPUT: true; the input reads as it did. -/
def grainGroupsSpec : ChangeSpec := { name := "grainGroups", fn := fun _ => fun
  | [d1, d2, d3, d4, d5] => { results := [.lit (.bool true)], args := [d1, d2, d3, d4, d5] }
  | _ => none }
def grainGroupsRow : OpenClaim := { program := "ytkbjgkkdmimmnaa", sum := "d5959ea0c5510b042501a240620e42ed35a4c01724905cad3b611446dbcad2b8", func := "rickyard/rickyardlaw03.GrainGroups", spec := "grainGroups", apart := false }
def GrainGroupsSaid : Prop := grainGroupsRow.holds Try.pinned (OpenSpec.ofChange grainGroupsSpec)

/-- ITS FALSE NEIGHBOUR: 'it returns false'. Refute it at one input. -/
def grainGroupsWrong : ChangeSpec := { name := "grainGroups", fn := fun _ => fun
  | [d1, d2, d3, d4, d5] => { results := [.lit (.bool false)], args := [d1, d2, d3, d4, d5] }
  | _ => none }
def GrainGroupsWrongFalsely : Prop := grainGroupsRow.holds Try.pinned (OpenSpec.ofChange grainGroupsWrong)

/-- 'rickyardlaw03.GrainRight': WHATEVER THE INPUT: true; the input reads as it did. -/
def grainRightSpec : ChangeSpec := { name := "grainRight", fn := fun _ => fun
  | [d1, d2, d3] => { results := [.lit (.bool true)], args := [d1, d2, d3] }
  | _ => none }
def grainRightRow : OpenClaim := { program := "ytkbjgkkdmimmnaa", sum := "d5959ea0c5510b042501a240620e42ed35a4c01724905cad3b611446dbcad2b8", func := "rickyard/rickyardlaw03.GrainRight", spec := "grainRight", apart := false }
def GrainRightSaid : Prop := grainRightRow.holds Try.pinned (OpenSpec.ofChange grainRightSpec)

/-- ITS FALSE NEIGHBOUR: 'it returns false'. Refute it at one input. -/
def grainRightWrong : ChangeSpec := { name := "grainRight", fn := fun _ => fun
  | [d1, d2, d3] => { results := [.lit (.bool false)], args := [d1, d2, d3] }
  | _ => none }
def GrainRightWrongFalsely : Prop := grainRightRow.holds Try.pinned (OpenSpec.ofChange grainRightWrong)

/-- 'rickyardlaw03.GrainEnds': WHATEVER THE INPUT: true; the input reads as it did. -/
def grainEndsSpec : ChangeSpec := { name := "grainEnds", fn := fun _ => fun
  | [d1, d2, d3] => { results := [.lit (.bool true)], args := [d1, d2, d3] }
  | _ => none }
def grainEndsRow : OpenClaim := { program := "ytkbjgkkdmimmnaa", sum := "d5959ea0c5510b042501a240620e42ed35a4c01724905cad3b611446dbcad2b8", func := "rickyard/rickyardlaw03.GrainEnds", spec := "grainEnds", apart := false }
def GrainEndsSaid : Prop := grainEndsRow.holds Try.pinned (OpenSpec.ofChange grainEndsSpec)

/-- ITS FALSE NEIGHBOUR: 'it returns false'. Refute it at one input. -/
def grainEndsWrong : ChangeSpec := { name := "grainEnds", fn := fun _ => fun
  | [d1, d2, d3] => { results := [.lit (.bool false)], args := [d1, d2, d3] }
  | _ => none }
def GrainEndsWrongFalsely : Prop := grainEndsRow.holds Try.pinned (OpenSpec.ofChange grainEndsWrong)

/-- 'rickyardlaw03.GrainWhole': WHATEVER THE INPUT: true; the input reads as it did. -/
def grainWholeSpec : ChangeSpec := { name := "grainWhole", fn := fun _ => fun
  | [d1, d2, d3, d4] => { results := [.lit (.bool true)], args := [d1, d2, d3, d4] }
  | _ => none }
def grainWholeRow : OpenClaim := { program := "ytkbjgkkdmimmnaa", sum := "d5959ea0c5510b042501a240620e42ed35a4c01724905cad3b611446dbcad2b8", func := "rickyard/rickyardlaw03.GrainWhole", spec := "grainWhole", apart := false }
def GrainWholeSaid : Prop := grainWholeRow.holds Try.pinned (OpenSpec.ofChange grainWholeSpec)

/-- ITS FALSE NEIGHBOUR: 'it returns false'. Refute it at one input. -/
def grainWholeWrong : ChangeSpec := { name := "grainWhole", fn := fun _ => fun
  | [d1, d2, d3, d4] => { results := [.lit (.bool false)], args := [d1, d2, d3, d4] }
  | _ => none }
def GrainWholeWrongFalsely : Prop := grainWholeRow.holds Try.pinned (OpenSpec.ofChange grainWholeWrong)

/-- 'rickyardlaw03.GrainAges': WHATEVER THE INPUT: true; the input reads as it did. -/
def grainAgesSpec : ChangeSpec := { name := "grainAges", fn := fun _ => fun
  | [d1, d2, d3] => { results := [.lit (.bool true)], args := [d1, d2, d3] }
  | _ => none }
def grainAgesRow : OpenClaim := { program := "ytkbjgkkdmimmnaa", sum := "d5959ea0c5510b042501a240620e42ed35a4c01724905cad3b611446dbcad2b8", func := "rickyard/rickyardlaw03.GrainAges", spec := "grainAges", apart := false }
def GrainAgesSaid : Prop := grainAgesRow.holds Try.pinned (OpenSpec.ofChange grainAgesSpec)

/-- ITS FALSE NEIGHBOUR: 'it returns false'. Refute it at one input. -/
def grainAgesWrong : ChangeSpec := { name := "grainAges", fn := fun _ => fun
  | [d1, d2, d3] => { results := [.lit (.bool false)], args := [d1, d2, d3] }
  | _ => none }
def GrainAgesWrongFalsely : Prop := grainAgesRow.holds Try.pinned (OpenSpec.ofChange grainAgesWrong)

/-- 'rickyardlaw03.GrainNested': WHATEVER THE INPUT: true; the input reads as it did. -/
def grainNestedSpec : ChangeSpec := { name := "grainNested", fn := fun _ => fun
  | [d1, d2, d3] => { results := [.lit (.bool true)], args := [d1, d2, d3] }
  | _ => none }
def grainNestedRow : OpenClaim := { program := "ytkbjgkkdmimmnaa", sum := "d5959ea0c5510b042501a240620e42ed35a4c01724905cad3b611446dbcad2b8", func := "rickyard/rickyardlaw03.GrainNested", spec := "grainNested", apart := false }
def GrainNestedSaid : Prop := grainNestedRow.holds Try.pinned (OpenSpec.ofChange grainNestedSpec)

/-- ITS FALSE NEIGHBOUR: 'it returns false'. Refute it at one input. -/
def grainNestedWrong : ChangeSpec := { name := "grainNested", fn := fun _ => fun
  | [d1, d2, d3] => { results := [.lit (.bool false)], args := [d1, d2, d3] }
  | _ => none }
def GrainNestedWrongFalsely : Prop := grainNestedRow.holds Try.pinned (OpenSpec.ofChange grainNestedWrong)

/- THE SECOND FORM. 'bulk': how many values and letters a reading holds, each counted each time it is reached (what is shared counts as often as it is met; a slice's spare places count too). A statement '..UptoSaid' is the law's where the arguments, and the package variables that the reading takes, are together of bulk at most 1048576: NARROWER than '..Said'. Prove '..Said' where nothing that the law and all that it calls make is longer than what came in: it says more and counts as full. Else prove '..UptoSaid'. A law counts once. -/
mutual
def uptoBulk {H : Type} : DataW H → Nat
  | .lit (.string bytes) => bytes.length + 1
  | .lit _ => 1
  | .nil => 1
  | .ptr d => uptoBulk d + 1
  | .slice elems spare => uptoBulkAll elems + uptoBulkAll spare + 1
  | .agg parts => uptoBulkAll parts + 1
  | .iface _ d => uptoBulk d + 1
  | .map entries => uptoBulkEntries entries + 1
  | .held _ => 1
def uptoBulkAll {H : Type} : List (DataW H) → Nat
  | [] => 0
  | d :: r => uptoBulk d + uptoBulkAll r
def uptoBulkEntries {H : Type} : List (Lit × DataW H) → Nat
  | [] => 0
  | x :: r => uptoBulkEntry x + uptoBulkEntries r
def uptoBulkEntry {H : Type} : Lit × DataW H → Nat
  | (.string bytes, d) => bytes.length + uptoBulk d + 1
  | (_, d) => uptoBulk d + 1
 end
def uptoSmall : (H : Type) → List (DataW H) → Bool := fun _ ds => decide (uptoBulkAll ds ≤ 1048576)
def OpenSpec.upto (s : _root_.Go.ChangeSpec) : _root_.Go.OpenSpec := { _root_.Go.OpenSpec.ofChange s with cond := some uptoSmall }

/-- 'rickyardlaw03.GrainSteps', WHERE WHAT IT READS IS OF BULK AT MOST 1048576: true; the input reads as it did. -/
def grainStepsUptoRow : OpenClaim := { program := "ytkbjgkkdmimmnaa", sum := "d5959ea0c5510b042501a240620e42ed35a4c01724905cad3b611446dbcad2b8", func := "rickyard/rickyardlaw03.GrainSteps", spec := "grainSteps", apart := false, narrowed := true }
def GrainStepsUptoSaid : Prop := grainStepsUptoRow.holds Try.pinned (OpenSpec.upto grainStepsSpec)

/-- 'rickyardlaw03.GrainNever', WHERE WHAT IT READS IS OF BULK AT MOST 1048576: true; the input reads as it did. -/
def grainNeverUptoRow : OpenClaim := { program := "ytkbjgkkdmimmnaa", sum := "d5959ea0c5510b042501a240620e42ed35a4c01724905cad3b611446dbcad2b8", func := "rickyard/rickyardlaw03.GrainNever", spec := "grainNever", apart := false, narrowed := true }
def GrainNeverUptoSaid : Prop := grainNeverUptoRow.holds Try.pinned (OpenSpec.upto grainNeverSpec)

/-- 'rickyardlaw03.GrainGroups', WHERE WHAT IT READS IS OF BULK AT MOST 1048576: true; the input reads as it did. -/
def grainGroupsUptoRow : OpenClaim := { program := "ytkbjgkkdmimmnaa", sum := "d5959ea0c5510b042501a240620e42ed35a4c01724905cad3b611446dbcad2b8", func := "rickyard/rickyardlaw03.GrainGroups", spec := "grainGroups", apart := false, narrowed := true }
def GrainGroupsUptoSaid : Prop := grainGroupsUptoRow.holds Try.pinned (OpenSpec.upto grainGroupsSpec)

/-- 'rickyardlaw03.GrainRight', WHERE WHAT IT READS IS OF BULK AT MOST 1048576: true; the input reads as it did. -/
def grainRightUptoRow : OpenClaim := { program := "ytkbjgkkdmimmnaa", sum := "d5959ea0c5510b042501a240620e42ed35a4c01724905cad3b611446dbcad2b8", func := "rickyard/rickyardlaw03.GrainRight", spec := "grainRight", apart := false, narrowed := true }
def GrainRightUptoSaid : Prop := grainRightUptoRow.holds Try.pinned (OpenSpec.upto grainRightSpec)

/-- 'rickyardlaw03.GrainEnds', WHERE WHAT IT READS IS OF BULK AT MOST 1048576: true; the input reads as it did. -/
def grainEndsUptoRow : OpenClaim := { program := "ytkbjgkkdmimmnaa", sum := "d5959ea0c5510b042501a240620e42ed35a4c01724905cad3b611446dbcad2b8", func := "rickyard/rickyardlaw03.GrainEnds", spec := "grainEnds", apart := false, narrowed := true }
def GrainEndsUptoSaid : Prop := grainEndsUptoRow.holds Try.pinned (OpenSpec.upto grainEndsSpec)

/-- 'rickyardlaw03.GrainWhole', WHERE WHAT IT READS IS OF BULK AT MOST 1048576: true; the input reads as it did. -/
def grainWholeUptoRow : OpenClaim := { program := "ytkbjgkkdmimmnaa", sum := "d5959ea0c5510b042501a240620e42ed35a4c01724905cad3b611446dbcad2b8", func := "rickyard/rickyardlaw03.GrainWhole", spec := "grainWhole", apart := false, narrowed := true }
def GrainWholeUptoSaid : Prop := grainWholeUptoRow.holds Try.pinned (OpenSpec.upto grainWholeSpec)

/-- 'rickyardlaw03.GrainAges', WHERE WHAT IT READS IS OF BULK AT MOST 1048576: true; the input reads as it did. -/
def grainAgesUptoRow : OpenClaim := { program := "ytkbjgkkdmimmnaa", sum := "d5959ea0c5510b042501a240620e42ed35a4c01724905cad3b611446dbcad2b8", func := "rickyard/rickyardlaw03.GrainAges", spec := "grainAges", apart := false, narrowed := true }
def GrainAgesUptoSaid : Prop := grainAgesUptoRow.holds Try.pinned (OpenSpec.upto grainAgesSpec)

/-- 'rickyardlaw03.GrainNested', WHERE WHAT IT READS IS OF BULK AT MOST 1048576: true; the input reads as it did. -/
def grainNestedUptoRow : OpenClaim := { program := "ytkbjgkkdmimmnaa", sum := "d5959ea0c5510b042501a240620e42ed35a4c01724905cad3b611446dbcad2b8", func := "rickyard/rickyardlaw03.GrainNested", spec := "grainNested", apart := false, narrowed := true }
def GrainNestedUptoSaid : Prop := grainNestedUptoRow.holds Try.pinned (OpenSpec.upto grainNestedSpec)

end Rows
end Go.Proofs.Ytkbjgkkdmimmnaa
