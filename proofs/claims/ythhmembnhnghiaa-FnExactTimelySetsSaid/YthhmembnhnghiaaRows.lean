/-
  No cell of these rows narrows 'for every input' (looked for: loops, veiled, ifaces, maps, wideKeys, modest, calm, conditions, laid).
  DERIVED. THE GIVEN ROWS OF THIS SEAT. 12 by the template 'for every input the law returns true; each argument reads behind the call as it read before'; 0 by the template 'total and deterministic' (their statements: YthhmembnhnghiaaTotals.lean).
  GIVEN WITH THE SEED: the statements are not yours to turn. If you find one false, say at which input.
  Laid BY PROGRAM, IN A SANDBOX (cutbox-rows.mjs): the forced cells as the released guide's own fill.sh prints them over the translation ad06e51aa43e21b6… (all of the seat's roots in one cut). By AI agents, Wed Nov 11 2026. No macro, syntax, notation, axiom, sorry.
-/
import Derived.Test.YthhmembnhnghiaaChecked
import GoSem.Claim
import GoSem.ClaimJoined
import GoSem.ClaimMapViews
import Derived.JoinedTies
import Derived.KernelRfl
namespace Go.Proofs.Ythhmembnhnghiaa
/- THE CELL 'sum', in the pinned program and in every row, IS THE sha256 OF THE DUMP (.gsa) THAT YthhmembnhnghiaaProg.lean LOADS. Nothing in Lean hashes anything: it is a label: what it is worth is what the hold of that sum in a sandbox is worth. -/
noncomputable def Try.pinned : Pinned := { name := "ythhmembnhnghiaa", sum := "ad06e51aa43e21b6c56a1f0525e88ff4fe2989e7492ea1eb1f37a4244bf8d9d8", checked := Try.checked }
namespace Rows
def none {H : Type} : Left H := { results := [], args := [] }

/-- 'laws.FnExactLeastLateWeight': WHATEVER THE INPUT: true; the input reads as it did. -/
def fnExactLeastLateWeightSpec : ChangeSpec := { name := "fnExactLeastLateWeight", fn := fun _ => fun
  | [d] => { results := [.lit (.bool true)], args := [d] }
  | _ => none }
def fnExactLeastLateWeightRow : OpenClaim := { program := "ythhmembnhnghiaa", sum := "ad06e51aa43e21b6c56a1f0525e88ff4fe2989e7492ea1eb1f37a4244bf8d9d8", func := "loop.example/g01103/laws.FnExactLeastLateWeight", spec := "fnExactLeastLateWeight", unfollowed := true, recurses := true, apart := false }
def FnExactLeastLateWeightSaid : Prop := fnExactLeastLateWeightRow.holds Try.pinned (OpenSpec.ofChange fnExactLeastLateWeightSpec)

/-- ITS FALSE NEIGHBOUR: 'it returns false'. Refute it at one input. -/
def fnExactLeastLateWeightWrong : ChangeSpec := { name := "fnExactLeastLateWeight", fn := fun _ => fun
  | [d] => { results := [.lit (.bool false)], args := [d] }
  | _ => none }
def FnExactLeastLateWeightWrongFalsely : Prop := fnExactLeastLateWeightRow.holds Try.pinned (OpenSpec.ofChange fnExactLeastLateWeightWrong)

/-- 'laws.FnExactTieGroups': WHATEVER THE INPUT: true; the input reads as it did. -/
def fnExactTieGroupsSpec : ChangeSpec := { name := "fnExactTieGroups", fn := fun _ => fun
  | [d1, d2] => { results := [.lit (.bool true)], args := [d1, d2] }
  | _ => none }
def fnExactTieGroupsRow : OpenClaim := { program := "ythhmembnhnghiaa", sum := "ad06e51aa43e21b6c56a1f0525e88ff4fe2989e7492ea1eb1f37a4244bf8d9d8", func := "loop.example/g01103/laws.FnExactTieGroups", spec := "fnExactTieGroups", unfollowed := true, recurses := true, apart := false }
def FnExactTieGroupsSaid : Prop := fnExactTieGroupsRow.holds Try.pinned (OpenSpec.ofChange fnExactTieGroupsSpec)

/-- ITS FALSE NEIGHBOUR: 'it returns false'. Refute it at one input. -/
def fnExactTieGroupsWrong : ChangeSpec := { name := "fnExactTieGroups", fn := fun _ => fun
  | [d1, d2] => { results := [.lit (.bool false)], args := [d1, d2] }
  | _ => none }
def FnExactTieGroupsWrongFalsely : Prop := fnExactTieGroupsRow.holds Try.pinned (OpenSpec.ofChange fnExactTieGroupsWrong)

/-- 'laws.FnExactSetValues': WHATEVER THE INPUT: true; the input reads as it did. -/
def fnExactSetValuesSpec : ChangeSpec := { name := "fnExactSetValues", fn := fun _ => fun
  | [d1, d2] => { results := [.lit (.bool true)], args := [d1, d2] }
  | _ => none }
def fnExactSetValuesRow : OpenClaim := { program := "ythhmembnhnghiaa", sum := "ad06e51aa43e21b6c56a1f0525e88ff4fe2989e7492ea1eb1f37a4244bf8d9d8", func := "loop.example/g01103/laws.FnExactSetValues", spec := "fnExactSetValues", apart := false }
def FnExactSetValuesSaid : Prop := fnExactSetValuesRow.holds Try.pinned (OpenSpec.ofChange fnExactSetValuesSpec)

/-- ITS FALSE NEIGHBOUR: 'it returns false'. Refute it at one input. -/
def fnExactSetValuesWrong : ChangeSpec := { name := "fnExactSetValues", fn := fun _ => fun
  | [d1, d2] => { results := [.lit (.bool false)], args := [d1, d2] }
  | _ => none }
def FnExactSetValuesWrongFalsely : Prop := fnExactSetValuesRow.holds Try.pinned (OpenSpec.ofChange fnExactSetValuesWrong)

/-- 'laws.FnExactSplitValue': WHATEVER THE INPUT: true; the input reads as it did. -/
def fnExactSplitValueSpec : ChangeSpec := { name := "fnExactSplitValue", fn := fun _ => fun
  | [d1, d2, d3] => { results := [.lit (.bool true)], args := [d1, d2, d3] }
  | _ => none }
def fnExactSplitValueRow : OpenClaim := { program := "ythhmembnhnghiaa", sum := "ad06e51aa43e21b6c56a1f0525e88ff4fe2989e7492ea1eb1f37a4244bf8d9d8", func := "loop.example/g01103/laws.FnExactSplitValue", spec := "fnExactSplitValue", apart := false }
def FnExactSplitValueSaid : Prop := fnExactSplitValueRow.holds Try.pinned (OpenSpec.ofChange fnExactSplitValueSpec)

/-- ITS FALSE NEIGHBOUR: 'it returns false'. Refute it at one input. -/
def fnExactSplitValueWrong : ChangeSpec := { name := "fnExactSplitValue", fn := fun _ => fun
  | [d1, d2, d3] => { results := [.lit (.bool false)], args := [d1, d2, d3] }
  | _ => none }
def FnExactSplitValueWrongFalsely : Prop := fnExactSplitValueRow.holds Try.pinned (OpenSpec.ofChange fnExactSplitValueWrong)

/-- 'laws.FnExactWeightTable': WHATEVER THE INPUT: true; the input reads as it did. -/
def fnExactWeightTableSpec : ChangeSpec := { name := "fnExactWeightTable", fn := fun _ => fun
  | [d] => { results := [.lit (.bool true)], args := [d] }
  | _ => none }
def fnExactWeightTableRow : OpenClaim := { program := "ythhmembnhnghiaa", sum := "ad06e51aa43e21b6c56a1f0525e88ff4fe2989e7492ea1eb1f37a4244bf8d9d8", func := "loop.example/g01103/laws.FnExactWeightTable", spec := "fnExactWeightTable", unfollowed := true, recurses := true, apart := false }
def FnExactWeightTableSaid : Prop := fnExactWeightTableRow.holds Try.pinned (OpenSpec.ofChange fnExactWeightTableSpec)

/-- ITS FALSE NEIGHBOUR: 'it returns false'. Refute it at one input. -/
def fnExactWeightTableWrong : ChangeSpec := { name := "fnExactWeightTable", fn := fun _ => fun
  | [d] => { results := [.lit (.bool false)], args := [d] }
  | _ => none }
def FnExactWeightTableWrongFalsely : Prop := fnExactWeightTableRow.holds Try.pinned (OpenSpec.ofChange fnExactWeightTableWrong)

/-- 'laws.FnExactEarliestLatest': WHATEVER THE INPUT: true; the input reads as it did. -/
def fnExactEarliestLatestSpec : ChangeSpec := { name := "fnExactEarliestLatest", fn := fun _ => fun
  | [d] => { results := [.lit (.bool true)], args := [d] }
  | _ => none }
def fnExactEarliestLatestRow : OpenClaim := { program := "ythhmembnhnghiaa", sum := "ad06e51aa43e21b6c56a1f0525e88ff4fe2989e7492ea1eb1f37a4244bf8d9d8", func := "loop.example/g01103/laws.FnExactEarliestLatest", spec := "fnExactEarliestLatest", unfollowed := true, recurses := true, apart := false }
def FnExactEarliestLatestSaid : Prop := fnExactEarliestLatestRow.holds Try.pinned (OpenSpec.ofChange fnExactEarliestLatestSpec)

/-- ITS FALSE NEIGHBOUR: 'it returns false'. Refute it at one input. -/
def fnExactEarliestLatestWrong : ChangeSpec := { name := "fnExactEarliestLatest", fn := fun _ => fun
  | [d] => { results := [.lit (.bool false)], args := [d] }
  | _ => none }
def FnExactEarliestLatestWrongFalsely : Prop := fnExactEarliestLatestRow.holds Try.pinned (OpenSpec.ofChange fnExactEarliestLatestWrong)

/-- 'laws.FnExactLateSteps': WHATEVER THE INPUT: true; the input reads as it did. -/
def fnExactLateStepsSpec : ChangeSpec := { name := "fnExactLateSteps", fn := fun _ => fun
  | [d] => { results := [.lit (.bool true)], args := [d] }
  | _ => none }
def fnExactLateStepsRow : OpenClaim := { program := "ythhmembnhnghiaa", sum := "ad06e51aa43e21b6c56a1f0525e88ff4fe2989e7492ea1eb1f37a4244bf8d9d8", func := "loop.example/g01103/laws.FnExactLateSteps", spec := "fnExactLateSteps", unfollowed := true, recurses := true, apart := false }
def FnExactLateStepsSaid : Prop := fnExactLateStepsRow.holds Try.pinned (OpenSpec.ofChange fnExactLateStepsSpec)

/-- ITS FALSE NEIGHBOUR: 'it returns false'. Refute it at one input. -/
def fnExactLateStepsWrong : ChangeSpec := { name := "fnExactLateSteps", fn := fun _ => fun
  | [d] => { results := [.lit (.bool false)], args := [d] }
  | _ => none }
def FnExactLateStepsWrongFalsely : Prop := fnExactLateStepsRow.holds Try.pinned (OpenSpec.ofChange fnExactLateStepsWrong)

/-- 'laws.FnExactCountBest': WHATEVER THE INPUT: true; the input reads as it did. -/
def fnExactCountBestSpec : ChangeSpec := { name := "fnExactCountBest", fn := fun _ => fun
  | [d1, d2] => { results := [.lit (.bool true)], args := [d1, d2] }
  | _ => none }
def fnExactCountBestRow : OpenClaim := { program := "ythhmembnhnghiaa", sum := "ad06e51aa43e21b6c56a1f0525e88ff4fe2989e7492ea1eb1f37a4244bf8d9d8", func := "loop.example/g01103/laws.FnExactCountBest", spec := "fnExactCountBest", unfollowed := true, recurses := true, apart := false }
def FnExactCountBestSaid : Prop := fnExactCountBestRow.holds Try.pinned (OpenSpec.ofChange fnExactCountBestSpec)

/-- ITS FALSE NEIGHBOUR: 'it returns false'. Refute it at one input. -/
def fnExactCountBestWrong : ChangeSpec := { name := "fnExactCountBest", fn := fun _ => fun
  | [d1, d2] => { results := [.lit (.bool false)], args := [d1, d2] }
  | _ => none }
def FnExactCountBestWrongFalsely : Prop := fnExactCountBestRow.holds Try.pinned (OpenSpec.ofChange fnExactCountBestWrong)

/-- 'laws.FnExactBestValue': WHATEVER THE INPUT: true; the input reads as it did. -/
def fnExactBestValueSpec : ChangeSpec := { name := "fnExactBestValue", fn := fun _ => fun
  | [d1, d2] => { results := [.lit (.bool true)], args := [d1, d2] }
  | _ => none }
def fnExactBestValueRow : OpenClaim := { program := "ythhmembnhnghiaa", sum := "ad06e51aa43e21b6c56a1f0525e88ff4fe2989e7492ea1eb1f37a4244bf8d9d8", func := "loop.example/g01103/laws.FnExactBestValue", spec := "fnExactBestValue", unfollowed := true, recurses := true, apart := false }
def FnExactBestValueSaid : Prop := fnExactBestValueRow.holds Try.pinned (OpenSpec.ofChange fnExactBestValueSpec)

/-- ITS FALSE NEIGHBOUR: 'it returns false'. Refute it at one input. -/
def fnExactBestValueWrong : ChangeSpec := { name := "fnExactBestValue", fn := fun _ => fun
  | [d1, d2] => { results := [.lit (.bool false)], args := [d1, d2] }
  | _ => none }
def FnExactBestValueWrongFalsely : Prop := fnExactBestValueRow.holds Try.pinned (OpenSpec.ofChange fnExactBestValueWrong)

/-- 'laws.FnExactSetOrder': WHATEVER THE INPUT: true; the input reads as it did. -/
def fnExactSetOrderSpec : ChangeSpec := { name := "fnExactSetOrder", fn := fun _ => fun
  | [d1, d2] => { results := [.lit (.bool true)], args := [d1, d2] }
  | _ => none }
def fnExactSetOrderRow : OpenClaim := { program := "ythhmembnhnghiaa", sum := "ad06e51aa43e21b6c56a1f0525e88ff4fe2989e7492ea1eb1f37a4244bf8d9d8", func := "loop.example/g01103/laws.FnExactSetOrder", spec := "fnExactSetOrder", apart := false }
def FnExactSetOrderSaid : Prop := fnExactSetOrderRow.holds Try.pinned (OpenSpec.ofChange fnExactSetOrderSpec)

/-- ITS FALSE NEIGHBOUR: 'it returns false'. Refute it at one input. -/
def fnExactSetOrderWrong : ChangeSpec := { name := "fnExactSetOrder", fn := fun _ => fun
  | [d1, d2] => { results := [.lit (.bool false)], args := [d1, d2] }
  | _ => none }
def FnExactSetOrderWrongFalsely : Prop := fnExactSetOrderRow.holds Try.pinned (OpenSpec.ofChange fnExactSetOrderWrong)

/-- 'laws.FnExactLeftAfter': WHATEVER THE INPUT: true; the input reads as it did. -/
def fnExactLeftAfterSpec : ChangeSpec := { name := "fnExactLeftAfter", fn := fun _ => fun
  | [d1, d2] => { results := [.lit (.bool true)], args := [d1, d2] }
  | _ => none }
def fnExactLeftAfterRow : OpenClaim := { program := "ythhmembnhnghiaa", sum := "ad06e51aa43e21b6c56a1f0525e88ff4fe2989e7492ea1eb1f37a4244bf8d9d8", func := "loop.example/g01103/laws.FnExactLeftAfter", spec := "fnExactLeftAfter", unfollowed := true, recurses := true, apart := false }
def FnExactLeftAfterSaid : Prop := fnExactLeftAfterRow.holds Try.pinned (OpenSpec.ofChange fnExactLeftAfterSpec)

/-- ITS FALSE NEIGHBOUR: 'it returns false'. Refute it at one input. -/
def fnExactLeftAfterWrong : ChangeSpec := { name := "fnExactLeftAfter", fn := fun _ => fun
  | [d1, d2] => { results := [.lit (.bool false)], args := [d1, d2] }
  | _ => none }
def FnExactLeftAfterWrongFalsely : Prop := fnExactLeftAfterRow.holds Try.pinned (OpenSpec.ofChange fnExactLeftAfterWrong)

/-- 'laws.FnExactTimelySets': WHATEVER THE INPUT: true; the input reads as it did. -/
def fnExactTimelySetsSpec : ChangeSpec := { name := "fnExactTimelySets", fn := fun _ => fun
  | [d] => { results := [.lit (.bool true)], args := [d] }
  | _ => none }
def fnExactTimelySetsRow : OpenClaim := { program := "ythhmembnhnghiaa", sum := "ad06e51aa43e21b6c56a1f0525e88ff4fe2989e7492ea1eb1f37a4244bf8d9d8", func := "loop.example/g01103/laws.FnExactTimelySets", spec := "fnExactTimelySets", unfollowed := true, recurses := true, apart := false }
def FnExactTimelySetsSaid : Prop := fnExactTimelySetsRow.holds Try.pinned (OpenSpec.ofChange fnExactTimelySetsSpec)

/-- ITS FALSE NEIGHBOUR: 'it returns false'. Refute it at one input. -/
def fnExactTimelySetsWrong : ChangeSpec := { name := "fnExactTimelySets", fn := fun _ => fun
  | [d] => { results := [.lit (.bool false)], args := [d] }
  | _ => none }
def FnExactTimelySetsWrongFalsely : Prop := fnExactTimelySetsRow.holds Try.pinned (OpenSpec.ofChange fnExactTimelySetsWrong)

/- THE SECOND FORM. 'bulk': how many values and letters a reading holds, each counted each time it is reached (what is shared counts as often as it is met; a slice's spare places count too). A statement '..UptoSaid' is the law's where the arguments, and the package variables that the reading takes, are together of bulk at most 1048576: NARROWER than '..Said'. Prove '..Said' where nothing that the law and all that it calls make is longer than what came in: it says more and counts as full. Else prove '..UptoSaid'. A law counts once. -/
mutual
def uptoBulk {H : Type} : DataW H → Nat
  | .lit (.string bytes) => bytes.length + 1
  | .lit _ => 1
  | .nil => 1
  | .ptr d => uptoBulk d + 1
  | .slice elems spare => uptoBulkAll elems + uptoBulkAll spare + 1
  | .agg parts => uptoBulkAll parts + 1
  | .iface _ d => uptoBulk d + 1
  | .map entries => uptoBulkEntries entries + 1
  | .held _ => 1
def uptoBulkAll {H : Type} : List (DataW H) → Nat
  | [] => 0
  | d :: r => uptoBulk d + uptoBulkAll r
def uptoBulkEntries {H : Type} : List (Lit × DataW H) → Nat
  | [] => 0
  | x :: r => uptoBulkEntry x + uptoBulkEntries r
def uptoBulkEntry {H : Type} : Lit × DataW H → Nat
  | (.string bytes, d) => bytes.length + uptoBulk d + 1
  | (_, d) => uptoBulk d + 1
 end
def uptoSmall : (H : Type) → List (DataW H) → Bool := fun _ ds => decide (uptoBulkAll ds ≤ 1048576)
def OpenSpec.upto (s : _root_.Go.ChangeSpec) : _root_.Go.OpenSpec := { _root_.Go.OpenSpec.ofChange s with cond := some uptoSmall }

/-- 'laws.FnExactLeastLateWeight', WHERE WHAT IT READS IS OF BULK AT MOST 1048576: true; the input reads as it did. -/
def fnExactLeastLateWeightUptoRow : OpenClaim := { program := "ythhmembnhnghiaa", sum := "ad06e51aa43e21b6c56a1f0525e88ff4fe2989e7492ea1eb1f37a4244bf8d9d8", func := "loop.example/g01103/laws.FnExactLeastLateWeight", spec := "fnExactLeastLateWeight", unfollowed := true, recurses := true, apart := false, narrowed := true }
def FnExactLeastLateWeightUptoSaid : Prop := fnExactLeastLateWeightUptoRow.holds Try.pinned (OpenSpec.upto fnExactLeastLateWeightSpec)

/-- 'laws.FnExactTieGroups', WHERE WHAT IT READS IS OF BULK AT MOST 1048576: true; the input reads as it did. -/
def fnExactTieGroupsUptoRow : OpenClaim := { program := "ythhmembnhnghiaa", sum := "ad06e51aa43e21b6c56a1f0525e88ff4fe2989e7492ea1eb1f37a4244bf8d9d8", func := "loop.example/g01103/laws.FnExactTieGroups", spec := "fnExactTieGroups", unfollowed := true, recurses := true, apart := false, narrowed := true }
def FnExactTieGroupsUptoSaid : Prop := fnExactTieGroupsUptoRow.holds Try.pinned (OpenSpec.upto fnExactTieGroupsSpec)

/-- 'laws.FnExactSetValues', WHERE WHAT IT READS IS OF BULK AT MOST 1048576: true; the input reads as it did. -/
def fnExactSetValuesUptoRow : OpenClaim := { program := "ythhmembnhnghiaa", sum := "ad06e51aa43e21b6c56a1f0525e88ff4fe2989e7492ea1eb1f37a4244bf8d9d8", func := "loop.example/g01103/laws.FnExactSetValues", spec := "fnExactSetValues", apart := false, narrowed := true }
def FnExactSetValuesUptoSaid : Prop := fnExactSetValuesUptoRow.holds Try.pinned (OpenSpec.upto fnExactSetValuesSpec)

/-- 'laws.FnExactSplitValue', WHERE WHAT IT READS IS OF BULK AT MOST 1048576: true; the input reads as it did. -/
def fnExactSplitValueUptoRow : OpenClaim := { program := "ythhmembnhnghiaa", sum := "ad06e51aa43e21b6c56a1f0525e88ff4fe2989e7492ea1eb1f37a4244bf8d9d8", func := "loop.example/g01103/laws.FnExactSplitValue", spec := "fnExactSplitValue", apart := false, narrowed := true }
def FnExactSplitValueUptoSaid : Prop := fnExactSplitValueUptoRow.holds Try.pinned (OpenSpec.upto fnExactSplitValueSpec)

/-- 'laws.FnExactWeightTable', WHERE WHAT IT READS IS OF BULK AT MOST 1048576: true; the input reads as it did. -/
def fnExactWeightTableUptoRow : OpenClaim := { program := "ythhmembnhnghiaa", sum := "ad06e51aa43e21b6c56a1f0525e88ff4fe2989e7492ea1eb1f37a4244bf8d9d8", func := "loop.example/g01103/laws.FnExactWeightTable", spec := "fnExactWeightTable", unfollowed := true, recurses := true, apart := false, narrowed := true }
def FnExactWeightTableUptoSaid : Prop := fnExactWeightTableUptoRow.holds Try.pinned (OpenSpec.upto fnExactWeightTableSpec)

/-- 'laws.FnExactEarliestLatest', WHERE WHAT IT READS IS OF BULK AT MOST 1048576: true; the input reads as it did. -/
def fnExactEarliestLatestUptoRow : OpenClaim := { program := "ythhmembnhnghiaa", sum := "ad06e51aa43e21b6c56a1f0525e88ff4fe2989e7492ea1eb1f37a4244bf8d9d8", func := "loop.example/g01103/laws.FnExactEarliestLatest", spec := "fnExactEarliestLatest", unfollowed := true, recurses := true, apart := false, narrowed := true }
def FnExactEarliestLatestUptoSaid : Prop := fnExactEarliestLatestUptoRow.holds Try.pinned (OpenSpec.upto fnExactEarliestLatestSpec)

/-- 'laws.FnExactLateSteps', WHERE WHAT IT READS IS OF BULK AT MOST 1048576: true; the input reads as it did. -/
def fnExactLateStepsUptoRow : OpenClaim := { program := "ythhmembnhnghiaa", sum := "ad06e51aa43e21b6c56a1f0525e88ff4fe2989e7492ea1eb1f37a4244bf8d9d8", func := "loop.example/g01103/laws.FnExactLateSteps", spec := "fnExactLateSteps", unfollowed := true, recurses := true, apart := false, narrowed := true }
def FnExactLateStepsUptoSaid : Prop := fnExactLateStepsUptoRow.holds Try.pinned (OpenSpec.upto fnExactLateStepsSpec)

/-- 'laws.FnExactCountBest', WHERE WHAT IT READS IS OF BULK AT MOST 1048576: true; the input reads as it did. -/
def fnExactCountBestUptoRow : OpenClaim := { program := "ythhmembnhnghiaa", sum := "ad06e51aa43e21b6c56a1f0525e88ff4fe2989e7492ea1eb1f37a4244bf8d9d8", func := "loop.example/g01103/laws.FnExactCountBest", spec := "fnExactCountBest", unfollowed := true, recurses := true, apart := false, narrowed := true }
def FnExactCountBestUptoSaid : Prop := fnExactCountBestUptoRow.holds Try.pinned (OpenSpec.upto fnExactCountBestSpec)

/-- 'laws.FnExactBestValue', WHERE WHAT IT READS IS OF BULK AT MOST 1048576: true; the input reads as it did. -/
def fnExactBestValueUptoRow : OpenClaim := { program := "ythhmembnhnghiaa", sum := "ad06e51aa43e21b6c56a1f0525e88ff4fe2989e7492ea1eb1f37a4244bf8d9d8", func := "loop.example/g01103/laws.FnExactBestValue", spec := "fnExactBestValue", unfollowed := true, recurses := true, apart := false, narrowed := true }
def FnExactBestValueUptoSaid : Prop := fnExactBestValueUptoRow.holds Try.pinned (OpenSpec.upto fnExactBestValueSpec)

/-- 'laws.FnExactSetOrder', WHERE WHAT IT READS IS OF BULK AT MOST 1048576: true; the input reads as it did. -/
def fnExactSetOrderUptoRow : OpenClaim := { program := "ythhmembnhnghiaa", sum := "ad06e51aa43e21b6c56a1f0525e88ff4fe2989e7492ea1eb1f37a4244bf8d9d8", func := "loop.example/g01103/laws.FnExactSetOrder", spec := "fnExactSetOrder", apart := false, narrowed := true }
def FnExactSetOrderUptoSaid : Prop := fnExactSetOrderUptoRow.holds Try.pinned (OpenSpec.upto fnExactSetOrderSpec)

/-- 'laws.FnExactLeftAfter', WHERE WHAT IT READS IS OF BULK AT MOST 1048576: true; the input reads as it did. -/
def fnExactLeftAfterUptoRow : OpenClaim := { program := "ythhmembnhnghiaa", sum := "ad06e51aa43e21b6c56a1f0525e88ff4fe2989e7492ea1eb1f37a4244bf8d9d8", func := "loop.example/g01103/laws.FnExactLeftAfter", spec := "fnExactLeftAfter", unfollowed := true, recurses := true, apart := false, narrowed := true }
def FnExactLeftAfterUptoSaid : Prop := fnExactLeftAfterUptoRow.holds Try.pinned (OpenSpec.upto fnExactLeftAfterSpec)

/-- 'laws.FnExactTimelySets', WHERE WHAT IT READS IS OF BULK AT MOST 1048576: true; the input reads as it did. -/
def fnExactTimelySetsUptoRow : OpenClaim := { program := "ythhmembnhnghiaa", sum := "ad06e51aa43e21b6c56a1f0525e88ff4fe2989e7492ea1eb1f37a4244bf8d9d8", func := "loop.example/g01103/laws.FnExactTimelySets", spec := "fnExactTimelySets", unfollowed := true, recurses := true, apart := false, narrowed := true }
def FnExactTimelySetsUptoSaid : Prop := fnExactTimelySetsUptoRow.holds Try.pinned (OpenSpec.upto fnExactTimelySetsSpec)

end Rows
end Go.Proofs.Ythhmembnhnghiaa
