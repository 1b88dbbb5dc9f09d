/-
  No cell of these rows narrows 'for every input' (looked for: loops, veiled, ifaces, maps, wideKeys, modest, calm, conditions, laid).
  DERIVED. THE GIVEN ROWS OF THIS SEAT. 11 by the template 'for every input the law returns true; each argument reads behind the call as it read before'; 0 by the template 'total and deterministic' (their statements: YtecdigebnhlfhaaTotals.lean).
  GIVEN WITH THE SEED: the statements are not yours to turn. If you find one false, say at which input.
  Laid BY PROGRAM, IN A SANDBOX (cutbox-rows.mjs): the forced cells as the released guide's own fill.sh prints them over the translation 92d1f7585572960c… (all of the seat's roots in one cut). By AI agents, Wed Nov 11 2026. No macro, syntax, notation, axiom, sorry.
-/
import Derived.Test.YtecdigebnhlfhaaChecked
import GoSem.Claim
import GoSem.ClaimJoined
import GoSem.ClaimMapViews
import Derived.JoinedTies
import Derived.KernelRfl
namespace Go.Proofs.Ytecdigebnhlfhaa
/- THE CELL 'sum', in the pinned program and in every row, IS THE sha256 OF THE DUMP (.gsa) THAT YtecdigebnhlfhaaProg.lean LOADS. Nothing in Lean hashes anything: it is a label: what it is worth is what the hold of that sum in a sandbox is worth. -/
noncomputable def Try.pinned : Pinned := { name := "ytecdigebnhlfhaa", sum := "92d1f7585572960c81f57231b684a242d4deeb97243ef7252638587b4fd42d17", checked := Try.checked }
namespace Rows
def none {H : Type} : Left H := { results := [], args := [] }

/-- 'laws.FnExactInitialSets': WHATEVER THE INPUT: true; the input reads as it did. -/
def fnExactInitialSetsSpec : ChangeSpec := { name := "fnExactInitialSets", fn := fun _ => fun
  | [d1, d2] => { results := [.lit (.bool true)], args := [d1, d2] }
  | _ => none }
def fnExactInitialSetsRow : OpenClaim := { program := "ytecdigebnhlfhaa", sum := "92d1f7585572960c81f57231b684a242d4deeb97243ef7252638587b4fd42d17", func := "loop.example/g01103/laws.FnExactInitialSets", spec := "fnExactInitialSets", apart := false }
def FnExactInitialSetsSaid : Prop := fnExactInitialSetsRow.holds Try.pinned (OpenSpec.ofChange fnExactInitialSetsSpec)

/-- ITS FALSE NEIGHBOUR: 'it returns false'. Refute it at one input. -/
def fnExactInitialSetsWrong : ChangeSpec := { name := "fnExactInitialSets", fn := fun _ => fun
  | [d1, d2] => { results := [.lit (.bool false)], args := [d1, d2] }
  | _ => none }
def FnExactInitialSetsWrongFalsely : Prop := fnExactInitialSetsRow.holds Try.pinned (OpenSpec.ofChange fnExactInitialSetsWrong)

/-- 'laws.FnExactAdjustedDates': WHATEVER THE INPUT: true; the input reads as it did. -/
def fnExactAdjustedDatesSpec : ChangeSpec := { name := "fnExactAdjustedDates", fn := fun _ => fun
  | [d1, d2] => { results := [.lit (.bool true)], args := [d1, d2] }
  | _ => none }
def fnExactAdjustedDatesRow : OpenClaim := { program := "ytecdigebnhlfhaa", sum := "92d1f7585572960c81f57231b684a242d4deeb97243ef7252638587b4fd42d17", func := "loop.example/g01103/laws.FnExactAdjustedDates", spec := "fnExactAdjustedDates", apart := false }
def FnExactAdjustedDatesSaid : Prop := fnExactAdjustedDatesRow.holds Try.pinned (OpenSpec.ofChange fnExactAdjustedDatesSpec)

/-- ITS FALSE NEIGHBOUR: 'it returns false'. Refute it at one input. -/
def fnExactAdjustedDatesWrong : ChangeSpec := { name := "fnExactAdjustedDates", fn := fun _ => fun
  | [d1, d2] => { results := [.lit (.bool false)], args := [d1, d2] }
  | _ => none }
def FnExactAdjustedDatesWrongFalsely : Prop := fnExactAdjustedDatesRow.holds Try.pinned (OpenSpec.ofChange fnExactAdjustedDatesWrong)

/-- 'laws.FnExactLabelsOf': WHATEVER THE INPUT: true; the input reads as it did. -/
def fnExactLabelsOfSpec : ChangeSpec := { name := "fnExactLabelsOf", fn := fun _ => fun
  | [d1, d2] => { results := [.lit (.bool true)], args := [d1, d2] }
  | _ => none }
def fnExactLabelsOfRow : OpenClaim := { program := "ytecdigebnhlfhaa", sum := "92d1f7585572960c81f57231b684a242d4deeb97243ef7252638587b4fd42d17", func := "loop.example/g01103/laws.FnExactLabelsOf", spec := "fnExactLabelsOf", unfollowed := true, recurses := true, apart := false }
def FnExactLabelsOfSaid : Prop := fnExactLabelsOfRow.holds Try.pinned (OpenSpec.ofChange fnExactLabelsOfSpec)

/-- ITS FALSE NEIGHBOUR: 'it returns false'. Refute it at one input. -/
def fnExactLabelsOfWrong : ChangeSpec := { name := "fnExactLabelsOf", fn := fun _ => fun
  | [d1, d2] => { results := [.lit (.bool false)], args := [d1, d2] }
  | _ => none }
def FnExactLabelsOfWrongFalsely : Prop := fnExactLabelsOfRow.holds Try.pinned (OpenSpec.ofChange fnExactLabelsOfWrong)

/-- 'laws.FnExactLengthBound': WHATEVER THE INPUT: true; the input reads as it did. -/
def fnExactLengthBoundSpec : ChangeSpec := { name := "fnExactLengthBound", fn := fun _ => fun
  | [d1, d2, d3] => { results := [.lit (.bool true)], args := [d1, d2, d3] }
  | _ => none }
def fnExactLengthBoundRow : OpenClaim := { program := "ytecdigebnhlfhaa", sum := "92d1f7585572960c81f57231b684a242d4deeb97243ef7252638587b4fd42d17", func := "loop.example/g01103/laws.FnExactLengthBound", spec := "fnExactLengthBound", recurses := true, apart := false }
def FnExactLengthBoundSaid : Prop := fnExactLengthBoundRow.holds Try.pinned (OpenSpec.ofChange fnExactLengthBoundSpec)

/-- ITS FALSE NEIGHBOUR: 'it returns false'. Refute it at one input. -/
def fnExactLengthBoundWrong : ChangeSpec := { name := "fnExactLengthBound", fn := fun _ => fun
  | [d1, d2, d3] => { results := [.lit (.bool false)], args := [d1, d2, d3] }
  | _ => none }
def FnExactLengthBoundWrongFalsely : Prop := fnExactLengthBoundRow.holds Try.pinned (OpenSpec.ofChange fnExactLengthBoundWrong)

/-- 'laws.FnExactTailsOf': WHATEVER THE INPUT: true; the input reads as it did. -/
def fnExactTailsOfSpec : ChangeSpec := { name := "fnExactTailsOf", fn := fun _ => fun
  | [d1, d2] => { results := [.lit (.bool true)], args := [d1, d2] }
  | _ => none }
def fnExactTailsOfRow : OpenClaim := { program := "ytecdigebnhlfhaa", sum := "92d1f7585572960c81f57231b684a242d4deeb97243ef7252638587b4fd42d17", func := "loop.example/g01103/laws.FnExactTailsOf", spec := "fnExactTailsOf", recurses := true, apart := false }
def FnExactTailsOfSaid : Prop := fnExactTailsOfRow.holds Try.pinned (OpenSpec.ofChange fnExactTailsOfSpec)

/-- ITS FALSE NEIGHBOUR: 'it returns false'. Refute it at one input. -/
def fnExactTailsOfWrong : ChangeSpec := { name := "fnExactTailsOf", fn := fun _ => fun
  | [d1, d2] => { results := [.lit (.bool false)], args := [d1, d2] }
  | _ => none }
def FnExactTailsOfWrongFalsely : Prop := fnExactTailsOfRow.holds Try.pinned (OpenSpec.ofChange fnExactTailsOfWrong)

/-- 'laws.FnExactIsPlan': WHATEVER THE INPUT: true; the input reads as it did. -/
def fnExactIsPlanSpec : ChangeSpec := { name := "fnExactIsPlan", fn := fun _ => fun
  | [d1, d2, d3, d4] => { results := [.lit (.bool true)], args := [d1, d2, d3, d4] }
  | _ => none }
def fnExactIsPlanRow : OpenClaim := { program := "ytecdigebnhlfhaa", sum := "92d1f7585572960c81f57231b684a242d4deeb97243ef7252638587b4fd42d17", func := "loop.example/g01103/laws.FnExactIsPlan", spec := "fnExactIsPlan", apart := false }
def FnExactIsPlanSaid : Prop := fnExactIsPlanRow.holds Try.pinned (OpenSpec.ofChange fnExactIsPlanSpec)

/-- ITS FALSE NEIGHBOUR: 'it returns false'. Refute it at one input. -/
def fnExactIsPlanWrong : ChangeSpec := { name := "fnExactIsPlan", fn := fun _ => fun
  | [d1, d2, d3, d4] => { results := [.lit (.bool false)], args := [d1, d2, d3, d4] }
  | _ => none }
def FnExactIsPlanWrongFalsely : Prop := fnExactIsPlanRow.holds Try.pinned (OpenSpec.ofChange fnExactIsPlanWrong)

/-- 'laws.FnExactBestOrder': WHATEVER THE INPUT: true; the input reads as it did. -/
def fnExactBestOrderSpec : ChangeSpec := { name := "fnExactBestOrder", fn := fun _ => fun
  | [d1, d2] => { results := [.lit (.bool true)], args := [d1, d2] }
  | _ => none }
def fnExactBestOrderRow : OpenClaim := { program := "ytecdigebnhlfhaa", sum := "92d1f7585572960c81f57231b684a242d4deeb97243ef7252638587b4fd42d17", func := "loop.example/g01103/laws.FnExactBestOrder", spec := "fnExactBestOrder", unfollowed := true, recurses := true, apart := false }
def FnExactBestOrderSaid : Prop := fnExactBestOrderRow.holds Try.pinned (OpenSpec.ofChange fnExactBestOrderSpec)

/-- ITS FALSE NEIGHBOUR: 'it returns false'. Refute it at one input. -/
def fnExactBestOrderWrong : ChangeSpec := { name := "fnExactBestOrder", fn := fun _ => fun
  | [d1, d2] => { results := [.lit (.bool false)], args := [d1, d2] }
  | _ => none }
def FnExactBestOrderWrongFalsely : Prop := fnExactBestOrderRow.holds Try.pinned (OpenSpec.ofChange fnExactBestOrderWrong)

/-- 'laws.FnExactIsShared': WHATEVER THE INPUT: true; the input reads as it did. -/
def fnExactIsSharedSpec : ChangeSpec := { name := "fnExactIsShared", fn := fun _ => fun
  | [d1, d2, d3] => { results := [.lit (.bool true)], args := [d1, d2, d3] }
  | _ => none }
def fnExactIsSharedRow : OpenClaim := { program := "ytecdigebnhlfhaa", sum := "92d1f7585572960c81f57231b684a242d4deeb97243ef7252638587b4fd42d17", func := "loop.example/g01103/laws.FnExactIsShared", spec := "fnExactIsShared", apart := false }
def FnExactIsSharedSaid : Prop := fnExactIsSharedRow.holds Try.pinned (OpenSpec.ofChange fnExactIsSharedSpec)

/-- ITS FALSE NEIGHBOUR: 'it returns false'. Refute it at one input. -/
def fnExactIsSharedWrong : ChangeSpec := { name := "fnExactIsShared", fn := fun _ => fun
  | [d1, d2, d3] => { results := [.lit (.bool false)], args := [d1, d2, d3] }
  | _ => none }
def FnExactIsSharedWrongFalsely : Prop := fnExactIsSharedRow.holds Try.pinned (OpenSpec.ofChange fnExactIsSharedWrong)

/-- 'laws.FnExactLastCostOrder': WHATEVER THE INPUT: true; the input reads as it did. -/
def fnExactLastCostOrderSpec : ChangeSpec := { name := "fnExactLastCostOrder", fn := fun _ => fun
  | [d1, d2] => { results := [.lit (.bool true)], args := [d1, d2] }
  | _ => none }
def fnExactLastCostOrderRow : OpenClaim := { program := "ytecdigebnhlfhaa", sum := "92d1f7585572960c81f57231b684a242d4deeb97243ef7252638587b4fd42d17", func := "loop.example/g01103/laws.FnExactLastCostOrder", spec := "fnExactLastCostOrder", apart := false }
def FnExactLastCostOrderSaid : Prop := fnExactLastCostOrderRow.holds Try.pinned (OpenSpec.ofChange fnExactLastCostOrderSpec)

/-- ITS FALSE NEIGHBOUR: 'it returns false'. Refute it at one input. -/
def fnExactLastCostOrderWrong : ChangeSpec := { name := "fnExactLastCostOrder", fn := fun _ => fun
  | [d1, d2] => { results := [.lit (.bool false)], args := [d1, d2] }
  | _ => none }
def FnExactLastCostOrderWrongFalsely : Prop := fnExactLastCostOrderRow.holds Try.pinned (OpenSpec.ofChange fnExactLastCostOrderWrong)

/-- 'laws.FnExactPlanLength': WHATEVER THE INPUT: true; the input reads as it did. -/
def fnExactPlanLengthSpec : ChangeSpec := { name := "fnExactPlanLength", fn := fun _ => fun
  | [d1, d2, d3, d4] => { results := [.lit (.bool true)], args := [d1, d2, d3, d4] }
  | _ => none }
def fnExactPlanLengthRow : OpenClaim := { program := "ytecdigebnhlfhaa", sum := "92d1f7585572960c81f57231b684a242d4deeb97243ef7252638587b4fd42d17", func := "loop.example/g01103/laws.FnExactPlanLength", spec := "fnExactPlanLength", apart := false }
def FnExactPlanLengthSaid : Prop := fnExactPlanLengthRow.holds Try.pinned (OpenSpec.ofChange fnExactPlanLengthSpec)

/-- ITS FALSE NEIGHBOUR: 'it returns false'. Refute it at one input. -/
def fnExactPlanLengthWrong : ChangeSpec := { name := "fnExactPlanLength", fn := fun _ => fun
  | [d1, d2, d3, d4] => { results := [.lit (.bool false)], args := [d1, d2, d3, d4] }
  | _ => none }
def FnExactPlanLengthWrongFalsely : Prop := fnExactPlanLengthRow.holds Try.pinned (OpenSpec.ofChange fnExactPlanLengthWrong)

/-- 'laws.FnExactTotalEnd': WHATEVER THE INPUT: true; the input reads as it did. -/
def fnExactTotalEndSpec : ChangeSpec := { name := "fnExactTotalEnd", fn := fun _ => fun
  | [d1, d2] => { results := [.lit (.bool true)], args := [d1, d2] }
  | _ => none }
def fnExactTotalEndRow : OpenClaim := { program := "ytecdigebnhlfhaa", sum := "92d1f7585572960c81f57231b684a242d4deeb97243ef7252638587b4fd42d17", func := "loop.example/g01103/laws.FnExactTotalEnd", spec := "fnExactTotalEnd", unfollowed := true, recurses := true, apart := false }
def FnExactTotalEndSaid : Prop := fnExactTotalEndRow.holds Try.pinned (OpenSpec.ofChange fnExactTotalEndSpec)

/-- ITS FALSE NEIGHBOUR: 'it returns false'. Refute it at one input. -/
def fnExactTotalEndWrong : ChangeSpec := { name := "fnExactTotalEnd", fn := fun _ => fun
  | [d1, d2] => { results := [.lit (.bool false)], args := [d1, d2] }
  | _ => none }
def FnExactTotalEndWrongFalsely : Prop := fnExactTotalEndRow.holds Try.pinned (OpenSpec.ofChange fnExactTotalEndWrong)

/- THE SECOND FORM. 'bulk': how many values and letters a reading holds, each counted each time it is reached (what is shared counts as often as it is met; a slice's spare places count too). A statement '..UptoSaid' is the law's where the arguments, and the package variables that the reading takes, are together of bulk at most 1048576: NARROWER than '..Said'. Prove '..Said' where nothing that the law and all that it calls make is longer than what came in: it says more and counts as full. Else prove '..UptoSaid'. A law counts once. -/
mutual
def uptoBulk {H : Type} : DataW H → Nat
  | .lit (.string bytes) => bytes.length + 1
  | .lit _ => 1
  | .nil => 1
  | .ptr d => uptoBulk d + 1
  | .slice elems spare => uptoBulkAll elems + uptoBulkAll spare + 1
  | .agg parts => uptoBulkAll parts + 1
  | .iface _ d => uptoBulk d + 1
  | .map entries => uptoBulkEntries entries + 1
  | .held _ => 1
def uptoBulkAll {H : Type} : List (DataW H) → Nat
  | [] => 0
  | d :: r => uptoBulk d + uptoBulkAll r
def uptoBulkEntries {H : Type} : List (Lit × DataW H) → Nat
  | [] => 0
  | x :: r => uptoBulkEntry x + uptoBulkEntries r
def uptoBulkEntry {H : Type} : Lit × DataW H → Nat
  | (.string bytes, d) => bytes.length + uptoBulk d + 1
  | (_, d) => uptoBulk d + 1
 end
def uptoSmall : (H : Type) → List (DataW H) → Bool := fun _ ds => decide (uptoBulkAll ds ≤ 1048576)
def OpenSpec.upto (s : _root_.Go.ChangeSpec) : _root_.Go.OpenSpec := { _root_.Go.OpenSpec.ofChange s with cond := some uptoSmall }

/-- 'laws.FnExactInitialSets', WHERE WHAT IT READS IS OF BULK AT MOST 1048576: true; the input reads as it did. -/
def fnExactInitialSetsUptoRow : OpenClaim := { program := "ytecdigebnhlfhaa", sum := "92d1f7585572960c81f57231b684a242d4deeb97243ef7252638587b4fd42d17", func := "loop.example/g01103/laws.FnExactInitialSets", spec := "fnExactInitialSets", apart := false, narrowed := true }
def FnExactInitialSetsUptoSaid : Prop := fnExactInitialSetsUptoRow.holds Try.pinned (OpenSpec.upto fnExactInitialSetsSpec)

/-- 'laws.FnExactAdjustedDates', WHERE WHAT IT READS IS OF BULK AT MOST 1048576: true; the input reads as it did. -/
def fnExactAdjustedDatesUptoRow : OpenClaim := { program := "ytecdigebnhlfhaa", sum := "92d1f7585572960c81f57231b684a242d4deeb97243ef7252638587b4fd42d17", func := "loop.example/g01103/laws.FnExactAdjustedDates", spec := "fnExactAdjustedDates", apart := false, narrowed := true }
def FnExactAdjustedDatesUptoSaid : Prop := fnExactAdjustedDatesUptoRow.holds Try.pinned (OpenSpec.upto fnExactAdjustedDatesSpec)

/-- 'laws.FnExactLabelsOf', WHERE WHAT IT READS IS OF BULK AT MOST 1048576: true; the input reads as it did. -/
def fnExactLabelsOfUptoRow : OpenClaim := { program := "ytecdigebnhlfhaa", sum := "92d1f7585572960c81f57231b684a242d4deeb97243ef7252638587b4fd42d17", func := "loop.example/g01103/laws.FnExactLabelsOf", spec := "fnExactLabelsOf", unfollowed := true, recurses := true, apart := false, narrowed := true }
def FnExactLabelsOfUptoSaid : Prop := fnExactLabelsOfUptoRow.holds Try.pinned (OpenSpec.upto fnExactLabelsOfSpec)

/-- 'laws.FnExactLengthBound', WHERE WHAT IT READS IS OF BULK AT MOST 1048576: true; the input reads as it did. -/
def fnExactLengthBoundUptoRow : OpenClaim := { program := "ytecdigebnhlfhaa", sum := "92d1f7585572960c81f57231b684a242d4deeb97243ef7252638587b4fd42d17", func := "loop.example/g01103/laws.FnExactLengthBound", spec := "fnExactLengthBound", recurses := true, apart := false, narrowed := true }
def FnExactLengthBoundUptoSaid : Prop := fnExactLengthBoundUptoRow.holds Try.pinned (OpenSpec.upto fnExactLengthBoundSpec)

/-- 'laws.FnExactTailsOf', WHERE WHAT IT READS IS OF BULK AT MOST 1048576: true; the input reads as it did. -/
def fnExactTailsOfUptoRow : OpenClaim := { program := "ytecdigebnhlfhaa", sum := "92d1f7585572960c81f57231b684a242d4deeb97243ef7252638587b4fd42d17", func := "loop.example/g01103/laws.FnExactTailsOf", spec := "fnExactTailsOf", recurses := true, apart := false, narrowed := true }
def FnExactTailsOfUptoSaid : Prop := fnExactTailsOfUptoRow.holds Try.pinned (OpenSpec.upto fnExactTailsOfSpec)

/-- 'laws.FnExactIsPlan', WHERE WHAT IT READS IS OF BULK AT MOST 1048576: true; the input reads as it did. -/
def fnExactIsPlanUptoRow : OpenClaim := { program := "ytecdigebnhlfhaa", sum := "92d1f7585572960c81f57231b684a242d4deeb97243ef7252638587b4fd42d17", func := "loop.example/g01103/laws.FnExactIsPlan", spec := "fnExactIsPlan", apart := false, narrowed := true }
def FnExactIsPlanUptoSaid : Prop := fnExactIsPlanUptoRow.holds Try.pinned (OpenSpec.upto fnExactIsPlanSpec)

/-- 'laws.FnExactBestOrder', WHERE WHAT IT READS IS OF BULK AT MOST 1048576: true; the input reads as it did. -/
def fnExactBestOrderUptoRow : OpenClaim := { program := "ytecdigebnhlfhaa", sum := "92d1f7585572960c81f57231b684a242d4deeb97243ef7252638587b4fd42d17", func := "loop.example/g01103/laws.FnExactBestOrder", spec := "fnExactBestOrder", unfollowed := true, recurses := true, apart := false, narrowed := true }
def FnExactBestOrderUptoSaid : Prop := fnExactBestOrderUptoRow.holds Try.pinned (OpenSpec.upto fnExactBestOrderSpec)

/-- 'laws.FnExactIsShared', WHERE WHAT IT READS IS OF BULK AT MOST 1048576: true; the input reads as it did. -/
def fnExactIsSharedUptoRow : OpenClaim := { program := "ytecdigebnhlfhaa", sum := "92d1f7585572960c81f57231b684a242d4deeb97243ef7252638587b4fd42d17", func := "loop.example/g01103/laws.FnExactIsShared", spec := "fnExactIsShared", apart := false, narrowed := true }
def FnExactIsSharedUptoSaid : Prop := fnExactIsSharedUptoRow.holds Try.pinned (OpenSpec.upto fnExactIsSharedSpec)

/-- 'laws.FnExactLastCostOrder', WHERE WHAT IT READS IS OF BULK AT MOST 1048576: true; the input reads as it did. -/
def fnExactLastCostOrderUptoRow : OpenClaim := { program := "ytecdigebnhlfhaa", sum := "92d1f7585572960c81f57231b684a242d4deeb97243ef7252638587b4fd42d17", func := "loop.example/g01103/laws.FnExactLastCostOrder", spec := "fnExactLastCostOrder", apart := false, narrowed := true }
def FnExactLastCostOrderUptoSaid : Prop := fnExactLastCostOrderUptoRow.holds Try.pinned (OpenSpec.upto fnExactLastCostOrderSpec)

/-- 'laws.FnExactPlanLength', WHERE WHAT IT READS IS OF BULK AT MOST 1048576: true; the input reads as it did. -/
def fnExactPlanLengthUptoRow : OpenClaim := { program := "ytecdigebnhlfhaa", sum := "92d1f7585572960c81f57231b684a242d4deeb97243ef7252638587b4fd42d17", func := "loop.example/g01103/laws.FnExactPlanLength", spec := "fnExactPlanLength", apart := false, narrowed := true }
def FnExactPlanLengthUptoSaid : Prop := fnExactPlanLengthUptoRow.holds Try.pinned (OpenSpec.upto fnExactPlanLengthSpec)

/-- 'laws.FnExactTotalEnd', WHERE WHAT IT READS IS OF BULK AT MOST 1048576: true; the input reads as it did. -/
def fnExactTotalEndUptoRow : OpenClaim := { program := "ytecdigebnhlfhaa", sum := "92d1f7585572960c81f57231b684a242d4deeb97243ef7252638587b4fd42d17", func := "loop.example/g01103/laws.FnExactTotalEnd", spec := "fnExactTotalEnd", unfollowed := true, recurses := true, apart := false, narrowed := true }
def FnExactTotalEndUptoSaid : Prop := fnExactTotalEndUptoRow.holds Try.pinned (OpenSpec.upto fnExactTotalEndSpec)

end Rows
end Go.Proofs.Ytecdigebnhlfhaa
