/-
  No cell of these rows narrows 'for every input' (looked for: loops, veiled, ifaces, maps, wideKeys, modest, calm, conditions, laid).
  DERIVED. THE GIVEN ROWS OF THIS SEAT. 3 by the template 'for every input the law returns true; each argument reads behind the call as it read before'; 0 by the template 'total and deterministic' (their statements: YtlhppclbokkfmaaTotals.lean).
  GIVEN WITH THE SEED: the statements are not yours to turn. If you find one false, say at which input.
  Laid BY PROGRAM, IN A SANDBOX (cutbox-rows.mjs): the forced cells as the released guide's own fill.sh prints them over the translation 3434b25d9efed8e8… (all of the seat's roots in one cut). By AI agents, Wed Nov 11 2026. No macro, syntax, notation, axiom, sorry.
-/
import Derived.Test.YtlhppclbokkfmaaChecked
import GoSem.Claim
import GoSem.ClaimJoined
import GoSem.ClaimMapViews
import Derived.JoinedTies
import Derived.KernelRfl
namespace Go.Proofs.Ytlhppclbokkfmaa
/- THE CELL 'sum', in the pinned program and in every row, IS THE sha256 OF THE DUMP (.gsa) THAT YtlhppclbokkfmaaProg.lean LOADS. Nothing in Lean hashes anything: it is a label: what it is worth is what the hold of that sum in a sandbox is worth. -/
noncomputable def Try.pinned : Pinned := { name := "ytlhppclbokkfmaa", sum := "3434b25d9efed8e88e97be3ac8d6bbd86e6a6e0ca8548d0df373107e9b4f469a", checked := Try.checked }
namespace Rows
def none {H : Type} : Left H := { results := [], args := [] }

/-- 'laws.FnExactSidneyBlocks': WHATEVER THE INPUT: true; the input reads as it did. -/
def fnExactSidneyBlocksSpec : ChangeSpec := { name := "fnExactSidneyBlocks", fn := fun _ => fun
  | [d1, d2] => { results := [.lit (.bool true)], args := [d1, d2] }
  | _ => none }
def fnExactSidneyBlocksRow : OpenClaim := { program := "ytlhppclbokkfmaa", sum := "3434b25d9efed8e88e97be3ac8d6bbd86e6a6e0ca8548d0df373107e9b4f469a", func := "loop.example/g01103/laws.FnExactSidneyBlocks", spec := "fnExactSidneyBlocks", apart := false }
def FnExactSidneyBlocksSaid : Prop := fnExactSidneyBlocksRow.holds Try.pinned (OpenSpec.ofChange fnExactSidneyBlocksSpec)

/-- ITS FALSE NEIGHBOUR: 'it returns false'. Refute it at one input. -/
def fnExactSidneyBlocksWrong : ChangeSpec := { name := "fnExactSidneyBlocks", fn := fun _ => fun
  | [d1, d2] => { results := [.lit (.bool false)], args := [d1, d2] }
  | _ => none }
def FnExactSidneyBlocksWrongFalsely : Prop := fnExactSidneyBlocksRow.holds Try.pinned (OpenSpec.ofChange fnExactSidneyBlocksWrong)

/-- 'laws.FnExactSplitPlaces': WHATEVER THE INPUT: true; the input reads as it did. -/
def fnExactSplitPlacesSpec : ChangeSpec := { name := "fnExactSplitPlaces", fn := fun _ => fun
  | [d] => { results := [.lit (.bool true)], args := [d] }
  | _ => none }
def fnExactSplitPlacesRow : OpenClaim := { program := "ytlhppclbokkfmaa", sum := "3434b25d9efed8e88e97be3ac8d6bbd86e6a6e0ca8548d0df373107e9b4f469a", func := "loop.example/g01103/laws.FnExactSplitPlaces", spec := "fnExactSplitPlaces", unfollowed := true, recurses := true, apart := false }
def FnExactSplitPlacesSaid : Prop := fnExactSplitPlacesRow.holds Try.pinned (OpenSpec.ofChange fnExactSplitPlacesSpec)

/-- ITS FALSE NEIGHBOUR: 'it returns false'. Refute it at one input. -/
def fnExactSplitPlacesWrong : ChangeSpec := { name := "fnExactSplitPlaces", fn := fun _ => fun
  | [d] => { results := [.lit (.bool false)], args := [d] }
  | _ => none }
def FnExactSplitPlacesWrongFalsely : Prop := fnExactSplitPlacesRow.holds Try.pinned (OpenSpec.ofChange fnExactSplitPlacesWrong)

/-- 'laws.FnExactBestExtension': WHATEVER THE INPUT: true; the input reads as it did. -/
def fnExactBestExtensionSpec : ChangeSpec := { name := "fnExactBestExtension", fn := fun _ => fun
  | [d1, d2, d3] => { results := [.lit (.bool true)], args := [d1, d2, d3] }
  | _ => none }
def fnExactBestExtensionRow : OpenClaim := { program := "ytlhppclbokkfmaa", sum := "3434b25d9efed8e88e97be3ac8d6bbd86e6a6e0ca8548d0df373107e9b4f469a", func := "loop.example/g01103/laws.FnExactBestExtension", spec := "fnExactBestExtension", unfollowed := true, recurses := true, apart := false }
def FnExactBestExtensionSaid : Prop := fnExactBestExtensionRow.holds Try.pinned (OpenSpec.ofChange fnExactBestExtensionSpec)

/-- ITS FALSE NEIGHBOUR: 'it returns false'. Refute it at one input. -/
def fnExactBestExtensionWrong : ChangeSpec := { name := "fnExactBestExtension", fn := fun _ => fun
  | [d1, d2, d3] => { results := [.lit (.bool false)], args := [d1, d2, d3] }
  | _ => none }
def FnExactBestExtensionWrongFalsely : Prop := fnExactBestExtensionRow.holds Try.pinned (OpenSpec.ofChange fnExactBestExtensionWrong)

/- THE SECOND FORM. 'bulk': how many values and letters a reading holds, each counted each time it is reached (what is shared counts as often as it is met; a slice's spare places count too). A statement '..UptoSaid' is the law's where the arguments, and the package variables that the reading takes, are together of bulk at most 1048576: NARROWER than '..Said'. Prove '..Said' where nothing that the law and all that it calls make is longer than what came in: it says more and counts as full. Else prove '..UptoSaid'. A law counts once. -/
mutual
def uptoBulk {H : Type} : DataW H → Nat
  | .lit (.string bytes) => bytes.length + 1
  | .lit _ => 1
  | .nil => 1
  | .ptr d => uptoBulk d + 1
  | .slice elems spare => uptoBulkAll elems + uptoBulkAll spare + 1
  | .agg parts => uptoBulkAll parts + 1
  | .iface _ d => uptoBulk d + 1
  | .map entries => uptoBulkEntries entries + 1
  | .held _ => 1
def uptoBulkAll {H : Type} : List (DataW H) → Nat
  | [] => 0
  | d :: r => uptoBulk d + uptoBulkAll r
def uptoBulkEntries {H : Type} : List (Lit × DataW H) → Nat
  | [] => 0
  | x :: r => uptoBulkEntry x + uptoBulkEntries r
def uptoBulkEntry {H : Type} : Lit × DataW H → Nat
  | (.string bytes, d) => bytes.length + uptoBulk d + 1
  | (_, d) => uptoBulk d + 1
 end
def uptoSmall : (H : Type) → List (DataW H) → Bool := fun _ ds => decide (uptoBulkAll ds ≤ 1048576)
def OpenSpec.upto (s : _root_.Go.ChangeSpec) : _root_.Go.OpenSpec := { _root_.Go.OpenSpec.ofChange s with cond := some uptoSmall }

/-- 'laws.FnExactSidneyBlocks', WHERE WHAT IT READS IS OF BULK AT MOST 1048576: true; the input reads as it did. -/
def fnExactSidneyBlocksUptoRow : OpenClaim := { program := "ytlhppclbokkfmaa", sum := "3434b25d9efed8e88e97be3ac8d6bbd86e6a6e0ca8548d0df373107e9b4f469a", func := "loop.example/g01103/laws.FnExactSidneyBlocks", spec := "fnExactSidneyBlocks", apart := false, narrowed := true }
def FnExactSidneyBlocksUptoSaid : Prop := fnExactSidneyBlocksUptoRow.holds Try.pinned (OpenSpec.upto fnExactSidneyBlocksSpec)

/-- 'laws.FnExactSplitPlaces', WHERE WHAT IT READS IS OF BULK AT MOST 1048576: true; the input reads as it did. -/
def fnExactSplitPlacesUptoRow : OpenClaim := { program := "ytlhppclbokkfmaa", sum := "3434b25d9efed8e88e97be3ac8d6bbd86e6a6e0ca8548d0df373107e9b4f469a", func := "loop.example/g01103/laws.FnExactSplitPlaces", spec := "fnExactSplitPlaces", unfollowed := true, recurses := true, apart := false, narrowed := true }
def FnExactSplitPlacesUptoSaid : Prop := fnExactSplitPlacesUptoRow.holds Try.pinned (OpenSpec.upto fnExactSplitPlacesSpec)

/-- 'laws.FnExactBestExtension', WHERE WHAT IT READS IS OF BULK AT MOST 1048576: true; the input reads as it did. -/
def fnExactBestExtensionUptoRow : OpenClaim := { program := "ytlhppclbokkfmaa", sum := "3434b25d9efed8e88e97be3ac8d6bbd86e6a6e0ca8548d0df373107e9b4f469a", func := "loop.example/g01103/laws.FnExactBestExtension", spec := "fnExactBestExtension", unfollowed := true, recurses := true, apart := false, narrowed := true }
def FnExactBestExtensionUptoSaid : Prop := fnExactBestExtensionUptoRow.holds Try.pinned (OpenSpec.upto fnExactBestExtensionSpec)

end Rows
end Go.Proofs.Ytlhppclbokkfmaa
