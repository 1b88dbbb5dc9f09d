/-
  No cell of these rows narrows 'for every input' (looked for: loops, veiled, ifaces, maps, wideKeys, modest, calm, conditions, laid).
  DERIVED. THE GIVEN ROWS OF THIS SEAT. 12 by the template 'for every input the law returns true; each argument reads behind the call as it read before'; 0 by the template 'total and deterministic' (their statements: YtnhceifdiaigbaaTotals.lean).
  GIVEN WITH THE SEED: the statements are not yours to turn. If you find one false, say at which input.
  Laid BY PROGRAM, IN A SANDBOX (cutbox-rows.mjs): the forced cells as the released guide's own fill.sh prints them over the translation 89f1ec0df034c1f0… (all of the seat's roots in one cut). By AI agents, Wed Nov 11 2026. No macro, syntax, notation, axiom, sorry.
-/
import Derived.Test.YtnhceifdiaigbaaChecked
import GoSem.Claim
import GoSem.ClaimJoined
import GoSem.ClaimMapViews
import Derived.JoinedTies
import Derived.KernelRfl
namespace Go.Proofs.Ytnhceifdiaigbaa
/- THE CELL 'sum', in the pinned program and in every row, IS THE sha256 OF THE DUMP (.gsa) THAT YtnhceifdiaigbaaProg.lean LOADS. Nothing in Lean hashes anything: it is a label: what it is worth is what the hold of that sum in a sandbox is worth. -/
noncomputable def Try.pinned : Pinned := { name := "ytnhceifdiaigbaa", sum := "89f1ec0df034c1f0c8094a31e4f047013e9963b415b195f724b1f2099a08b0fb", checked := Try.checked }
namespace Rows
def none {H : Type} : Left H := { results := [], args := [] }

/-- 'laws.FnExactTimelyAfter': WHATEVER THE INPUT: true; the input reads as it did. -/
def fnExactTimelyAfterSpec : ChangeSpec := { name := "fnExactTimelyAfter", fn := fun _ => fun
  | [d1, d2] => { results := [.lit (.bool true)], args := [d1, d2] }
  | _ => none }
def fnExactTimelyAfterRow : OpenClaim := { program := "ytnhceifdiaigbaa", sum := "89f1ec0df034c1f0c8094a31e4f047013e9963b415b195f724b1f2099a08b0fb", func := "loop.example/g01103/laws.FnExactTimelyAfter", spec := "fnExactTimelyAfter", unfollowed := true, recurses := true, apart := false }
def FnExactTimelyAfterSaid : Prop := fnExactTimelyAfterRow.holds Try.pinned (OpenSpec.ofChange fnExactTimelyAfterSpec)

/-- ITS FALSE NEIGHBOUR: 'it returns false'. Refute it at one input. -/
def fnExactTimelyAfterWrong : ChangeSpec := { name := "fnExactTimelyAfter", fn := fun _ => fun
  | [d1, d2] => { results := [.lit (.bool false)], args := [d1, d2] }
  | _ => none }
def FnExactTimelyAfterWrongFalsely : Prop := fnExactTimelyAfterRow.holds Try.pinned (OpenSpec.ofChange fnExactTimelyAfterWrong)

/-- 'laws.FnExactCountExtensions': WHATEVER THE INPUT: true; the input reads as it did. -/
def fnExactCountExtensionsSpec : ChangeSpec := { name := "fnExactCountExtensions", fn := fun _ => fun
  | [d1, d2] => { results := [.lit (.bool true)], args := [d1, d2] }
  | _ => none }
def fnExactCountExtensionsRow : OpenClaim := { program := "ytnhceifdiaigbaa", sum := "89f1ec0df034c1f0c8094a31e4f047013e9963b415b195f724b1f2099a08b0fb", func := "loop.example/g01103/laws.FnExactCountExtensions", spec := "fnExactCountExtensions", recurses := true, apart := false }
def FnExactCountExtensionsSaid : Prop := fnExactCountExtensionsRow.holds Try.pinned (OpenSpec.ofChange fnExactCountExtensionsSpec)

/-- ITS FALSE NEIGHBOUR: 'it returns false'. Refute it at one input. -/
def fnExactCountExtensionsWrong : ChangeSpec := { name := "fnExactCountExtensions", fn := fun _ => fun
  | [d1, d2] => { results := [.lit (.bool false)], args := [d1, d2] }
  | _ => none }
def FnExactCountExtensionsWrongFalsely : Prop := fnExactCountExtensionsRow.holds Try.pinned (OpenSpec.ofChange fnExactCountExtensionsWrong)

/-- 'laws.FnExactPrecedenceReduction': WHATEVER THE INPUT: true; the input reads as it did. -/
def fnExactPrecedenceReductionSpec : ChangeSpec := { name := "fnExactPrecedenceReduction", fn := fun _ => fun
  | [d1, d2] => { results := [.lit (.bool true)], args := [d1, d2] }
  | _ => none }
def fnExactPrecedenceReductionRow : OpenClaim := { program := "ytnhceifdiaigbaa", sum := "89f1ec0df034c1f0c8094a31e4f047013e9963b415b195f724b1f2099a08b0fb", func := "loop.example/g01103/laws.FnExactPrecedenceReduction", spec := "fnExactPrecedenceReduction", apart := false }
def FnExactPrecedenceReductionSaid : Prop := fnExactPrecedenceReductionRow.holds Try.pinned (OpenSpec.ofChange fnExactPrecedenceReductionSpec)

/-- ITS FALSE NEIGHBOUR: 'it returns false'. Refute it at one input. -/
def fnExactPrecedenceReductionWrong : ChangeSpec := { name := "fnExactPrecedenceReduction", fn := fun _ => fun
  | [d1, d2] => { results := [.lit (.bool false)], args := [d1, d2] }
  | _ => none }
def FnExactPrecedenceReductionWrongFalsely : Prop := fnExactPrecedenceReductionRow.holds Try.pinned (OpenSpec.ofChange fnExactPrecedenceReductionWrong)

/-- 'laws.FnExactDueOrder': WHATEVER THE INPUT: true; the input reads as it did. -/
def fnExactDueOrderSpec : ChangeSpec := { name := "fnExactDueOrder", fn := fun _ => fun
  | [d] => { results := [.lit (.bool true)], args := [d] }
  | _ => none }
def fnExactDueOrderRow : OpenClaim := { program := "ytnhceifdiaigbaa", sum := "89f1ec0df034c1f0c8094a31e4f047013e9963b415b195f724b1f2099a08b0fb", func := "loop.example/g01103/laws.FnExactDueOrder", spec := "fnExactDueOrder", unfollowed := true, recurses := true, apart := false }
def FnExactDueOrderSaid : Prop := fnExactDueOrderRow.holds Try.pinned (OpenSpec.ofChange fnExactDueOrderSpec)

/-- ITS FALSE NEIGHBOUR: 'it returns false'. Refute it at one input. -/
def fnExactDueOrderWrong : ChangeSpec := { name := "fnExactDueOrder", fn := fun _ => fun
  | [d] => { results := [.lit (.bool false)], args := [d] }
  | _ => none }
def FnExactDueOrderWrongFalsely : Prop := fnExactDueOrderRow.holds Try.pinned (OpenSpec.ofChange fnExactDueOrderWrong)

/-- 'laws.FnExactCountRuled': WHATEVER THE INPUT: true; the input reads as it did. -/
def fnExactCountRuledSpec : ChangeSpec := { name := "fnExactCountRuled", fn := fun _ => fun
  | [d1, d2] => { results := [.lit (.bool true)], args := [d1, d2] }
  | _ => none }
def fnExactCountRuledRow : OpenClaim := { program := "ytnhceifdiaigbaa", sum := "89f1ec0df034c1f0c8094a31e4f047013e9963b415b195f724b1f2099a08b0fb", func := "loop.example/g01103/laws.FnExactCountRuled", spec := "fnExactCountRuled", unfollowed := true, recurses := true, apart := false }
def FnExactCountRuledSaid : Prop := fnExactCountRuledRow.holds Try.pinned (OpenSpec.ofChange fnExactCountRuledSpec)

/-- ITS FALSE NEIGHBOUR: 'it returns false'. Refute it at one input. -/
def fnExactCountRuledWrong : ChangeSpec := { name := "fnExactCountRuled", fn := fun _ => fun
  | [d1, d2] => { results := [.lit (.bool false)], args := [d1, d2] }
  | _ => none }
def FnExactCountRuledWrongFalsely : Prop := fnExactCountRuledRow.holds Try.pinned (OpenSpec.ofChange fnExactCountRuledWrong)

/-- 'laws.FnExactRuledOrder': WHATEVER THE INPUT: true; the input reads as it did. -/
def fnExactRuledOrderSpec : ChangeSpec := { name := "fnExactRuledOrder", fn := fun _ => fun
  | [d1, d2] => { results := [.lit (.bool true)], args := [d1, d2] }
  | _ => none }
def fnExactRuledOrderRow : OpenClaim := { program := "ytnhceifdiaigbaa", sum := "89f1ec0df034c1f0c8094a31e4f047013e9963b415b195f724b1f2099a08b0fb", func := "loop.example/g01103/laws.FnExactRuledOrder", spec := "fnExactRuledOrder", unfollowed := true, recurses := true, apart := false }
def FnExactRuledOrderSaid : Prop := fnExactRuledOrderRow.holds Try.pinned (OpenSpec.ofChange fnExactRuledOrderSpec)

/-- ITS FALSE NEIGHBOUR: 'it returns false'. Refute it at one input. -/
def fnExactRuledOrderWrong : ChangeSpec := { name := "fnExactRuledOrder", fn := fun _ => fun
  | [d1, d2] => { results := [.lit (.bool false)], args := [d1, d2] }
  | _ => none }
def FnExactRuledOrderWrongFalsely : Prop := fnExactRuledOrderRow.holds Try.pinned (OpenSpec.ofChange fnExactRuledOrderWrong)

/-- 'laws.FnExactLatenessProof': WHATEVER THE INPUT: true; the input reads as it did. -/
def fnExactLatenessProofSpec : ChangeSpec := { name := "fnExactLatenessProof", fn := fun _ => fun
  | [d] => { results := [.lit (.bool true)], args := [d] }
  | _ => none }
def fnExactLatenessProofRow : OpenClaim := { program := "ytnhceifdiaigbaa", sum := "89f1ec0df034c1f0c8094a31e4f047013e9963b415b195f724b1f2099a08b0fb", func := "loop.example/g01103/laws.FnExactLatenessProof", spec := "fnExactLatenessProof", apart := false }
def FnExactLatenessProofSaid : Prop := fnExactLatenessProofRow.holds Try.pinned (OpenSpec.ofChange fnExactLatenessProofSpec)

/-- ITS FALSE NEIGHBOUR: 'it returns false'. Refute it at one input. -/
def fnExactLatenessProofWrong : ChangeSpec := { name := "fnExactLatenessProof", fn := fun _ => fun
  | [d] => { results := [.lit (.bool false)], args := [d] }
  | _ => none }
def FnExactLatenessProofWrongFalsely : Prop := fnExactLatenessProofRow.holds Try.pinned (OpenSpec.ofChange fnExactLatenessProofWrong)

/-- 'laws.FnExactLeastTardiness': WHATEVER THE INPUT: true; the input reads as it did. -/
def fnExactLeastTardinessSpec : ChangeSpec := { name := "fnExactLeastTardiness", fn := fun _ => fun
  | [d] => { results := [.lit (.bool true)], args := [d] }
  | _ => none }
def fnExactLeastTardinessRow : OpenClaim := { program := "ytnhceifdiaigbaa", sum := "89f1ec0df034c1f0c8094a31e4f047013e9963b415b195f724b1f2099a08b0fb", func := "loop.example/g01103/laws.FnExactLeastTardiness", spec := "fnExactLeastTardiness", apart := false }
def FnExactLeastTardinessSaid : Prop := fnExactLeastTardinessRow.holds Try.pinned (OpenSpec.ofChange fnExactLeastTardinessSpec)

/-- ITS FALSE NEIGHBOUR: 'it returns false'. Refute it at one input. -/
def fnExactLeastTardinessWrong : ChangeSpec := { name := "fnExactLeastTardiness", fn := fun _ => fun
  | [d] => { results := [.lit (.bool false)], args := [d] }
  | _ => none }
def FnExactLeastTardinessWrongFalsely : Prop := fnExactLeastTardinessRow.holds Try.pinned (OpenSpec.ofChange fnExactLeastTardinessWrong)

/-- 'laws.FnExactFewestLate': WHATEVER THE INPUT: true; the input reads as it did. -/
def fnExactFewestLateSpec : ChangeSpec := { name := "fnExactFewestLate", fn := fun _ => fun
  | [d] => { results := [.lit (.bool true)], args := [d] }
  | _ => none }
def fnExactFewestLateRow : OpenClaim := { program := "ytnhceifdiaigbaa", sum := "89f1ec0df034c1f0c8094a31e4f047013e9963b415b195f724b1f2099a08b0fb", func := "loop.example/g01103/laws.FnExactFewestLate", spec := "fnExactFewestLate", unfollowed := true, recurses := true, apart := false }
def FnExactFewestLateSaid : Prop := fnExactFewestLateRow.holds Try.pinned (OpenSpec.ofChange fnExactFewestLateSpec)

/-- ITS FALSE NEIGHBOUR: 'it returns false'. Refute it at one input. -/
def fnExactFewestLateWrong : ChangeSpec := { name := "fnExactFewestLate", fn := fun _ => fun
  | [d] => { results := [.lit (.bool false)], args := [d] }
  | _ => none }
def FnExactFewestLateWrongFalsely : Prop := fnExactFewestLateRow.holds Try.pinned (OpenSpec.ofChange fnExactFewestLateWrong)

/-- 'laws.FnExactParseJobs': WHATEVER THE INPUT: true; the input reads as it did. -/
def fnExactParseJobsSpec : ChangeSpec := { name := "fnExactParseJobs", fn := fun _ => fun
  | [d] => { results := [.lit (.bool true)], args := [d] }
  | _ => none }
def fnExactParseJobsRow : OpenClaim := { program := "ytnhceifdiaigbaa", sum := "89f1ec0df034c1f0c8094a31e4f047013e9963b415b195f724b1f2099a08b0fb", func := "loop.example/g01103/laws.FnExactParseJobs", spec := "fnExactParseJobs", recurses := true, apart := false }
def FnExactParseJobsSaid : Prop := fnExactParseJobsRow.holds Try.pinned (OpenSpec.ofChange fnExactParseJobsSpec)

/-- ITS FALSE NEIGHBOUR: 'it returns false'. Refute it at one input. -/
def fnExactParseJobsWrong : ChangeSpec := { name := "fnExactParseJobs", fn := fun _ => fun
  | [d] => { results := [.lit (.bool false)], args := [d] }
  | _ => none }
def FnExactParseJobsWrongFalsely : Prop := fnExactParseJobsRow.holds Try.pinned (OpenSpec.ofChange fnExactParseJobsWrong)

/-- 'laws.FnExactSplitEnds': WHATEVER THE INPUT: true; the input reads as it did. -/
def fnExactSplitEndsSpec : ChangeSpec := { name := "fnExactSplitEnds", fn := fun _ => fun
  | [d1, d2] => { results := [.lit (.bool true)], args := [d1, d2] }
  | _ => none }
def fnExactSplitEndsRow : OpenClaim := { program := "ytnhceifdiaigbaa", sum := "89f1ec0df034c1f0c8094a31e4f047013e9963b415b195f724b1f2099a08b0fb", func := "loop.example/g01103/laws.FnExactSplitEnds", spec := "fnExactSplitEnds", apart := false }
def FnExactSplitEndsSaid : Prop := fnExactSplitEndsRow.holds Try.pinned (OpenSpec.ofChange fnExactSplitEndsSpec)

/-- ITS FALSE NEIGHBOUR: 'it returns false'. Refute it at one input. -/
def fnExactSplitEndsWrong : ChangeSpec := { name := "fnExactSplitEnds", fn := fun _ => fun
  | [d1, d2] => { results := [.lit (.bool false)], args := [d1, d2] }
  | _ => none }
def FnExactSplitEndsWrongFalsely : Prop := fnExactSplitEndsRow.holds Try.pinned (OpenSpec.ofChange fnExactSplitEndsWrong)

/-- 'laws.FnExactLeastLoad': WHATEVER THE INPUT: true; the input reads as it did. -/
def fnExactLeastLoadSpec : ChangeSpec := { name := "fnExactLeastLoad", fn := fun _ => fun
  | [d1, d2] => { results := [.lit (.bool true)], args := [d1, d2] }
  | _ => none }
def fnExactLeastLoadRow : OpenClaim := { program := "ytnhceifdiaigbaa", sum := "89f1ec0df034c1f0c8094a31e4f047013e9963b415b195f724b1f2099a08b0fb", func := "loop.example/g01103/laws.FnExactLeastLoad", spec := "fnExactLeastLoad", recurses := true, apart := false }
def FnExactLeastLoadSaid : Prop := fnExactLeastLoadRow.holds Try.pinned (OpenSpec.ofChange fnExactLeastLoadSpec)

/-- ITS FALSE NEIGHBOUR: 'it returns false'. Refute it at one input. -/
def fnExactLeastLoadWrong : ChangeSpec := { name := "fnExactLeastLoad", fn := fun _ => fun
  | [d1, d2] => { results := [.lit (.bool false)], args := [d1, d2] }
  | _ => none }
def FnExactLeastLoadWrongFalsely : Prop := fnExactLeastLoadRow.holds Try.pinned (OpenSpec.ofChange fnExactLeastLoadWrong)

/- THE SECOND FORM. 'bulk': how many values and letters a reading holds, each counted each time it is reached (what is shared counts as often as it is met; a slice's spare places count too). A statement '..UptoSaid' is the law's where the arguments, and the package variables that the reading takes, are together of bulk at most 1048576: NARROWER than '..Said'. Prove '..Said' where nothing that the law and all that it calls make is longer than what came in: it says more and counts as full. Else prove '..UptoSaid'. A law counts once. -/
mutual
def uptoBulk {H : Type} : DataW H → Nat
  | .lit (.string bytes) => bytes.length + 1
  | .lit _ => 1
  | .nil => 1
  | .ptr d => uptoBulk d + 1
  | .slice elems spare => uptoBulkAll elems + uptoBulkAll spare + 1
  | .agg parts => uptoBulkAll parts + 1
  | .iface _ d => uptoBulk d + 1
  | .map entries => uptoBulkEntries entries + 1
  | .held _ => 1
def uptoBulkAll {H : Type} : List (DataW H) → Nat
  | [] => 0
  | d :: r => uptoBulk d + uptoBulkAll r
def uptoBulkEntries {H : Type} : List (Lit × DataW H) → Nat
  | [] => 0
  | x :: r => uptoBulkEntry x + uptoBulkEntries r
def uptoBulkEntry {H : Type} : Lit × DataW H → Nat
  | (.string bytes, d) => bytes.length + uptoBulk d + 1
  | (_, d) => uptoBulk d + 1
 end
def uptoSmall : (H : Type) → List (DataW H) → Bool := fun _ ds => decide (uptoBulkAll ds ≤ 1048576)
def OpenSpec.upto (s : _root_.Go.ChangeSpec) : _root_.Go.OpenSpec := { _root_.Go.OpenSpec.ofChange s with cond := some uptoSmall }

/-- 'laws.FnExactTimelyAfter', WHERE WHAT IT READS IS OF BULK AT MOST 1048576: true; the input reads as it did. -/
def fnExactTimelyAfterUptoRow : OpenClaim := { program := "ytnhceifdiaigbaa", sum := "89f1ec0df034c1f0c8094a31e4f047013e9963b415b195f724b1f2099a08b0fb", func := "loop.example/g01103/laws.FnExactTimelyAfter", spec := "fnExactTimelyAfter", unfollowed := true, recurses := true, apart := false, narrowed := true }
def FnExactTimelyAfterUptoSaid : Prop := fnExactTimelyAfterUptoRow.holds Try.pinned (OpenSpec.upto fnExactTimelyAfterSpec)

/-- 'laws.FnExactCountExtensions', WHERE WHAT IT READS IS OF BULK AT MOST 1048576: true; the input reads as it did. -/
def fnExactCountExtensionsUptoRow : OpenClaim := { program := "ytnhceifdiaigbaa", sum := "89f1ec0df034c1f0c8094a31e4f047013e9963b415b195f724b1f2099a08b0fb", func := "loop.example/g01103/laws.FnExactCountExtensions", spec := "fnExactCountExtensions", recurses := true, apart := false, narrowed := true }
def FnExactCountExtensionsUptoSaid : Prop := fnExactCountExtensionsUptoRow.holds Try.pinned (OpenSpec.upto fnExactCountExtensionsSpec)

/-- 'laws.FnExactPrecedenceReduction', WHERE WHAT IT READS IS OF BULK AT MOST 1048576: true; the input reads as it did. -/
def fnExactPrecedenceReductionUptoRow : OpenClaim := { program := "ytnhceifdiaigbaa", sum := "89f1ec0df034c1f0c8094a31e4f047013e9963b415b195f724b1f2099a08b0fb", func := "loop.example/g01103/laws.FnExactPrecedenceReduction", spec := "fnExactPrecedenceReduction", apart := false, narrowed := true }
def FnExactPrecedenceReductionUptoSaid : Prop := fnExactPrecedenceReductionUptoRow.holds Try.pinned (OpenSpec.upto fnExactPrecedenceReductionSpec)

/-- 'laws.FnExactDueOrder', WHERE WHAT IT READS IS OF BULK AT MOST 1048576: true; the input reads as it did. -/
def fnExactDueOrderUptoRow : OpenClaim := { program := "ytnhceifdiaigbaa", sum := "89f1ec0df034c1f0c8094a31e4f047013e9963b415b195f724b1f2099a08b0fb", func := "loop.example/g01103/laws.FnExactDueOrder", spec := "fnExactDueOrder", unfollowed := true, recurses := true, apart := false, narrowed := true }
def FnExactDueOrderUptoSaid : Prop := fnExactDueOrderUptoRow.holds Try.pinned (OpenSpec.upto fnExactDueOrderSpec)

/-- 'laws.FnExactCountRuled', WHERE WHAT IT READS IS OF BULK AT MOST 1048576: true; the input reads as it did. -/
def fnExactCountRuledUptoRow : OpenClaim := { program := "ytnhceifdiaigbaa", sum := "89f1ec0df034c1f0c8094a31e4f047013e9963b415b195f724b1f2099a08b0fb", func := "loop.example/g01103/laws.FnExactCountRuled", spec := "fnExactCountRuled", unfollowed := true, recurses := true, apart := false, narrowed := true }
def FnExactCountRuledUptoSaid : Prop := fnExactCountRuledUptoRow.holds Try.pinned (OpenSpec.upto fnExactCountRuledSpec)

/-- 'laws.FnExactRuledOrder', WHERE WHAT IT READS IS OF BULK AT MOST 1048576: true; the input reads as it did. -/
def fnExactRuledOrderUptoRow : OpenClaim := { program := "ytnhceifdiaigbaa", sum := "89f1ec0df034c1f0c8094a31e4f047013e9963b415b195f724b1f2099a08b0fb", func := "loop.example/g01103/laws.FnExactRuledOrder", spec := "fnExactRuledOrder", unfollowed := true, recurses := true, apart := false, narrowed := true }
def FnExactRuledOrderUptoSaid : Prop := fnExactRuledOrderUptoRow.holds Try.pinned (OpenSpec.upto fnExactRuledOrderSpec)

/-- 'laws.FnExactLatenessProof', WHERE WHAT IT READS IS OF BULK AT MOST 1048576: true; the input reads as it did. -/
def fnExactLatenessProofUptoRow : OpenClaim := { program := "ytnhceifdiaigbaa", sum := "89f1ec0df034c1f0c8094a31e4f047013e9963b415b195f724b1f2099a08b0fb", func := "loop.example/g01103/laws.FnExactLatenessProof", spec := "fnExactLatenessProof", apart := false, narrowed := true }
def FnExactLatenessProofUptoSaid : Prop := fnExactLatenessProofUptoRow.holds Try.pinned (OpenSpec.upto fnExactLatenessProofSpec)

/-- 'laws.FnExactLeastTardiness', WHERE WHAT IT READS IS OF BULK AT MOST 1048576: true; the input reads as it did. -/
def fnExactLeastTardinessUptoRow : OpenClaim := { program := "ytnhceifdiaigbaa", sum := "89f1ec0df034c1f0c8094a31e4f047013e9963b415b195f724b1f2099a08b0fb", func := "loop.example/g01103/laws.FnExactLeastTardiness", spec := "fnExactLeastTardiness", apart := false, narrowed := true }
def FnExactLeastTardinessUptoSaid : Prop := fnExactLeastTardinessUptoRow.holds Try.pinned (OpenSpec.upto fnExactLeastTardinessSpec)

/-- 'laws.FnExactFewestLate', WHERE WHAT IT READS IS OF BULK AT MOST 1048576: true; the input reads as it did. -/
def fnExactFewestLateUptoRow : OpenClaim := { program := "ytnhceifdiaigbaa", sum := "89f1ec0df034c1f0c8094a31e4f047013e9963b415b195f724b1f2099a08b0fb", func := "loop.example/g01103/laws.FnExactFewestLate", spec := "fnExactFewestLate", unfollowed := true, recurses := true, apart := false, narrowed := true }
def FnExactFewestLateUptoSaid : Prop := fnExactFewestLateUptoRow.holds Try.pinned (OpenSpec.upto fnExactFewestLateSpec)

/-- 'laws.FnExactParseJobs', WHERE WHAT IT READS IS OF BULK AT MOST 1048576: true; the input reads as it did. -/
def fnExactParseJobsUptoRow : OpenClaim := { program := "ytnhceifdiaigbaa", sum := "89f1ec0df034c1f0c8094a31e4f047013e9963b415b195f724b1f2099a08b0fb", func := "loop.example/g01103/laws.FnExactParseJobs", spec := "fnExactParseJobs", recurses := true, apart := false, narrowed := true }
def FnExactParseJobsUptoSaid : Prop := fnExactParseJobsUptoRow.holds Try.pinned (OpenSpec.upto fnExactParseJobsSpec)

/-- 'laws.FnExactSplitEnds', WHERE WHAT IT READS IS OF BULK AT MOST 1048576: true; the input reads as it did. -/
def fnExactSplitEndsUptoRow : OpenClaim := { program := "ytnhceifdiaigbaa", sum := "89f1ec0df034c1f0c8094a31e4f047013e9963b415b195f724b1f2099a08b0fb", func := "loop.example/g01103/laws.FnExactSplitEnds", spec := "fnExactSplitEnds", apart := false, narrowed := true }
def FnExactSplitEndsUptoSaid : Prop := fnExactSplitEndsUptoRow.holds Try.pinned (OpenSpec.upto fnExactSplitEndsSpec)

/-- 'laws.FnExactLeastLoad', WHERE WHAT IT READS IS OF BULK AT MOST 1048576: true; the input reads as it did. -/
def fnExactLeastLoadUptoRow : OpenClaim := { program := "ytnhceifdiaigbaa", sum := "89f1ec0df034c1f0c8094a31e4f047013e9963b415b195f724b1f2099a08b0fb", func := "loop.example/g01103/laws.FnExactLeastLoad", spec := "fnExactLeastLoad", recurses := true, apart := false, narrowed := true }
def FnExactLeastLoadUptoSaid : Prop := fnExactLeastLoadUptoRow.holds Try.pinned (OpenSpec.upto fnExactLeastLoadSpec)

end Rows
end Go.Proofs.Ytnhceifdiaigbaa
