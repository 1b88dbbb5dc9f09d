/-
  No cell of these rows narrows 'for every input' (looked for: loops, veiled, ifaces, maps, wideKeys, modest, calm, conditions, laid).
  DERIVED. THE GIVEN ROWS OF THIS SEAT. 12 by the template 'for every input the law returns true; each argument reads behind the call as it read before'; 0 by the template 'total and deterministic' (their statements: YtafhfmggehaknaaTotals.lean).
  GIVEN WITH THE SEED: the statements are not yours to turn. If you find one false, say at which input.
  Laid BY PROGRAM, IN A SANDBOX (cutbox-rows.mjs): the forced cells as the released guide's own fill.sh prints them over the translation d4e06890f0a2beac… (all of the seat's roots in one cut). By AI agents, Wed Nov 11 2026. No macro, syntax, notation, axiom, sorry.
-/
import Derived.Test.YtafhfmggehaknaaChecked
import GoSem.Claim
import GoSem.ClaimJoined
import GoSem.ClaimMapViews
import Derived.JoinedTies
import Derived.KernelRfl
namespace Go.Proofs.Ytafhfmggehaknaa
/- THE CELL 'sum', in the pinned program and in every row, IS THE sha256 OF THE DUMP (.gsa) THAT YtafhfmggehaknaaProg.lean LOADS. Nothing in Lean hashes anything: it is a label: what it is worth is what the hold of that sum in a sandbox is worth. -/
noncomputable def Try.pinned : Pinned := { name := "ytafhfmggehaknaa", sum := "d4e06890f0a2beacc41f5f41cd3908637e02871e41a2b4d4d9352d0ad95a53b1", checked := Try.checked }
namespace Rows
def none {H : Type} : Left H := { results := [], args := [] }

/-- 'laws.FnExactAreAgreeable': WHATEVER THE INPUT: true; the input reads as it did. -/
def fnExactAreAgreeableSpec : ChangeSpec := { name := "fnExactAreAgreeable", fn := fun _ => fun
  | [d] => { results := [.lit (.bool true)], args := [d] }
  | _ => none }
def fnExactAreAgreeableRow : OpenClaim := { program := "ytafhfmggehaknaa", sum := "d4e06890f0a2beacc41f5f41cd3908637e02871e41a2b4d4d9352d0ad95a53b1", func := "loop.example/g01103/laws.FnExactAreAgreeable", spec := "fnExactAreAgreeable", apart := false }
def FnExactAreAgreeableSaid : Prop := fnExactAreAgreeableRow.holds Try.pinned (OpenSpec.ofChange fnExactAreAgreeableSpec)

/-- ITS FALSE NEIGHBOUR: 'it returns false'. Refute it at one input. -/
def fnExactAreAgreeableWrong : ChangeSpec := { name := "fnExactAreAgreeable", fn := fun _ => fun
  | [d] => { results := [.lit (.bool false)], args := [d] }
  | _ => none }
def FnExactAreAgreeableWrongFalsely : Prop := fnExactAreAgreeableRow.holds Try.pinned (OpenSpec.ofChange fnExactAreAgreeableWrong)

/-- 'laws.FnExactTotalTime': WHATEVER THE INPUT: true; the input reads as it did. -/
def fnExactTotalTimeSpec : ChangeSpec := { name := "fnExactTotalTime", fn := fun _ => fun
  | [d] => { results := [.lit (.bool true)], args := [d] }
  | _ => none }
def fnExactTotalTimeRow : OpenClaim := { program := "ytafhfmggehaknaa", sum := "d4e06890f0a2beacc41f5f41cd3908637e02871e41a2b4d4d9352d0ad95a53b1", func := "loop.example/g01103/laws.FnExactTotalTime", spec := "fnExactTotalTime", apart := false }
def FnExactTotalTimeSaid : Prop := fnExactTotalTimeRow.holds Try.pinned (OpenSpec.ofChange fnExactTotalTimeSpec)

/-- ITS FALSE NEIGHBOUR: 'it returns false'. Refute it at one input. -/
def fnExactTotalTimeWrong : ChangeSpec := { name := "fnExactTotalTime", fn := fun _ => fun
  | [d] => { results := [.lit (.bool false)], args := [d] }
  | _ => none }
def FnExactTotalTimeWrongFalsely : Prop := fnExactTotalTimeRow.holds Try.pinned (OpenSpec.ofChange fnExactTotalTimeWrong)

/-- 'laws.FnExactIsPrecedence': WHATEVER THE INPUT: true; the input reads as it did. -/
def fnExactIsPrecedenceSpec : ChangeSpec := { name := "fnExactIsPrecedence", fn := fun _ => fun
  | [d1, d2] => { results := [.lit (.bool true)], args := [d1, d2] }
  | _ => none }
def fnExactIsPrecedenceRow : OpenClaim := { program := "ytafhfmggehaknaa", sum := "d4e06890f0a2beacc41f5f41cd3908637e02871e41a2b4d4d9352d0ad95a53b1", func := "loop.example/g01103/laws.FnExactIsPrecedence", spec := "fnExactIsPrecedence", apart := false }
def FnExactIsPrecedenceSaid : Prop := fnExactIsPrecedenceRow.holds Try.pinned (OpenSpec.ofChange fnExactIsPrecedenceSpec)

/-- ITS FALSE NEIGHBOUR: 'it returns false'. Refute it at one input. -/
def fnExactIsPrecedenceWrong : ChangeSpec := { name := "fnExactIsPrecedence", fn := fun _ => fun
  | [d1, d2] => { results := [.lit (.bool false)], args := [d1, d2] }
  | _ => none }
def FnExactIsPrecedenceWrongFalsely : Prop := fnExactIsPrecedenceRow.holds Try.pinned (OpenSpec.ofChange fnExactIsPrecedenceWrong)

/-- 'laws.FnExactMirrorJobs': WHATEVER THE INPUT: true; the input reads as it did. -/
def fnExactMirrorJobsSpec : ChangeSpec := { name := "fnExactMirrorJobs", fn := fun _ => fun
  | [d1, d2] => { results := [.lit (.bool true)], args := [d1, d2] }
  | _ => none }
def fnExactMirrorJobsRow : OpenClaim := { program := "ytafhfmggehaknaa", sum := "d4e06890f0a2beacc41f5f41cd3908637e02871e41a2b4d4d9352d0ad95a53b1", func := "loop.example/g01103/laws.FnExactMirrorJobs", spec := "fnExactMirrorJobs", apart := false }
def FnExactMirrorJobsSaid : Prop := fnExactMirrorJobsRow.holds Try.pinned (OpenSpec.ofChange fnExactMirrorJobsSpec)

/-- ITS FALSE NEIGHBOUR: 'it returns false'. Refute it at one input. -/
def fnExactMirrorJobsWrong : ChangeSpec := { name := "fnExactMirrorJobs", fn := fun _ => fun
  | [d1, d2] => { results := [.lit (.bool false)], args := [d1, d2] }
  | _ => none }
def FnExactMirrorJobsWrongFalsely : Prop := fnExactMirrorJobsRow.holds Try.pinned (OpenSpec.ofChange fnExactMirrorJobsWrong)

/-- 'laws.FnExactStretchedJobs': WHATEVER THE INPUT: true; the input reads as it did. -/
def fnExactStretchedJobsSpec : ChangeSpec := { name := "fnExactStretchedJobs", fn := fun _ => fun
  | [d1, d2] => { results := [.lit (.bool true)], args := [d1, d2] }
  | _ => none }
def fnExactStretchedJobsRow : OpenClaim := { program := "ytafhfmggehaknaa", sum := "d4e06890f0a2beacc41f5f41cd3908637e02871e41a2b4d4d9352d0ad95a53b1", func := "loop.example/g01103/laws.FnExactStretchedJobs", spec := "fnExactStretchedJobs", apart := false }
def FnExactStretchedJobsSaid : Prop := fnExactStretchedJobsRow.holds Try.pinned (OpenSpec.ofChange fnExactStretchedJobsSpec)

/-- ITS FALSE NEIGHBOUR: 'it returns false'. Refute it at one input. -/
def fnExactStretchedJobsWrong : ChangeSpec := { name := "fnExactStretchedJobs", fn := fun _ => fun
  | [d1, d2] => { results := [.lit (.bool false)], args := [d1, d2] }
  | _ => none }
def FnExactStretchedJobsWrongFalsely : Prop := fnExactStretchedJobsRow.holds Try.pinned (OpenSpec.ofChange fnExactStretchedJobsWrong)

/-- 'laws.FnExactRuleDifference': WHATEVER THE INPUT: true; the input reads as it did. -/
def fnExactRuleDifferenceSpec : ChangeSpec := { name := "fnExactRuleDifference", fn := fun _ => fun
  | [d1, d2, d3, d4] => { results := [.lit (.bool true)], args := [d1, d2, d3, d4] }
  | _ => none }
def fnExactRuleDifferenceRow : OpenClaim := { program := "ytafhfmggehaknaa", sum := "d4e06890f0a2beacc41f5f41cd3908637e02871e41a2b4d4d9352d0ad95a53b1", func := "loop.example/g01103/laws.FnExactRuleDifference", spec := "fnExactRuleDifference", apart := false }
def FnExactRuleDifferenceSaid : Prop := fnExactRuleDifferenceRow.holds Try.pinned (OpenSpec.ofChange fnExactRuleDifferenceSpec)

/-- ITS FALSE NEIGHBOUR: 'it returns false'. Refute it at one input. -/
def fnExactRuleDifferenceWrong : ChangeSpec := { name := "fnExactRuleDifference", fn := fun _ => fun
  | [d1, d2, d3, d4] => { results := [.lit (.bool false)], args := [d1, d2, d3, d4] }
  | _ => none }
def FnExactRuleDifferenceWrongFalsely : Prop := fnExactRuleDifferenceRow.holds Try.pinned (OpenSpec.ofChange fnExactRuleDifferenceWrong)

/-- 'laws.FnExactJobsText': WHATEVER THE INPUT: true; the input reads as it did. -/
def fnExactJobsTextSpec : ChangeSpec := { name := "fnExactJobsText", fn := fun _ => fun
  | [d] => { results := [.lit (.bool true)], args := [d] }
  | _ => none }
def fnExactJobsTextRow : OpenClaim := { program := "ytafhfmggehaknaa", sum := "d4e06890f0a2beacc41f5f41cd3908637e02871e41a2b4d4d9352d0ad95a53b1", func := "loop.example/g01103/laws.FnExactJobsText", spec := "fnExactJobsText", recurses := true, apart := false }
def FnExactJobsTextSaid : Prop := fnExactJobsTextRow.holds Try.pinned (OpenSpec.ofChange fnExactJobsTextSpec)

/-- ITS FALSE NEIGHBOUR: 'it returns false'. Refute it at one input. -/
def fnExactJobsTextWrong : ChangeSpec := { name := "fnExactJobsText", fn := fun _ => fun
  | [d] => { results := [.lit (.bool false)], args := [d] }
  | _ => none }
def FnExactJobsTextWrongFalsely : Prop := fnExactJobsTextRow.holds Try.pinned (OpenSpec.ofChange fnExactJobsTextWrong)

/-- 'laws.FnExactTardinessBound': WHATEVER THE INPUT: true; the input reads as it did. -/
def fnExactTardinessBoundSpec : ChangeSpec := { name := "fnExactTardinessBound", fn := fun _ => fun
  | [d] => { results := [.lit (.bool true)], args := [d] }
  | _ => none }
def fnExactTardinessBoundRow : OpenClaim := { program := "ytafhfmggehaknaa", sum := "d4e06890f0a2beacc41f5f41cd3908637e02871e41a2b4d4d9352d0ad95a53b1", func := "loop.example/g01103/laws.FnExactTardinessBound", spec := "fnExactTardinessBound", unfollowed := true, recurses := true, apart := false }
def FnExactTardinessBoundSaid : Prop := fnExactTardinessBoundRow.holds Try.pinned (OpenSpec.ofChange fnExactTardinessBoundSpec)

/-- ITS FALSE NEIGHBOUR: 'it returns false'. Refute it at one input. -/
def fnExactTardinessBoundWrong : ChangeSpec := { name := "fnExactTardinessBound", fn := fun _ => fun
  | [d] => { results := [.lit (.bool false)], args := [d] }
  | _ => none }
def FnExactTardinessBoundWrongFalsely : Prop := fnExactTardinessBoundRow.holds Try.pinned (OpenSpec.ofChange fnExactTardinessBoundWrong)

/-- 'laws.FnExactIsSeriesParallel': WHATEVER THE INPUT: true; the input reads as it did. -/
def fnExactIsSeriesParallelSpec : ChangeSpec := { name := "fnExactIsSeriesParallel", fn := fun _ => fun
  | [d1, d2] => { results := [.lit (.bool true)], args := [d1, d2] }
  | _ => none }
def fnExactIsSeriesParallelRow : OpenClaim := { program := "ytafhfmggehaknaa", sum := "d4e06890f0a2beacc41f5f41cd3908637e02871e41a2b4d4d9352d0ad95a53b1", func := "loop.example/g01103/laws.FnExactIsSeriesParallel", spec := "fnExactIsSeriesParallel", unfollowed := true, recurses := true, apart := false }
def FnExactIsSeriesParallelSaid : Prop := fnExactIsSeriesParallelRow.holds Try.pinned (OpenSpec.ofChange fnExactIsSeriesParallelSpec)

/-- ITS FALSE NEIGHBOUR: 'it returns false'. Refute it at one input. -/
def fnExactIsSeriesParallelWrong : ChangeSpec := { name := "fnExactIsSeriesParallel", fn := fun _ => fun
  | [d1, d2] => { results := [.lit (.bool false)], args := [d1, d2] }
  | _ => none }
def FnExactIsSeriesParallelWrongFalsely : Prop := fnExactIsSeriesParallelRow.holds Try.pinned (OpenSpec.ofChange fnExactIsSeriesParallelWrong)

/-- 'laws.FnExactIsSplit': WHATEVER THE INPUT: true; the input reads as it did. -/
def fnExactIsSplitSpec : ChangeSpec := { name := "fnExactIsSplit", fn := fun _ => fun
  | [d1, d2] => { results := [.lit (.bool true)], args := [d1, d2] }
  | _ => none }
def fnExactIsSplitRow : OpenClaim := { program := "ytafhfmggehaknaa", sum := "d4e06890f0a2beacc41f5f41cd3908637e02871e41a2b4d4d9352d0ad95a53b1", func := "loop.example/g01103/laws.FnExactIsSplit", spec := "fnExactIsSplit", apart := false }
def FnExactIsSplitSaid : Prop := fnExactIsSplitRow.holds Try.pinned (OpenSpec.ofChange fnExactIsSplitSpec)

/-- ITS FALSE NEIGHBOUR: 'it returns false'. Refute it at one input. -/
def fnExactIsSplitWrong : ChangeSpec := { name := "fnExactIsSplit", fn := fun _ => fun
  | [d1, d2] => { results := [.lit (.bool false)], args := [d1, d2] }
  | _ => none }
def FnExactIsSplitWrongFalsely : Prop := fnExactIsSplitRow.holds Try.pinned (OpenSpec.ofChange fnExactIsSplitWrong)

/-- 'laws.FnExactCountBreaks': WHATEVER THE INPUT: true; the input reads as it did. -/
def fnExactCountBreaksSpec : ChangeSpec := { name := "fnExactCountBreaks", fn := fun _ => fun
  | [d1, d2] => { results := [.lit (.bool true)], args := [d1, d2] }
  | _ => none }
def fnExactCountBreaksRow : OpenClaim := { program := "ytafhfmggehaknaa", sum := "d4e06890f0a2beacc41f5f41cd3908637e02871e41a2b4d4d9352d0ad95a53b1", func := "loop.example/g01103/laws.FnExactCountBreaks", spec := "fnExactCountBreaks", apart := false }
def FnExactCountBreaksSaid : Prop := fnExactCountBreaksRow.holds Try.pinned (OpenSpec.ofChange fnExactCountBreaksSpec)

/-- ITS FALSE NEIGHBOUR: 'it returns false'. Refute it at one input. -/
def fnExactCountBreaksWrong : ChangeSpec := { name := "fnExactCountBreaks", fn := fun _ => fun
  | [d1, d2] => { results := [.lit (.bool false)], args := [d1, d2] }
  | _ => none }
def FnExactCountBreaksWrongFalsely : Prop := fnExactCountBreaksRow.holds Try.pinned (OpenSpec.ofChange fnExactCountBreaksWrong)

/-- 'laws.FnExactPrecedenceClosure': WHATEVER THE INPUT: true; the input reads as it did. -/
def fnExactPrecedenceClosureSpec : ChangeSpec := { name := "fnExactPrecedenceClosure", fn := fun _ => fun
  | [d1, d2] => { results := [.lit (.bool true)], args := [d1, d2] }
  | _ => none }
def fnExactPrecedenceClosureRow : OpenClaim := { program := "ytafhfmggehaknaa", sum := "d4e06890f0a2beacc41f5f41cd3908637e02871e41a2b4d4d9352d0ad95a53b1", func := "loop.example/g01103/laws.FnExactPrecedenceClosure", spec := "fnExactPrecedenceClosure", apart := false }
def FnExactPrecedenceClosureSaid : Prop := fnExactPrecedenceClosureRow.holds Try.pinned (OpenSpec.ofChange fnExactPrecedenceClosureSpec)

/-- ITS FALSE NEIGHBOUR: 'it returns false'. Refute it at one input. -/
def fnExactPrecedenceClosureWrong : ChangeSpec := { name := "fnExactPrecedenceClosure", fn := fun _ => fun
  | [d1, d2] => { results := [.lit (.bool false)], args := [d1, d2] }
  | _ => none }
def FnExactPrecedenceClosureWrongFalsely : Prop := fnExactPrecedenceClosureRow.holds Try.pinned (OpenSpec.ofChange fnExactPrecedenceClosureWrong)

/- THE SECOND FORM. 'bulk': how many values and letters a reading holds, each counted each time it is reached (what is shared counts as often as it is met; a slice's spare places count too). A statement '..UptoSaid' is the law's where the arguments, and the package variables that the reading takes, are together of bulk at most 1048576: NARROWER than '..Said'. Prove '..Said' where nothing that the law and all that it calls make is longer than what came in: it says more and counts as full. Else prove '..UptoSaid'. A law counts once. -/
mutual
def uptoBulk {H : Type} : DataW H → Nat
  | .lit (.string bytes) => bytes.length + 1
  | .lit _ => 1
  | .nil => 1
  | .ptr d => uptoBulk d + 1
  | .slice elems spare => uptoBulkAll elems + uptoBulkAll spare + 1
  | .agg parts => uptoBulkAll parts + 1
  | .iface _ d => uptoBulk d + 1
  | .map entries => uptoBulkEntries entries + 1
  | .held _ => 1
def uptoBulkAll {H : Type} : List (DataW H) → Nat
  | [] => 0
  | d :: r => uptoBulk d + uptoBulkAll r
def uptoBulkEntries {H : Type} : List (Lit × DataW H) → Nat
  | [] => 0
  | x :: r => uptoBulkEntry x + uptoBulkEntries r
def uptoBulkEntry {H : Type} : Lit × DataW H → Nat
  | (.string bytes, d) => bytes.length + uptoBulk d + 1
  | (_, d) => uptoBulk d + 1
 end
def uptoSmall : (H : Type) → List (DataW H) → Bool := fun _ ds => decide (uptoBulkAll ds ≤ 1048576)
def OpenSpec.upto (s : _root_.Go.ChangeSpec) : _root_.Go.OpenSpec := { _root_.Go.OpenSpec.ofChange s with cond := some uptoSmall }

/-- 'laws.FnExactAreAgreeable', WHERE WHAT IT READS IS OF BULK AT MOST 1048576: true; the input reads as it did. -/
def fnExactAreAgreeableUptoRow : OpenClaim := { program := "ytafhfmggehaknaa", sum := "d4e06890f0a2beacc41f5f41cd3908637e02871e41a2b4d4d9352d0ad95a53b1", func := "loop.example/g01103/laws.FnExactAreAgreeable", spec := "fnExactAreAgreeable", apart := false, narrowed := true }
def FnExactAreAgreeableUptoSaid : Prop := fnExactAreAgreeableUptoRow.holds Try.pinned (OpenSpec.upto fnExactAreAgreeableSpec)

/-- 'laws.FnExactTotalTime', WHERE WHAT IT READS IS OF BULK AT MOST 1048576: true; the input reads as it did. -/
def fnExactTotalTimeUptoRow : OpenClaim := { program := "ytafhfmggehaknaa", sum := "d4e06890f0a2beacc41f5f41cd3908637e02871e41a2b4d4d9352d0ad95a53b1", func := "loop.example/g01103/laws.FnExactTotalTime", spec := "fnExactTotalTime", apart := false, narrowed := true }
def FnExactTotalTimeUptoSaid : Prop := fnExactTotalTimeUptoRow.holds Try.pinned (OpenSpec.upto fnExactTotalTimeSpec)

/-- 'laws.FnExactIsPrecedence', WHERE WHAT IT READS IS OF BULK AT MOST 1048576: true; the input reads as it did. -/
def fnExactIsPrecedenceUptoRow : OpenClaim := { program := "ytafhfmggehaknaa", sum := "d4e06890f0a2beacc41f5f41cd3908637e02871e41a2b4d4d9352d0ad95a53b1", func := "loop.example/g01103/laws.FnExactIsPrecedence", spec := "fnExactIsPrecedence", apart := false, narrowed := true }
def FnExactIsPrecedenceUptoSaid : Prop := fnExactIsPrecedenceUptoRow.holds Try.pinned (OpenSpec.upto fnExactIsPrecedenceSpec)

/-- 'laws.FnExactMirrorJobs', WHERE WHAT IT READS IS OF BULK AT MOST 1048576: true; the input reads as it did. -/
def fnExactMirrorJobsUptoRow : OpenClaim := { program := "ytafhfmggehaknaa", sum := "d4e06890f0a2beacc41f5f41cd3908637e02871e41a2b4d4d9352d0ad95a53b1", func := "loop.example/g01103/laws.FnExactMirrorJobs", spec := "fnExactMirrorJobs", apart := false, narrowed := true }
def FnExactMirrorJobsUptoSaid : Prop := fnExactMirrorJobsUptoRow.holds Try.pinned (OpenSpec.upto fnExactMirrorJobsSpec)

/-- 'laws.FnExactStretchedJobs', WHERE WHAT IT READS IS OF BULK AT MOST 1048576: true; the input reads as it did. -/
def fnExactStretchedJobsUptoRow : OpenClaim := { program := "ytafhfmggehaknaa", sum := "d4e06890f0a2beacc41f5f41cd3908637e02871e41a2b4d4d9352d0ad95a53b1", func := "loop.example/g01103/laws.FnExactStretchedJobs", spec := "fnExactStretchedJobs", apart := false, narrowed := true }
def FnExactStretchedJobsUptoSaid : Prop := fnExactStretchedJobsUptoRow.holds Try.pinned (OpenSpec.upto fnExactStretchedJobsSpec)

/-- 'laws.FnExactRuleDifference', WHERE WHAT IT READS IS OF BULK AT MOST 1048576: true; the input reads as it did. -/
def fnExactRuleDifferenceUptoRow : OpenClaim := { program := "ytafhfmggehaknaa", sum := "d4e06890f0a2beacc41f5f41cd3908637e02871e41a2b4d4d9352d0ad95a53b1", func := "loop.example/g01103/laws.FnExactRuleDifference", spec := "fnExactRuleDifference", apart := false, narrowed := true }
def FnExactRuleDifferenceUptoSaid : Prop := fnExactRuleDifferenceUptoRow.holds Try.pinned (OpenSpec.upto fnExactRuleDifferenceSpec)

/-- 'laws.FnExactJobsText', WHERE WHAT IT READS IS OF BULK AT MOST 1048576: true; the input reads as it did. -/
def fnExactJobsTextUptoRow : OpenClaim := { program := "ytafhfmggehaknaa", sum := "d4e06890f0a2beacc41f5f41cd3908637e02871e41a2b4d4d9352d0ad95a53b1", func := "loop.example/g01103/laws.FnExactJobsText", spec := "fnExactJobsText", recurses := true, apart := false, narrowed := true }
def FnExactJobsTextUptoSaid : Prop := fnExactJobsTextUptoRow.holds Try.pinned (OpenSpec.upto fnExactJobsTextSpec)

/-- 'laws.FnExactTardinessBound', WHERE WHAT IT READS IS OF BULK AT MOST 1048576: true; the input reads as it did. -/
def fnExactTardinessBoundUptoRow : OpenClaim := { program := "ytafhfmggehaknaa", sum := "d4e06890f0a2beacc41f5f41cd3908637e02871e41a2b4d4d9352d0ad95a53b1", func := "loop.example/g01103/laws.FnExactTardinessBound", spec := "fnExactTardinessBound", unfollowed := true, recurses := true, apart := false, narrowed := true }
def FnExactTardinessBoundUptoSaid : Prop := fnExactTardinessBoundUptoRow.holds Try.pinned (OpenSpec.upto fnExactTardinessBoundSpec)

/-- 'laws.FnExactIsSeriesParallel', WHERE WHAT IT READS IS OF BULK AT MOST 1048576: true; the input reads as it did. -/
def fnExactIsSeriesParallelUptoRow : OpenClaim := { program := "ytafhfmggehaknaa", sum := "d4e06890f0a2beacc41f5f41cd3908637e02871e41a2b4d4d9352d0ad95a53b1", func := "loop.example/g01103/laws.FnExactIsSeriesParallel", spec := "fnExactIsSeriesParallel", unfollowed := true, recurses := true, apart := false, narrowed := true }
def FnExactIsSeriesParallelUptoSaid : Prop := fnExactIsSeriesParallelUptoRow.holds Try.pinned (OpenSpec.upto fnExactIsSeriesParallelSpec)

/-- 'laws.FnExactIsSplit', WHERE WHAT IT READS IS OF BULK AT MOST 1048576: true; the input reads as it did. -/
def fnExactIsSplitUptoRow : OpenClaim := { program := "ytafhfmggehaknaa", sum := "d4e06890f0a2beacc41f5f41cd3908637e02871e41a2b4d4d9352d0ad95a53b1", func := "loop.example/g01103/laws.FnExactIsSplit", spec := "fnExactIsSplit", apart := false, narrowed := true }
def FnExactIsSplitUptoSaid : Prop := fnExactIsSplitUptoRow.holds Try.pinned (OpenSpec.upto fnExactIsSplitSpec)

/-- 'laws.FnExactCountBreaks', WHERE WHAT IT READS IS OF BULK AT MOST 1048576: true; the input reads as it did. -/
def fnExactCountBreaksUptoRow : OpenClaim := { program := "ytafhfmggehaknaa", sum := "d4e06890f0a2beacc41f5f41cd3908637e02871e41a2b4d4d9352d0ad95a53b1", func := "loop.example/g01103/laws.FnExactCountBreaks", spec := "fnExactCountBreaks", apart := false, narrowed := true }
def FnExactCountBreaksUptoSaid : Prop := fnExactCountBreaksUptoRow.holds Try.pinned (OpenSpec.upto fnExactCountBreaksSpec)

/-- 'laws.FnExactPrecedenceClosure', WHERE WHAT IT READS IS OF BULK AT MOST 1048576: true; the input reads as it did. -/
def fnExactPrecedenceClosureUptoRow : OpenClaim := { program := "ytafhfmggehaknaa", sum := "d4e06890f0a2beacc41f5f41cd3908637e02871e41a2b4d4d9352d0ad95a53b1", func := "loop.example/g01103/laws.FnExactPrecedenceClosure", spec := "fnExactPrecedenceClosure", apart := false, narrowed := true }
def FnExactPrecedenceClosureUptoSaid : Prop := fnExactPrecedenceClosureUptoRow.holds Try.pinned (OpenSpec.upto fnExactPrecedenceClosureSpec)

end Rows
end Go.Proofs.Ytafhfmggehaknaa
