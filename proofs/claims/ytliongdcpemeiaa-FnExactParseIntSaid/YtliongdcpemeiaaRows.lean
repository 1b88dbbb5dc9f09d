/-
  No cell of these rows narrows 'for every input' (looked for: loops, veiled, ifaces, maps, wideKeys, modest, calm, conditions, laid).
  DERIVED. THE GIVEN ROWS OF THIS SEAT. 12 by the template 'for every input the law returns true; each argument reads behind the call as it read before'; 0 by the template 'total and deterministic' (their statements: YtliongdcpemeiaaTotals.lean).
  GIVEN WITH THE SEED: the statements are not yours to turn. If you find one false, say at which input.
  Laid BY PROGRAM, IN A SANDBOX (cutbox-rows.mjs): the forced cells as the released guide's own fill.sh prints them over the translation 83c826b016d740a2… (all of the seat's roots in one cut). By AI agents, Wed Nov 11 2026. No macro, syntax, notation, axiom, sorry.
-/
import Derived.Test.YtliongdcpemeiaaChecked
import GoSem.Claim
import GoSem.ClaimJoined
import GoSem.ClaimMapViews
import Derived.JoinedTies
import Derived.KernelRfl
namespace Go.Proofs.Ytliongdcpemeiaa
/- THE CELL 'sum', in the pinned program and in every row, IS THE sha256 OF THE DUMP (.gsa) THAT YtliongdcpemeiaaProg.lean LOADS. Nothing in Lean hashes anything: it is a label: what it is worth is what the hold of that sum in a sandbox is worth. -/
noncomputable def Try.pinned : Pinned := { name := "ytliongdcpemeiaa", sum := "83c826b016d740a26f81f167d57e98e7180568b455c4b2c416c51456bee161c4", checked := Try.checked }
namespace Rows
def none {H : Type} : Left H := { results := [], args := [] }

/-- 'laws.FnExactConstants': WHATEVER THE INPUT: true; the input reads as it did. -/
def fnExactConstantsSpec : ChangeSpec := { name := "fnExactConstants", fn := fun _ => fun
  | [] => { results := [.lit (.bool true)], args := [] }
  | _ => none }
def fnExactConstantsRow : OpenClaim := { program := "ytliongdcpemeiaa", sum := "83c826b016d740a26f81f167d57e98e7180568b455c4b2c416c51456bee161c4", func := "loop.example/g01103/laws.FnExactConstants", spec := "fnExactConstants", apart := false }
def FnExactConstantsSaid : Prop := fnExactConstantsRow.holds Try.pinned (OpenSpec.ofChange fnExactConstantsSpec)

/-- ITS FALSE NEIGHBOUR: 'it returns false'. Refute it at one input. -/
def fnExactConstantsWrong : ChangeSpec := { name := "fnExactConstants", fn := fun _ => fun
  | [] => { results := [.lit (.bool false)], args := [] }
  | _ => none }
def FnExactConstantsWrongFalsely : Prop := fnExactConstantsRow.holds Try.pinned (OpenSpec.ofChange fnExactConstantsWrong)

/-- 'laws.FnExactLessString': WHATEVER THE INPUT: true; the input reads as it did. -/
def fnExactLessStringSpec : ChangeSpec := { name := "fnExactLessString", fn := fun _ => fun
  | [d1, d2] => { results := [.lit (.bool true)], args := [d1, d2] }
  | _ => none }
def fnExactLessStringRow : OpenClaim := { program := "ytliongdcpemeiaa", sum := "83c826b016d740a26f81f167d57e98e7180568b455c4b2c416c51456bee161c4", func := "loop.example/g01103/laws.FnExactLessString", spec := "fnExactLessString", apart := false }
def FnExactLessStringSaid : Prop := fnExactLessStringRow.holds Try.pinned (OpenSpec.ofChange fnExactLessStringSpec)

/-- ITS FALSE NEIGHBOUR: 'it returns false'. Refute it at one input. -/
def fnExactLessStringWrong : ChangeSpec := { name := "fnExactLessString", fn := fun _ => fun
  | [d1, d2] => { results := [.lit (.bool false)], args := [d1, d2] }
  | _ => none }
def FnExactLessStringWrongFalsely : Prop := fnExactLessStringRow.holds Try.pinned (OpenSpec.ofChange fnExactLessStringWrong)

/-- 'laws.FnExactChecksum': WHATEVER THE INPUT: true; the input reads as it did. -/
def fnExactChecksumSpec : ChangeSpec := { name := "fnExactChecksum", fn := fun _ => fun
  | [d] => { results := [.lit (.bool true)], args := [d] }
  | _ => none }
def fnExactChecksumRow : OpenClaim := { program := "ytliongdcpemeiaa", sum := "83c826b016d740a26f81f167d57e98e7180568b455c4b2c416c51456bee161c4", func := "loop.example/g01103/laws.FnExactChecksum", spec := "fnExactChecksum", apart := false }
def FnExactChecksumSaid : Prop := fnExactChecksumRow.holds Try.pinned (OpenSpec.ofChange fnExactChecksumSpec)

/-- ITS FALSE NEIGHBOUR: 'it returns false'. Refute it at one input. -/
def fnExactChecksumWrong : ChangeSpec := { name := "fnExactChecksum", fn := fun _ => fun
  | [d] => { results := [.lit (.bool false)], args := [d] }
  | _ => none }
def FnExactChecksumWrongFalsely : Prop := fnExactChecksumRow.holds Try.pinned (OpenSpec.ofChange fnExactChecksumWrong)

/-- 'laws.FnExactFormatInt': WHATEVER THE INPUT: true; the input reads as it did. -/
def fnExactFormatIntSpec : ChangeSpec := { name := "fnExactFormatInt", fn := fun _ => fun
  | [d] => { results := [.lit (.bool true)], args := [d] }
  | _ => none }
def fnExactFormatIntRow : OpenClaim := { program := "ytliongdcpemeiaa", sum := "83c826b016d740a26f81f167d57e98e7180568b455c4b2c416c51456bee161c4", func := "loop.example/g01103/laws.FnExactFormatInt", spec := "fnExactFormatInt", recurses := true, apart := false }
def FnExactFormatIntSaid : Prop := fnExactFormatIntRow.holds Try.pinned (OpenSpec.ofChange fnExactFormatIntSpec)

/-- ITS FALSE NEIGHBOUR: 'it returns false'. Refute it at one input. -/
def fnExactFormatIntWrong : ChangeSpec := { name := "fnExactFormatInt", fn := fun _ => fun
  | [d] => { results := [.lit (.bool false)], args := [d] }
  | _ => none }
def FnExactFormatIntWrongFalsely : Prop := fnExactFormatIntRow.holds Try.pinned (OpenSpec.ofChange fnExactFormatIntWrong)

/-- 'laws.FnExactParseInt': WHATEVER THE INPUT: true; the input reads as it did. -/
def fnExactParseIntSpec : ChangeSpec := { name := "fnExactParseInt", fn := fun _ => fun
  | [d] => { results := [.lit (.bool true)], args := [d] }
  | _ => none }
def fnExactParseIntRow : OpenClaim := { program := "ytliongdcpemeiaa", sum := "83c826b016d740a26f81f167d57e98e7180568b455c4b2c416c51456bee161c4", func := "loop.example/g01103/laws.FnExactParseInt", spec := "fnExactParseInt", recurses := true, apart := false }
def FnExactParseIntSaid : Prop := fnExactParseIntRow.holds Try.pinned (OpenSpec.ofChange fnExactParseIntSpec)

/-- ITS FALSE NEIGHBOUR: 'it returns false'. Refute it at one input. -/
def fnExactParseIntWrong : ChangeSpec := { name := "fnExactParseInt", fn := fun _ => fun
  | [d] => { results := [.lit (.bool false)], args := [d] }
  | _ => none }
def FnExactParseIntWrongFalsely : Prop := fnExactParseIntRow.holds Try.pinned (OpenSpec.ofChange fnExactParseIntWrong)

/-- 'laws.FnExactSplitString': WHATEVER THE INPUT: true; the input reads as it did. -/
def fnExactSplitStringSpec : ChangeSpec := { name := "fnExactSplitString", fn := fun _ => fun
  | [d1, d2] => { results := [.lit (.bool true)], args := [d1, d2] }
  | _ => none }
def fnExactSplitStringRow : OpenClaim := { program := "ytliongdcpemeiaa", sum := "83c826b016d740a26f81f167d57e98e7180568b455c4b2c416c51456bee161c4", func := "loop.example/g01103/laws.FnExactSplitString", spec := "fnExactSplitString", apart := false }
def FnExactSplitStringSaid : Prop := fnExactSplitStringRow.holds Try.pinned (OpenSpec.ofChange fnExactSplitStringSpec)

/-- ITS FALSE NEIGHBOUR: 'it returns false'. Refute it at one input. -/
def fnExactSplitStringWrong : ChangeSpec := { name := "fnExactSplitString", fn := fun _ => fun
  | [d1, d2] => { results := [.lit (.bool false)], args := [d1, d2] }
  | _ => none }
def FnExactSplitStringWrongFalsely : Prop := fnExactSplitStringRow.holds Try.pinned (OpenSpec.ofChange fnExactSplitStringWrong)

/-- 'laws.FnExactAppendChecksum': WHATEVER THE INPUT: true; the input reads as it did. -/
def fnExactAppendChecksumSpec : ChangeSpec := { name := "fnExactAppendChecksum", fn := fun _ => fun
  | [d] => { results := [.lit (.bool true)], args := [d] }
  | _ => none }
def fnExactAppendChecksumRow : OpenClaim := { program := "ytliongdcpemeiaa", sum := "83c826b016d740a26f81f167d57e98e7180568b455c4b2c416c51456bee161c4", func := "loop.example/g01103/laws.FnExactAppendChecksum", spec := "fnExactAppendChecksum", recurses := true, apart := false }
def FnExactAppendChecksumSaid : Prop := fnExactAppendChecksumRow.holds Try.pinned (OpenSpec.ofChange fnExactAppendChecksumSpec)

/-- ITS FALSE NEIGHBOUR: 'it returns false'. Refute it at one input. -/
def fnExactAppendChecksumWrong : ChangeSpec := { name := "fnExactAppendChecksum", fn := fun _ => fun
  | [d] => { results := [.lit (.bool false)], args := [d] }
  | _ => none }
def FnExactAppendChecksumWrongFalsely : Prop := fnExactAppendChecksumRow.holds Try.pinned (OpenSpec.ofChange fnExactAppendChecksumWrong)

/-- 'laws.FnExactIsJobs': WHATEVER THE INPUT: true; the input reads as it did. -/
def fnExactIsJobsSpec : ChangeSpec := { name := "fnExactIsJobs", fn := fun _ => fun
  | [d] => { results := [.lit (.bool true)], args := [d] }
  | _ => none }
def fnExactIsJobsRow : OpenClaim := { program := "ytliongdcpemeiaa", sum := "83c826b016d740a26f81f167d57e98e7180568b455c4b2c416c51456bee161c4", func := "loop.example/g01103/laws.FnExactIsJobs", spec := "fnExactIsJobs", apart := false }
def FnExactIsJobsSaid : Prop := fnExactIsJobsRow.holds Try.pinned (OpenSpec.ofChange fnExactIsJobsSpec)

/-- ITS FALSE NEIGHBOUR: 'it returns false'. Refute it at one input. -/
def fnExactIsJobsWrong : ChangeSpec := { name := "fnExactIsJobs", fn := fun _ => fun
  | [d] => { results := [.lit (.bool false)], args := [d] }
  | _ => none }
def FnExactIsJobsWrongFalsely : Prop := fnExactIsJobsRow.holds Try.pinned (OpenSpec.ofChange fnExactIsJobsWrong)

/-- 'laws.FnExactVerifyChecksum': WHATEVER THE INPUT: true; the input reads as it did. -/
def fnExactVerifyChecksumSpec : ChangeSpec := { name := "fnExactVerifyChecksum", fn := fun _ => fun
  | [d] => { results := [.lit (.bool true)], args := [d] }
  | _ => none }
def fnExactVerifyChecksumRow : OpenClaim := { program := "ytliongdcpemeiaa", sum := "83c826b016d740a26f81f167d57e98e7180568b455c4b2c416c51456bee161c4", func := "loop.example/g01103/laws.FnExactVerifyChecksum", spec := "fnExactVerifyChecksum", recurses := true, apart := false }
def FnExactVerifyChecksumSaid : Prop := fnExactVerifyChecksumRow.holds Try.pinned (OpenSpec.ofChange fnExactVerifyChecksumSpec)

/-- ITS FALSE NEIGHBOUR: 'it returns false'. Refute it at one input. -/
def fnExactVerifyChecksumWrong : ChangeSpec := { name := "fnExactVerifyChecksum", fn := fun _ => fun
  | [d] => { results := [.lit (.bool false)], args := [d] }
  | _ => none }
def FnExactVerifyChecksumWrongFalsely : Prop := fnExactVerifyChecksumRow.holds Try.pinned (OpenSpec.ofChange fnExactVerifyChecksumWrong)

/-- 'laws.FnExactIsPlain': WHATEVER THE INPUT: true; the input reads as it did. -/
def fnExactIsPlainSpec : ChangeSpec := { name := "fnExactIsPlain", fn := fun _ => fun
  | [d] => { results := [.lit (.bool true)], args := [d] }
  | _ => none }
def fnExactIsPlainRow : OpenClaim := { program := "ytliongdcpemeiaa", sum := "83c826b016d740a26f81f167d57e98e7180568b455c4b2c416c51456bee161c4", func := "loop.example/g01103/laws.FnExactIsPlain", spec := "fnExactIsPlain", apart := false }
def FnExactIsPlainSaid : Prop := fnExactIsPlainRow.holds Try.pinned (OpenSpec.ofChange fnExactIsPlainSpec)

/-- ITS FALSE NEIGHBOUR: 'it returns false'. Refute it at one input. -/
def fnExactIsPlainWrong : ChangeSpec := { name := "fnExactIsPlain", fn := fun _ => fun
  | [d] => { results := [.lit (.bool false)], args := [d] }
  | _ => none }
def FnExactIsPlainWrongFalsely : Prop := fnExactIsPlainRow.holds Try.pinned (OpenSpec.ofChange fnExactIsPlainWrong)

/-- 'laws.FnExactJoinStrings': WHATEVER THE INPUT: true; the input reads as it did. -/
def fnExactJoinStringsSpec : ChangeSpec := { name := "fnExactJoinStrings", fn := fun _ => fun
  | [d1, d2] => { results := [.lit (.bool true)], args := [d1, d2] }
  | _ => none }
def fnExactJoinStringsRow : OpenClaim := { program := "ytliongdcpemeiaa", sum := "83c826b016d740a26f81f167d57e98e7180568b455c4b2c416c51456bee161c4", func := "loop.example/g01103/laws.FnExactJoinStrings", spec := "fnExactJoinStrings", apart := false }
def FnExactJoinStringsSaid : Prop := fnExactJoinStringsRow.holds Try.pinned (OpenSpec.ofChange fnExactJoinStringsSpec)

/-- ITS FALSE NEIGHBOUR: 'it returns false'. Refute it at one input. -/
def fnExactJoinStringsWrong : ChangeSpec := { name := "fnExactJoinStrings", fn := fun _ => fun
  | [d1, d2] => { results := [.lit (.bool false)], args := [d1, d2] }
  | _ => none }
def FnExactJoinStringsWrongFalsely : Prop := fnExactJoinStringsRow.holds Try.pinned (OpenSpec.ofChange fnExactJoinStringsWrong)

/-- 'laws.FnExactComesBefore': WHATEVER THE INPUT: true; the input reads as it did. -/
def fnExactComesBeforeSpec : ChangeSpec := { name := "fnExactComesBefore", fn := fun _ => fun
  | [d1, d2, d3] => { results := [.lit (.bool true)], args := [d1, d2, d3] }
  | _ => none }
def fnExactComesBeforeRow : OpenClaim := { program := "ytliongdcpemeiaa", sum := "83c826b016d740a26f81f167d57e98e7180568b455c4b2c416c51456bee161c4", func := "loop.example/g01103/laws.FnExactComesBefore", spec := "fnExactComesBefore", apart := false }
def FnExactComesBeforeSaid : Prop := fnExactComesBeforeRow.holds Try.pinned (OpenSpec.ofChange fnExactComesBeforeSpec)

/-- ITS FALSE NEIGHBOUR: 'it returns false'. Refute it at one input. -/
def fnExactComesBeforeWrong : ChangeSpec := { name := "fnExactComesBefore", fn := fun _ => fun
  | [d1, d2, d3] => { results := [.lit (.bool false)], args := [d1, d2, d3] }
  | _ => none }
def FnExactComesBeforeWrongFalsely : Prop := fnExactComesBeforeRow.holds Try.pinned (OpenSpec.ofChange fnExactComesBeforeWrong)

/- THE SECOND FORM. 'bulk': how many values and letters a reading holds, each counted each time it is reached (what is shared counts as often as it is met; a slice's spare places count too). A statement '..UptoSaid' is the law's where the arguments, and the package variables that the reading takes, are together of bulk at most 1048576: NARROWER than '..Said'. Prove '..Said' where nothing that the law and all that it calls make is longer than what came in: it says more and counts as full. Else prove '..UptoSaid'. A law counts once. -/
mutual
def uptoBulk {H : Type} : DataW H → Nat
  | .lit (.string bytes) => bytes.length + 1
  | .lit _ => 1
  | .nil => 1
  | .ptr d => uptoBulk d + 1
  | .slice elems spare => uptoBulkAll elems + uptoBulkAll spare + 1
  | .agg parts => uptoBulkAll parts + 1
  | .iface _ d => uptoBulk d + 1
  | .map entries => uptoBulkEntries entries + 1
  | .held _ => 1
def uptoBulkAll {H : Type} : List (DataW H) → Nat
  | [] => 0
  | d :: r => uptoBulk d + uptoBulkAll r
def uptoBulkEntries {H : Type} : List (Lit × DataW H) → Nat
  | [] => 0
  | x :: r => uptoBulkEntry x + uptoBulkEntries r
def uptoBulkEntry {H : Type} : Lit × DataW H → Nat
  | (.string bytes, d) => bytes.length + uptoBulk d + 1
  | (_, d) => uptoBulk d + 1
 end
def uptoSmall : (H : Type) → List (DataW H) → Bool := fun _ ds => decide (uptoBulkAll ds ≤ 1048576)
def OpenSpec.upto (s : _root_.Go.ChangeSpec) : _root_.Go.OpenSpec := { _root_.Go.OpenSpec.ofChange s with cond := some uptoSmall }

/-- 'laws.FnExactConstants', WHERE WHAT IT READS IS OF BULK AT MOST 1048576: true; the input reads as it did. -/
def fnExactConstantsUptoRow : OpenClaim := { program := "ytliongdcpemeiaa", sum := "83c826b016d740a26f81f167d57e98e7180568b455c4b2c416c51456bee161c4", func := "loop.example/g01103/laws.FnExactConstants", spec := "fnExactConstants", apart := false, narrowed := true }
def FnExactConstantsUptoSaid : Prop := fnExactConstantsUptoRow.holds Try.pinned (OpenSpec.upto fnExactConstantsSpec)

/-- 'laws.FnExactLessString', WHERE WHAT IT READS IS OF BULK AT MOST 1048576: true; the input reads as it did. -/
def fnExactLessStringUptoRow : OpenClaim := { program := "ytliongdcpemeiaa", sum := "83c826b016d740a26f81f167d57e98e7180568b455c4b2c416c51456bee161c4", func := "loop.example/g01103/laws.FnExactLessString", spec := "fnExactLessString", apart := false, narrowed := true }
def FnExactLessStringUptoSaid : Prop := fnExactLessStringUptoRow.holds Try.pinned (OpenSpec.upto fnExactLessStringSpec)

/-- 'laws.FnExactChecksum', WHERE WHAT IT READS IS OF BULK AT MOST 1048576: true; the input reads as it did. -/
def fnExactChecksumUptoRow : OpenClaim := { program := "ytliongdcpemeiaa", sum := "83c826b016d740a26f81f167d57e98e7180568b455c4b2c416c51456bee161c4", func := "loop.example/g01103/laws.FnExactChecksum", spec := "fnExactChecksum", apart := false, narrowed := true }
def FnExactChecksumUptoSaid : Prop := fnExactChecksumUptoRow.holds Try.pinned (OpenSpec.upto fnExactChecksumSpec)

/-- 'laws.FnExactFormatInt', WHERE WHAT IT READS IS OF BULK AT MOST 1048576: true; the input reads as it did. -/
def fnExactFormatIntUptoRow : OpenClaim := { program := "ytliongdcpemeiaa", sum := "83c826b016d740a26f81f167d57e98e7180568b455c4b2c416c51456bee161c4", func := "loop.example/g01103/laws.FnExactFormatInt", spec := "fnExactFormatInt", recurses := true, apart := false, narrowed := true }
def FnExactFormatIntUptoSaid : Prop := fnExactFormatIntUptoRow.holds Try.pinned (OpenSpec.upto fnExactFormatIntSpec)

/-- 'laws.FnExactParseInt', WHERE WHAT IT READS IS OF BULK AT MOST 1048576: true; the input reads as it did. -/
def fnExactParseIntUptoRow : OpenClaim := { program := "ytliongdcpemeiaa", sum := "83c826b016d740a26f81f167d57e98e7180568b455c4b2c416c51456bee161c4", func := "loop.example/g01103/laws.FnExactParseInt", spec := "fnExactParseInt", recurses := true, apart := false, narrowed := true }
def FnExactParseIntUptoSaid : Prop := fnExactParseIntUptoRow.holds Try.pinned (OpenSpec.upto fnExactParseIntSpec)

/-- 'laws.FnExactSplitString', WHERE WHAT IT READS IS OF BULK AT MOST 1048576: true; the input reads as it did. -/
def fnExactSplitStringUptoRow : OpenClaim := { program := "ytliongdcpemeiaa", sum := "83c826b016d740a26f81f167d57e98e7180568b455c4b2c416c51456bee161c4", func := "loop.example/g01103/laws.FnExactSplitString", spec := "fnExactSplitString", apart := false, narrowed := true }
def FnExactSplitStringUptoSaid : Prop := fnExactSplitStringUptoRow.holds Try.pinned (OpenSpec.upto fnExactSplitStringSpec)

/-- 'laws.FnExactAppendChecksum', WHERE WHAT IT READS IS OF BULK AT MOST 1048576: true; the input reads as it did. -/
def fnExactAppendChecksumUptoRow : OpenClaim := { program := "ytliongdcpemeiaa", sum := "83c826b016d740a26f81f167d57e98e7180568b455c4b2c416c51456bee161c4", func := "loop.example/g01103/laws.FnExactAppendChecksum", spec := "fnExactAppendChecksum", recurses := true, apart := false, narrowed := true }
def FnExactAppendChecksumUptoSaid : Prop := fnExactAppendChecksumUptoRow.holds Try.pinned (OpenSpec.upto fnExactAppendChecksumSpec)

/-- 'laws.FnExactIsJobs', WHERE WHAT IT READS IS OF BULK AT MOST 1048576: true; the input reads as it did. -/
def fnExactIsJobsUptoRow : OpenClaim := { program := "ytliongdcpemeiaa", sum := "83c826b016d740a26f81f167d57e98e7180568b455c4b2c416c51456bee161c4", func := "loop.example/g01103/laws.FnExactIsJobs", spec := "fnExactIsJobs", apart := false, narrowed := true }
def FnExactIsJobsUptoSaid : Prop := fnExactIsJobsUptoRow.holds Try.pinned (OpenSpec.upto fnExactIsJobsSpec)

/-- 'laws.FnExactVerifyChecksum', WHERE WHAT IT READS IS OF BULK AT MOST 1048576: true; the input reads as it did. -/
def fnExactVerifyChecksumUptoRow : OpenClaim := { program := "ytliongdcpemeiaa", sum := "83c826b016d740a26f81f167d57e98e7180568b455c4b2c416c51456bee161c4", func := "loop.example/g01103/laws.FnExactVerifyChecksum", spec := "fnExactVerifyChecksum", recurses := true, apart := false, narrowed := true }
def FnExactVerifyChecksumUptoSaid : Prop := fnExactVerifyChecksumUptoRow.holds Try.pinned (OpenSpec.upto fnExactVerifyChecksumSpec)

/-- 'laws.FnExactIsPlain', WHERE WHAT IT READS IS OF BULK AT MOST 1048576: true; the input reads as it did. -/
def fnExactIsPlainUptoRow : OpenClaim := { program := "ytliongdcpemeiaa", sum := "83c826b016d740a26f81f167d57e98e7180568b455c4b2c416c51456bee161c4", func := "loop.example/g01103/laws.FnExactIsPlain", spec := "fnExactIsPlain", apart := false, narrowed := true }
def FnExactIsPlainUptoSaid : Prop := fnExactIsPlainUptoRow.holds Try.pinned (OpenSpec.upto fnExactIsPlainSpec)

/-- 'laws.FnExactJoinStrings', WHERE WHAT IT READS IS OF BULK AT MOST 1048576: true; the input reads as it did. -/
def fnExactJoinStringsUptoRow : OpenClaim := { program := "ytliongdcpemeiaa", sum := "83c826b016d740a26f81f167d57e98e7180568b455c4b2c416c51456bee161c4", func := "loop.example/g01103/laws.FnExactJoinStrings", spec := "fnExactJoinStrings", apart := false, narrowed := true }
def FnExactJoinStringsUptoSaid : Prop := fnExactJoinStringsUptoRow.holds Try.pinned (OpenSpec.upto fnExactJoinStringsSpec)

/-- 'laws.FnExactComesBefore', WHERE WHAT IT READS IS OF BULK AT MOST 1048576: true; the input reads as it did. -/
def fnExactComesBeforeUptoRow : OpenClaim := { program := "ytliongdcpemeiaa", sum := "83c826b016d740a26f81f167d57e98e7180568b455c4b2c416c51456bee161c4", func := "loop.example/g01103/laws.FnExactComesBefore", spec := "fnExactComesBefore", apart := false, narrowed := true }
def FnExactComesBeforeUptoSaid : Prop := fnExactComesBeforeUptoRow.holds Try.pinned (OpenSpec.upto fnExactComesBeforeSpec)

end Rows
end Go.Proofs.Ytliongdcpemeiaa
