/- Functions of the program as plain Lean functions, with their contracts: written by this session's program ownprint.py. Conditions: none. -/
import Derived.Test.YtliongdcpemeiaaProg
import Derived.Below
import Derived.Deep.Draws
import Derived.Deep.AppendLies
import Derived.Maps.AppendAt
import Derived.OwnWalk
import Derived.Laws.BytesArg
import Derived.Laws.MakeOwn
import Derived.Laws.OwnMore
import Derived.Deep.OwnRows
import Derived.Tactics
import Derived.Lib.ConvBytes
import Derived.Laws.Slices
import Derived.WalkKit
import Derived.KernelRfl
import Derived.RowKit3
import Derived.Deep.LoopGhost
import Derived.Deep.QuietTactic
import Derived.BigQuiet
import Derived.WideLaws
import Derived.Deep.DeepCutAuto
import Derived.Deep.CutBlock
import Derived.Deep.RegionHeld3
import Derived.Laws.Rows
import Derived.Lib.AppendStr
import Derived.ArgAppend
import Derived.Laws.IdiomCopy
import Derived.OrdersHeld
import Derived.Laws.BitsLemmas
import Derived.RowKit
import Derived.Test.YtliongdcpemeiaaWWords
import Derived.Test.YtliongdcpemeiaaWLast
import Derived.Test.YtliongdcpemeiaaWTab
import Derived.Test.YtliongdcpemeiaaWFour
import Derived.Test.YtliongdcpemeiaaWQPut
import Derived.Test.YtliongdcpemeiaaWApart
import Derived.Test.YtliongdcpemeiaaWArr
import Derived.Test.YtliongdcpemeiaaWZeros
import Derived.Test.YtliongdcpemeiaaWFoot
import Derived.Test.YtliongdcpemeiaaWKept
import Derived.Test.YtliongdcpemeiaaWShare
import Derived.Test.YtliongdcpemeiaaWN
import Derived.Test.YtliongdcpemeiaaWFootNe
import Derived.Test.YtliongdcpemeiaaWAt
import Derived.Test.YtliongdcpemeiaaWEqStruct
import Derived.Test.YtliongdcpemeiaaWRepsOne
import Derived.Test.YtliongdcpemeiaaWInv
import Derived.Test.YtliongdcpemeiaaWInvWords
import Derived.Test.YtliongdcpemeiaaWGuard
import Derived.Test.YtliongdcpemeiaaWNEv
import Derived.Test.YtliongdcpemeiaaWMore
namespace Go.Proofs.Ytliongdcpemeiaa.OFnExactParseInt
open Go.RowKit Go.Proofs.YtliongdcpemeiaaW.PrintWords Go.Proofs.YtliongdcpemeiaaW.PrintLast Go.Proofs.YtliongdcpemeiaaW.PrintMore
attribute [local go_sem] max2_int min2_int max_two min_two max_three min_three max_four min_four   -- for this text's walks alone
set_option linter.unusedVariables false
set_option linter.unusedSimpArgs false



def errW : Option Int → Value
  | none => .nilIface
  | some c => .iface 0 (.int .i64 c)
theorem errW_none : errW none = .nilIface := rfl
theorem errW_some (c : Int) : errW (some c) = .iface 0 (.int .i64 c) := rfl

-- the values' own types

end Go.Proofs.Ytliongdcpemeiaa.OFnExactParseInt
