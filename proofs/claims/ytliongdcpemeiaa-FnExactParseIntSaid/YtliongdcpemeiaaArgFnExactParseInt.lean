/- The arguments of the law FnExactParseInt, read; the statement of numbers and lists that is left to prove. Conditions: none. -/
import Derived.Test.YtliongdcpemeiaaOpen
import Derived.Test.YtliongdcpemeiaaOFnExactParseIntx2
namespace Go.Proofs.Ytliongdcpemeiaa.Pure
open Go.RowKit Go.Proofs.Ytliongdcpemeiaa.Open Go.Proofs.Ytliongdcpemeiaa.OFnExactParseInt Go.Proofs.YtliongdcpemeiaaW.PrintWords
/-- The statement of numbers and lists that the law of FnExactParseInt comes to. -/
def FnExactParseInt.Claim : Prop := ∀ (a0 : ByteArray), a0.size ≤ 9223372036854775807 → ∃ k, laws_FnExactParseInt.f k a0 = some true
end Go.Proofs.Ytliongdcpemeiaa.Pure
