/- The arguments of the law FnExactVerifyChecksum, read; the statement of numbers and lists that is left to prove. Conditions: none. -/
import Derived.Test.YtliongdcpemeiaaOpen
import Derived.Test.YtliongdcpemeiaaOFnExactVerifyChecksumx2
namespace Go.Proofs.Ytliongdcpemeiaa.Pure
open Go.RowKit Go.Proofs.Ytliongdcpemeiaa.Open Go.Proofs.Ytliongdcpemeiaa.OFnExactVerifyChecksum Go.Proofs.YtliongdcpemeiaaW.PrintWords
/-- The statement of numbers and lists that the law of FnExactVerifyChecksum comes to. -/
def FnExactVerifyChecksum.Claim : Prop := ∀ (a0 : ByteArray), a0.size ≤ 9223372036854775807 → ∃ k, laws_FnExactVerifyChecksum.f k a0 = some true
end Go.Proofs.Ytliongdcpemeiaa.Pure
