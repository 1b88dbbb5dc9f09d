/- The arguments of the law FnExactFormatInt, read; the statement of numbers and lists that is left to prove. Conditions: none. -/
import Derived.Test.YtliongdcpemeiaaOpen
import Derived.Test.YtliongdcpemeiaaOFnExactFormatIntx1
namespace Go.Proofs.Ytliongdcpemeiaa.Pure
open Go.RowKit Go.Proofs.Ytliongdcpemeiaa.Open Go.Proofs.Ytliongdcpemeiaa.OFnExactFormatInt Go.Proofs.YtliongdcpemeiaaW.PrintWords
/-- The statement of numbers and lists that the law of FnExactFormatInt comes to. -/
def FnExactFormatInt.Claim : Prop := ∀ (a0 : Int), I64 a0 → ∃ k, laws_FnExactFormatInt.f k a0 = some true
end Go.Proofs.Ytliongdcpemeiaa.Pure
