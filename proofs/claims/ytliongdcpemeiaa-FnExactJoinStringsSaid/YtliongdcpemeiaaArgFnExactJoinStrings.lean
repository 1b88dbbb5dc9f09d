/- The arguments of the law FnExactJoinStrings, read; the statement of numbers and lists that is left to prove. Conditions: none. -/
import Derived.Test.YtliongdcpemeiaaOpen
import Derived.Test.YtliongdcpemeiaaOFnExactJoinStringsx2
namespace Go.Proofs.Ytliongdcpemeiaa.Pure
open Go.RowKit Go.Proofs.Ytliongdcpemeiaa.Open Go.Proofs.Ytliongdcpemeiaa.OFnExactJoinStrings Go.Proofs.YtliongdcpemeiaaW.PrintWords
/-- The statement of numbers and lists that the law of FnExactJoinStrings comes to. -/
def FnExactJoinStrings.Claim : Prop := ∀ (l0 : List ByteArray) (a1 : ByteArray), l0.length ≤ 9223372036854775807 → (∀ x ∈ l0, (fun s : ByteArray => s.size ≤ 9223372036854775807) x) → a1.size ≤ 9223372036854775807 → ∃ k, laws_FnExactJoinStrings.f k l0 a1 = some true
end Go.Proofs.Ytliongdcpemeiaa.Pure
