/- The arguments of the law FnExactParseJobs, read; the statement of numbers and lists that is left to prove. Conditions: none. -/
import Derived.Test.YtnhceifdiaigbaaOpen
import Derived.Test.YtnhceifdiaigbaaOFnExactParseJobsx6
namespace Go.Proofs.Ytnhceifdiaigbaa.Pure
open Go.RowKit Go.Proofs.Ytnhceifdiaigbaa.Open Go.Proofs.Ytnhceifdiaigbaa.OFnExactParseJobs Go.Proofs.YtnhceifdiaigbaaW.PrintWords
/-- The statement of numbers and lists that the law of FnExactParseJobs comes to. -/
def FnExactParseJobs.Claim : Prop := ∀ (a0 : ByteArray), a0.size ≤ 9223372036854775807 → ∃ k, laws_FnExactParseJobs.f k a0 = some true
end Go.Proofs.Ytnhceifdiaigbaa.Pure
