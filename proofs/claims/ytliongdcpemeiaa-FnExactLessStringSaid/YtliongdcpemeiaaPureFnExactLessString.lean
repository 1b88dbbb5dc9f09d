/- The program's function and the reference's come to the same answer: the statement of numbers and lists behind the law FnExactLessString. Conditions: none. -/
import Derived.Test.YtliongdcpemeiaaPFnExactLessStringx1
import Derived.Test.YtliongdcpemeiaaBase
namespace Go.Proofs.Ytliongdcpemeiaa.Pure
open Go.RowKit Go.Proofs.Ytliongdcpemeiaa.PFnExactLessString Go.Proofs.Ytliongdcpemeiaa.Base Go.Proofs.YtliongdcpemeiaaW.PrintWords Go.Proofs.YtliongdcpemeiaaW.PrintLast Go.Proofs.YtliongdcpemeiaaW.PrintMore
set_option linter.unusedVariables false
set_option linter.unusedSimpArgs false

theorem FnExactLessString : laws_FnExactLessString.Pure := by
  intro a b ha hb
  unfold laws_FnExactLessString.f spec_LessString.f impl_LessString.f
  simp

end Go.Proofs.Ytliongdcpemeiaa.Pure
