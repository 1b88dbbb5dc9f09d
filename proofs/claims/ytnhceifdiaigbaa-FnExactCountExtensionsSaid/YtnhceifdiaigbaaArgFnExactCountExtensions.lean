/- The arguments of the law FnExactCountExtensions, read; the statement of numbers and lists that is left to prove. Conditions: none. -/
import Derived.Test.YtnhceifdiaigbaaOpen
import Derived.Test.YtnhceifdiaigbaaOFnExactCountExtensionsx10
namespace Go.Proofs.Ytnhceifdiaigbaa.Pure
open Go.RowKit Go.Proofs.Ytnhceifdiaigbaa.Open Go.Proofs.Ytnhceifdiaigbaa.OFnExactCountExtensions Go.Proofs.YtnhceifdiaigbaaW.PrintWords
def G73 (x : S73) : Prop := I64 x.f0 ∧ I64 x.f1
theorem opens73 : Opens Try.prog 73 k73 G73 := by
  intro H enc W base spare held fuel cs x h
  obtain ⟨ns, hl, rfl, hw⟩ := array_ints (P := Try.prog) Try.underlying73 (by kernel_rfl) Try.underlying3 (by kernel_rfl) h
  match ns, hl with
  | [z0, z1], _ =>
    exact ⟨⟨z0, z1⟩, k73_mk _ ⟨z0, z1⟩, ⟨hw z0 (by simp), hw z1 (by simp)⟩⟩
/-- The statement of numbers and lists that the law of FnExactCountExtensions comes to. -/
def FnExactCountExtensions.Claim : Prop := ∀ (a0 : Int) (l1 : List (S73)), I64 a0 → l1.length ≤ 9223372036854775807 → (∀ x ∈ l1, G73 x) → ∃ k, laws_FnExactCountExtensions.f k a0 l1 = some true
end Go.Proofs.Ytnhceifdiaigbaa.Pure
