/- The arguments of the law FnExactLabelsOf, read; the statement of numbers and lists that is left to prove. Conditions: none. -/
import Derived.Test.YtecdigebnhlfhaaOpen
import Derived.Test.YtecdigebnhlfhaaOFnExactLabelsOfx13
namespace Go.Proofs.Ytecdigebnhlfhaa.Pure
open Go.RowKit Go.Proofs.Ytecdigebnhlfhaa.Open Go.Proofs.Ytecdigebnhlfhaa.OFnExactLabelsOf Go.Proofs.YtecdigebnhlfhaaW.PrintWords
def G71 (x : S71) : Prop := I64 x.f0 ∧ I64 x.f1
theorem opens71 : Opens Try.prog 71 k71 G71 := by
  intro H enc W base spare held fuel cs x h
  obtain ⟨ns, hl, rfl, hw⟩ := array_ints (P := Try.prog) Try.underlying71 (by kernel_rfl) Try.underlying3 (by kernel_rfl) h
  match ns, hl with
  | [z0, z1], _ =>
    exact ⟨⟨z0, z1⟩, k71_mk _ ⟨z0, z1⟩, ⟨hw z0 (by simp), hw z1 (by simp)⟩⟩
/-- The statement of numbers and lists that the law of FnExactLabelsOf comes to. -/
def FnExactLabelsOf.Claim : Prop := ∀ (a0 : Int) (l1 : List (S71)), I64 a0 → l1.length ≤ 9223372036854775807 → (∀ x ∈ l1, G71 x) → ∃ k, laws_FnExactLabelsOf.f k a0 l1 = some true
end Go.Proofs.Ytecdigebnhlfhaa.Pure
