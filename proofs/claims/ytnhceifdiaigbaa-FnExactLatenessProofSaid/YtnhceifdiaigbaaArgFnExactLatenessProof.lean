/- The arguments of the law FnExactLatenessProof, read; the statement of numbers and lists that is left to prove. Conditions: none. -/
import Derived.Test.YtnhceifdiaigbaaOpen
import Derived.Test.YtnhceifdiaigbaaOFnExactLatenessProofx5
namespace Go.Proofs.Ytnhceifdiaigbaa.Pure
open Go.RowKit Go.Proofs.Ytnhceifdiaigbaa.Open Go.Proofs.Ytnhceifdiaigbaa.OFnExactLatenessProof Go.Proofs.YtnhceifdiaigbaaW.PrintWords
def G67 (x : S67) : Prop := I64 x.f0 ∧ I64 x.f1 ∧ I64 x.f2 ∧ I64 x.f3
theorem opens67 : Opens Try.prog 67 k67 G67 := by
  intro H enc W base spare held fuel cs x h
  obtain ⟨ns, hl, rfl, hw⟩ := struct_ints (P := Try.prog) Try.underlying67 (by kernel_rfl) (by
    intro i f hf
    match i, hf with
    | 0, hf => cases hf; exact ⟨rfl, Try.underlying3, by kernel_rfl⟩
    | 1, hf => cases hf; exact ⟨rfl, Try.underlying3, by kernel_rfl⟩
    | 2, hf => cases hf; exact ⟨rfl, Try.underlying3, by kernel_rfl⟩
    | 3, hf => cases hf; exact ⟨rfl, Try.underlying3, by kernel_rfl⟩
    | (i + 4), hf => simp at hf) h
  match ns, hl with
  | [z0, z1, z2, z3], _ =>
    exact ⟨⟨z0, z1, z2, z3⟩, k67_mk _ ⟨z0, z1, z2, z3⟩, ⟨hw z0 (by simp), hw z1 (by simp), hw z2 (by simp), hw z3 (by simp)⟩⟩
/-- The statement of numbers and lists that the law of FnExactLatenessProof comes to. -/
def FnExactLatenessProof.Claim : Prop := ∀ (l0 : List (S67)), l0.length ≤ 9223372036854775807 → (∀ x ∈ l0, G67 x) → ∃ k, laws_FnExactLatenessProof.f k l0 = some true
end Go.Proofs.Ytnhceifdiaigbaa.Pure
