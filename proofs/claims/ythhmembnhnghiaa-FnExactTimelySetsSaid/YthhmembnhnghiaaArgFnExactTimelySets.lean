/- The arguments of the law FnExactTimelySets, read; the statement of numbers and lists that is left to prove. Conditions: none. -/
import Derived.Test.YthhmembnhnghiaaOpen
import Derived.Test.YthhmembnhnghiaaOFnExactTimelySetsx9
namespace Go.Proofs.Ythhmembnhnghiaa.Pure
open Go.RowKit Go.Proofs.Ythhmembnhnghiaa.Open Go.Proofs.Ythhmembnhnghiaa.OFnExactTimelySets Go.Proofs.YthhmembnhnghiaaW.PrintWords
def G63 (x : S63) : Prop := I64 x.f0 ∧ I64 x.f1 ∧ I64 x.f2 ∧ I64 x.f3
theorem opens63 : Opens Try.prog 63 k63 G63 := by
  intro H enc W base spare held fuel cs x h
  obtain ⟨ns, hl, rfl, hw⟩ := struct_ints (P := Try.prog) Try.underlying63 (by kernel_rfl) (by
    intro i f hf
    match i, hf with
    | 0, hf => cases hf; exact ⟨rfl, Try.underlying3, by kernel_rfl⟩
    | 1, hf => cases hf; exact ⟨rfl, Try.underlying3, by kernel_rfl⟩
    | 2, hf => cases hf; exact ⟨rfl, Try.underlying3, by kernel_rfl⟩
    | 3, hf => cases hf; exact ⟨rfl, Try.underlying3, by kernel_rfl⟩
    | (i + 4), hf => simp at hf) h
  match ns, hl with
  | [z0, z1, z2, z3], _ =>
    exact ⟨⟨z0, z1, z2, z3⟩, k63_mk _ ⟨z0, z1, z2, z3⟩, ⟨hw z0 (by simp), hw z1 (by simp), hw z2 (by simp), hw z3 (by simp)⟩⟩
/-- The statement of numbers and lists that the law of FnExactTimelySets comes to. -/
def FnExactTimelySets.Claim : Prop := ∀ (l0 : List (S63)), l0.length ≤ 9223372036854775807 → (∀ x ∈ l0, G63 x) → ∃ k, laws_FnExactTimelySets.f k l0 = some true
end Go.Proofs.Ythhmembnhnghiaa.Pure
