/- The arguments of the law FnExactSplitEnds, read; the statement of numbers and lists that is left to prove. Conditions: none. -/
import Derived.Test.YtnhceifdiaigbaaOpen
import Derived.Test.YtnhceifdiaigbaaOFnExactSplitEndsx7
namespace Go.Proofs.Ytnhceifdiaigbaa.Pure
open Go.RowKit Go.Proofs.Ytnhceifdiaigbaa.Open Go.Proofs.Ytnhceifdiaigbaa.OFnExactSplitEnds Go.Proofs.YtnhceifdiaigbaaW.PrintWords
def G67 (x : S67) : Prop := I64 x.f0 ∧ I64 x.f1 ∧ I64 x.f2 ∧ I64 x.f3
theorem opens67 : Opens Try.prog 67 k67 G67 := by
  intro H enc W base spare held fuel cs x h
  obtain ⟨ns, hl, rfl, hw⟩ := struct_ints (P := Try.prog) Try.underlying67 (by kernel_rfl) (by
    intro i f hf
    match i, hf with
    | 0, hf => cases hf; exact ⟨rfl, Try.underlying3, by kernel_rfl⟩
    | 1, hf => cases hf; exact ⟨rfl, Try.underlying3, by kernel_rfl⟩
    | 2, hf => cases hf; exact ⟨rfl, Try.underlying3, by kernel_rfl⟩
    | 3, hf => cases hf; exact ⟨rfl, Try.underlying3, by kernel_rfl⟩
    | (i + 4), hf => simp at hf) h
  match ns, hl with
  | [z0, z1, z2, z3], _ =>
    exact ⟨⟨z0, z1, z2, z3⟩, k67_mk _ ⟨z0, z1, z2, z3⟩, ⟨hw z0 (by simp), hw z1 (by simp), hw z2 (by simp), hw z3 (by simp)⟩⟩
def G106 (x : S106) : Prop := I64 x.f0 ∧ I64 x.f1 ∧ I64 x.f2
theorem opens106 : Opens Try.prog 106 k106 G106 := by
  intro H enc W base spare held fuel cs x h
  obtain ⟨ns, hl, rfl, hw⟩ := struct_ints (P := Try.prog) Try.underlying106 (by kernel_rfl) (by
    intro i f hf
    match i, hf with
    | 0, hf => cases hf; exact ⟨rfl, Try.underlying3, by kernel_rfl⟩
    | 1, hf => cases hf; exact ⟨rfl, Try.underlying3, by kernel_rfl⟩
    | 2, hf => cases hf; exact ⟨rfl, Try.underlying3, by kernel_rfl⟩
    | (i + 3), hf => simp at hf) h
  match ns, hl with
  | [z0, z1, z2], _ =>
    exact ⟨⟨z0, z1, z2⟩, k106_mk _ ⟨z0, z1, z2⟩, ⟨hw z0 (by simp), hw z1 (by simp), hw z2 (by simp)⟩⟩
/-- The statement of numbers and lists that the law of FnExactSplitEnds comes to. -/
def FnExactSplitEnds.Claim : Prop := ∀ (l0 : List (S67)) (l1 : List (S106)), l0.length ≤ 9223372036854775807 → (∀ x ∈ l0, G67 x) → l1.length ≤ 9223372036854775807 → (∀ x ∈ l1, G106 x) → ∃ k, laws_FnExactSplitEnds.f k l0 l1 = some true
end Go.Proofs.Ytnhceifdiaigbaa.Pure
