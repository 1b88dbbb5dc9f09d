/- The arguments of the law FnExactSidneyBlocks, read; the statement of numbers and lists that is left to prove. Conditions: none. -/
import Derived.Test.YtlhppclbokkfmaaOpen
import Derived.Test.YtlhppclbokkfmaaOFnExactSidneyBlocksx13
namespace Go.Proofs.Ytlhppclbokkfmaa.Pure
open Go.RowKit Go.Proofs.Ytlhppclbokkfmaa.Open Go.Proofs.Ytlhppclbokkfmaa.OFnExactSidneyBlocks Go.Proofs.YtlhppclbokkfmaaW.PrintWords
def G52 (x : S52) : Prop := I64 x.f0 ∧ I64 x.f1 ∧ I64 x.f2 ∧ I64 x.f3
theorem opens52 : Opens Try.prog 52 k52 G52 := by
  intro H enc W base spare held fuel cs x h
  obtain ⟨ns, hl, rfl, hw⟩ := struct_ints (P := Try.prog) Try.underlying52 (by kernel_rfl) (by
    intro i f hf
    match i, hf with
    | 0, hf => cases hf; exact ⟨rfl, Try.underlying3, by kernel_rfl⟩
    | 1, hf => cases hf; exact ⟨rfl, Try.underlying3, by kernel_rfl⟩
    | 2, hf => cases hf; exact ⟨rfl, Try.underlying3, by kernel_rfl⟩
    | 3, hf => cases hf; exact ⟨rfl, Try.underlying3, by kernel_rfl⟩
    | (i + 4), hf => simp at hf) h
  match ns, hl with
  | [z0, z1, z2, z3], _ =>
    exact ⟨⟨z0, z1, z2, z3⟩, k52_mk _ ⟨z0, z1, z2, z3⟩, ⟨hw z0 (by simp), hw z1 (by simp), hw z2 (by simp), hw z3 (by simp)⟩⟩
def G53 (x : S53) : Prop := I64 x.f0 ∧ I64 x.f1
theorem opens53 : Opens Try.prog 53 k53 G53 := by
  intro H enc W base spare held fuel cs x h
  obtain ⟨ns, hl, rfl, hw⟩ := array_ints (P := Try.prog) Try.underlying53 (by kernel_rfl) Try.underlying3 (by kernel_rfl) h
  match ns, hl with
  | [z0, z1], _ =>
    exact ⟨⟨z0, z1⟩, k53_mk _ ⟨z0, z1⟩, ⟨hw z0 (by simp), hw z1 (by simp)⟩⟩
/-- The statement of numbers and lists that the law of FnExactSidneyBlocks comes to. -/
def FnExactSidneyBlocks.Claim : Prop := ∀ (l0 : List (S52)) (l1 : List (S53)), l0.length ≤ 9223372036854775807 → (∀ x ∈ l0, G52 x) → l1.length ≤ 9223372036854775807 → (∀ x ∈ l1, G53 x) → ∃ k, laws_FnExactSidneyBlocks.f k l0 l1 = some true
end Go.Proofs.Ytlhppclbokkfmaa.Pure
