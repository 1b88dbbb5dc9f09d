/- The arguments of the law FnExactPlanLength, read; the statement of numbers and lists that is left to prove. Conditions: none. -/
import Derived.Test.YtecdigebnhlfhaaOpen
import Derived.Test.YtecdigebnhlfhaaOFnExactPlanLengthx12
namespace Go.Proofs.Ytecdigebnhlfhaa.Pure
open Go.RowKit Go.Proofs.Ytecdigebnhlfhaa.Open Go.Proofs.Ytecdigebnhlfhaa.OFnExactPlanLength Go.Proofs.YtecdigebnhlfhaaW.PrintWords
def G83 (x : S83) : Prop := I64 x.f0 ∧ I64 x.f1 ∧ I64 x.f2 ∧ I64 x.f3
theorem opens83 : Opens Try.prog 83 k83 G83 := by
  intro H enc W base spare held fuel cs x h
  obtain ⟨ns, hl, rfl, hw⟩ := struct_ints (P := Try.prog) Try.underlying83 (by kernel_rfl) (by
    intro i f hf
    match i, hf with
    | 0, hf => cases hf; exact ⟨rfl, Try.underlying3, by kernel_rfl⟩
    | 1, hf => cases hf; exact ⟨rfl, Try.underlying3, by kernel_rfl⟩
    | 2, hf => cases hf; exact ⟨rfl, Try.underlying3, by kernel_rfl⟩
    | 3, hf => cases hf; exact ⟨rfl, Try.underlying3, by kernel_rfl⟩
    | (i + 4), hf => simp at hf) h
  match ns, hl with
  | [z0, z1, z2, z3], _ =>
    exact ⟨⟨z0, z1, z2, z3⟩, k83_mk _ ⟨z0, z1, z2, z3⟩, ⟨hw z0 (by simp), hw z1 (by simp), hw z2 (by simp), hw z3 (by simp)⟩⟩
def G71 (x : S71) : Prop := I64 x.f0 ∧ I64 x.f1
theorem opens71 : Opens Try.prog 71 k71 G71 := by
  intro H enc W base spare held fuel cs x h
  obtain ⟨ns, hl, rfl, hw⟩ := array_ints (P := Try.prog) Try.underlying71 (by kernel_rfl) Try.underlying3 (by kernel_rfl) h
  match ns, hl with
  | [z0, z1], _ =>
    exact ⟨⟨z0, z1⟩, k71_mk _ ⟨z0, z1⟩, ⟨hw z0 (by simp), hw z1 (by simp)⟩⟩
def G93 (x : S93) : Prop := I64 x.f0 ∧ I64 x.f1 ∧ I64 x.f2
theorem opens93 : Opens Try.prog 93 k93 G93 := by
  intro H enc W base spare held fuel cs x h
  obtain ⟨ns, hl, rfl, hw⟩ := struct_ints (P := Try.prog) Try.underlying93 (by kernel_rfl) (by
    intro i f hf
    match i, hf with
    | 0, hf => cases hf; exact ⟨rfl, Try.underlying3, by kernel_rfl⟩
    | 1, hf => cases hf; exact ⟨rfl, Try.underlying3, by kernel_rfl⟩
    | 2, hf => cases hf; exact ⟨rfl, Try.underlying3, by kernel_rfl⟩
    | (i + 3), hf => simp at hf) h
  match ns, hl with
  | [z0, z1, z2], _ =>
    exact ⟨⟨z0, z1, z2⟩, k93_mk _ ⟨z0, z1, z2⟩, ⟨hw z0 (by simp), hw z1 (by simp), hw z2 (by simp)⟩⟩
/-- The statement of numbers and lists that the law of FnExactPlanLength comes to. -/
def FnExactPlanLength.Claim : Prop := ∀ (l0 : List (S83)) (a1 : Int) (l2 : List (S71)) (l3 : List (S93)), l0.length ≤ 9223372036854775807 → (∀ x ∈ l0, G83 x) → I64 a1 → l2.length ≤ 9223372036854775807 → (∀ x ∈ l2, G71 x) → l3.length ≤ 9223372036854775807 → (∀ x ∈ l3, G93 x) → ∃ k, laws_FnExactPlanLength.f k l0 a1 l2 l3 = some true
end Go.Proofs.Ytecdigebnhlfhaa.Pure
