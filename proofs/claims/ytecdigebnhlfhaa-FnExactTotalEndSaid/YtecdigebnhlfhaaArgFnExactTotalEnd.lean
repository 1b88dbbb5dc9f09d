/- The arguments of the law FnExactTotalEnd, read; the statement of numbers and lists that is left to prove. Conditions: none. -/
import Derived.Test.YtecdigebnhlfhaaOpen
import Derived.Test.YtecdigebnhlfhaaOFnExactTotalEndx5
namespace Go.Proofs.Ytecdigebnhlfhaa.Pure
open Go.RowKit Go.Proofs.Ytecdigebnhlfhaa.Open Go.Proofs.Ytecdigebnhlfhaa.OFnExactTotalEnd Go.Proofs.YtecdigebnhlfhaaW.PrintWords
def G83 (x : S83) : Prop := I64 x.f0 ∧ I64 x.f1 ∧ I64 x.f2 ∧ I64 x.f3
theorem opens83 : Opens Try.prog 83 k83 G83 := by
  intro H enc W base spare held fuel cs x h
  obtain ⟨ns, hl, rfl, hw⟩ := struct_ints (P := Try.prog) Try.underlying83 (by kernel_rfl) (by
    intro i f hf
    match i, hf with
    | 0, hf => cases hf; exact ⟨rfl, Try.underlying3, by kernel_rfl⟩
    | 1, hf => cases hf; exact ⟨rfl, Try.underlying3, by kernel_rfl⟩
    | 2, hf => cases hf; exact ⟨rfl, Try.underlying3, by kernel_rfl⟩
    | 3, hf => cases hf; exact ⟨rfl, Try.underlying3, by kernel_rfl⟩
    | (i + 4), hf => simp at hf) h
  match ns, hl with
  | [z0, z1, z2, z3], _ =>
    exact ⟨⟨z0, z1, z2, z3⟩, k83_mk _ ⟨z0, z1, z2, z3⟩, ⟨hw z0 (by simp), hw z1 (by simp), hw z2 (by simp), hw z3 (by simp)⟩⟩
/-- The statement of numbers and lists that the law of FnExactTotalEnd comes to. -/
def FnExactTotalEnd.Claim : Prop := ∀ (l0 : List (S83)) (a1 : Int), l0.length ≤ 9223372036854775807 → (∀ x ∈ l0, G83 x) → I64 a1 → ∃ k, laws_FnExactTotalEnd.f k l0 a1 = some true
end Go.Proofs.Ytecdigebnhlfhaa.Pure
