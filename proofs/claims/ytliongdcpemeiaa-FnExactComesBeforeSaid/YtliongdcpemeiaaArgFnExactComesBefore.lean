/- The arguments of the law FnExactComesBefore, read; the statement of numbers and lists that is left to prove. Conditions: none. -/
import Derived.Test.YtliongdcpemeiaaOpen
import Derived.Test.YtliongdcpemeiaaPFnExactComesBeforex6
namespace Go.Proofs.Ytliongdcpemeiaa.Pure
open Go.RowKit Go.Proofs.Ytliongdcpemeiaa.Open Go.Proofs.Ytliongdcpemeiaa.PFnExactComesBefore Go.Proofs.YtliongdcpemeiaaW.PrintWords
def G58 (x : S58) : Prop := I64 x.f0 ∧ I64 x.f1 ∧ I64 x.f2 ∧ I64 x.f3
theorem opens58 : Opens Try.prog 58 k58 G58 := by
  intro H enc W base spare held fuel cs x h
  obtain ⟨ns, hl, rfl, hw⟩ := struct_ints (P := Try.prog) Try.underlying58 (by kernel_rfl) (by
    intro i f hf
    match i, hf with
    | 0, hf => cases hf; exact ⟨rfl, Try.underlying3, by kernel_rfl⟩
    | 1, hf => cases hf; exact ⟨rfl, Try.underlying3, by kernel_rfl⟩
    | 2, hf => cases hf; exact ⟨rfl, Try.underlying3, by kernel_rfl⟩
    | 3, hf => cases hf; exact ⟨rfl, Try.underlying3, by kernel_rfl⟩
    | (i + 4), hf => simp at hf) h
  match ns, hl with
  | [z0, z1, z2, z3], _ =>
    exact ⟨⟨z0, z1, z2, z3⟩, k58_mk _ ⟨z0, z1, z2, z3⟩, ⟨hw z0 (by simp), hw z1 (by simp), hw z2 (by simp), hw z3 (by simp)⟩⟩
/-- The statement of numbers and lists that the law of FnExactComesBefore comes to. -/
def FnExactComesBefore.Claim : Prop := ∀ (l0 : List (S58)) (a1 : Int) (a2 : Int), l0.length ≤ 9223372036854775807 → (∀ x ∈ l0, G58 x) → I64 a1 → I64 a2 → ∃ k, laws_FnExactComesBefore.f k l0 a1 a2 = some true
end Go.Proofs.Ytliongdcpemeiaa.Pure
