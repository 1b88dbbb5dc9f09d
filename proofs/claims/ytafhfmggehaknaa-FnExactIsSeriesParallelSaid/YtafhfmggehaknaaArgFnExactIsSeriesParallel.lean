/- The arguments of the law FnExactIsSeriesParallel, read; the statement of numbers and lists that is left to prove. Conditions: none. -/
import Derived.Test.YtafhfmggehaknaaOpen
import Derived.Test.YtafhfmggehaknaaOFnExactIsSeriesParallelx10
namespace Go.Proofs.Ytafhfmggehaknaa.Pure
open Go.RowKit Go.Proofs.Ytafhfmggehaknaa.Open Go.Proofs.Ytafhfmggehaknaa.OFnExactIsSeriesParallel Go.Proofs.YtafhfmggehaknaaW.PrintWords
def G63 (x : S63) : Prop := I64 x.f0 ∧ I64 x.f1
theorem opens63 : Opens Try.prog 63 k63 G63 := by
  intro H enc W base spare held fuel cs x h
  obtain ⟨ns, hl, rfl, hw⟩ := array_ints (P := Try.prog) Try.underlying63 (by kernel_rfl) Try.underlying3 (by kernel_rfl) h
  match ns, hl with
  | [z0, z1], _ =>
    exact ⟨⟨z0, z1⟩, k63_mk _ ⟨z0, z1⟩, ⟨hw z0 (by simp), hw z1 (by simp)⟩⟩
/-- The statement of numbers and lists that the law of FnExactIsSeriesParallel comes to. -/
def FnExactIsSeriesParallel.Claim : Prop := ∀ (a0 : Int) (l1 : List (S63)), I64 a0 → l1.length ≤ 9223372036854775807 → (∀ x ∈ l1, G63 x) → ∃ k, laws_FnExactIsSeriesParallel.f k a0 l1 = some true
end Go.Proofs.Ytafhfmggehaknaa.Pure
