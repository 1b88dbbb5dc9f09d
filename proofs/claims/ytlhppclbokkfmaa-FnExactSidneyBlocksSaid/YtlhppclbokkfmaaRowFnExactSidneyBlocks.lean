/- For every list of arguments the law FnExactSidneyBlocks returns true and leaves its arguments as they were. Conditions: none. -/
import Derived.Test.YtlhppclbokkfmaaRows
import Derived.Test.YtlhppclbokkfmaaArgFnExactSidneyBlocks
import Derived.Test.YtlhppclbokkfmaaPureFnExactSidneyBlocks
namespace Go.Proofs.Ytlhppclbokkfmaa.fnExactSidneyBlocks
open Go.ChangeShapes Go.WideShapes Go.ChangeAt Go.RowKit Go.Proofs.Ytlhppclbokkfmaa.Open Go.Proofs.Ytlhppclbokkfmaa.Pure Go.Proofs.Ytlhppclbokkfmaa.OFnExactSidneyBlocks Go.Proofs.YtlhppclbokkfmaaW.PrintWords
open Go.ChangeMaps (open_string shut_string)
set_option linter.unusedVariables false
theorem own : ownKnob Try.prog.godebug = none := by kernel_rfl
theorem laidOut : laidOutB Try.prog = true := by kernel_rfl
set_option maxRecDepth 100000 in
theorem lifted (os : Os) (started : os.Started) (H : Type) (enc : TypeId × Value → H) :
    ReturnsInHanded {} Try.checked os 3 .any (Rows.fnExactSidneyBlocksSpec.pre6 enc Try.prog Try.f3 Rows.fnExactSidneyBlocksRow.domain false) (Rows.fnExactSidneyBlocksSpec.post enc Try.prog Try.f3 false true false false) := by
  refine returnsInHanded_of_change (C := Try.checked) own started (by kernel_rfl) Try.func3
    (ChangeSpec.witness6 (enc := enc) (C := Try.checked) false ⟨#[], #[.slice none 0 0, .slice none 0 0], []⟩ 8 (by kernel_rfl) (by kernel_rfl) (by kernel_rfl) (by kernel_rfl)) ?_
  intro W base args ds gs before hval0 hW hcnd _
  have hval : ∀ (j : Nat) t v, Try.f3.params[j]? = some t → args[j]? = some v → Value.okWide Try.prog W .any base t v := hval0
  have hW' := hW
  obtain ⟨p, q, hA0, hV, rfl, hfz, hnd⟩ := hW
  have hA : DataW.TrodAll enc Try.prog W 0 (fun _ => true) true Try.f3.params.toList args.toList ds p := hA0
  rw [Try.params3] at hA hval
  obtain ⟨v0, vs0, d0, ds0, p0, q0, hargs, rfl, rfl, h0, r0⟩ := trodAll_cons hA
  obtain ⟨v1, vs1, d1, ds1, p1, q1, rfl, rfl, rfl, h1, r1⟩ := trodAll_cons r0
  obtain ⟨rfl, rfl, rfl⟩ := trodAll_nil r1
  obtain rfl : args = #[v0, v1] := by cases args; simp_all
  obtain ⟨rfl, rfl⟩ := trodVars_none hV
  have t0 := h0
  have lt0 : ∀ x ∈ p0, x.block < W.heap.size := by obtain ⟨m, hm⟩ := t0; exact DataW.trod_lt m _ _ _ hm
  obtain ⟨A0, c0, l0, rfl, hc0, hC0, z0, g0⟩ := arg_slice (P := Try.prog) Try.underlying22 (by kernel_rfl) opens52 (hval 0 22 v0 rfl rfl) h0
  have t1 := h1
  have lt1 : ∀ x ∈ p1, x.block < W.heap.size := by obtain ⟨m, hm⟩ := t1; exact DataW.trod_lt m _ _ _ hm
  obtain ⟨A1, c1, l1, rfl, hc1, hC1, z1, g1⟩ := arg_slice (P := Try.prog) Try.underlying23 (by kernel_rfl) opens53 (hval 1 23 v1 rfl rfl) h1
  clear hA0 hval0
  obtain ⟨k, hk⟩ := Pure.FnExactSidneyBlocks l0 l1 z0 g0 z1 g1
  refine (OFnExactSidneyBlocks.laws_FnExactSidneyBlocks.calls k A0 c0 l0 A1 c1 l1 true W hC0 hc0 hC1 hc1 hk).mono fun e W' he => ?_
  have bel : Below W.heap.size W W' := he.2
  obtain rfl := he.1
  exact ⟨_, rfl, _, _, _, [], _, [], hW', trodAll_mk1 (shut_bool Try.underlying4 _), (trodAll_cons_mk (Below.trod laidOut (by kernel_rfl) (of_decide_eq_true (by kernel_rfl)) t0 bel lt0) (trodAll_cons_mk (Below.trod laidOut (by kernel_rfl) (of_decide_eq_true (by kernel_rfl)) t1 bel lt1) trodAll_mk0)), rfl, bel.frame _, fun h => by cases h⟩
theorem over : Rows.fnExactSidneyBlocksRow.holds Try.pinned (OpenSpec.ofChange Rows.fnExactSidneyBlocksSpec) :=
  OpenClaim.holds_of_wide 3 Try.f3 rfl rfl rfl rfl rfl rfl rfl ⟨rfl, rfl, rfl, rfl, rfl⟩ rfl rfl rfl rfl rfl (by kernel_rfl) Try.func3 (by kernel_rfl)
    (of_decide_eq_true (by kernel_rfl)) (by unfold Func.isWrapper; first | (rw [if_pos (by decide +kernel)]; kernel_rfl) | (rw [if_neg (by decide +kernel)]; exact ⟨rfl, rfl⟩))
    (fun os started H enc _ => lifted os started H enc)
theorem proved : Rows.FnExactSidneyBlocksSaid := over
#print axioms proved
end Go.Proofs.Ytlhppclbokkfmaa.fnExactSidneyBlocks
namespace Go.Proofs.Ytlhppclbokkfmaa
/-- The row, under a short name, for the claim. -/
theorem fnExactSidneyBlocks_holds : Rows.FnExactSidneyBlocksSaid := fnExactSidneyBlocks.proved
end Go.Proofs.Ytlhppclbokkfmaa
