/- For every list of arguments the law FnExactTotalEnd returns true and leaves its arguments as they were. Conditions: none. -/
import Derived.Test.YtecdigebnhlfhaaRows
import Derived.Test.YtecdigebnhlfhaaArgFnExactTotalEnd
import Derived.Test.YtecdigebnhlfhaaPureFnExactTotalEnd
namespace Go.Proofs.Ytecdigebnhlfhaa.fnExactTotalEnd
open Go.ChangeShapes Go.WideShapes Go.ChangeAt Go.RowKit Go.Proofs.Ytecdigebnhlfhaa.Open Go.Proofs.Ytecdigebnhlfhaa.Pure Go.Proofs.Ytecdigebnhlfhaa.OFnExactTotalEnd Go.Proofs.YtecdigebnhlfhaaW.PrintWords
open Go.ChangeMaps (open_string shut_string)
set_option linter.unusedVariables false
theorem own : ownKnob Try.prog.godebug = none := by kernel_rfl
theorem laidOut : laidOutB Try.prog = true := by kernel_rfl
set_option maxRecDepth 100000 in
theorem lifted (os : Os) (started : os.Started) (H : Type) (enc : TypeId × Value → H) :
    ReturnsInHanded {} Try.checked os 13 .any (Rows.fnExactTotalEndSpec.pre6 enc Try.prog Try.f13 Rows.fnExactTotalEndRow.domain false) (Rows.fnExactTotalEndSpec.post enc Try.prog Try.f13 false true false false) := by
  refine returnsInHanded_of_change (C := Try.checked) own started (by kernel_rfl) Try.func13
    (ChangeSpec.witness6 (enc := enc) (C := Try.checked) false ⟨#[], #[.slice none 0 0, .int .i64 0], []⟩ 8 (by kernel_rfl) (by kernel_rfl) (by kernel_rfl) (by kernel_rfl)) ?_
  intro W base args ds gs before hval0 hW hcnd _
  have hval : ∀ (j : Nat) t v, Try.f13.params[j]? = some t → args[j]? = some v → Value.okWide Try.prog W .any base t v := hval0
  have hW' := hW
  obtain ⟨p, q, hA0, hV, rfl, hfz, hnd⟩ := hW
  have hA : DataW.TrodAll enc Try.prog W 0 (fun _ => true) true Try.f13.params.toList args.toList ds p := hA0
  rw [Try.params13] at hA hval
  obtain ⟨v0, vs0, d0, ds0, p0, q0, hargs, rfl, rfl, h0, r0⟩ := trodAll_cons hA
  obtain ⟨v1, vs1, d1, ds1, p1, q1, rfl, rfl, rfl, h1, r1⟩ := trodAll_cons r0
  obtain ⟨rfl, rfl, rfl⟩ := trodAll_nil r1
  obtain rfl : args = #[v0, v1] := by cases args; simp_all
  obtain ⟨rfl, rfl⟩ := trodVars_none hV
  have t0 := h0
  have lt0 : ∀ x ∈ p0, x.block < W.heap.size := by obtain ⟨m, hm⟩ := t0; exact DataW.trod_lt m _ _ _ hm
  obtain ⟨A0, c0, l0, rfl, hc0, hC0, z0, g0⟩ := arg_slice (P := Try.prog) Try.underlying32 (by kernel_rfl) opens83 (hval 0 32 v0 rfl rfl) h0
  obtain ⟨a1, rfl, rfl, rfl, w1⟩ := open_int Try.underlying3 (hval 1 3 v1 rfl rfl) h1
  clear hA0 hval0
  obtain ⟨k, hk⟩ := Pure.FnExactTotalEnd l0 a1 z0 g0 (i64_wf w1)
  refine (OFnExactTotalEnd.laws_FnExactTotalEnd.calls k A0 c0 l0 a1 true W hC0 hc0 hk).mono fun e W' he => ?_
  have bel : Below W.heap.size W W' := he.2
  obtain rfl := he.1
  exact ⟨_, rfl, _, _, _, [], _, [], hW', trodAll_mk1 (shut_bool Try.underlying4 _), (trodAll_cons_mk (Below.trod laidOut (by kernel_rfl) (of_decide_eq_true (by kernel_rfl)) t0 bel lt0) (trodAll_cons_mk (shut_int Try.underlying3 w1) trodAll_mk0)), rfl, bel.frame _, fun h => by cases h⟩
theorem over : Rows.fnExactTotalEndRow.holds Try.pinned (OpenSpec.ofChange Rows.fnExactTotalEndSpec) :=
  OpenClaim.holds_of_wide 13 Try.f13 rfl rfl rfl rfl rfl rfl rfl ⟨rfl, rfl, rfl, rfl, rfl⟩ rfl rfl rfl rfl rfl (by kernel_rfl) Try.func13 (by kernel_rfl)
    (of_decide_eq_true (by kernel_rfl)) (by unfold Func.isWrapper; first | (rw [if_pos (by decide +kernel)]; kernel_rfl) | (rw [if_neg (by decide +kernel)]; exact ⟨rfl, rfl⟩))
    (fun os started H enc _ => lifted os started H enc)
theorem proved : Rows.FnExactTotalEndSaid := over
#print axioms proved
end Go.Proofs.Ytecdigebnhlfhaa.fnExactTotalEnd
namespace Go.Proofs.Ytecdigebnhlfhaa
/-- The row, under a short name, for the claim. -/
theorem fnExactTotalEnd_holds : Rows.FnExactTotalEndSaid := fnExactTotalEnd.proved
end Go.Proofs.Ytecdigebnhlfhaa
