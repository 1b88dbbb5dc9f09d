/- For every list of arguments the law FnExactParseJobs returns true and leaves its arguments as they were. Conditions: none. -/
import Derived.Test.YtnhceifdiaigbaaRows
import Derived.Test.YtnhceifdiaigbaaArgFnExactParseJobs
import Derived.Test.YtnhceifdiaigbaaPureFnExactParseJobs
namespace Go.Proofs.Ytnhceifdiaigbaa.fnExactParseJobs
open Go.ChangeShapes Go.WideShapes Go.ChangeAt Go.RowKit Go.Proofs.Ytnhceifdiaigbaa.Open Go.Proofs.Ytnhceifdiaigbaa.Pure Go.Proofs.Ytnhceifdiaigbaa.OFnExactParseJobs Go.Proofs.YtnhceifdiaigbaaW.PrintWords
open Go.ChangeMaps (open_string shut_string)
set_option linter.unusedVariables false
theorem own : ownKnob Try.prog.godebug = none := by kernel_rfl
theorem laidOut : laidOutB Try.prog = true := by kernel_rfl
set_option maxRecDepth 100000 in
theorem lifted (os : Os) (started : os.Started) (H : Type) (enc : TypeId × Value → H) :
    ReturnsInHanded {} Try.checked os 12 .any (Rows.fnExactParseJobsSpec.pre6 enc Try.prog Try.f12 Rows.fnExactParseJobsRow.domain false) (Rows.fnExactParseJobsSpec.post enc Try.prog Try.f12 false true false false) := by
  refine returnsInHanded_of_change (C := Try.checked) own started (by kernel_rfl) Try.func12
    (ChangeSpec.witness6 (enc := enc) (C := Try.checked) false ⟨#[], #[.string ByteArray.empty], []⟩ 8 (by kernel_rfl) (by kernel_rfl) (by kernel_rfl) (by kernel_rfl)) ?_
  intro W base args ds gs before hval0 hW hcnd _
  have hval : ∀ (j : Nat) t v, Try.f12.params[j]? = some t → args[j]? = some v → Value.okWide Try.prog W .any base t v := hval0
  have hW' := hW
  obtain ⟨p, q, hA0, hV, rfl, hfz, hnd⟩ := hW
  have hA : DataW.TrodAll enc Try.prog W 0 (fun _ => true) true Try.f12.params.toList args.toList ds p := hA0
  rw [Try.params12] at hA hval
  obtain ⟨v0, vs0, d0, ds0, p0, q0, hargs, rfl, rfl, h0, r0⟩ := trodAll_cons hA
  obtain ⟨rfl, rfl, rfl⟩ := trodAll_nil r0
  obtain rfl : args = #[v0] := by cases args; simp_all
  obtain ⟨rfl, rfl⟩ := trodVars_none hV
  obtain ⟨a0, rfl, rfl, rfl, y0⟩ := open_string Try.underlying9 (hval 0 9 v0 rfl rfl) h0
  have w0 : a0.size ≤ 9223372036854775807 := by unfold maxLen at y0; exact y0
  clear hA0 hval0
  obtain ⟨k, hk⟩ := Pure.FnExactParseJobs a0 w0
  refine (OFnExactParseJobs.laws_FnExactParseJobs.calls k a0 true W hk).mono fun e W' he => ?_
  have bel : Below W.heap.size W W' := he.2
  obtain rfl := he.1
  exact ⟨_, rfl, _, _, _, [], _, [], hW', trodAll_mk1 (shut_bool Try.underlying4 _), (trodAll_cons_mk (shut_string Try.underlying9 y0) trodAll_mk0), rfl, bel.frame _, fun h => by cases h⟩
theorem over : Rows.fnExactParseJobsRow.holds Try.pinned (OpenSpec.ofChange Rows.fnExactParseJobsSpec) :=
  OpenClaim.holds_of_wide 12 Try.f12 rfl rfl rfl rfl rfl rfl rfl ⟨rfl, rfl, rfl, rfl, rfl⟩ rfl rfl rfl rfl rfl (by kernel_rfl) Try.func12 (by kernel_rfl)
    (of_decide_eq_true (by kernel_rfl)) (by unfold Func.isWrapper; first | (rw [if_pos (by decide +kernel)]; kernel_rfl) | (rw [if_neg (by decide +kernel)]; exact ⟨rfl, rfl⟩))
    (fun os started H enc _ => lifted os started H enc)
theorem proved : Rows.FnExactParseJobsSaid := over
#print axioms proved
end Go.Proofs.Ytnhceifdiaigbaa.fnExactParseJobs
namespace Go.Proofs.Ytnhceifdiaigbaa
/-- The row, under a short name, for the claim. -/
theorem fnExactParseJobs_holds : Rows.FnExactParseJobsSaid := fnExactParseJobs.proved
end Go.Proofs.Ytnhceifdiaigbaa
