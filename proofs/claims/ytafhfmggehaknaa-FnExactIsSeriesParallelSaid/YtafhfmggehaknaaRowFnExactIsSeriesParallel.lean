/- For every list of arguments the law FnExactIsSeriesParallel returns true and leaves its arguments as they were. Conditions: none. -/
import Derived.Test.YtafhfmggehaknaaRows
import Derived.Test.YtafhfmggehaknaaArgFnExactIsSeriesParallel
import Derived.Test.YtafhfmggehaknaaPureFnExactIsSeriesParallel
namespace Go.Proofs.Ytafhfmggehaknaa.fnExactIsSeriesParallel
open Go.ChangeShapes Go.WideShapes Go.ChangeAt Go.RowKit Go.Proofs.Ytafhfmggehaknaa.Open Go.Proofs.Ytafhfmggehaknaa.Pure Go.Proofs.Ytafhfmggehaknaa.OFnExactIsSeriesParallel Go.Proofs.YtafhfmggehaknaaW.PrintWords
open Go.ChangeMaps (open_string shut_string)
set_option linter.unusedVariables false
theorem own : ownKnob Try.prog.godebug = none := by kernel_rfl
theorem laidOut : laidOutB Try.prog = true := by kernel_rfl
set_option maxRecDepth 100000 in
theorem lifted (os : Os) (started : os.Started) (H : Type) (enc : TypeId × Value → H) :
    ReturnsInHanded {} Try.checked os 11 .any (Rows.fnExactIsSeriesParallelSpec.pre6 enc Try.prog Try.f11 Rows.fnExactIsSeriesParallelRow.domain false) (Rows.fnExactIsSeriesParallelSpec.post enc Try.prog Try.f11 false true false false) := by
  refine returnsInHanded_of_change (C := Try.checked) own started (by kernel_rfl) Try.func11
    (ChangeSpec.witness6 (enc := enc) (C := Try.checked) false ⟨#[], #[.int .i64 0, .slice none 0 0], []⟩ 8 (by kernel_rfl) (by kernel_rfl) (by kernel_rfl) (by kernel_rfl)) ?_
  intro W base args ds gs before hval0 hW hcnd _
  have hval : ∀ (j : Nat) t v, Try.f11.params[j]? = some t → args[j]? = some v → Value.okWide Try.prog W .any base t v := hval0
  have hW' := hW
  obtain ⟨p, q, hA0, hV, rfl, hfz, hnd⟩ := hW
  have hA : DataW.TrodAll enc Try.prog W 0 (fun _ => true) true Try.f11.params.toList args.toList ds p := hA0
  rw [Try.params11] at hA hval
  obtain ⟨v0, vs0, d0, ds0, p0, q0, hargs, rfl, rfl, h0, r0⟩ := trodAll_cons hA
  obtain ⟨v1, vs1, d1, ds1, p1, q1, rfl, rfl, rfl, h1, r1⟩ := trodAll_cons r0
  obtain ⟨rfl, rfl, rfl⟩ := trodAll_nil r1
  obtain rfl : args = #[v0, v1] := by cases args; simp_all
  obtain ⟨rfl, rfl⟩ := trodVars_none hV
  obtain ⟨a0, rfl, rfl, rfl, w0⟩ := open_int Try.underlying3 (hval 0 3 v0 rfl rfl) h0
  have t1 := h1
  have lt1 : ∀ x ∈ p1, x.block < W.heap.size := by obtain ⟨m, hm⟩ := t1; exact DataW.trod_lt m _ _ _ hm
  obtain ⟨A1, c1, l1, rfl, hc1, hC1, z1, g1⟩ := arg_slice (P := Try.prog) Try.underlying32 (by kernel_rfl) opens63 (hval 1 32 v1 rfl rfl) h1
  clear hA0 hval0
  obtain ⟨k, hk⟩ := Pure.FnExactIsSeriesParallel a0 l1 (i64_wf w0) z1 g1
  refine (OFnExactIsSeriesParallel.laws_FnExactIsSeriesParallel.calls k a0 A1 c1 l1 true W hC1 hc1 hk).mono fun e W' he => ?_
  have bel : Below W.heap.size W W' := he.2
  obtain rfl := he.1
  exact ⟨_, rfl, _, _, _, [], _, [], hW', trodAll_mk1 (shut_bool Try.underlying4 _), (trodAll_cons_mk (shut_int Try.underlying3 w0) (trodAll_cons_mk (Below.trod laidOut (by kernel_rfl) (of_decide_eq_true (by kernel_rfl)) t1 bel lt1) trodAll_mk0)), rfl, bel.frame _, fun h => by cases h⟩
theorem over : Rows.fnExactIsSeriesParallelRow.holds Try.pinned (OpenSpec.ofChange Rows.fnExactIsSeriesParallelSpec) :=
  OpenClaim.holds_of_wide 11 Try.f11 rfl rfl rfl rfl rfl rfl rfl ⟨rfl, rfl, rfl, rfl, rfl⟩ rfl rfl rfl rfl rfl (by kernel_rfl) Try.func11 (by kernel_rfl)
    (of_decide_eq_true (by kernel_rfl)) (by unfold Func.isWrapper; first | (rw [if_pos (by decide +kernel)]; kernel_rfl) | (rw [if_neg (by decide +kernel)]; exact ⟨rfl, rfl⟩))
    (fun os started H enc _ => lifted os started H enc)
theorem proved : Rows.FnExactIsSeriesParallelSaid := over
#print axioms proved
end Go.Proofs.Ytafhfmggehaknaa.fnExactIsSeriesParallel
namespace Go.Proofs.Ytafhfmggehaknaa
/-- The row, under a short name, for the claim. -/
theorem fnExactIsSeriesParallel_holds : Rows.FnExactIsSeriesParallelSaid := fnExactIsSeriesParallel.proved
end Go.Proofs.Ytafhfmggehaknaa
