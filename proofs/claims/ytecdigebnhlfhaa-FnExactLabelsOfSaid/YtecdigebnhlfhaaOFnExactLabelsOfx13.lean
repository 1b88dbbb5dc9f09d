/- Functions of the program as plain Lean functions, with their contracts: written by this session's program ownprint.py. Conditions: none. -/
import Derived.Test.YtecdigebnhlfhaaOFnExactLabelsOfx0
import Derived.Test.YtecdigebnhlfhaaOFnExactLabelsOfx1
import Derived.Test.YtecdigebnhlfhaaOFnExactLabelsOfx2
import Derived.Test.YtecdigebnhlfhaaOFnExactLabelsOfx7
import Derived.Test.YtecdigebnhlfhaaOFnExactLabelsOfx9
import Derived.Test.YtecdigebnhlfhaaOFnExactLabelsOfx12
namespace Go.Proofs.Ytecdigebnhlfhaa.OFnExactLabelsOf
open Go.RowKit Go.Proofs.YtecdigebnhlfhaaW.PrintWords Go.Proofs.YtecdigebnhlfhaaW.PrintLast Go.Proofs.YtecdigebnhlfhaaW.PrintMore
attribute [local go_sem] max2_int min2_int max_two min_two max_three min_three max_four min_four   -- for this text's walks alone
set_option linter.unusedVariables false
set_option linter.unusedSimpArgs false

/-! ### impl_LabelsOf: function 33 -/
def impl_LabelsOf.f (k : Nat) (a0 : Int) (l1 : List (S71)) : Option (List Int × Bool) := (impl_IsPrecedence.f k a0 l1).bind fun t315 => (if t315 = true then ((impl_labelsOf.f k a0 l1).bind fun t316 => (some (t316, true))) else (some (([] : List Int), false)))
theorem impl_LabelsOf.mono : ∀ a0 a1 k, LeO (impl_LabelsOf.f k a0 a1) (impl_LabelsOf.f (k + 1) a0 a1) := by
 intro a0 a1 k
 unfold impl_LabelsOf.f
 repeat' first
   | (with_reducible exact impl_IsPrecedence.mono _ _ _)
   | (with_reducible exact impl_labelsOf.mono _ _ _)
   | (with_reducible exact LeO.refl _)
   | (with_reducible exact LeO.none _)
   | (with_reducible refine LeO.ite ?_ ?_)
   | (with_reducible refine LeO.bind ?_ (fun _ => ?_))
   | exact impl_IsPrecedence.mono _ _ _
   | exact impl_labelsOf.mono _ _ _
   | exact LeO.none _
   | refine LeO.ite ?_ ?_
   | refine LeO.bind ?_ (fun _ => ?_)
set_option maxHeartbeats 8000000 in
set_option maxRecDepth 100000 in
theorem impl_LabelsOf.calls (k : Nat) (a0 : Int) (A1 : Option Addr) (c1 : Nat) (l1 : List (S71)) (r1 : List Int) (r2 : Bool) (w : World) (hr1 : Kd.C k71 w A1 l1.length l1) (hc1 : l1.length ≤ c1) (h : impl_LabelsOf.f k a0 l1 = some (r1, r2)) :
  Calls Try.prog 33 #[.int .i64 a0, .slice A1 l1.length c1] w fun e w' => ∃ v0_ : Value, e = .returned (.tuple #[v0_, .bool r2]) ∧ Kd.R (Kd.int .i64) 3 w' w.heap.size (fun _ => True) v0_ r1 ∧ Below w.heap.size w w' := by
 have HR1 := Aside0.mk hr1
 have HC1 := Aside0.mk hc1
 clear hr1 hc1
 have HB := Aside0.mk (Below.refl w.heap.size w)
 have H : ((impl_IsPrecedence.f k a0 l1).bind fun t315 => (if t315 = true then ((impl_labelsOf.f k a0 l1).bind fun t316 => (some (t316, true))) else (some (([] : List Int), false)))) = some (r1, r2) := h
 clear h
 replace H := Option.bind_eq_some_iff.mp H
 obtain ⟨t315, A30, H⟩ := H
 replace H : (if t315 = true then ((impl_labelsOf.f k a0 l1).bind fun t316 => (some (t316, true))) else (some (([] : List Int), false))) = some (r1, r2) := H
 have A3 := Aside0.mk A30
 clear A30
 by_cases c4 : t315 = true
 ·subst c4
  have H1 : ((impl_labelsOf.f k a0 l1).bind fun t316 => (some (t316, true))) = some (r1, r2) := by rw [if_pos rfl] at H; exact H
  clear H
  have H := H1
  clear H1
  replace H := Option.bind_eq_some_iff.mp H
  obtain ⟨t316, A50, H⟩ := H
  replace H : (some (t316, true)) = some (r1, r2) := H
  have A5 := Aside0.mk A50
  clear A50
  simp only [Option.some.injEq, Prod.mk.injEq] at H
  obtain ⟨rfl, rfl⟩ := H
  go_enter Try.func33, Try.ntmps33
  go_wp2_with (first | ((with_reducible refine gate_callee (f := 62) rfl ?_); refine goesL_ (some 8) rfl rfl Try.func62 (by kernel_rfl) rfl #[.int .i64 a0, .slice A1 l1.length c1] rfl aE ?_; (with_reducible refine (impl_IsPrecedence.calls k a0 _ _ l1 true _ ?side1 ?side2 A3.out).mono ?_); (case side1 => exact cK HR1.out); (case side2 => exact HC1.out); rintro e w6 ⟨rfl, hb⟩; refine ⟨_, rfl, ?_⟩; have n0_ := Aside0.mk (below_step bB hb); clear HB; have HB := n0_; clear n0_; (try clear hb)) | ((with_reducible refine gate_callee (f := 74) rfl ?_); refine goesL_ (some 12) rfl rfl Try.func74 (by kernel_rfl) rfl #[.int .i64 a0, .slice A1 l1.length c1] rfl aE ?_; (with_reducible refine (impl_labelsOf.calls k a0 _ _ l1 t316 _ ?side1 ?side2 A5.out).mono ?_); (case side1 => exact cK ((Kd.C_below HR1.out HB.out))); (case side2 => exact HC1.out); rintro e w7 ⟨v317, rfl, ho0, hb⟩; refine ⟨_, rfl, ?_⟩; have n0_ := Aside0.mk (Kd.R_lower ho0 (below_size bB)); have n1_ := Aside0.mk (below_step bB hb); clear HB; have HO318 := n0_; have HB := n1_; clear n0_ n1_; (try clear hb); (try clear ho0)))
  go_ret2
  exact ⟨_, by first | rfl | (simp [errW_none, errW_some] <;> rfl) | (simp [*, errW_none, errW_some] <;> rfl), by (with_reducible repeat (first | apply Kd.R_alloc | apply Kd.R_drewN | apply Kd.R_drew)); exact HO318.out, bB⟩
 ·replace c4 := Bool.eq_false_iff.mpr c4
  subst c4
  have H1 : (some (([] : List Int), false)) = some (r1, r2) := by rw [if_neg (show ¬ (false = true) by decide)] at H; exact H
  clear H
  have H := H1
  clear H1
  simp only [Option.some.injEq, Prod.mk.injEq] at H
  obtain ⟨rfl, rfl⟩ := H
  go_enter Try.func33, Try.ntmps33
  go_wp2_with (first | ((with_reducible refine gate_callee (f := 62) rfl ?_); refine goesL_ (some 8) rfl rfl Try.func62 (by kernel_rfl) rfl #[.int .i64 a0, .slice A1 l1.length c1] rfl aE ?_; (with_reducible refine (impl_IsPrecedence.calls k a0 _ _ l1 false _ ?side1 ?side2 A3.out).mono ?_); (case side1 => exact cK HR1.out); (case side2 => exact HC1.out); rintro e w8 ⟨rfl, hb⟩; refine ⟨_, rfl, ?_⟩; have n0_ := Aside0.mk (below_step bB hb); clear HB; have HB := n0_; clear n0_; (try clear hb)))
  go_ret2
  exact ⟨_, by first | rfl | (simp [errW_none, errW_some] <;> rfl) | (simp [*, errW_none, errW_some] <;> rfl), by first | exact Kd.R_nil _ _ _ _ _ | exact Kd.N_nil _ _ _ _ _ | exact Kd.V_nil _ _ _ _ _ | exact Kd.Q_nil _ _ _ _ _ | exact Kd.S_nil _ _ _ _ _, bB⟩

/-! ### laws_FnExactLabelsOf: function 5 -/
mutual
def laws_FnExactLabelsOf.j0 : Nat → Int → List (S71) → List Int → Bool → List (S71) → List Int → Bool → Bool → Option (Bool)
 | 0, _, _, _, _, _, _, _, _ => none
 | k + 1, x0, x1, x6, x7, x8, x9, x10, x44 => if x44 = true then (some false) else ((laws_toIntA2S.f k x1).bind fun t335 => ((laws_eqIntA2S.f k x8 t335).bind fun t338 => (if t338 = true then ((laws_markIntA2S.f k x8 1).bind fun bt339 => (if bt339.1 < 0 then (laws_FnExactLabelsOf.j1 k x0 x1 x6 x7 x9 true) else ((laws_eqIntS.f k x9 x6).bind fun t341 => (if t341 = true then (laws_FnExactLabelsOf.j1 k x0 x1 x6 x7 x9 (x10 != x7)) else (laws_FnExactLabelsOf.j1 k x0 x1 x6 x7 x9 true))))) else (some false))))
def laws_FnExactLabelsOf.j1 : Nat → Int → List (S71) → List Int → Bool → List Int → Bool → Option (Bool)
 | 0, _, _, _, _, _, _ => none
 | k + 1, x0, x1, x6, x7, x9, x65 => if x65 = true then (some false) else ((laws_markIntS.f k x9 1).bind fun bt342 => ((laws_heldIntS.f k bt342.2 1).bind fun t344 => (if t344 < 0 then (some false) else (if t344 = bt342.1 then ((laws_toIntA2S.f k x1).bind fun t345 => ((impl_LabelsOf.f k x0 t345).bind fun bt348 => ((laws_eqIntS.f k bt348.1 x6).bind fun t352 => (if t352 = true then (laws_FnExactLabelsOf.j2 k bt342.2 bt342.1 (bt348.2 != x7)) else (laws_FnExactLabelsOf.j2 k bt342.2 bt342.1 true))))) else (some false)))))
def laws_FnExactLabelsOf.j2 : Nat → List Int → Int → Bool → Option (Bool)
 | 0, _, _, _ => none
 | k + 1, x9, x12, x92 => if x92 = true then (some false) else ((laws_heldIntS.f k x9 1).bind fun t353 => (if t353 < 0 then (some false) else (if t353 = x12 then (some true) else (some false))))
end
def laws_FnExactLabelsOf.f (k : Nat) (a0 : Int) (l1 : List (S71)) : Option (Bool) := (laws_szIntA2S.f l1 1048576).bind fun t319 => (if t319 < 0 then (some true) else ((laws_toIntA2S.f k l1).bind fun t320 => ((spec_LabelsOf.f k a0 t320).bind fun bt323 => ((laws_toIntA2S.f k l1).bind fun t327 => ((impl_LabelsOf.f k a0 t327).bind fun bt330 => ((laws_eqIntS.f k bt330.1 bt323.1).bind fun t334 => (if t334 = true then (laws_FnExactLabelsOf.j0 k a0 l1 bt323.1 bt323.2 t327 bt330.1 bt330.2 (bt330.2 != bt323.2)) else (laws_FnExactLabelsOf.j0 k a0 l1 bt323.1 bt323.2 t327 bt330.1 bt330.2 true))))))))
theorem laws_FnExactLabelsOf.mono_l : ∀ k, (∀ y0 y1 y2 y3 y4 y5 y6 y7, LeO (laws_FnExactLabelsOf.j0 k y0 y1 y2 y3 y4 y5 y6 y7) (laws_FnExactLabelsOf.j0 (k + 1) y0 y1 y2 y3 y4 y5 y6 y7)) ∧ (∀ y0 y1 y2 y3 y4 y5, LeO (laws_FnExactLabelsOf.j1 k y0 y1 y2 y3 y4 y5) (laws_FnExactLabelsOf.j1 (k + 1) y0 y1 y2 y3 y4 y5)) ∧ (∀ y0 y1 y2, LeO (laws_FnExactLabelsOf.j2 k y0 y1 y2) (laws_FnExactLabelsOf.j2 (k + 1) y0 y1 y2))
 | 0 => ⟨fun _ _ _ _ _ _ _ _ r h => by simp [laws_FnExactLabelsOf.j0] at h, fun _ _ _ _ _ _ r h => by simp [laws_FnExactLabelsOf.j1] at h, fun _ _ _ r h => by simp [laws_FnExactLabelsOf.j2] at h⟩
 | k + 1 => by
  obtain ⟨ih0, ih1, ih2⟩ := laws_FnExactLabelsOf.mono_l k
  refine ⟨?_, ?_, ?_⟩
  ·intro y0 y1 y2 y3 y4 y5 y6 y7
   unfold laws_FnExactLabelsOf.j0
   repeat' first
   | (with_reducible exact ih0 _ _ _ _ _ _ _ _)
   | (with_reducible exact ih1 _ _ _ _ _ _)
   | (with_reducible exact ih2 _ _ _)
   | (with_reducible exact impl_LabelsOf.mono _ _ _)
   | (with_reducible exact laws_eqIntA2S.mono _ _ _)
   | (with_reducible exact laws_eqIntS.mono _ _ _)
   | (with_reducible exact laws_heldIntS.mono _ _ _)
   | (with_reducible exact laws_markIntA2S.mono _ _ _)
   | (with_reducible exact laws_markIntS.mono _ _ _)
   | (with_reducible exact laws_toIntA2S.mono _ _)
   | (with_reducible exact spec_LabelsOf.mono _ _ _)
   | (with_reducible exact LeO.refl _)
   | (with_reducible exact LeO.none _)
   | (with_reducible refine LeO.ite ?_ ?_)
   | (with_reducible refine LeO.bind ?_ (fun _ => ?_))
   | exact ih0 _ _ _ _ _ _ _ _
   | exact ih1 _ _ _ _ _ _
   | exact ih2 _ _ _
   | exact impl_LabelsOf.mono _ _ _
   | exact laws_eqIntA2S.mono _ _ _
   | exact laws_eqIntS.mono _ _ _
   | exact laws_heldIntS.mono _ _ _
   | exact laws_markIntA2S.mono _ _ _
   | exact laws_markIntS.mono _ _ _
   | exact laws_toIntA2S.mono _ _
   | exact spec_LabelsOf.mono _ _ _
   | exact LeO.none _
   | refine LeO.ite ?_ ?_
   | refine LeO.bind ?_ (fun _ => ?_)
  ·intro y0 y1 y2 y3 y4 y5
   unfold laws_FnExactLabelsOf.j1
   repeat' first
   | (with_reducible exact ih0 _ _ _ _ _ _ _ _)
   | (with_reducible exact ih1 _ _ _ _ _ _)
   | (with_reducible exact ih2 _ _ _)
   | (with_reducible exact impl_LabelsOf.mono _ _ _)
   | (with_reducible exact laws_eqIntA2S.mono _ _ _)
   | (with_reducible exact laws_eqIntS.mono _ _ _)
   | (with_reducible exact laws_heldIntS.mono _ _ _)
   | (with_reducible exact laws_markIntA2S.mono _ _ _)
   | (with_reducible exact laws_markIntS.mono _ _ _)
   | (with_reducible exact laws_toIntA2S.mono _ _)
   | (with_reducible exact spec_LabelsOf.mono _ _ _)
   | (with_reducible exact LeO.refl _)
   | (with_reducible exact LeO.none _)
   | (with_reducible refine LeO.ite ?_ ?_)
   | (with_reducible refine LeO.bind ?_ (fun _ => ?_))
   | exact ih0 _ _ _ _ _ _ _ _
   | exact ih1 _ _ _ _ _ _
   | exact ih2 _ _ _
   | exact impl_LabelsOf.mono _ _ _
   | exact laws_eqIntA2S.mono _ _ _
   | exact laws_eqIntS.mono _ _ _
   | exact laws_heldIntS.mono _ _ _
   | exact laws_markIntA2S.mono _ _ _
   | exact laws_markIntS.mono _ _ _
   | exact laws_toIntA2S.mono _ _
   | exact spec_LabelsOf.mono _ _ _
   | exact LeO.none _
   | refine LeO.ite ?_ ?_
   | refine LeO.bind ?_ (fun _ => ?_)
  ·intro y0 y1 y2
   unfold laws_FnExactLabelsOf.j2
   repeat' first
   | (with_reducible exact ih0 _ _ _ _ _ _ _ _)
   | (with_reducible exact ih1 _ _ _ _ _ _)
   | (with_reducible exact ih2 _ _ _)
   | (with_reducible exact impl_LabelsOf.mono _ _ _)
   | (with_reducible exact laws_eqIntA2S.mono _ _ _)
   | (with_reducible exact laws_eqIntS.mono _ _ _)
   | (with_reducible exact laws_heldIntS.mono _ _ _)
   | (with_reducible exact laws_markIntA2S.mono _ _ _)
   | (with_reducible exact laws_markIntS.mono _ _ _)
   | (with_reducible exact laws_toIntA2S.mono _ _)
   | (with_reducible exact spec_LabelsOf.mono _ _ _)
   | (with_reducible exact LeO.refl _)
   | (with_reducible exact LeO.none _)
   | (with_reducible refine LeO.ite ?_ ?_)
   | (with_reducible refine LeO.bind ?_ (fun _ => ?_))
   | exact ih0 _ _ _ _ _ _ _ _
   | exact ih1 _ _ _ _ _ _
   | exact ih2 _ _ _
   | exact impl_LabelsOf.mono _ _ _
   | exact laws_eqIntA2S.mono _ _ _
   | exact laws_eqIntS.mono _ _ _
   | exact laws_heldIntS.mono _ _ _
   | exact laws_markIntA2S.mono _ _ _
   | exact laws_markIntS.mono _ _ _
   | exact laws_toIntA2S.mono _ _
   | exact spec_LabelsOf.mono _ _ _
   | exact LeO.none _
   | refine LeO.ite ?_ ?_
   | refine LeO.bind ?_ (fun _ => ?_)
theorem laws_FnExactLabelsOf.mono : ∀ a0 a1 k, LeO (laws_FnExactLabelsOf.f k a0 a1) (laws_FnExactLabelsOf.f (k + 1) a0 a1) := by
 intro a0 a1 k
 obtain ⟨ih0, ih1, ih2⟩ := laws_FnExactLabelsOf.mono_l k
 unfold laws_FnExactLabelsOf.f
 repeat' first
   | (with_reducible exact ih0 _ _ _ _ _ _ _ _)
   | (with_reducible exact ih1 _ _ _ _ _ _)
   | (with_reducible exact ih2 _ _ _)
   | (with_reducible exact impl_LabelsOf.mono _ _ _)
   | (with_reducible exact laws_eqIntA2S.mono _ _ _)
   | (with_reducible exact laws_eqIntS.mono _ _ _)
   | (with_reducible exact laws_heldIntS.mono _ _ _)
   | (with_reducible exact laws_markIntA2S.mono _ _ _)
   | (with_reducible exact laws_markIntS.mono _ _ _)
   | (with_reducible exact laws_toIntA2S.mono _ _)
   | (with_reducible exact spec_LabelsOf.mono _ _ _)
   | (with_reducible exact LeO.refl _)
   | (with_reducible exact LeO.none _)
   | (with_reducible refine LeO.ite ?_ ?_)
   | (with_reducible refine LeO.bind ?_ (fun _ => ?_))
   | exact ih0 _ _ _ _ _ _ _ _
   | exact ih1 _ _ _ _ _ _
   | exact ih2 _ _ _
   | exact impl_LabelsOf.mono _ _ _
   | exact laws_eqIntA2S.mono _ _ _
   | exact laws_eqIntS.mono _ _ _
   | exact laws_heldIntS.mono _ _ _
   | exact laws_markIntA2S.mono _ _ _
   | exact laws_markIntS.mono _ _ _
   | exact laws_toIntA2S.mono _ _
   | exact spec_LabelsOf.mono _ _ _
   | exact LeO.none _
   | refine LeO.ite ?_ ?_
   | refine LeO.bind ?_ (fun _ => ?_)
set_option maxHeartbeats 8000000 in
set_option maxRecDepth 100000 in
theorem laws_FnExactLabelsOf.calls (k : Nat) (a0 : Int) (A1 : Option Addr) (c1 : Nat) (l1 : List (S71)) (r : Bool) (w : World) (hr1 : Kd.C k71 w A1 l1.length l1) (hc1 : l1.length ≤ c1) (h : laws_FnExactLabelsOf.f k a0 l1 = some r) :
  Calls Try.prog 5 #[.int .i64 a0, .slice A1 l1.length c1] w fun e w' => e = .returned (.bool r) ∧ Below w.heap.size w w' := by
 have HR1 := Aside0.mk hr1
 have HC1 := Aside0.mk hc1
 clear hr1 hc1
 have HB := Aside0.mk (Below.refl w.heap.size w)
 have H : ((laws_szIntA2S.f l1 1048576).bind fun t319 => (if t319 < 0 then (some true) else ((laws_toIntA2S.f k l1).bind fun t320 => ((spec_LabelsOf.f k a0 t320).bind fun bt323 => ((laws_toIntA2S.f k l1).bind fun t327 => ((impl_LabelsOf.f k a0 t327).bind fun bt330 => ((laws_eqIntS.f k bt330.1 bt323.1).bind fun t334 => (if t334 = true then (laws_FnExactLabelsOf.j0 k a0 l1 bt323.1 bt323.2 t327 bt330.1 bt330.2 (bt330.2 != bt323.2)) else (laws_FnExactLabelsOf.j0 k a0 l1 bt323.1 bt323.2 t327 bt330.1 bt330.2 true))))))))) = some r := h
 clear h
 replace H := Option.bind_eq_some_iff.mp H
 obtain ⟨t319, A30, H⟩ := H
 replace H : (if t319 < 0 then (some true) else ((laws_toIntA2S.f k l1).bind fun t320 => ((spec_LabelsOf.f k a0 t320).bind fun bt323 => ((laws_toIntA2S.f k l1).bind fun t327 => ((impl_LabelsOf.f k a0 t327).bind fun bt330 => ((laws_eqIntS.f k bt330.1 bt323.1).bind fun t334 => (if t334 = true then (laws_FnExactLabelsOf.j0 k a0 l1 bt323.1 bt323.2 t327 bt330.1 bt330.2 (bt330.2 != bt323.2)) else (laws_FnExactLabelsOf.j0 k a0 l1 bt323.1 bt323.2 t327 bt330.1 bt330.2 true)))))))) = some r := H
 have A3 := Aside0.mk A30
 clear A30
 by_cases c4 : t319 < 0
 ·rw [if_pos c4] at H
  have c4b0 : decide (t319 < 0) = true := decide_eq_true c4
  clear c4
  obtain rfl := Option.some.inj H
  go_enter Try.func5, Try.ntmps5
  go_wp2_with (first | ((with_reducible refine gate_callee (f := 14) rfl ?_); refine goesL_ (some 18) rfl rfl Try.func14 (by kernel_rfl) rfl #[.slice A1 l1.length c1, .int .i64 1048576] rfl aE ?_; (with_reducible refine (laws_szIntA2S.calls _ _ l1 1048576 t319 _ ?side1 ?side2 A3.out).mono ?_); (case side1 => exact cK HR1.out); (case side2 => exact HC1.out); rintro e w' ⟨rfl, ⟨nd, rfl⟩⟩; refine ⟨_, rfl, ?_⟩))
  go_ret
  exact ⟨rE, bB⟩
 ·rw [if_neg c4] at H
  have c4b0 : decide (t319 < 0) = false := decide_eq_false c4
  clear c4
  replace H := Option.bind_eq_some_iff.mp H
  obtain ⟨t320, A50, H⟩ := H
  replace H : ((spec_LabelsOf.f k a0 t320).bind fun bt323 => ((laws_toIntA2S.f k l1).bind fun t327 => ((impl_LabelsOf.f k a0 t327).bind fun bt330 => ((laws_eqIntS.f k bt330.1 bt323.1).bind fun t334 => (if t334 = true then (laws_FnExactLabelsOf.j0 k a0 l1 bt323.1 bt323.2 t327 bt330.1 bt330.2 (bt330.2 != bt323.2)) else (laws_FnExactLabelsOf.j0 k a0 l1 bt323.1 bt323.2 t327 bt330.1 bt330.2 true)))))) = some r := H
  have A5 := Aside0.mk A50
  clear A50
  replace H := Option.bind_eq_some_iff.mp H
  obtain ⟨⟨t323, t324⟩, A60, H⟩ := H
  replace H : ((laws_toIntA2S.f k l1).bind fun t327 => ((impl_LabelsOf.f k a0 t327).bind fun bt330 => ((laws_eqIntS.f k bt330.1 t323).bind fun t334 => (if t334 = true then (laws_FnExactLabelsOf.j0 k a0 l1 t323 t324 t327 bt330.1 bt330.2 (bt330.2 != t324)) else (laws_FnExactLabelsOf.j0 k a0 l1 t323 t324 t327 bt330.1 bt330.2 true))))) = some r := H
  have A6 := Aside0.mk A60
  clear A60
  replace H := Option.bind_eq_some_iff.mp H
  obtain ⟨t327, A70, H⟩ := H
  replace H : ((impl_LabelsOf.f k a0 t327).bind fun bt330 => ((laws_eqIntS.f k bt330.1 t323).bind fun t334 => (if t334 = true then (laws_FnExactLabelsOf.j0 k a0 l1 t323 t324 t327 bt330.1 bt330.2 (bt330.2 != t324)) else (laws_FnExactLabelsOf.j0 k a0 l1 t323 t324 t327 bt330.1 bt330.2 true)))) = some r := H
  have A7 := Aside0.mk A70
  clear A70
  replace H := Option.bind_eq_some_iff.mp H
  obtain ⟨⟨t330, t331⟩, A80, H⟩ := H
  replace H : ((laws_eqIntS.f k t330 t323).bind fun t334 => (if t334 = true then (laws_FnExactLabelsOf.j0 k a0 l1 t323 t324 t327 t330 t331 (t331 != t324)) else (laws_FnExactLabelsOf.j0 k a0 l1 t323 t324 t327 t330 t331 true))) = some r := H
  have A8 := Aside0.mk A80
  clear A80
  have HC9 := Aside0.mk H
  clear H
  go_enter Try.func5, Try.ntmps5
  go_upto_region 8 with (first | ((with_reducible refine gate_callee (f := 14) rfl ?_); refine goesL_ (some 18) rfl rfl Try.func14 (by kernel_rfl) rfl #[.slice A1 l1.length c1, .int .i64 1048576] rfl aE ?_; (with_reducible refine (laws_szIntA2S.calls _ _ l1 1048576 t319 _ ?side1 ?side2 A3.out).mono ?_); (case side1 => exact cK HR1.out); (case side2 => exact HC1.out); rintro e w' ⟨rfl, ⟨nd, rfl⟩⟩; refine ⟨_, rfl, ?_⟩) | ((with_reducible refine gate_callee (f := 16) rfl ?_); refine goesL_ (some 24) rfl rfl Try.func16 (by kernel_rfl) rfl #[.slice A1 l1.length c1] rfl aE ?_; (with_reducible refine (laws_toIntA2S.calls k _ _ l1 t320 _ ?side1 ?side2 A5.out).mono ?_); (case side1 => exact cK HR1.out); (case side2 => exact HC1.out); rintro e w10 ⟨v321, rfl, ho0, hb⟩; refine ⟨_, rfl, ?_⟩; have n0_ := Aside0.mk (Kd.R_lower ho0 (below_size bB)); have n1_ := Aside0.mk (below_step bB hb); clear HB; have HO322 := n0_; have HB := n1_; clear n0_ n1_; (try clear hb); (try clear hk); (try clear ho0); obtain ⟨Ao11, co11, eo11⟩ := Kd.R_slice HO322.out; subst eo11) | ((with_reducible refine gate_callee (f := 32) rfl ?_); refine goesL_ (some 25) rfl rfl Try.func32 (by kernel_rfl) rfl #[.int .i64 a0, .slice Ao11 t320.length co11] rfl aE ?_; (with_reducible refine (spec_LabelsOf.calls k a0 _ _ t320 t323 t324 _ ?side1 ?side2 A6.out).mono ?_); (case side1 => exact cK ((Kd.R_reads' HO322.out).2.2)); (case side2 => exact (Kd.R_reads' HO322.out).2.1); rintro e w12 ⟨v325, rfl, ho0, hb⟩; refine ⟨_, rfl, ?_⟩; have n0_ := Aside0.mk (rB HO322 hb); have n1_ := Aside0.mk (Kd.R_lower ho0 (below_size bB)); have n2_ := Aside0.mk (below_step bB hb); clear HO322; clear HB; have HO322 := n0_; have HO326 := n1_; have HB := n2_; clear n0_ n1_ n2_; (try clear hb); (try clear hk); (try clear ho0)) | ((with_reducible refine gate_callee (f := 16) rfl ?_); refine goesL_ (some 29) rfl rfl Try.func16 (by kernel_rfl) rfl #[.slice A1 l1.length c1] rfl aE ?_; (with_reducible refine (laws_toIntA2S.calls k _ _ l1 t327 _ ?side1 ?side2 A7.out).mono ?_); (case side1 => exact cK ((Kd.C_below HR1.out HB.out))); (case side2 => exact HC1.out); rintro e w13 ⟨v328, rfl, ho0, hb⟩; refine ⟨_, rfl, ?_⟩; have n0_ := Aside0.mk (Kd.R_elder' (by (with_reducible repeat (first | apply Kd.R_alloc | apply Kd.R_drewN | apply Kd.R_drew)); exact HO322.out) (Kd.R_base ho0) hb); have n1_ := Aside0.mk (rB HO326 hb); have n2_ := Aside0.mk (Kd.R_lower (Kd.R_new' ho0 (Kd.R_lt (by (with_reducible repeat (first | apply Kd.R_alloc | apply Kd.R_drewN | apply Kd.R_drew)); exact HO322.out))) (below_size bB)); have n3_ := Aside0.mk (below_step bB hb); clear HO322; clear HO326; clear HB; have HO322 := n0_; have HO326 := n1_; have HO329 := n2_; have HB := n3_; clear n0_ n1_ n2_ n3_; (try clear hb); (try clear hk); (try clear ho0); obtain ⟨Ao14, co14, eo14⟩ := Kd.R_slice HO329.out; subst eo14) | ((with_reducible refine gate_callee (f := 33) rfl ?_); refine goesL_ (some 33) rfl rfl Try.func33 (by kernel_rfl) rfl #[.int .i64 a0, .slice Ao14 t327.length co14] rfl aE ?_; (with_reducible refine (impl_LabelsOf.calls k a0 _ _ t327 t330 t331 _ ?side1 ?side2 A8.out).mono ?_); (case side1 => exact cK ((Kd.R_reads' HO329.out).2.2)); (case side2 => exact (Kd.R_reads' HO329.out).2.1); rintro e w15 ⟨v332, rfl, ho0, hb⟩; refine ⟨_, rfl, ?_⟩; have n0_ := Aside0.mk (rB HO322 hb); have n1_ := Aside0.mk (Kd.R_elder' (by (with_reducible repeat (first | apply Kd.R_alloc | apply Kd.R_drewN | apply Kd.R_drew)); exact HO326.out) (Kd.R_base ho0) hb); have n2_ := Aside0.mk (rB HO329 hb); have n3_ := Aside0.mk (Kd.R_lower (Kd.R_new' ho0 (Kd.R_lt (by (with_reducible repeat (first | apply Kd.R_alloc | apply Kd.R_drewN | apply Kd.R_drew)); exact HO326.out))) (below_size bB)); have n4_ := Aside0.mk (below_step bB hb); clear HO322; clear HO326; clear HO329; clear HB; have HO322 := n0_; have HO326 := n1_; have HO329 := n2_; have HO333 := n3_; have HB := n4_; clear n0_ n1_ n2_ n3_ n4_; (try clear hb); (try clear hk); (try clear ho0)))
  (try simp only [Act.put, sA, sZ, sS])
  go_cut [44] (fun v44 wc => ∃ (kq : Nat) (x44_8 : Bool), v44 = .bool x44_8 ∧ Aside0 (laws_FnExactLabelsOf.j0 kq a0 l1 t323 t324 t327 t330 t331 x44_8 = some r) ∧ Aside0 (kq ≤ k) ∧ Aside0 (Kd.R (Kd.int .i64) 3 wc w.heap.size (fun k_ => some k_ ≠ (v332 : Value).ownBlock) v325 t323) ∧ Aside0 (Kd.R k71 71 wc w.heap.size (fun _ => True) (.slice Ao14 t327.length co14) t327) ∧ Aside0 (Kd.R (Kd.int .i64) 3 wc w.heap.size (fun k_ => some k_ ≠ (v325 : Value).ownBlock) v332 t330) ∧ Aside0 (Below w.heap.size w wc))
  case first =>
   have H := HC9.out
   clear HC9
   replace H := Option.bind_eq_some_iff.mp H
   obtain ⟨t334, A160, H⟩ := H
   replace H : (if t334 = true then (laws_FnExactLabelsOf.j0 k a0 l1 t323 t324 t327 t330 t331 (t331 != t324)) else (laws_FnExactLabelsOf.j0 k a0 l1 t323 t324 t327 t330 t331 true)) = some r := H
   have A16 := Aside0.mk A160
   clear A160
   by_cases c17 : t334 = true
   ·subst c17
    have H1 : (laws_FnExactLabelsOf.j0 k a0 l1 t323 t324 t327 t330 t331 (t331 != t324)) = some r := by rw [if_pos rfl] at H; exact H
    clear H
    have H := H1
    clear H1
    have H' := Aside0.mk H
    clear H
    obtain ⟨Ao18, co18, eo18⟩ := Kd.R_slice HO333.out
    subst eo18
    obtain ⟨Ao19, co19, eo19⟩ := Kd.R_slice HO326.out
    subst eo19
    go_wp2_with (first | ((with_reducible refine gate_callee (f := 27) rfl ?_); refine goesL_ (some 38) rfl rfl Try.func27 (by kernel_rfl) rfl #[.slice Ao18 t330.length co18, .slice Ao19 t323.length co19] rfl aE ?_; (with_reducible refine (laws_eqIntS.calls k _ _ t330 _ _ t323 true _ ?side1 ?side2 ?side3 ?side4 A16.out).mono ?_); (case side1 => exact cK ((Kd.R_reads' HO333.out).2.2)); (case side2 => exact (Kd.R_reads' HO333.out).2.1); (case side3 => exact cK ((Kd.R_reads' HO326.out).2.2)); (case side4 => exact (Kd.R_reads' HO326.out).2.1); rintro e w' ⟨rfl, ⟨nd, rfl⟩⟩; refine ⟨_, rfl, ?_⟩))
    go_meet
    case rel => exact ⟨_, ((t331 != t324)), sD, H', ⟨by first | omega | exact Nat.le_refl _⟩, ⟨by (with_reducible repeat (first | apply Kd.R_alloc | apply Kd.R_drewN | apply Kd.R_drew)); exact Kd.R_mono HO326.out (fun _ hk => hk.2)⟩, ⟨by (with_reducible repeat (first | apply Kd.R_alloc | apply Kd.R_drewN | apply Kd.R_drew)); exact Kd.R_mono HO329.out (fun _ hk => trivial)⟩, ⟨by (with_reducible repeat (first | apply Kd.R_alloc | apply Kd.R_drewN | apply Kd.R_drew)); exact Kd.R_mono HO333.out (fun _ hk => hk.2)⟩, ⟨by repeat (first | (with_reducible first | exact HB.out | apply below_alloc | apply pw_below_drewN | apply below_drew1) | exact HB.out)⟩⟩
   ·replace c17 := Bool.eq_false_iff.mpr c17
    subst c17
    have H1 : (laws_FnExactLabelsOf.j0 k a0 l1 t323 t324 t327 t330 t331 true) = some r := by rw [if_neg (show ¬ (false = true) by decide)] at H; exact H
    clear H
    have H := H1
    clear H1
    have H' := Aside0.mk H
    clear H
    obtain ⟨Ao20, co20, eo20⟩ := Kd.R_slice HO333.out
    subst eo20
    obtain ⟨Ao21, co21, eo21⟩ := Kd.R_slice HO326.out
    subst eo21
    go_wp2_with (first | ((with_reducible refine gate_callee (f := 27) rfl ?_); refine goesL_ (some 38) rfl rfl Try.func27 (by kernel_rfl) rfl #[.slice Ao20 t330.length co20, .slice Ao21 t323.length co21] rfl aE ?_; (with_reducible refine (laws_eqIntS.calls k _ _ t330 _ _ t323 false _ ?side1 ?side2 ?side3 ?side4 A16.out).mono ?_); (case side1 => exact cK ((Kd.R_reads' HO333.out).2.2)); (case side2 => exact (Kd.R_reads' HO333.out).2.1); (case side3 => exact cK ((Kd.R_reads' HO326.out).2.2)); (case side4 => exact (Kd.R_reads' HO326.out).2.1); rintro e w' ⟨rfl, ⟨nd, rfl⟩⟩; refine ⟨_, rfl, ?_⟩))
    go_meet
    case rel => exact ⟨_, (true), sD, H', ⟨by first | omega | exact Nat.le_refl _⟩, ⟨by (with_reducible repeat (first | apply Kd.R_alloc | apply Kd.R_drewN | apply Kd.R_drew)); exact Kd.R_mono HO326.out (fun _ hk => hk.2)⟩, ⟨by (with_reducible repeat (first | apply Kd.R_alloc | apply Kd.R_drewN | apply Kd.R_drew)); exact Kd.R_mono HO329.out (fun _ hk => trivial)⟩, ⟨by (with_reducible repeat (first | apply Kd.R_alloc | apply Kd.R_drewN | apply Kd.R_drew)); exact Kd.R_mono HO333.out (fun _ hk => hk.2)⟩, ⟨by repeat (first | (with_reducible first | exact HB.out | apply below_alloc | apply pw_below_drewN | apply below_drew1) | exact HB.out)⟩⟩
  case rest =>
   clear HC9
   try clear c1
   try clear c2
   try clear p2
   try clear c3
   try clear c4
   try clear c4b0
   try clear c5
   try clear c14
   try clear c16
   try clear c17
   obtain ⟨kq, x44_8, rfl, HA, HJ8, HO_6, HO_8, HO_9, HB⟩ := hcut
   cases kq with
   | zero => exact absurd HA.out (by simp [laws_FnExactLabelsOf.j0])
   | succ kj8 =>
    have H := HA.out
    clear HA
    simp only [laws_FnExactLabelsOf.j0] at H
    by_cases c22 : x44_8 = true
    ·subst c22
     have H1 : (some false) = some r := by rw [if_pos rfl] at H; exact H
     clear H
     have H := H1
     clear H1
     obtain rfl := Option.some.inj H
     go_wp2
     go_ret
     exact ⟨rE, bB⟩
    ·replace c22 := Bool.eq_false_iff.mpr c22
     subst c22
     have H1 : ((laws_toIntA2S.f kj8 l1).bind fun t335 => ((laws_eqIntA2S.f kj8 t327 t335).bind fun t338 => (if t338 = true then ((laws_markIntA2S.f kj8 t327 1).bind fun bt339 => (if bt339.1 < 0 then (laws_FnExactLabelsOf.j1 kj8 a0 l1 t323 t324 t330 true) else ((laws_eqIntS.f kj8 t330 t323).bind fun t341 => (if t341 = true then (laws_FnExactLabelsOf.j1 kj8 a0 l1 t323 t324 t330 (t331 != t324)) else (laws_FnExactLabelsOf.j1 kj8 a0 l1 t323 t324 t330 true))))) else (some false)))) = some r := by rw [if_neg (show ¬ (false = true) by decide)] at H; exact H
     clear H
     have H := H1
     clear H1
     replace H := Option.bind_eq_some_iff.mp H
     obtain ⟨t335, A230, H⟩ := H
     replace H : ((laws_eqIntA2S.f kj8 t327 t335).bind fun t338 => (if t338 = true then ((laws_markIntA2S.f kj8 t327 1).bind fun bt339 => (if bt339.1 < 0 then (laws_FnExactLabelsOf.j1 kj8 a0 l1 t323 t324 t330 true) else ((laws_eqIntS.f kj8 t330 t323).bind fun t341 => (if t341 = true then (laws_FnExactLabelsOf.j1 kj8 a0 l1 t323 t324 t330 (t331 != t324)) else (laws_FnExactLabelsOf.j1 kj8 a0 l1 t323 t324 t330 true))))) else (some false))) = some r := H
     have A23 := Aside0.mk A230
     clear A230
     replace H := Option.bind_eq_some_iff.mp H
     obtain ⟨t338, A240, H⟩ := H
     replace H : (if t338 = true then ((laws_markIntA2S.f kj8 t327 1).bind fun bt339 => (if bt339.1 < 0 then (laws_FnExactLabelsOf.j1 kj8 a0 l1 t323 t324 t330 true) else ((laws_eqIntS.f kj8 t330 t323).bind fun t341 => (if t341 = true then (laws_FnExactLabelsOf.j1 kj8 a0 l1 t323 t324 t330 (t331 != t324)) else (laws_FnExactLabelsOf.j1 kj8 a0 l1 t323 t324 t330 true))))) else (some false)) = some r := H
     have A24 := Aside0.mk A240
     clear A240
     by_cases c25 : t338 = true
     ·subst c25
      have H1 : ((laws_markIntA2S.f kj8 t327 1).bind fun bt339 => (if bt339.1 < 0 then (laws_FnExactLabelsOf.j1 kj8 a0 l1 t323 t324 t330 true) else ((laws_eqIntS.f kj8 t330 t323).bind fun t341 => (if t341 = true then (laws_FnExactLabelsOf.j1 kj8 a0 l1 t323 t324 t330 (t331 != t324)) else (laws_FnExactLabelsOf.j1 kj8 a0 l1 t323 t324 t330 true))))) = some r := by rw [if_pos rfl] at H; exact H
      clear H
      have H := H1
      clear H1
      replace H := Option.bind_eq_some_iff.mp H
      obtain ⟨⟨t339, t340⟩, A260, H⟩ := H
      replace H : (if t339 < 0 then (laws_FnExactLabelsOf.j1 kj8 a0 l1 t323 t324 t330 true) else ((laws_eqIntS.f kj8 t330 t323).bind fun t341 => (if t341 = true then (laws_FnExactLabelsOf.j1 kj8 a0 l1 t323 t324 t330 (t331 != t324)) else (laws_FnExactLabelsOf.j1 kj8 a0 l1 t323 t324 t330 true)))) = some r := H
      have A26 := Aside0.mk A260
      clear A260
      have HC27 := Aside0.mk H
      clear H
      go_upto_region 14 with (first | ((with_reducible refine gate_callee (f := 16) rfl ?_); refine goesL_ (some 47) rfl rfl Try.func16 (by kernel_rfl) rfl #[.slice A1 l1.length c1] rfl aE ?_; (with_reducible refine (laws_toIntA2S.calls kj8 _ _ l1 t335 _ ?side1 ?side2 A23.out).mono ?_); (case side1 => exact cK ((Kd.C_below HR1.out HB.out))); (case side2 => exact HC1.out); rintro e w28 ⟨v336, rfl, ho0, hb⟩; refine ⟨_, rfl, ?_⟩; have n0_ := Aside0.mk (rB HO_6 hb); have n1_ := Aside0.mk (Kd.R_elder' (by (with_reducible repeat (first | apply Kd.R_alloc | apply Kd.R_drewN | apply Kd.R_drew)); exact HO_8.out) (Kd.R_base ho0) hb); have n2_ := Aside0.mk (rB HO_9 hb); have n3_ := Aside0.mk (Kd.R_lower (Kd.R_new' ho0 (Kd.R_lt (by (with_reducible repeat (first | apply Kd.R_alloc | apply Kd.R_drewN | apply Kd.R_drew)); exact HO_8.out))) (below_size bB)); have n4_ := Aside0.mk (below_step bB hb); clear HO_6; clear HO_8; clear HO_9; clear HB; have HO_6 := n0_; have HO_8 := n1_; have HO_9 := n2_; have HO337 := n3_; have HB := n4_; clear n0_ n1_ n2_ n3_ n4_; (try clear hb); (try clear hk); (try clear ho0); obtain ⟨Ao29, co29, eo29⟩ := Kd.R_slice HO337.out; subst eo29) | ((with_reducible refine gate_callee (f := 19) rfl ?_); refine goesL_ (some 48) rfl rfl Try.func19 (by kernel_rfl) rfl #[.slice Ao14 t327.length co14, .slice Ao29 t335.length co29] rfl aE ?_; (with_reducible refine (laws_eqIntA2S.calls kj8 _ _ t327 _ _ t335 true _ ?side1 ?side2 ?side3 ?side4 A24.out).mono ?_); (case side1 => exact cK ((Kd.R_reads' HO_8.out).2.2)); (case side2 => exact (Kd.R_reads' HO_8.out).2.1); (case side3 => exact cK ((Kd.R_reads' HO337.out).2.2)); (case side4 => exact (Kd.R_reads' HO337.out).2.1); rintro e w30 ⟨rfl, hb⟩; refine ⟨_, rfl, ?_⟩; have n0_ := Aside0.mk (rB HO_6 hb); have n1_ := Aside0.mk (rB HO_8 hb); have n2_ := Aside0.mk (rB HO_9 hb); have n3_ := Aside0.mk (rB HO337 hb); have n4_ := Aside0.mk (below_step bB hb); clear HO_6; clear HO_8; clear HO_9; clear HO337; clear HB; have HO_6 := n0_; have HO_8 := n1_; have HO_9 := n2_; have HO337 := n3_; have HB := n4_; clear n0_ n1_ n2_ n3_ n4_; (try clear hb); (try clear hk)) | ((with_reducible refine gate_callee (f := 20) rfl ?_); refine goesL_ (some 52) rfl rfl Try.func20 (by kernel_rfl) rfl #[.slice Ao14 t327.length co14, .int .i64 1] rfl aE ?_; (with_reducible refine (laws_markIntA2S.calls kj8 (fun k_ => some k_ = (.slice Ao14 t327.length co14 : Value).ownBlock) (.slice Ao14 t327.length co14) t327 1 t339 t340 w _ ?side1 ?side2 A26.out).mono ?_); (case side1 => repeat (first | (with_reducible first | exact HB.out | apply below_alloc | apply pw_below_drewN | apply below_drew1) | exact HB.out)); (case side2 => exact Kd.R_tight rfl HO_8.out); rintro e w31 ⟨rfl, hy0, hb, hkp⟩; refine ⟨_, rfl, ?_⟩; have n0_ := Aside0.mk (Kd.R_mono (ok' := fun k_ => some k_ ≠ (v332 : Value).ownBlock) (Kd.R_keptB ((Kd.R_apart' HO_6.out (Kd.R_typed HO_8.out) (by decide))) hkp (fun k_ hk_ hs_ => (hk_.2) hs_)) (fun k_ hk_ => hk_.1.1)); have n1_ := Aside0.mk (Kd.R_reok rfl hy0 (fun k_ e_ => HO_8.out.1 k_ e_)); have n2_ := Aside0.mk (Kd.R_mono (ok' := fun k_ => some k_ ≠ (v325 : Value).ownBlock) (Kd.R_keptB ((Kd.R_apart' HO_9.out (Kd.R_typed HO_8.out) (by decide))) hkp (fun k_ hk_ hs_ => (hk_.2) hs_)) (fun k_ hk_ => hk_.1.1)); have n3_ := Aside0.mk (Kd.R_mono (ok' := fun k_ => some k_ ≠ (.slice Ao14 t327.length co14 : Value).ownBlock) (Kd.R_keptB (HO337.out) hkp (fun k_ hk_ hs_ => (hk_.2) hs_)) (fun k_ hk_ => hk_.1.2)); have n4_ := Aside0.mk (hb); clear HO_6; clear HO_8; clear HO_9; clear HO337; clear HB; have HO_6 := n0_; have HO_8 := n1_; have HO_9 := n2_; have HO337 := n3_; have HB := n4_; clear n0_ n1_ n2_ n3_ n4_; (try clear hb); (try clear hkp); (try clear hy0)))
      (try simp only [Act.put, sA, sZ, sS])
      go_cut [65] (fun v65 wc => ∃ (kq : Nat) (x65_26 : Bool), v65 = .bool x65_26 ∧ Aside0 (laws_FnExactLabelsOf.j1 kq a0 l1 t323 t324 t330 x65_26 = some r) ∧ Aside0 (kq ≤ kj8) ∧ Aside0 (Kd.R (Kd.int .i64) 3 wc w.heap.size (fun k_ => some k_ ≠ (v332 : Value).ownBlock) v325 t323) ∧ Aside0 (Kd.R (Kd.int .i64) 3 wc w.heap.size (fun k_ => some k_ ≠ (v325 : Value).ownBlock) v332 t330) ∧ Aside0 (Below w.heap.size w wc))
      case first =>
       have H := HC27.out
       clear HC27
       by_cases c32 : t339 < 0
       ·rw [if_pos c32] at H
        have c32b0 : decide (t339 < 0) = true := decide_eq_true c32
        clear c32
        (first | rw [c32b0] | (simp only [i64_w, i32_w]; rw [c32b0]) | skip)
        have H' := Aside0.mk H
        clear H
        go_wp2
        go_meet
        case rel => exact ⟨_, (true), sD, H', ⟨by have := HJ8.out; first | omega | exact Nat.le_refl _⟩, ⟨kR⟩, ⟨kR⟩, ⟨by repeat (first | (with_reducible first | exact HB.out | apply below_alloc | apply pw_below_drewN | apply below_drew1) | exact HB.out)⟩⟩
       ·rw [if_neg c32] at H
        have c32b0 : decide (t339 < 0) = false := decide_eq_false c32
        clear c32
        (first | rw [c32b0] | (simp only [i64_w, i32_w]; rw [c32b0]) | skip)
        replace H := Option.bind_eq_some_iff.mp H
        obtain ⟨t341, A330, H⟩ := H
        replace H : (if t341 = true then (laws_FnExactLabelsOf.j1 kj8 a0 l1 t323 t324 t330 (t331 != t324)) else (laws_FnExactLabelsOf.j1 kj8 a0 l1 t323 t324 t330 true)) = some r := H
        have A33 := Aside0.mk A330
        clear A330
        by_cases c34 : t341 = true
        ·subst c34
         have H1 : (laws_FnExactLabelsOf.j1 kj8 a0 l1 t323 t324 t330 (t331 != t324)) = some r := by rw [if_pos rfl] at H; exact H
         clear H
         have H := H1
         clear H1
         have H' := Aside0.mk H
         clear H
         obtain ⟨Ao35, co35, eo35⟩ := Kd.R_slice HO_9.out
         subst eo35
         obtain ⟨Ao36, co36, eo36⟩ := Kd.R_slice HO_6.out
         subst eo36
         go_wp2_with (first | (go_at_call 27; (with_reducible refine (laws_eqIntS.calls kj8 _ _ t330 _ _ t323 true _ ?side1 ?side2 ?side3 ?side4 A33.out).mono ?_); (case side1 => exact cK ((Kd.R_reads' HO_9.out).2.2)); (case side2 => exact (Kd.R_reads' HO_9.out).2.1); (case side3 => exact cK ((Kd.R_reads' HO_6.out).2.2)); (case side4 => exact (Kd.R_reads' HO_6.out).2.1); rintro e w' ⟨rfl, ⟨nd, rfl⟩⟩))
         go_meet
         case rel => exact ⟨_, ((t331 != t324)), sD, H', ⟨by have := HJ8.out; first | omega | exact Nat.le_refl _⟩, ⟨kR⟩, ⟨kR⟩, ⟨by repeat (first | (with_reducible first | exact HB.out | apply below_alloc | apply pw_below_drewN | apply below_drew1) | exact HB.out)⟩⟩
        ·replace c34 := Bool.eq_false_iff.mpr c34
         subst c34
         have H1 : (laws_FnExactLabelsOf.j1 kj8 a0 l1 t323 t324 t330 true) = some r := by rw [if_neg (show ¬ (false = true) by decide)] at H; exact H
         clear H
         have H := H1
         clear H1
         have H' := Aside0.mk H
         clear H
         obtain ⟨Ao37, co37, eo37⟩ := Kd.R_slice HO_9.out
         subst eo37
         obtain ⟨Ao38, co38, eo38⟩ := Kd.R_slice HO_6.out
         subst eo38
         go_wp2_with (first | (go_at_call 27; (with_reducible refine (laws_eqIntS.calls kj8 _ _ t330 _ _ t323 false _ ?side1 ?side2 ?side3 ?side4 A33.out).mono ?_); (case side1 => exact cK ((Kd.R_reads' HO_9.out).2.2)); (case side2 => exact (Kd.R_reads' HO_9.out).2.1); (case side3 => exact cK ((Kd.R_reads' HO_6.out).2.2)); (case side4 => exact (Kd.R_reads' HO_6.out).2.1); rintro e w' ⟨rfl, ⟨nd, rfl⟩⟩))
         go_meet
         case rel => exact ⟨_, (true), sD, H', ⟨by have := HJ8.out; first | omega | exact Nat.le_refl _⟩, ⟨kR⟩, ⟨kR⟩, ⟨by repeat (first | (with_reducible first | exact HB.out | apply below_alloc | apply pw_below_drewN | apply below_drew1) | exact HB.out)⟩⟩
      case rest =>
       clear HC27
       try clear c1
       try clear c2
       try clear p2
       try clear c3
       try clear c4
       try clear c4b0
       try clear c5
       try clear c14
       try clear c16
       try clear c17
       try clear c19
       try clear c20
       try clear c22
       try clear c25
       try clear c27
       try clear c32
       try clear c32b0
       try clear c33
       try clear c34
       try clear p2
       obtain ⟨kq, x65_26, rfl, HA, HJ26, HO_6, HO_9, HB⟩ := hcut
       cases kq with
       | zero => exact absurd HA.out (by simp [laws_FnExactLabelsOf.j1])
       | succ kj26 =>
        have H := HA.out
        clear HA
        simp only [laws_FnExactLabelsOf.j1] at H
        by_cases c39 : x65_26 = true
        ·subst c39
         have H1 : (some false) = some r := by rw [if_pos rfl] at H; exact H
         clear H
         have H := H1
         clear H1
         obtain rfl := Option.some.inj H
         go_wp2
         go_ret
         exact ⟨rE, bB⟩
        ·replace c39 := Bool.eq_false_iff.mpr c39
         subst c39
         have H1 : ((laws_markIntS.f kj26 t330 1).bind fun bt342 => ((laws_heldIntS.f kj26 bt342.2 1).bind fun t344 => (if t344 < 0 then (some false) else (if t344 = bt342.1 then ((laws_toIntA2S.f kj26 l1).bind fun t345 => ((impl_LabelsOf.f kj26 a0 t345).bind fun bt348 => ((laws_eqIntS.f kj26 bt348.1 t323).bind fun t352 => (if t352 = true then (laws_FnExactLabelsOf.j2 kj26 bt342.2 bt342.1 (bt348.2 != t324)) else (laws_FnExactLabelsOf.j2 kj26 bt342.2 bt342.1 true))))) else (some false))))) = some r := by rw [if_neg (show ¬ (false = true) by decide)] at H; exact H
         clear H
         have H := H1
         clear H1
         replace H := Option.bind_eq_some_iff.mp H
         obtain ⟨⟨t342, t343⟩, A400, H⟩ := H
         replace H : ((laws_heldIntS.f kj26 t343 1).bind fun t344 => (if t344 < 0 then (some false) else (if t344 = t342 then ((laws_toIntA2S.f kj26 l1).bind fun t345 => ((impl_LabelsOf.f kj26 a0 t345).bind fun bt348 => ((laws_eqIntS.f kj26 bt348.1 t323).bind fun t352 => (if t352 = true then (laws_FnExactLabelsOf.j2 kj26 t343 t342 (bt348.2 != t324)) else (laws_FnExactLabelsOf.j2 kj26 t343 t342 true))))) else (some false)))) = some r := H
         have A40 := Aside0.mk A400
         clear A400
         replace H := Option.bind_eq_some_iff.mp H
         obtain ⟨t344, A410, H⟩ := H
         replace H : (if t344 < 0 then (some false) else (if t344 = t342 then ((laws_toIntA2S.f kj26 l1).bind fun t345 => ((impl_LabelsOf.f kj26 a0 t345).bind fun bt348 => ((laws_eqIntS.f kj26 bt348.1 t323).bind fun t352 => (if t352 = true then (laws_FnExactLabelsOf.j2 kj26 t343 t342 (bt348.2 != t324)) else (laws_FnExactLabelsOf.j2 kj26 t343 t342 true))))) else (some false))) = some r := H
         have A41 := Aside0.mk A410
         clear A410
         by_cases c42 : t344 < 0
         ·rw [if_pos c42] at H
          have c42b0 : decide (t344 < 0) = true := decide_eq_true c42
          clear c42
          obtain rfl := Option.some.inj H
          obtain ⟨Ao43, co43, eo43⟩ := Kd.R_slice HO_9.out
          subst eo43
          go_wp2_with (first | ((with_reducible refine gate_callee (f := 30) rfl ?_); refine goesL_ (some 68) rfl rfl Try.func30 (by kernel_rfl) rfl #[.slice Ao43 t330.length co43, .int .i64 1] rfl aE ?_; (with_reducible refine (laws_markIntS.calls kj26 (fun k_ => some k_ = (.slice Ao43 t330.length co43 : Value).ownBlock) (.slice Ao43 t330.length co43) t330 1 t342 t343 w _ ?side1 ?side2 A40.out).mono ?_); (case side1 => repeat (first | (with_reducible first | exact HB.out | apply below_alloc | apply pw_below_drewN | apply below_drew1) | exact HB.out)); (case side2 => exact Kd.R_tight rfl HO_9.out); rintro e w44 ⟨rfl, hy0, hb, hkp⟩; refine ⟨_, rfl, ?_⟩; have n0_ := Aside0.mk (Kd.R_mono (ok' := fun k_ => some k_ ≠ (.slice Ao43 t330.length co43 : Value).ownBlock) (Kd.R_keptB (HO_6.out) hkp (fun k_ hk_ hs_ => (hk_) hs_)) (fun k_ hk_ => hk_.1)); have n1_ := Aside0.mk (Kd.R_reok rfl hy0 (fun k_ e_ => HO_9.out.1 k_ e_)); have n2_ := Aside0.mk (hb); clear HO_6; clear HO_9; clear HB; have HO_6 := n0_; have HO_9 := n1_; have HB := n2_; clear n0_ n1_ n2_; (try clear hb); (try clear hkp); (try clear hy0)) | ((with_reducible refine gate_callee (f := 31) rfl ?_); refine goesL_ (some 71) rfl rfl Try.func31 (by kernel_rfl) rfl #[.slice Ao43 t343.length co43, .int .i64 1] rfl (by (try simp only [List.map_toArray, List.map_cons, List.map_nil]); first | done | (rw [show t343.length = t330.length from (Kd.R_reads' HO_9.out).1.symm] <;> rfl) | rfl | (simp only [List.length_drop, List.length_take]; rfl)) ?_; (with_reducible refine (laws_heldIntS.calls kj26 _ _ t343 1 t344 _ ?side1 ?side2 A41.out).mono ?_); (case side1 => exact cK ((Kd.R_reads' HO_9.out).2.2)); (case side2 => rw [show t343.length = t330.length from (Kd.R_reads' HO_9.out).1.symm]; exact (Kd.R_reads' HO_9.out).2.1); rintro e w' ⟨rfl, ⟨nd, rfl⟩⟩; refine ⟨_, rfl, ?_⟩))
          go_ret
          exact ⟨rE, bB⟩
         ·rw [if_neg c42] at H
          have c42b0 : decide (t344 < 0) = false := decide_eq_false c42
          clear c42
          by_cases c45 : t344 = t342
          ·rw [if_pos c45] at H
           have c45b0 : (t344 == t342) = true := beq_iff_eq.mpr c45
           have c45b1 : (t344 != t342) = false := bne_eq_false_iff_eq.mpr c45
           clear c45
           replace H := Option.bind_eq_some_iff.mp H
           obtain ⟨t345, A460, H⟩ := H
           replace H : ((impl_LabelsOf.f kj26 a0 t345).bind fun bt348 => ((laws_eqIntS.f kj26 bt348.1 t323).bind fun t352 => (if t352 = true then (laws_FnExactLabelsOf.j2 kj26 t343 t342 (bt348.2 != t324)) else (laws_FnExactLabelsOf.j2 kj26 t343 t342 true)))) = some r := H
           have A46 := Aside0.mk A460
           clear A460
           replace H := Option.bind_eq_some_iff.mp H
           obtain ⟨⟨t348, t349⟩, A470, H⟩ := H
           replace H : ((laws_eqIntS.f kj26 t348 t323).bind fun t352 => (if t352 = true then (laws_FnExactLabelsOf.j2 kj26 t343 t342 (t349 != t324)) else (laws_FnExactLabelsOf.j2 kj26 t343 t342 true))) = some r := H
           have A47 := Aside0.mk A470
           clear A470
           have HC48 := Aside0.mk H
           clear H
           obtain ⟨Ao49, co49, eo49⟩ := Kd.R_slice HO_9.out
           subst eo49
           go_upto_region 25 with (first | ((with_reducible refine gate_callee (f := 30) rfl ?_); refine goesL_ (some 68) rfl rfl Try.func30 (by kernel_rfl) rfl #[.slice Ao49 t330.length co49, .int .i64 1] rfl aE ?_; (with_reducible refine (laws_markIntS.calls kj26 (fun k_ => some k_ = (.slice Ao49 t330.length co49 : Value).ownBlock) (.slice Ao49 t330.length co49) t330 1 t342 t343 w _ ?side1 ?side2 A40.out).mono ?_); (case side1 => repeat (first | (with_reducible first | exact HB.out | apply below_alloc | apply pw_below_drewN | apply below_drew1) | exact HB.out)); (case side2 => exact Kd.R_tight rfl HO_9.out); rintro e w50 ⟨rfl, hy0, hb, hkp⟩; refine ⟨_, rfl, ?_⟩; have n0_ := Aside0.mk (Kd.R_mono (ok' := fun k_ => some k_ ≠ (.slice Ao49 t330.length co49 : Value).ownBlock) (Kd.R_keptB (HO_6.out) hkp (fun k_ hk_ hs_ => (hk_) hs_)) (fun k_ hk_ => hk_.1)); have n1_ := Aside0.mk (Kd.R_reok rfl hy0 (fun k_ e_ => HO_9.out.1 k_ e_)); have n2_ := Aside0.mk (hb); clear HO_6; clear HO_9; clear HB; have HO_6 := n0_; have HO_9 := n1_; have HB := n2_; clear n0_ n1_ n2_; (try clear hb); (try clear hkp); (try clear hy0)) | ((with_reducible refine gate_callee (f := 31) rfl ?_); refine goesL_ (some 71) rfl rfl Try.func31 (by kernel_rfl) rfl #[.slice Ao49 t343.length co49, .int .i64 1] rfl (by (try simp only [List.map_toArray, List.map_cons, List.map_nil]); first | done | (rw [show t343.length = t330.length from (Kd.R_reads' HO_9.out).1.symm] <;> rfl) | rfl | (simp only [List.length_drop, List.length_take]; rfl)) ?_; (with_reducible refine (laws_heldIntS.calls kj26 _ _ t343 1 t344 _ ?side1 ?side2 A41.out).mono ?_); (case side1 => exact cK ((Kd.R_reads' HO_9.out).2.2)); (case side2 => rw [show t343.length = t330.length from (Kd.R_reads' HO_9.out).1.symm]; exact (Kd.R_reads' HO_9.out).2.1); rintro e w' ⟨rfl, ⟨nd, rfl⟩⟩; refine ⟨_, rfl, ?_⟩) | ((with_reducible refine gate_callee (f := 16) rfl ?_); refine goesL_ (some 80) rfl rfl Try.func16 (by kernel_rfl) rfl #[.slice A1 l1.length c1] rfl aE ?_; (with_reducible refine (laws_toIntA2S.calls kj26 _ _ l1 t345 _ ?side1 ?side2 A46.out).mono ?_); (case side1 => exact cK ((Kd.C_below HR1.out bB))); (case side2 => exact HC1.out); rintro e w51 ⟨v346, rfl, ho0, hb⟩; refine ⟨_, rfl, ?_⟩; have n0_ := Aside0.mk (rB HO_6 hb); have n1_ := Aside0.mk (rB HO_9 hb); have n2_ := Aside0.mk (Kd.R_lower ho0 (below_size bB)); have n3_ := Aside0.mk (below_step bB hb); clear HO_6; clear HO_9; clear HB; have HO_6 := n0_; have HO_9 := n1_; have HO347 := n2_; have HB := n3_; clear n0_ n1_ n2_ n3_; (try clear hb); (try clear hk); (try clear ho0); obtain ⟨Ao52, co52, eo52⟩ := Kd.R_slice HO347.out; subst eo52) | ((with_reducible refine gate_callee (f := 33) rfl ?_); refine goesL_ (some 81) rfl rfl Try.func33 (by kernel_rfl) rfl #[.int .i64 a0, .slice Ao52 t345.length co52] rfl aE ?_; (with_reducible refine (impl_LabelsOf.calls kj26 a0 _ _ t345 t348 t349 _ ?side1 ?side2 A47.out).mono ?_); (case side1 => exact cK ((Kd.R_reads' HO347.out).2.2)); (case side2 => exact (Kd.R_reads' HO347.out).2.1); rintro e w53 ⟨v350, rfl, ho0, hb⟩; refine ⟨_, rfl, ?_⟩; have n0_ := Aside0.mk (Kd.R_elder' (by (with_reducible repeat (first | apply Kd.R_alloc | apply Kd.R_drewN | apply Kd.R_drew)); exact HO_6.out) (Kd.R_base ho0) hb); have n1_ := Aside0.mk (Kd.R_elder' (by (with_reducible repeat (first | apply Kd.R_alloc | apply Kd.R_drewN | apply Kd.R_drew)); exact HO_9.out) (Kd.R_base ho0) hb); have n2_ := Aside0.mk (rB HO347 hb); have n3_ := Aside0.mk (Kd.R_lower (Kd.R_new' (Kd.R_new' ho0 (Kd.R_lt (by (with_reducible repeat (first | apply Kd.R_alloc | apply Kd.R_drewN | apply Kd.R_drew)); exact HO_6.out))) (Kd.R_lt (by (with_reducible repeat (first | apply Kd.R_alloc | apply Kd.R_drewN | apply Kd.R_drew)); exact HO_9.out))) (below_size bB)); have n4_ := Aside0.mk (below_step bB hb); clear HO_6; clear HO_9; clear HO347; clear HB; have HO_6 := n0_; have HO_9 := n1_; have HO347 := n2_; have HO351 := n3_; have HB := n4_; clear n0_ n1_ n2_ n3_ n4_; (try clear hb); (try clear hk); (try clear ho0)))
           (try simp only [Act.put, sA, sZ, sS])
           go_cut [92] (fun v92 wc => ∃ (kq : Nat) (x92_47 : Bool), v92 = .bool x92_47 ∧ Aside0 (laws_FnExactLabelsOf.j2 kq t343 t342 x92_47 = some r) ∧ Aside0 (kq ≤ kj26) ∧ Aside0 (Kd.R (Kd.int .i64) 3 wc w.heap.size (fun _ => True) (.slice Ao49 t330.length co49) t343) ∧ Aside0 (Below w.heap.size w wc))
           case first =>
            have H := HC48.out
            clear HC48
            replace H := Option.bind_eq_some_iff.mp H
            obtain ⟨t352, A540, H⟩ := H
            replace H : (if t352 = true then (laws_FnExactLabelsOf.j2 kj26 t343 t342 (t349 != t324)) else (laws_FnExactLabelsOf.j2 kj26 t343 t342 true)) = some r := H
            have A54 := Aside0.mk A540
            clear A540
            by_cases c55 : t352 = true
            ·subst c55
             have H1 : (laws_FnExactLabelsOf.j2 kj26 t343 t342 (t349 != t324)) = some r := by rw [if_pos rfl] at H; exact H
             clear H
             have H := H1
             clear H1
             have H' := Aside0.mk H
             clear H
             obtain ⟨Ao56, co56, eo56⟩ := Kd.R_slice HO351.out
             subst eo56
             obtain ⟨Ao57, co57, eo57⟩ := Kd.R_slice HO_6.out
             subst eo57
             go_wp2_with (first | ((with_reducible refine gate_callee (f := 27) rfl ?_); refine goesL_ (some 86) rfl rfl Try.func27 (by kernel_rfl) rfl #[.slice Ao56 t348.length co56, .slice Ao57 t323.length co57] rfl aE ?_; (with_reducible refine (laws_eqIntS.calls kj26 _ _ t348 _ _ t323 true _ ?side1 ?side2 ?side3 ?side4 A54.out).mono ?_); (case side1 => exact cK ((Kd.R_reads' HO351.out).2.2)); (case side2 => exact (Kd.R_reads' HO351.out).2.1); (case side3 => exact cK ((Kd.R_reads' HO_6.out).2.2)); (case side4 => exact (Kd.R_reads' HO_6.out).2.1); rintro e w' ⟨rfl, ⟨nd, rfl⟩⟩; refine ⟨_, rfl, ?_⟩))
             go_meet
             case rel => exact ⟨_, ((t349 != t324)), sD, H', ⟨by have := HJ8.out; have := HJ26.out; first | omega | exact Nat.le_refl _⟩, ⟨by (with_reducible repeat (first | apply Kd.R_alloc | apply Kd.R_drewN | apply Kd.R_drew)); exact Kd.R_mono HO_9.out (fun _ hk => trivial)⟩, ⟨by repeat (first | (with_reducible first | exact HB.out | apply below_alloc | apply pw_below_drewN | apply below_drew1) | exact HB.out)⟩⟩
            ·replace c55 := Bool.eq_false_iff.mpr c55
             subst c55
             have H1 : (laws_FnExactLabelsOf.j2 kj26 t343 t342 true) = some r := by rw [if_neg (show ¬ (false = true) by decide)] at H; exact H
             clear H
             have H := H1
             clear H1
             have H' := Aside0.mk H
             clear H
             obtain ⟨Ao58, co58, eo58⟩ := Kd.R_slice HO351.out
             subst eo58
             obtain ⟨Ao59, co59, eo59⟩ := Kd.R_slice HO_6.out
             subst eo59
             go_wp2_with (first | ((with_reducible refine gate_callee (f := 27) rfl ?_); refine goesL_ (some 86) rfl rfl Try.func27 (by kernel_rfl) rfl #[.slice Ao58 t348.length co58, .slice Ao59 t323.length co59] rfl aE ?_; (with_reducible refine (laws_eqIntS.calls kj26 _ _ t348 _ _ t323 false _ ?side1 ?side2 ?side3 ?side4 A54.out).mono ?_); (case side1 => exact cK ((Kd.R_reads' HO351.out).2.2)); (case side2 => exact (Kd.R_reads' HO351.out).2.1); (case side3 => exact cK ((Kd.R_reads' HO_6.out).2.2)); (case side4 => exact (Kd.R_reads' HO_6.out).2.1); rintro e w' ⟨rfl, ⟨nd, rfl⟩⟩; refine ⟨_, rfl, ?_⟩))
             go_meet
             case rel => exact ⟨_, (true), sD, H', ⟨by have := HJ8.out; have := HJ26.out; first | omega | exact Nat.le_refl _⟩, ⟨by (with_reducible repeat (first | apply Kd.R_alloc | apply Kd.R_drewN | apply Kd.R_drew)); exact Kd.R_mono HO_9.out (fun _ hk => trivial)⟩, ⟨by repeat (first | (with_reducible first | exact HB.out | apply below_alloc | apply pw_below_drewN | apply below_drew1) | exact HB.out)⟩⟩
           case rest =>
            clear HC48
            try clear c1
            try clear c2
            try clear p2
            try clear c3
            try clear c4
            try clear c4b0
            try clear c5
            try clear c14
            try clear c16
            try clear c17
            try clear c19
            try clear c20
            try clear c22
            try clear c25
            try clear c27
            try clear c30
            try clear c31
            try clear c32
            try clear c32b0
            try clear c33
            try clear c34
            try clear c39
            try clear c42
            try clear c42b0
            try clear c45
            try clear c45b0
            try clear c45b1
            try clear c55
            try clear p2
            obtain ⟨kq, x92_47, rfl, HA, HJ47, HO_9, HB⟩ := hcut
            have hl9_47 := (Kd.R_reads' HO_9.out).1
            rw [hl9_47] at HO_9
            (try simp only [hl9_47])
            cases kq with
            | zero => exact absurd HA.out (by simp [laws_FnExactLabelsOf.j2])
            | succ kj47 =>
             have H := HA.out
             clear HA
             simp only [laws_FnExactLabelsOf.j2] at H
             by_cases c60 : x92_47 = true
             ·subst c60
              have H1 : (some false) = some r := by rw [if_pos rfl] at H; exact H
              clear H
              have H := H1
              clear H1
              obtain rfl := Option.some.inj H
              go_wp2
              go_ret
              exact ⟨rE, bB⟩
             ·replace c60 := Bool.eq_false_iff.mpr c60
              subst c60
              have H1 : ((laws_heldIntS.f kj47 t343 1).bind fun t353 => (if t353 < 0 then (some false) else (if t353 = t342 then (some true) else (some false)))) = some r := by rw [if_neg (show ¬ (false = true) by decide)] at H; exact H
              clear H
              have H := H1
              clear H1
              replace H := Option.bind_eq_some_iff.mp H
              obtain ⟨t353, A610, H⟩ := H
              replace H : (if t353 < 0 then (some false) else (if t353 = t342 then (some true) else (some false))) = some r := H
              have A61 := Aside0.mk A610
              clear A610
              by_cases c62 : t353 < 0
              ·rw [if_pos c62] at H
               have c62b0 : decide (t353 < 0) = true := decide_eq_true c62
               clear c62
               obtain rfl := Option.some.inj H
               go_wp2_with (first | ((with_reducible refine gate_callee (f := 31) rfl ?_); refine goesL_ (some 95) rfl rfl Try.func31 (by kernel_rfl) rfl #[.slice Ao49 t343.length co49, .int .i64 1] rfl aE ?_; (with_reducible refine (laws_heldIntS.calls kj47 _ _ t343 1 t353 _ ?side1 ?side2 A61.out).mono ?_); (case side1 => exact cK ((Kd.R_reads' HO_9.out).2.2)); (case side2 => exact (Kd.R_reads' HO_9.out).2.1); rintro e w' ⟨rfl, ⟨nd, rfl⟩⟩; refine ⟨_, rfl, ?_⟩))
               go_ret
               exact ⟨rE, bB⟩
              ·rw [if_neg c62] at H
               have c62b0 : decide (t353 < 0) = false := decide_eq_false c62
               clear c62
               by_cases c63 : t353 = t342
               ·rw [if_pos c63] at H
                have c63b0 : (t353 == t342) = true := beq_iff_eq.mpr c63
                have c63b1 : (t353 != t342) = false := bne_eq_false_iff_eq.mpr c63
                clear c63
                obtain rfl := Option.some.inj H
                go_wp2_with (first | ((with_reducible refine gate_callee (f := 31) rfl ?_); refine goesL_ (some 95) rfl rfl Try.func31 (by kernel_rfl) rfl #[.slice Ao49 t343.length co49, .int .i64 1] rfl aE ?_; (with_reducible refine (laws_heldIntS.calls kj47 _ _ t343 1 t353 _ ?side1 ?side2 A61.out).mono ?_); (case side1 => exact cK ((Kd.R_reads' HO_9.out).2.2)); (case side2 => exact (Kd.R_reads' HO_9.out).2.1); rintro e w' ⟨rfl, ⟨nd, rfl⟩⟩; refine ⟨_, rfl, ?_⟩))
                go_ret
                exact ⟨rE, bB⟩
               ·rw [if_neg c63] at H
                have c63b0 : (t353 == t342) = false := beq_eq_false_iff_ne.mpr c63
                have c63b1 : (t353 != t342) = true := bne_iff_ne.mpr c63
                obtain rfl := Option.some.inj H
                go_wp2_with (first | ((with_reducible refine gate_callee (f := 31) rfl ?_); refine goesL_ (some 95) rfl rfl Try.func31 (by kernel_rfl) rfl #[.slice Ao49 t343.length co49, .int .i64 1] rfl aE ?_; (with_reducible refine (laws_heldIntS.calls kj47 _ _ t343 1 t353 _ ?side1 ?side2 A61.out).mono ?_); (case side1 => exact cK ((Kd.R_reads' HO_9.out).2.2)); (case side2 => exact (Kd.R_reads' HO_9.out).2.1); rintro e w' ⟨rfl, ⟨nd, rfl⟩⟩; refine ⟨_, rfl, ?_⟩))
                go_ret
                exact ⟨rE, bB⟩
          ·rw [if_neg c45] at H
           have c45b0 : (t344 == t342) = false := beq_eq_false_iff_ne.mpr c45
           have c45b1 : (t344 != t342) = true := bne_iff_ne.mpr c45
           obtain rfl := Option.some.inj H
           obtain ⟨Ao64, co64, eo64⟩ := Kd.R_slice HO_9.out
           subst eo64
           go_wp2_with (first | ((with_reducible refine gate_callee (f := 30) rfl ?_); refine goesL_ (some 68) rfl rfl Try.func30 (by kernel_rfl) rfl #[.slice Ao64 t330.length co64, .int .i64 1] rfl aE ?_; (with_reducible refine (laws_markIntS.calls kj26 (fun k_ => some k_ = (.slice Ao64 t330.length co64 : Value).ownBlock) (.slice Ao64 t330.length co64) t330 1 t342 t343 w _ ?side1 ?side2 A40.out).mono ?_); (case side1 => repeat (first | (with_reducible first | exact HB.out | apply below_alloc | apply pw_below_drewN | apply below_drew1) | exact HB.out)); (case side2 => exact Kd.R_tight rfl HO_9.out); rintro e w65 ⟨rfl, hy0, hb, hkp⟩; refine ⟨_, rfl, ?_⟩; have n0_ := Aside0.mk (Kd.R_mono (ok' := fun k_ => some k_ ≠ (.slice Ao64 t330.length co64 : Value).ownBlock) (Kd.R_keptB (HO_6.out) hkp (fun k_ hk_ hs_ => (hk_) hs_)) (fun k_ hk_ => hk_.1)); have n1_ := Aside0.mk (Kd.R_reok rfl hy0 (fun k_ e_ => HO_9.out.1 k_ e_)); have n2_ := Aside0.mk (hb); clear HO_6; clear HO_9; clear HB; have HO_6 := n0_; have HO_9 := n1_; have HB := n2_; clear n0_ n1_ n2_; (try clear hb); (try clear hkp); (try clear hy0)) | ((with_reducible refine gate_callee (f := 31) rfl ?_); refine goesL_ (some 71) rfl rfl Try.func31 (by kernel_rfl) rfl #[.slice Ao64 t343.length co64, .int .i64 1] rfl (by (try simp only [List.map_toArray, List.map_cons, List.map_nil]); first | done | (rw [show t343.length = t330.length from (Kd.R_reads' HO_9.out).1.symm] <;> rfl) | rfl | (simp only [List.length_drop, List.length_take]; rfl)) ?_; (with_reducible refine (laws_heldIntS.calls kj26 _ _ t343 1 t344 _ ?side1 ?side2 A41.out).mono ?_); (case side1 => exact cK ((Kd.R_reads' HO_9.out).2.2)); (case side2 => rw [show t343.length = t330.length from (Kd.R_reads' HO_9.out).1.symm]; exact (Kd.R_reads' HO_9.out).2.1); rintro e w' ⟨rfl, ⟨nd, rfl⟩⟩; refine ⟨_, rfl, ?_⟩))
           go_ret
           exact ⟨rE, bB⟩
     ·replace c25 := Bool.eq_false_iff.mpr c25
      subst c25
      have H1 : (some false) = some r := by rw [if_neg (show ¬ (false = true) by decide)] at H; exact H
      clear H
      have H := H1
      clear H1
      obtain rfl := Option.some.inj H
      go_wp2_with (first | ((with_reducible refine gate_callee (f := 16) rfl ?_); refine goesL_ (some 47) rfl rfl Try.func16 (by kernel_rfl) rfl #[.slice A1 l1.length c1] rfl aE ?_; (with_reducible refine (laws_toIntA2S.calls kj8 _ _ l1 t335 _ ?side1 ?side2 A23.out).mono ?_); (case side1 => exact cK ((Kd.C_below HR1.out HB.out))); (case side2 => exact HC1.out); rintro e w66 ⟨v336, rfl, ho0, hb⟩; refine ⟨_, rfl, ?_⟩; have n0_ := Aside0.mk (rB HO_6 hb); have n1_ := Aside0.mk (Kd.R_elder' (by (with_reducible repeat (first | apply Kd.R_alloc | apply Kd.R_drewN | apply Kd.R_drew)); exact HO_8.out) (Kd.R_base ho0) hb); have n2_ := Aside0.mk (rB HO_9 hb); have n3_ := Aside0.mk (Kd.R_lower (Kd.R_new' ho0 (Kd.R_lt (by (with_reducible repeat (first | apply Kd.R_alloc | apply Kd.R_drewN | apply Kd.R_drew)); exact HO_8.out))) (below_size bB)); have n4_ := Aside0.mk (below_step bB hb); clear HO_6; clear HO_8; clear HO_9; clear HB; have HO_6 := n0_; have HO_8 := n1_; have HO_9 := n2_; have HO337 := n3_; have HB := n4_; clear n0_ n1_ n2_ n3_ n4_; (try clear hb); (try clear hk); (try clear ho0); obtain ⟨Ao67, co67, eo67⟩ := Kd.R_slice HO337.out; subst eo67) | ((with_reducible refine gate_callee (f := 19) rfl ?_); refine goesL_ (some 48) rfl rfl Try.func19 (by kernel_rfl) rfl #[.slice Ao14 t327.length co14, .slice Ao67 t335.length co67] rfl aE ?_; (with_reducible refine (laws_eqIntA2S.calls kj8 _ _ t327 _ _ t335 false _ ?side1 ?side2 ?side3 ?side4 A24.out).mono ?_); (case side1 => exact cK ((Kd.R_reads' HO_8.out).2.2)); (case side2 => exact (Kd.R_reads' HO_8.out).2.1); (case side3 => exact cK ((Kd.R_reads' HO337.out).2.2)); (case side4 => exact (Kd.R_reads' HO337.out).2.1); rintro e w68 ⟨rfl, hb⟩; refine ⟨_, rfl, ?_⟩; have n0_ := Aside0.mk (rB HO_6 hb); have n1_ := Aside0.mk (rB HO_8 hb); have n2_ := Aside0.mk (rB HO_9 hb); have n3_ := Aside0.mk (rB HO337 hb); have n4_ := Aside0.mk (below_step bB hb); clear HO_6; clear HO_8; clear HO_9; clear HO337; clear HB; have HO_6 := n0_; have HO_8 := n1_; have HO_9 := n2_; have HO337 := n3_; have HB := n4_; clear n0_ n1_ n2_ n3_ n4_; (try clear hb); (try clear hk)))
      go_ret
      exact ⟨rE, bB⟩

end Go.Proofs.Ytecdigebnhlfhaa.OFnExactLabelsOf
