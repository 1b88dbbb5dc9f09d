/- Functions of the program as plain Lean functions, with their contracts: written by this session's program ownprint.py. Conditions: none. -/
import Derived.Test.YthhmembnhnghiaaOFnExactSetOrderx0
import Derived.Test.YthhmembnhnghiaaOFnExactSetOrderx5
import Derived.Test.YthhmembnhnghiaaOFnExactSetOrderx6
namespace Go.Proofs.Ythhmembnhnghiaa.OFnExactSetOrder
open Go.RowKit Go.Proofs.YthhmembnhnghiaaW.PrintWords Go.Proofs.YthhmembnhnghiaaW.PrintLast Go.Proofs.YthhmembnhnghiaaW.PrintMore
attribute [local go_sem] max2_int min2_int max_two min_two max_three min_three max_four min_four   -- for this text's walks alone
set_option linter.unusedVariables false
set_option linter.unusedSimpArgs false

/-! ### impl_SetOrder: function 50 -/
mutual
def impl_SetOrder.j0 : Nat → List (S59) → Int → Bool → Option (List Int × Bool)
 | 0, _, _, _ => none
 | k + 1, x0, x1, x19 => if x19 = true then (some (([] : List Int), false)) else ((impl_setValues.f k x0 x1 0).bind fun t209 => (if 0 ≤ (x0.length : Int) then (if ((x0.length : Int) : Int).toNat ≤ 35184372088832 then (impl_SetOrder.l0 k x0 x1 t209 (List.replicate ((x0.length : Int) : Int).toNat 0) (wrap64 ((shl .i64 1 (x0.length : Int)) - 1)) (wrap64 ((x0.length : Int) - 1))) else (none)) else (none)))
def impl_SetOrder.l0 : Nat → List (S59) → Int → List Int → List Int → Int → Int → Option (List Int × Bool)
 | 0, _, _, _, _, _, _ => none
 | k + 1, x0, x1, x6, x7, x8, x9 => if x9 ≥ 0 then ((impl_listOf.f k x8).bind fun t215 => (impl_SetOrder.l1 k x0 x1 x6 x7 x8 x9 t215 (t215.length : Int) 0)) else (some (x7, true))
def impl_SetOrder.l1 : Nat → List (S59) → Int → List Int → List Int → Int → Int → List Int → Int → Int → Option (List Int × Bool)
 | 0, _, _, _, _, _, _, _, _, _ => none
 | k + 1, x0, x1, x6, x7, x8, x9, x38, x39, x40 => if x40 < x39 then (if 0 ≤ x40 then (if x40 < (x38.length : Int) then (if 0 ≤ (rd x38 x40) then (if 0 ≤ (Go.bits .andNot .i64 x8 (shl .i64 1 (rd x38 x40))) then (if (Go.bits .andNot .i64 x8 (shl .i64 1 (rd x38 x40))) < (x6.length : Int) then (if (rd x38 x40) < (x0.length : Int) then ((impl_timeOf.f k x0 x8).bind fun t221 => ((impl_add.f (rd x6 (Go.bits .andNot .i64 x8 (shl .i64 1 (rd x38 x40)))) ((rd_T59 x0 (rd x38 x40)).f0) ((rd_T59 x0 (rd x38 x40)).f1) ((rd_T59 x0 (rd x38 x40)).f2) ((rd_T59 x0 (rd x38 x40)).f3) t221 x1 false).bind fun t222 => (if 0 ≤ x8 then (if x8 < (x6.length : Int) then (if t222 = (rd x6 x8) then (if 0 ≤ x9 then (if x9 < (x7.length : Int) then (impl_SetOrder.l0 k x0 x1 x6 (x7.set (x9 : Int).toNat (rd x38 x40)) (Go.bits .andNot .i64 x8 (shl .i64 1 (rd x38 x40))) (wrap64 (x9 - 1))) else (none)) else (none)) else (impl_SetOrder.l1 k x0 x1 x6 x7 x8 x9 x38 x39 (wrap64 (x40 + 1)))) else (none)) else (none)))) else (none)) else (none)) else (none)) else (none)) else (none)) else (none)) else (impl_SetOrder.l0 k x0 x1 x6 x7 x8 (wrap64 (x9 - 1)))
end
def impl_SetOrder.f (k : Nat) (l0 : List (S59)) (a1 : Int) : Option (List Int × Bool) := (impl_IsPlain.f k l0).bind fun t207 => (if t207 = true then ((impl_isSumObjective.f a1).bind fun t208 => (impl_SetOrder.j0 k l0 a1 (!t208))) else (impl_SetOrder.j0 k l0 a1 true))
theorem impl_SetOrder.mono_l : ∀ k, (∀ y0 y1 y2, LeO (impl_SetOrder.j0 k y0 y1 y2) (impl_SetOrder.j0 (k + 1) y0 y1 y2)) ∧ (∀ y0 y1 y2 y3 y4 y5, LeO (impl_SetOrder.l0 k y0 y1 y2 y3 y4 y5) (impl_SetOrder.l0 (k + 1) y0 y1 y2 y3 y4 y5)) ∧ (∀ y0 y1 y2 y3 y4 y5 y6 y7 y8, LeO (impl_SetOrder.l1 k y0 y1 y2 y3 y4 y5 y6 y7 y8) (impl_SetOrder.l1 (k + 1) y0 y1 y2 y3 y4 y5 y6 y7 y8))
 | 0 => ⟨fun _ _ _ r h => by simp [impl_SetOrder.j0] at h, fun _ _ _ _ _ _ r h => by simp [impl_SetOrder.l0] at h, fun _ _ _ _ _ _ _ _ _ r h => by simp [impl_SetOrder.l1] at h⟩
 | k + 1 => by
  obtain ⟨ih0, ih1, ih2⟩ := impl_SetOrder.mono_l k
  refine ⟨?_, ?_, ?_⟩
  ·intro y0 y1 y2
   unfold impl_SetOrder.j0
   repeat' first
   | (with_reducible exact ih0 _ _ _)
   | (with_reducible exact ih1 _ _ _ _ _ _)
   | (with_reducible exact ih2 _ _ _ _ _ _ _ _ _)
   | (with_reducible exact impl_IsPlain.mono _ _)
   | (with_reducible exact impl_listOf.mono _ _)
   | (with_reducible exact impl_setValues.mono _ _ _ _)
   | (with_reducible exact impl_timeOf.mono _ _ _)
   | (with_reducible exact LeO.refl _)
   | (with_reducible exact LeO.none _)
   | (with_reducible refine LeO.ite ?_ ?_)
   | (with_reducible refine LeO.bind ?_ (fun _ => ?_))
   | exact ih0 _ _ _
   | exact ih1 _ _ _ _ _ _
   | exact ih2 _ _ _ _ _ _ _ _ _
   | exact impl_IsPlain.mono _ _
   | exact impl_listOf.mono _ _
   | exact impl_setValues.mono _ _ _ _
   | exact impl_timeOf.mono _ _ _
   | exact LeO.none _
   | refine LeO.ite ?_ ?_
   | refine LeO.bind ?_ (fun _ => ?_)
  ·intro y0 y1 y2 y3 y4 y5
   unfold impl_SetOrder.l0
   repeat' first
   | (with_reducible exact ih0 _ _ _)
   | (with_reducible exact ih1 _ _ _ _ _ _)
   | (with_reducible exact ih2 _ _ _ _ _ _ _ _ _)
   | (with_reducible exact impl_IsPlain.mono _ _)
   | (with_reducible exact impl_listOf.mono _ _)
   | (with_reducible exact impl_setValues.mono _ _ _ _)
   | (with_reducible exact impl_timeOf.mono _ _ _)
   | (with_reducible exact LeO.refl _)
   | (with_reducible exact LeO.none _)
   | (with_reducible refine LeO.ite ?_ ?_)
   | (with_reducible refine LeO.bind ?_ (fun _ => ?_))
   | exact ih0 _ _ _
   | exact ih1 _ _ _ _ _ _
   | exact ih2 _ _ _ _ _ _ _ _ _
   | exact impl_IsPlain.mono _ _
   | exact impl_listOf.mono _ _
   | exact impl_setValues.mono _ _ _ _
   | exact impl_timeOf.mono _ _ _
   | exact LeO.none _
   | refine LeO.ite ?_ ?_
   | refine LeO.bind ?_ (fun _ => ?_)
  ·intro y0 y1 y2 y3 y4 y5 y6 y7 y8
   unfold impl_SetOrder.l1
   repeat' first
   | (with_reducible exact ih0 _ _ _)
   | (with_reducible exact ih1 _ _ _ _ _ _)
   | (with_reducible exact ih2 _ _ _ _ _ _ _ _ _)
   | (with_reducible exact impl_IsPlain.mono _ _)
   | (with_reducible exact impl_listOf.mono _ _)
   | (with_reducible exact impl_setValues.mono _ _ _ _)
   | (with_reducible exact impl_timeOf.mono _ _ _)
   | (with_reducible exact LeO.refl _)
   | (with_reducible exact LeO.none _)
   | (with_reducible refine LeO.ite ?_ ?_)
   | (with_reducible refine LeO.bind ?_ (fun _ => ?_))
   | exact ih0 _ _ _
   | exact ih1 _ _ _ _ _ _
   | exact ih2 _ _ _ _ _ _ _ _ _
   | exact impl_IsPlain.mono _ _
   | exact impl_listOf.mono _ _
   | exact impl_setValues.mono _ _ _ _
   | exact impl_timeOf.mono _ _ _
   | exact LeO.none _
   | refine LeO.ite ?_ ?_
   | refine LeO.bind ?_ (fun _ => ?_)
theorem impl_SetOrder.mono : ∀ a0 a1 k, LeO (impl_SetOrder.f k a0 a1) (impl_SetOrder.f (k + 1) a0 a1) := by
 intro a0 a1 k
 obtain ⟨ih0, ih1, ih2⟩ := impl_SetOrder.mono_l k
 unfold impl_SetOrder.f
 repeat' first
   | (with_reducible exact ih0 _ _ _)
   | (with_reducible exact ih1 _ _ _ _ _ _)
   | (with_reducible exact ih2 _ _ _ _ _ _ _ _ _)
   | (with_reducible exact impl_IsPlain.mono _ _)
   | (with_reducible exact impl_listOf.mono _ _)
   | (with_reducible exact impl_setValues.mono _ _ _ _)
   | (with_reducible exact impl_timeOf.mono _ _ _)
   | (with_reducible exact LeO.refl _)
   | (with_reducible exact LeO.none _)
   | (with_reducible refine LeO.ite ?_ ?_)
   | (with_reducible refine LeO.bind ?_ (fun _ => ?_))
   | exact ih0 _ _ _
   | exact ih1 _ _ _ _ _ _
   | exact ih2 _ _ _ _ _ _ _ _ _
   | exact impl_IsPlain.mono _ _
   | exact impl_listOf.mono _ _
   | exact impl_setValues.mono _ _ _ _
   | exact impl_timeOf.mono _ _ _
   | exact LeO.none _
   | refine LeO.ite ?_ ?_
   | refine LeO.bind ?_ (fun _ => ?_)
def impl_SetOrder.T12 : Bool × List (List Nat × List Nat) := (true, [([], []), ([], []), ([], []), ([2], [2]), ([1, 3], [1, 3]), ([0, 4], [0, 4]), ([5], [5]), ([], []), ([], []), ([7, 8], [7, 8]), ([9], [9]), ([], []), ([], []), ([11, 12], [11, 12]), ([], []), ([6, 10, 13, 14, 13], [6, 10, 13, 14]), ([], []), ([], []), ([16, 17], [16, 17]), ([18], [18]), ([15, 19], [15, 19])])
def impl_SetOrder.B12 : List Nat := [0, 0, 0, 4, 14, 31, 63, 0, 0, 384, 896, 0, 0, 6144, 0, 32767, 0, 0, 196608, 458752, 1048575]
theorem impl_SetOrder.tab12 : rtab .any (opsOf Try.f50 12) = impl_SetOrder.T12 := by kernel_rfl
theorem impl_SetOrder.bits12 : waitsOk impl_SetOrder.T12.2 impl_SetOrder.B12 = true := by kernel_rfl
set_option maxHeartbeats 8000000 in
set_option maxRecDepth 100000 in
theorem impl_SetOrder.calls (k : Nat) (A0 : Option Addr) (c0 : Nat) (l0 : List (S59)) (a1 : Int) (r1 : List Int) (r2 : Bool) (w : World) (hr0 : Kd.C k59 w A0 l0.length l0) (hc0 : l0.length ≤ c0) (h : impl_SetOrder.f k l0 a1 = some (r1, r2)) :
  Calls Try.prog 50 #[.slice A0 l0.length c0, .int .i64 a1] w fun e w' => ∃ v0_ : Value, e = .returned (.tuple #[v0_, .bool r2]) ∧ Kd.R (Kd.int .i64) 3 w' w.heap.size (fun _ => True) v0_ r1 ∧ Below w.heap.size w w' := by
 have hu59 := Try.underlying59
 have HR0 := Aside0.mk hr0
 have HC0 := Aside0.mk hc0
 clear hr0 hc0
 have HB := Aside0.mk (Below.refl w.heap.size w)
 have H : ((impl_IsPlain.f k l0).bind fun t207 => (if t207 = true then ((impl_isSumObjective.f a1).bind fun t208 => (impl_SetOrder.j0 k l0 a1 (!t208))) else (impl_SetOrder.j0 k l0 a1 true))) = some (r1, r2) := h
 clear h
 have HC3 := Aside0.mk H
 clear H
 go_enter Try.func50, Try.ntmps50
 go_upto_region 1 with (fail)
 go_cut [19] (fun v19 wc => ∃ (kq : Nat) (x19_2 : Bool), v19 = .bool x19_2 ∧ Aside0 (impl_SetOrder.j0 kq l0 a1 x19_2 = some (r1, r2)) ∧ Aside0 (kq ≤ k) ∧ Aside0 (Below w.heap.size w wc))
 case first =>
  have H := HC3.out
  clear HC3
  replace H := Option.bind_eq_some_iff.mp H
  obtain ⟨t207, A40, H⟩ := H
  replace H : (if t207 = true then ((impl_isSumObjective.f a1).bind fun t208 => (impl_SetOrder.j0 k l0 a1 (!t208))) else (impl_SetOrder.j0 k l0 a1 true)) = some (r1, r2) := H
  have A4 := Aside0.mk A40
  clear A40
  by_cases c5 : t207 = true
  ·subst c5
   have H1 : ((impl_isSumObjective.f a1).bind fun t208 => (impl_SetOrder.j0 k l0 a1 (!t208))) = some (r1, r2) := by rw [if_pos rfl] at H; exact H
   clear H
   have H := H1
   clear H1
   replace H := Option.bind_eq_some_iff.mp H
   obtain ⟨t208, A60, H⟩ := H
   replace H : (impl_SetOrder.j0 k l0 a1 (!t208)) = some (r1, r2) := H
   have A6 := Aside0.mk A60
   clear A60
   have H' := Aside0.mk H
   clear H
   go_wp2_with (first | ((with_reducible refine gate_callee (f := 59) rfl ?_); refine goesL_ (some 13) rfl rfl Try.func59 (by kernel_rfl) rfl #[.slice A0 l0.length c0] rfl (by (try simp only [List.map_toArray, List.map_cons, List.map_nil]); first | done | rfl | (simp only [List.length_drop, List.length_take]; rfl)) ?_; (with_reducible refine (impl_IsPlain.calls k _ _ l0 true _ ?side1 ?side2 A4.out).mono ?_); (case side1 => repeat (first | exact (Kd.C_below HR0.out HB.out) | (with_reducible refine Kd.C_alloc ?_ _) | (with_reducible refine Kd.C_drewN ?_ _) | (with_reducible refine Kd.C_drew ?_))); (case side2 => exact HC0.out); rintro e w7 ⟨rfl, hb⟩; refine ⟨_, rfl, ?_⟩; have n0_ := Aside0.mk (below_step (by repeat (first | (with_reducible first | exact HB.out | apply below_alloc | apply pw_below_drewN | apply below_drew1) | exact HB.out)) hb); clear HB; have HB := n0_; clear n0_; (try clear hb); (try clear hb2); (try clear hk); (try clear hi)) | (go_at_call 70; (with_reducible refine (impl_isSumObjective.calls a1 t208 _ A6.out).mono ?_); rintro e w' ⟨rfl, ⟨nd, rfl⟩⟩))
   go_meet
   case rel => exact ⟨_, (!t208), (by first | rfl | (simp; done) | (simp [*]; done)), H', ⟨by first | omega | exact Nat.le_refl _⟩, ⟨by repeat (first | (with_reducible first | exact HB.out | apply below_alloc | apply pw_below_drewN | apply below_drew1) | exact HB.out)⟩⟩
  ·replace c5 := Bool.eq_false_iff.mpr c5
   subst c5
   have H1 : (impl_SetOrder.j0 k l0 a1 true) = some (r1, r2) := by rw [if_neg (show ¬ (false = true) by decide)] at H; exact H
   clear H
   have H := H1
   clear H1
   have H' := Aside0.mk H
   clear H
   go_wp2_with (first | ((with_reducible refine gate_callee (f := 59) rfl ?_); refine goesL_ (some 13) rfl rfl Try.func59 (by kernel_rfl) rfl #[.slice A0 l0.length c0] rfl (by (try simp only [List.map_toArray, List.map_cons, List.map_nil]); first | done | rfl | (simp only [List.length_drop, List.length_take]; rfl)) ?_; (with_reducible refine (impl_IsPlain.calls k _ _ l0 false _ ?side1 ?side2 A4.out).mono ?_); (case side1 => repeat (first | exact (Kd.C_below HR0.out HB.out) | (with_reducible refine Kd.C_alloc ?_ _) | (with_reducible refine Kd.C_drewN ?_ _) | (with_reducible refine Kd.C_drew ?_))); (case side2 => exact HC0.out); rintro e w8 ⟨rfl, hb⟩; refine ⟨_, rfl, ?_⟩; have n0_ := Aside0.mk (below_step (by repeat (first | (with_reducible first | exact HB.out | apply below_alloc | apply pw_below_drewN | apply below_drew1) | exact HB.out)) hb); clear HB; have HB := n0_; clear n0_; (try clear hb); (try clear hb2); (try clear hk); (try clear hi)))
   go_meet
   case rel => exact ⟨_, (true), (by first | rfl | (simp; done) | (simp [*]; done)), H', ⟨by first | omega | exact Nat.le_refl _⟩, ⟨by repeat (first | (with_reducible first | exact HB.out | apply below_alloc | apply pw_below_drewN | apply below_drew1) | exact HB.out)⟩⟩
 case rest =>
  clear HC3
  try clear p2
  try clear c5
  obtain ⟨kq, x19_2, rfl, HA, HJ2, HB⟩ := hcut
  cases kq with
  | zero => exact absurd HA.out (by simp [impl_SetOrder.j0])
  | succ kj2 =>
   have H := HA.out
   clear HA
   simp only [impl_SetOrder.j0] at H
   by_cases c9 : x19_2 = true
   ·subst c9
    have H1 : (some (([] : List Int), false)) = some (r1, r2) := by rw [if_pos rfl] at H; exact H
    clear H
    have H := H1
    clear H1
    simp only [Option.some.injEq, Prod.mk.injEq] at H
    obtain ⟨rfl, rfl⟩ := H
    go_wp2
    go_ret2
    exact ⟨_, by first | rfl | (simp [errW_none, errW_some] <;> rfl) | (simp [*, errW_none, errW_some] <;> rfl), by first | exact Kd.R_nil _ _ _ _ _ | exact Kd.N_nil _ _ _ _ _ | exact Kd.V_nil _ _ _ _ _ | exact Kd.Q_nil _ _ _ _ _ | exact Kd.S_nil _ _ _ _ _, by repeat (first | (with_reducible first | exact HB.out | apply below_alloc | apply pw_below_drewN | apply below_drew1) | exact HB.out)⟩
   ·replace c9 := Bool.eq_false_iff.mpr c9
    subst c9
    have H1 : ((impl_setValues.f kj2 l0 a1 0).bind fun t209 => (if 0 ≤ (l0.length : Int) then (if ((l0.length : Int) : Int).toNat ≤ 35184372088832 then (impl_SetOrder.l0 kj2 l0 a1 t209 (List.replicate ((l0.length : Int) : Int).toNat 0) (wrap64 ((shl .i64 1 (l0.length : Int)) - 1)) (wrap64 ((l0.length : Int) - 1))) else (none)) else (none))) = some (r1, r2) := by rw [if_neg (show ¬ (false = true) by decide)] at H; exact H
    clear H
    have H := H1
    clear H1
    replace H := Option.bind_eq_some_iff.mp H
    obtain ⟨t209, A100, H⟩ := H
    replace H : (if 0 ≤ (l0.length : Int) then (if ((l0.length : Int) : Int).toNat ≤ 35184372088832 then (impl_SetOrder.l0 kj2 l0 a1 t209 (List.replicate ((l0.length : Int) : Int).toNat 0) (wrap64 ((shl .i64 1 (l0.length : Int)) - 1)) (wrap64 ((l0.length : Int) - 1))) else (none)) else (none)) = some (r1, r2) := H
    have A10 := Aside0.mk A100
    clear A100
    by_cases c11 : 0 ≤ (l0.length : Int)
    ·rw [if_pos c11] at H
     have c11b0 := eq_true c11
     have c11b1 : decide (0 ≤ (l0.length : Int)) = true := decide_eq_true c11
     clear c11
     by_cases c12 : ((l0.length : Int) : Int).toNat ≤ 35184372088832
     ·rw [if_pos c12] at H
      have c12b0 := eq_true c12
      have c12b1 : decide (((l0.length : Int) : Int).toNat ≤ 35184372088832) = true := decide_eq_true c12
      clear c12
      obtain ⟨y212, hy212⟩ : ∃ y_ : List Int, y_ = (List.replicate ((l0.length : Int) : Int).toNat 0) := ⟨_, rfl⟩
      replace H : (impl_SetOrder.l0 kj2 l0 a1 t209 y212 (wrap64 ((shl .i64 1 (l0.length : Int)) - 1)) (wrap64 ((l0.length : Int) - 1))) = some (r1, r2) := by first | (rw [hy212]; with_reducible exact H) | (have H2_ := (Option.bind_some _ _).symm.trans H; rw [hy212]; with_reducible exact H2_) | (have H2_ := (Option.bind_some _ _).symm.trans H; with_reducible exact H2_) | with_reducible exact H | (rw [hy212]; exact H) | exact H
      have Ny212 := Aside0.mk hy212
      clear hy212
      obtain ⟨ji13, hji13⟩ : ∃ j_ : Int, (shl .i64 1 (l0.length : Int)) = j_ := ⟨_, rfl⟩
      replace H : (impl_SetOrder.l0 kj2 l0 a1 t209 y212 (wrap64 ((ji13) - 1)) (wrap64 ((l0.length : Int) - 1))) = some (r1, r2) := by first | (rw [hji13] at H; exact H) | (simp only [hji13] at H ⊢; exact H)
      (try rw [hji13] at A10)
      have hji13_ : (IntKind.i64.wrap (1 * 2 ^ min (l0.length : Int).toNat 64)) = ji13 := hji13
      have hji13z : (l0.length : Int) ≤ 64 → (IntKind.i64.wrap (1 * 2 ^ (l0.length : Int).toNat)) = ji13 := shl_small hji13
      have hji13p : (IntKind.i64.wrap (1 * 2 ^ min l0.length 64)) = ji13 := hji13_
      have hji13q : (l0.length : Int) ≤ 64 → (IntKind.i64.wrap (1 * 2 ^ l0.length)) = ji13 := hji13z
      have hji13r : (IntKind.i64.wrap (2 ^ min l0.length 64)) = ji13 := by have h_ := hji13p; rw [Int.one_mul] at h_; exact h_
      have hji13s : (l0.length : Int) ≤ 64 → (IntKind.i64.wrap (2 ^ l0.length)) = ji13 := fun hle_ => by have h_ := hji13q hle_; rw [Int.one_mul] at h_; exact h_
      have hji13u : (IntKind.i64.wrap (2 ^ min (l0.length : Int).toNat 64)) = ji13 := by have h_ := hji13_; rw [Int.one_mul] at h_; exact h_
      have hji13v : (l0.length : Int) ≤ 64 → (IntKind.i64.wrap (2 ^ (l0.length : Int).toNat)) = ji13 := fun hle_ => by have h_ := hji13z hle_; rw [Int.one_mul] at h_; exact h_
      have hji13y : (wrap64 (1 * 2 ^ min (l0.length : Int).toNat 64)) = ji13 := (i64_w _).symm.trans hji13_
      have hji13x : (l0.length : Int) ≤ 64 → (wrap64 (1 * 2 ^ (l0.length : Int).toNat)) = ji13 := fun h_ => (i64_w _).symm.trans (hji13z h_)
      have H' := Aside0.mk H
      clear H
      go_wp2_with (first | ((with_reducible refine gate_callee (f := 71) rfl ?_); refine goesL_ (some 22) rfl rfl Try.func71 (by kernel_rfl) rfl #[.slice A0 l0.length c0, .int .i64 a1, .int .i64 0] rfl (by (try simp only [List.map_toArray, List.map_cons, List.map_nil]); first | done | rfl | (simp only [List.length_drop, List.length_take]; rfl)) ?_; (with_reducible refine (impl_setValues.calls kj2 _ _ l0 a1 0 t209 _ ?side1 ?side2 A10.out).mono ?_); (case side1 => repeat (first | exact (Kd.C_below HR0.out HB.out) | (with_reducible refine Kd.C_alloc ?_ _) | (with_reducible refine Kd.C_drewN ?_ _) | (with_reducible refine Kd.C_drew ?_))); (case side2 => exact HC0.out); rintro e w14 ⟨v210, rfl, ho0, hb⟩; refine ⟨_, rfl, ?_⟩; have n0_ := Aside0.mk (Kd.R_lower ho0 (below_size (by repeat (first | (with_reducible first | exact HB.out | apply below_alloc | apply pw_below_drewN | apply below_drew1) | exact HB.out)))); have n1_ := Aside0.mk (below_step (by repeat (first | (with_reducible first | exact HB.out | apply below_alloc | apply pw_below_drewN | apply below_drew1) | exact HB.out)) hb); clear HB; have HO211 := n0_; have HB := n1_; clear n0_ n1_; (try clear hb); (try clear hb2); (try clear hk); (try clear hi); (try clear ho0)) | ((with_reducible refine gate_dst (N := 25) rfl ?_); refine Kd.R_make (Kd.int .i64) _ 3 rfl (N := 25) rfl 37 _ _ rfl (l0.length : Int) rfl rfl Try.underlying37 (.int .i64 0) 8 info3 rfl (by decide) (by omega) 0 (ok := fun _ => True) (okp := fun _ => True) rfl (fun _ hk => hk) trivial (of_decide_eq_true (by first | (with_reducible assumption) | assumption)) (Nat.le_trans (Nat.mul_le_mul_right _ (of_decide_eq_true (by first | (with_reducible assumption) | assumption) : (l0.length : Int).toNat ≤ 35184372088832)) (by omega)) (Below.refl _ _) (Nat.le_refl _) ?_; intro v213 w15 ho16 hb hg_ hnew_; clear hg_ hnew_; (first | rw [← Ny212.out] at ho16 | (simp only [Int.reduceToNat] at ho16; rw [← Ny212.out] at ho16)); have n0_ := Aside0.mk (Kd.R_elder' (by (with_reducible repeat (first | apply Kd.R_alloc | apply Kd.R_drewN | apply Kd.R_drew)); exact HO211.out) (Kd.R_base ho16) hb); have n1_ := Aside0.mk (Kd.R_lower (Kd.R_new' ho16 (Kd.R_lt (by (with_reducible repeat (first | apply Kd.R_alloc | apply Kd.R_drewN | apply Kd.R_drew)); exact HO211.out))) (below_size (by repeat (first | (with_reducible first | exact HB.out | apply below_alloc | apply pw_below_drewN | apply below_drew1) | exact HB.out)))); have n2_ := Aside0.mk (below_step (by repeat (first | (with_reducible first | exact HB.out | apply below_alloc | apply pw_below_drewN | apply below_drew1) | exact HB.out)) hb); clear HO211; clear HB; have HO211 := n0_; have HO214 := n1_; have HB := n2_; clear n0_ n1_ n2_; clear hb ho16))
      go_loopg [8, 9] kj2 (fun kq v8 v9 w' => ∃ (x7_2 : List Int) (x8_2 : Int) (x9_2 : Int), v8 = .int .i64 x8_2 ∧ v9 = .int .i64 x9_2 ∧ Aside0 (impl_SetOrder.l0 kq l0 a1 t209 x7_2 x8_2 x9_2 = some (r1, r2)) ∧ Aside0 (kq ≤ kj2) ∧ Aside0 (Kd.R (Kd.int .i64) 3 w' w.heap.size (fun k_ => some k_ ≠ (v213 : Value).ownBlock) v210 t209) ∧ Aside0 (Kd.R (Kd.int .i64) 3 w' w.heap.size (fun k_ => some k_ ≠ (v210 : Value).ownBlock) v213 x7_2) ∧ Aside0 (Below w.heap.size w w'))
      case atStart => exact ⟨(y212), (wrap64 ((ji13) - 1)), (wrap64 ((l0.length : Int) - 1)), (by first | rfl | (simp; done) | (simp only [← hji13] <;> (first | rfl | simp)) | (simp [*]; done)), (by first | rfl | (simp; done) | (simp [*]; done)), H', ⟨Nat.le_refl _⟩, ⟨by (with_reducible repeat (first | apply Kd.R_alloc | apply Kd.R_drewN | apply Kd.R_drew)); exact Kd.R_mono HO211.out (fun _ hk => hk.2)⟩, ⟨by (with_reducible repeat (first | apply Kd.R_alloc | apply Kd.R_drewN | apply Kd.R_drew)); exact Kd.R_mono HO214.out (fun _ hk => hk.2)⟩, ⟨by repeat (first | (with_reducible first | exact HB.out | apply below_alloc | apply pw_below_drewN | apply below_drew1) | exact HB.out)⟩⟩
      case round =>
       clear H'
       try clear c1
       try clear p2
       try clear c5
       try clear p6
       try clear c7
       try clear c9
       try clear c11
       try clear c11b0
       try clear c11b1
       try clear c12
       try clear c12b0
       try clear c12b1
       try clear p2
       obtain ⟨x7_2, x8_2, x9_2, rfl, rfl, HA, HK2, HO_6, HO_7, HB⟩ := hrel
       cases gk with
       | zero => exact absurd HA.out (by simp [impl_SetOrder.l0])
       | succ k2 =>
        have H := HA.out
        clear HA
        simp only [impl_SetOrder.l0] at H
        by_cases c17 : x9_2 ≥ 0
        ·rw [if_pos c17] at H
         have c17b0 : decide (0 ≤ x9_2) = true := decide_eq_true c17
         clear c17
         replace H := Option.bind_eq_some_iff.mp H
         obtain ⟨t215, A180, H⟩ := H
         replace H : (impl_SetOrder.l1 k2 l0 a1 t209 x7_2 x8_2 x9_2 t215 (t215.length : Int) 0) = some (r1, r2) := H
         have A18 := Aside0.mk A180
         clear A180
         have H' := Aside0.mk H
         clear H
         go_wp2_with (first | ((with_reducible refine gate_callee (f := 95) rfl ?_); refine goesL_ (some 38) rfl rfl Try.func95 (by kernel_rfl) rfl #[.int .i64 x8_2] rfl (by (try simp only [List.map_toArray, List.map_cons, List.map_nil]); first | done | rfl | (simp only [List.length_drop, List.length_take]; rfl)) ?_; (with_reducible refine (impl_listOf.calls k2 x8_2 t215 _ A18.out).mono ?_); rintro e w19 ⟨v216, rfl, ho0, hb⟩; refine ⟨_, rfl, ?_⟩; have n0_ := Aside0.mk (Kd.R_elder' (by (with_reducible repeat (first | apply Kd.R_alloc | apply Kd.R_drewN | apply Kd.R_drew)); exact HO_6.out) (Kd.R_base ho0) hb); have n1_ := Aside0.mk (Kd.R_elder' (by (with_reducible repeat (first | apply Kd.R_alloc | apply Kd.R_drewN | apply Kd.R_drew)); exact HO_7.out) (Kd.R_base ho0) hb); have n2_ := Aside0.mk (Kd.R_lower (Kd.R_new' (Kd.R_new' ho0 (Kd.R_lt (by (with_reducible repeat (first | apply Kd.R_alloc | apply Kd.R_drewN | apply Kd.R_drew)); exact HO_6.out))) (Kd.R_lt (by (with_reducible repeat (first | apply Kd.R_alloc | apply Kd.R_drewN | apply Kd.R_drew)); exact HO_7.out))) (below_size (by repeat (first | (with_reducible first | exact HB.out | apply below_alloc | apply pw_below_drewN | apply below_drew1) | exact HB.out)))); have n3_ := Aside0.mk (below_step (by repeat (first | (with_reducible first | exact HB.out | apply below_alloc | apply pw_below_drewN | apply below_drew1) | exact HB.out)) hb); clear HO_6; clear HO_7; clear HB; have HO_6 := n0_; have HO_7 := n1_; have HO217 := n2_; have HB := n3_; clear n0_ n1_ n2_ n3_; (try clear hb); (try clear hb2); (try clear hk); (try clear hi); (try clear ho0); obtain ⟨Ao20, co20, eo20⟩ := Kd.R_slice HO217.out; subst eo20))
         go_loopg [8, 40] k2 (fun kq v8 v40 w' => ∃ (x7_3 : List Int) (x8_3 : Int) (x40_3 : Int), v8 = .int .i64 x8_3 ∧ v40 = .int .i64 x40_3 ∧ Aside0 (impl_SetOrder.l1 kq l0 a1 t209 x7_3 x8_3 x9_2 t215 (t215.length : Int) x40_3 = some (r1, r2)) ∧ Aside0 (kq ≤ k2) ∧ Aside0 (Kd.R (Kd.int .i64) 3 w' w.heap.size (fun k_ => some k_ ≠ (v213 : Value).ownBlock ∧ some k_ ≠ ((.slice Ao20 t215.length co20) : Value).ownBlock) v210 t209) ∧ Aside0 (Kd.R (Kd.int .i64) 3 w' w.heap.size (fun k_ => some k_ ≠ (v210 : Value).ownBlock ∧ some k_ ≠ ((.slice Ao20 t215.length co20) : Value).ownBlock) v213 x7_3) ∧ Aside0 (Kd.R (Kd.int .i64) 3 w' w.heap.size (fun k_ => some k_ ≠ (v210 : Value).ownBlock ∧ some k_ ≠ (v213 : Value).ownBlock) (.slice Ao20 t215.length co20) t215) ∧ Aside0 (Below w.heap.size w w'))
         case atStart => exact ⟨(x7_2), (x8_2), (0), (by first | rfl | (simp; done) | (simp [*]; done)), (by first | rfl | (simp; done) | (simp [*]; done)), H', ⟨Nat.le_refl _⟩, ⟨by (with_reducible repeat (first | apply Kd.R_alloc | apply Kd.R_drewN | apply Kd.R_drew)); exact HO_6.out⟩, ⟨by (with_reducible repeat (first | apply Kd.R_alloc | apply Kd.R_drewN | apply Kd.R_drew)); exact HO_7.out⟩, ⟨by (with_reducible repeat (first | apply Kd.R_alloc | apply Kd.R_drewN | apply Kd.R_drew)); exact Kd.R_mono HO217.out (fun _ hk => ⟨hk.1.2, hk.2⟩)⟩, ⟨by repeat (first | (with_reducible first | exact HB.out | apply below_alloc | apply pw_below_drewN | apply below_drew1) | exact HB.out)⟩⟩
         case round =>
          clear H'
          try clear c1
          try clear p2
          try clear c5
          try clear p6
          try clear c7
          try clear c9
          try clear c11
          try clear c11b0
          try clear c11b1
          try clear c12
          try clear c12b0
          try clear c12b1
          try clear c17
          try clear c17b0
          try clear p2
          try clear p6
          obtain ⟨x7_3, x8_3, x40_3, rfl, rfl, HA, HK3, HO_6, HO_7, HO_38, HB⟩ := hrel
          cases gk with
          | zero => exact absurd HA.out (by simp [impl_SetOrder.l1])
          | succ k3 =>
           have H := HA.out
           clear HA
           simp only [impl_SetOrder.l1] at H
           by_cases c21 : x40_3 < (t215.length : Int)
           ·rw [if_pos c21] at H
            have c21b0 : decide (x40_3 < (t215.length : Int)) = true := decide_eq_true c21
            clear c21
            by_cases c22 : 0 ≤ x40_3
            ·rw [if_pos c22] at H
             have c22b0 : decide (0 ≤ x40_3) = true := decide_eq_true c22
             clear c22
             by_cases c23 : x40_3 < (t215.length : Int)
             ·rw [if_pos c23] at H
              have c23b0 : decide (x40_3 < (t215.length : Int)) = true := decide_eq_true c23
              clear c23
              by_cases c24 : 0 ≤ (rd t215 x40_3)
              ·rw [if_pos c24] at H
               have c24b0 := eq_true c24
               have c24b1 : decide (0 ≤ (rd t215 x40_3)) = true := decide_eq_true c24
               clear c24
               obtain ⟨ji25, hji25⟩ : ∃ j_ : Int, (shl .i64 1 (rd t215 x40_3)) = j_ := ⟨_, rfl⟩
               replace H : (if 0 ≤ (Go.bits .andNot .i64 x8_3 (ji25)) then (if (Go.bits .andNot .i64 x8_3 (ji25)) < (t209.length : Int) then (if (rd t215 x40_3) < (l0.length : Int) then ((impl_timeOf.f k3 l0 x8_3).bind fun t221 => ((impl_add.f (rd t209 (Go.bits .andNot .i64 x8_3 (ji25))) ((rd_T59 l0 (rd t215 x40_3)).f0) ((rd_T59 l0 (rd t215 x40_3)).f1) ((rd_T59 l0 (rd t215 x40_3)).f2) ((rd_T59 l0 (rd t215 x40_3)).f3) t221 a1 false).bind fun t222 => (if 0 ≤ x8_3 then (if x8_3 < (t209.length : Int) then (if t222 = (rd t209 x8_3) then (if 0 ≤ x9_2 then (if x9_2 < (x7_3.length : Int) then (impl_SetOrder.l0 k3 l0 a1 t209 (x7_3.set (x9_2 : Int).toNat (rd t215 x40_3)) (Go.bits .andNot .i64 x8_3 (ji25)) (wrap64 (x9_2 - 1))) else (none)) else (none)) else (impl_SetOrder.l1 k3 l0 a1 t209 x7_3 x8_3 x9_2 t215 (t215.length : Int) (wrap64 (x40_3 + 1)))) else (none)) else (none)))) else (none)) else (none)) else (none)) = some (r1, r2) := by first | (rw [hji25] at H; exact H) | (simp only [hji25] at H ⊢; exact H)
               have hji25_ : (IntKind.i64.wrap (1 * 2 ^ min (rd t215 x40_3).toNat 64)) = ji25 := hji25
               have hji25z : (rd t215 x40_3) ≤ 64 → (IntKind.i64.wrap (1 * 2 ^ (rd t215 x40_3).toNat)) = ji25 := shl_small hji25
               have hji25u : (IntKind.i64.wrap (2 ^ min (rd t215 x40_3).toNat 64)) = ji25 := by have h_ := hji25_; rw [Int.one_mul] at h_; exact h_
               have hji25v : (rd t215 x40_3) ≤ 64 → (IntKind.i64.wrap (2 ^ (rd t215 x40_3).toNat)) = ji25 := fun hle_ => by have h_ := hji25z hle_; rw [Int.one_mul] at h_; exact h_
               have hji25y : (wrap64 (1 * 2 ^ min (rd t215 x40_3).toNat 64)) = ji25 := (i64_w _).symm.trans hji25_
               have hji25x : (rd t215 x40_3) ≤ 64 → (wrap64 (1 * 2 ^ (rd t215 x40_3).toNat)) = ji25 := fun h_ => (i64_w _).symm.trans (hji25z h_)
               by_cases c26 : 0 ≤ (Go.bits .andNot .i64 x8_3 (ji25))
               ·rw [if_pos c26] at H
                have c26b0 : decide (0 ≤ (Go.bits .andNot .i64 x8_3 (ji25))) = true := decide_eq_true c26
                clear c26
                by_cases c27 : (Go.bits .andNot .i64 x8_3 (ji25)) < (t209.length : Int)
                ·rw [if_pos c27] at H
                 have c27b0 : decide ((Go.bits .andNot .i64 x8_3 (ji25)) < (t209.length : Int)) = true := decide_eq_true c27
                 clear c27
                 by_cases c28 : (rd t215 x40_3) < (l0.length : Int)
                 ·rw [if_pos c28] at H
                  have c28b0 : decide ((rd t215 x40_3) < (l0.length : Int)) = true := decide_eq_true c28
                  clear c28
                  replace H := Option.bind_eq_some_iff.mp H
                  obtain ⟨t221, A290, H⟩ := H
                  replace H : ((impl_add.f (rd t209 (Go.bits .andNot .i64 x8_3 (ji25))) ((rd_T59 l0 (rd t215 x40_3)).f0) ((rd_T59 l0 (rd t215 x40_3)).f1) ((rd_T59 l0 (rd t215 x40_3)).f2) ((rd_T59 l0 (rd t215 x40_3)).f3) t221 a1 false).bind fun t222 => (if 0 ≤ x8_3 then (if x8_3 < (t209.length : Int) then (if t222 = (rd t209 x8_3) then (if 0 ≤ x9_2 then (if x9_2 < (x7_3.length : Int) then (impl_SetOrder.l0 k3 l0 a1 t209 (x7_3.set (x9_2 : Int).toNat (rd t215 x40_3)) (Go.bits .andNot .i64 x8_3 (ji25)) (wrap64 (x9_2 - 1))) else (none)) else (none)) else (impl_SetOrder.l1 k3 l0 a1 t209 x7_3 x8_3 x9_2 t215 (t215.length : Int) (wrap64 (x40_3 + 1)))) else (none)) else (none))) = some (r1, r2) := H
                  have A29 := Aside0.mk A290
                  clear A290
                  replace H := Option.bind_eq_some_iff.mp H
                  obtain ⟨t222, A300, H⟩ := H
                  replace H : (if 0 ≤ x8_3 then (if x8_3 < (t209.length : Int) then (if t222 = (rd t209 x8_3) then (if 0 ≤ x9_2 then (if x9_2 < (x7_3.length : Int) then (impl_SetOrder.l0 k3 l0 a1 t209 (x7_3.set (x9_2 : Int).toNat (rd t215 x40_3)) (Go.bits .andNot .i64 x8_3 (ji25)) (wrap64 (x9_2 - 1))) else (none)) else (none)) else (impl_SetOrder.l1 k3 l0 a1 t209 x7_3 x8_3 x9_2 t215 (t215.length : Int) (wrap64 (x40_3 + 1)))) else (none)) else (none)) = some (r1, r2) := H
                  have A30 := Aside0.mk A300
                  clear A300
                  by_cases c31 : 0 ≤ x8_3
                  ·rw [if_pos c31] at H
                   have c31b0 : decide (0 ≤ x8_3) = true := decide_eq_true c31
                   clear c31
                   by_cases c32 : x8_3 < (t209.length : Int)
                   ·rw [if_pos c32] at H
                    have c32b0 : decide (x8_3 < (t209.length : Int)) = true := decide_eq_true c32
                    clear c32
                    by_cases c33 : t222 = (rd t209 x8_3)
                    ·rw [if_pos c33] at H
                     have c33b0 : (t222 == (rd t209 x8_3)) = true := beq_iff_eq.mpr c33
                     have c33b1 : (t222 != (rd t209 x8_3)) = false := bne_eq_false_iff_eq.mpr c33
                     clear c33
                     by_cases c34 : 0 ≤ x9_2
                     ·rw [if_pos c34] at H
                      have c34b0 : decide (0 ≤ x9_2) = true := decide_eq_true c34
                      clear c34
                      by_cases c35 : x9_2 < (x7_3.length : Int)
                      ·rw [if_pos c35] at H
                       have c35b0 : decide (x9_2 < (x7_3.length : Int)) = true := decide_eq_true c35
                       clear c35
                       obtain ⟨y224, hy224⟩ : ∃ y_ : List Int, y_ = (x7_3.set (x9_2 : Int).toNat (rd t215 x40_3)) := ⟨_, rfl⟩
                       replace H : (impl_SetOrder.l0 k3 l0 a1 t209 y224 (Go.bits .andNot .i64 x8_3 (ji25)) (wrap64 (x9_2 - 1))) = some (r1, r2) := by first | (rw [hy224]; with_reducible exact H) | (have H2_ := (Option.bind_some _ _).symm.trans H; rw [hy224]; with_reducible exact H2_) | (have H2_ := (Option.bind_some _ _).symm.trans H; with_reducible exact H2_) | with_reducible exact H | (rw [hy224]; exact H) | exact H
                       have Ny224 := Aside0.mk hy224
                       clear hy224
                       have c37b0 := eq_true (of_decide_eq_true (by first | (with_reducible assumption) | assumption) : 0 ≤ (rd t215 x40_3))
                       have H' := Aside0.mk H
                       clear H
                       have p218 : 0 ≤ (x40_3 : Int) := of_decide_eq_true (by first | (with_reducible assumption) | assumption)
                       have q218 : x40_3 < (t215.length : Int) := of_decide_eq_true (by first | (with_reducible assumption) | assumption)
                       obtain ⟨ad218, e218, hx218_0⟩ := Kd.at_int (Kd.R_reads' HO_38.out).2.2 x40_3 p218 q218
                       cases e218
                       replace p218 := eq_true p218
                       replace q218 := eq_true q218
                       try go_wp2
                       have n0_ := Aside0.mk (Kd.R_drew HO_6.out)
                       have n1_ := Aside0.mk (Kd.R_drew HO_7.out)
                       have n2_ := Aside0.mk (Kd.R_drew HO_38.out)
                       have n3_ := Aside0.mk (below_drew1 HB.out)
                       clear HO_6
                       clear HO_7
                       clear HO_38
                       clear HB
                       have HO_6 := n0_
                       have HO_7 := n1_
                       have HO_38 := n2_
                       have HB := n3_
                       clear n0_ n1_ n2_ n3_
                       obtain ⟨Ao39, co39, eo39⟩ := Kd.R_slice HO_6.out
                       (first | subst eo39 | (injection eo39 with f1_ f2_ f3_; have f4_ := f1_.symm; have f5_ := f3_.symm; clear f1_ f2_ f3_; subst f4_; subst f5_))
                       have p219 : 0 ≤ ((Go.bits .andNot .i64 x8_3 (ji25)) : Int) := of_decide_eq_true (by first | (with_reducible assumption) | assumption)
                       have q219 : (Go.bits .andNot .i64 x8_3 (ji25)) < (t209.length : Int) := of_decide_eq_true (by first | (with_reducible assumption) | assumption)
                       obtain ⟨ad219, e219, hx219_0⟩ := Kd.at_int (Kd.R_reads' HO_6.out).2.2 (Go.bits .andNot .i64 x8_3 (ji25)) p219 q219
                       cases e219
                       replace p219 := eq_true p219
                       replace q219 := eq_true q219
                       have p220 : 0 ≤ ((rd t215 x40_3) : Int) := of_decide_eq_true (by first | (with_reducible assumption) | assumption)
                       have q220 : (rd t215 x40_3) < (l0.length : Int) := of_decide_eq_true (by first | (with_reducible assumption) | assumption)
                       obtain ⟨ad220, e220, hx220_0, hx220_1, hx220_2, hx220_3⟩ := at_T59 HR0.out (rd t215 x40_3) p220 q220
                       have hw220_3 := hx220_3
                       have hw220_2 := hx220_2
                       have hw220_1 := hx220_1
                       have hw220_0 := hx220_0
                       cases e220
                       replace hx220_0 := (HB.out.cell (World.block_lt_of_cell? w _ hx220_0)).trans hx220_0
                       replace hx220_1 := (HB.out.cell (World.block_lt_of_cell? w _ hx220_1)).trans hx220_1
                       replace hx220_2 := (HB.out.cell (World.block_lt_of_cell? w _ hx220_2)).trans hx220_2
                       replace hx220_3 := (HB.out.cell (World.block_lt_of_cell? w _ hx220_3)).trans hx220_3
                       replace p220 := eq_true p220
                       replace q220 := eq_true q220
                       have p223 : 0 ≤ (x8_3 : Int) := of_decide_eq_true (by first | (with_reducible assumption) | assumption)
                       have q223 : x8_3 < (t209.length : Int) := of_decide_eq_true (by first | (with_reducible assumption) | assumption)
                       obtain ⟨ad223, e223, hx223_0⟩ := Kd.at_int (Kd.R_reads' HO_6.out).2.2 x8_3 p223 q223
                       obtain rfl : ad219 = ad223 := (by injection e223)
                       replace p223 := eq_true p223
                       replace q223 := eq_true q223
                       refine start_ (n := 21) (S := fun w' => w'.cell? (ad219.add ((Go.bits .andNot .i64 x8_3 (ji25))).toNat) = some (.int .i64 (rd t209 (Go.bits .andNot .i64 x8_3 (ji25)))) ∧ w'.cell? (ad220.add (((rd t215 x40_3)).toNat * 4)) = some (.int .i64 ((rd_T59 l0 (rd t215 x40_3)).f0)) ∧ w'.cell? ⟨(ad220.add (((rd t215 x40_3)).toNat * 4)).block, (ad220.add (((rd t215 x40_3)).toNat * 4)).off + 1, none⟩ = some (.int .i64 ((rd_T59 l0 (rd t215 x40_3)).f1)) ∧ w'.cell? ⟨(ad220.add (((rd t215 x40_3)).toNat * 4)).block, (ad220.add (((rd t215 x40_3)).toNat * 4)).off + 2, none⟩ = some (.int .i64 ((rd_T59 l0 (rd t215 x40_3)).f2)) ∧ w'.cell? ⟨(ad220.add (((rd t215 x40_3)).toNat * 4)).block, (ad220.add (((rd t215 x40_3)).toNat * 4)).off + 3, none⟩ = some (.int .i64 ((rd_T59 l0 (rd t215 x40_3)).f3)) ∧ w'.cell? (ad219.add (x8_3).toNat) = some (.int .i64 (rd t209 x8_3))) (ds := []) (bA 21 0) (by kernel_rfl) rfl rfl ⟨hx219_0, ((HB.out.cell (World.block_lt_of_cell? w _ hw220_0)).trans hw220_0), ((HB.out.cell (World.block_lt_of_cell? w _ hw220_1)).trans hw220_1), ((HB.out.cell (World.block_lt_of_cell? w _ hw220_2)).trans hw220_2), ((HB.out.cell (World.block_lt_of_cell? w _ hw220_3)).trans hw220_3), hx223_0⟩ (fun hHeld => ?_); refine with_tabW impl_SetOrder.tab12 impl_SetOrder.bits12 (fun HT_ HW_ => ?_)
                       generalize wr.drew = w38 at HO_6 HO_7 HO_38 HB hx219_0 hx220_0 hx220_1 hx220_2 hx220_3 hx223_0 hHeld ⊢
                       refine pure_ (i := 0) (N := some 44) (v := ?_) (a' := ?_) (bA 21 1) rfl rfl (any_of HT_.out (by kernel_rfl)) (fun _ _ _ h => h) (Or.inl ⟨by rfl, ?_⟩) ?_ ?_
                       rotate_left; (intro w'; go_simp; with_reducible rfl); rotate_left; (simp only [Act.put, sA, sZ, sS, i64_w, i32_w]; rfl)
                       refine pure_ (i := 1) (N := some 45) (v := ?_) (a' := ?_) (bA 21 3) rfl rfl (any_of HT_.out (by kernel_rfl)) (fun _ _ _ h => h) (Or.inl ⟨by rfl, ?_⟩) ?_ ?_
                       rotate_left; (intro w'; go_simp; with_reducible rfl); rotate_left; (simp only [Act.put, sA, sZ, sS, i64_w, i32_w]; rfl)
                       refine pure_ (i := 2) (N := some 46) (v := ?_) (a' := ?_) (bA 21 7) rfl rfl (any_of HT_.out (by kernel_rfl)) (fun _ _ _ h => h) (Or.inl ⟨by rfl, ?_⟩) ?_ ?_
                       rotate_left; (intro w'; go_simp; with_reducible rfl); rotate_left; (simp only [Act.put, sA, sZ, sS, i64_w, i32_w]; rfl)
                       refine pure_ (i := 3) (N := some 47) (v := ?_) (a' := ?_) (bA 21 15) rfl rfl (any_of HT_.out (by kernel_rfl)) (fun _ _ _ h => h) (Or.inl ⟨by rfl, ?_⟩) ?_ ?_
                       rotate_left; (intro w'; go_simp; with_reducible rfl); rotate_left; (simp only [Act.put, sA, sZ, sS, i64_w, i32_w]; rfl)
                       refine pure_ (i := 4) (N := some 48) (v := ?_) (a' := ?_) (bA 21 31) rfl rfl (any_of HT_.out (by kernel_rfl)) (fun _ _ _ h => h) (Or.inl ⟨by rfl, ?_⟩) ?_ ?_
                       rotate_left; (intro w'; go_simp; with_reducible rfl); rotate_left; (simp only [Act.put, sA, sZ, sS, i64_w, i32_w]; rfl)
                       refine pure_ (i := 5) (N := some 49) (v := ?_) (a' := ?_) (bA 21 63) rfl rfl (any_of HT_.out (by kernel_rfl)) (fun _ _ _ h => h) (Or.inl ⟨by rfl, ?_⟩) ?_ ?_
                       rotate_left; (intro w'; go_simp; with_reducible rfl); rotate_left; (simp only [Act.put, sA, sZ, sS, i64_w, i32_w]; rfl)
                       refine pure_ (i := 7) (N := some 51) (v := ?_) (a' := ?_) (bA 21 191) rfl rfl (any_of HT_.out (by kernel_rfl)) (fun _ _ _ h => h) (Or.inl ⟨by rfl, ?_⟩) ?_ ?_
                       rotate_left; (intro w'; go_simp; with_reducible rfl); rotate_left; (simp only [Act.put, sA, sZ, sS, i64_w, i32_w]; rfl)
                       refine pure_ (i := 8) (N := some 52) (v := ?_) (a' := ?_) (bA 21 447) rfl rfl (any_of HT_.out (by kernel_rfl)) (fun _ _ _ h => h) (Or.inl ⟨by rfl, ?_⟩) ?_ ?_
                       rotate_left; (intro w'; go_simp; with_reducible rfl); rotate_left; (simp only [Act.put, sA, sZ, sS, i64_w, i32_w]; rfl)
                       refine pure_ (i := 9) (N := some 53) (v := ?_) (a' := ?_) (bA 21 959) rfl rfl (any_of HT_.out (by kernel_rfl)) (fun _ _ _ h => h) (Or.inl ⟨by rfl, ?_⟩) ?_ ?_
                       rotate_left; (intro w'; go_simp; with_reducible rfl); rotate_left; (simp only [Act.put, sA, sZ, sS, i64_w, i32_w]; rfl)
                       refine pure_ (i := 11) (N := some 55) (v := ?_) (a' := ?_) (bA 21 3007) rfl rfl (any_of HT_.out (by kernel_rfl)) (fun _ _ _ h => h) (Or.inl ⟨by rfl, ?_⟩) ?_ ?_
                       rotate_left; (intro w'; go_simp; with_reducible rfl); rotate_left; (simp only [Act.put, sA, sZ, sS, i64_w, i32_w]; rfl)
                       refine pure_ (i := 12) (N := some 56) (v := ?_) (a' := ?_) (bA 21 7103) rfl rfl (any_of HT_.out (by kernel_rfl)) (fun _ _ _ h => h) (Or.inl ⟨by rfl, ?_⟩) ?_ ?_
                       rotate_left; (intro w'; go_simp; with_reducible rfl); rotate_left; (simp only [Act.put, sA, sZ, sS, i64_w, i32_w]; rfl)
                       refine pure_ (i := 14) (N := some 58) (v := ?_) (a' := ?_) (bA 21 23487) rfl rfl (any_of HT_.out (by kernel_rfl)) (fun _ _ _ h => h) (Or.inl ⟨by rfl, ?_⟩) ?_ ?_
                       rotate_left; (intro w'; go_simp; with_reducible rfl); rotate_left; (simp only [Act.put, sA, sZ, sS, i64_w, i32_w]; rfl)
                       refine pure_ (i := 16) (N := some 60) (v := ?_) (a' := ?_) (bA 21 89023) rfl rfl (any_of HT_.out (by kernel_rfl)) (fun _ _ _ h => h) (Or.inl ⟨by rfl, ?_⟩) ?_ ?_
                       rotate_left; (intro w'; go_simp; with_reducible rfl); rotate_left; (simp only [Act.put, sA, sZ, sS, i64_w, i32_w]; rfl)
                       refine pure_ (i := 17) (N := some 61) (v := ?_) (a' := ?_) (bA 21 220095) rfl rfl (any_of HT_.out (by kernel_rfl)) (fun _ _ _ h => h) (Or.inl ⟨by rfl, ?_⟩) ?_ ?_
                       rotate_left; (intro w'; go_simp; with_reducible rfl); rotate_left; (simp only [Act.put, sA, sZ, sS, i64_w, i32_w]; rfl)
                       refine pure_ (i := 18) (N := some 62) (v := ?_) (a' := ?_) (bA 21 482239) rfl rfl (any_of HT_.out (by kernel_rfl)) (fun _ _ _ h => h) (Or.inl ⟨by rfl, ?_⟩) ?_ ?_
                       rotate_left; (intro w'; go_simp; with_reducible rfl); rotate_left; (simp only [Act.put, sA, sZ, sS, i64_w, i32_w]; rfl)
                       refine take_ (i := 6) (N := some 50) (v := ?_) (a' := ?_) (bA 21 482303) rfl rfl (take_ofW HT_.out HW_.out (by kernel_rfl)) (fun _ _ _ h => h) (Or.inl ⟨by rfl, ?_⟩) hHeld ?_ ?_
                       rotate_left
                       ·rintro w' ⟨s0, s1, s2, s3, s4, s5⟩
                        go_simp
                        with_reducible rfl
                       rotate_left
                       ·simp only [Act.put, sA, sZ, sS, i64_w, i32_w]
                        rfl
                       refine take_ (i := 10) (N := some 54) (v := ?_) (a' := ?_) (bA 21 483327) rfl rfl (take_ofW HT_.out HW_.out (by kernel_rfl)) (fun _ _ _ h => h) (Or.inl ⟨by rfl, ?_⟩) hHeld ?_ ?_
                       rotate_left
                       ·rintro w' ⟨s0, s1, s2, s3, s4, s5⟩
                        go_simp
                        with_reducible rfl
                       rotate_left
                       ·simp only [Act.put, sA, sZ, sS, i64_w, i32_w]
                        rfl
                       refine take_ (i := 19) (N := some 63) (v := ?_) (a' := ?_) (bA 21 1007615) rfl rfl (take_ofW HT_.out HW_.out (by kernel_rfl)) (fun _ _ _ h => h) (Or.inl ⟨by rfl, ?_⟩) hHeld ?_ ?_
                       rotate_left
                       ·rintro w' ⟨s0, s1, s2, s3, s4, s5⟩
                        go_simp
                        with_reducible rfl
                       rotate_left
                       ·simp only [Act.put, sA, sZ, sS, i64_w, i32_w]
                        rfl
                       refine one_ (i := 13) (N := some 57) (bA 21 1015807) rfl rfl (one_of HT_.out (by kernel_rfl)) (by decide) (fun K hK => ?_)
                       refine goes_ Try.func97 (by kernel_rfl) rfl #[.slice (some ad220) l0.length c0, .int .i64 x8_3] (by rfl) rfl rfl (by (try simp only [List.map_toArray, List.map_cons, List.map_nil]); first | done | rfl | (simp only [List.length_drop, List.length_take]; rfl)) ?_
                       with_reducible refine (impl_timeOf.calls k3 _ _ l0 x8_3 t221 _ ?side1 ?side2 A29.out).mono ?_
                       (case side1 => repeat (first | exact (Kd.C_below HR0.out HB.out) | (with_reducible refine Kd.C_alloc ?_ _) | (with_reducible refine Kd.C_drewN ?_ _) | (with_reducible refine Kd.C_drew ?_)))
                       (case side2 => exact HC0.out)
                       rintro e w40 ⟨rfl, hb⟩
                       have HS0_ := (hb.cell (World.block_lt_of_cell? _ _ (hHeld.1))).trans (hHeld.1)
                       have HS5_ := (hb.cell (World.block_lt_of_cell? _ _ (hHeld.2.2.2.2.2))).trans (hHeld.2.2.2.2.2)
                       refine ⟨_, rfl, ?_⟩
                       have n0_ := Aside0.mk (Kd.R_below (by (with_reducible repeat (first | apply Kd.R_alloc | apply Kd.R_drewN | apply Kd.R_drew)); exact HO_6.out) hb)
                       have n1_ := Aside0.mk (Kd.R_below (by (with_reducible repeat (first | apply Kd.R_alloc | apply Kd.R_drewN | apply Kd.R_drew)); exact HO_7.out) hb)
                       have n2_ := Aside0.mk (Kd.R_below (by (with_reducible repeat (first | apply Kd.R_alloc | apply Kd.R_drewN | apply Kd.R_drew)); exact HO_38.out) hb)
                       have n3_ := Aside0.mk (below_step (by repeat (first | (with_reducible first | exact HB.out | apply below_alloc | apply pw_below_drewN | apply below_drew1) | exact HB.out)) hb)
                       clear HO_6
                       clear HO_7
                       clear HO_38
                       clear HB
                       have HO_6 := n0_
                       have HO_7 := n1_
                       have HO_38 := n2_
                       have HB := n3_
                       clear n0_ n1_ n2_ n3_
                       (try clear hb)
                       (try clear hb2)
                       (try clear hk)
                       (try clear hi)
                       refine hK.out _ _ ⟨HS0_, ((HB.out.cell (World.block_lt_of_cell? w _ hw220_0)).trans hw220_0), ((HB.out.cell (World.block_lt_of_cell? w _ hw220_1)).trans hw220_1), ((HB.out.cell (World.block_lt_of_cell? w _ hw220_2)).trans hw220_2), ((HB.out.cell (World.block_lt_of_cell? w _ hw220_3)).trans hw220_3), HS5_⟩ (fun hHeld => ?_)
                       clear hK K
                       refine norm_ (a' := ?_) ?_ ?_
                       rotate_left
                       ·show Act.put _ (some 57) _ = _
                        simp only [Act.put, sA, sZ, sS, i64_w, i32_w]
                        rfl
                       refine one_ (i := 15) (N := some 59) (bA 21 1048575) rfl rfl (one_of HT_.out (by kernel_rfl)) (by decide) (fun K hK => ?_)
                       refine goes_ Try.func96 (by kernel_rfl) rfl #[.int .i64 (rd t209 (Go.bits .andNot .i64 x8_3 (ji25))), .agg #[.int .i64 ((rd_T59 l0 (rd t215 x40_3)).f0), .int .i64 ((rd_T59 l0 (rd t215 x40_3)).f1), .int .i64 ((rd_T59 l0 (rd t215 x40_3)).f2), .int .i64 ((rd_T59 l0 (rd t215 x40_3)).f3)], .int .i64 t221, .int .i64 a1, .bool false] (by rfl) rfl rfl (by (try simp only [List.map_toArray, List.map_cons, List.map_nil]); first | done | (simp only [hji25]; rfl) | rfl | (simp only [List.length_drop, List.length_take]; rfl)) ?_
                       with_reducible refine (impl_add.calls (rd t209 (Go.bits .andNot .i64 x8_3 (ji25))) ((rd_T59 l0 (rd t215 x40_3)).f0) ((rd_T59 l0 (rd t215 x40_3)).f1) ((rd_T59 l0 (rd t215 x40_3)).f2) ((rd_T59 l0 (rd t215 x40_3)).f3) t221 a1 false t222 _ A30.out).mono ?_
                       rintro e w41 ⟨rfl, hb⟩
                       have HS0_ := (hb.cell (World.block_lt_of_cell? _ _ (hHeld.1))).trans (hHeld.1)
                       have HS5_ := (hb.cell (World.block_lt_of_cell? _ _ (hHeld.2.2.2.2.2))).trans (hHeld.2.2.2.2.2)
                       refine ⟨_, rfl, ?_⟩
                       have n0_ := Aside0.mk (Kd.R_below (by (with_reducible repeat (first | apply Kd.R_alloc | apply Kd.R_drewN | apply Kd.R_drew)); exact HO_6.out) hb)
                       have n1_ := Aside0.mk (Kd.R_below (by (with_reducible repeat (first | apply Kd.R_alloc | apply Kd.R_drewN | apply Kd.R_drew)); exact HO_7.out) hb)
                       have n2_ := Aside0.mk (Kd.R_below (by (with_reducible repeat (first | apply Kd.R_alloc | apply Kd.R_drewN | apply Kd.R_drew)); exact HO_38.out) hb)
                       have n3_ := Aside0.mk (below_step (by repeat (first | (with_reducible first | exact HB.out | apply below_alloc | apply pw_below_drewN | apply below_drew1) | exact HB.out)) hb)
                       clear HO_6
                       clear HO_7
                       clear HO_38
                       clear HB
                       have HO_6 := n0_
                       have HO_7 := n1_
                       have HO_38 := n2_
                       have HB := n3_
                       clear n0_ n1_ n2_ n3_
                       (try clear hb)
                       (try clear hb2)
                       (try clear hk)
                       (try clear hi)
                       refine hK.out _ _ ⟨HS0_, ((HB.out.cell (World.block_lt_of_cell? w _ hw220_0)).trans hw220_0), ((HB.out.cell (World.block_lt_of_cell? w _ hw220_1)).trans hw220_1), ((HB.out.cell (World.block_lt_of_cell? w _ hw220_2)).trans hw220_2), ((HB.out.cell (World.block_lt_of_cell? w _ hw220_3)).trans hw220_3), HS5_⟩ (fun hHeld => ?_)
                       clear hK K
                       refine norm_ (a' := ?_) ?_ ?_
                       rotate_left
                       ·show Act.put _ (some 59) _ = _
                        simp only [Act.put, sA, sZ, sS, i64_w, i32_w]
                        rfl
                       refine pure_ (i := 20) (N := some 64) (v := ?_) (a' := ?_) (bA 21 2097151) rfl rfl (any_of HT_.out (by kernel_rfl)) (fun _ _ _ h => h) (Or.inl ⟨by rfl, ?_⟩) ?_ ?_
                       rotate_left; (intro w'; go_simp; with_reducible rfl); rotate_left; (simp only [Act.put, sA, sZ, sS, i64_w, i32_w]; rfl)
                       refine done_ (done_of HT_.out (by kernel_rfl)) ?_
                       have p36 : 0 ≤ (x9_2 : Int) := of_decide_eq_true (by first | (with_reducible assumption) | assumption)
                       have q36 : (x9_2 : Int) < ((x7_3.length : Int) : Int) := of_decide_eq_true (by first | (with_reducible assumption) | assumption)
                       obtain ⟨go36, co36, eo36, gb36, gl36, cl36, HG36⟩ := Kd.R_form HO_7.out (by omega)
                       (first | cases eo36 | (injection eo36 with ea_ en_ ec_; (first | subst ea_ | (injection ea_ with ea_; subst ea_)); subst ec_; clear en_))
                       have GB36 := Aside0.mk gb36
                       have GG36 := Aside0.mk HG36
                       clear gb36 gl36 HG36
                       obtain ⟨hx36_0, hf36_0⟩ := Kd.R_celln 0 HO_7.out (x9_2 : Int) p36 q36
                       replace p36 := eq_true p36
                       replace q36 := eq_true q36
                       obtain ⟨hy42_, hz42_⟩ := Kd.R_celln 0 HO_7.out (x9_2 : Int) (of_decide_eq_true (by first | (with_reducible assumption) | assumption)) (of_decide_eq_true (by first | (with_reducible assumption) | assumption))
                       have HP42 := Kd.R_putg HO_7.out (x9_2 : Int) (rd t215 x40_3)
                       try go_wp2_with (first | ((with_reducible refine gate_store (t := 3) (p := 68) rfl ?_); refine store_event (t := 3) (p := 68) (v := ?vo_w43) (w1 := (w41.setCell ⟨go36, (x9_2 : Int).toNat, none⟩ (.int .i64 (rd t215 x40_3)))) ?hg ?ho ?hn ?hr ?_; (case ho => rfl); (case hg => rfl); (case hn => rfl); (case hr => first | (go_simp; done) | (go_simp; rfl)); intro w43 hw; have hg : w41.grownBy w43 (some go36) := (by rw [hw]; exact HP42.2); have hp_ : Kd.R (Kd.int .i64) 3 w43 w.heap.size (fun k_ => some k_ ≠ (.slice (some ad219) t209.length co39 : Value).ownBlock ∧ some k_ ≠ (.slice (some ad218) t215.length co20 : Value).ownBlock) (.slice (some ⟨go36, 0, none⟩) x7_3.length co36) y224 := (by rw [hw, Ny224.out]; exact HP42.1); clear HP42; have n0_ := Aside0.mk (Kd.R_after (v := (.slice (some ⟨go36, 0, none⟩) x7_3.length co36)) (v1 := (.slice (some ⟨go36, 0, none⟩) x7_3.length co36)) (ok := (fun k_ => some k_ ≠ (.slice (some ad218) t215.length co20 : Value).ownBlock)) (by (with_reducible repeat (first | apply Kd.R_alloc | apply Kd.R_drewN | apply Kd.R_drew)); exact Kd.R_mono HO_6.out (fun _ hk => ⟨hk.2, hk.1⟩)) hg (.inl rfl)); have n1_ := Aside0.mk (hp_); have n2_ := Aside0.mk (Kd.R_after (v := (.slice (some ⟨go36, 0, none⟩) x7_3.length co36)) (v1 := (.slice (some ⟨go36, 0, none⟩) x7_3.length co36)) (ok := (fun k_ => some k_ ≠ (.slice (some ad219) t209.length co39 : Value).ownBlock)) (by (with_reducible repeat (first | apply Kd.R_alloc | apply Kd.R_drewN | apply Kd.R_drew)); exact HO_38.out) hg (.inl rfl)); have n3_ := Aside0.mk ((by rw [hw]; exact below_set (HB.out) GB36.out : Below w.heap.size w w43)); clear HO_6; clear HO_7; clear HO_38; clear HB; have HO_6 := n0_; have HO_7 := n1_; have HO_38 := n2_; have HB := n3_; clear n0_ n1_ n2_ n3_; clear hg hw hp_))
                       go_roundg k3
                       case measure => have := HJ2.out; have := HK2.out; have := HK3.out; omega
                       case rel => exact ⟨(y224), (Go.bits .andNot .i64 x8_3 (ji25)), (wrap64 (x9_2 - 1)), (by first | rfl | (simp; done) | (simp only [← hji25] <;> (first | rfl | simp)) | (simp [*]; done)), (by first | rfl | (simp; done) | (simp [*]; done)), H', ⟨by have := HJ2.out; have := HK2.out; have := HK3.out; omega⟩, ⟨by (with_reducible repeat (first | apply Kd.R_alloc | apply Kd.R_drewN | apply Kd.R_drew)); exact Kd.R_mono HO_6.out (fun _ hk => hk.2)⟩, ⟨by (with_reducible repeat (first | apply Kd.R_alloc | apply Kd.R_drewN | apply Kd.R_drew)); exact Kd.R_mono HO_7.out (fun _ hk => hk.1)⟩, ⟨by repeat (first | (with_reducible first | exact HB.out | apply below_alloc | apply pw_below_drewN | apply below_drew1) | exact HB.out)⟩⟩
                      ·rw [if_neg c35] at H
                       exact absurd H (by simp)
                     ·rw [if_neg c34] at H
                      exact absurd H (by simp)
                    ·rw [if_neg c33] at H
                     have c33b0 : (t222 == (rd t209 x8_3)) = false := beq_eq_false_iff_ne.mpr c33
                     have c33b1 : (t222 != (rd t209 x8_3)) = true := bne_iff_ne.mpr c33
                     have H' := Aside0.mk H
                     clear H
                     have p218 : 0 ≤ (x40_3 : Int) := of_decide_eq_true (by first | (with_reducible assumption) | assumption)
                     have q218 : x40_3 < (t215.length : Int) := of_decide_eq_true (by first | (with_reducible assumption) | assumption)
                     obtain ⟨ad218, e218, hx218_0⟩ := Kd.at_int (Kd.R_reads' HO_38.out).2.2 x40_3 p218 q218
                     cases e218
                     replace p218 := eq_true p218
                     replace q218 := eq_true q218
                     try go_wp2
                     have n0_ := Aside0.mk (Kd.R_drew HO_6.out)
                     have n1_ := Aside0.mk (Kd.R_drew HO_7.out)
                     have n2_ := Aside0.mk (Kd.R_drew HO_38.out)
                     have n3_ := Aside0.mk (below_drew1 HB.out)
                     clear HO_6
                     clear HO_7
                     clear HO_38
                     clear HB
                     have HO_6 := n0_
                     have HO_7 := n1_
                     have HO_38 := n2_
                     have HB := n3_
                     clear n0_ n1_ n2_ n3_
                     obtain ⟨Ao45, co45, eo45⟩ := Kd.R_slice HO_6.out
                     (first | subst eo45 | (injection eo45 with f1_ f2_ f3_; have f4_ := f1_.symm; have f5_ := f3_.symm; clear f1_ f2_ f3_; subst f4_; subst f5_))
                     have p219 : 0 ≤ ((Go.bits .andNot .i64 x8_3 (ji25)) : Int) := of_decide_eq_true (by first | (with_reducible assumption) | assumption)
                     have q219 : (Go.bits .andNot .i64 x8_3 (ji25)) < (t209.length : Int) := of_decide_eq_true (by first | (with_reducible assumption) | assumption)
                     obtain ⟨ad219, e219, hx219_0⟩ := Kd.at_int (Kd.R_reads' HO_6.out).2.2 (Go.bits .andNot .i64 x8_3 (ji25)) p219 q219
                     cases e219
                     replace p219 := eq_true p219
                     replace q219 := eq_true q219
                     have p220 : 0 ≤ ((rd t215 x40_3) : Int) := of_decide_eq_true (by first | (with_reducible assumption) | assumption)
                     have q220 : (rd t215 x40_3) < (l0.length : Int) := of_decide_eq_true (by first | (with_reducible assumption) | assumption)
                     obtain ⟨ad220, e220, hx220_0, hx220_1, hx220_2, hx220_3⟩ := at_T59 HR0.out (rd t215 x40_3) p220 q220
                     have hw220_3 := hx220_3
                     have hw220_2 := hx220_2
                     have hw220_1 := hx220_1
                     have hw220_0 := hx220_0
                     cases e220
                     replace hx220_0 := (HB.out.cell (World.block_lt_of_cell? w _ hx220_0)).trans hx220_0
                     replace hx220_1 := (HB.out.cell (World.block_lt_of_cell? w _ hx220_1)).trans hx220_1
                     replace hx220_2 := (HB.out.cell (World.block_lt_of_cell? w _ hx220_2)).trans hx220_2
                     replace hx220_3 := (HB.out.cell (World.block_lt_of_cell? w _ hx220_3)).trans hx220_3
                     replace p220 := eq_true p220
                     replace q220 := eq_true q220
                     have p223 : 0 ≤ (x8_3 : Int) := of_decide_eq_true (by first | (with_reducible assumption) | assumption)
                     have q223 : x8_3 < (t209.length : Int) := of_decide_eq_true (by first | (with_reducible assumption) | assumption)
                     obtain ⟨ad223, e223, hx223_0⟩ := Kd.at_int (Kd.R_reads' HO_6.out).2.2 x8_3 p223 q223
                     obtain rfl : ad219 = ad223 := (by injection e223)
                     replace p223 := eq_true p223
                     replace q223 := eq_true q223
                     refine start_ (n := 21) (S := fun w' => w'.cell? (ad219.add ((Go.bits .andNot .i64 x8_3 (ji25))).toNat) = some (.int .i64 (rd t209 (Go.bits .andNot .i64 x8_3 (ji25)))) ∧ w'.cell? (ad220.add (((rd t215 x40_3)).toNat * 4)) = some (.int .i64 ((rd_T59 l0 (rd t215 x40_3)).f0)) ∧ w'.cell? ⟨(ad220.add (((rd t215 x40_3)).toNat * 4)).block, (ad220.add (((rd t215 x40_3)).toNat * 4)).off + 1, none⟩ = some (.int .i64 ((rd_T59 l0 (rd t215 x40_3)).f1)) ∧ w'.cell? ⟨(ad220.add (((rd t215 x40_3)).toNat * 4)).block, (ad220.add (((rd t215 x40_3)).toNat * 4)).off + 2, none⟩ = some (.int .i64 ((rd_T59 l0 (rd t215 x40_3)).f2)) ∧ w'.cell? ⟨(ad220.add (((rd t215 x40_3)).toNat * 4)).block, (ad220.add (((rd t215 x40_3)).toNat * 4)).off + 3, none⟩ = some (.int .i64 ((rd_T59 l0 (rd t215 x40_3)).f3)) ∧ w'.cell? (ad219.add (x8_3).toNat) = some (.int .i64 (rd t209 x8_3))) (ds := []) (bA 21 0) (by kernel_rfl) rfl rfl ⟨hx219_0, ((HB.out.cell (World.block_lt_of_cell? w _ hw220_0)).trans hw220_0), ((HB.out.cell (World.block_lt_of_cell? w _ hw220_1)).trans hw220_1), ((HB.out.cell (World.block_lt_of_cell? w _ hw220_2)).trans hw220_2), ((HB.out.cell (World.block_lt_of_cell? w _ hw220_3)).trans hw220_3), hx223_0⟩ (fun hHeld => ?_); refine with_tabW impl_SetOrder.tab12 impl_SetOrder.bits12 (fun HT_ HW_ => ?_)
                     generalize wr.drew = w44 at HO_6 HO_7 HO_38 HB hx219_0 hx220_0 hx220_1 hx220_2 hx220_3 hx223_0 hHeld ⊢
                     refine pure_ (i := 0) (N := some 44) (v := ?_) (a' := ?_) (bA 21 1) rfl rfl (any_of HT_.out (by kernel_rfl)) (fun _ _ _ h => h) (Or.inl ⟨by rfl, ?_⟩) ?_ ?_
                     rotate_left; (intro w'; go_simp; with_reducible rfl); rotate_left; (simp only [Act.put, sA, sZ, sS, i64_w, i32_w]; rfl)
                     refine pure_ (i := 1) (N := some 45) (v := ?_) (a' := ?_) (bA 21 3) rfl rfl (any_of HT_.out (by kernel_rfl)) (fun _ _ _ h => h) (Or.inl ⟨by rfl, ?_⟩) ?_ ?_
                     rotate_left; (intro w'; go_simp; with_reducible rfl); rotate_left; (simp only [Act.put, sA, sZ, sS, i64_w, i32_w]; rfl)
                     refine pure_ (i := 2) (N := some 46) (v := ?_) (a' := ?_) (bA 21 7) rfl rfl (any_of HT_.out (by kernel_rfl)) (fun _ _ _ h => h) (Or.inl ⟨by rfl, ?_⟩) ?_ ?_
                     rotate_left; (intro w'; go_simp; with_reducible rfl); rotate_left; (simp only [Act.put, sA, sZ, sS, i64_w, i32_w]; rfl)
                     refine pure_ (i := 3) (N := some 47) (v := ?_) (a' := ?_) (bA 21 15) rfl rfl (any_of HT_.out (by kernel_rfl)) (fun _ _ _ h => h) (Or.inl ⟨by rfl, ?_⟩) ?_ ?_
                     rotate_left; (intro w'; go_simp; with_reducible rfl); rotate_left; (simp only [Act.put, sA, sZ, sS, i64_w, i32_w]; rfl)
                     refine pure_ (i := 4) (N := some 48) (v := ?_) (a' := ?_) (bA 21 31) rfl rfl (any_of HT_.out (by kernel_rfl)) (fun _ _ _ h => h) (Or.inl ⟨by rfl, ?_⟩) ?_ ?_
                     rotate_left; (intro w'; go_simp; with_reducible rfl); rotate_left; (simp only [Act.put, sA, sZ, sS, i64_w, i32_w]; rfl)
                     refine pure_ (i := 5) (N := some 49) (v := ?_) (a' := ?_) (bA 21 63) rfl rfl (any_of HT_.out (by kernel_rfl)) (fun _ _ _ h => h) (Or.inl ⟨by rfl, ?_⟩) ?_ ?_
                     rotate_left; (intro w'; go_simp; with_reducible rfl); rotate_left; (simp only [Act.put, sA, sZ, sS, i64_w, i32_w]; rfl)
                     refine pure_ (i := 7) (N := some 51) (v := ?_) (a' := ?_) (bA 21 191) rfl rfl (any_of HT_.out (by kernel_rfl)) (fun _ _ _ h => h) (Or.inl ⟨by rfl, ?_⟩) ?_ ?_
                     rotate_left; (intro w'; go_simp; with_reducible rfl); rotate_left; (simp only [Act.put, sA, sZ, sS, i64_w, i32_w]; rfl)
                     refine pure_ (i := 8) (N := some 52) (v := ?_) (a' := ?_) (bA 21 447) rfl rfl (any_of HT_.out (by kernel_rfl)) (fun _ _ _ h => h) (Or.inl ⟨by rfl, ?_⟩) ?_ ?_
                     rotate_left; (intro w'; go_simp; with_reducible rfl); rotate_left; (simp only [Act.put, sA, sZ, sS, i64_w, i32_w]; rfl)
                     refine pure_ (i := 9) (N := some 53) (v := ?_) (a' := ?_) (bA 21 959) rfl rfl (any_of HT_.out (by kernel_rfl)) (fun _ _ _ h => h) (Or.inl ⟨by rfl, ?_⟩) ?_ ?_
                     rotate_left; (intro w'; go_simp; with_reducible rfl); rotate_left; (simp only [Act.put, sA, sZ, sS, i64_w, i32_w]; rfl)
                     refine pure_ (i := 11) (N := some 55) (v := ?_) (a' := ?_) (bA 21 3007) rfl rfl (any_of HT_.out (by kernel_rfl)) (fun _ _ _ h => h) (Or.inl ⟨by rfl, ?_⟩) ?_ ?_
                     rotate_left; (intro w'; go_simp; with_reducible rfl); rotate_left; (simp only [Act.put, sA, sZ, sS, i64_w, i32_w]; rfl)
                     refine pure_ (i := 12) (N := some 56) (v := ?_) (a' := ?_) (bA 21 7103) rfl rfl (any_of HT_.out (by kernel_rfl)) (fun _ _ _ h => h) (Or.inl ⟨by rfl, ?_⟩) ?_ ?_
                     rotate_left; (intro w'; go_simp; with_reducible rfl); rotate_left; (simp only [Act.put, sA, sZ, sS, i64_w, i32_w]; rfl)
                     refine pure_ (i := 14) (N := some 58) (v := ?_) (a' := ?_) (bA 21 23487) rfl rfl (any_of HT_.out (by kernel_rfl)) (fun _ _ _ h => h) (Or.inl ⟨by rfl, ?_⟩) ?_ ?_
                     rotate_left; (intro w'; go_simp; with_reducible rfl); rotate_left; (simp only [Act.put, sA, sZ, sS, i64_w, i32_w]; rfl)
                     refine pure_ (i := 16) (N := some 60) (v := ?_) (a' := ?_) (bA 21 89023) rfl rfl (any_of HT_.out (by kernel_rfl)) (fun _ _ _ h => h) (Or.inl ⟨by rfl, ?_⟩) ?_ ?_
                     rotate_left; (intro w'; go_simp; with_reducible rfl); rotate_left; (simp only [Act.put, sA, sZ, sS, i64_w, i32_w]; rfl)
                     refine pure_ (i := 17) (N := some 61) (v := ?_) (a' := ?_) (bA 21 220095) rfl rfl (any_of HT_.out (by kernel_rfl)) (fun _ _ _ h => h) (Or.inl ⟨by rfl, ?_⟩) ?_ ?_
                     rotate_left; (intro w'; go_simp; with_reducible rfl); rotate_left; (simp only [Act.put, sA, sZ, sS, i64_w, i32_w]; rfl)
                     refine pure_ (i := 18) (N := some 62) (v := ?_) (a' := ?_) (bA 21 482239) rfl rfl (any_of HT_.out (by kernel_rfl)) (fun _ _ _ h => h) (Or.inl ⟨by rfl, ?_⟩) ?_ ?_
                     rotate_left; (intro w'; go_simp; with_reducible rfl); rotate_left; (simp only [Act.put, sA, sZ, sS, i64_w, i32_w]; rfl)
                     refine take_ (i := 6) (N := some 50) (v := ?_) (a' := ?_) (bA 21 482303) rfl rfl (take_ofW HT_.out HW_.out (by kernel_rfl)) (fun _ _ _ h => h) (Or.inl ⟨by rfl, ?_⟩) hHeld ?_ ?_
                     rotate_left
                     ·rintro w' ⟨s0, s1, s2, s3, s4, s5⟩
                      go_simp
                      with_reducible rfl
                     rotate_left
                     ·simp only [Act.put, sA, sZ, sS, i64_w, i32_w]
                      rfl
                     refine take_ (i := 10) (N := some 54) (v := ?_) (a' := ?_) (bA 21 483327) rfl rfl (take_ofW HT_.out HW_.out (by kernel_rfl)) (fun _ _ _ h => h) (Or.inl ⟨by rfl, ?_⟩) hHeld ?_ ?_
                     rotate_left
                     ·rintro w' ⟨s0, s1, s2, s3, s4, s5⟩
                      go_simp
                      with_reducible rfl
                     rotate_left
                     ·simp only [Act.put, sA, sZ, sS, i64_w, i32_w]
                      rfl
                     refine take_ (i := 19) (N := some 63) (v := ?_) (a' := ?_) (bA 21 1007615) rfl rfl (take_ofW HT_.out HW_.out (by kernel_rfl)) (fun _ _ _ h => h) (Or.inl ⟨by rfl, ?_⟩) hHeld ?_ ?_
                     rotate_left
                     ·rintro w' ⟨s0, s1, s2, s3, s4, s5⟩
                      go_simp
                      with_reducible rfl
                     rotate_left
                     ·simp only [Act.put, sA, sZ, sS, i64_w, i32_w]
                      rfl
                     refine one_ (i := 13) (N := some 57) (bA 21 1015807) rfl rfl (one_of HT_.out (by kernel_rfl)) (by decide) (fun K hK => ?_)
                     refine goes_ Try.func97 (by kernel_rfl) rfl #[.slice (some ad220) l0.length c0, .int .i64 x8_3] (by rfl) rfl rfl (by (try simp only [List.map_toArray, List.map_cons, List.map_nil]); first | done | rfl | (simp only [List.length_drop, List.length_take]; rfl)) ?_
                     with_reducible refine (impl_timeOf.calls k3 _ _ l0 x8_3 t221 _ ?side1 ?side2 A29.out).mono ?_
                     (case side1 => repeat (first | exact (Kd.C_below HR0.out HB.out) | (with_reducible refine Kd.C_alloc ?_ _) | (with_reducible refine Kd.C_drewN ?_ _) | (with_reducible refine Kd.C_drew ?_)))
                     (case side2 => exact HC0.out)
                     rintro e w46 ⟨rfl, hb⟩
                     have HS0_ := (hb.cell (World.block_lt_of_cell? _ _ (hHeld.1))).trans (hHeld.1)
                     have HS5_ := (hb.cell (World.block_lt_of_cell? _ _ (hHeld.2.2.2.2.2))).trans (hHeld.2.2.2.2.2)
                     refine ⟨_, rfl, ?_⟩
                     have n0_ := Aside0.mk (Kd.R_below (by (with_reducible repeat (first | apply Kd.R_alloc | apply Kd.R_drewN | apply Kd.R_drew)); exact HO_6.out) hb)
                     have n1_ := Aside0.mk (Kd.R_below (by (with_reducible repeat (first | apply Kd.R_alloc | apply Kd.R_drewN | apply Kd.R_drew)); exact HO_7.out) hb)
                     have n2_ := Aside0.mk (Kd.R_below (by (with_reducible repeat (first | apply Kd.R_alloc | apply Kd.R_drewN | apply Kd.R_drew)); exact HO_38.out) hb)
                     have n3_ := Aside0.mk (below_step (by repeat (first | (with_reducible first | exact HB.out | apply below_alloc | apply pw_below_drewN | apply below_drew1) | exact HB.out)) hb)
                     clear HO_6
                     clear HO_7
                     clear HO_38
                     clear HB
                     have HO_6 := n0_
                     have HO_7 := n1_
                     have HO_38 := n2_
                     have HB := n3_
                     clear n0_ n1_ n2_ n3_
                     (try clear hb)
                     (try clear hb2)
                     (try clear hk)
                     (try clear hi)
                     refine hK.out _ _ ⟨HS0_, ((HB.out.cell (World.block_lt_of_cell? w _ hw220_0)).trans hw220_0), ((HB.out.cell (World.block_lt_of_cell? w _ hw220_1)).trans hw220_1), ((HB.out.cell (World.block_lt_of_cell? w _ hw220_2)).trans hw220_2), ((HB.out.cell (World.block_lt_of_cell? w _ hw220_3)).trans hw220_3), HS5_⟩ (fun hHeld => ?_)
                     clear hK K
                     refine norm_ (a' := ?_) ?_ ?_
                     rotate_left
                     ·show Act.put _ (some 57) _ = _
                      simp only [Act.put, sA, sZ, sS, i64_w, i32_w]
                      rfl
                     refine one_ (i := 15) (N := some 59) (bA 21 1048575) rfl rfl (one_of HT_.out (by kernel_rfl)) (by decide) (fun K hK => ?_)
                     refine goes_ Try.func96 (by kernel_rfl) rfl #[.int .i64 (rd t209 (Go.bits .andNot .i64 x8_3 (ji25))), .agg #[.int .i64 ((rd_T59 l0 (rd t215 x40_3)).f0), .int .i64 ((rd_T59 l0 (rd t215 x40_3)).f1), .int .i64 ((rd_T59 l0 (rd t215 x40_3)).f2), .int .i64 ((rd_T59 l0 (rd t215 x40_3)).f3)], .int .i64 t221, .int .i64 a1, .bool false] (by rfl) rfl rfl (by (try simp only [List.map_toArray, List.map_cons, List.map_nil]); first | done | (simp only [hji25]; rfl) | rfl | (simp only [List.length_drop, List.length_take]; rfl)) ?_
                     with_reducible refine (impl_add.calls (rd t209 (Go.bits .andNot .i64 x8_3 (ji25))) ((rd_T59 l0 (rd t215 x40_3)).f0) ((rd_T59 l0 (rd t215 x40_3)).f1) ((rd_T59 l0 (rd t215 x40_3)).f2) ((rd_T59 l0 (rd t215 x40_3)).f3) t221 a1 false t222 _ A30.out).mono ?_
                     rintro e w47 ⟨rfl, hb⟩
                     have HS0_ := (hb.cell (World.block_lt_of_cell? _ _ (hHeld.1))).trans (hHeld.1)
                     have HS5_ := (hb.cell (World.block_lt_of_cell? _ _ (hHeld.2.2.2.2.2))).trans (hHeld.2.2.2.2.2)
                     refine ⟨_, rfl, ?_⟩
                     have n0_ := Aside0.mk (Kd.R_below (by (with_reducible repeat (first | apply Kd.R_alloc | apply Kd.R_drewN | apply Kd.R_drew)); exact HO_6.out) hb)
                     have n1_ := Aside0.mk (Kd.R_below (by (with_reducible repeat (first | apply Kd.R_alloc | apply Kd.R_drewN | apply Kd.R_drew)); exact HO_7.out) hb)
                     have n2_ := Aside0.mk (Kd.R_below (by (with_reducible repeat (first | apply Kd.R_alloc | apply Kd.R_drewN | apply Kd.R_drew)); exact HO_38.out) hb)
                     have n3_ := Aside0.mk (below_step (by repeat (first | (with_reducible first | exact HB.out | apply below_alloc | apply pw_below_drewN | apply below_drew1) | exact HB.out)) hb)
                     clear HO_6
                     clear HO_7
                     clear HO_38
                     clear HB
                     have HO_6 := n0_
                     have HO_7 := n1_
                     have HO_38 := n2_
                     have HB := n3_
                     clear n0_ n1_ n2_ n3_
                     (try clear hb)
                     (try clear hb2)
                     (try clear hk)
                     (try clear hi)
                     refine hK.out _ _ ⟨HS0_, ((HB.out.cell (World.block_lt_of_cell? w _ hw220_0)).trans hw220_0), ((HB.out.cell (World.block_lt_of_cell? w _ hw220_1)).trans hw220_1), ((HB.out.cell (World.block_lt_of_cell? w _ hw220_2)).trans hw220_2), ((HB.out.cell (World.block_lt_of_cell? w _ hw220_3)).trans hw220_3), HS5_⟩ (fun hHeld => ?_)
                     clear hK K
                     refine norm_ (a' := ?_) ?_ ?_
                     rotate_left
                     ·show Act.put _ (some 59) _ = _
                      simp only [Act.put, sA, sZ, sS, i64_w, i32_w]
                      rfl
                     refine pure_ (i := 20) (N := some 64) (v := ?_) (a' := ?_) (bA 21 2097151) rfl rfl (any_of HT_.out (by kernel_rfl)) (fun _ _ _ h => h) (Or.inl ⟨by rfl, ?_⟩) ?_ ?_
                     rotate_left; (intro w'; go_simp; with_reducible rfl); rotate_left; (simp only [Act.put, sA, sZ, sS, i64_w, i32_w]; rfl)
                     refine done_ (done_of HT_.out (by kernel_rfl)) ?_
                     try go_wp2
                     go_roundg k3
                     case measure => have := HJ2.out; have := HK2.out; have := HK3.out; omega
                     case rel => exact ⟨(x7_3), (x8_3), (wrap64 (x40_3 + 1)), (by first | rfl | (simp; done) | (simp [*]; done)), (by first | rfl | (simp; done) | (simp [*]; done)), H', ⟨by have := HJ2.out; have := HK2.out; have := HK3.out; omega⟩, ⟨by (with_reducible repeat (first | apply Kd.R_alloc | apply Kd.R_drewN | apply Kd.R_drew)); exact HO_6.out⟩, ⟨by (with_reducible repeat (first | apply Kd.R_alloc | apply Kd.R_drewN | apply Kd.R_drew)); exact HO_7.out⟩, ⟨by (with_reducible repeat (first | apply Kd.R_alloc | apply Kd.R_drewN | apply Kd.R_drew)); exact HO_38.out⟩, ⟨by repeat (first | (with_reducible first | exact HB.out | apply below_alloc | apply pw_below_drewN | apply below_drew1) | exact HB.out)⟩⟩
                   ·rw [if_neg c32] at H
                    exact absurd H (by simp)
                  ·rw [if_neg c31] at H
                   exact absurd H (by simp)
                 ·rw [if_neg c28] at H
                  exact absurd H (by simp)
                ·rw [if_neg c27] at H
                 exact absurd H (by simp)
               ·rw [if_neg c26] at H
                exact absurd H (by simp)
              ·rw [if_neg c24] at H
               exact absurd H (by simp)
             ·rw [if_neg c23] at H
              exact absurd H (by simp)
            ·rw [if_neg c22] at H
             exact absurd H (by simp)
           ·rw [if_neg c21] at H
            have c21b0 : decide (x40_3 < (t215.length : Int)) = false := decide_eq_false c21
            clear c21
            have H' := Aside0.mk H
            clear H
            go_wp2
            go_roundg k3
            case measure => have := HJ2.out; have := HK2.out; have := HK3.out; omega
            case rel => exact ⟨(x7_3), (x8_3), (wrap64 (x9_2 - 1)), (by first | rfl | (simp; done) | (simp [*]; done)), (by first | rfl | (simp; done) | (simp [*]; done)), H', ⟨by have := HJ2.out; have := HK2.out; have := HK3.out; omega⟩, ⟨by (with_reducible repeat (first | apply Kd.R_alloc | apply Kd.R_drewN | apply Kd.R_drew)); exact Kd.R_mono HO_6.out (fun _ hk => hk.1)⟩, ⟨by (with_reducible repeat (first | apply Kd.R_alloc | apply Kd.R_drewN | apply Kd.R_drew)); exact Kd.R_mono HO_7.out (fun _ hk => hk.1)⟩, ⟨by repeat (first | (with_reducible first | exact HB.out | apply below_alloc | apply pw_below_drewN | apply below_drew1) | exact HB.out)⟩⟩
        ·rw [if_neg c17] at H
         have c17b0 : decide (0 ≤ x9_2) = false := decide_eq_false c17
         clear c17
         simp only [Option.some.injEq, Prod.mk.injEq] at H
         obtain ⟨rfl, rfl⟩ := H
         go_wp2
         go_ret2
         exact ⟨_, by first | rfl | (simp [errW_none, errW_some] <;> rfl) | (simp only [← hji13]; first | rfl | (simp [errW_none, errW_some] <;> rfl)) | (simp [*, errW_none, errW_some] <;> rfl), by (with_reducible repeat (first | apply Kd.R_alloc | apply Kd.R_drewN | apply Kd.R_drew)); exact Kd.R_mono HO_7.out (fun _ hk => trivial), by repeat (first | (with_reducible first | exact HB.out | apply below_alloc | apply pw_below_drewN | apply below_drew1) | exact HB.out)⟩
     ·rw [if_neg c12] at H
      exact absurd H (by simp)
    ·rw [if_neg c11] at H
     exact absurd H (by simp)

end Go.Proofs.Ythhmembnhnghiaa.OFnExactSetOrder
