/- Functions of the program as plain Lean functions, with their contracts: written by this session's program ownprint.py. Conditions: none. -/
import Derived.Test.YtecdigebnhlfhaaOFnExactLastCostOrderx0
import Derived.Test.YtecdigebnhlfhaaOFnExactLastCostOrderx9
import Derived.Test.YtecdigebnhlfhaaOFnExactLastCostOrderx10
import Derived.Test.YtecdigebnhlfhaaOFnExactLastCostOrderx12
namespace Go.Proofs.Ytecdigebnhlfhaa.OFnExactLastCostOrder
open Go.RowKit Go.Proofs.YtecdigebnhlfhaaW.PrintWords Go.Proofs.YtecdigebnhlfhaaW.PrintLast Go.Proofs.YtecdigebnhlfhaaW.PrintMore
attribute [local go_sem] max2_int min2_int max_two min_two max_three min_three max_four min_four   -- for this text's walks alone
set_option linter.unusedVariables false
set_option linter.unusedSimpArgs false

/-! ### impl_LastCostOrder: function 51 -/
mutual
def impl_LastCostOrder.j0 : Nat → List (S79) → List (S71) → Bool → Option (List Int × Bool)
 | 0, _, _, _ => none
 | k + 1, x0, x1, x24 => if x24 = true then (some (([] : List Int), false)) else ((impl_closure.f k (x0.length : Int) x1).bind fun t276 => (if 0 ≤ (x0.length : Int) then (if ((x0.length : Int) : Int).toNat ≤ 35184372088832 then (impl_LastCostOrder.l0 k x0 t276 (List.replicate ((x0.length : Int) : Int).toNat 0) (wrap64 ((shl .i64 1 (x0.length : Int)) - 1)) (wrap64 ((x0.length : Int) - 1))) else (none)) else (none)))
def impl_LastCostOrder.l0 : Nat → List (S79) → List (List Bool) → List Int → Int → Int → Option (List Int × Bool)
 | 0, _, _, _, _, _ => none
 | k + 1, x0, x6, x7, x8, x9 => if x9 ≥ 0 then ((impl_listOf.f k x8).bind fun t282 => (impl_LastCostOrder.l1 k x0 x6 x7 x8 x9 (-1) t282 (t282.length : Int) 0)) else (some (x7, true))
def impl_LastCostOrder.l1 : Nat → List (S79) → List (List Bool) → List Int → Int → Int → Int → List Int → Int → Int → Option (List Int × Bool)
 | 0, _, _, _, _, _, _, _, _, _ => none
 | k + 1, x0, x6, x7, x8, x9, x10, x44, x45, x46 => if x46 < x45 then (if 0 ≤ x46 then (if x46 < (x44.length : Int) then ((impl_listOf.f k x8).bind fun t287 => (impl_LastCostOrder.l2 k x0 x6 x7 x8 x9 x10 (rd x44 x46) true x44 x45 x46 t287 (t287.length : Int) 0)) else (none)) else (none)) else (if 0 ≤ x9 then (if x9 < (x7.length : Int) then (if 0 ≤ x10 then (impl_LastCostOrder.l0 k x0 x6 (x7.set (x9 : Int).toNat x10) (Go.bits .andNot .i64 x8 (shl .i64 1 x10)) (wrap64 (x9 - 1))) else (none)) else (none)) else (none))
def impl_LastCostOrder.l2 : Nat → List (S79) → List (List Bool) → List Int → Int → Int → Int → Int → Bool → List Int → Int → Int → List Int → Int → Int → Option (List Int × Bool)
 | 0, _, _, _, _, _, _, _, _, _, _, _, _, _, _ => none
 | k + 1, x0, x6, x7, x8, x9, x10, x12, x13, x44, x45, x46, x51, x52, x53 => if x53 < x52 then (if 0 ≤ x53 then (if x53 < (x51.length : Int) then (if x13 = true then (if 0 ≤ x12 then (if x12 < (x6.length : Int) then (if 0 ≤ (rd x51 x53) then (if (rd x51 x53) < ((rd_L5 x6 x12).length : Int) then (impl_LastCostOrder.l2 k x0 x6 x7 x8 x9 x10 x12 (!(rdOf false (rd_L5 x6 x12) (rd x51 x53))) x44 x45 x46 x51 x52 (wrap64 (x53 + 1))) else (none)) else (none)) else (none)) else (none)) else (impl_LastCostOrder.l2 k x0 x6 x7 x8 x9 x10 x12 false x44 x45 x46 x51 x52 (wrap64 (x53 + 1)))) else (none)) else (none)) else (if x13 = true then (if x10 < 0 then (impl_LastCostOrder.l1 k x0 x6 x7 x8 x9 x12 x44 x45 (wrap64 (x46 + 1))) else (if 0 ≤ x12 then (if x12 < (x0.length : Int) then (if 0 ≤ x10 then (if x10 < (x0.length : Int) then (if ((rd_T79 x0 x12).f3) ≥ ((rd_T79 x0 x10).f3) then (impl_LastCostOrder.l1 k x0 x6 x7 x8 x9 x12 x44 x45 (wrap64 (x46 + 1))) else (impl_LastCostOrder.l1 k x0 x6 x7 x8 x9 x10 x44 x45 (wrap64 (x46 + 1)))) else (none)) else (none)) else (none)) else (none))) else (impl_LastCostOrder.l1 k x0 x6 x7 x8 x9 x10 x44 x45 (wrap64 (x46 + 1))))
end
def impl_LastCostOrder.f (k : Nat) (l0 : List (S79)) (l1 : List (S71)) : Option (List Int × Bool) := (impl_isPreceded.f k l0 l1).bind fun t274 => (if t274 = true then ((impl_isPlain.f k l0).bind fun t275 => (impl_LastCostOrder.j0 k l0 l1 (!t275))) else (impl_LastCostOrder.j0 k l0 l1 true))
theorem impl_LastCostOrder.mono_l : ∀ k, (∀ y0 y1 y2, LeO (impl_LastCostOrder.j0 k y0 y1 y2) (impl_LastCostOrder.j0 (k + 1) y0 y1 y2)) ∧ (∀ y0 y1 y2 y3 y4, LeO (impl_LastCostOrder.l0 k y0 y1 y2 y3 y4) (impl_LastCostOrder.l0 (k + 1) y0 y1 y2 y3 y4)) ∧ (∀ y0 y1 y2 y3 y4 y5 y6 y7 y8, LeO (impl_LastCostOrder.l1 k y0 y1 y2 y3 y4 y5 y6 y7 y8) (impl_LastCostOrder.l1 (k + 1) y0 y1 y2 y3 y4 y5 y6 y7 y8)) ∧ (∀ y0 y1 y2 y3 y4 y5 y6 y7 y8 y9 y10 y11 y12 y13, LeO (impl_LastCostOrder.l2 k y0 y1 y2 y3 y4 y5 y6 y7 y8 y9 y10 y11 y12 y13) (impl_LastCostOrder.l2 (k + 1) y0 y1 y2 y3 y4 y5 y6 y7 y8 y9 y10 y11 y12 y13))
 | 0 => ⟨fun _ _ _ r h => by simp [impl_LastCostOrder.j0] at h, fun _ _ _ _ _ r h => by simp [impl_LastCostOrder.l0] at h, fun _ _ _ _ _ _ _ _ _ r h => by simp [impl_LastCostOrder.l1] at h, fun _ _ _ _ _ _ _ _ _ _ _ _ _ _ r h => by simp [impl_LastCostOrder.l2] at h⟩
 | k + 1 => by
  obtain ⟨ih0, ih1, ih2, ih3⟩ := impl_LastCostOrder.mono_l k
  refine ⟨?_, ?_, ?_, ?_⟩
  ·intro y0 y1 y2
   unfold impl_LastCostOrder.j0
   repeat' first
   | (with_reducible exact ih0 _ _ _)
   | (with_reducible exact ih1 _ _ _ _ _)
   | (with_reducible exact ih2 _ _ _ _ _ _ _ _ _)
   | (with_reducible exact ih3 _ _ _ _ _ _ _ _ _ _ _ _ _ _)
   | (with_reducible exact impl_closure.mono _ _ _)
   | (with_reducible exact impl_isPlain.mono _ _)
   | (with_reducible exact impl_isPreceded.mono _ _ _)
   | (with_reducible exact impl_listOf.mono _ _)
   | (with_reducible exact LeO.refl _)
   | (with_reducible exact LeO.none _)
   | (with_reducible refine LeO.ite ?_ ?_)
   | (with_reducible refine LeO.bind ?_ (fun _ => ?_))
   | exact ih0 _ _ _
   | exact ih1 _ _ _ _ _
   | exact ih2 _ _ _ _ _ _ _ _ _
   | exact ih3 _ _ _ _ _ _ _ _ _ _ _ _ _ _
   | exact impl_closure.mono _ _ _
   | exact impl_isPlain.mono _ _
   | exact impl_isPreceded.mono _ _ _
   | exact impl_listOf.mono _ _
   | exact LeO.none _
   | refine LeO.ite ?_ ?_
   | refine LeO.bind ?_ (fun _ => ?_)
  ·intro y0 y1 y2 y3 y4
   unfold impl_LastCostOrder.l0
   repeat' first
   | (with_reducible exact ih0 _ _ _)
   | (with_reducible exact ih1 _ _ _ _ _)
   | (with_reducible exact ih2 _ _ _ _ _ _ _ _ _)
   | (with_reducible exact ih3 _ _ _ _ _ _ _ _ _ _ _ _ _ _)
   | (with_reducible exact impl_closure.mono _ _ _)
   | (with_reducible exact impl_isPlain.mono _ _)
   | (with_reducible exact impl_isPreceded.mono _ _ _)
   | (with_reducible exact impl_listOf.mono _ _)
   | (with_reducible exact LeO.refl _)
   | (with_reducible exact LeO.none _)
   | (with_reducible refine LeO.ite ?_ ?_)
   | (with_reducible refine LeO.bind ?_ (fun _ => ?_))
   | exact ih0 _ _ _
   | exact ih1 _ _ _ _ _
   | exact ih2 _ _ _ _ _ _ _ _ _
   | exact ih3 _ _ _ _ _ _ _ _ _ _ _ _ _ _
   | exact impl_closure.mono _ _ _
   | exact impl_isPlain.mono _ _
   | exact impl_isPreceded.mono _ _ _
   | exact impl_listOf.mono _ _
   | exact LeO.none _
   | refine LeO.ite ?_ ?_
   | refine LeO.bind ?_ (fun _ => ?_)
  ·intro y0 y1 y2 y3 y4 y5 y6 y7 y8
   unfold impl_LastCostOrder.l1
   repeat' first
   | (with_reducible exact ih0 _ _ _)
   | (with_reducible exact ih1 _ _ _ _ _)
   | (with_reducible exact ih2 _ _ _ _ _ _ _ _ _)
   | (with_reducible exact ih3 _ _ _ _ _ _ _ _ _ _ _ _ _ _)
   | (with_reducible exact impl_closure.mono _ _ _)
   | (with_reducible exact impl_isPlain.mono _ _)
   | (with_reducible exact impl_isPreceded.mono _ _ _)
   | (with_reducible exact impl_listOf.mono _ _)
   | (with_reducible exact LeO.refl _)
   | (with_reducible exact LeO.none _)
   | (with_reducible refine LeO.ite ?_ ?_)
   | (with_reducible refine LeO.bind ?_ (fun _ => ?_))
   | exact ih0 _ _ _
   | exact ih1 _ _ _ _ _
   | exact ih2 _ _ _ _ _ _ _ _ _
   | exact ih3 _ _ _ _ _ _ _ _ _ _ _ _ _ _
   | exact impl_closure.mono _ _ _
   | exact impl_isPlain.mono _ _
   | exact impl_isPreceded.mono _ _ _
   | exact impl_listOf.mono _ _
   | exact LeO.none _
   | refine LeO.ite ?_ ?_
   | refine LeO.bind ?_ (fun _ => ?_)
  ·intro y0 y1 y2 y3 y4 y5 y6 y7 y8 y9 y10 y11 y12 y13
   unfold impl_LastCostOrder.l2
   repeat' first
   | (with_reducible exact ih0 _ _ _)
   | (with_reducible exact ih1 _ _ _ _ _)
   | (with_reducible exact ih2 _ _ _ _ _ _ _ _ _)
   | (with_reducible exact ih3 _ _ _ _ _ _ _ _ _ _ _ _ _ _)
   | (with_reducible exact impl_closure.mono _ _ _)
   | (with_reducible exact impl_isPlain.mono _ _)
   | (with_reducible exact impl_isPreceded.mono _ _ _)
   | (with_reducible exact impl_listOf.mono _ _)
   | (with_reducible exact LeO.refl _)
   | (with_reducible exact LeO.none _)
   | (with_reducible refine LeO.ite ?_ ?_)
   | (with_reducible refine LeO.bind ?_ (fun _ => ?_))
   | exact ih0 _ _ _
   | exact ih1 _ _ _ _ _
   | exact ih2 _ _ _ _ _ _ _ _ _
   | exact ih3 _ _ _ _ _ _ _ _ _ _ _ _ _ _
   | exact impl_closure.mono _ _ _
   | exact impl_isPlain.mono _ _
   | exact impl_isPreceded.mono _ _ _
   | exact impl_listOf.mono _ _
   | exact LeO.none _
   | refine LeO.ite ?_ ?_
   | refine LeO.bind ?_ (fun _ => ?_)
theorem impl_LastCostOrder.mono : ∀ a0 a1 k, LeO (impl_LastCostOrder.f k a0 a1) (impl_LastCostOrder.f (k + 1) a0 a1) := by
 intro a0 a1 k
 obtain ⟨ih0, ih1, ih2, ih3⟩ := impl_LastCostOrder.mono_l k
 unfold impl_LastCostOrder.f
 repeat' first
   | (with_reducible exact ih0 _ _ _)
   | (with_reducible exact ih1 _ _ _ _ _)
   | (with_reducible exact ih2 _ _ _ _ _ _ _ _ _)
   | (with_reducible exact ih3 _ _ _ _ _ _ _ _ _ _ _ _ _ _)
   | (with_reducible exact impl_closure.mono _ _ _)
   | (with_reducible exact impl_isPlain.mono _ _)
   | (with_reducible exact impl_isPreceded.mono _ _ _)
   | (with_reducible exact impl_listOf.mono _ _)
   | (with_reducible exact LeO.refl _)
   | (with_reducible exact LeO.none _)
   | (with_reducible refine LeO.ite ?_ ?_)
   | (with_reducible refine LeO.bind ?_ (fun _ => ?_))
   | exact ih0 _ _ _
   | exact ih1 _ _ _ _ _
   | exact ih2 _ _ _ _ _ _ _ _ _
   | exact ih3 _ _ _ _ _ _ _ _ _ _ _ _ _ _
   | exact impl_closure.mono _ _ _
   | exact impl_isPlain.mono _ _
   | exact impl_isPreceded.mono _ _ _
   | exact impl_listOf.mono _ _
   | exact LeO.none _
   | refine LeO.ite ?_ ?_
   | refine LeO.bind ?_ (fun _ => ?_)
set_option maxHeartbeats 8000000 in
set_option maxRecDepth 100000 in
theorem impl_LastCostOrder.calls (k : Nat) (A0 : Option Addr) (c0 : Nat) (l0 : List (S79)) (A1 : Option Addr) (c1 : Nat) (l1 : List (S71)) (r1 : List Int) (r2 : Bool) (w : World) (hr0 : Kd.C k79 w A0 l0.length l0) (hc0 : l0.length ≤ c0) (hr1 : Kd.C k71 w A1 l1.length l1) (hc1 : l1.length ≤ c1) (h : impl_LastCostOrder.f k l0 l1 = some (r1, r2)) :
  Calls Try.prog 51 #[.slice A0 l0.length c0, .slice A1 l1.length c1] w fun e w' => ∃ v0_ : Value, e = .returned (.tuple #[v0_, .bool r2]) ∧ Kd.R (Kd.int .i64) 3 w' w.heap.size (fun _ => True) v0_ r1 ∧ Below w.heap.size w w' := by
 have HR0 := Aside0.mk hr0
 have HC0 := Aside0.mk hc0
 clear hr0 hc0
 have HR1 := Aside0.mk hr1
 have HC1 := Aside0.mk hc1
 clear hr1 hc1
 have HB := Aside0.mk (Below.refl w.heap.size w)
 have H : ((impl_isPreceded.f k l0 l1).bind fun t274 => (if t274 = true then ((impl_isPlain.f k l0).bind fun t275 => (impl_LastCostOrder.j0 k l0 l1 (!t275))) else (impl_LastCostOrder.j0 k l0 l1 true))) = some (r1, r2) := h
 clear h
 have HC3 := Aside0.mk H
 clear H
 go_enter Try.func51, Try.ntmps51
 go_upto_region 1 with (fail)
 repeat (go_quiet (fail); go_upto_region 1 with (fail))
 go_cut [24] (fun v24 wc => ∃ (kq : Nat) (x24_2 : Bool), v24 = .bool x24_2 ∧ Aside0 (impl_LastCostOrder.j0 kq l0 l1 x24_2 = some (r1, r2)) ∧ Aside0 (kq ≤ k) ∧ Aside0 (Below w.heap.size w wc))
 case first =>
  have H := HC3.out
  clear HC3
  replace H := Option.bind_eq_some_iff.mp H
  obtain ⟨t274, A40, H⟩ := H
  replace H : (if t274 = true then ((impl_isPlain.f k l0).bind fun t275 => (impl_LastCostOrder.j0 k l0 l1 (!t275))) else (impl_LastCostOrder.j0 k l0 l1 true)) = some (r1, r2) := H
  have A4 := Aside0.mk A40
  clear A40
  by_cases c5 : t274 = true
  ·subst c5
   have H1 : ((impl_isPlain.f k l0).bind fun t275 => (impl_LastCostOrder.j0 k l0 l1 (!t275))) = some (r1, r2) := by rw [if_pos rfl] at H; exact H
   clear H
   have H := H1
   clear H1
   replace H := Option.bind_eq_some_iff.mp H
   obtain ⟨t275, A60, H⟩ := H
   replace H : (impl_LastCostOrder.j0 k l0 l1 (!t275)) = some (r1, r2) := H
   have A6 := Aside0.mk A60
   clear A60
   have H' := Aside0.mk H
   clear H
   go_wp2_with (first | (go_at_call 71; (with_reducible refine (impl_isPreceded.calls k _ _ l0 _ _ l1 true _ ?side1 ?side2 ?side3 ?side4 A4.out).mono ?_); (case side1 => repeat (first | exact (Kd.C_below HR0.out HB.out) | (with_reducible refine Kd.C_alloc ?_ _) | (with_reducible refine Kd.C_drewN ?_ _) | (with_reducible refine Kd.C_drew ?_))); (case side2 => exact HC0.out); (case side3 => repeat (first | exact (Kd.C_below HR1.out HB.out) | (with_reducible refine Kd.C_alloc ?_ _) | (with_reducible refine Kd.C_drewN ?_ _) | (with_reducible refine Kd.C_drew ?_))); (case side4 => exact HC1.out); rintro e w7 ⟨rfl, hb⟩; have n0_ := Aside0.mk (below_step bB hb); clear HB; have HB := n0_; clear n0_; (try clear hb); (try clear hb2); (try clear hk); (try clear hi)) | (go_at_call 98; (with_reducible refine (impl_isPlain.calls k _ _ l0 t275 _ ?side1 ?side2 A6.out).mono ?_); (case side1 => repeat (first | exact (Kd.C_below HR0.out HB.out) | (with_reducible refine Kd.C_alloc ?_ _) | (with_reducible refine Kd.C_drewN ?_ _) | (with_reducible refine Kd.C_drew ?_))); (case side2 => exact HC0.out); rintro e w8 ⟨rfl, hb⟩; have n0_ := Aside0.mk (below_step bB hb); clear HB; have HB := n0_; clear n0_; (try clear hb); (try clear hb2); (try clear hk); (try clear hi)))
   repeat (go_quiet (first | (go_at_call 71; (with_reducible refine (impl_isPreceded.calls k _ _ l0 _ _ l1 true _ ?side1 ?side2 ?side3 ?side4 A4.out).mono ?_); (case side1 => repeat (first | exact (Kd.C_below HR0.out HB.out) | (with_reducible refine Kd.C_alloc ?_ _) | (with_reducible refine Kd.C_drewN ?_ _) | (with_reducible refine Kd.C_drew ?_))); (case side2 => exact HC0.out); (case side3 => repeat (first | exact (Kd.C_below HR1.out HB.out) | (with_reducible refine Kd.C_alloc ?_ _) | (with_reducible refine Kd.C_drewN ?_ _) | (with_reducible refine Kd.C_drew ?_))); (case side4 => exact HC1.out); rintro e w7 ⟨rfl, hb⟩; have n0_ := Aside0.mk (below_step bB hb); clear HB; have HB := n0_; clear n0_; (try clear hb); (try clear hb2); (try clear hk); (try clear hi)) | (go_at_call 98; (with_reducible refine (impl_isPlain.calls k _ _ l0 t275 _ ?side1 ?side2 A6.out).mono ?_); (case side1 => repeat (first | exact (Kd.C_below HR0.out HB.out) | (with_reducible refine Kd.C_alloc ?_ _) | (with_reducible refine Kd.C_drewN ?_ _) | (with_reducible refine Kd.C_drew ?_))); (case side2 => exact HC0.out); rintro e w8 ⟨rfl, hb⟩; have n0_ := Aside0.mk (below_step bB hb); clear HB; have HB := n0_; clear n0_; (try clear hb); (try clear hb2); (try clear hk); (try clear hi))); try go_wp2_with (first | (go_at_call 71; (with_reducible refine (impl_isPreceded.calls k _ _ l0 _ _ l1 true _ ?side1 ?side2 ?side3 ?side4 A4.out).mono ?_); (case side1 => repeat (first | exact (Kd.C_below HR0.out HB.out) | (with_reducible refine Kd.C_alloc ?_ _) | (with_reducible refine Kd.C_drewN ?_ _) | (with_reducible refine Kd.C_drew ?_))); (case side2 => exact HC0.out); (case side3 => repeat (first | exact (Kd.C_below HR1.out HB.out) | (with_reducible refine Kd.C_alloc ?_ _) | (with_reducible refine Kd.C_drewN ?_ _) | (with_reducible refine Kd.C_drew ?_))); (case side4 => exact HC1.out); rintro e w7 ⟨rfl, hb⟩; have n0_ := Aside0.mk (below_step bB hb); clear HB; have HB := n0_; clear n0_; (try clear hb); (try clear hb2); (try clear hk); (try clear hi)) | (go_at_call 98; (with_reducible refine (impl_isPlain.calls k _ _ l0 t275 _ ?side1 ?side2 A6.out).mono ?_); (case side1 => repeat (first | exact (Kd.C_below HR0.out HB.out) | (with_reducible refine Kd.C_alloc ?_ _) | (with_reducible refine Kd.C_drewN ?_ _) | (with_reducible refine Kd.C_drew ?_))); (case side2 => exact HC0.out); rintro e w8 ⟨rfl, hb⟩; have n0_ := Aside0.mk (below_step bB hb); clear HB; have HB := n0_; clear n0_; (try clear hb); (try clear hb2); (try clear hk); (try clear hi))))
   go_meet
   case rel => exact ⟨_, (!t275), (by first | rfl | (simp; done) | (simp [*]; done)), H', ⟨by first | omega | exact Nat.le_refl _⟩, ⟨by repeat (first | (with_reducible first | exact HB.out | apply below_alloc | apply pw_below_drewN | apply below_drew1) | exact HB.out)⟩⟩
  ·replace c5 := Bool.eq_false_iff.mpr c5
   subst c5
   have H1 : (impl_LastCostOrder.j0 k l0 l1 true) = some (r1, r2) := by rw [if_neg (show ¬ (false = true) by decide)] at H; exact H
   clear H
   have H := H1
   clear H1
   have H' := Aside0.mk H
   clear H
   go_wp2_with (first | (go_at_call 71; (with_reducible refine (impl_isPreceded.calls k _ _ l0 _ _ l1 false _ ?side1 ?side2 ?side3 ?side4 A4.out).mono ?_); (case side1 => repeat (first | exact (Kd.C_below HR0.out HB.out) | (with_reducible refine Kd.C_alloc ?_ _) | (with_reducible refine Kd.C_drewN ?_ _) | (with_reducible refine Kd.C_drew ?_))); (case side2 => exact HC0.out); (case side3 => repeat (first | exact (Kd.C_below HR1.out HB.out) | (with_reducible refine Kd.C_alloc ?_ _) | (with_reducible refine Kd.C_drewN ?_ _) | (with_reducible refine Kd.C_drew ?_))); (case side4 => exact HC1.out); rintro e w9 ⟨rfl, hb⟩; have n0_ := Aside0.mk (below_step bB hb); clear HB; have HB := n0_; clear n0_; (try clear hb); (try clear hb2); (try clear hk); (try clear hi)))
   repeat (go_quiet (first | (go_at_call 71; (with_reducible refine (impl_isPreceded.calls k _ _ l0 _ _ l1 false _ ?side1 ?side2 ?side3 ?side4 A4.out).mono ?_); (case side1 => repeat (first | exact (Kd.C_below HR0.out HB.out) | (with_reducible refine Kd.C_alloc ?_ _) | (with_reducible refine Kd.C_drewN ?_ _) | (with_reducible refine Kd.C_drew ?_))); (case side2 => exact HC0.out); (case side3 => repeat (first | exact (Kd.C_below HR1.out HB.out) | (with_reducible refine Kd.C_alloc ?_ _) | (with_reducible refine Kd.C_drewN ?_ _) | (with_reducible refine Kd.C_drew ?_))); (case side4 => exact HC1.out); rintro e w9 ⟨rfl, hb⟩; have n0_ := Aside0.mk (below_step bB hb); clear HB; have HB := n0_; clear n0_; (try clear hb); (try clear hb2); (try clear hk); (try clear hi))); try go_wp2_with (first | (go_at_call 71; (with_reducible refine (impl_isPreceded.calls k _ _ l0 _ _ l1 false _ ?side1 ?side2 ?side3 ?side4 A4.out).mono ?_); (case side1 => repeat (first | exact (Kd.C_below HR0.out HB.out) | (with_reducible refine Kd.C_alloc ?_ _) | (with_reducible refine Kd.C_drewN ?_ _) | (with_reducible refine Kd.C_drew ?_))); (case side2 => exact HC0.out); (case side3 => repeat (first | exact (Kd.C_below HR1.out HB.out) | (with_reducible refine Kd.C_alloc ?_ _) | (with_reducible refine Kd.C_drewN ?_ _) | (with_reducible refine Kd.C_drew ?_))); (case side4 => exact HC1.out); rintro e w9 ⟨rfl, hb⟩; have n0_ := Aside0.mk (below_step bB hb); clear HB; have HB := n0_; clear n0_; (try clear hb); (try clear hb2); (try clear hk); (try clear hi))))
   go_meet
   case rel => exact ⟨_, (true), (by first | rfl | (simp; done) | (simp [*]; done)), H', ⟨by first | omega | exact Nat.le_refl _⟩, ⟨by repeat (first | (with_reducible first | exact HB.out | apply below_alloc | apply pw_below_drewN | apply below_drew1) | exact HB.out)⟩⟩
 case rest =>
  clear HC3
  try clear c1
  try clear p2
  try clear c5
  obtain ⟨kq, x24_2, rfl, HA, HJ2, HB⟩ := hcut
  cases kq with
  | zero => exact absurd HA.out (by simp [impl_LastCostOrder.j0])
  | succ kj2 =>
   have H := HA.out
   clear HA
   simp only [impl_LastCostOrder.j0] at H
   by_cases c10 : x24_2 = true
   ·subst c10
    have H1 : (some (([] : List Int), false)) = some (r1, r2) := by rw [if_pos rfl] at H; exact H
    clear H
    have H := H1
    clear H1
    simp only [Option.some.injEq, Prod.mk.injEq] at H
    obtain ⟨rfl, rfl⟩ := H
    go_wp2
    repeat (go_quiet (fail); try go_wp2)
    go_ret2
    exact ⟨_, by first | rfl | (simp [errW_none, errW_some] <;> rfl) | (simp [*, errW_none, errW_some] <;> rfl), by first | exact Kd.R_nil _ _ _ _ _ | exact Kd.N_nil _ _ _ _ _ | exact Kd.V_nil _ _ _ _ _ | exact Kd.Q_nil _ _ _ _ _ | exact Kd.S_nil _ _ _ _ _, bB⟩
   ·replace c10 := Bool.eq_false_iff.mpr c10
    subst c10
    have H1 : ((impl_closure.f kj2 (l0.length : Int) l1).bind fun t276 => (if 0 ≤ (l0.length : Int) then (if ((l0.length : Int) : Int).toNat ≤ 35184372088832 then (impl_LastCostOrder.l0 kj2 l0 t276 (List.replicate ((l0.length : Int) : Int).toNat 0) (wrap64 ((shl .i64 1 (l0.length : Int)) - 1)) (wrap64 ((l0.length : Int) - 1))) else (none)) else (none))) = some (r1, r2) := by rw [if_neg (show ¬ (false = true) by decide)] at H; exact H
    clear H
    have H := H1
    clear H1
    replace H := Option.bind_eq_some_iff.mp H
    obtain ⟨t276, A110, H⟩ := H
    replace H : (if 0 ≤ (l0.length : Int) then (if ((l0.length : Int) : Int).toNat ≤ 35184372088832 then (impl_LastCostOrder.l0 kj2 l0 t276 (List.replicate ((l0.length : Int) : Int).toNat 0) (wrap64 ((shl .i64 1 (l0.length : Int)) - 1)) (wrap64 ((l0.length : Int) - 1))) else (none)) else (none)) = some (r1, r2) := H
    have A11 := Aside0.mk A110
    clear A110
    by_cases c12 : 0 ≤ (l0.length : Int)
    ·rw [if_pos c12] at H
     have c12b0 := eq_true c12
     have c12b1 : decide (0 ≤ (l0.length : Int)) = true := decide_eq_true c12
     clear c12
     by_cases c13 : ((l0.length : Int) : Int).toNat ≤ 35184372088832
     ·rw [if_pos c13] at H
      have c13b0 := eq_true c13
      have c13b1 : decide (((l0.length : Int) : Int).toNat ≤ 35184372088832) = true := decide_eq_true c13
      clear c13
      obtain ⟨y279, hy279⟩ : ∃ y_ : List Int, y_ = (List.replicate ((l0.length : Int) : Int).toNat 0) := ⟨_, rfl⟩
      replace H : (impl_LastCostOrder.l0 kj2 l0 t276 y279 (wrap64 ((shl .i64 1 (l0.length : Int)) - 1)) (wrap64 ((l0.length : Int) - 1))) = some (r1, r2) := by first | (rw [hy279]; with_reducible exact H) | (have H2_ := (Option.bind_some _ _).symm.trans H; rw [hy279]; with_reducible exact H2_) | (have H2_ := (Option.bind_some _ _).symm.trans H; with_reducible exact H2_) | with_reducible exact H | (rw [hy279]; exact H) | exact H
      have Ny279 := Aside0.mk hy279
      clear hy279
      obtain ⟨ji14, hji14⟩ : ∃ j_ : Int, (shl .i64 1 (l0.length : Int)) = j_ := ⟨_, rfl⟩
      replace H : (impl_LastCostOrder.l0 kj2 l0 t276 y279 (wrap64 ((ji14) - 1)) (wrap64 ((l0.length : Int) - 1))) = some (r1, r2) := by first | (rw [hji14] at H; exact H) | (simp only [hji14] at H ⊢; exact H)
      (try rw [hji14] at A11)
      have hji14_ : (IntKind.i64.wrap (1 * 2 ^ min (l0.length : Int).toNat 64)) = ji14 := hji14
      have hji14z : (l0.length : Int) ≤ 64 → (IntKind.i64.wrap (1 * 2 ^ (l0.length : Int).toNat)) = ji14 := shl_small hji14
      have hji14p : (IntKind.i64.wrap (1 * 2 ^ min l0.length 64)) = ji14 := hji14_
      have hji14q : (l0.length : Int) ≤ 64 → (IntKind.i64.wrap (1 * 2 ^ l0.length)) = ji14 := hji14z
      have hji14r : (IntKind.i64.wrap (2 ^ min l0.length 64)) = ji14 := by have h_ := hji14p; rw [Int.one_mul] at h_; exact h_
      have hji14s : (l0.length : Int) ≤ 64 → (IntKind.i64.wrap (2 ^ l0.length)) = ji14 := fun hle_ => by have h_ := hji14q hle_; rw [Int.one_mul] at h_; exact h_
      have hji14u : (IntKind.i64.wrap (2 ^ min (l0.length : Int).toNat 64)) = ji14 := by have h_ := hji14_; rw [Int.one_mul] at h_; exact h_
      have hji14v : (l0.length : Int) ≤ 64 → (IntKind.i64.wrap (2 ^ (l0.length : Int).toNat)) = ji14 := fun hle_ => by have h_ := hji14z hle_; rw [Int.one_mul] at h_; exact h_
      have hji14y : (wrap64 (1 * 2 ^ min (l0.length : Int).toNat 64)) = ji14 := (i64_w _).symm.trans hji14_
      have hji14x : (l0.length : Int) ≤ 64 → (wrap64 (1 * 2 ^ (l0.length : Int).toNat)) = ji14 := fun h_ => (i64_w _).symm.trans (hji14z h_)
      have H' := Aside0.mk H
      clear H
      go_wp2_with (first | (go_at_call 63; (with_reducible refine (impl_closure.calls kj2 (l0.length : Int) _ _ l1 t276 _ ?side1 ?side2 A11.out).mono ?_); (case side1 => repeat (first | exact (Kd.C_below HR1.out HB.out) | (with_reducible refine Kd.C_alloc ?_ _) | (with_reducible refine Kd.C_drewN ?_ _) | (with_reducible refine Kd.C_drew ?_))); (case side2 => exact HC1.out); rintro e w15 ⟨v277, rfl, ho0, hb⟩; have n0_ := Aside0.mk (Kd.S_lower ho0 (below_size bB)); have n1_ := Aside0.mk (below_step bB hb); clear HB; have HO278 := n0_; have HB := n1_; clear n0_ n1_; (try clear hb); (try clear hb2); (try clear hk); (try clear hi); (try clear ho0)) | ((with_reducible refine gate_dst (N := 31) rfl ?_); refine Kd.R_make (Kd.int .i64) _ 3 rfl (N := 31) rfl 34 _ _ rfl (l0.length : Int) rfl rfl Try.underlying34 (.int .i64 0) 8 info3 rfl (by decide) (by omega) 0 (ok := fun _ => True) (okp := fun _ => True) rfl (fun _ hk => hk) trivial (oD) (Nat.le_trans (Nat.mul_le_mul_right _ (oD : (l0.length : Int).toNat ≤ 35184372088832)) (by omega)) (Below.refl _ _) (Nat.le_refl _) ?_; intro v280 w16 ho17 hb hg_ hnew_; clear hg_ hnew_; (first | rw [← Ny279.out] at ho17 | (simp only [Int.reduceToNat] at ho17; rw [← Ny279.out] at ho17)); have n0_ := Aside0.mk (Kd.S_below (by (with_reducible repeat (first | apply Kd.S_alloc | apply Kd.S_drewN | apply Kd.S_drew)); exact HO278.out) hb); have n1_ := Aside0.mk (Kd.R_lower ho17 (below_size bB)); have n2_ := Aside0.mk (below_step bB hb); clear HO278; clear HB; have HO278 := n0_; have HO281 := n1_; have HB := n2_; clear n0_ n1_ n2_; clear hb ho17))
      repeat (go_quiet (first | (go_at_call 63; (with_reducible refine (impl_closure.calls kj2 (l0.length : Int) _ _ l1 t276 _ ?side1 ?side2 A11.out).mono ?_); (case side1 => repeat (first | exact (Kd.C_below HR1.out HB.out) | (with_reducible refine Kd.C_alloc ?_ _) | (with_reducible refine Kd.C_drewN ?_ _) | (with_reducible refine Kd.C_drew ?_))); (case side2 => exact HC1.out); rintro e w15 ⟨v277, rfl, ho0, hb⟩; have n0_ := Aside0.mk (Kd.S_lower ho0 (below_size bB)); have n1_ := Aside0.mk (below_step bB hb); clear HB; have HO278 := n0_; have HB := n1_; clear n0_ n1_; (try clear hb); (try clear hb2); (try clear hk); (try clear hi); (try clear ho0)) | ((with_reducible refine gate_dst (N := 31) rfl ?_); refine Kd.R_make (Kd.int .i64) _ 3 rfl (N := 31) rfl 34 _ _ rfl (l0.length : Int) rfl rfl Try.underlying34 (.int .i64 0) 8 info3 rfl (by decide) (by omega) 0 (ok := fun _ => True) (okp := fun _ => True) rfl (fun _ hk => hk) trivial (oD) (Nat.le_trans (Nat.mul_le_mul_right _ (oD : (l0.length : Int).toNat ≤ 35184372088832)) (by omega)) (Below.refl _ _) (Nat.le_refl _) ?_; intro v280 w16 ho17 hb hg_ hnew_; clear hg_ hnew_; (first | rw [← Ny279.out] at ho17 | (simp only [Int.reduceToNat] at ho17; rw [← Ny279.out] at ho17)); have n0_ := Aside0.mk (Kd.S_below (by (with_reducible repeat (first | apply Kd.S_alloc | apply Kd.S_drewN | apply Kd.S_drew)); exact HO278.out) hb); have n1_ := Aside0.mk (Kd.R_lower ho17 (below_size bB)); have n2_ := Aside0.mk (below_step bB hb); clear HO278; clear HB; have HO278 := n0_; have HO281 := n1_; have HB := n2_; clear n0_ n1_ n2_; clear hb ho17)); try go_wp2_with (first | (go_at_call 63; (with_reducible refine (impl_closure.calls kj2 (l0.length : Int) _ _ l1 t276 _ ?side1 ?side2 A11.out).mono ?_); (case side1 => repeat (first | exact (Kd.C_below HR1.out HB.out) | (with_reducible refine Kd.C_alloc ?_ _) | (with_reducible refine Kd.C_drewN ?_ _) | (with_reducible refine Kd.C_drew ?_))); (case side2 => exact HC1.out); rintro e w15 ⟨v277, rfl, ho0, hb⟩; have n0_ := Aside0.mk (Kd.S_lower ho0 (below_size bB)); have n1_ := Aside0.mk (below_step bB hb); clear HB; have HO278 := n0_; have HB := n1_; clear n0_ n1_; (try clear hb); (try clear hb2); (try clear hk); (try clear hi); (try clear ho0)) | ((with_reducible refine gate_dst (N := 31) rfl ?_); refine Kd.R_make (Kd.int .i64) _ 3 rfl (N := 31) rfl 34 _ _ rfl (l0.length : Int) rfl rfl Try.underlying34 (.int .i64 0) 8 info3 rfl (by decide) (by omega) 0 (ok := fun _ => True) (okp := fun _ => True) rfl (fun _ hk => hk) trivial (oD) (Nat.le_trans (Nat.mul_le_mul_right _ (oD : (l0.length : Int).toNat ≤ 35184372088832)) (by omega)) (Below.refl _ _) (Nat.le_refl _) ?_; intro v280 w16 ho17 hb hg_ hnew_; clear hg_ hnew_; (first | rw [← Ny279.out] at ho17 | (simp only [Int.reduceToNat] at ho17; rw [← Ny279.out] at ho17)); have n0_ := Aside0.mk (Kd.S_below (by (with_reducible repeat (first | apply Kd.S_alloc | apply Kd.S_drewN | apply Kd.S_drew)); exact HO278.out) hb); have n1_ := Aside0.mk (Kd.R_lower ho17 (below_size bB)); have n2_ := Aside0.mk (below_step bB hb); clear HO278; clear HB; have HO278 := n0_; have HO281 := n1_; have HB := n2_; clear n0_ n1_ n2_; clear hb ho17)))
      go_loopg [8, 9] kj2 (fun kq v8 v9 w' => ∃ (x7_2 : List Int) (x8_2 : Int) (x9_2 : Int), v8 = .int .i64 x8_2 ∧ v9 = .int .i64 x9_2 ∧ Aside0 (impl_LastCostOrder.l0 kq l0 t276 x7_2 x8_2 x9_2 = some (r1, r2)) ∧ Aside0 (kq ≤ kj2) ∧ Aside0 (Kd.S (Kd.slice 4 Kd.bool) 80 w' w.heap.size (fun _ => True) v277 t276) ∧ Aside0 (Kd.R (Kd.int .i64) 3 w' w.heap.size (fun _ => True) v280 x7_2) ∧ Aside0 (Below w.heap.size w w'))
      case atStart => exact ⟨(y279), (wrap64 ((ji14) - 1)), (wrap64 ((l0.length : Int) - 1)), (by first | rfl | (simp; done) | (simp only [← hji14] <;> (first | rfl | simp)) | (simp [*]; done)), (by first | rfl | (simp; done) | (simp [*]; done)), H', ⟨Nat.le_refl _⟩, ⟨by (with_reducible repeat (first | apply Kd.S_alloc | apply Kd.S_drewN | apply Kd.S_drew)); exact HO278.out⟩, ⟨by (with_reducible repeat (first | apply Kd.R_alloc | apply Kd.R_drewN | apply Kd.R_drew)); exact HO281.out⟩, ⟨by repeat (first | (with_reducible first | exact HB.out | apply below_alloc | apply pw_below_drewN | apply below_drew1) | exact HB.out)⟩⟩
      case round =>
       clear H'
       try clear c1
       try clear p2
       try clear c5
       try clear p6
       try clear c10
       try clear c12
       try clear c12b0
       try clear c12b1
       try clear c13
       try clear c13b0
       try clear c13b1
       try clear p2
       obtain ⟨x7_2, x8_2, x9_2, rfl, rfl, HA, HK2, HO_6, HO_7, HB⟩ := hrel
       cases gk with
       | zero => exact absurd HA.out (by simp [impl_LastCostOrder.l0])
       | succ k2 =>
        have H := HA.out
        clear HA
        simp only [impl_LastCostOrder.l0] at H
        by_cases c18 : x9_2 ≥ 0
        ·rw [if_pos c18] at H
         have c18b0 : decide (0 ≤ x9_2) = true := decide_eq_true c18
         clear c18
         replace H := Option.bind_eq_some_iff.mp H
         obtain ⟨t282, A190, H⟩ := H
         replace H : (impl_LastCostOrder.l1 k2 l0 t276 x7_2 x8_2 x9_2 (-1) t282 (t282.length : Int) 0) = some (r1, r2) := H
         have A19 := Aside0.mk A190
         clear A190
         have H' := Aside0.mk H
         clear H
         go_wp2_with (first | (go_at_call 65; (with_reducible refine (impl_listOf.calls k2 x8_2 t282 _ A19.out).mono ?_); rintro e w20 ⟨v283, rfl, ho0, hb⟩; have n0_ := Aside0.mk (Kd.S_below (by (with_reducible repeat (first | apply Kd.S_alloc | apply Kd.S_drewN | apply Kd.S_drew)); exact HO_6.out) hb); have n1_ := Aside0.mk (Kd.R_elder' (by (with_reducible repeat (first | apply Kd.R_alloc | apply Kd.R_drewN | apply Kd.R_drew)); exact HO_7.out) (Kd.R_base ho0) hb); have n2_ := Aside0.mk (Kd.R_lower (Kd.R_new' ho0 (Kd.R_lt (by (with_reducible repeat (first | apply Kd.R_alloc | apply Kd.R_drewN | apply Kd.R_drew)); exact HO_7.out))) (below_size bB)); have n3_ := Aside0.mk (below_step bB hb); clear HO_6; clear HO_7; clear HB; have HO_6 := n0_; have HO_7 := n1_; have HO284 := n2_; have HB := n3_; clear n0_ n1_ n2_ n3_; (try clear hb); (try clear hb2); (try clear hk); (try clear hi); (try clear ho0); obtain ⟨Ao21, co21, eo21⟩ := Kd.R_slice HO284.out; subst eo21))
         repeat (go_quiet (first | (go_at_call 65; (with_reducible refine (impl_listOf.calls k2 x8_2 t282 _ A19.out).mono ?_); rintro e w20 ⟨v283, rfl, ho0, hb⟩; have n0_ := Aside0.mk (Kd.S_below (by (with_reducible repeat (first | apply Kd.S_alloc | apply Kd.S_drewN | apply Kd.S_drew)); exact HO_6.out) hb); have n1_ := Aside0.mk (Kd.R_elder' (by (with_reducible repeat (first | apply Kd.R_alloc | apply Kd.R_drewN | apply Kd.R_drew)); exact HO_7.out) (Kd.R_base ho0) hb); have n2_ := Aside0.mk (Kd.R_lower (Kd.R_new' ho0 (Kd.R_lt (by (with_reducible repeat (first | apply Kd.R_alloc | apply Kd.R_drewN | apply Kd.R_drew)); exact HO_7.out))) (below_size bB)); have n3_ := Aside0.mk (below_step bB hb); clear HO_6; clear HO_7; clear HB; have HO_6 := n0_; have HO_7 := n1_; have HO284 := n2_; have HB := n3_; clear n0_ n1_ n2_ n3_; (try clear hb); (try clear hb2); (try clear hk); (try clear hi); (try clear ho0); obtain ⟨Ao21, co21, eo21⟩ := Kd.R_slice HO284.out; subst eo21)); try go_wp2_with (first | (go_at_call 65; (with_reducible refine (impl_listOf.calls k2 x8_2 t282 _ A19.out).mono ?_); rintro e w20 ⟨v283, rfl, ho0, hb⟩; have n0_ := Aside0.mk (Kd.S_below (by (with_reducible repeat (first | apply Kd.S_alloc | apply Kd.S_drewN | apply Kd.S_drew)); exact HO_6.out) hb); have n1_ := Aside0.mk (Kd.R_elder' (by (with_reducible repeat (first | apply Kd.R_alloc | apply Kd.R_drewN | apply Kd.R_drew)); exact HO_7.out) (Kd.R_base ho0) hb); have n2_ := Aside0.mk (Kd.R_lower (Kd.R_new' ho0 (Kd.R_lt (by (with_reducible repeat (first | apply Kd.R_alloc | apply Kd.R_drewN | apply Kd.R_drew)); exact HO_7.out))) (below_size bB)); have n3_ := Aside0.mk (below_step bB hb); clear HO_6; clear HO_7; clear HB; have HO_6 := n0_; have HO_7 := n1_; have HO284 := n2_; have HB := n3_; clear n0_ n1_ n2_ n3_; (try clear hb); (try clear hb2); (try clear hk); (try clear hi); (try clear ho0); obtain ⟨Ao21, co21, eo21⟩ := Kd.R_slice HO284.out; subst eo21)))
         go_loopg [10, 46] k2 (fun kq v10 v46 w' => ∃ (x10_3 : Int) (x46_3 : Int), v10 = .int .i64 x10_3 ∧ v46 = .int .i64 x46_3 ∧ Aside0 (impl_LastCostOrder.l1 kq l0 t276 x7_2 x8_2 x9_2 x10_3 t282 (t282.length : Int) x46_3 = some (r1, r2)) ∧ Aside0 (kq ≤ k2) ∧ Aside0 (Kd.S (Kd.slice 4 Kd.bool) 80 w' w.heap.size (fun _ => True) v277 t276) ∧ Aside0 (Kd.R (Kd.int .i64) 3 w' w.heap.size (fun k_ => some k_ ≠ ((.slice Ao21 t282.length co21) : Value).ownBlock) v280 x7_2) ∧ Aside0 (Kd.R (Kd.int .i64) 3 w' w.heap.size (fun k_ => some k_ ≠ (v280 : Value).ownBlock) (.slice Ao21 t282.length co21) t282) ∧ Aside0 (Below w.heap.size w w'))
         case atStart => exact ⟨((-1)), (0), (by first | rfl | (simp; done) | (simp [*]; done)), (by first | rfl | (simp; done) | (simp [*]; done)), H', ⟨Nat.le_refl _⟩, ⟨by (with_reducible repeat (first | apply Kd.S_alloc | apply Kd.S_drewN | apply Kd.S_drew)); exact HO_6.out⟩, ⟨by (with_reducible repeat (first | apply Kd.R_alloc | apply Kd.R_drewN | apply Kd.R_drew)); exact Kd.R_mono HO_7.out (fun _ hk => hk.2)⟩, ⟨by (with_reducible repeat (first | apply Kd.R_alloc | apply Kd.R_drewN | apply Kd.R_drew)); exact Kd.R_mono HO284.out (fun _ hk => hk.2)⟩, ⟨by repeat (first | (with_reducible first | exact HB.out | apply below_alloc | apply pw_below_drewN | apply below_drew1) | exact HB.out)⟩⟩
         case round =>
          clear H'
          try clear c1
          try clear p2
          try clear c5
          try clear p6
          try clear c10
          try clear c12
          try clear c12b0
          try clear c12b1
          try clear c13
          try clear c13b0
          try clear c13b1
          try clear c18
          try clear c18b0
          try clear p2
          try clear p6
          obtain ⟨x10_3, x46_3, rfl, rfl, HA, HK3, HO_6, HO_7, HO_44, HB⟩ := hrel
          cases gk with
          | zero => exact absurd HA.out (by simp [impl_LastCostOrder.l1])
          | succ k3 =>
           have H := HA.out
           clear HA
           simp only [impl_LastCostOrder.l1] at H
           by_cases c22 : x46_3 < (t282.length : Int)
           ·rw [if_pos c22] at H
            have c22b0 : decide (x46_3 < (t282.length : Int)) = true := decide_eq_true c22
            clear c22
            by_cases c23 : 0 ≤ x46_3
            ·rw [if_pos c23] at H
             have c23b0 : decide (0 ≤ x46_3) = true := decide_eq_true c23
             clear c23
             by_cases c24 : x46_3 < (t282.length : Int)
             ·rw [if_pos c24] at H
              have c24b0 : decide (x46_3 < (t282.length : Int)) = true := decide_eq_true c24
              clear c24
              replace H := Option.bind_eq_some_iff.mp H
              obtain ⟨t287, A250, H⟩ := H
              replace H : (impl_LastCostOrder.l2 k3 l0 t276 x7_2 x8_2 x9_2 x10_3 (rd t282 x46_3) true t282 (t282.length : Int) x46_3 t287 (t287.length : Int) 0) = some (r1, r2) := H
              have A25 := Aside0.mk A250
              clear A250
              have H' := Aside0.mk H
              clear H
              have p286 : 0 ≤ (x46_3 : Int) := oD
              have q286 : x46_3 < (t282.length : Int) := oD
              obtain ⟨ad286, e286, hx286_0⟩ := Kd.at_int (Kd.R_reads' HO_44.out).2.2 x46_3 p286 q286
              cases e286
              replace p286 := eq_true p286
              replace q286 := eq_true q286
              go_wp2_with (first | (go_at_call 65; (with_reducible refine (impl_listOf.calls k3 x8_2 t287 _ A25.out).mono ?_); rintro e w26 ⟨v288, rfl, ho0, hb⟩; have n0_ := Aside0.mk (Kd.S_below (by (with_reducible repeat (first | apply Kd.S_alloc | apply Kd.S_drewN | apply Kd.S_drew)); exact HO_6.out) hb); have n1_ := Aside0.mk (Kd.R_elder' (by (with_reducible repeat (first | apply Kd.R_alloc | apply Kd.R_drewN | apply Kd.R_drew)); exact HO_7.out) (Kd.R_base ho0) hb); have n2_ := Aside0.mk (Kd.R_elder' (by (with_reducible repeat (first | apply Kd.R_alloc | apply Kd.R_drewN | apply Kd.R_drew)); exact HO_44.out) (Kd.R_base ho0) hb); have n3_ := Aside0.mk (Kd.R_lower (Kd.R_new' (Kd.R_new' ho0 (Kd.R_lt (by (with_reducible repeat (first | apply Kd.R_alloc | apply Kd.R_drewN | apply Kd.R_drew)); exact HO_7.out))) (Kd.R_lt (by (with_reducible repeat (first | apply Kd.R_alloc | apply Kd.R_drewN | apply Kd.R_drew)); exact HO_44.out))) (below_size bB)); have n4_ := Aside0.mk (below_step bB hb); clear HO_6; clear HO_7; clear HO_44; clear HB; have HO_6 := n0_; have HO_7 := n1_; have HO_44 := n2_; have HO289 := n3_; have HB := n4_; clear n0_ n1_ n2_ n3_ n4_; (try clear hb); (try clear hb2); (try clear hk); (try clear hi); (try clear ho0); obtain ⟨Ao27, co27, eo27⟩ := Kd.R_slice HO289.out; subst eo27))
              repeat (go_quiet (first | (go_at_call 65; (with_reducible refine (impl_listOf.calls k3 x8_2 t287 _ A25.out).mono ?_); rintro e w26 ⟨v288, rfl, ho0, hb⟩; have n0_ := Aside0.mk (Kd.S_below (by (with_reducible repeat (first | apply Kd.S_alloc | apply Kd.S_drewN | apply Kd.S_drew)); exact HO_6.out) hb); have n1_ := Aside0.mk (Kd.R_elder' (by (with_reducible repeat (first | apply Kd.R_alloc | apply Kd.R_drewN | apply Kd.R_drew)); exact HO_7.out) (Kd.R_base ho0) hb); have n2_ := Aside0.mk (Kd.R_elder' (by (with_reducible repeat (first | apply Kd.R_alloc | apply Kd.R_drewN | apply Kd.R_drew)); exact HO_44.out) (Kd.R_base ho0) hb); have n3_ := Aside0.mk (Kd.R_lower (Kd.R_new' (Kd.R_new' ho0 (Kd.R_lt (by (with_reducible repeat (first | apply Kd.R_alloc | apply Kd.R_drewN | apply Kd.R_drew)); exact HO_7.out))) (Kd.R_lt (by (with_reducible repeat (first | apply Kd.R_alloc | apply Kd.R_drewN | apply Kd.R_drew)); exact HO_44.out))) (below_size bB)); have n4_ := Aside0.mk (below_step bB hb); clear HO_6; clear HO_7; clear HO_44; clear HB; have HO_6 := n0_; have HO_7 := n1_; have HO_44 := n2_; have HO289 := n3_; have HB := n4_; clear n0_ n1_ n2_ n3_ n4_; (try clear hb); (try clear hb2); (try clear hk); (try clear hi); (try clear ho0); obtain ⟨Ao27, co27, eo27⟩ := Kd.R_slice HO289.out; subst eo27)); try go_wp2_with (first | (go_at_call 65; (with_reducible refine (impl_listOf.calls k3 x8_2 t287 _ A25.out).mono ?_); rintro e w26 ⟨v288, rfl, ho0, hb⟩; have n0_ := Aside0.mk (Kd.S_below (by (with_reducible repeat (first | apply Kd.S_alloc | apply Kd.S_drewN | apply Kd.S_drew)); exact HO_6.out) hb); have n1_ := Aside0.mk (Kd.R_elder' (by (with_reducible repeat (first | apply Kd.R_alloc | apply Kd.R_drewN | apply Kd.R_drew)); exact HO_7.out) (Kd.R_base ho0) hb); have n2_ := Aside0.mk (Kd.R_elder' (by (with_reducible repeat (first | apply Kd.R_alloc | apply Kd.R_drewN | apply Kd.R_drew)); exact HO_44.out) (Kd.R_base ho0) hb); have n3_ := Aside0.mk (Kd.R_lower (Kd.R_new' (Kd.R_new' ho0 (Kd.R_lt (by (with_reducible repeat (first | apply Kd.R_alloc | apply Kd.R_drewN | apply Kd.R_drew)); exact HO_7.out))) (Kd.R_lt (by (with_reducible repeat (first | apply Kd.R_alloc | apply Kd.R_drewN | apply Kd.R_drew)); exact HO_44.out))) (below_size bB)); have n4_ := Aside0.mk (below_step bB hb); clear HO_6; clear HO_7; clear HO_44; clear HB; have HO_6 := n0_; have HO_7 := n1_; have HO_44 := n2_; have HO289 := n3_; have HB := n4_; clear n0_ n1_ n2_ n3_ n4_; (try clear hb); (try clear hb2); (try clear hk); (try clear hi); (try clear ho0); obtain ⟨Ao27, co27, eo27⟩ := Kd.R_slice HO289.out; subst eo27)))
              go_loopg [13, 53] k3 (fun kq v13 v53 w' => ∃ (x13_4 : Bool) (x53_4 : Int), v13 = .bool x13_4 ∧ v53 = .int .i64 x53_4 ∧ Aside0 (impl_LastCostOrder.l2 kq l0 t276 x7_2 x8_2 x9_2 x10_3 (rd t282 x46_3) x13_4 t282 (t282.length : Int) x46_3 t287 (t287.length : Int) x53_4 = some (r1, r2)) ∧ Aside0 (kq ≤ k3) ∧ Aside0 (Kd.S (Kd.slice 4 Kd.bool) 80 w' w.heap.size (fun _ => True) v277 t276) ∧ Aside0 (Kd.R (Kd.int .i64) 3 w' w.heap.size (fun k_ => some k_ ≠ ((.slice (some ad286) t282.length co21) : Value).ownBlock ∧ some k_ ≠ ((.slice Ao27 t287.length co27) : Value).ownBlock) v280 x7_2) ∧ Aside0 (Kd.R (Kd.int .i64) 3 w' w.heap.size (fun k_ => some k_ ≠ (v280 : Value).ownBlock ∧ some k_ ≠ ((.slice Ao27 t287.length co27) : Value).ownBlock) (.slice (some ad286) t282.length co21) t282) ∧ Aside0 (Kd.R (Kd.int .i64) 3 w' w.heap.size (fun k_ => some k_ ≠ (v280 : Value).ownBlock ∧ some k_ ≠ ((.slice (some ad286) t282.length co21) : Value).ownBlock) (.slice Ao27 t287.length co27) t287) ∧ Aside0 (Below w.heap.size w w'))
              case atStart => exact ⟨(true), (0), (by first | rfl | (simp; done) | (simp [*]; done)), (by first | rfl | (simp; done) | (simp [*]; done)), H', ⟨Nat.le_refl _⟩, ⟨by (with_reducible repeat (first | apply Kd.S_alloc | apply Kd.S_drewN | apply Kd.S_drew)); exact HO_6.out⟩, ⟨by (with_reducible repeat (first | apply Kd.R_alloc | apply Kd.R_drewN | apply Kd.R_drew)); exact HO_7.out⟩, ⟨by (with_reducible repeat (first | apply Kd.R_alloc | apply Kd.R_drewN | apply Kd.R_drew)); exact HO_44.out⟩, ⟨by (with_reducible repeat (first | apply Kd.R_alloc | apply Kd.R_drewN | apply Kd.R_drew)); exact Kd.R_mono HO289.out (fun _ hk => ⟨hk.1.2, hk.2⟩)⟩, ⟨by repeat (first | (with_reducible first | exact HB.out | apply below_alloc | apply pw_below_drewN | apply below_drew1) | exact HB.out)⟩⟩
              case round =>
               clear H'
               try clear c1
               try clear c2
               try clear p2
               try clear q2
               try clear hx2
               try clear c5
               try clear p6
               try clear c10
               try clear c12
               try clear c12b0
               try clear c12b1
               try clear c13
               try clear c13b0
               try clear c13b1
               try clear c18
               try clear c18b0
               try clear c22
               try clear c22b0
               try clear c23
               try clear c23b0
               try clear c24
               try clear c24b0
               try clear hx286_0
               try clear p2
               try clear p286
               try clear p6
               try clear q286
               obtain ⟨x13_4, x53_4, rfl, rfl, HA, HK4, HO_6, HO_7, HO_44, HO_51, HB⟩ := hrel
               cases gk with
               | zero => exact absurd HA.out (by simp [impl_LastCostOrder.l2])
               | succ k4 =>
                have H := HA.out
                clear HA
                simp only [impl_LastCostOrder.l2] at H
                by_cases c28 : x53_4 < (t287.length : Int)
                ·rw [if_pos c28] at H
                 have c28b0 : decide (x53_4 < (t287.length : Int)) = true := decide_eq_true c28
                 clear c28
                 by_cases c29 : 0 ≤ x53_4
                 ·rw [if_pos c29] at H
                  have c29b0 : decide (0 ≤ x53_4) = true := decide_eq_true c29
                  clear c29
                  by_cases c30 : x53_4 < (t287.length : Int)
                  ·rw [if_pos c30] at H
                   have c30b0 : decide (x53_4 < (t287.length : Int)) = true := decide_eq_true c30
                   clear c30
                   by_cases c31 : x13_4 = true
                   ·subst c31
                    have H1 : (if 0 ≤ (rd t282 x46_3) then (if (rd t282 x46_3) < (t276.length : Int) then (if 0 ≤ (rd t287 x53_4) then (if (rd t287 x53_4) < ((rd_L5 t276 (rd t282 x46_3)).length : Int) then (impl_LastCostOrder.l2 k4 l0 t276 x7_2 x8_2 x9_2 x10_3 (rd t282 x46_3) (!(rdOf false (rd_L5 t276 (rd t282 x46_3)) (rd t287 x53_4))) t282 (t282.length : Int) x46_3 t287 (t287.length : Int) (wrap64 (x53_4 + 1))) else (none)) else (none)) else (none)) else (none)) = some (r1, r2) := by rw [if_pos rfl] at H; exact H
                    clear H
                    have H := H1
                    clear H1
                    by_cases c32 : 0 ≤ (rd t282 x46_3)
                    ·rw [if_pos c32] at H
                     have c32b0 : decide (0 ≤ (rd t282 x46_3)) = true := decide_eq_true c32
                     clear c32
                     by_cases c33 : (rd t282 x46_3) < (t276.length : Int)
                     ·rw [if_pos c33] at H
                      have c33b0 : decide ((rd t282 x46_3) < (t276.length : Int)) = true := decide_eq_true c33
                      clear c33
                      by_cases c34 : 0 ≤ (rd t287 x53_4)
                      ·rw [if_pos c34] at H
                       have c34b0 : decide (0 ≤ (rd t287 x53_4)) = true := decide_eq_true c34
                       clear c34
                       by_cases c35 : (rd t287 x53_4) < ((rd_L5 t276 (rd t282 x46_3)).length : Int)
                       ·rw [if_pos c35] at H
                        have c35b0 : decide ((rd t287 x53_4) < ((rd_L5 t276 (rd t282 x46_3)).length : Int)) = true := decide_eq_true c35
                        clear c35
                        have H' := Aside0.mk H
                        clear H
                        have p290 : 0 ≤ (x53_4 : Int) := oD
                        have q290 : x53_4 < (t287.length : Int) := oD
                        obtain ⟨ad290, e290, hx290_0⟩ := Kd.at_int (Kd.R_reads' HO_51.out).2.2 x53_4 p290 q290
                        cases e290
                        replace p290 := eq_true p290
                        replace q290 := eq_true q290
                        obtain ⟨Ao36, co36, eo36⟩ := Kd.S_slice HO_6.out
                        subst eo36
                        have p291 : 0 ≤ ((rd t282 x46_3) : Int) := oD
                        have q291 : (rd t282 x46_3) < (t276.length : Int) := oD
                        obtain ⟨ad291, A291_0, c291_0, e291, hx291_0, hl291_0, hi291_0⟩ := at_L5 (Kd.S_reads' HO_6.out).2.2 (rd t282 x46_3) p291 q291
                        cases e291
                        obtain ⟨ce291, hce291, hMe291, hcc291⟩ := Kd.S_get HO_6.out [] (rd t282 x46_3) p291 (by first | exact q291 | exact oD | (have e_ := (Kd.S_reads' HO_6.out).1; omega))
                        obtain ⟨ve291_0, rfl, ge291_0⟩ := hMe291
                        have hv291_0 := hcc291 0 _ rfl
                        rw [Nat.add_zero, show ((Kd.slice 4 Kd.bool)).sz = 1 from rfl, Nat.mul_one] at hv291_0
                        replace hv291_0 := Option.some.inj (hv291_0.symm.trans hx291_0)
                        rw [hv291_0] at ge291_0
                        have HL291_0 := Aside0.mk (show Kd.R Kd.bool 4 _ _ _ _ (rd_L5 t276 (rd t282 x46_3)) from ge291_0)
                        clear hv291_0 ge291_0
                        clear hcc291 hce291
                        have HR291_0 := Aside0.mk hi291_0
                        have HC291_0 := Aside0.mk hl291_0
                        clear hi291_0 hl291_0
                        replace p291 := eq_true p291
                        replace q291 := eq_true q291
                        have p292 : 0 ≤ ((rd t287 x53_4) : Int) := oD
                        have q292 : (rd t287 x53_4) < ((rd_L5 t276 (rd t282 x46_3)).length : Int) := oD
                        obtain ⟨ad292, e292, hx292_0⟩ := Kd.at_bool (by repeat (first | (with_reducible exact HR291_0.out) | (with_reducible refine Kd.C_alloc ?_ _) | (with_reducible refine Kd.C_drewN ?_ _) | (with_reducible refine Kd.C_drew ?_) | exact HR291_0.out)) (rd t287 x53_4) p292 q292
                        cases e292
                        replace p292 := eq_true p292
                        replace q292 := eq_true q292
                        go_wp2
                        repeat (go_quiet (fail); try go_wp2)
                        go_roundg k4
                        case measure => have := HJ2.out; have := HK2.out; have := HK3.out; have := HK4.out; omega
                        case rel => exact ⟨(!(rdOf false (rd_L5 t276 (rd t282 x46_3)) (rd t287 x53_4))), (wrap64 (x53_4 + 1)), (by first | rfl | (simp; done) | (simp [*]; done)), (by first | rfl | (simp; done) | (simp [*]; done)), H', ⟨by have := HJ2.out; have := HK2.out; have := HK3.out; have := HK4.out; omega⟩, ⟨by (with_reducible repeat (first | apply Kd.S_alloc | apply Kd.S_drewN | apply Kd.S_drew)); exact HO_6.out⟩, ⟨by (with_reducible repeat (first | apply Kd.R_alloc | apply Kd.R_drewN | apply Kd.R_drew)); exact HO_7.out⟩, ⟨by (with_reducible repeat (first | apply Kd.R_alloc | apply Kd.R_drewN | apply Kd.R_drew)); exact HO_44.out⟩, ⟨by (with_reducible repeat (first | apply Kd.R_alloc | apply Kd.R_drewN | apply Kd.R_drew)); exact HO_51.out⟩, ⟨by repeat (first | (with_reducible first | exact HB.out | apply below_alloc | apply pw_below_drewN | apply below_drew1) | exact HB.out)⟩⟩
                       ·rw [if_neg c35] at H
                        exact absurd H (by simp)
                      ·rw [if_neg c34] at H
                       exact absurd H (by simp)
                     ·rw [if_neg c33] at H
                      exact absurd H (by simp)
                    ·rw [if_neg c32] at H
                     exact absurd H (by simp)
                   ·replace c31 := Bool.eq_false_iff.mpr c31
                    subst c31
                    have H1 : (impl_LastCostOrder.l2 k4 l0 t276 x7_2 x8_2 x9_2 x10_3 (rd t282 x46_3) false t282 (t282.length : Int) x46_3 t287 (t287.length : Int) (wrap64 (x53_4 + 1))) = some (r1, r2) := by rw [if_neg (show ¬ (false = true) by decide)] at H; exact H
                    clear H
                    have H := H1
                    clear H1
                    have H' := Aside0.mk H
                    clear H
                    have p290 : 0 ≤ (x53_4 : Int) := oD
                    have q290 : x53_4 < (t287.length : Int) := oD
                    obtain ⟨ad290, e290, hx290_0⟩ := Kd.at_int (Kd.R_reads' HO_51.out).2.2 x53_4 p290 q290
                    cases e290
                    replace p290 := eq_true p290
                    replace q290 := eq_true q290
                    go_wp2
                    repeat (go_quiet (fail); try go_wp2)
                    go_roundg k4
                    case measure => have := HJ2.out; have := HK2.out; have := HK3.out; have := HK4.out; omega
                    case rel => exact ⟨(false), (wrap64 (x53_4 + 1)), (by first | rfl | (simp; done) | (simp [*]; done)), (by first | rfl | (simp; done) | (simp [*]; done)), H', ⟨by have := HJ2.out; have := HK2.out; have := HK3.out; have := HK4.out; omega⟩, ⟨by (with_reducible repeat (first | apply Kd.S_alloc | apply Kd.S_drewN | apply Kd.S_drew)); exact HO_6.out⟩, ⟨by (with_reducible repeat (first | apply Kd.R_alloc | apply Kd.R_drewN | apply Kd.R_drew)); exact HO_7.out⟩, ⟨by (with_reducible repeat (first | apply Kd.R_alloc | apply Kd.R_drewN | apply Kd.R_drew)); exact HO_44.out⟩, ⟨by (with_reducible repeat (first | apply Kd.R_alloc | apply Kd.R_drewN | apply Kd.R_drew)); exact HO_51.out⟩, ⟨by repeat (first | (with_reducible first | exact HB.out | apply below_alloc | apply pw_below_drewN | apply below_drew1) | exact HB.out)⟩⟩
                  ·rw [if_neg c30] at H
                   exact absurd H (by simp)
                 ·rw [if_neg c29] at H
                  exact absurd H (by simp)
                ·rw [if_neg c28] at H
                 have c28b0 : decide (x53_4 < (t287.length : Int)) = false := decide_eq_false c28
                 clear c28
                 by_cases c37 : x13_4 = true
                 ·subst c37
                  have H1 : (if x10_3 < 0 then (impl_LastCostOrder.l1 k4 l0 t276 x7_2 x8_2 x9_2 (rd t282 x46_3) t282 (t282.length : Int) (wrap64 (x46_3 + 1))) else (if 0 ≤ (rd t282 x46_3) then (if (rd t282 x46_3) < (l0.length : Int) then (if 0 ≤ x10_3 then (if x10_3 < (l0.length : Int) then (if ((rd_T79 l0 (rd t282 x46_3)).f3) ≥ ((rd_T79 l0 x10_3).f3) then (impl_LastCostOrder.l1 k4 l0 t276 x7_2 x8_2 x9_2 (rd t282 x46_3) t282 (t282.length : Int) (wrap64 (x46_3 + 1))) else (impl_LastCostOrder.l1 k4 l0 t276 x7_2 x8_2 x9_2 x10_3 t282 (t282.length : Int) (wrap64 (x46_3 + 1)))) else (none)) else (none)) else (none)) else (none))) = some (r1, r2) := by rw [if_pos rfl] at H; exact H
                  clear H
                  have H := H1
                  clear H1
                  by_cases c38 : x10_3 < 0
                  ·rw [if_pos c38] at H
                   have c38b0 : decide (x10_3 < 0) = true := decide_eq_true c38
                   clear c38
                   have H' := Aside0.mk H
                   clear H
                   go_wp2
                   repeat (go_quiet (fail); try go_wp2)
                   go_roundg k4
                   case measure => have := HJ2.out; have := HK2.out; have := HK3.out; have := HK4.out; omega
                   case rel => exact ⟨((rd t282 x46_3)), (wrap64 (x46_3 + 1)), (by first | rfl | (simp; done) | (simp [*]; done)), (by first | rfl | (simp; done) | (simp [*]; done)), H', ⟨by have := HJ2.out; have := HK2.out; have := HK3.out; have := HK4.out; omega⟩, ⟨by (with_reducible repeat (first | apply Kd.S_alloc | apply Kd.S_drewN | apply Kd.S_drew)); exact HO_6.out⟩, ⟨by (with_reducible repeat (first | apply Kd.R_alloc | apply Kd.R_drewN | apply Kd.R_drew)); exact Kd.R_mono HO_7.out (fun _ hk => hk.1)⟩, ⟨by (with_reducible repeat (first | apply Kd.R_alloc | apply Kd.R_drewN | apply Kd.R_drew)); exact Kd.R_mono HO_44.out (fun _ hk => hk.1)⟩, ⟨by repeat (first | (with_reducible first | exact HB.out | apply below_alloc | apply pw_below_drewN | apply below_drew1) | exact HB.out)⟩⟩
                  ·rw [if_neg c38] at H
                   have c38b0 : decide (x10_3 < 0) = false := decide_eq_false c38
                   clear c38
                   by_cases c39 : 0 ≤ (rd t282 x46_3)
                   ·rw [if_pos c39] at H
                    have c39b0 : decide (0 ≤ (rd t282 x46_3)) = true := decide_eq_true c39
                    clear c39
                    by_cases c40 : (rd t282 x46_3) < (l0.length : Int)
                    ·rw [if_pos c40] at H
                     have c40b0 : decide ((rd t282 x46_3) < (l0.length : Int)) = true := decide_eq_true c40
                     clear c40
                     by_cases c41 : 0 ≤ x10_3
                     ·rw [if_pos c41] at H
                      have c41b0 : decide (0 ≤ x10_3) = true := decide_eq_true c41
                      clear c41
                      by_cases c42 : x10_3 < (l0.length : Int)
                      ·rw [if_pos c42] at H
                       have c42b0 : decide (x10_3 < (l0.length : Int)) = true := decide_eq_true c42
                       clear c42
                       by_cases c43 : ((rd_T79 l0 (rd t282 x46_3)).f3) ≥ ((rd_T79 l0 x10_3).f3)
                       ·rw [if_pos c43] at H
                        have c43b0 : decide (((rd_T79 l0 x10_3).f3) ≤ ((rd_T79 l0 (rd t282 x46_3)).f3)) = true := decide_eq_true c43
                        clear c43
                        have H' := Aside0.mk H
                        clear H
                        have p293 : 0 ≤ ((rd t282 x46_3) : Int) := oD
                        have q293 : (rd t282 x46_3) < (l0.length : Int) := oD
                        obtain ⟨ad293, e293, hx293_0, hx293_1, hx293_2, hx293_3⟩ := at_T79 HR0.out (rd t282 x46_3) p293 q293
                        cases e293
                        replace hx293_0 := (cB HB.out hx293_0 :)
                        replace hx293_1 := (cB HB.out hx293_1 :)
                        replace hx293_2 := (cB HB.out hx293_2 :)
                        replace hx293_3 := (cB HB.out hx293_3 :)
                        replace p293 := eq_true p293
                        replace q293 := eq_true q293
                        have p294 : 0 ≤ (x10_3 : Int) := oD
                        have q294 : x10_3 < (l0.length : Int) := oD
                        obtain ⟨ad294, e294, hx294_0, hx294_1, hx294_2, hx294_3⟩ := at_T79 HR0.out x10_3 p294 q294
                        obtain rfl : ad293 = ad294 := (by injection e294)
                        replace hx294_0 := (cB HB.out hx294_0 :)
                        replace hx294_1 := (cB HB.out hx294_1 :)
                        replace hx294_2 := (cB HB.out hx294_2 :)
                        replace hx294_3 := (cB HB.out hx294_3 :)
                        replace p294 := eq_true p294
                        replace q294 := eq_true q294
                        go_wp2
                        repeat (go_quiet (fail); try go_wp2)
                        go_roundg k4
                        case measure => have := HJ2.out; have := HK2.out; have := HK3.out; have := HK4.out; omega
                        case rel => exact ⟨((rd t282 x46_3)), (wrap64 (x46_3 + 1)), (by first | rfl | (simp; done) | (simp [*]; done)), (by first | rfl | (simp; done) | (simp [*]; done)), H', ⟨by have := HJ2.out; have := HK2.out; have := HK3.out; have := HK4.out; omega⟩, ⟨by (with_reducible repeat (first | apply Kd.S_alloc | apply Kd.S_drewN | apply Kd.S_drew)); exact HO_6.out⟩, ⟨by (with_reducible repeat (first | apply Kd.R_alloc | apply Kd.R_drewN | apply Kd.R_drew)); exact Kd.R_mono HO_7.out (fun _ hk => hk.1)⟩, ⟨by (with_reducible repeat (first | apply Kd.R_alloc | apply Kd.R_drewN | apply Kd.R_drew)); exact Kd.R_mono HO_44.out (fun _ hk => hk.1)⟩, ⟨by repeat (first | (with_reducible first | exact HB.out | apply below_alloc | apply pw_below_drewN | apply below_drew1) | exact HB.out)⟩⟩
                       ·rw [if_neg c43] at H
                        have c43b0 : decide (((rd_T79 l0 x10_3).f3) ≤ ((rd_T79 l0 (rd t282 x46_3)).f3)) = false := decide_eq_false c43
                        clear c43
                        have H' := Aside0.mk H
                        clear H
                        have p293 : 0 ≤ ((rd t282 x46_3) : Int) := oD
                        have q293 : (rd t282 x46_3) < (l0.length : Int) := oD
                        obtain ⟨ad293, e293, hx293_0, hx293_1, hx293_2, hx293_3⟩ := at_T79 HR0.out (rd t282 x46_3) p293 q293
                        cases e293
                        replace hx293_0 := (cB HB.out hx293_0 :)
                        replace hx293_1 := (cB HB.out hx293_1 :)
                        replace hx293_2 := (cB HB.out hx293_2 :)
                        replace hx293_3 := (cB HB.out hx293_3 :)
                        replace p293 := eq_true p293
                        replace q293 := eq_true q293
                        have p294 : 0 ≤ (x10_3 : Int) := oD
                        have q294 : x10_3 < (l0.length : Int) := oD
                        obtain ⟨ad294, e294, hx294_0, hx294_1, hx294_2, hx294_3⟩ := at_T79 HR0.out x10_3 p294 q294
                        obtain rfl : ad293 = ad294 := (by injection e294)
                        replace hx294_0 := (cB HB.out hx294_0 :)
                        replace hx294_1 := (cB HB.out hx294_1 :)
                        replace hx294_2 := (cB HB.out hx294_2 :)
                        replace hx294_3 := (cB HB.out hx294_3 :)
                        replace p294 := eq_true p294
                        replace q294 := eq_true q294
                        go_wp2
                        repeat (go_quiet (fail); try go_wp2)
                        go_roundg k4
                        case measure => have := HJ2.out; have := HK2.out; have := HK3.out; have := HK4.out; omega
                        case rel => exact ⟨(x10_3), (wrap64 (x46_3 + 1)), (by first | rfl | (simp; done) | (simp [*]; done)), (by first | rfl | (simp; done) | (simp [*]; done)), H', ⟨by have := HJ2.out; have := HK2.out; have := HK3.out; have := HK4.out; omega⟩, ⟨by (with_reducible repeat (first | apply Kd.S_alloc | apply Kd.S_drewN | apply Kd.S_drew)); exact HO_6.out⟩, ⟨by (with_reducible repeat (first | apply Kd.R_alloc | apply Kd.R_drewN | apply Kd.R_drew)); exact Kd.R_mono HO_7.out (fun _ hk => hk.1)⟩, ⟨by (with_reducible repeat (first | apply Kd.R_alloc | apply Kd.R_drewN | apply Kd.R_drew)); exact Kd.R_mono HO_44.out (fun _ hk => hk.1)⟩, ⟨by repeat (first | (with_reducible first | exact HB.out | apply below_alloc | apply pw_below_drewN | apply below_drew1) | exact HB.out)⟩⟩
                      ·rw [if_neg c42] at H
                       exact absurd H (by simp)
                     ·rw [if_neg c41] at H
                      exact absurd H (by simp)
                    ·rw [if_neg c40] at H
                     exact absurd H (by simp)
                   ·rw [if_neg c39] at H
                    exact absurd H (by simp)
                 ·replace c37 := Bool.eq_false_iff.mpr c37
                  subst c37
                  have H1 : (impl_LastCostOrder.l1 k4 l0 t276 x7_2 x8_2 x9_2 x10_3 t282 (t282.length : Int) (wrap64 (x46_3 + 1))) = some (r1, r2) := by rw [if_neg (show ¬ (false = true) by decide)] at H; exact H
                  clear H
                  have H := H1
                  clear H1
                  have H' := Aside0.mk H
                  clear H
                  go_wp2
                  repeat (go_quiet (fail); try go_wp2)
                  go_roundg k4
                  case measure => have := HJ2.out; have := HK2.out; have := HK3.out; have := HK4.out; omega
                  case rel => exact ⟨(x10_3), (wrap64 (x46_3 + 1)), (by first | rfl | (simp; done) | (simp [*]; done)), (by first | rfl | (simp; done) | (simp [*]; done)), H', ⟨by have := HJ2.out; have := HK2.out; have := HK3.out; have := HK4.out; omega⟩, ⟨by (with_reducible repeat (first | apply Kd.S_alloc | apply Kd.S_drewN | apply Kd.S_drew)); exact HO_6.out⟩, ⟨by (with_reducible repeat (first | apply Kd.R_alloc | apply Kd.R_drewN | apply Kd.R_drew)); exact Kd.R_mono HO_7.out (fun _ hk => hk.1)⟩, ⟨by (with_reducible repeat (first | apply Kd.R_alloc | apply Kd.R_drewN | apply Kd.R_drew)); exact Kd.R_mono HO_44.out (fun _ hk => hk.1)⟩, ⟨by repeat (first | (with_reducible first | exact HB.out | apply below_alloc | apply pw_below_drewN | apply below_drew1) | exact HB.out)⟩⟩
             ·rw [if_neg c24] at H
              exact absurd H (by simp)
            ·rw [if_neg c23] at H
             exact absurd H (by simp)
           ·rw [if_neg c22] at H
            have c22b0 : decide (x46_3 < (t282.length : Int)) = false := decide_eq_false c22
            clear c22
            by_cases c44 : 0 ≤ x9_2
            ·rw [if_pos c44] at H
             have c44b0 : decide (0 ≤ x9_2) = true := decide_eq_true c44
             clear c44
             by_cases c45 : x9_2 < (x7_2.length : Int)
             ·rw [if_pos c45] at H
              have c45b0 : decide (x9_2 < (x7_2.length : Int)) = true := decide_eq_true c45
              clear c45
              obtain ⟨y285, hy285⟩ : ∃ y_ : List Int, y_ = (x7_2.set (x9_2 : Int).toNat x10_3) := ⟨_, rfl⟩
              replace H : (if 0 ≤ x10_3 then (impl_LastCostOrder.l0 k3 l0 t276 y285 (Go.bits .andNot .i64 x8_2 (shl .i64 1 x10_3)) (wrap64 (x9_2 - 1))) else (none)) = some (r1, r2) := by first | (rw [hy285]; with_reducible exact H) | (have H2_ := (Option.bind_some _ _).symm.trans H; rw [hy285]; with_reducible exact H2_) | (have H2_ := (Option.bind_some _ _).symm.trans H; with_reducible exact H2_) | with_reducible exact H | (rw [hy285]; exact H) | exact H
              have Ny285 := Aside0.mk hy285
              clear hy285
              by_cases c47 : 0 ≤ x10_3
              ·rw [if_pos c47] at H
               have c47b0 := eq_true c47
               have c47b1 : decide (0 ≤ x10_3) = true := decide_eq_true c47
               clear c47
               obtain ⟨ji48, hji48⟩ : ∃ j_ : Int, (shl .i64 1 x10_3) = j_ := ⟨_, rfl⟩
               replace H : (impl_LastCostOrder.l0 k3 l0 t276 y285 (Go.bits .andNot .i64 x8_2 (ji48)) (wrap64 (x9_2 - 1))) = some (r1, r2) := by first | (rw [hji48] at H; exact H) | (simp only [hji48] at H ⊢; exact H)
               have hji48_ : (IntKind.i64.wrap (1 * 2 ^ min x10_3.toNat 64)) = ji48 := hji48
               have hji48z : x10_3 ≤ 64 → (IntKind.i64.wrap (1 * 2 ^ x10_3.toNat)) = ji48 := shl_small hji48
               have hji48u : (IntKind.i64.wrap (2 ^ min x10_3.toNat 64)) = ji48 := by have h_ := hji48_; rw [Int.one_mul] at h_; exact h_
               have hji48v : x10_3 ≤ 64 → (IntKind.i64.wrap (2 ^ x10_3.toNat)) = ji48 := fun hle_ => by have h_ := hji48z hle_; rw [Int.one_mul] at h_; exact h_
               have hji48y : (wrap64 (1 * 2 ^ min x10_3.toNat 64)) = ji48 := (i64_w _).symm.trans hji48_
               have hji48x : x10_3 ≤ 64 → (wrap64 (1 * 2 ^ x10_3.toNat)) = ji48 := fun h_ => (i64_w _).symm.trans (hji48z h_)
               have H' := Aside0.mk H
               clear H
               have p46 : 0 ≤ (x9_2 : Int) := oD
               have q46 : (x9_2 : Int) < ((x7_2.length : Int) : Int) := oD
               obtain ⟨go46, co46, eo46, gb46, gl46, cl46, HG46⟩ := Kd.R_form HO_7.out (by omega)
               (first | cases eo46 | (injection eo46 with ea_ en_ ec_; (first | subst ea_ | (injection ea_ with ea_; subst ea_)); subst ec_; clear en_))
               have GB46 := Aside0.mk gb46
               have GG46 := Aside0.mk HG46
               clear gb46 gl46 HG46
               obtain ⟨hx46_0, hf46_0⟩ := Kd.R_celln 0 HO_7.out (x9_2 : Int) p46 q46
               replace p46 := eq_true p46
               replace q46 := eq_true q46
               have HP49 := Kd.R_putg HO_7.out (x9_2 : Int) x10_3
               go_wp2_with (first | ((with_reducible refine gate_store (t := 3) (p := 92) rfl ?_); (try (rw [drewN_self wr]; generalize hq_ : World.drewN wr _ = wr; have n0_ := Aside0.mk (Kd.S_at hq_ HO_6.out); have n1_ := Aside0.mk (Kd.R_at hq_ HO_7.out); have n2_ := Aside0.mk (Kd.R_at hq_ HO_44.out); have n3_ := Aside0.mk (below_at hq_ HB.out); clear hq_ HO_6 HO_7 HO_44 HB; have HO_6 := n0_; have HO_7 := n1_; have HO_44 := n2_; have HB := n3_; clear n0_ n1_ n2_ n3_; (try (have HP49 := Kd.R_putg HO_7.out (x9_2 : Int) x10_3)))); refine store_event (t := 3) (p := 92) (v := ?vo_w50) (w1 := (wr.setCell ⟨go46, (x9_2 : Int).toNat, none⟩ (.int .i64 x10_3))) ?hg ?ho ?hn ?hr ?_; (case ho => rfl); (case hg => rfl); (case hn => rfl); (case hr => first | (go_simp; done) | (go_simp; rfl)); intro w50 hw; have hg : wr.grownBy w50 (some go46) := (by rw [hw]; exact HP49.2); have hp_ : Kd.R (Kd.int .i64) 3 w50 w.heap.size (fun k_ => some k_ ≠ (.slice Ao21 t282.length co21 : Value).ownBlock) (.slice (some ⟨go46, 0, none⟩) x7_2.length co46) y285 := (by rw [hw, Ny285.out]; exact HP49.1); clear HP49; have n0_ := Aside0.mk (Kd.S_over' (v := (.slice (some ⟨go46, 0, none⟩) x7_2.length co46)) (by (with_reducible repeat (first | apply Kd.S_alloc | apply Kd.S_drewN | apply Kd.S_drew)); exact HO_6.out) (Kd.R_typed HO_7.out) (by decide) hg); have n1_ := Aside0.mk (hp_); have n2_ := Aside0.mk (Kd.R_after (v := (.slice (some ⟨go46, 0, none⟩) x7_2.length co46)) (v1 := (.slice (some ⟨go46, 0, none⟩) x7_2.length co46)) (ok := (fun _ => True)) (by (with_reducible repeat (first | apply Kd.R_alloc | apply Kd.R_drewN | apply Kd.R_drew)); exact Kd.R_mono HO_44.out (fun _ hk => ⟨trivial, hk⟩)) hg (.inl rfl)); have n3_ := Aside0.mk ((by rw [hw]; exact below_set (HB.out) GB46.out : Below w.heap.size w w50)); clear HO_6; clear HO_7; clear HO_44; clear HB; have HO_6 := n0_; have HO_7 := n1_; have HO_44 := n2_; have HB := n3_; clear n0_ n1_ n2_ n3_; clear hg hw hp_))
               repeat (go_quiet (first | ((with_reducible refine gate_store (t := 3) (p := 92) rfl ?_); (try (rw [drewN_self wr]; generalize hq_ : World.drewN wr _ = wr; have n0_ := Aside0.mk (Kd.S_at hq_ HO_6.out); have n1_ := Aside0.mk (Kd.R_at hq_ HO_7.out); have n2_ := Aside0.mk (Kd.R_at hq_ HO_44.out); have n3_ := Aside0.mk (below_at hq_ HB.out); clear hq_ HO_6 HO_7 HO_44 HB; have HO_6 := n0_; have HO_7 := n1_; have HO_44 := n2_; have HB := n3_; clear n0_ n1_ n2_ n3_; (try (have HP49 := Kd.R_putg HO_7.out (x9_2 : Int) x10_3)))); refine store_event (t := 3) (p := 92) (v := ?vo_w50) (w1 := (wr.setCell ⟨go46, (x9_2 : Int).toNat, none⟩ (.int .i64 x10_3))) ?hg ?ho ?hn ?hr ?_; (case ho => rfl); (case hg => rfl); (case hn => rfl); (case hr => first | (go_simp; done) | (go_simp; rfl)); intro w50 hw; have hg : wr.grownBy w50 (some go46) := (by rw [hw]; exact HP49.2); have hp_ : Kd.R (Kd.int .i64) 3 w50 w.heap.size (fun k_ => some k_ ≠ (.slice Ao21 t282.length co21 : Value).ownBlock) (.slice (some ⟨go46, 0, none⟩) x7_2.length co46) y285 := (by rw [hw, Ny285.out]; exact HP49.1); clear HP49; have n0_ := Aside0.mk (Kd.S_over' (v := (.slice (some ⟨go46, 0, none⟩) x7_2.length co46)) (by (with_reducible repeat (first | apply Kd.S_alloc | apply Kd.S_drewN | apply Kd.S_drew)); exact HO_6.out) (Kd.R_typed HO_7.out) (by decide) hg); have n1_ := Aside0.mk (hp_); have n2_ := Aside0.mk (Kd.R_after (v := (.slice (some ⟨go46, 0, none⟩) x7_2.length co46)) (v1 := (.slice (some ⟨go46, 0, none⟩) x7_2.length co46)) (ok := (fun _ => True)) (by (with_reducible repeat (first | apply Kd.R_alloc | apply Kd.R_drewN | apply Kd.R_drew)); exact Kd.R_mono HO_44.out (fun _ hk => ⟨trivial, hk⟩)) hg (.inl rfl)); have n3_ := Aside0.mk ((by rw [hw]; exact below_set (HB.out) GB46.out : Below w.heap.size w w50)); clear HO_6; clear HO_7; clear HO_44; clear HB; have HO_6 := n0_; have HO_7 := n1_; have HO_44 := n2_; have HB := n3_; clear n0_ n1_ n2_ n3_; clear hg hw hp_)); try go_wp2_with (first | ((with_reducible refine gate_store (t := 3) (p := 92) rfl ?_); (try (rw [drewN_self wr]; generalize hq_ : World.drewN wr _ = wr; have n0_ := Aside0.mk (Kd.S_at hq_ HO_6.out); have n1_ := Aside0.mk (Kd.R_at hq_ HO_7.out); have n2_ := Aside0.mk (Kd.R_at hq_ HO_44.out); have n3_ := Aside0.mk (below_at hq_ HB.out); clear hq_ HO_6 HO_7 HO_44 HB; have HO_6 := n0_; have HO_7 := n1_; have HO_44 := n2_; have HB := n3_; clear n0_ n1_ n2_ n3_; (try (have HP49 := Kd.R_putg HO_7.out (x9_2 : Int) x10_3)))); refine store_event (t := 3) (p := 92) (v := ?vo_w50) (w1 := (wr.setCell ⟨go46, (x9_2 : Int).toNat, none⟩ (.int .i64 x10_3))) ?hg ?ho ?hn ?hr ?_; (case ho => rfl); (case hg => rfl); (case hn => rfl); (case hr => first | (go_simp; done) | (go_simp; rfl)); intro w50 hw; have hg : wr.grownBy w50 (some go46) := (by rw [hw]; exact HP49.2); have hp_ : Kd.R (Kd.int .i64) 3 w50 w.heap.size (fun k_ => some k_ ≠ (.slice Ao21 t282.length co21 : Value).ownBlock) (.slice (some ⟨go46, 0, none⟩) x7_2.length co46) y285 := (by rw [hw, Ny285.out]; exact HP49.1); clear HP49; have n0_ := Aside0.mk (Kd.S_over' (v := (.slice (some ⟨go46, 0, none⟩) x7_2.length co46)) (by (with_reducible repeat (first | apply Kd.S_alloc | apply Kd.S_drewN | apply Kd.S_drew)); exact HO_6.out) (Kd.R_typed HO_7.out) (by decide) hg); have n1_ := Aside0.mk (hp_); have n2_ := Aside0.mk (Kd.R_after (v := (.slice (some ⟨go46, 0, none⟩) x7_2.length co46)) (v1 := (.slice (some ⟨go46, 0, none⟩) x7_2.length co46)) (ok := (fun _ => True)) (by (with_reducible repeat (first | apply Kd.R_alloc | apply Kd.R_drewN | apply Kd.R_drew)); exact Kd.R_mono HO_44.out (fun _ hk => ⟨trivial, hk⟩)) hg (.inl rfl)); have n3_ := Aside0.mk ((by rw [hw]; exact below_set (HB.out) GB46.out : Below w.heap.size w w50)); clear HO_6; clear HO_7; clear HO_44; clear HB; have HO_6 := n0_; have HO_7 := n1_; have HO_44 := n2_; have HB := n3_; clear n0_ n1_ n2_ n3_; clear hg hw hp_)))
               go_roundg k3
               case measure => have := HJ2.out; have := HK2.out; have := HK3.out; omega
               case rel => exact ⟨(y285), (Go.bits .andNot .i64 x8_2 (ji48)), (wrap64 (x9_2 - 1)), (by first | rfl | (simp; done) | (simp only [← hji48] <;> (first | rfl | simp)) | (simp [*]; done)), (by first | rfl | (simp; done) | (simp [*]; done)), H', ⟨by have := HJ2.out; have := HK2.out; have := HK3.out; omega⟩, ⟨by (with_reducible repeat (first | apply Kd.S_alloc | apply Kd.S_drewN | apply Kd.S_drew)); exact HO_6.out⟩, ⟨by (with_reducible repeat (first | apply Kd.R_alloc | apply Kd.R_drewN | apply Kd.R_drew)); exact Kd.R_mono HO_7.out (fun _ hk => trivial)⟩, ⟨by repeat (first | (with_reducible first | exact HB.out | apply below_alloc | apply pw_below_drewN | apply below_drew1) | exact HB.out)⟩⟩
              ·rw [if_neg c47] at H
               exact absurd H (by simp)
             ·rw [if_neg c45] at H
              exact absurd H (by simp)
            ·rw [if_neg c44] at H
             exact absurd H (by simp)
        ·rw [if_neg c18] at H
         have c18b0 : decide (0 ≤ x9_2) = false := decide_eq_false c18
         clear c18
         simp only [Option.some.injEq, Prod.mk.injEq] at H
         obtain ⟨rfl, rfl⟩ := H
         go_wp2
         repeat (go_quiet (fail); try go_wp2)
         go_ret2
         exact ⟨_, by first | rfl | (simp [errW_none, errW_some] <;> rfl) | (simp only [← hji14]; first | rfl | (simp [errW_none, errW_some] <;> rfl)) | (simp [*, errW_none, errW_some] <;> rfl), by (with_reducible repeat (first | apply Kd.R_alloc | apply Kd.R_drewN | apply Kd.R_drew)); exact HO_7.out, bB⟩
     ·rw [if_neg c13] at H
      exact absurd H (by simp)
    ·rw [if_neg c12] at H
     exact absurd H (by simp)

end Go.Proofs.Ytecdigebnhlfhaa.OFnExactLastCostOrder
