/- Functions of the program as plain Lean functions, with their contracts: written by this session's program ownprint.py. Conditions: none. -/
import Derived.Test.YtecdigebnhlfhaaOFnExactLabelsOfx0
import Derived.Test.YtecdigebnhlfhaaOFnExactLabelsOfx8
import Derived.Test.YtecdigebnhlfhaaOFnExactLabelsOfx10
import Derived.Test.YtecdigebnhlfhaaOFnExactLabelsOfx11
namespace Go.Proofs.Ytecdigebnhlfhaa.OFnExactLabelsOf
open Go.RowKit Go.Proofs.YtecdigebnhlfhaaW.PrintWords Go.Proofs.YtecdigebnhlfhaaW.PrintLast Go.Proofs.YtecdigebnhlfhaaW.PrintMore
attribute [local go_sem] max2_int min2_int max_two min_two max_three min_three max_four min_four   -- for this text's walks alone
set_option linter.unusedVariables false
set_option linter.unusedSimpArgs false

/-! ### impl_labelsOf: function 74 -/
mutual
def impl_labelsOf.l0 : Nat → Int → List (List Int) → List (S71) → Int → Int → Option (List Int)
 | 0, _, _, _, _, _ => none
 | k + 1, x0, x5, x22, x23, x24 => if x24 < x23 then (if 0 ≤ x24 then (if x24 < (x22.length : Int) then (if 0 ≤ ((rd_T71 x22 x24).f0) then (if ((rd_T71 x22 x24).f0) < (x5.length : Int) then (if (rd_L4 x5 ((rd_T71 x22 x24).f0)).length < 17592186044416 then (impl_labelsOf.l0 k x0 (x5.set (((rd_T71 x22 x24).f0) : Int).toNat ((rd_L4 x5 ((rd_T71 x22 x24).f0)) ++ [(rd_T71 x22 x24).f1])) x22 x23 (wrap64 (x24 + 1))) else (none)) else (none)) else (none)) else (none)) else (none)) else (if 0 ≤ x0 then (if (x0 : Int).toNat ≤ 35184372088832 then (impl_labelsOf.l1 k x0 x5 (List.replicate (x0 : Int).toNat 0) 1) else (none)) else (none))
def impl_labelsOf.l1 : Nat → Int → List (List Int) → List Int → Int → Option (List Int)
 | 0, _, _, _, _ => none
 | k + 1, x0, x5, x8, x9 => if x9 ≤ x0 then (impl_labelsOf.l2 k x0 x5 x8 x9 (-1) ([] : List Int) (x8.length : Int) 0) else (some x8)
def impl_labelsOf.l2 : Nat → Int → List (List Int) → List Int → Int → Int → List Int → Int → Int → Option (List Int)
 | 0, _, _, _, _, _, _, _, _ => none
 | k + 1, x0, x5, x8, x9, x10, x11, x50, x51 => if x51 < x50 then (if 0 ≤ x51 then (if x51 < (x8.length : Int) then (if (rd x8 x51) > 0 then (impl_labelsOf.l2 k x0 x5 x8 x9 x10 x11 x50 (wrap64 (x51 + 1))) else (if x51 < (x5.length : Int) then (impl_labelsOf.l3 k x0 x5 x8 x9 x10 x11 x51 ([] : List Int) true x50 x51 (rd_L4 x5 x51) ((rd_L4 x5 x51).length : Int) 0) else (none))) else (none)) else (none)) else (if 0 ≤ x10 then (if x10 < (x8.length : Int) then (impl_labelsOf.l1 k x0 x5 (x8.set (x10 : Int).toNat x9) (wrap64 (x9 + 1))) else (none)) else (none))
def impl_labelsOf.l3 : Nat → Int → List (List Int) → List Int → Int → Int → List Int → Int → List Int → Bool → Int → Int → List Int → Int → Int → Option (List Int)
 | 0, _, _, _, _, _, _, _, _, _, _, _, _, _, _ => none
 | k + 1, x0, x5, x8, x9, x10, x11, x12, x13, x14, x50, x51, x62, x63, x64 => if x64 < x63 then (if 0 ≤ x64 then (if x64 < (x62.length : Int) then (if x14 = true then (if 0 ≤ (rd x62 x64) then (if (rd x62 x64) < (x8.length : Int) then (if x13.length < 17592186044416 then (impl_labelsOf.l3 k x0 x5 x8 x9 x10 x11 x12 (x13 ++ [rd x8 (rd x62 x64)]) (decide ((rd x8 (rd x62 x64)) > 0)) x50 x51 x62 x63 (wrap64 (x64 + 1))) else (none)) else (none)) else (none)) else (if 0 ≤ (rd x62 x64) then (if (rd x62 x64) < (x8.length : Int) then (if x13.length < 17592186044416 then (impl_labelsOf.l3 k x0 x5 x8 x9 x10 x11 x12 (x13 ++ [rd x8 (rd x62 x64)]) false x50 x51 x62 x63 (wrap64 (x64 + 1))) else (none)) else (none)) else (none))) else (none)) else (none)) else ((impl_sortedBy_114.f x13).bind fun t311 => (if x14 = true then (if x10 < 0 then (impl_labelsOf.l2 k x0 x5 x8 x9 x12 t311 x50 (wrap64 (x51 + 1))) else ((impl_compareLists.f k t311 x11).bind fun t314 => (if t314 < 0 then (impl_labelsOf.l2 k x0 x5 x8 x9 x12 t311 x50 (wrap64 (x51 + 1))) else (impl_labelsOf.l2 k x0 x5 x8 x9 x10 x11 x50 (wrap64 (x51 + 1)))))) else (impl_labelsOf.l2 k x0 x5 x8 x9 x10 x11 x50 (wrap64 (x51 + 1)))))
end
def impl_labelsOf.f (k : Nat) (a0 : Int) (l1 : List (S71)) : Option (List Int) := if 0 ≤ a0 then (if (a0 : Int).toNat ≤ 11728124029610 then ((impl_closure.f k a0 l1).bind fun t282 => ((impl_reduction.f k t282).bind fun t285 => (impl_labelsOf.l0 k a0 (List.replicate (a0 : Int).toNat []) t285 (t285.length : Int) 0))) else (none)) else (none)
theorem impl_labelsOf.mono_l : ∀ k, (∀ y0 y1 y2 y3 y4, LeO (impl_labelsOf.l0 k y0 y1 y2 y3 y4) (impl_labelsOf.l0 (k + 1) y0 y1 y2 y3 y4)) ∧ (∀ y0 y1 y2 y3, LeO (impl_labelsOf.l1 k y0 y1 y2 y3) (impl_labelsOf.l1 (k + 1) y0 y1 y2 y3)) ∧ (∀ y0 y1 y2 y3 y4 y5 y6 y7, LeO (impl_labelsOf.l2 k y0 y1 y2 y3 y4 y5 y6 y7) (impl_labelsOf.l2 (k + 1) y0 y1 y2 y3 y4 y5 y6 y7)) ∧ (∀ y0 y1 y2 y3 y4 y5 y6 y7 y8 y9 y10 y11 y12 y13, LeO (impl_labelsOf.l3 k y0 y1 y2 y3 y4 y5 y6 y7 y8 y9 y10 y11 y12 y13) (impl_labelsOf.l3 (k + 1) y0 y1 y2 y3 y4 y5 y6 y7 y8 y9 y10 y11 y12 y13))
 | 0 => ⟨fun _ _ _ _ _ r h => by simp [impl_labelsOf.l0] at h, fun _ _ _ _ r h => by simp [impl_labelsOf.l1] at h, fun _ _ _ _ _ _ _ _ r h => by simp [impl_labelsOf.l2] at h, fun _ _ _ _ _ _ _ _ _ _ _ _ _ _ r h => by simp [impl_labelsOf.l3] at h⟩
 | k + 1 => by
  obtain ⟨ih0, ih1, ih2, ih3⟩ := impl_labelsOf.mono_l k
  refine ⟨?_, ?_, ?_, ?_⟩
  ·intro y0 y1 y2 y3 y4
   unfold impl_labelsOf.l0
   repeat' first
   | (with_reducible exact ih0 _ _ _ _ _)
   | (with_reducible exact ih1 _ _ _ _)
   | (with_reducible exact ih2 _ _ _ _ _ _ _ _)
   | (with_reducible exact ih3 _ _ _ _ _ _ _ _ _ _ _ _ _ _)
   | (with_reducible exact impl_closure.mono _ _ _)
   | (with_reducible exact impl_compareLists.mono _ _ _)
   | (with_reducible exact impl_reduction.mono _ _)
   | (with_reducible exact LeO.refl _)
   | (with_reducible exact LeO.none _)
   | (with_reducible refine LeO.ite ?_ ?_)
   | (with_reducible refine LeO.bind ?_ (fun _ => ?_))
   | exact ih0 _ _ _ _ _
   | exact ih1 _ _ _ _
   | exact ih2 _ _ _ _ _ _ _ _
   | exact ih3 _ _ _ _ _ _ _ _ _ _ _ _ _ _
   | exact impl_closure.mono _ _ _
   | exact impl_compareLists.mono _ _ _
   | exact impl_reduction.mono _ _
   | exact LeO.none _
   | refine LeO.ite ?_ ?_
   | refine LeO.bind ?_ (fun _ => ?_)
  ·intro y0 y1 y2 y3
   unfold impl_labelsOf.l1
   repeat' first
   | (with_reducible exact ih0 _ _ _ _ _)
   | (with_reducible exact ih1 _ _ _ _)
   | (with_reducible exact ih2 _ _ _ _ _ _ _ _)
   | (with_reducible exact ih3 _ _ _ _ _ _ _ _ _ _ _ _ _ _)
   | (with_reducible exact impl_closure.mono _ _ _)
   | (with_reducible exact impl_compareLists.mono _ _ _)
   | (with_reducible exact impl_reduction.mono _ _)
   | (with_reducible exact LeO.refl _)
   | (with_reducible exact LeO.none _)
   | (with_reducible refine LeO.ite ?_ ?_)
   | (with_reducible refine LeO.bind ?_ (fun _ => ?_))
   | exact ih0 _ _ _ _ _
   | exact ih1 _ _ _ _
   | exact ih2 _ _ _ _ _ _ _ _
   | exact ih3 _ _ _ _ _ _ _ _ _ _ _ _ _ _
   | exact impl_closure.mono _ _ _
   | exact impl_compareLists.mono _ _ _
   | exact impl_reduction.mono _ _
   | exact LeO.none _
   | refine LeO.ite ?_ ?_
   | refine LeO.bind ?_ (fun _ => ?_)
  ·intro y0 y1 y2 y3 y4 y5 y6 y7
   unfold impl_labelsOf.l2
   repeat' first
   | (with_reducible exact ih0 _ _ _ _ _)
   | (with_reducible exact ih1 _ _ _ _)
   | (with_reducible exact ih2 _ _ _ _ _ _ _ _)
   | (with_reducible exact ih3 _ _ _ _ _ _ _ _ _ _ _ _ _ _)
   | (with_reducible exact impl_closure.mono _ _ _)
   | (with_reducible exact impl_compareLists.mono _ _ _)
   | (with_reducible exact impl_reduction.mono _ _)
   | (with_reducible exact LeO.refl _)
   | (with_reducible exact LeO.none _)
   | (with_reducible refine LeO.ite ?_ ?_)
   | (with_reducible refine LeO.bind ?_ (fun _ => ?_))
   | exact ih0 _ _ _ _ _
   | exact ih1 _ _ _ _
   | exact ih2 _ _ _ _ _ _ _ _
   | exact ih3 _ _ _ _ _ _ _ _ _ _ _ _ _ _
   | exact impl_closure.mono _ _ _
   | exact impl_compareLists.mono _ _ _
   | exact impl_reduction.mono _ _
   | exact LeO.none _
   | refine LeO.ite ?_ ?_
   | refine LeO.bind ?_ (fun _ => ?_)
  ·intro y0 y1 y2 y3 y4 y5 y6 y7 y8 y9 y10 y11 y12 y13
   unfold impl_labelsOf.l3
   repeat' first
   | (with_reducible exact ih0 _ _ _ _ _)
   | (with_reducible exact ih1 _ _ _ _)
   | (with_reducible exact ih2 _ _ _ _ _ _ _ _)
   | (with_reducible exact ih3 _ _ _ _ _ _ _ _ _ _ _ _ _ _)
   | (with_reducible exact impl_closure.mono _ _ _)
   | (with_reducible exact impl_compareLists.mono _ _ _)
   | (with_reducible exact impl_reduction.mono _ _)
   | (with_reducible exact LeO.refl _)
   | (with_reducible exact LeO.none _)
   | (with_reducible refine LeO.ite ?_ ?_)
   | (with_reducible refine LeO.bind ?_ (fun _ => ?_))
   | exact ih0 _ _ _ _ _
   | exact ih1 _ _ _ _
   | exact ih2 _ _ _ _ _ _ _ _
   | exact ih3 _ _ _ _ _ _ _ _ _ _ _ _ _ _
   | exact impl_closure.mono _ _ _
   | exact impl_compareLists.mono _ _ _
   | exact impl_reduction.mono _ _
   | exact LeO.none _
   | refine LeO.ite ?_ ?_
   | refine LeO.bind ?_ (fun _ => ?_)
theorem impl_labelsOf.mono : ∀ a0 a1 k, LeO (impl_labelsOf.f k a0 a1) (impl_labelsOf.f (k + 1) a0 a1) := by
 intro a0 a1 k
 obtain ⟨ih0, ih1, ih2, ih3⟩ := impl_labelsOf.mono_l k
 unfold impl_labelsOf.f
 repeat' first
   | (with_reducible exact ih0 _ _ _ _ _)
   | (with_reducible exact ih1 _ _ _ _)
   | (with_reducible exact ih2 _ _ _ _ _ _ _ _)
   | (with_reducible exact ih3 _ _ _ _ _ _ _ _ _ _ _ _ _ _)
   | (with_reducible exact impl_closure.mono _ _ _)
   | (with_reducible exact impl_compareLists.mono _ _ _)
   | (with_reducible exact impl_reduction.mono _ _)
   | (with_reducible exact LeO.refl _)
   | (with_reducible exact LeO.none _)
   | (with_reducible refine LeO.ite ?_ ?_)
   | (with_reducible refine LeO.bind ?_ (fun _ => ?_))
   | exact ih0 _ _ _ _ _
   | exact ih1 _ _ _ _
   | exact ih2 _ _ _ _ _ _ _ _
   | exact ih3 _ _ _ _ _ _ _ _ _ _ _ _ _ _
   | exact impl_closure.mono _ _ _
   | exact impl_compareLists.mono _ _ _
   | exact impl_reduction.mono _ _
   | exact LeO.none _
   | refine LeO.ite ?_ ?_
   | refine LeO.bind ?_ (fun _ => ?_)
def impl_labelsOf.T5 : Bool × List (List Nat × List Nat) := (true, [([], []), ([], []), ([1], [1]), ([], []), ([], []), ([4], [4]), ([3, 5], [3, 5]), ([6], [6]), ([], []), ([8], [8]), ([9], [9]), ([7, 10], [7, 10]), ([0, 2, 0, 1, 2, 3, 4, 5, 6, 7, 8, 9, 10, 11], [0, 2]), ([12, 11, 11, 0, 1, 2, 3, 4, 5, 6, 7, 8, 9, 10, 11], [11, 12])])
def impl_labelsOf.B5 : List Nat := [0, 0, 2, 0, 0, 16, 56, 120, 0, 256, 768, 2040, 4095, 8191]
theorem impl_labelsOf.tab5 : rtab .any (opsOf Try.f74 5) = impl_labelsOf.T5 := by kernel_rfl
theorem impl_labelsOf.bits5 : waitsOk impl_labelsOf.T5.2 impl_labelsOf.B5 = true := by kernel_rfl
set_option maxHeartbeats 8000000 in
set_option maxRecDepth 100000 in
theorem impl_labelsOf.calls (k : Nat) (a0 : Int) (A1 : Option Addr) (c1 : Nat) (l1 : List (S71)) (r : List Int) (w : World) (hr1 : Kd.C k71 w A1 l1.length l1) (hc1 : l1.length ≤ c1) (h : impl_labelsOf.f k a0 l1 = some r) :
  Calls Try.prog 74 #[.int .i64 a0, .slice A1 l1.length c1] w fun e w' => ∃ v0_ : Value, e = .returned (v0_) ∧ Kd.R (Kd.int .i64) 3 w' w.heap.size (fun _ => True) v0_ r ∧ Below w.heap.size w w' := by
 have hu71 := Try.underlying71
 have HR1 := Aside0.mk hr1
 have HC1 := Aside0.mk hc1
 clear hr1 hc1
 have HB := Aside0.mk (Below.refl w.heap.size w)
 have H : (if 0 ≤ a0 then (if (a0 : Int).toNat ≤ 11728124029610 then ((impl_closure.f k a0 l1).bind fun t282 => ((impl_reduction.f k t282).bind fun t285 => (impl_labelsOf.l0 k a0 (List.replicate (a0 : Int).toNat []) t285 (t285.length : Int) 0))) else (none)) else (none)) = some r := h
 clear h
 by_cases c3 : 0 ≤ a0; rotate_left
 ·rw [if_neg c3] at H; exact absurd H (by simp)
 rw [if_pos c3] at H
 have c3b0 := eq_true c3
 have c3b1 : decide (0 ≤ a0) = true := decide_eq_true c3
 clear c3
 by_cases c4 : (a0 : Int).toNat ≤ 11728124029610; rotate_left
 ·rw [if_neg c4] at H; exact absurd H (by simp)
 rw [if_pos c4] at H
 have c4b0 := eq_true c4
 have c4b1 : decide ((a0 : Int).toNat ≤ 11728124029610) = true := decide_eq_true c4
 clear c4
 obtain ⟨y279, hy279⟩ : ∃ y_ : List (List Int), y_ = (List.replicate (a0 : Int).toNat []) := ⟨_, rfl⟩
 replace H : ((impl_closure.f k a0 l1).bind fun t282 => ((impl_reduction.f k t282).bind fun t285 => (impl_labelsOf.l0 k a0 y279 t285 (t285.length : Int) 0))) = some r := by first | (rw [hy279]; with_reducible exact H) | (have H2_ := (Option.bind_some _ _).symm.trans H; rw [hy279]; with_reducible exact H2_) | (have H2_ := (Option.bind_some _ _).symm.trans H; with_reducible exact H2_) | with_reducible exact H | (rw [hy279]; exact H) | exact H
 have Ny279 := Aside0.mk hy279
 clear hy279
 replace H := Option.bind_eq_some_iff.mp H
 obtain ⟨t282, A50, H⟩ := H
 replace H : ((impl_reduction.f k t282).bind fun t285 => (impl_labelsOf.l0 k a0 y279 t285 (t285.length : Int) 0)) = some r := H
 have A5 := Aside0.mk A50
 clear A50
 replace H := Option.bind_eq_some_iff.mp H
 obtain ⟨t285, A60, H⟩ := H
 replace H : (impl_labelsOf.l0 k a0 y279 t285 (t285.length : Int) 0) = some r := H
 have A6 := Aside0.mk A60
 clear A60
 have H' := Aside0.mk H
 clear H
 go_enter Try.func74, Try.ntmps74
 go_wp2_with (first | ((with_reducible refine gate_dst (N := 18) rfl ?_); refine Kd.S_make (Kd.slice 3 (Kd.int .i64)) _ 34 rfl (N := 18) rfl 24 _ _ rfl a0 rfl rfl Try.underlying24 (.slice none 0 0) 24 info34 rfl (by decide) (by omega) [] (ok := fun _ => True) (okp := fun _ => True) ⟨_, rfl, Kd.R_nil _ _ _ _ _⟩ (fun _ hk => hk) trivial (oD) (Nat.le_trans (Nat.mul_le_mul_right _ (oD : a0.toNat ≤ 11728124029610)) (by omega)) (Below.refl _ _) (Nat.le_refl _) ?_; intro v280 w7 ho8 hb hg_ hnew_; clear hg_ hnew_; (first | rw [← Ny279.out] at ho8 | (simp only [Int.reduceToNat] at ho8; rw [← Ny279.out] at ho8)); have n0_ := Aside0.mk (Kd.S_lower ho8 (below_size bB)); have n1_ := Aside0.mk (below_step bB hb); clear HB; have HO281 := n0_; have HB := n1_; clear n0_ n1_; clear hb ho8) | ((with_reducible refine gate_callee (f := 63) rfl ?_); refine goesL_ (some 21) rfl rfl Try.func63 (by kernel_rfl) rfl #[.int .i64 a0, .slice A1 l1.length c1] rfl aE ?_; (with_reducible refine (impl_closure.calls k a0 _ _ l1 t282 _ ?side1 ?side2 A5.out).mono ?_); (case side1 => exact cK ((Kd.C_below HR1.out HB.out))); (case side2 => exact HC1.out); rintro e w9 ⟨v283, rfl, ho0, hb⟩; refine ⟨_, rfl, ?_⟩; have n0_ := Aside0.mk (sB HO281 hb); have n1_ := Aside0.mk (Kd.S_lower ho0 (below_size bB)); have n2_ := Aside0.mk (below_step bB hb); clear HO281; clear HB; have HO281 := n0_; have HO284 := n1_; have HB := n2_; clear n0_ n1_ n2_; (try clear hb); (try clear hk); (try clear ho0); obtain ⟨Ao10, co10, eo10⟩ := Kd.S_slice HO284.out; subst eo10) | ((with_reducible refine gate_callee (f := 112) rfl ?_); refine goesL_ (some 22) rfl rfl Try.func112 (by kernel_rfl) rfl #[.slice Ao10 t282.length co10] rfl aE ?_; (with_reducible refine (impl_reduction.calls k _ _ t282 t285 _ ?side1 ?side2 A6.out).mono ?_); (case side1 => exact cK ((Kd.S_reads' HO284.out).2.2)); (case side2 => exact (Kd.S_reads' HO284.out).2.1); rintro e w11 ⟨v286, rfl, ho0, hb⟩; refine ⟨_, rfl, ?_⟩; have n0_ := Aside0.mk (sB HO281 hb); have n1_ := Aside0.mk (sB HO284 hb); have n2_ := Aside0.mk (Kd.R_lower ho0 (below_size bB)); have n3_ := Aside0.mk (below_step bB hb); clear HO281; clear HO284; clear HB; have HO281 := n0_; have HO284 := n1_; have HO287 := n2_; have HB := n3_; clear n0_ n1_ n2_ n3_; (try clear hb); (try clear hk); (try clear ho0); obtain ⟨Ao12, co12, eo12⟩ := Kd.R_slice HO287.out; subst eo12))
 go_loopg [24] k (fun kq v24 w' => ∃ (x5_1 : List (List Int)) (x24_1 : Int), v24 = .int .i64 x24_1 ∧ Aside0 (impl_labelsOf.l0 kq a0 x5_1 t285 (t285.length : Int) x24_1 = some r) ∧ Aside0 (kq ≤ k) ∧ Aside0 (Kd.S (Kd.slice 3 (Kd.int .i64)) 34 w' w.heap.size (fun _ => True) v280 x5_1) ∧ Aside0 (Kd.R k71 71 w' w.heap.size (fun _ => True) (.slice Ao12 t285.length co12) t285) ∧ Aside0 (Below w.heap.size w w'))
 case atStart => exact ⟨(y279), (0), sD, H', ⟨Nat.le_refl _⟩, ⟨kS⟩, ⟨kR⟩, ⟨by repeat (first | (with_reducible first | exact HB.out | apply below_alloc | apply pw_below_drewN | apply below_drew1) | exact HB.out)⟩⟩
 case round =>
  clear H'
  try clear c1
  try clear p2
  try clear c3
  try clear c3b0
  try clear c3b1
  try clear c4
  try clear c4b0
  try clear c4b1
  try clear c6
  try clear c7
  try clear c11
  obtain ⟨x5_1, x24_1, rfl, HA, HK1, HO_5, HO_22, HB⟩ := hrel
  cases gk with
  | zero => exact absurd HA.out (by simp [impl_labelsOf.l0])
  | succ k1 =>
   have H := HA.out
   clear HA
   simp only [impl_labelsOf.l0] at H
   by_cases c13 : x24_1 < (t285.length : Int)
   ·rw [if_pos c13] at H
    have c13b0 : decide (x24_1 < (t285.length : Int)) = true := decide_eq_true c13
    clear c13
    by_cases c14 : 0 ≤ x24_1; rotate_left
    ·rw [if_neg c14] at H; exact absurd H (by simp)
    rw [if_pos c14] at H
    have c14b0 : decide (0 ≤ x24_1) = true := decide_eq_true c14
    clear c14
    by_cases c15 : x24_1 < (t285.length : Int); rotate_left
    ·rw [if_neg c15] at H; exact absurd H (by simp)
    rw [if_pos c15] at H
    have c15b0 : decide (x24_1 < (t285.length : Int)) = true := decide_eq_true c15
    clear c15
    by_cases c16 : 0 ≤ ((rd_T71 t285 x24_1).f0); rotate_left
    ·rw [if_neg c16] at H; exact absurd H (by simp)
    rw [if_pos c16] at H
    have c16b0 : decide (0 ≤ ((rd_T71 t285 x24_1).f0)) = true := decide_eq_true c16
    clear c16
    by_cases c17 : ((rd_T71 t285 x24_1).f0) < (x5_1.length : Int); rotate_left
    ·rw [if_neg c17] at H; exact absurd H (by simp)
    rw [if_pos c17] at H
    have c17b0 : decide (((rd_T71 t285 x24_1).f0) < (x5_1.length : Int)) = true := decide_eq_true c17
    clear c17
    by_cases c18 : (rd_L4 x5_1 ((rd_T71 t285 x24_1).f0)).length < 17592186044416; rotate_left
    ·rw [if_neg c18] at H; exact absurd H (by simp)
    rw [if_pos c18] at H
    have LMc18 := Aside0.mk c18
    clear c18
    obtain ⟨y291, hy291⟩ : ∃ y_ : List Int, y_ = ((rd_L4 x5_1 ((rd_T71 t285 x24_1).f0)) ++ [(rd_T71 t285 x24_1).f1]) := ⟨_, rfl⟩
    replace H : (impl_labelsOf.l0 k1 a0 (x5_1.set (((rd_T71 t285 x24_1).f0) : Int).toNat y291) t285 (t285.length : Int) (wrap64 (x24_1 + 1))) = some r := by first | (rw [hy291]; with_reducible exact H) | (have H2_ := (Option.bind_some _ _).symm.trans H; rw [hy291]; with_reducible exact H2_) | (have H2_ := (Option.bind_some _ _).symm.trans H; with_reducible exact H2_) | with_reducible exact H | (rw [hy291]; exact H) | exact H
    have Ny291 := Aside0.mk hy291
    clear hy291
    obtain ⟨y294, hy294⟩ : ∃ y_ : List (List Int), y_ = (x5_1.set (((rd_T71 t285 x24_1).f0) : Int).toNat y291) := ⟨_, rfl⟩
    replace H : (impl_labelsOf.l0 k1 a0 y294 t285 (t285.length : Int) (wrap64 (x24_1 + 1))) = some r := by first | (rw [hy294]; with_reducible exact H) | (have H2_ := (Option.bind_some _ _).symm.trans H; rw [hy294]; with_reducible exact H2_) | (have H2_ := (Option.bind_some _ _).symm.trans H; with_reducible exact H2_) | with_reducible exact H | (rw [hy294]; exact H) | exact H
    have Ny294 := Aside0.mk hy294
    clear hy294
    have H' := Aside0.mk H
    clear H
    have p288 : 0 ≤ (x24_1 : Int) := oD
    have q288 : x24_1 < (t285.length : Int) := oD
    obtain ⟨ad288, e288, hx288_0, hx288_1⟩ := at_T71 (Kd.R_reads' HO_22.out).2.2 x24_1 p288 q288
    cases e288
    replace p288 := eq_true p288
    replace q288 := eq_true q288
    try go_wp2_with (first | ((with_reducible refine gate_dst (N := 7) rfl ?_); refine bE 7 #[.int .i64 0, .int .i64 0] 71 ?_; intro gb289 hg w20 hbox hb; have n0_ := Aside0.mk (sB HO_5 hb); have n1_ := Aside0.mk (Kd.R_below (Kd.R_elderB (by (with_reducible repeat (first | apply Kd.R_alloc | apply Kd.R_drewN | apply Kd.R_drew)); exact HO_22.out) gb289 (Nat.le_of_eq hg.symm)) hb); have n2_ := Aside0.mk (below_step bB hb); have n3_ := Aside0.mk (hbox); have n4_ := Aside0.mk ((by rw [hg]; exact (below_size bB) : w.heap.size ≤ gb289)); have n5_ := Aside0.mk ((by rw [hg]; exact (below_size bB) : w.heap.size ≤ gb289)); clear HO_5; clear HO_22; clear HB; have HO_5 := n0_; have HO_22 := n1_; have HB := n2_; have BK289 := n3_; have GW289 := n4_; have GE289 := n5_; clear n0_ n1_ n2_ n3_ n4_ n5_; clear hb hbox hg; have hcz21_0 := (blk_cell BK289.out 0).trans (show _ = some ((.int .i64 0) : Value) from rfl); have hcz21_1 := (blk_cell BK289.out 1).trans (show _ = some ((.int .i64 0) : Value) from rfl); have hfz21_0 := blk_frozen BK289.out 0; have hfz21_1 := blk_frozen BK289.out 1))
    have n0_ : Aside0 (Kd.S (Kd.slice 3 (Kd.int .i64)) 34 ((w20.setCell ⟨gb289, 0, none⟩ (.int .i64 ((rd_T71 t285 x24_1).f0))).setCell ⟨gb289, 1, none⟩ (.int .i64 ((rd_T71 t285 x24_1).f1))) w.heap.size (fun _ => True) v280 x5_1) := ⟨by exact Kd.S_mono (Kd.S_far (p := ⟨gb289, 1, none⟩) (Kd.S_far (p := ⟨gb289, 0, none⟩) (Kd.S_types HO_5.out BK289.out (by decide)) (fun _ hk => hk.2) (.int .i64 ((rd_T71 t285 x24_1).f0))) (fun _ hk => hk.2) (.int .i64 ((rd_T71 t285 x24_1).f1))) (fun _ hk => trivial)⟩
    have n1_ : Aside0 (Kd.R k71 71 ((w20.setCell ⟨gb289, 0, none⟩ (.int .i64 ((rd_T71 t285 x24_1).f0))).setCell ⟨gb289, 1, none⟩ (.int .i64 ((rd_T71 t285 x24_1).f1))) w.heap.size (fun k_ => k_ ≠ gb289) (.slice (some ad288) t285.length co12) t285) := ⟨by exact Kd.R_mono (Kd.R_far (p := ⟨gb289, 1, none⟩) (Kd.R_far (p := ⟨gb289, 0, none⟩) (Kd.R_mono HO_22.out (fun k_ hk => (⟨hk, hk.2⟩ : _ ∧ k_ ≠ gb289))) (fun _ hk => hk.2) (.int .i64 ((rd_T71 t285 x24_1).f0))) (fun _ hk => hk.2) (.int .i64 ((rd_T71 t285 x24_1).f1))) (fun _ hk => hk.1.2)⟩
    have n2_ : Aside0 (((w20.setCell ⟨gb289, 0, none⟩ (.int .i64 ((rd_T71 t285 x24_1).f0))).setCell ⟨gb289, 1, none⟩ (.int .i64 ((rd_T71 t285 x24_1).f1))).heap[gb289]? = some (.cells #[.int .i64 ((rd_T71 t285 x24_1).f0), .int .i64 ((rd_T71 t285 x24_1).f1)] 71 (0, 0))) := ⟨by refine blk_put (cs := #[.int .i64 ((rd_T71 t285 x24_1).f0), .int .i64 0]) ?_ 1 _ rfl; refine blk_put (cs := #[.int .i64 0, .int .i64 0]) ?_ 0 _ rfl; exact BK289.out⟩
    have n3_ : Aside0 (Below w.heap.size w ((w20.setCell ⟨gb289, 0, none⟩ (.int .i64 ((rd_T71 t285 x24_1).f0))).setCell ⟨gb289, 1, none⟩ (.int .i64 ((rd_T71 t285 x24_1).f1)))) := ⟨by repeat (first | (with_reducible first | exact HB.out | apply below_alloc | apply pw_below_drewN | apply below_drew1 | refine below_set ?_ GE289.out) | exact HB.out)⟩
    (try clear HO_5)
    (try clear HO_22)
    (try clear BK289)
    (try clear HB)
    generalize ((w20.setCell ⟨gb289, 0, none⟩ (.int .i64 ((rd_T71 t285 x24_1).f0))).setCell ⟨gb289, 1, none⟩ (.int .i64 ((rd_T71 t285 x24_1).f1))) = w22 at n0_ n1_ n2_ n3_ ⊢
    have HO_5 := n0_
    have HO_22 := n1_
    have BK289 := n2_
    have HB := n3_
    clear n0_ n1_ n2_ n3_
    have n0_ := Aside0.mk (Kd.S_drew HO_5.out)
    have n1_ := Aside0.mk (Kd.R_drew HO_22.out)
    have n2_ := Aside0.mk (blk_drew BK289.out)
    have n3_ := Aside0.mk (below_drew1 HB.out)
    clear HO_5
    clear HO_22
    clear BK289
    clear HB
    have HO_5 := n0_
    have HO_22 := n1_
    have BK289 := n2_
    have HB := n3_
    clear n0_ n1_ n2_ n3_
    obtain ⟨Ao24, co24, eo24⟩ := Kd.S_slice HO_5.out
    (first | subst eo24 | (injection eo24 with f1_ f2_ f3_; have f4_ := f1_.symm; have f5_ := f3_.symm; clear f1_ f2_ f3_; subst f4_; subst f5_))
    have p290 : 0 ≤ (((rd_T71 t285 x24_1).f0) : Int) := oD
    have q290 : ((rd_T71 t285 x24_1).f0) < (x5_1.length : Int) := oD
    obtain ⟨ad290, A290_0, c290_0, e290, hx290_0, hl290_0, hi290_0⟩ := at_L4 (Kd.S_reads' HO_5.out).2.2 ((rd_T71 t285 x24_1).f0) p290 q290
    cases e290
    obtain ⟨ce290, hce290, hMe290, hcc290⟩ := Kd.S_get HO_5.out [] ((rd_T71 t285 x24_1).f0) p290 (by first | exact q290 | exact oD | (have e_ := (Kd.S_reads' HO_5.out).1; omega))
    obtain ⟨ve290_0, rfl, ge290_0⟩ := hMe290
    have hv290_0 := hcc290 0 _ rfl
    rw [Nat.add_zero, show ((Kd.slice 3 (Kd.int .i64))).sz = 1 from rfl, Nat.mul_one] at hv290_0
    replace hv290_0 := Option.some.inj (hv290_0.symm.trans hx290_0)
    rw [hv290_0] at ge290_0
    have HL290_0 := Aside0.mk (show Kd.R (Kd.int .i64) 3 _ _ _ _ (rd_L4 x5_1 ((rd_T71 t285 x24_1).f0)) from ge290_0)
    clear hv290_0 ge290_0
    have HX290_0 := Aside0.mk hx290_0
    clear hcc290 hce290
    have HR290_0 := Aside0.mk hi290_0
    have HC290_0 := Aside0.mk hl290_0
    clear hi290_0 hl290_0
    replace p290 := eq_true p290
    replace q290 := eq_true q290
    obtain ⟨go25, co25, eo25, gb25, gl25, cl25, HG25⟩ := Kd.S_form HO_5.out (by have h_ : (((rd_T71 t285 x24_1).f0) : Int) < ((x5_1.length : Int) : Int) := oD; have h2_ : 0 ≤ (((rd_T71 t285 x24_1).f0) : Int) := (oD); omega)
    (first | cases eo25 | (injection eo25 with ea_ en_ ec_; (first | subst ea_ | (injection ea_ with ea_; subst ea_)); subst ec_; clear en_))
    have GB25 := Aside0.mk gb25
    have GG25 := Aside0.mk HG25
    clear gb25 gl25 HG25
    (first | simp only [add_plain] at hx290_0 | skip)
    obtain ⟨oki25, ce25, hcl25, hM25, hcc25, _, _, hH25⟩ := Kd.S_elem HO_5.out [] (((rd_T71 t285 x24_1).f0) : Int) (oD) (by have h_ : (((rd_T71 t285 x24_1).f0) : Int) < ((x5_1.length : Int) : Int) := oD; first | exact h_ | (have e_ := (Kd.S_reads' HO_5.out).1; omega) | simpa using h_)
    obtain ⟨ve25_0, rfl, ge25_0⟩ := hM25
    have hv25 := hcc25 0 _ rfl
    have hX25 := HX290_0.out
    (try simp only [add_plain] at hX25)
    (try simp only [Nat.add_zero] at hv25)
    (try rw [show ((Kd.slice 3 (Kd.int .i64))).sz = 1 from rfl, Nat.mul_one] at hv25)
    replace hv25 := Option.some.inj (hv25.symm.trans hX25)
    subst hv25
    clear hX25 hcc25 hcl25
    have UU25 := Aside0.mk (show Kd.R (Kd.int .i64) 3 _ w.heap.size oki25 (.slice A290_0 (rd_L4 x5_1 ((rd_T71 t285 x24_1).f0)).length c290_0) (rd_L4 x5_1 ((rd_T71 t285 x24_1).f0)) from ge25_0)
    have HH25 := Aside0.mk hH25
    have HN25 := Aside0.mk (Kd.S_reads' HO_5.out).1
    clear hH25 ge25_0
    refine start_ (n := 14) (S := fun w' => w'.cell? ⟨gb289, 0, none⟩ = some (.int .i64 ((rd_T71 t285 x24_1).f0)) ∧ w'.cell? ⟨gb289, 1, none⟩ = some (.int .i64 ((rd_T71 t285 x24_1).f1)) ∧ w'.cell? ⟨go25, (((rd_T71 t285 x24_1).f0)).toNat, none⟩ = some (.slice A290_0 (rd_L4 x5_1 ((rd_T71 t285 x24_1).f0)).length c290_0)) (ds := [13]) (bA 14 0) (by kernel_rfl) rfl rfl ⟨(blk_cell BK289.out 0).trans rfl, (blk_cell BK289.out 1).trans rfl, hx290_0⟩ (fun hHeld => ?_); refine with_tabW impl_labelsOf.tab5 impl_labelsOf.bits5 (fun HT_ HW_ => ?_)
    generalize w22.drew = w23 at HO_5 HO_22 BK289 HB GG25 HH25 HL290_0 HR290_0 HX290_0 UU25 hx290_0 hHeld ⊢
    refine pU 0 28 (bA 14 1) ?_
    refine pU 1 29 (bA 14 3) ?_
    refine pU 3 31 (bA 14 11) ?_
    refine pU 4 32 (bA 14 27) ?_
    refine pU 8 36 (bA 14 283) ?_
    refine tU 2 30 (bA 14 287) ?_
    refine tU 5 33 (bA 14 319) ?_
    refine pU 6 34 (bA 14 383) ?_
    refine tU 7 35 (bA 14 511) ?_
    refine tU 9 37 (bA 14 1023) ?_
    refine one_ (i := 10) (N := some 38) (bA 14 2047) rfl rfl (one_of HT_.out (by kernel_rfl)) (by decide) (fun K hK => ?_)
    refine value_ (w1 := ?_) (v := ?_) (by rfl) rfl ?_ ?_
    rotate_left 2
    ·go_simp
     constructor
     ·rfl
     ·rfl
    refine hK.out _ _ ⟨(blk_cell (blk_alloc BK289.out _) 0).trans rfl, (blk_cell (blk_alloc BK289.out _) 1).trans rfl, (World.cell?_alloc_lt _ _ _ (World.block_lt_of_cell? _ _ (hHeld.2.2))).trans (hHeld.2.2)⟩ (fun hHeld => ?_)
    clear hK K
    refine norm_ (a' := ?_) ?_ ?_
    rotate_left
    ·show Act.put _ (some 38) _ = _
     simp only [Act.put, sA, sZ, sS, i64_w, i32_w]
     rfl
    refine one_ (i := 11) (N := some 39) (bA 14 4095) rfl rfl (one_of HT_.out (by kernel_rfl)) (by decide) (fun K hK => ?_)
    refine Kd.R_append_step (Kd.int .i64) (w0 := w) w.heap.size (by rfl) (.tmp 35) (.tmp 38) 34 3 (.int .i64 0) 8 rfl Try.underlying34 info3 rfl (by decide) (by omega) (.slice A290_0 (rd_L4 x5_1 ((rd_T71 t285 x24_1).f0)).length c290_0) (rd_L4 x5_1 ((rd_T71 t285 x24_1).f0)) ((rd_T71 t285 x24_1).f1) [.int .i64 ((rd_T71 t285 x24_1).f1)] (fun k_ => oki25 k_ ∨ ((fun _ => True)) k_ ∧ w23.heap.size ≤ k_) (fun _ => False) rfl rfl ?aP (fun _ hk => hk.elim) ?aF ?aO ?aB ?aS ?aL ?_
    (case aP => exact rfl)
    (case aB => exact bS)
    (case aF => exact (fun k_ hk => .inr ⟨trivial, hk⟩))
    (case aO => exact (by (with_reducible repeat (first | apply Kd.R_alloc | apply Kd.R_drewN | apply Kd.R_drew)); exact Kd.R_mono UU25.out (fun _ hk => .inl hk)))
    (case aS => exact (below_size bS))
    (case aL => have := LMc18.out; omega)
    intro v292 w26 ho hb hg hat
    (first | have HS2_ := cell_grown hg (hHeld.2.2) (by first | (rw [add_block]; exact (fun e_ => ((HL290_0.out.1 _ e_.symm).2) rfl)) | (show some (Addr.add _ _).block ≠ _; rw [add_block]; exact (fun e_ => ((HL290_0.out.1 _ e_.symm).2) rfl)) | exact (fun e_ => ((HL290_0.out.1 _ e_.symm).2) rfl)) | have HS2_ := cell_grown hg (cell_unalloc (hHeld.2.2) (by first | (rw [add_block]; exact Kd.S_lt HO_5.out _ rfl) | (show (Addr.add _ _).block < _; rw [add_block]; exact Kd.S_lt HO_5.out _ rfl) | exact Kd.S_lt HO_5.out _ rfl)) (by first | (rw [add_block]; exact (fun e_ => ((HL290_0.out.1 _ e_.symm).2) rfl)) | (show some (Addr.add _ _).block ≠ _; rw [add_block]; exact (fun e_ => ((HL290_0.out.1 _ e_.symm).2) rfl)) | exact (fun e_ => ((HL290_0.out.1 _ e_.symm).2) rfl)))
    rw [← Ny291.out] at ho
    have n0_ := Aside0.mk (Kd.R_over' (v := (.slice A290_0 (rd_L4 x5_1 ((rd_T71 t285 x24_1).f0)).length c290_0)) (by (with_reducible repeat (first | apply Kd.R_alloc | apply Kd.R_drewN | apply Kd.R_drew)); exact HO_22.out) (Kd.R_typed HL290_0.out) (by decide) hg)
    have n1_ := Aside0.mk (blk_grown (g := gb289) (o := .cells #[.int .i64 ((rd_T71 t285 x24_1).f0), .int .i64 ((rd_T71 t285 x24_1).f1)] 71 (0, 0)) kB hg (Kd.R_ne HL290_0.out BK289.out (by decide)))
    have n2_ := Aside0.mk (hb)
    have n3_ := Aside0.mk (Kd.H_grown (Kd.H_widen (by repeat (first | exact HH25.out | refine Kd.H_alloc ?_ _ | refine Kd.H_drewN ?_ _ | refine Kd.H_drew ?_))) hg (fun k_ e_ => .inl (UU25.out.1 k_ e_)))
    have n4_ := Aside0.mk (ho)
    clear HO_22
    clear BK289
    clear HB
    clear HH25
    clear HO_5
    clear UU25
    clear HL290_0
    have HO_22 := n0_
    have BK289 := n1_
    have HB := n2_
    have HH25 := n3_
    have HO293 := n4_
    clear n0_ n1_ n2_ n3_ n4_
    clear ho hb hg hat
    have p19 : 0 ≤ (((rd_T71 t285 x24_1).f0) : Int) := oD
    have q19 : (((rd_T71 t285 x24_1).f0) : Int) < ((x5_1.length : Int) : Int) := oD
    replace p19 := eq_true p19
    replace q19 := eq_true q19
    obtain ⟨Ao29, co29, eo29⟩ := Kd.R_slice HO293.out
    (first | subst eo29 | (injection eo29 with f1_ f2_ f3_; have f4_ := f1_.symm; have f5_ := f3_.symm; clear f1_ f2_ f3_; subst f4_; subst f5_))
    obtain ⟨_, _, hraw27, _, _, hcc27, _⟩ := Kd.H_raw HH25.out (oD) (by have h_ : (((rd_T71 t285 x24_1).f0) : Int) < ((x5_1.length : Int) : Int) := oD; first | exact h_ | (have e_ := (HN25.out); omega) | simpa using h_)
    obtain ⟨_, hfr27⟩ := Kd.H_at HH25.out (oD) (by have h_ : (((rd_T71 t285 x24_1).f0) : Int) < ((x5_1.length : Int) : Int) := oD; first | exact h_ | (have e_ := (HN25.out); omega) | simpa using h_)
    have hx27_0 := hcc27 0 _ rfl
    have hf27_0 := hfr27 0
    (try simp only [Nat.add_zero] at hx27_0 hf27_0)
    (try rw [show ((Kd.slice 3 (Kd.int .i64))).sz = 1 from rfl, Nat.mul_one] at hx27_0)
    (try rw [show ((Kd.slice 3 (Kd.int .i64))).sz = 1 from rfl, Nat.mul_one] at hf27_0)
    have HP27 := Kd.S_seg0 HH25.out (oD) (by have h_ : (((rd_T71 t285 x24_1).f0) : Int) < ((x5_1.length : Int) : Int) := oD; first | exact h_ | (have e_ := (HN25.out); omega) | simpa using h_) (seg := [.slice Ao29 y291.length co29]) (j := 0) (show 1 ≤ 1 from by decide) (x' := y291) (Kd.M_row HO293.out) (fun _ hk => hk)
    (try simp only [show ((Kd.slice 3 (Kd.int .i64))).sz = 1 from rfl, Nat.mul_one, Nat.add_zero] at HP27)
    clear hcc27 hfr27
    have HNB289_go25 := Aside0.mk (show gb289 ≠ go25 from by have h_ := Kd.R_ne hraw27 BK289.out (by decide); intro e_; exact h_ (by rw [e_]; rfl))
    have HS27 := HP27.1
    rw [← Ny294.out] at HS27
    have HQ27 := Aside0.mk HS27
    obtain ⟨_, hgg27⟩ := Kd.R_typed hraw27 go25 rfl
    have GG27_ := Aside0.mk hgg27
    clear HP27 HS27 hgg27
    refine hK.out _ _ ⟨(blk_cell BK289.out 0).trans rfl, (blk_cell BK289.out 1).trans rfl, HS2_⟩ (fun hHeld => ?_)
    clear hK K
    refine norm_ (a' := ?_) ?_ ?_
    rotate_left
    ·show Act.put _ (some 39) _ = _
     simp only [Act.put, sA, sZ, sS, i64_w, i32_w]
     rfl
    refine pU 12 40 (bA 14 8191) ?_
    refine last_ (i := 13) (N := none) (bA 14 16383) rfl rfl (one_of HT_.out (by kernel_rfl)) (by decide) (fun K hK => ?_)
    refine skip_ (w1 := ?_) (by rfl) rfl ?_ ?_
    rotate_left
    ·go_simp
     rfl
    refine hK.out _ _ ?_
    clear hK K
    refine done_ (done_of HT_.out (by kernel_rfl)) ?_
    try go_wp2
    go_roundg k1
    case measure => have := HK1.out; omega
    case rel => exact ⟨(y294), (wrap64 (x24_1 + 1)), sD, H', ⟨by have := HK1.out; omega⟩, ⟨by (with_reducible repeat (first | apply Kd.S_alloc | apply Kd.S_drewN | apply Kd.S_drew)); exact HQ27.out⟩, ⟨by (with_reducible repeat (first | apply Kd.R_alloc | apply Kd.R_drewN | apply Kd.R_drew)); exact Kd.R_mono (Kd.R_far (p := ⟨go25, (((rd_T71 t285 x24_1).f0) : Int).toNat, none⟩) (Kd.R_types HO_22.out GG27_.out (by decide)) (fun _ hk => hk.2) (.slice Ao29 y291.length co29)) (fun _ hk => trivial)⟩, ⟨by repeat (first | (with_reducible first | exact HB.out | apply below_alloc | apply pw_below_drewN | apply below_drew1 | refine below_set ?_ GB25.out | refine below_set ?_ GE289.out) | exact HB.out)⟩⟩
   ·rw [if_neg c13] at H
    have c13b0 : decide (x24_1 < (t285.length : Int)) = false := decide_eq_false c13
    clear c13
    by_cases c30 : 0 ≤ a0; rotate_left
    ·rw [if_neg c30] at H; exact absurd H (by simp)
    rw [if_pos c30] at H
    have c30b0 := eq_true c30
    have c30b1 : decide (0 ≤ a0) = true := decide_eq_true c30
    clear c30
    by_cases c31 : (a0 : Int).toNat ≤ 35184372088832; rotate_left
    ·rw [if_neg c31] at H; exact absurd H (by simp)
    rw [if_pos c31] at H
    have c31b0 := eq_true c31
    have c31b1 : decide ((a0 : Int).toNat ≤ 35184372088832) = true := decide_eq_true c31
    clear c31
    obtain ⟨y295, hy295⟩ : ∃ y_ : List Int, y_ = (List.replicate (a0 : Int).toNat 0) := ⟨_, rfl⟩
    replace H : (impl_labelsOf.l1 k1 a0 x5_1 y295 1) = some r := by first | (rw [hy295]; with_reducible exact H) | (have H2_ := (Option.bind_some _ _).symm.trans H; rw [hy295]; with_reducible exact H2_) | (have H2_ := (Option.bind_some _ _).symm.trans H; with_reducible exact H2_) | with_reducible exact H | (rw [hy295]; exact H) | exact H
    have Ny295 := Aside0.mk hy295
    clear hy295
    have H' := Aside0.mk H
    clear H
    go_wp2_with (first | ((with_reducible refine gate_dst (N := 43) rfl ?_); refine Kd.R_make (Kd.int .i64) _ 3 rfl (N := 43) rfl 34 _ _ rfl a0 rfl rfl Try.underlying34 (.int .i64 0) 8 info3 rfl (by decide) (by omega) 0 (ok := fun _ => True) (okp := fun _ => True) rfl (fun _ hk => hk) trivial (oD) (Nat.le_trans (Nat.mul_le_mul_right _ (oD : a0.toNat ≤ 35184372088832)) (by omega)) (Below.refl _ _) (Nat.le_refl _) ?_; intro v296 w32 ho33 hb hg_ hnew_; clear hg_ hnew_; (first | rw [← Ny295.out] at ho33 | (simp only [Int.reduceToNat] at ho33; rw [← Ny295.out] at ho33)); have n0_ := Aside0.mk (Kd.S_elder' (by (with_reducible repeat (first | apply Kd.S_alloc | apply Kd.S_drewN | apply Kd.S_drew)); exact HO_5.out) (Kd.R_base ho33) hb); have n1_ := Aside0.mk (rB HO_22 hb); have n2_ := Aside0.mk (Kd.R_lower ho33 (below_size bB)); have n3_ := Aside0.mk (below_step bB hb); clear HO_5; clear HO_22; clear HB; have HO_5 := n0_; have HO_22 := n1_; have HO297 := n2_; have HB := n3_; clear n0_ n1_ n2_ n3_; clear hb ho33))
    go_loopg [9] k1 (fun kq v9 w' => ∃ (x8_2 : List Int) (x9_2 : Int), v9 = .int .i64 x9_2 ∧ Aside0 (impl_labelsOf.l1 kq a0 x5_1 x8_2 x9_2 = some r) ∧ Aside0 (kq ≤ k1) ∧ Aside0 (Kd.S (Kd.slice 3 (Kd.int .i64)) 34 w' w.heap.size (fun k_ => some k_ ≠ (v296 : Value).ownBlock) v280 x5_1) ∧ Aside0 (Kd.R (Kd.int .i64) 3 w' w.heap.size (fun _ => True) v296 x8_2) ∧ Aside0 (Below w.heap.size w w'))
    case atStart => exact ⟨(y295), (1), sD, H', ⟨Nat.le_refl _⟩, ⟨by (with_reducible repeat (first | apply Kd.S_alloc | apply Kd.S_drewN | apply Kd.S_drew)); exact Kd.S_mono HO_5.out (fun _ hk => hk.2)⟩, ⟨kR⟩, ⟨by repeat (first | (with_reducible first | exact HB.out | apply below_alloc | apply pw_below_drewN | apply below_drew1) | exact HB.out)⟩⟩
    case round =>
     clear H'
     try clear c1
     try clear p1
     try clear q1
     try clear c2
     try clear p2
     try clear q2
     try clear hx2
     try clear hf2
     try clear c3
     try clear c3b0
     try clear c3b1
     try clear c4
     try clear c4b0
     try clear c4b1
     try clear c6
     try clear p6
     try clear c7
     try clear c11
     try clear c13
     try clear c13b0
     try clear c14
     try clear c14b0
     try clear c15
     try clear c15b0
     try clear c16
     try clear c16b0
     try clear c17
     try clear c17b0
     try clear c18
     try clear p19
     try clear q19
     try clear c25
     try clear c27
     try clear hx27
     try clear hf27
     try clear p28
     try clear q28
     try clear hx28
     try clear c29
     try clear p29
     try clear q29
     try clear hx29
     try clear c30
     try clear c30b0
     try clear c30b1
     try clear c31
     try clear c31b0
     try clear c31b1
     try clear hcz21_0
     try clear hcz21_1
     try clear hfz21_0
     try clear hfz21_1
     try clear hx27_0
     try clear hx288_0
     try clear hx288_1
     try clear hx290_0
     try clear p19
     try clear p2
     try clear p288
     try clear p290
     try clear q19
     try clear q288
     try clear q290
     obtain ⟨x8_2, x9_2, rfl, HA, HK2, HO_5, HO_8, HB⟩ := hrel
     cases gk with
     | zero => exact absurd HA.out (by simp [impl_labelsOf.l1])
     | succ k2 =>
      have H := HA.out
      clear HA
      simp only [impl_labelsOf.l1] at H
      by_cases c34 : x9_2 ≤ a0
      ·rw [if_pos c34] at H
       have c34b0 : decide (x9_2 ≤ a0) = true := decide_eq_true c34
       clear c34
       have H' := Aside0.mk H
       clear H
       obtain ⟨Ao35, co35, eo35⟩ := Kd.R_slice HO_8.out
       subst eo35
       go_wp2
       go_loopg [10, 11, 51] k2 (fun kq v10 v11 v51 w' => ∃ (x10_3 : Int) (x11_3 : List Int) (x51_3 : Int), v10 = .int .i64 x10_3 ∧ v51 = .int .i64 x51_3 ∧ Aside0 (impl_labelsOf.l2 kq a0 x5_1 x8_2 x9_2 x10_3 x11_3 (x8_2.length : Int) x51_3 = some r) ∧ Aside0 (kq ≤ k2) ∧ Aside0 (Kd.S (Kd.slice 3 (Kd.int .i64)) 34 w' w.heap.size (fun k_ => some k_ ≠ ((.slice Ao35 x8_2.length co35) : Value).ownBlock ∧ some k_ ≠ (v11 : Value).ownBlock) v280 x5_1) ∧ Aside0 (Kd.R (Kd.int .i64) 3 w' w.heap.size (fun k_ => some k_ ≠ (v11 : Value).ownBlock) (.slice Ao35 x8_2.length co35) x8_2) ∧ Aside0 (Kd.R (Kd.int .i64) 3 w' w.heap.size (fun k_ => some k_ ≠ ((.slice Ao35 x8_2.length co35) : Value).ownBlock) v11 x11_3) ∧ Aside0 (Below w.heap.size w w'))
       case atStart => exact ⟨((-1)), (([] : List Int)), (0), sD, sD, H', ⟨Nat.le_refl _⟩, ⟨by (with_reducible repeat (first | apply Kd.S_alloc | apply Kd.S_drewN | apply Kd.S_drew)); exact Kd.S_mono HO_5.out (fun _ hk => ⟨hk, (by simp [Value.ownBlock])⟩)⟩, ⟨by (with_reducible repeat (first | apply Kd.R_alloc | apply Kd.R_drewN | apply Kd.R_drew)); exact Kd.R_mono HO_8.out (fun _ hk => (by simp [Value.ownBlock]))⟩, ⟨by first | exact Kd.R_nil _ _ _ _ _ | exact Kd.N_nil _ _ _ _ _ | exact Kd.V_nil _ _ _ _ _ | exact Kd.Q_nil _ _ _ _ _ | exact Kd.S_nil _ _ _ _ _⟩, ⟨by repeat (first | (with_reducible first | exact HB.out | apply below_alloc | apply pw_below_drewN | apply below_drew1) | exact HB.out)⟩⟩
       case round =>
        clear H'
        try clear c1
        try clear p1
        try clear q1
        try clear c2
        try clear p2
        try clear q2
        try clear hx2
        try clear hf2
        try clear c3
        try clear c3b0
        try clear c3b1
        try clear c4
        try clear c4b0
        try clear c4b1
        try clear c6
        try clear p6
        try clear c7
        try clear c11
        try clear c13
        try clear c13b0
        try clear c14
        try clear c14b0
        try clear c15
        try clear c15b0
        try clear c16
        try clear c16b0
        try clear c17
        try clear c17b0
        try clear c18
        try clear p19
        try clear q19
        try clear c25
        try clear c27
        try clear hx27
        try clear hf27
        try clear p28
        try clear q28
        try clear hx28
        try clear c29
        try clear p29
        try clear q29
        try clear hx29
        try clear c30
        try clear c30b0
        try clear c30b1
        try clear c31
        try clear c31b0
        try clear c31b1
        try clear c34
        try clear c34b0
        try clear hcz21_0
        try clear hcz21_1
        try clear hfz21_0
        try clear hfz21_1
        try clear hx27_0
        try clear hx288_0
        try clear hx288_1
        try clear hx290_0
        try clear p1
        try clear p19
        try clear p2
        try clear p28
        try clear p288
        try clear p29
        try clear p290
        try clear p6
        try clear q1
        try clear q19
        try clear q2
        try clear q28
        try clear q288
        try clear q29
        try clear q290
        obtain ⟨x10_3, x11_3, x51_3, rfl, rfl, HA, HK3, HO_5, HO_8, HO_11, HB⟩ := hrel
        cases gk with
        | zero => exact absurd HA.out (by simp [impl_labelsOf.l2])
        | succ k3 =>
         have H := HA.out
         clear HA
         simp only [impl_labelsOf.l2] at H
         by_cases c36 : x51_3 < (x8_2.length : Int)
         ·rw [if_pos c36] at H
          have c36b0 : decide (x51_3 < (x8_2.length : Int)) = true := decide_eq_true c36
          clear c36
          by_cases c37 : 0 ≤ x51_3; rotate_left
          ·rw [if_neg c37] at H; exact absurd H (by simp)
          rw [if_pos c37] at H
          have c37b0 : decide (0 ≤ x51_3) = true := decide_eq_true c37
          clear c37
          by_cases c38 : x51_3 < (x8_2.length : Int); rotate_left
          ·rw [if_neg c38] at H; exact absurd H (by simp)
          rw [if_pos c38] at H
          have c38b0 : decide (x51_3 < (x8_2.length : Int)) = true := decide_eq_true c38
          clear c38
          by_cases c39 : (rd x8_2 x51_3) > 0
          ·rw [if_pos c39] at H
           have c39b0 : decide (0 < (rd x8_2 x51_3)) = true := decide_eq_true c39
           clear c39
           have H' := Aside0.mk H
           clear H
           have p299 : 0 ≤ (x51_3 : Int) := oD
           have q299 : x51_3 < (x8_2.length : Int) := oD
           obtain ⟨ad299, e299, hx299_0⟩ := Kd.at_int (Kd.R_reads' HO_8.out).2.2 x51_3 p299 q299
           cases e299
           replace p299 := eq_true p299
           replace q299 := eq_true q299
           go_wp2
           go_roundg k3
           case measure => have := HK1.out; have := HK2.out; have := HK3.out; omega
           case rel => exact ⟨(x10_3), (x11_3), (wrap64 (x51_3 + 1)), sD, sD, H', ⟨by have := HK1.out; have := HK2.out; have := HK3.out; omega⟩, ⟨kS⟩, ⟨kR⟩, ⟨kR⟩, ⟨by repeat (first | (with_reducible first | exact HB.out | apply below_alloc | apply pw_below_drewN | apply below_drew1) | exact HB.out)⟩⟩
          ·rw [if_neg c39] at H
           have c39b0 : decide (0 < (rd x8_2 x51_3)) = false := decide_eq_false c39
           clear c39
           by_cases c40 : x51_3 < (x5_1.length : Int); rotate_left
           ·rw [if_neg c40] at H; exact absurd H (by simp)
           rw [if_pos c40] at H
           have c40b0 : decide (x51_3 < (x5_1.length : Int)) = true := decide_eq_true c40
           clear c40
           have H' := Aside0.mk H
           clear H
           have p299 : 0 ≤ (x51_3 : Int) := oD
           have q299 : x51_3 < (x8_2.length : Int) := oD
           obtain ⟨ad299, e299, hx299_0⟩ := Kd.at_int (Kd.R_reads' HO_8.out).2.2 x51_3 p299 q299
           cases e299
           replace p299 := eq_true p299
           replace q299 := eq_true q299
           obtain ⟨Ao41, co41, eo41⟩ := Kd.S_slice HO_5.out
           subst eo41
           have p300 : 0 ≤ (x51_3 : Int) := oD
           have q300 : x51_3 < (x5_1.length : Int) := oD
           obtain ⟨ad300, A300_0, c300_0, e300, hx300_0, hl300_0, hi300_0⟩ := at_L4 (Kd.S_reads' HO_5.out).2.2 x51_3 p300 q300
           cases e300
           obtain ⟨ce300, hce300, hMe300, hcc300⟩ := Kd.S_get HO_5.out [] x51_3 p300 (by first | exact q300 | exact oD | (have e_ := (Kd.S_reads' HO_5.out).1; omega))
           obtain ⟨ve300_0, rfl, ge300_0⟩ := hMe300
           have hv300_0 := hcc300 0 _ rfl
           rw [Nat.add_zero, show ((Kd.slice 3 (Kd.int .i64))).sz = 1 from rfl, Nat.mul_one] at hv300_0
           replace hv300_0 := Option.some.inj (hv300_0.symm.trans hx300_0)
           rw [hv300_0] at ge300_0
           have HL300_0 := Aside0.mk (show Kd.R (Kd.int .i64) 3 _ _ _ _ (rd_L4 x5_1 x51_3) from ge300_0)
           clear hv300_0 ge300_0
           have HX300_0 := Aside0.mk hx300_0
           clear hcc300 hce300
           have HR300_0 := Aside0.mk hi300_0
           have HC300_0 := Aside0.mk hl300_0
           clear hi300_0 hl300_0
           replace p300 := eq_true p300
           replace q300 := eq_true q300
           go_wp2
           go_loopg [13, 14, 64] k3 (fun kq v13 v14 v64 w' => ∃ (x13_4 : List Int) (x14_4 : Bool) (x64_4 : Int), v14 = .bool x14_4 ∧ v64 = .int .i64 x64_4 ∧ Aside0 (impl_labelsOf.l3 kq a0 x5_1 x8_2 x9_2 x10_3 x11_3 x51_3 x13_4 x14_4 (x8_2.length : Int) x51_3 (rd_L4 x5_1 x51_3) ((rd_L4 x5_1 x51_3).length : Int) x64_4 = some r) ∧ Aside0 (kq ≤ k3) ∧ Aside0 (Kd.S (Kd.slice 3 (Kd.int .i64)) 34 w' w.heap.size (fun k_ => some k_ ≠ ((.slice (some ad299) x8_2.length co35) : Value).ownBlock ∧ some k_ ≠ (u11 : Value).ownBlock ∧ some k_ ≠ (v13 : Value).ownBlock) (.slice (some ad300) x5_1.length co41) x5_1) ∧ Aside0 (Kd.R (Kd.int .i64) 3 w' w.heap.size (fun k_ => some k_ ≠ (u11 : Value).ownBlock ∧ some k_ ≠ (v13 : Value).ownBlock) (.slice (some ad299) x8_2.length co35) x8_2) ∧ Aside0 (Kd.R (Kd.int .i64) 3 w' w.heap.size (fun k_ => some k_ ≠ ((.slice (some ad299) x8_2.length co35) : Value).ownBlock ∧ some k_ ≠ (v13 : Value).ownBlock) u11 x11_3) ∧ Aside0 (Kd.R (Kd.int .i64) 3 w' w.heap.size (fun k_ => some k_ ≠ ((.slice (some ad299) x8_2.length co35) : Value).ownBlock ∧ some k_ ≠ (u11 : Value).ownBlock) v13 x13_4) ∧ Aside0 (Kd.R (Kd.int .i64) 3 w' w.heap.size (fun k_ => True ∧ some k_ ≠ (v13 : Value).ownBlock) (.slice A300_0 (rd_L4 x5_1 x51_3).length c300_0) (rd_L4 x5_1 x51_3)) ∧ Aside0 (Below w.heap.size w w'))
           case atStart => exact ⟨(([] : List Int)), (true), (0), sD, sD, H', ⟨Nat.le_refl _⟩, ⟨by (with_reducible repeat (first | apply Kd.S_alloc | apply Kd.S_drewN | apply Kd.S_drew)); exact Kd.S_mono HO_5.out (fun _ hk => ⟨hk.1, ⟨hk.2, (by simp [Value.ownBlock])⟩⟩)⟩, ⟨by (with_reducible repeat (first | apply Kd.R_alloc | apply Kd.R_drewN | apply Kd.R_drew)); exact Kd.R_mono HO_8.out (fun _ hk => ⟨hk, (by simp [Value.ownBlock])⟩)⟩, ⟨by (with_reducible repeat (first | apply Kd.R_alloc | apply Kd.R_drewN | apply Kd.R_drew)); exact Kd.R_mono HO_11.out (fun _ hk => ⟨hk, (by simp [Value.ownBlock])⟩)⟩, ⟨by first | exact Kd.R_nil _ _ _ _ _ | exact Kd.N_nil _ _ _ _ _ | exact Kd.V_nil _ _ _ _ _ | exact Kd.Q_nil _ _ _ _ _ | exact Kd.S_nil _ _ _ _ _⟩, ⟨by (with_reducible repeat (first | apply Kd.R_alloc | apply Kd.R_drewN | apply Kd.R_drew)); exact Kd.R_mono HL300_0.out (fun _ _ => ⟨trivial, (by simp [Value.ownBlock])⟩)⟩, ⟨by repeat (first | (with_reducible first | exact HB.out | apply below_alloc | apply pw_below_drewN | apply below_drew1) | exact HB.out)⟩⟩
           case round =>
            clear H'
            try clear c1
            try clear p1
            try clear q1
            try clear c2
            try clear p2
            try clear q2
            try clear hx2
            try clear hf2
            try clear c3
            try clear c3b0
            try clear c3b1
            try clear p3
            try clear q3
            try clear hx3
            try clear c4
            try clear c4b0
            try clear c4b1
            try clear c6
            try clear p6
            try clear c7
            try clear c11
            try clear c13
            try clear c13b0
            try clear c14
            try clear c14b0
            try clear c15
            try clear c15b0
            try clear c16
            try clear c16b0
            try clear c17
            try clear c17b0
            try clear c18
            try clear p19
            try clear q19
            try clear c25
            try clear c27
            try clear hx27
            try clear hf27
            try clear p28
            try clear q28
            try clear hx28
            try clear c29
            try clear p29
            try clear q29
            try clear hx29
            try clear c30
            try clear c30b0
            try clear c30b1
            try clear p30
            try clear q30
            try clear hx30
            try clear c31
            try clear c31b0
            try clear c31b1
            try clear c34
            try clear c34b0
            try clear c36
            try clear c36b0
            try clear c37
            try clear c37b0
            try clear c38
            try clear c38b0
            try clear c39
            try clear c39b0
            try clear c40
            try clear c40b0
            try clear hcz21_0
            try clear hcz21_1
            try clear hfz21_0
            try clear hfz21_1
            try clear hx27_0
            try clear hx288_0
            try clear hx288_1
            try clear hx290_0
            try clear hx299_0
            try clear hx300_0
            try clear p1
            try clear p19
            try clear p2
            try clear p28
            try clear p288
            try clear p29
            try clear p290
            try clear p299
            try clear p300
            try clear p6
            try clear q1
            try clear q19
            try clear q2
            try clear q28
            try clear q288
            try clear q29
            try clear q290
            try clear q299
            try clear q300
            obtain ⟨x13_4, x14_4, x64_4, rfl, rfl, HA, HK4, HO_5, HO_8, HO_11, HO_13, HI_13, HB⟩ := hrel
            cases gk with
            | zero => exact absurd HA.out (by simp [impl_labelsOf.l3])
            | succ k4 =>
             have H := HA.out
             clear HA
             simp only [impl_labelsOf.l3] at H
             by_cases c42 : x64_4 < ((rd_L4 x5_1 x51_3).length : Int)
             ·rw [if_pos c42] at H
              have c42b0 : decide (x64_4 < ((rd_L4 x5_1 x51_3).length : Int)) = true := decide_eq_true c42
              clear c42
              by_cases c43 : 0 ≤ x64_4; rotate_left
              ·rw [if_neg c43] at H; exact absurd H (by simp)
              rw [if_pos c43] at H
              have c43b0 : decide (0 ≤ x64_4) = true := decide_eq_true c43
              clear c43
              by_cases c44 : x64_4 < ((rd_L4 x5_1 x51_3).length : Int); rotate_left
              ·rw [if_neg c44] at H; exact absurd H (by simp)
              rw [if_pos c44] at H
              have c44b0 : decide (x64_4 < ((rd_L4 x5_1 x51_3).length : Int)) = true := decide_eq_true c44
              clear c44
              by_cases c45 : x14_4 = true
              ·subst c45
               have H1 : (if 0 ≤ (rd (rd_L4 x5_1 x51_3) x64_4) then (if (rd (rd_L4 x5_1 x51_3) x64_4) < (x8_2.length : Int) then (if x13_4.length < 17592186044416 then (impl_labelsOf.l3 k4 a0 x5_1 x8_2 x9_2 x10_3 x11_3 x51_3 (x13_4 ++ [rd x8_2 (rd (rd_L4 x5_1 x51_3) x64_4)]) (decide ((rd x8_2 (rd (rd_L4 x5_1 x51_3) x64_4)) > 0)) (x8_2.length : Int) x51_3 (rd_L4 x5_1 x51_3) ((rd_L4 x5_1 x51_3).length : Int) (wrap64 (x64_4 + 1))) else (none)) else (none)) else (none)) = some r := by rw [if_pos rfl] at H; exact H
               clear H
               have H := H1
               clear H1
               by_cases c46 : 0 ≤ (rd (rd_L4 x5_1 x51_3) x64_4); rotate_left
               ·rw [if_neg c46] at H; exact absurd H (by simp)
               rw [if_pos c46] at H
               have c46b0 : decide (0 ≤ (rd (rd_L4 x5_1 x51_3) x64_4)) = true := decide_eq_true c46
               clear c46
               by_cases c47 : (rd (rd_L4 x5_1 x51_3) x64_4) < (x8_2.length : Int); rotate_left
               ·rw [if_neg c47] at H; exact absurd H (by simp)
               rw [if_pos c47] at H
               have c47b0 : decide ((rd (rd_L4 x5_1 x51_3) x64_4) < (x8_2.length : Int)) = true := decide_eq_true c47
               clear c47
               by_cases c48 : x13_4.length < 17592186044416; rotate_left
               ·rw [if_neg c48] at H; exact absurd H (by simp)
               rw [if_pos c48] at H
               have LMc48 := Aside0.mk c48
               clear c48
               obtain ⟨y304, hy304⟩ : ∃ y_ : List Int, y_ = (x13_4 ++ [rd x8_2 (rd (rd_L4 x5_1 x51_3) x64_4)]) := ⟨_, rfl⟩
               replace H : (impl_labelsOf.l3 k4 a0 x5_1 x8_2 x9_2 x10_3 x11_3 x51_3 y304 (decide ((rd x8_2 (rd (rd_L4 x5_1 x51_3) x64_4)) > 0)) (x8_2.length : Int) x51_3 (rd_L4 x5_1 x51_3) ((rd_L4 x5_1 x51_3).length : Int) (wrap64 (x64_4 + 1))) = some r := by first | (rw [hy304]; with_reducible exact H) | (have H2_ := (Option.bind_some _ _).symm.trans H; rw [hy304]; with_reducible exact H2_) | (have H2_ := (Option.bind_some _ _).symm.trans H; with_reducible exact H2_) | with_reducible exact H | (rw [hy304]; exact H) | exact H
               have Ny304 := Aside0.mk hy304
               clear hy304
               have H' := Aside0.mk H
               clear H
               have p301 : 0 ≤ (x64_4 : Int) := oD
               have q301 : x64_4 < ((rd_L4 x5_1 x51_3).length : Int) := oD
               obtain ⟨ad301, e301, hx301_0⟩ := Kd.at_int (Kd.R_reads' HI_13.out).2.2 x64_4 p301 q301
               cases e301
               skip
               replace p301 := eq_true p301
               replace q301 := eq_true q301
               have p302 : 0 ≤ ((rd (rd_L4 x5_1 x51_3) x64_4) : Int) := oD
               have q302 : (rd (rd_L4 x5_1 x51_3) x64_4) < (x8_2.length : Int) := oD
               obtain ⟨ad302, e302, hx302_0⟩ := Kd.at_int (Kd.R_reads' HO_8.out).2.2 (rd (rd_L4 x5_1 x51_3) x64_4) p302 q302
               obtain rfl : ad299 = ad302 := (by injection e302)
               replace p302 := eq_true p302
               replace q302 := eq_true q302
               have p303 : 0 ≤ ((rd (rd_L4 x5_1 x51_3) x64_4) : Int) := oD
               have q303 : (rd (rd_L4 x5_1 x51_3) x64_4) < (x8_2.length : Int) := oD
               obtain ⟨ad303, e303, hx303_0⟩ := Kd.at_int (Kd.R_reads' HO_8.out).2.2 (rd (rd_L4 x5_1 x51_3) x64_4) p303 q303
               obtain rfl : ad299 = ad303 := (by injection e303)
               replace p303 := eq_true p303
               replace q303 := eq_true q303
               go_wp2_with (first | ((with_reducible refine gate_builtin (b := .append) (xs := #[.tmp 76, .tmp 81]) rfl ?_); at_builtin; refine Kd.R_append (Kd.int .i64) (w0 := w) w.heap.size rfl (.tmp 76) (.tmp 81) 34 3 (.int .i64 0) 8 rfl Try.underlying34 info3 rfl (by decide) (by omega) u13 x13_4 (rd x8_2 (rd (rd_L4 x5_1 x51_3) x64_4)) [.int .i64 (rd x8_2 (rd (rd_L4 x5_1 x51_3) x64_4))] (fun k_ => some k_ ≠ (.slice (some ad299) x8_2.length co35 : Value).ownBlock ∧ some k_ ≠ (u11 : Value).ownBlock) (fun _ => False) rfl rfl ?aP (fun _ hk => hk.elim) ?aF ?aO ?aB ?aS ?aL ?_; (case aP => exact rfl); (case aB => exact bB); (case aF => exact (fun k_ hk => ⟨Kd.fresh' (Kd.R_lt (by (with_reducible repeat (first | apply Kd.R_alloc | apply Kd.R_drewN | apply Kd.R_drew)); exact HO_8.out)) k_ hk, Kd.fresh' (Kd.R_lt (by (with_reducible repeat (first | apply Kd.R_alloc | apply Kd.R_drewN | apply Kd.R_drew)); exact HO_11.out)) k_ hk⟩)); (case aO => exact (by (with_reducible repeat (first | apply Kd.R_alloc | apply Kd.R_drewN | apply Kd.R_drew)); exact HO_13.out)); (case aS => exact (below_size bB)); (case aL => have := LMc48.out; omega); intro v305 w49 ho hb hg hat; rw [← Ny304.out] at ho; have n9_ := Aside0.mk (Kd.R_after (ok := (fun _ => True)) (by (with_reducible repeat (first | apply Kd.R_alloc | apply Kd.R_drewN | apply Kd.R_drew)); exact HI_13.out) hg hat); have n0_ := Aside0.mk (Kd.S_after (ok := (fun k_ => some k_ ≠ (.slice (some ad299) x8_2.length co35 : Value).ownBlock ∧ some k_ ≠ (u11 : Value).ownBlock)) (by (with_reducible repeat (first | apply Kd.S_alloc | apply Kd.S_drewN | apply Kd.S_drew)); exact Kd.S_mono HO_5.out (fun _ hk => ⟨⟨hk.1, hk.2.1⟩, hk.2.2⟩)) hg hat); have n1_ := Aside0.mk (Kd.R_after (ok := (fun k_ => some k_ ≠ (u11 : Value).ownBlock)) (by (with_reducible repeat (first | apply Kd.R_alloc | apply Kd.R_drewN | apply Kd.R_drew)); exact HO_8.out) hg hat); have n2_ := Aside0.mk (Kd.R_after (ok := (fun k_ => some k_ ≠ (.slice (some ad299) x8_2.length co35 : Value).ownBlock)) (by (with_reducible repeat (first | apply Kd.R_alloc | apply Kd.R_drewN | apply Kd.R_drew)); exact HO_11.out) hg hat); have n3_ := Aside0.mk (hb); have n4_ := Aside0.mk (ho); clear HO_5; clear HO_8; clear HO_11; clear HB; clear HO_13; have HO_5 := n0_; have HO_8 := n1_; have HO_11 := n2_; have HB := n3_; have HO306 := n4_; clear n0_ n1_ n2_ n3_ n4_; clear HI_13; have HI_13 := n9_; clear n9_; clear ho hb hg hat))
               go_roundg k4
               case measure => have := HK1.out; have := HK2.out; have := HK3.out; have := HK4.out; omega
               case rel => exact ⟨(y304), (decide ((rd x8_2 (rd (rd_L4 x5_1 x51_3) x64_4)) > 0)), (wrap64 (x64_4 + 1)), sD, sD, H', ⟨by have := HK1.out; have := HK2.out; have := HK3.out; have := HK4.out; omega⟩, ⟨by (with_reducible repeat (first | apply Kd.S_alloc | apply Kd.S_drewN | apply Kd.S_drew)); exact Kd.S_mono HO_5.out (fun _ hk => ⟨hk.1.1, ⟨hk.1.2, hk.2⟩⟩)⟩, ⟨kR⟩, ⟨kR⟩, ⟨kR⟩, ⟨by (with_reducible repeat (first | apply Kd.R_alloc | apply Kd.R_drewN | apply Kd.R_drew)); exact HI_13.out⟩, ⟨by repeat (first | (with_reducible first | exact HB.out | apply below_alloc | apply pw_below_drewN | apply below_drew1) | exact HB.out)⟩⟩
              ·replace c45 := Bool.eq_false_iff.mpr c45
               subst c45
               have H1 : (if 0 ≤ (rd (rd_L4 x5_1 x51_3) x64_4) then (if (rd (rd_L4 x5_1 x51_3) x64_4) < (x8_2.length : Int) then (if x13_4.length < 17592186044416 then (impl_labelsOf.l3 k4 a0 x5_1 x8_2 x9_2 x10_3 x11_3 x51_3 (x13_4 ++ [rd x8_2 (rd (rd_L4 x5_1 x51_3) x64_4)]) false (x8_2.length : Int) x51_3 (rd_L4 x5_1 x51_3) ((rd_L4 x5_1 x51_3).length : Int) (wrap64 (x64_4 + 1))) else (none)) else (none)) else (none)) = some r := by rw [if_neg (show ¬ (false = true) by decide)] at H; exact H
               clear H
               have H := H1
               clear H1
               by_cases c50 : 0 ≤ (rd (rd_L4 x5_1 x51_3) x64_4); rotate_left
               ·rw [if_neg c50] at H; exact absurd H (by simp)
               rw [if_pos c50] at H
               have c50b0 : decide (0 ≤ (rd (rd_L4 x5_1 x51_3) x64_4)) = true := decide_eq_true c50
               clear c50
               by_cases c51 : (rd (rd_L4 x5_1 x51_3) x64_4) < (x8_2.length : Int); rotate_left
               ·rw [if_neg c51] at H; exact absurd H (by simp)
               rw [if_pos c51] at H
               have c51b0 : decide ((rd (rd_L4 x5_1 x51_3) x64_4) < (x8_2.length : Int)) = true := decide_eq_true c51
               clear c51
               by_cases c52 : x13_4.length < 17592186044416; rotate_left
               ·rw [if_neg c52] at H; exact absurd H (by simp)
               rw [if_pos c52] at H
               have LMc52 := Aside0.mk c52
               clear c52
               obtain ⟨y308, hy308⟩ : ∃ y_ : List Int, y_ = (x13_4 ++ [rd x8_2 (rd (rd_L4 x5_1 x51_3) x64_4)]) := ⟨_, rfl⟩
               replace H : (impl_labelsOf.l3 k4 a0 x5_1 x8_2 x9_2 x10_3 x11_3 x51_3 y308 false (x8_2.length : Int) x51_3 (rd_L4 x5_1 x51_3) ((rd_L4 x5_1 x51_3).length : Int) (wrap64 (x64_4 + 1))) = some r := by first | (rw [hy308]; with_reducible exact H) | (have H2_ := (Option.bind_some _ _).symm.trans H; rw [hy308]; with_reducible exact H2_) | (have H2_ := (Option.bind_some _ _).symm.trans H; with_reducible exact H2_) | with_reducible exact H | (rw [hy308]; exact H) | exact H
               have Ny308 := Aside0.mk hy308
               clear hy308
               have H' := Aside0.mk H
               clear H
               have p301 : 0 ≤ (x64_4 : Int) := oD
               have q301 : x64_4 < ((rd_L4 x5_1 x51_3).length : Int) := oD
               obtain ⟨ad301, e301, hx301_0⟩ := Kd.at_int (Kd.R_reads' HI_13.out).2.2 x64_4 p301 q301
               cases e301
               skip
               replace p301 := eq_true p301
               replace q301 := eq_true q301
               have p307 : 0 ≤ ((rd (rd_L4 x5_1 x51_3) x64_4) : Int) := oD
               have q307 : (rd (rd_L4 x5_1 x51_3) x64_4) < (x8_2.length : Int) := oD
               obtain ⟨ad307, e307, hx307_0⟩ := Kd.at_int (Kd.R_reads' HO_8.out).2.2 (rd (rd_L4 x5_1 x51_3) x64_4) p307 q307
               obtain rfl : ad299 = ad307 := (by injection e307)
               replace p307 := eq_true p307
               replace q307 := eq_true q307
               go_wp2_with (first | ((with_reducible refine gate_builtin (b := .append) (xs := #[.tmp 76, .tmp 81]) rfl ?_); at_builtin; refine Kd.R_append (Kd.int .i64) (w0 := w) w.heap.size rfl (.tmp 76) (.tmp 81) 34 3 (.int .i64 0) 8 rfl Try.underlying34 info3 rfl (by decide) (by omega) u13 x13_4 (rd x8_2 (rd (rd_L4 x5_1 x51_3) x64_4)) [.int .i64 (rd x8_2 (rd (rd_L4 x5_1 x51_3) x64_4))] (fun k_ => some k_ ≠ (.slice (some ad299) x8_2.length co35 : Value).ownBlock ∧ some k_ ≠ (u11 : Value).ownBlock) (fun _ => False) rfl rfl ?aP (fun _ hk => hk.elim) ?aF ?aO ?aB ?aS ?aL ?_; (case aP => exact rfl); (case aB => exact bB); (case aF => exact (fun k_ hk => ⟨Kd.fresh' (Kd.R_lt (by (with_reducible repeat (first | apply Kd.R_alloc | apply Kd.R_drewN | apply Kd.R_drew)); exact HO_8.out)) k_ hk, Kd.fresh' (Kd.R_lt (by (with_reducible repeat (first | apply Kd.R_alloc | apply Kd.R_drewN | apply Kd.R_drew)); exact HO_11.out)) k_ hk⟩)); (case aO => exact (by (with_reducible repeat (first | apply Kd.R_alloc | apply Kd.R_drewN | apply Kd.R_drew)); exact HO_13.out)); (case aS => exact (below_size bB)); (case aL => have := LMc52.out; omega); intro v309 w53 ho hb hg hat; rw [← Ny308.out] at ho; have n9_ := Aside0.mk (Kd.R_after (ok := (fun _ => True)) (by (with_reducible repeat (first | apply Kd.R_alloc | apply Kd.R_drewN | apply Kd.R_drew)); exact HI_13.out) hg hat); have n0_ := Aside0.mk (Kd.S_after (ok := (fun k_ => some k_ ≠ (.slice (some ad299) x8_2.length co35 : Value).ownBlock ∧ some k_ ≠ (u11 : Value).ownBlock)) (by (with_reducible repeat (first | apply Kd.S_alloc | apply Kd.S_drewN | apply Kd.S_drew)); exact Kd.S_mono HO_5.out (fun _ hk => ⟨⟨hk.1, hk.2.1⟩, hk.2.2⟩)) hg hat); have n1_ := Aside0.mk (Kd.R_after (ok := (fun k_ => some k_ ≠ (u11 : Value).ownBlock)) (by (with_reducible repeat (first | apply Kd.R_alloc | apply Kd.R_drewN | apply Kd.R_drew)); exact HO_8.out) hg hat); have n2_ := Aside0.mk (Kd.R_after (ok := (fun k_ => some k_ ≠ (.slice (some ad299) x8_2.length co35 : Value).ownBlock)) (by (with_reducible repeat (first | apply Kd.R_alloc | apply Kd.R_drewN | apply Kd.R_drew)); exact HO_11.out) hg hat); have n3_ := Aside0.mk (hb); have n4_ := Aside0.mk (ho); clear HO_5; clear HO_8; clear HO_11; clear HB; clear HO_13; have HO_5 := n0_; have HO_8 := n1_; have HO_11 := n2_; have HB := n3_; have HO310 := n4_; clear n0_ n1_ n2_ n3_ n4_; clear HI_13; have HI_13 := n9_; clear n9_; clear ho hb hg hat))
               go_roundg k4
               case measure => have := HK1.out; have := HK2.out; have := HK3.out; have := HK4.out; omega
               case rel => exact ⟨(y308), (false), (wrap64 (x64_4 + 1)), sD, sD, H', ⟨by have := HK1.out; have := HK2.out; have := HK3.out; have := HK4.out; omega⟩, ⟨by (with_reducible repeat (first | apply Kd.S_alloc | apply Kd.S_drewN | apply Kd.S_drew)); exact Kd.S_mono HO_5.out (fun _ hk => ⟨hk.1.1, ⟨hk.1.2, hk.2⟩⟩)⟩, ⟨kR⟩, ⟨kR⟩, ⟨kR⟩, ⟨by (with_reducible repeat (first | apply Kd.R_alloc | apply Kd.R_drewN | apply Kd.R_drew)); exact HI_13.out⟩, ⟨by repeat (first | (with_reducible first | exact HB.out | apply below_alloc | apply pw_below_drewN | apply below_drew1) | exact HB.out)⟩⟩
             ·rw [if_neg c42] at H
              have c42b0 : decide (x64_4 < ((rd_L4 x5_1 x51_3).length : Int)) = false := decide_eq_false c42
              clear c42
              replace H := Option.bind_eq_some_iff.mp H
              obtain ⟨t311, A540, H⟩ := H
              replace H : (if x14_4 = true then (if x10_3 < 0 then (impl_labelsOf.l2 k4 a0 x5_1 x8_2 x9_2 x51_3 t311 (x8_2.length : Int) (wrap64 (x51_3 + 1))) else ((impl_compareLists.f k4 t311 x11_3).bind fun t314 => (if t314 < 0 then (impl_labelsOf.l2 k4 a0 x5_1 x8_2 x9_2 x51_3 t311 (x8_2.length : Int) (wrap64 (x51_3 + 1))) else (impl_labelsOf.l2 k4 a0 x5_1 x8_2 x9_2 x10_3 x11_3 (x8_2.length : Int) (wrap64 (x51_3 + 1)))))) else (impl_labelsOf.l2 k4 a0 x5_1 x8_2 x9_2 x10_3 x11_3 (x8_2.length : Int) (wrap64 (x51_3 + 1)))) = some r := H
              have A54 := Aside0.mk A540
              clear A540
              by_cases c55 : x14_4 = true
              ·subst c55
               have H1 : (if x10_3 < 0 then (impl_labelsOf.l2 k4 a0 x5_1 x8_2 x9_2 x51_3 t311 (x8_2.length : Int) (wrap64 (x51_3 + 1))) else ((impl_compareLists.f k4 t311 x11_3).bind fun t314 => (if t314 < 0 then (impl_labelsOf.l2 k4 a0 x5_1 x8_2 x9_2 x51_3 t311 (x8_2.length : Int) (wrap64 (x51_3 + 1))) else (impl_labelsOf.l2 k4 a0 x5_1 x8_2 x9_2 x10_3 x11_3 (x8_2.length : Int) (wrap64 (x51_3 + 1)))))) = some r := by rw [if_pos rfl] at H; exact H
               clear H
               have H := H1
               clear H1
               by_cases c56 : x10_3 < 0
               ·rw [if_pos c56] at H
                have c56b0 : decide (x10_3 < 0) = true := decide_eq_true c56
                clear c56
                have H' := Aside0.mk H
                clear H
                obtain ⟨Ao57, co57, eo57⟩ := Kd.R_slice HO_13.out
                subst eo57
                go_wp2_with (first | ((with_reducible refine gate_callee (f := 113) rfl ?_); refine goesL_ (some 85) rfl rfl Try.func113 (by kernel_rfl) rfl #[.slice Ao57 x13_4.length co57, .func (.func 114) #[] #[]] rfl aE ?_; (with_reducible refine (impl_sortedBy_114.calls _ _ x13_4 t311 _ ?side1 ?side2 A54.out).mono ?_); (case side1 => exact cK ((Kd.R_reads' HO_13.out).2.2)); (case side2 => exact (Kd.R_reads' HO_13.out).2.1); rintro e w58 ⟨v312, rfl, ho0, hb⟩; refine ⟨_, rfl, ?_⟩; have n0_ := Aside0.mk (Kd.S_elder' (by (with_reducible repeat (first | apply Kd.S_alloc | apply Kd.S_drewN | apply Kd.S_drew)); exact HO_5.out) (Kd.R_base ho0) hb); have n1_ := Aside0.mk (Kd.R_elder' (by (with_reducible repeat (first | apply Kd.R_alloc | apply Kd.R_drewN | apply Kd.R_drew)); exact HO_8.out) (Kd.R_base ho0) hb); have n2_ := Aside0.mk (Kd.R_elder' (by (with_reducible repeat (first | apply Kd.R_alloc | apply Kd.R_drewN | apply Kd.R_drew)); exact HO_11.out) (Kd.R_base ho0) hb); have n3_ := Aside0.mk (Kd.R_elder' (by (with_reducible repeat (first | apply Kd.R_alloc | apply Kd.R_drewN | apply Kd.R_drew)); exact HO_13.out) (Kd.R_base ho0) hb); have n4_ := Aside0.mk (Kd.R_lower (Kd.R_new' (Kd.R_new' (Kd.R_new' ho0 (Kd.R_lt (by (with_reducible repeat (first | apply Kd.R_alloc | apply Kd.R_drewN | apply Kd.R_drew)); exact HO_8.out))) (Kd.R_lt (by (with_reducible repeat (first | apply Kd.R_alloc | apply Kd.R_drewN | apply Kd.R_drew)); exact HO_11.out))) (Kd.R_lt (by (with_reducible repeat (first | apply Kd.R_alloc | apply Kd.R_drewN | apply Kd.R_drew)); exact HO_13.out))) (below_size bB)); have n5_ := Aside0.mk (below_step bB hb); clear HO_5; clear HO_8; clear HO_11; clear HO_13; clear HB; have HO_5 := n0_; have HO_8 := n1_; have HO_11 := n2_; have HO_13 := n3_; have HO313 := n4_; have HB := n5_; clear n0_ n1_ n2_ n3_ n4_ n5_; (try clear hb); (try clear hk); (try clear ho0)))
                go_roundg k4
                case measure => have := HK1.out; have := HK2.out; have := HK3.out; have := HK4.out; omega
                case rel => exact ⟨(x51_3), (t311), (wrap64 (x51_3 + 1)), sD, sD, H', ⟨by have := HK1.out; have := HK2.out; have := HK3.out; have := HK4.out; omega⟩, ⟨by (with_reducible repeat (first | apply Kd.S_alloc | apply Kd.S_drewN | apply Kd.S_drew)); exact Kd.S_mono HO_5.out (fun _ hk => ⟨hk.1.1, hk.2⟩)⟩, ⟨by (with_reducible repeat (first | apply Kd.R_alloc | apply Kd.R_drewN | apply Kd.R_drew)); exact Kd.R_mono HO_8.out (fun _ hk => hk.2)⟩, ⟨by (with_reducible repeat (first | apply Kd.R_alloc | apply Kd.R_drewN | apply Kd.R_drew)); exact Kd.R_mono HO313.out (fun _ hk => hk.1.1.2)⟩, ⟨by repeat (first | (with_reducible first | exact HB.out | apply below_alloc | apply pw_below_drewN | apply below_drew1) | exact HB.out)⟩⟩
               ·rw [if_neg c56] at H
                have c56b0 : decide (x10_3 < 0) = false := decide_eq_false c56
                clear c56
                replace H := Option.bind_eq_some_iff.mp H
                obtain ⟨t314, A590, H⟩ := H
                replace H : (if t314 < 0 then (impl_labelsOf.l2 k4 a0 x5_1 x8_2 x9_2 x51_3 t311 (x8_2.length : Int) (wrap64 (x51_3 + 1))) else (impl_labelsOf.l2 k4 a0 x5_1 x8_2 x9_2 x10_3 x11_3 (x8_2.length : Int) (wrap64 (x51_3 + 1)))) = some r := H
                have A59 := Aside0.mk A590
                clear A590
                by_cases c60 : t314 < 0
                ·rw [if_pos c60] at H
                 have c60b0 : decide (t314 < 0) = true := decide_eq_true c60
                 clear c60
                 have H' := Aside0.mk H
                 clear H
                 obtain ⟨Ao61, co61, eo61⟩ := Kd.R_slice HO_13.out
                 subst eo61
                 go_wp2_with (first | ((with_reducible refine gate_callee (f := 113) rfl ?_); refine goesL_ (some 85) rfl rfl Try.func113 (by kernel_rfl) rfl #[.slice Ao61 x13_4.length co61, .func (.func 114) #[] #[]] rfl aE ?_; (with_reducible refine (impl_sortedBy_114.calls _ _ x13_4 t311 _ ?side1 ?side2 A54.out).mono ?_); (case side1 => exact cK ((Kd.R_reads' HO_13.out).2.2)); (case side2 => exact (Kd.R_reads' HO_13.out).2.1); rintro e w62 ⟨v312, rfl, ho0, hb⟩; refine ⟨_, rfl, ?_⟩; have n0_ := Aside0.mk (Kd.S_elder' (by (with_reducible repeat (first | apply Kd.S_alloc | apply Kd.S_drewN | apply Kd.S_drew)); exact HO_5.out) (Kd.R_base ho0) hb); have n1_ := Aside0.mk (Kd.R_elder' (by (with_reducible repeat (first | apply Kd.R_alloc | apply Kd.R_drewN | apply Kd.R_drew)); exact HO_8.out) (Kd.R_base ho0) hb); have n2_ := Aside0.mk (Kd.R_elder' (by (with_reducible repeat (first | apply Kd.R_alloc | apply Kd.R_drewN | apply Kd.R_drew)); exact HO_11.out) (Kd.R_base ho0) hb); have n3_ := Aside0.mk (Kd.R_elder' (by (with_reducible repeat (first | apply Kd.R_alloc | apply Kd.R_drewN | apply Kd.R_drew)); exact HO_13.out) (Kd.R_base ho0) hb); have n4_ := Aside0.mk (Kd.R_lower (Kd.R_new' (Kd.R_new' (Kd.R_new' ho0 (Kd.R_lt (by (with_reducible repeat (first | apply Kd.R_alloc | apply Kd.R_drewN | apply Kd.R_drew)); exact HO_8.out))) (Kd.R_lt (by (with_reducible repeat (first | apply Kd.R_alloc | apply Kd.R_drewN | apply Kd.R_drew)); exact HO_11.out))) (Kd.R_lt (by (with_reducible repeat (first | apply Kd.R_alloc | apply Kd.R_drewN | apply Kd.R_drew)); exact HO_13.out))) (below_size bB)); have n5_ := Aside0.mk (below_step bB hb); clear HO_5; clear HO_8; clear HO_11; clear HO_13; clear HB; have HO_5 := n0_; have HO_8 := n1_; have HO_11 := n2_; have HO_13 := n3_; have HO313 := n4_; have HB := n5_; clear n0_ n1_ n2_ n3_ n4_ n5_; (try clear hb); (try clear hk); (try clear ho0); obtain ⟨Ao63, co63, eo63⟩ := Kd.R_slice HO313.out; subst eo63; obtain ⟨Ao64, co64, eo64⟩ := Kd.R_slice HO_11.out; subst eo64) | (go_at_call 109; (with_reducible refine (impl_compareLists.calls k4 _ _ t311 _ _ x11_3 t314 _ ?side1 ?side2 ?side3 ?side4 A59.out).mono ?_); (case side1 => exact cK ((Kd.R_reads' HO313.out).2.2)); (case side2 => exact (Kd.R_reads' HO313.out).2.1); (case side3 => exact cK ((Kd.R_reads' HO_11.out).2.2)); (case side4 => exact (Kd.R_reads' HO_11.out).2.1); rintro e w' ⟨rfl, ⟨nd, rfl⟩⟩))
                 go_roundg k4
                 case measure => have := HK1.out; have := HK2.out; have := HK3.out; have := HK4.out; omega
                 case rel => exact ⟨(x51_3), (t311), (wrap64 (x51_3 + 1)), sD, sD, H', ⟨by have := HK1.out; have := HK2.out; have := HK3.out; have := HK4.out; omega⟩, ⟨by (with_reducible repeat (first | apply Kd.S_alloc | apply Kd.S_drewN | apply Kd.S_drew)); exact Kd.S_mono HO_5.out (fun _ hk => ⟨hk.1.1, hk.2⟩)⟩, ⟨by (with_reducible repeat (first | apply Kd.R_alloc | apply Kd.R_drewN | apply Kd.R_drew)); exact Kd.R_mono HO_8.out (fun _ hk => hk.2)⟩, ⟨by (with_reducible repeat (first | apply Kd.R_alloc | apply Kd.R_drewN | apply Kd.R_drew)); exact Kd.R_mono HO313.out (fun _ hk => hk.1.1.2)⟩, ⟨by repeat (first | (with_reducible first | exact HB.out | apply below_alloc | apply pw_below_drewN | apply below_drew1) | exact HB.out)⟩⟩
                ·rw [if_neg c60] at H
                 have c60b0 : decide (t314 < 0) = false := decide_eq_false c60
                 clear c60
                 have H' := Aside0.mk H
                 clear H
                 obtain ⟨Ao65, co65, eo65⟩ := Kd.R_slice HO_13.out
                 subst eo65
                 go_wp2_with (first | ((with_reducible refine gate_callee (f := 113) rfl ?_); refine goesL_ (some 85) rfl rfl Try.func113 (by kernel_rfl) rfl #[.slice Ao65 x13_4.length co65, .func (.func 114) #[] #[]] rfl aE ?_; (with_reducible refine (impl_sortedBy_114.calls _ _ x13_4 t311 _ ?side1 ?side2 A54.out).mono ?_); (case side1 => exact cK ((Kd.R_reads' HO_13.out).2.2)); (case side2 => exact (Kd.R_reads' HO_13.out).2.1); rintro e w66 ⟨v312, rfl, ho0, hb⟩; refine ⟨_, rfl, ?_⟩; have n0_ := Aside0.mk (Kd.S_elder' (by (with_reducible repeat (first | apply Kd.S_alloc | apply Kd.S_drewN | apply Kd.S_drew)); exact HO_5.out) (Kd.R_base ho0) hb); have n1_ := Aside0.mk (Kd.R_elder' (by (with_reducible repeat (first | apply Kd.R_alloc | apply Kd.R_drewN | apply Kd.R_drew)); exact HO_8.out) (Kd.R_base ho0) hb); have n2_ := Aside0.mk (Kd.R_elder' (by (with_reducible repeat (first | apply Kd.R_alloc | apply Kd.R_drewN | apply Kd.R_drew)); exact HO_11.out) (Kd.R_base ho0) hb); have n3_ := Aside0.mk (Kd.R_elder' (by (with_reducible repeat (first | apply Kd.R_alloc | apply Kd.R_drewN | apply Kd.R_drew)); exact HO_13.out) (Kd.R_base ho0) hb); have n4_ := Aside0.mk (Kd.R_lower (Kd.R_new' (Kd.R_new' (Kd.R_new' ho0 (Kd.R_lt (by (with_reducible repeat (first | apply Kd.R_alloc | apply Kd.R_drewN | apply Kd.R_drew)); exact HO_8.out))) (Kd.R_lt (by (with_reducible repeat (first | apply Kd.R_alloc | apply Kd.R_drewN | apply Kd.R_drew)); exact HO_11.out))) (Kd.R_lt (by (with_reducible repeat (first | apply Kd.R_alloc | apply Kd.R_drewN | apply Kd.R_drew)); exact HO_13.out))) (below_size bB)); have n5_ := Aside0.mk (below_step bB hb); clear HO_5; clear HO_8; clear HO_11; clear HO_13; clear HB; have HO_5 := n0_; have HO_8 := n1_; have HO_11 := n2_; have HO_13 := n3_; have HO313 := n4_; have HB := n5_; clear n0_ n1_ n2_ n3_ n4_ n5_; (try clear hb); (try clear hk); (try clear ho0); obtain ⟨Ao67, co67, eo67⟩ := Kd.R_slice HO313.out; subst eo67; obtain ⟨Ao68, co68, eo68⟩ := Kd.R_slice HO_11.out; subst eo68) | (go_at_call 109; (with_reducible refine (impl_compareLists.calls k4 _ _ t311 _ _ x11_3 t314 _ ?side1 ?side2 ?side3 ?side4 A59.out).mono ?_); (case side1 => exact cK ((Kd.R_reads' HO313.out).2.2)); (case side2 => exact (Kd.R_reads' HO313.out).2.1); (case side3 => exact cK ((Kd.R_reads' HO_11.out).2.2)); (case side4 => exact (Kd.R_reads' HO_11.out).2.1); rintro e w' ⟨rfl, ⟨nd, rfl⟩⟩))
                 go_roundg k4
                 case measure => have := HK1.out; have := HK2.out; have := HK3.out; have := HK4.out; omega
                 case rel => exact ⟨(x10_3), (x11_3), (wrap64 (x51_3 + 1)), sD, sD, H', ⟨by have := HK1.out; have := HK2.out; have := HK3.out; have := HK4.out; omega⟩, ⟨by (with_reducible repeat (first | apply Kd.S_alloc | apply Kd.S_drewN | apply Kd.S_drew)); exact Kd.S_mono HO_5.out (fun _ hk => ⟨hk.1.1, hk.1.2.1⟩)⟩, ⟨by (with_reducible repeat (first | apply Kd.R_alloc | apply Kd.R_drewN | apply Kd.R_drew)); exact Kd.R_mono HO_8.out (fun _ hk => hk.1.1)⟩, ⟨by (with_reducible repeat (first | apply Kd.R_alloc | apply Kd.R_drewN | apply Kd.R_drew)); exact Kd.R_mono HO_11.out (fun _ hk => hk.1.1)⟩, ⟨by repeat (first | (with_reducible first | exact HB.out | apply below_alloc | apply pw_below_drewN | apply below_drew1) | exact HB.out)⟩⟩
              ·replace c55 := Bool.eq_false_iff.mpr c55
               subst c55
               have H1 : (impl_labelsOf.l2 k4 a0 x5_1 x8_2 x9_2 x10_3 x11_3 (x8_2.length : Int) (wrap64 (x51_3 + 1))) = some r := by rw [if_neg (show ¬ (false = true) by decide)] at H; exact H
               clear H
               have H := H1
               clear H1
               have H' := Aside0.mk H
               clear H
               obtain ⟨Ao69, co69, eo69⟩ := Kd.R_slice HO_13.out
               subst eo69
               go_wp2_with (first | ((with_reducible refine gate_callee (f := 113) rfl ?_); refine goesL_ (some 85) rfl rfl Try.func113 (by kernel_rfl) rfl #[.slice Ao69 x13_4.length co69, .func (.func 114) #[] #[]] rfl aE ?_; (with_reducible refine (impl_sortedBy_114.calls _ _ x13_4 t311 _ ?side1 ?side2 A54.out).mono ?_); (case side1 => exact cK ((Kd.R_reads' HO_13.out).2.2)); (case side2 => exact (Kd.R_reads' HO_13.out).2.1); rintro e w70 ⟨v312, rfl, ho0, hb⟩; refine ⟨_, rfl, ?_⟩; have n0_ := Aside0.mk (Kd.S_elder' (by (with_reducible repeat (first | apply Kd.S_alloc | apply Kd.S_drewN | apply Kd.S_drew)); exact HO_5.out) (Kd.R_base ho0) hb); have n1_ := Aside0.mk (Kd.R_elder' (by (with_reducible repeat (first | apply Kd.R_alloc | apply Kd.R_drewN | apply Kd.R_drew)); exact HO_8.out) (Kd.R_base ho0) hb); have n2_ := Aside0.mk (Kd.R_elder' (by (with_reducible repeat (first | apply Kd.R_alloc | apply Kd.R_drewN | apply Kd.R_drew)); exact HO_11.out) (Kd.R_base ho0) hb); have n3_ := Aside0.mk (Kd.R_elder' (by (with_reducible repeat (first | apply Kd.R_alloc | apply Kd.R_drewN | apply Kd.R_drew)); exact HO_13.out) (Kd.R_base ho0) hb); have n4_ := Aside0.mk (Kd.R_lower (Kd.R_new' (Kd.R_new' (Kd.R_new' ho0 (Kd.R_lt (by (with_reducible repeat (first | apply Kd.R_alloc | apply Kd.R_drewN | apply Kd.R_drew)); exact HO_8.out))) (Kd.R_lt (by (with_reducible repeat (first | apply Kd.R_alloc | apply Kd.R_drewN | apply Kd.R_drew)); exact HO_11.out))) (Kd.R_lt (by (with_reducible repeat (first | apply Kd.R_alloc | apply Kd.R_drewN | apply Kd.R_drew)); exact HO_13.out))) (below_size bB)); have n5_ := Aside0.mk (below_step bB hb); clear HO_5; clear HO_8; clear HO_11; clear HO_13; clear HB; have HO_5 := n0_; have HO_8 := n1_; have HO_11 := n2_; have HO_13 := n3_; have HO313 := n4_; have HB := n5_; clear n0_ n1_ n2_ n3_ n4_ n5_; (try clear hb); (try clear hk); (try clear ho0)))
               go_roundg k4
               case measure => have := HK1.out; have := HK2.out; have := HK3.out; have := HK4.out; omega
               case rel => exact ⟨(x10_3), (x11_3), (wrap64 (x51_3 + 1)), sD, sD, H', ⟨by have := HK1.out; have := HK2.out; have := HK3.out; have := HK4.out; omega⟩, ⟨by (with_reducible repeat (first | apply Kd.S_alloc | apply Kd.S_drewN | apply Kd.S_drew)); exact Kd.S_mono HO_5.out (fun _ hk => ⟨hk.1.1, hk.1.2.1⟩)⟩, ⟨by (with_reducible repeat (first | apply Kd.R_alloc | apply Kd.R_drewN | apply Kd.R_drew)); exact Kd.R_mono HO_8.out (fun _ hk => hk.1.1)⟩, ⟨by (with_reducible repeat (first | apply Kd.R_alloc | apply Kd.R_drewN | apply Kd.R_drew)); exact Kd.R_mono HO_11.out (fun _ hk => hk.1.1)⟩, ⟨by repeat (first | (with_reducible first | exact HB.out | apply below_alloc | apply pw_below_drewN | apply below_drew1) | exact HB.out)⟩⟩
         ·rw [if_neg c36] at H
          have c36b0 : decide (x51_3 < (x8_2.length : Int)) = false := decide_eq_false c36
          clear c36
          by_cases c71 : 0 ≤ x10_3; rotate_left
          ·rw [if_neg c71] at H; exact absurd H (by simp)
          rw [if_pos c71] at H
          have c71b0 : decide (0 ≤ x10_3) = true := decide_eq_true c71
          clear c71
          by_cases c72 : x10_3 < (x8_2.length : Int); rotate_left
          ·rw [if_neg c72] at H; exact absurd H (by simp)
          rw [if_pos c72] at H
          have c72b0 : decide (x10_3 < (x8_2.length : Int)) = true := decide_eq_true c72
          clear c72
          obtain ⟨y298, hy298⟩ : ∃ y_ : List Int, y_ = (x8_2.set (x10_3 : Int).toNat x9_2) := ⟨_, rfl⟩
          replace H : (impl_labelsOf.l1 k3 a0 x5_1 y298 (wrap64 (x9_2 + 1))) = some r := by first | (rw [hy298]; with_reducible exact H) | (have H2_ := (Option.bind_some _ _).symm.trans H; rw [hy298]; with_reducible exact H2_) | (have H2_ := (Option.bind_some _ _).symm.trans H; with_reducible exact H2_) | with_reducible exact H | (rw [hy298]; exact H) | exact H
          have Ny298 := Aside0.mk hy298
          clear hy298
          have H' := Aside0.mk H
          clear H
          have p73 : 0 ≤ (x10_3 : Int) := oD
          have q73 : (x10_3 : Int) < ((x8_2.length : Int) : Int) := oD
          obtain ⟨go73, co73, eo73, gb73, gl73, cl73, HG73⟩ := Kd.R_form HO_8.out (by omega)
          (first | cases eo73 | (injection eo73 with ea_ en_ ec_; (first | subst ea_ | (injection ea_ with ea_; subst ea_)); subst ec_; clear en_))
          have GB73 := Aside0.mk gb73
          have GG73 := Aside0.mk HG73
          clear gb73 gl73 HG73
          obtain ⟨hx73_0, hf73_0⟩ := Kd.R_celln 0 HO_8.out (x10_3 : Int) p73 q73
          replace p73 := eq_true p73
          replace q73 := eq_true q73
          have HP74 := Kd.R_putg HO_8.out (x10_3 : Int) x9_2
          go_wp2_with (first | ((with_reducible refine gate_store (t := 3) (p := 103) rfl ?_); refine store_event (t := 3) (p := 103) (v := ?vo_w75) (w1 := (wr.setCell ⟨go73, (x10_3 : Int).toNat, none⟩ (.int .i64 x9_2))) ?hg ?ho ?hn ?hr ?_; (case ho => rfl); (case hg => rfl); (case hn => rfl); (case hr => first | (go_simp; done) | (go_simp; rfl)); intro w75 hw; have hg : wr.grownBy w75 (some go73) := (by rw [hw]; exact HP74.2); have hp_ : Kd.R (Kd.int .i64) 3 w75 w.heap.size (fun k_ => some k_ ≠ (u11 : Value).ownBlock) (.slice (some ⟨go73, 0, none⟩) x8_2.length co35) y298 := (by rw [hw, Ny298.out]; exact HP74.1); clear HP74; have n0_ := Aside0.mk (Kd.S_after (v := (.slice (some ⟨go73, 0, none⟩) x8_2.length co35)) (v1 := (.slice (some ⟨go73, 0, none⟩) x8_2.length co35)) (ok := (fun k_ => some k_ ≠ (u11 : Value).ownBlock)) (by (with_reducible repeat (first | apply Kd.S_alloc | apply Kd.S_drewN | apply Kd.S_drew)); exact Kd.S_mono HO_5.out (fun _ hk => ⟨hk.2, hk.1⟩)) hg (.inl rfl)); have n1_ := Aside0.mk (hp_); have n2_ := Aside0.mk (Kd.R_after (v := (.slice (some ⟨go73, 0, none⟩) x8_2.length co35)) (v1 := (.slice (some ⟨go73, 0, none⟩) x8_2.length co35)) (ok := (fun _ => True)) (by (with_reducible repeat (first | apply Kd.R_alloc | apply Kd.R_drewN | apply Kd.R_drew)); exact Kd.R_mono HO_11.out (fun _ hk => ⟨trivial, hk⟩)) hg (.inl rfl)); have n3_ := Aside0.mk ((by rw [hw]; exact below_set (HB.out) GB73.out : Below w.heap.size w w75)); clear HO_5; clear HO_8; clear HO_11; clear HB; have HO_5 := n0_; have HO_8 := n1_; have HO_11 := n2_; have HB := n3_; clear n0_ n1_ n2_ n3_; clear hg hw hp_))
          go_roundg k3
          case measure => have := HK1.out; have := HK2.out; have := HK3.out; omega
          case rel => exact ⟨(y298), (wrap64 (x9_2 + 1)), sD, H', ⟨by have := HK1.out; have := HK2.out; have := HK3.out; omega⟩, ⟨by (with_reducible repeat (first | apply Kd.S_alloc | apply Kd.S_drewN | apply Kd.S_drew)); exact Kd.S_mono HO_5.out (fun _ hk => hk.2)⟩, ⟨by (with_reducible repeat (first | apply Kd.R_alloc | apply Kd.R_drewN | apply Kd.R_drew)); exact Kd.R_mono HO_8.out (fun _ hk => trivial)⟩, ⟨by repeat (first | (with_reducible first | exact HB.out | apply below_alloc | apply pw_below_drewN | apply below_drew1) | exact HB.out)⟩⟩
      ·rw [if_neg c34] at H
       have c34b0 : decide (x9_2 ≤ a0) = false := decide_eq_false c34
       clear c34
       obtain rfl := Option.some.inj H
       go_wp2
       go_ret
       exact ⟨_, by first | rfl | (simp [errW_none, errW_some] <;> rfl) | (simp [*, errW_none, errW_some] <;> rfl), by (with_reducible repeat (first | apply Kd.R_alloc | apply Kd.R_drewN | apply Kd.R_drew)); exact HO_8.out, bB⟩

end Go.Proofs.Ytecdigebnhlfhaa.OFnExactLabelsOf
