/- Functions of the program as plain Lean functions, with their contracts: written by this session's program ownprint.py. Conditions: none. -/
import Derived.Test.YtecdigebnhlfhaaOFnExactIsSharedx0
import Derived.Test.YtecdigebnhlfhaaOFnExactIsSharedx5
namespace Go.Proofs.Ytecdigebnhlfhaa.OFnExactIsShared
open Go.RowKit Go.Proofs.YtecdigebnhlfhaaW.PrintWords Go.Proofs.YtecdigebnhlfhaaW.PrintLast Go.Proofs.YtecdigebnhlfhaaW.PrintMore
attribute [local go_sem] max2_int min2_int max_two min_two max_three min_three max_four min_four   -- for this text's walks alone
set_option linter.unusedVariables false
set_option linter.unusedSimpArgs false

/-! ### spec_l7Shared: function 92 -/
mutual
def spec_l7Shared.l0 : Nat → List (S79) → List (List (S130)) → List Int → Int → Option (Bool)
 | 0, _, _, _, _ => none
 | k + 1, x0, x1, x5, x6 => if x6 < (x1.length : Int) then (spec_l7Shared.l1 k x0 x1 x5 x6 0 0) else (spec_l7Shared.l3 k x0 x5 0)
def spec_l7Shared.l1 : Nat → List (S79) → List (List (S130)) → List Int → Int → Int → Int → Option (Bool)
 | 0, _, _, _, _, _, _ => none
 | k + 1, x0, x1, x5, x6, x7, x8 => if 0 ≤ x6 then (if x6 < (x1.length : Int) then (if x8 < ((rd_L9 x1 x6).length : Int) then (if 0 ≤ x8 then ((spec_l3Job.f x0 ((rd_T130 (rd_L9 x1 x6) x8).f0)).bind fun t185 => (if t185 = true then (if ((rd_T130 (rd_L9 x1 x6) x8).f1) < x7 then (spec_l7Shared.j2 k x0 x1 x5 x6 x8 true ((rd_T130 (rd_L9 x1 x6) x8).f0) ((rd_T130 (rd_L9 x1 x6) x8).f1) ((rd_T130 (rd_L9 x1 x6) x8).f2)) else (if ((rd_T130 (rd_L9 x1 x6) x8).f2) ≤ ((rd_T130 (rd_L9 x1 x6) x8).f1) then (spec_l7Shared.j2 k x0 x1 x5 x6 x8 true ((rd_T130 (rd_L9 x1 x6) x8).f0) ((rd_T130 (rd_L9 x1 x6) x8).f1) ((rd_T130 (rd_L9 x1 x6) x8).f2)) else (spec_l7Shared.j2 k x0 x1 x5 x6 x8 (decide (((rd_T130 (rd_L9 x1 x6) x8).f2) > 1000)) ((rd_T130 (rd_L9 x1 x6) x8).f0) ((rd_T130 (rd_L9 x1 x6) x8).f1) ((rd_T130 (rd_L9 x1 x6) x8).f2)))) else (spec_l7Shared.j2 k x0 x1 x5 x6 x8 true ((rd_T130 (rd_L9 x1 x6) x8).f0) ((rd_T130 (rd_L9 x1 x6) x8).f1) ((rd_T130 (rd_L9 x1 x6) x8).f2)))) else (none)) else (spec_l7Shared.l0 k x0 x1 x5 (wrap64 (x6 + 1)))) else (none)) else (none)
def spec_l7Shared.j2 : Nat → List (S79) → List (List (S130)) → List Int → Int → Int → Bool → Int → Int → Int → Option (Bool)
 | 0, _, _, _, _, _, _, _, _, _ => none
 | k + 1, x0, x1, x5, x6, x8, x59, x185000, x185001, x185002 => if x59 = true then (some false) else (spec_l7Shared.l2 k x0 x1 x5 x6 x8 0 x185000 x185001 x185002)
def spec_l7Shared.l2 : Nat → List (S79) → List (List (S130)) → List Int → Int → Int → Int → Int → Int → Int → Option (Bool)
 | 0, _, _, _, _, _, _, _, _, _ => none
 | k + 1, x0, x1, x5, x6, x8, x10, x185000, x185001, x185002 => if x10 < x6 then (if 0 ≤ x10 then (if x10 < (x1.length : Int) then ((spec_l7Apart.f k x185000 x185001 x185002 (rd_L9 x1 x10)).bind fun t187 => (if t187 = true then (spec_l7Shared.l2 k x0 x1 x5 x6 x8 (wrap64 (x10 + 1)) x185000 x185001 x185002) else (some false))) else (none)) else (none)) else (if 0 ≤ x185000 then (if x185000 < (x5.length : Int) then (spec_l7Shared.l1 k x0 x1 (x5.set (x185000 : Int).toNat (wrap64 ((wrap64 ((rd x5 x185000) + x185002)) - x185001))) x6 x185002 (wrap64 (x8 + 1))) else (none)) else (none))
def spec_l7Shared.l3 : Nat → List (S79) → List Int → Int → Option (Bool)
 | 0, _, _, _ => none
 | k + 1, x0, x5, x11 => if x11 < (x0.length : Int) then (if 0 ≤ x11 then (if x11 < (x5.length : Int) then (if (rd x5 x11) = ((rd_T79 x0 x11).f0) then (spec_l7Shared.l3 k x0 x5 (wrap64 (x11 + 1))) else (some false)) else (none)) else (none)) else (some true)
end
def spec_l7Shared.f (k : Nat) (l0 : List (S79)) (l1 : List (List (S130))) : Option (Bool) := if 0 ≤ (l0.length : Int) then (if ((l0.length : Int) : Int).toNat ≤ 35184372088832 then (spec_l7Shared.l0 k l0 l1 (List.replicate ((l0.length : Int) : Int).toNat 0) 0) else (none)) else (none)
theorem spec_l7Shared.mono_l : ∀ k, (∀ y0 y1 y2 y3, LeO (spec_l7Shared.l0 k y0 y1 y2 y3) (spec_l7Shared.l0 (k + 1) y0 y1 y2 y3)) ∧ (∀ y0 y1 y2 y3 y4 y5, LeO (spec_l7Shared.l1 k y0 y1 y2 y3 y4 y5) (spec_l7Shared.l1 (k + 1) y0 y1 y2 y3 y4 y5)) ∧ (∀ y0 y1 y2 y3 y4 y5 y6 y7 y8, LeO (spec_l7Shared.j2 k y0 y1 y2 y3 y4 y5 y6 y7 y8) (spec_l7Shared.j2 (k + 1) y0 y1 y2 y3 y4 y5 y6 y7 y8)) ∧ (∀ y0 y1 y2 y3 y4 y5 y6 y7 y8, LeO (spec_l7Shared.l2 k y0 y1 y2 y3 y4 y5 y6 y7 y8) (spec_l7Shared.l2 (k + 1) y0 y1 y2 y3 y4 y5 y6 y7 y8)) ∧ (∀ y0 y1 y2, LeO (spec_l7Shared.l3 k y0 y1 y2) (spec_l7Shared.l3 (k + 1) y0 y1 y2))
 | 0 => ⟨fun _ _ _ _ r h => by simp [spec_l7Shared.l0] at h, fun _ _ _ _ _ _ r h => by simp [spec_l7Shared.l1] at h, fun _ _ _ _ _ _ _ _ _ r h => by simp [spec_l7Shared.j2] at h, fun _ _ _ _ _ _ _ _ _ r h => by simp [spec_l7Shared.l2] at h, fun _ _ _ r h => by simp [spec_l7Shared.l3] at h⟩
 | k + 1 => by
  obtain ⟨ih0, ih1, ih2, ih3, ih4⟩ := spec_l7Shared.mono_l k
  refine ⟨?_, ?_, ?_, ?_, ?_⟩
  ·intro y0 y1 y2 y3
   unfold spec_l7Shared.l0
   repeat' first
   | (with_reducible exact ih0 _ _ _ _)
   | (with_reducible exact ih1 _ _ _ _ _ _)
   | (with_reducible exact ih2 _ _ _ _ _ _ _ _ _)
   | (with_reducible exact ih3 _ _ _ _ _ _ _ _ _)
   | (with_reducible exact ih4 _ _ _)
   | (with_reducible exact spec_l7Apart.mono _ _ _ _ _)
   | (with_reducible exact LeO.refl _)
   | (with_reducible exact LeO.none _)
   | (with_reducible refine LeO.ite ?_ ?_)
   | (with_reducible refine LeO.bind ?_ (fun _ => ?_))
   | exact ih0 _ _ _ _
   | exact ih1 _ _ _ _ _ _
   | exact ih2 _ _ _ _ _ _ _ _ _
   | exact ih3 _ _ _ _ _ _ _ _ _
   | exact ih4 _ _ _
   | exact spec_l7Apart.mono _ _ _ _ _
   | exact LeO.none _
   | refine LeO.ite ?_ ?_
   | refine LeO.bind ?_ (fun _ => ?_)
  ·intro y0 y1 y2 y3 y4 y5
   unfold spec_l7Shared.l1
   repeat' first
   | (with_reducible exact ih0 _ _ _ _)
   | (with_reducible exact ih1 _ _ _ _ _ _)
   | (with_reducible exact ih2 _ _ _ _ _ _ _ _ _)
   | (with_reducible exact ih3 _ _ _ _ _ _ _ _ _)
   | (with_reducible exact ih4 _ _ _)
   | (with_reducible exact spec_l7Apart.mono _ _ _ _ _)
   | (with_reducible exact LeO.refl _)
   | (with_reducible exact LeO.none _)
   | (with_reducible refine LeO.ite ?_ ?_)
   | (with_reducible refine LeO.bind ?_ (fun _ => ?_))
   | exact ih0 _ _ _ _
   | exact ih1 _ _ _ _ _ _
   | exact ih2 _ _ _ _ _ _ _ _ _
   | exact ih3 _ _ _ _ _ _ _ _ _
   | exact ih4 _ _ _
   | exact spec_l7Apart.mono _ _ _ _ _
   | exact LeO.none _
   | refine LeO.ite ?_ ?_
   | refine LeO.bind ?_ (fun _ => ?_)
  ·intro y0 y1 y2 y3 y4 y5 y6 y7 y8
   unfold spec_l7Shared.j2
   repeat' first
   | (with_reducible exact ih0 _ _ _ _)
   | (with_reducible exact ih1 _ _ _ _ _ _)
   | (with_reducible exact ih2 _ _ _ _ _ _ _ _ _)
   | (with_reducible exact ih3 _ _ _ _ _ _ _ _ _)
   | (with_reducible exact ih4 _ _ _)
   | (with_reducible exact spec_l7Apart.mono _ _ _ _ _)
   | (with_reducible exact LeO.refl _)
   | (with_reducible exact LeO.none _)
   | (with_reducible refine LeO.ite ?_ ?_)
   | (with_reducible refine LeO.bind ?_ (fun _ => ?_))
   | exact ih0 _ _ _ _
   | exact ih1 _ _ _ _ _ _
   | exact ih2 _ _ _ _ _ _ _ _ _
   | exact ih3 _ _ _ _ _ _ _ _ _
   | exact ih4 _ _ _
   | exact spec_l7Apart.mono _ _ _ _ _
   | exact LeO.none _
   | refine LeO.ite ?_ ?_
   | refine LeO.bind ?_ (fun _ => ?_)
  ·intro y0 y1 y2 y3 y4 y5 y6 y7 y8
   unfold spec_l7Shared.l2
   repeat' first
   | (with_reducible exact ih0 _ _ _ _)
   | (with_reducible exact ih1 _ _ _ _ _ _)
   | (with_reducible exact ih2 _ _ _ _ _ _ _ _ _)
   | (with_reducible exact ih3 _ _ _ _ _ _ _ _ _)
   | (with_reducible exact ih4 _ _ _)
   | (with_reducible exact spec_l7Apart.mono _ _ _ _ _)
   | (with_reducible exact LeO.refl _)
   | (with_reducible exact LeO.none _)
   | (with_reducible refine LeO.ite ?_ ?_)
   | (with_reducible refine LeO.bind ?_ (fun _ => ?_))
   | exact ih0 _ _ _ _
   | exact ih1 _ _ _ _ _ _
   | exact ih2 _ _ _ _ _ _ _ _ _
   | exact ih3 _ _ _ _ _ _ _ _ _
   | exact ih4 _ _ _
   | exact spec_l7Apart.mono _ _ _ _ _
   | exact LeO.none _
   | refine LeO.ite ?_ ?_
   | refine LeO.bind ?_ (fun _ => ?_)
  ·intro y0 y1 y2
   unfold spec_l7Shared.l3
   repeat' first
   | (with_reducible exact ih0 _ _ _ _)
   | (with_reducible exact ih1 _ _ _ _ _ _)
   | (with_reducible exact ih2 _ _ _ _ _ _ _ _ _)
   | (with_reducible exact ih3 _ _ _ _ _ _ _ _ _)
   | (with_reducible exact ih4 _ _ _)
   | (with_reducible exact spec_l7Apart.mono _ _ _ _ _)
   | (with_reducible exact LeO.refl _)
   | (with_reducible exact LeO.none _)
   | (with_reducible refine LeO.ite ?_ ?_)
   | (with_reducible refine LeO.bind ?_ (fun _ => ?_))
   | exact ih0 _ _ _ _
   | exact ih1 _ _ _ _ _ _
   | exact ih2 _ _ _ _ _ _ _ _ _
   | exact ih3 _ _ _ _ _ _ _ _ _
   | exact ih4 _ _ _
   | exact spec_l7Apart.mono _ _ _ _ _
   | exact LeO.none _
   | refine LeO.ite ?_ ?_
   | refine LeO.bind ?_ (fun _ => ?_)
theorem spec_l7Shared.mono : ∀ a0 a1 k, LeO (spec_l7Shared.f k a0 a1) (spec_l7Shared.f (k + 1) a0 a1) := by
 intro a0 a1 k
 obtain ⟨ih0, ih1, ih2, ih3, ih4⟩ := spec_l7Shared.mono_l k
 unfold spec_l7Shared.f
 repeat' first
   | (with_reducible exact ih0 _ _ _ _)
   | (with_reducible exact ih1 _ _ _ _ _ _)
   | (with_reducible exact ih2 _ _ _ _ _ _ _ _ _)
   | (with_reducible exact ih3 _ _ _ _ _ _ _ _ _)
   | (with_reducible exact ih4 _ _ _)
   | (with_reducible exact spec_l7Apart.mono _ _ _ _ _)
   | (with_reducible exact LeO.refl _)
   | (with_reducible exact LeO.none _)
   | (with_reducible refine LeO.ite ?_ ?_)
   | (with_reducible refine LeO.bind ?_ (fun _ => ?_))
   | exact ih0 _ _ _ _
   | exact ih1 _ _ _ _ _ _
   | exact ih2 _ _ _ _ _ _ _ _ _
   | exact ih3 _ _ _ _ _ _ _ _ _
   | exact ih4 _ _ _
   | exact spec_l7Apart.mono _ _ _ _ _
   | exact LeO.none _
   | refine LeO.ite ?_ ?_
   | refine LeO.bind ?_ (fun _ => ?_)
def spec_l7Shared.T17 : Bool × List (List Nat × List Nat) := (true, [([], []), ([], []), ([1], [1]), ([], []), ([], []), ([4], [4]), ([3, 5], [3, 5]), ([6], [6]), ([], []), ([8], [8]), ([7, 9], [7, 9]), ([], []), ([11], [11]), ([10, 12], [10, 12]), ([0, 2, 0, 1, 2, 3, 4, 5, 6, 7, 8, 9, 10, 11, 12, 13], [0, 2]), ([14, 13, 0, 1, 2, 3, 4, 5, 6, 7, 8, 9, 10, 11, 12, 13], [13, 14])])
def spec_l7Shared.B17 : List Nat := [0, 0, 2, 0, 0, 16, 56, 120, 0, 256, 1016, 0, 2048, 8184, 16383, 32767]
theorem spec_l7Shared.tab17 : rtab .any (opsOf Try.f92 17) = spec_l7Shared.T17 := by kernel_rfl
theorem spec_l7Shared.bits17 : waitsOk spec_l7Shared.T17.2 spec_l7Shared.B17 = true := by kernel_rfl
def spec_l7Shared.T22 : Bool × List (List Nat × List Nat) := (true, [([], []), ([], []), ([0, 1], [0, 1]), ([2], [2]), ([], []), ([], []), ([4, 5], [4, 5]), ([6], [6]), ([7], [7]), ([3, 8], [3, 8])])
def spec_l7Shared.B22 : List Nat := [0, 0, 3, 7, 0, 0, 48, 112, 240, 511]
theorem spec_l7Shared.tab22 : rtab .any (opsOf Try.f92 22) = spec_l7Shared.T22 := by kernel_rfl
theorem spec_l7Shared.bits22 : waitsOk spec_l7Shared.T22.2 spec_l7Shared.B22 = true := by kernel_rfl
set_option maxHeartbeats 8000000 in
set_option maxRecDepth 100000 in
theorem spec_l7Shared.calls (k : Nat) (A0 : Option Addr) (c0 : Nat) (l0 : List (S79)) (A1 : Option Addr) (c1 : Nat) (l1 : List (List (S130))) (r : Bool) (w : World) (hr0 : Kd.C k79 w A0 l0.length l0) (hc0 : l0.length ≤ c0) (hr1 : Kd.C (Kd.slice 130 k130) w A1 l1.length l1) (hc1 : l1.length ≤ c1) (h : spec_l7Shared.f k l0 l1 = some r) :
  Calls Try.prog 92 #[.slice A0 l0.length c0, .slice A1 l1.length c1] w fun e w' => e = .returned (.bool r) ∧ Below w.heap.size w w' := by
 have hu130 := Try.underlying130
 have HR0 := Aside0.mk hr0
 have HC0 := Aside0.mk hc0
 clear hr0 hc0
 have HR1 := Aside0.mk hr1
 have HC1 := Aside0.mk hc1
 clear hr1 hc1
 have HB := Aside0.mk (Below.refl w.heap.size w)
 have H : (if 0 ≤ (l0.length : Int) then (if ((l0.length : Int) : Int).toNat ≤ 35184372088832 then (spec_l7Shared.l0 k l0 l1 (List.replicate ((l0.length : Int) : Int).toNat 0) 0) else (none)) else (none)) = some r := h
 clear h
 by_cases c3 : 0 ≤ (l0.length : Int); rotate_left
 ·rw [if_neg c3] at H; exact absurd H (by simp)
 rw [if_pos c3] at H
 have c3b0 := eq_true c3
 have c3b1 : decide (0 ≤ (l0.length : Int)) = true := decide_eq_true c3
 clear c3
 by_cases c4 : ((l0.length : Int) : Int).toNat ≤ 35184372088832; rotate_left
 ·rw [if_neg c4] at H; exact absurd H (by simp)
 rw [if_pos c4] at H
 have c4b0 := eq_true c4
 have c4b1 : decide (((l0.length : Int) : Int).toNat ≤ 35184372088832) = true := decide_eq_true c4
 clear c4
 obtain ⟨y178, hy178⟩ : ∃ y_ : List Int, y_ = (List.replicate ((l0.length : Int) : Int).toNat 0) := ⟨_, rfl⟩
 replace H : (spec_l7Shared.l0 k l0 l1 y178 0) = some r := by first | (rw [hy178]; with_reducible exact H) | (have H2_ := (Option.bind_some _ _).symm.trans H; rw [hy178]; with_reducible exact H2_) | (have H2_ := (Option.bind_some _ _).symm.trans H; with_reducible exact H2_) | with_reducible exact H | (rw [hy178]; exact H) | exact H
 have Ny178 := Aside0.mk hy178
 clear hy178
 have H' := Aside0.mk H
 clear H
 go_enter Try.func92, Try.ntmps92
 go_wp2_with (first | ((with_reducible refine gate_dst (N := 14) rfl ?_); refine Kd.R_make (Kd.int .i64) _ 3 rfl (N := 14) rfl 34 _ _ rfl (l0.length : Int) rfl rfl Try.underlying34 (.int .i64 0) 8 info3 rfl (by decide) (by omega) 0 (ok := fun _ => True) (okp := fun _ => True) rfl (fun _ hk => hk) trivial (oD) (Nat.le_trans (Nat.mul_le_mul_right _ (oD : (l0.length : Int).toNat ≤ 35184372088832)) (by omega)) (Below.refl _ _) (Nat.le_refl _) ?_; intro v179 w5 ho6 hb hg_ hnew_; clear hg_ hnew_; (first | rw [← Ny178.out] at ho6 | (simp only [Int.reduceToNat] at ho6; rw [← Ny178.out] at ho6)); have n0_ := Aside0.mk (Kd.R_lower ho6 (below_size bB)); have n1_ := Aside0.mk (below_step bB hb); clear HB; have HO180 := n0_; have HB := n1_; clear n0_ n1_; clear hb ho6))
 go_loopg [6] k (fun kq v6 w' => ∃ (x5_1 : List Int) (x6_1 : Int), v6 = .int .i64 x6_1 ∧ Aside0 (spec_l7Shared.l0 kq l0 l1 x5_1 x6_1 = some r) ∧ Aside0 (kq ≤ k) ∧ Aside0 (Kd.R (Kd.int .i64) 3 w' w.heap.size (fun _ => True) v179 x5_1) ∧ Aside0 (Below w.heap.size w w'))
 case atStart => exact ⟨(y178), (0), sD, H', ⟨Nat.le_refl _⟩, ⟨kR⟩, ⟨by repeat (first | (with_reducible first | exact HB.out | apply below_alloc | apply pw_below_drewN | apply below_drew1) | exact HB.out)⟩⟩
 case round =>
  clear H'
  try clear c1
  try clear p2
  try clear c3
  try clear c3b0
  try clear c3b1
  try clear c4
  try clear c4b0
  try clear c4b1
  obtain ⟨x5_1, x6_1, rfl, HA, HK1, HO_5, HB⟩ := hrel
  cases gk with
  | zero => exact absurd HA.out (by simp [spec_l7Shared.l0])
  | succ k1 =>
   have H := HA.out
   clear HA
   simp only [spec_l7Shared.l0] at H
   by_cases c7 : x6_1 < (l1.length : Int)
   ·rw [if_pos c7] at H
    have c7b0 : decide (x6_1 < (l1.length : Int)) = true := decide_eq_true c7
    clear c7
    have H' := Aside0.mk H
    clear H
    go_wp2
    go_loopg [7, 8] k1 (fun kq v7 v8 w' => ∃ (x5_2 : List Int) (x7_2 : Int) (x8_2 : Int), v7 = .int .i64 x7_2 ∧ v8 = .int .i64 x8_2 ∧ Aside0 (spec_l7Shared.l1 kq l0 l1 x5_2 x6_1 x7_2 x8_2 = some r) ∧ Aside0 (kq ≤ k1) ∧ Aside0 (Kd.R (Kd.int .i64) 3 w' w.heap.size (fun _ => True) v179 x5_2) ∧ Aside0 (Below w.heap.size w w'))
    case atStart => exact ⟨(x5_1), (0), (0), sD, sD, H', ⟨Nat.le_refl _⟩, ⟨kR⟩, ⟨by repeat (first | (with_reducible first | exact HB.out | apply below_alloc | apply pw_below_drewN | apply below_drew1) | exact HB.out)⟩⟩
    case round =>
     clear H'
     try clear c1
     try clear p2
     try clear c3
     try clear c3b0
     try clear c3b1
     try clear c4
     try clear c4b0
     try clear c4b1
     try clear c7
     try clear c7b0
     try clear p2
     obtain ⟨x5_2, x7_2, x8_2, rfl, rfl, HA, HK2, HO_5, HB⟩ := hrel
     cases gk with
     | zero => exact absurd HA.out (by simp [spec_l7Shared.l1])
     | succ k2 =>
      have H := HA.out
      clear HA
      simp only [spec_l7Shared.l1] at H
      by_cases c8 : 0 ≤ x6_1; rotate_left
      ·rw [if_neg c8] at H; exact absurd H (by simp)
      rw [if_pos c8] at H
      have c8b0 : decide (0 ≤ x6_1) = true := decide_eq_true c8
      clear c8
      by_cases c9 : x6_1 < (l1.length : Int); rotate_left
      ·rw [if_neg c9] at H; exact absurd H (by simp)
      rw [if_pos c9] at H
      have c9b0 : decide (x6_1 < (l1.length : Int)) = true := decide_eq_true c9
      clear c9
      by_cases c10 : x8_2 < ((rd_L9 l1 x6_1).length : Int)
      ·rw [if_pos c10] at H
       have c10b0 : decide (x8_2 < ((rd_L9 l1 x6_1).length : Int)) = true := decide_eq_true c10
       clear c10
       by_cases c11 : 0 ≤ x8_2; rotate_left
       ·rw [if_neg c11] at H; exact absurd H (by simp)
       rw [if_pos c11] at H
       have c11b0 : decide (0 ≤ x8_2) = true := decide_eq_true c11
       clear c11
       have HC12 := Aside0.mk H
       clear H
       have p181 : 0 ≤ (x6_1 : Int) := oD
       have q181 : x6_1 < (l1.length : Int) := oD
       obtain ⟨ad181, A181_0, c181_0, e181, hx181_0, hl181_0, hi181_0⟩ := at_L9 HR1.out x6_1 p181 q181
       cases e181
       replace hx181_0 := (cB HB.out hx181_0 :)
       have HR181_0 := Aside0.mk hi181_0
       have HC181_0 := Aside0.mk hl181_0
       clear hi181_0 hl181_0
       replace p181 := eq_true p181
       replace q181 := eq_true q181
       have p182 : 0 ≤ (x6_1 : Int) := oD
       have q182 : x6_1 < (l1.length : Int) := oD
       obtain ⟨ad182, A182_0, c182_0, e182, hx182_0, hl182_0, hi182_0⟩ := at_L9 HR1.out x6_1 p182 q182
       obtain rfl : ad181 = ad182 := (by injection e182)
       replace hx182_0 := (cB HB.out hx182_0 :)
       have HR182_0 := Aside0.mk hi182_0
       have HC182_0 := Aside0.mk hl182_0
       clear hi182_0 hl182_0
       replace p182 := eq_true p182
       replace q182 := eq_true q182
       have ea_ := Option.some.inj (hx181_0.symm.trans hx182_0)
       injection ea_ with ea_ en_ ec_
       subst ea_
       subst ec_
       clear en_
       have p183 : 0 ≤ (x8_2 : Int) := oD
       have q183 : x8_2 < ((rd_L9 l1 x6_1).length : Int) := oD
       obtain ⟨ad183, e183, hx183_0, hx183_1, hx183_2⟩ := at_T130 HR182_0.out x8_2 p183 q183
       cases e183
       replace hx183_0 := (cB HB.out hx183_0 :)
       replace hx183_1 := (cB HB.out hx183_1 :)
       replace hx183_2 := (cB HB.out hx183_2 :)
       replace p183 := eq_true p183
       replace q183 := eq_true q183
       go_upto_region 10 with (first | ((with_reducible refine gate_dst (N := 9) rfl ?_); refine bE 9 #[.int .i64 0, .int .i64 0, .int .i64 0] 130 ?_; intro gb184 hg w13 hbox hb; have n0_ := Aside0.mk (Kd.R_below (by (with_reducible repeat (first | apply Kd.R_alloc | apply Kd.R_drewN | apply Kd.R_drew)); exact HO_5.out) hb); have n1_ := Aside0.mk (below_step bB hb); have n2_ := Aside0.mk (hbox); have n3_ := Aside0.mk ((by rw [hg]; exact (below_size bB) : w.heap.size ≤ gb184)); have n4_ := Aside0.mk ((by rw [hg]; exact (below_size bB) : w.heap.size ≤ gb184)); clear HO_5; clear HB; have HO_5 := n0_; have HB := n1_; have BK184 := n2_; have GW184 := n3_; have GE184 := n4_; clear n0_ n1_ n2_ n3_ n4_; clear hb hbox hg; have hcz14_0 : w13.cell? ⟨gb184, 0, none⟩ = some (.int .i64 0) := (blk_cell BK184.out 0).trans rfl; have hcz14_1 : w13.cell? ⟨gb184, 1, none⟩ = some (.int .i64 0) := (blk_cell BK184.out 1).trans rfl; have hcz14_2 : w13.cell? ⟨gb184, 2, none⟩ = some (.int .i64 0) := (blk_cell BK184.out 2).trans rfl; have hfz14_0 := blk_frozen BK184.out 0; have hfz14_1 := blk_frozen BK184.out 1; have hfz14_2 := blk_frozen BK184.out 2))
       (try simp only [Act.put, sA, sZ, sS])
       go_cut [59] (fun v59 wc => ∃ (kq : Nat) (x59_11 : Bool), v59 = .bool x59_11 ∧ Aside0 (spec_l7Shared.j2 kq l0 l1 x5_2 x6_1 x8_2 x59_11 ((rd_T130 (rd_L9 l1 x6_1) x8_2).f0) ((rd_T130 (rd_L9 l1 x6_1) x8_2).f1) ((rd_T130 (rd_L9 l1 x6_1) x8_2).f2) = some r) ∧ Aside0 (kq ≤ k2) ∧ Aside0 (Kd.R (Kd.int .i64) 3 wc w.heap.size (fun _ => True) v179 x5_2) ∧ Aside0 (wc.heap[gb184]? = some (.cells #[.int .i64 ((rd_T130 (rd_L9 l1 x6_1) x8_2).f0), .int .i64 ((rd_T130 (rd_L9 l1 x6_1) x8_2).f1), .int .i64 ((rd_T130 (rd_L9 l1 x6_1) x8_2).f2)] 130 (0, 0))) ∧ Aside0 (Below w.heap.size w wc))
       case first =>
        have H := HC12.out
        clear HC12
        replace H := Option.bind_eq_some_iff.mp H
        obtain ⟨t185, A150, H⟩ := H
        replace H : (if t185 = true then (if ((rd_T130 (rd_L9 l1 x6_1) x8_2).f1) < x7_2 then (spec_l7Shared.j2 k2 l0 l1 x5_2 x6_1 x8_2 true ((rd_T130 (rd_L9 l1 x6_1) x8_2).f0) ((rd_T130 (rd_L9 l1 x6_1) x8_2).f1) ((rd_T130 (rd_L9 l1 x6_1) x8_2).f2)) else (if ((rd_T130 (rd_L9 l1 x6_1) x8_2).f2) ≤ ((rd_T130 (rd_L9 l1 x6_1) x8_2).f1) then (spec_l7Shared.j2 k2 l0 l1 x5_2 x6_1 x8_2 true ((rd_T130 (rd_L9 l1 x6_1) x8_2).f0) ((rd_T130 (rd_L9 l1 x6_1) x8_2).f1) ((rd_T130 (rd_L9 l1 x6_1) x8_2).f2)) else (spec_l7Shared.j2 k2 l0 l1 x5_2 x6_1 x8_2 (decide (((rd_T130 (rd_L9 l1 x6_1) x8_2).f2) > 1000)) ((rd_T130 (rd_L9 l1 x6_1) x8_2).f0) ((rd_T130 (rd_L9 l1 x6_1) x8_2).f1) ((rd_T130 (rd_L9 l1 x6_1) x8_2).f2)))) else (spec_l7Shared.j2 k2 l0 l1 x5_2 x6_1 x8_2 true ((rd_T130 (rd_L9 l1 x6_1) x8_2).f0) ((rd_T130 (rd_L9 l1 x6_1) x8_2).f1) ((rd_T130 (rd_L9 l1 x6_1) x8_2).f2))) = some r := H
        have A15 := Aside0.mk A150
        clear A150
        by_cases c16 : t185 = true
        ·subst c16
         have H1 : (if ((rd_T130 (rd_L9 l1 x6_1) x8_2).f1) < x7_2 then (spec_l7Shared.j2 k2 l0 l1 x5_2 x6_1 x8_2 true ((rd_T130 (rd_L9 l1 x6_1) x8_2).f0) ((rd_T130 (rd_L9 l1 x6_1) x8_2).f1) ((rd_T130 (rd_L9 l1 x6_1) x8_2).f2)) else (if ((rd_T130 (rd_L9 l1 x6_1) x8_2).f2) ≤ ((rd_T130 (rd_L9 l1 x6_1) x8_2).f1) then (spec_l7Shared.j2 k2 l0 l1 x5_2 x6_1 x8_2 true ((rd_T130 (rd_L9 l1 x6_1) x8_2).f0) ((rd_T130 (rd_L9 l1 x6_1) x8_2).f1) ((rd_T130 (rd_L9 l1 x6_1) x8_2).f2)) else (spec_l7Shared.j2 k2 l0 l1 x5_2 x6_1 x8_2 (decide (((rd_T130 (rd_L9 l1 x6_1) x8_2).f2) > 1000)) ((rd_T130 (rd_L9 l1 x6_1) x8_2).f0) ((rd_T130 (rd_L9 l1 x6_1) x8_2).f1) ((rd_T130 (rd_L9 l1 x6_1) x8_2).f2)))) = some r := by rw [if_pos rfl] at H; exact H
         clear H
         have H := H1
         clear H1
         by_cases c17 : ((rd_T130 (rd_L9 l1 x6_1) x8_2).f1) < x7_2
         ·rw [if_pos c17] at H
          have c17b0 : decide (((rd_T130 (rd_L9 l1 x6_1) x8_2).f1) < x7_2) = true := decide_eq_true c17
          clear c17
          (first | rw [c17b0] | (simp only [i64_w, i32_w]; rw [c17b0]) | skip)
          have H' := Aside0.mk H
          clear H
          have hcz18_0 : w13.cell? ⟨gb184, 0, none⟩ = some (.int .i64 0) := (blk_cell BK184.out 0).trans rfl
          have hcz18_1 : w13.cell? ⟨gb184, 1, none⟩ = some (.int .i64 0) := (blk_cell BK184.out 1).trans rfl
          have hcz18_2 : w13.cell? ⟨gb184, 2, none⟩ = some (.int .i64 0) := (blk_cell BK184.out 2).trans rfl
          have hfz18_0 := blk_frozen BK184.out 0
          have hfz18_1 := blk_frozen BK184.out 1
          have hfz18_2 := blk_frozen BK184.out 2
          go_wp2_with (first | ((with_reducible refine gate_callee (f := 132) rfl ?_); refine goesL_ (some 40) rfl rfl Try.func132 (by kernel_rfl) rfl #[.slice A0 l0.length c0, .int .i64 ((rd_T130 (rd_L9 l1 x6_1) x8_2).f0)] rfl aE ?_; (with_reducible refine (spec_l3Job.calls _ _ l0 ((rd_T130 (rd_L9 l1 x6_1) x8_2).f0) true _ ?side1 ?side2 A15.out).mono ?_); (case side1 => exact Kd.C_below HR0.out bS); (case side2 => exact HC0.out); rintro e w' ⟨rfl, ⟨nd, rfl⟩⟩; refine ⟨_, rfl, ?_⟩))
          go_meet
          case rel => exact ⟨_, (true), sD, H', ⟨by have := HK1.out; have := HK2.out; first | omega | exact Nat.le_refl _⟩, ⟨by (with_reducible repeat (first | apply Kd.R_alloc | apply Kd.R_drewN | apply Kd.R_drew)); exact Kd.R_mono (Kd.R_far (p := ⟨gb184, 2, none⟩) (Kd.R_far (p := ⟨gb184, 1, none⟩) (Kd.R_far (p := ⟨gb184, 0, none⟩) (Kd.R_types HO_5.out BK184.out (by decide)) (fun _ hk => hk.2) (.int .i64 ((rd_T130 (rd_L9 l1 x6_1) x8_2).f0))) (fun _ hk => hk.2) (.int .i64 ((rd_T130 (rd_L9 l1 x6_1) x8_2).f1))) (fun _ hk => hk.2) (.int .i64 ((rd_T130 (rd_L9 l1 x6_1) x8_2).f2))) (fun _ hk => trivial)⟩, ⟨by (with_reducible repeat (first | refine blk_drewN ?_ _ | refine blk_drew ?_ | refine blk_alloc ?_ _)); refine blk_put (cs := #[.int .i64 ((rd_T130 (rd_L9 l1 x6_1) x8_2).f0), .int .i64 ((rd_T130 (rd_L9 l1 x6_1) x8_2).f1), .int .i64 0]) ?_ 2 _ rfl; (with_reducible repeat (first | refine blk_drewN ?_ _ | refine blk_drew ?_ | refine blk_alloc ?_ _)); refine blk_put (cs := #[.int .i64 ((rd_T130 (rd_L9 l1 x6_1) x8_2).f0), .int .i64 0, .int .i64 0]) ?_ 1 _ rfl; (with_reducible repeat (first | refine blk_drewN ?_ _ | refine blk_drew ?_ | refine blk_alloc ?_ _)); refine blk_put (cs := #[.int .i64 0, .int .i64 0, .int .i64 0]) ?_ 0 _ rfl; (with_reducible repeat (first | refine blk_drewN ?_ _ | refine blk_drew ?_ | refine blk_alloc ?_ _)); exact BK184.out⟩, ⟨by repeat (first | (with_reducible first | exact HB.out | apply below_alloc | apply pw_below_drewN | apply below_drew1 | refine below_set ?_ GE184.out) | exact HB.out)⟩⟩
         ·rw [if_neg c17] at H
          have c17b0 : decide (((rd_T130 (rd_L9 l1 x6_1) x8_2).f1) < x7_2) = false := decide_eq_false c17
          clear c17
          (first | rw [c17b0] | (simp only [i64_w, i32_w]; rw [c17b0]) | skip)
          by_cases c19 : ((rd_T130 (rd_L9 l1 x6_1) x8_2).f2) ≤ ((rd_T130 (rd_L9 l1 x6_1) x8_2).f1)
          ·rw [if_pos c19] at H
           have c19b0 : decide (((rd_T130 (rd_L9 l1 x6_1) x8_2).f2) ≤ ((rd_T130 (rd_L9 l1 x6_1) x8_2).f1)) = true := decide_eq_true c19
           clear c19
           have H' := Aside0.mk H
           clear H
           have hcz20_0 : w13.cell? ⟨gb184, 0, none⟩ = some (.int .i64 0) := (blk_cell BK184.out 0).trans rfl
           have hcz20_1 : w13.cell? ⟨gb184, 1, none⟩ = some (.int .i64 0) := (blk_cell BK184.out 1).trans rfl
           have hcz20_2 : w13.cell? ⟨gb184, 2, none⟩ = some (.int .i64 0) := (blk_cell BK184.out 2).trans rfl
           have hfz20_0 := blk_frozen BK184.out 0
           have hfz20_1 := blk_frozen BK184.out 1
           have hfz20_2 := blk_frozen BK184.out 2
           go_wp2_with (first | ((with_reducible refine gate_callee (f := 132) rfl ?_); refine goesL_ (some 40) rfl rfl Try.func132 (by kernel_rfl) rfl #[.slice A0 l0.length c0, .int .i64 ((rd_T130 (rd_L9 l1 x6_1) x8_2).f0)] rfl aE ?_; (with_reducible refine (spec_l3Job.calls _ _ l0 ((rd_T130 (rd_L9 l1 x6_1) x8_2).f0) true _ ?side1 ?side2 A15.out).mono ?_); (case side1 => exact Kd.C_below HR0.out bS); (case side2 => exact HC0.out); rintro e w' ⟨rfl, ⟨nd, rfl⟩⟩; refine ⟨_, rfl, ?_⟩))
           go_meet
           case rel => exact ⟨_, (true), sD, H', ⟨by have := HK1.out; have := HK2.out; first | omega | exact Nat.le_refl _⟩, ⟨by (with_reducible repeat (first | apply Kd.R_alloc | apply Kd.R_drewN | apply Kd.R_drew)); exact Kd.R_mono (Kd.R_far (p := ⟨gb184, 2, none⟩) (Kd.R_far (p := ⟨gb184, 1, none⟩) (Kd.R_far (p := ⟨gb184, 0, none⟩) (Kd.R_types HO_5.out BK184.out (by decide)) (fun _ hk => hk.2) (.int .i64 ((rd_T130 (rd_L9 l1 x6_1) x8_2).f0))) (fun _ hk => hk.2) (.int .i64 ((rd_T130 (rd_L9 l1 x6_1) x8_2).f1))) (fun _ hk => hk.2) (.int .i64 ((rd_T130 (rd_L9 l1 x6_1) x8_2).f2))) (fun _ hk => trivial)⟩, ⟨by (with_reducible repeat (first | refine blk_drewN ?_ _ | refine blk_drew ?_ | refine blk_alloc ?_ _)); refine blk_put (cs := #[.int .i64 ((rd_T130 (rd_L9 l1 x6_1) x8_2).f0), .int .i64 ((rd_T130 (rd_L9 l1 x6_1) x8_2).f1), .int .i64 0]) ?_ 2 _ rfl; (with_reducible repeat (first | refine blk_drewN ?_ _ | refine blk_drew ?_ | refine blk_alloc ?_ _)); refine blk_put (cs := #[.int .i64 ((rd_T130 (rd_L9 l1 x6_1) x8_2).f0), .int .i64 0, .int .i64 0]) ?_ 1 _ rfl; (with_reducible repeat (first | refine blk_drewN ?_ _ | refine blk_drew ?_ | refine blk_alloc ?_ _)); refine blk_put (cs := #[.int .i64 0, .int .i64 0, .int .i64 0]) ?_ 0 _ rfl; (with_reducible repeat (first | refine blk_drewN ?_ _ | refine blk_drew ?_ | refine blk_alloc ?_ _)); exact BK184.out⟩, ⟨by repeat (first | (with_reducible first | exact HB.out | apply below_alloc | apply pw_below_drewN | apply below_drew1 | refine below_set ?_ GE184.out) | exact HB.out)⟩⟩
          ·rw [if_neg c19] at H
           have c19b0 : decide (((rd_T130 (rd_L9 l1 x6_1) x8_2).f2) ≤ ((rd_T130 (rd_L9 l1 x6_1) x8_2).f1)) = false := decide_eq_false c19
           clear c19
           have H' := Aside0.mk H
           clear H
           have hcz21_0 : w13.cell? ⟨gb184, 0, none⟩ = some (.int .i64 0) := (blk_cell BK184.out 0).trans rfl
           have hcz21_1 : w13.cell? ⟨gb184, 1, none⟩ = some (.int .i64 0) := (blk_cell BK184.out 1).trans rfl
           have hcz21_2 : w13.cell? ⟨gb184, 2, none⟩ = some (.int .i64 0) := (blk_cell BK184.out 2).trans rfl
           have hfz21_0 := blk_frozen BK184.out 0
           have hfz21_1 := blk_frozen BK184.out 1
           have hfz21_2 := blk_frozen BK184.out 2
           go_wp2_with (first | ((with_reducible refine gate_callee (f := 132) rfl ?_); refine goesL_ (some 40) rfl rfl Try.func132 (by kernel_rfl) rfl #[.slice A0 l0.length c0, .int .i64 ((rd_T130 (rd_L9 l1 x6_1) x8_2).f0)] rfl aE ?_; (with_reducible refine (spec_l3Job.calls _ _ l0 ((rd_T130 (rd_L9 l1 x6_1) x8_2).f0) true _ ?side1 ?side2 A15.out).mono ?_); (case side1 => exact Kd.C_below HR0.out bS); (case side2 => exact HC0.out); rintro e w' ⟨rfl, ⟨nd, rfl⟩⟩; refine ⟨_, rfl, ?_⟩))
           go_meet
           case rel => exact ⟨_, (decide (((rd_T130 (rd_L9 l1 x6_1) x8_2).f2) > 1000)), sD, H', ⟨by have := HK1.out; have := HK2.out; first | omega | exact Nat.le_refl _⟩, ⟨by (with_reducible repeat (first | apply Kd.R_alloc | apply Kd.R_drewN | apply Kd.R_drew)); exact Kd.R_mono (Kd.R_far (p := ⟨gb184, 2, none⟩) (Kd.R_far (p := ⟨gb184, 1, none⟩) (Kd.R_far (p := ⟨gb184, 0, none⟩) (Kd.R_types HO_5.out BK184.out (by decide)) (fun _ hk => hk.2) (.int .i64 ((rd_T130 (rd_L9 l1 x6_1) x8_2).f0))) (fun _ hk => hk.2) (.int .i64 ((rd_T130 (rd_L9 l1 x6_1) x8_2).f1))) (fun _ hk => hk.2) (.int .i64 ((rd_T130 (rd_L9 l1 x6_1) x8_2).f2))) (fun _ hk => trivial)⟩, ⟨by (with_reducible repeat (first | refine blk_drewN ?_ _ | refine blk_drew ?_ | refine blk_alloc ?_ _)); refine blk_put (cs := #[.int .i64 ((rd_T130 (rd_L9 l1 x6_1) x8_2).f0), .int .i64 ((rd_T130 (rd_L9 l1 x6_1) x8_2).f1), .int .i64 0]) ?_ 2 _ rfl; (with_reducible repeat (first | refine blk_drewN ?_ _ | refine blk_drew ?_ | refine blk_alloc ?_ _)); refine blk_put (cs := #[.int .i64 ((rd_T130 (rd_L9 l1 x6_1) x8_2).f0), .int .i64 0, .int .i64 0]) ?_ 1 _ rfl; (with_reducible repeat (first | refine blk_drewN ?_ _ | refine blk_drew ?_ | refine blk_alloc ?_ _)); refine blk_put (cs := #[.int .i64 0, .int .i64 0, .int .i64 0]) ?_ 0 _ rfl; (with_reducible repeat (first | refine blk_drewN ?_ _ | refine blk_drew ?_ | refine blk_alloc ?_ _)); exact BK184.out⟩, ⟨by repeat (first | (with_reducible first | exact HB.out | apply below_alloc | apply pw_below_drewN | apply below_drew1 | refine below_set ?_ GE184.out) | exact HB.out)⟩⟩
        ·replace c16 := Bool.eq_false_iff.mpr c16
         subst c16
         have H1 : (spec_l7Shared.j2 k2 l0 l1 x5_2 x6_1 x8_2 true ((rd_T130 (rd_L9 l1 x6_1) x8_2).f0) ((rd_T130 (rd_L9 l1 x6_1) x8_2).f1) ((rd_T130 (rd_L9 l1 x6_1) x8_2).f2)) = some r := by rw [if_neg (show ¬ (false = true) by decide)] at H; exact H
         clear H
         have H := H1
         clear H1
         have H' := Aside0.mk H
         clear H
         have hcz22_0 : w13.cell? ⟨gb184, 0, none⟩ = some (.int .i64 0) := (blk_cell BK184.out 0).trans rfl
         have hcz22_1 : w13.cell? ⟨gb184, 1, none⟩ = some (.int .i64 0) := (blk_cell BK184.out 1).trans rfl
         have hcz22_2 : w13.cell? ⟨gb184, 2, none⟩ = some (.int .i64 0) := (blk_cell BK184.out 2).trans rfl
         have hfz22_0 := blk_frozen BK184.out 0
         have hfz22_1 := blk_frozen BK184.out 1
         have hfz22_2 := blk_frozen BK184.out 2
         go_wp2_with (first | ((with_reducible refine gate_callee (f := 132) rfl ?_); refine goesL_ (some 40) rfl rfl Try.func132 (by kernel_rfl) rfl #[.slice A0 l0.length c0, .int .i64 ((rd_T130 (rd_L9 l1 x6_1) x8_2).f0)] rfl aE ?_; (with_reducible refine (spec_l3Job.calls _ _ l0 ((rd_T130 (rd_L9 l1 x6_1) x8_2).f0) false _ ?side1 ?side2 A15.out).mono ?_); (case side1 => exact Kd.C_below HR0.out bS); (case side2 => exact HC0.out); rintro e w' ⟨rfl, ⟨nd, rfl⟩⟩; refine ⟨_, rfl, ?_⟩))
         go_meet
         case rel => exact ⟨_, (true), sD, H', ⟨by have := HK1.out; have := HK2.out; first | omega | exact Nat.le_refl _⟩, ⟨by (with_reducible repeat (first | apply Kd.R_alloc | apply Kd.R_drewN | apply Kd.R_drew)); exact Kd.R_mono (Kd.R_far (p := ⟨gb184, 2, none⟩) (Kd.R_far (p := ⟨gb184, 1, none⟩) (Kd.R_far (p := ⟨gb184, 0, none⟩) (Kd.R_types HO_5.out BK184.out (by decide)) (fun _ hk => hk.2) (.int .i64 ((rd_T130 (rd_L9 l1 x6_1) x8_2).f0))) (fun _ hk => hk.2) (.int .i64 ((rd_T130 (rd_L9 l1 x6_1) x8_2).f1))) (fun _ hk => hk.2) (.int .i64 ((rd_T130 (rd_L9 l1 x6_1) x8_2).f2))) (fun _ hk => trivial)⟩, ⟨by (with_reducible repeat (first | refine blk_drewN ?_ _ | refine blk_drew ?_ | refine blk_alloc ?_ _)); refine blk_put (cs := #[.int .i64 ((rd_T130 (rd_L9 l1 x6_1) x8_2).f0), .int .i64 ((rd_T130 (rd_L9 l1 x6_1) x8_2).f1), .int .i64 0]) ?_ 2 _ rfl; (with_reducible repeat (first | refine blk_drewN ?_ _ | refine blk_drew ?_ | refine blk_alloc ?_ _)); refine blk_put (cs := #[.int .i64 ((rd_T130 (rd_L9 l1 x6_1) x8_2).f0), .int .i64 0, .int .i64 0]) ?_ 1 _ rfl; (with_reducible repeat (first | refine blk_drewN ?_ _ | refine blk_drew ?_ | refine blk_alloc ?_ _)); refine blk_put (cs := #[.int .i64 0, .int .i64 0, .int .i64 0]) ?_ 0 _ rfl; (with_reducible repeat (first | refine blk_drewN ?_ _ | refine blk_drew ?_ | refine blk_alloc ?_ _)); exact BK184.out⟩, ⟨by repeat (first | (with_reducible first | exact HB.out | apply below_alloc | apply pw_below_drewN | apply below_drew1 | refine below_set ?_ GE184.out) | exact HB.out)⟩⟩
       case rest =>
        clear HC12
        try clear c1
        try clear p1
        try clear q1
        try clear hx1
        try clear p2
        try clear c3
        try clear c3b0
        try clear c3b1
        try clear c4
        try clear c4b0
        try clear c4b1
        try clear c7
        try clear c7b0
        try clear c8
        try clear c8b0
        try clear c9
        try clear c9b0
        try clear c10
        try clear c10b0
        try clear c11
        try clear c11b0
        try clear c13
        try clear c16
        try clear c17
        try clear c17b0
        try clear c18
        try clear p18
        try clear q18
        try clear hx18
        try clear c19
        try clear c19b0
        try clear hcz14_0
        try clear hcz14_1
        try clear hcz14_2
        try clear hcz18_0
        try clear hcz18_1
        try clear hcz18_2
        try clear hcz20_0
        try clear hcz20_1
        try clear hcz20_2
        try clear hcz21_0
        try clear hcz21_1
        try clear hcz21_2
        try clear hcz22_0
        try clear hcz22_1
        try clear hcz22_2
        try clear hfz14_0
        try clear hfz14_1
        try clear hfz14_2
        try clear hfz18_0
        try clear hfz18_1
        try clear hfz18_2
        try clear hfz20_0
        try clear hfz20_1
        try clear hfz20_2
        try clear hfz21_0
        try clear hfz21_1
        try clear hfz21_2
        try clear hfz22_0
        try clear hfz22_1
        try clear hfz22_2
        try clear hx181_0
        try clear hx182_0
        try clear hx183_0
        try clear hx183_1
        try clear hx183_2
        try clear p181
        try clear p182
        try clear p183
        try clear p2
        try clear q181
        try clear q182
        try clear q183
        obtain ⟨kq, x59_11, rfl, HA, HJ11, HO_5, BK184, HB⟩ := hcut
        cases kq with
        | zero => exact absurd HA.out (by simp [spec_l7Shared.j2])
        | succ kj11 =>
         have H := HA.out
         clear HA
         simp only [spec_l7Shared.j2] at H
         by_cases c23 : x59_11 = true
         ·subst c23
          have H1 : (some false) = some r := by rw [if_pos rfl] at H; exact H
          clear H
          have H := H1
          clear H1
          obtain rfl := Option.some.inj H
          go_wp2
          go_ret
          exact ⟨rE, bS⟩
         ·replace c23 := Bool.eq_false_iff.mpr c23
          subst c23
          have H1 : (spec_l7Shared.l2 kj11 l0 l1 x5_2 x6_1 x8_2 0 ((rd_T130 (rd_L9 l1 x6_1) x8_2).f0) ((rd_T130 (rd_L9 l1 x6_1) x8_2).f1) ((rd_T130 (rd_L9 l1 x6_1) x8_2).f2)) = some r := by rw [if_neg (show ¬ (false = true) by decide)] at H; exact H
          clear H
          have H := H1
          clear H1
          have H' := Aside0.mk H
          clear H
          go_wp2
          go_loopg [10] kj11 (fun kq v10 w' => ∃ (x10_4 : Int), v10 = .int .i64 x10_4 ∧ Aside0 (spec_l7Shared.l2 kq l0 l1 x5_2 x6_1 x8_2 x10_4 ((rd_T130 (rd_L9 l1 x6_1) x8_2).f0) ((rd_T130 (rd_L9 l1 x6_1) x8_2).f1) ((rd_T130 (rd_L9 l1 x6_1) x8_2).f2) = some r) ∧ Aside0 (kq ≤ kj11) ∧ Aside0 (Kd.R (Kd.int .i64) 3 w' w.heap.size (fun _ => True) v179 x5_2) ∧ Aside0 (w'.heap[gb184]? = some (.cells #[.int .i64 ((rd_T130 (rd_L9 l1 x6_1) x8_2).f0), .int .i64 ((rd_T130 (rd_L9 l1 x6_1) x8_2).f1), .int .i64 ((rd_T130 (rd_L9 l1 x6_1) x8_2).f2)] 130 (0, 0))) ∧ Aside0 (Below w.heap.size w w'))
          case atStart => exact ⟨(0), sD, H', ⟨Nat.le_refl _⟩, ⟨kR⟩, ⟨kB⟩, ⟨by repeat (first | (with_reducible first | exact HB.out | apply below_alloc | apply pw_below_drewN | apply below_drew1 | refine below_set ?_ GE184.out) | exact HB.out)⟩⟩
          case round =>
           clear H'
           try clear c1
           try clear p1
           try clear q1
           try clear hx1
           try clear c2
           try clear p2
           try clear c3
           try clear c3b0
           try clear c3b1
           try clear c4
           try clear c4b0
           try clear c4b1
           try clear c7
           try clear c7b0
           try clear c8
           try clear c8b0
           try clear c9
           try clear c9b0
           try clear c10
           try clear c10b0
           try clear c11
           try clear c11b0
           try clear c13
           try clear c16
           try clear c17
           try clear c17b0
           try clear c18
           try clear p18
           try clear q18
           try clear hx18
           try clear c19
           try clear c19b0
           try clear c23
           try clear hcz14_0
           try clear hcz14_1
           try clear hcz14_2
           try clear hcz18_0
           try clear hcz18_1
           try clear hcz18_2
           try clear hcz20_0
           try clear hcz20_1
           try clear hcz20_2
           try clear hcz21_0
           try clear hcz21_1
           try clear hcz21_2
           try clear hcz22_0
           try clear hcz22_1
           try clear hcz22_2
           try clear hfz14_0
           try clear hfz14_1
           try clear hfz14_2
           try clear hfz18_0
           try clear hfz18_1
           try clear hfz18_2
           try clear hfz20_0
           try clear hfz20_1
           try clear hfz20_2
           try clear hfz21_0
           try clear hfz21_1
           try clear hfz21_2
           try clear hfz22_0
           try clear hfz22_1
           try clear hfz22_2
           try clear hx181_0
           try clear hx182_0
           try clear hx183_0
           try clear hx183_1
           try clear hx183_2
           try clear p1
           try clear p18
           try clear p181
           try clear p182
           try clear p183
           try clear p2
           try clear q1
           try clear q18
           try clear q181
           try clear q182
           try clear q183
           obtain ⟨x10_4, rfl, HA, HK4, HO_5, BK184, HB⟩ := hrel
           cases gk with
           | zero => exact absurd HA.out (by simp [spec_l7Shared.l2])
           | succ k4 =>
            have H := HA.out
            clear HA
            simp only [spec_l7Shared.l2] at H
            by_cases c24 : x10_4 < x6_1
            ·rw [if_pos c24] at H
             have c24b0 : decide (x10_4 < x6_1) = true := decide_eq_true c24
             clear c24
             by_cases c25 : 0 ≤ x10_4; rotate_left
             ·rw [if_neg c25] at H; exact absurd H (by simp)
             rw [if_pos c25] at H
             have c25b0 : decide (0 ≤ x10_4) = true := decide_eq_true c25
             clear c25
             by_cases c26 : x10_4 < (l1.length : Int); rotate_left
             ·rw [if_neg c26] at H; exact absurd H (by simp)
             rw [if_pos c26] at H
             have c26b0 : decide (x10_4 < (l1.length : Int)) = true := decide_eq_true c26
             clear c26
             replace H := Option.bind_eq_some_iff.mp H
             obtain ⟨t187, A270, H⟩ := H
             replace H : (if t187 = true then (spec_l7Shared.l2 k4 l0 l1 x5_2 x6_1 x8_2 (wrap64 (x10_4 + 1)) ((rd_T130 (rd_L9 l1 x6_1) x8_2).f0) ((rd_T130 (rd_L9 l1 x6_1) x8_2).f1) ((rd_T130 (rd_L9 l1 x6_1) x8_2).f2)) else (some false)) = some r := H
             have A27 := Aside0.mk A270
             clear A270
             by_cases c28 : t187 = true
             ·subst c28
              have H1 : (spec_l7Shared.l2 k4 l0 l1 x5_2 x6_1 x8_2 (wrap64 (x10_4 + 1)) ((rd_T130 (rd_L9 l1 x6_1) x8_2).f0) ((rd_T130 (rd_L9 l1 x6_1) x8_2).f1) ((rd_T130 (rd_L9 l1 x6_1) x8_2).f2)) = some r := by rw [if_pos rfl] at H; exact H
              clear H
              have H := H1
              clear H1
              have H' := Aside0.mk H
              clear H
              try go_wp2
              have n0_ := Aside0.mk (Kd.R_drew HO_5.out)
              have n1_ := Aside0.mk (blk_drew BK184.out)
              have n2_ := Aside0.mk (below_drew1 HB.out)
              clear HO_5
              clear BK184
              clear HB
              have HO_5 := n0_
              have BK184 := n1_
              have HB := n2_
              clear n0_ n1_ n2_
              have p186 : 0 ≤ (x10_4 : Int) := oD
              have q186 : x10_4 < (l1.length : Int) := oD
              obtain ⟨ad186, A186_0, c186_0, e186, hx186_0, hl186_0, hi186_0⟩ := at_L9 HR1.out x10_4 p186 q186
              have hw186_0 := hx186_0
              obtain rfl : ad181 = ad186 := (by injection e186)
              replace hx186_0 := (cB HB.out hx186_0 :)
              have HR186_0 := Aside0.mk hi186_0
              have HC186_0 := Aside0.mk hl186_0
              clear hi186_0 hl186_0
              replace p186 := eq_true p186
              replace q186 := eq_true q186
              refine start_ (n := 7) (S := fun w' => w'.cell? ⟨gb184, 0, none⟩ = some (.int .i64 ((rd_T130 (rd_L9 l1 x6_1) x8_2).f0)) ∧ w'.cell? ⟨gb184, 1, none⟩ = some (.int .i64 ((rd_T130 (rd_L9 l1 x6_1) x8_2).f1)) ∧ w'.cell? ⟨gb184, 2, none⟩ = some (.int .i64 ((rd_T130 (rd_L9 l1 x6_1) x8_2).f2)) ∧ w'.cell? (ad181.add (x10_4).toNat) = some (.slice A186_0 (rd_L9 l1 x10_4).length c186_0)) (ds := []) #[false, false, false, false, false, false, false] (by kernel_rfl) rfl rfl ⟨(blk_cell BK184.out 0).trans rfl, (blk_cell BK184.out 1).trans rfl, (blk_cell BK184.out 2).trans rfl, ((cB HB.out hw186_0 :))⟩ (fun hHeld => ?_)
              generalize wr.drew = w29 at HO_5 BK184 HB HR186_0 hx186_0 hHeld ⊢
              refine pure_ (i := 1) (N := some 66) (v := ?_) (a' := ?_) #[false, true, false, false, false, false, false] rfl rfl (by kernel_rfl) (fun _ _ _ h => h) (Or.inl ⟨by rfl, ?_⟩) ?_ ?_
              rotate_left; (intro w'; go_simp; with_reducible rfl); rotate_left; (simp only [Act.put, sA, sZ, sS, i64_w, i32_w]; rfl)
              refine pure_ (i := 2) (N := some 67) (v := ?_) (a' := ?_) #[false, true, true, false, false, false, false] rfl rfl (by kernel_rfl) (fun _ _ _ h => h) (Or.inl ⟨by rfl, ?_⟩) ?_ ?_
              rotate_left; (intro w'; go_simp; with_reducible rfl); rotate_left; (simp only [Act.put, sA, sZ, sS, i64_w, i32_w]; rfl)
              refine pure_ (i := 3) (N := some 68) (v := ?_) (a' := ?_) #[false, true, true, true, false, false, false] rfl rfl (by kernel_rfl) (fun _ _ _ h => h) (Or.inl ⟨by rfl, ?_⟩) ?_ ?_
              rotate_left; (intro w'; go_simp; with_reducible rfl); rotate_left; (simp only [Act.put, sA, sZ, sS, i64_w, i32_w]; rfl)
              refine take_ (i := 0) (N := some 65) (v := ?_) (a' := ?_) #[true, true, true, true, false, false, false] rfl rfl (by kernel_rfl) (fun _ _ _ h => h) (Or.inl ⟨by rfl, ?_⟩) hHeld ?_ ?_
              rotate_left
              ·rintro w' ⟨s0, s1, s2, s3⟩
               go_simp
               with_reducible rfl
              rotate_left
              ·simp only [Act.put, sA, sZ, sS, i64_w, i32_w]
               rfl
              refine take_ (i := 4) (N := some 69) (v := ?_) (a' := ?_) #[true, true, true, true, true, false, false] rfl rfl (by kernel_rfl) (fun _ _ _ h => h) (Or.inl ⟨by rfl, ?_⟩) hHeld ?_ ?_
              rotate_left
              ·rintro w' ⟨s0, s1, s2, s3⟩
               go_simp
               with_reducible rfl
              rotate_left
              ·simp only [Act.put, sA, sZ, sS, i64_w, i32_w]
               rfl
              refine one_ (i := 5) (N := some 70) #[true, true, true, true, true, true, false] rfl rfl (by kernel_rfl) (by decide) (fun K hK => ?_)
              refine goes_ Try.func133 (by kernel_rfl) rfl #[.agg #[.int .i64 ((rd_T130 (rd_L9 l1 x6_1) x8_2).f0), .int .i64 ((rd_T130 (rd_L9 l1 x6_1) x8_2).f1), .int .i64 ((rd_T130 (rd_L9 l1 x6_1) x8_2).f2)], .slice A186_0 (rd_L9 l1 x10_4).length c186_0] (by rfl) rfl rfl aE ?_
              with_reducible refine (spec_l7Apart.calls k4 ((rd_T130 (rd_L9 l1 x6_1) x8_2).f0) ((rd_T130 (rd_L9 l1 x6_1) x8_2).f1) ((rd_T130 (rd_L9 l1 x6_1) x8_2).f2) _ _ (rd_L9 l1 x10_4) true _ ?side1 ?side2 A27.out).mono ?_
              (case side1 => repeat (first | exact (Kd.C_below HR186_0.out HB.out) | (with_reducible refine Kd.C_alloc ?_ _) | (with_reducible refine Kd.C_drewN ?_ _) | (with_reducible refine Kd.C_drew ?_)))
              (case side2 => exact HC186_0.out)
              rintro e w30 ⟨rfl, hb⟩
              refine ⟨_, rfl, ?_⟩
              have n0_ := Aside0.mk (Kd.R_below (by (with_reducible repeat (first | apply Kd.R_alloc | apply Kd.R_drewN | apply Kd.R_drew)); exact HO_5.out) hb)
              have n1_ := Aside0.mk (blk_below (g := gb184) (o := .cells #[.int .i64 ((rd_T130 (rd_L9 l1 x6_1) x8_2).f0), .int .i64 ((rd_T130 (rd_L9 l1 x6_1) x8_2).f1), .int .i64 ((rd_T130 (rd_L9 l1 x6_1) x8_2).f2)] 130 (0, 0)) (by (with_reducible repeat (first | refine blk_drewN ?_ _ | refine blk_drew ?_ | refine blk_alloc ?_ _)); exact BK184.out) hb)
              have n2_ := Aside0.mk (below_step bS hb)
              clear HO_5
              clear BK184
              clear HB
              have HO_5 := n0_
              have BK184 := n1_
              have HB := n2_
              clear n0_ n1_ n2_
              (try clear hb)
              (try clear hb2)
              (try clear hk)
              (try clear hi)
              refine hK.out _ _ ⟨(blk_cell BK184.out 0).trans rfl, (blk_cell BK184.out 1).trans rfl, (blk_cell BK184.out 2).trans rfl, ((cB HB.out hw186_0 :))⟩ (fun hHeld => ?_)
              clear hK K
              refine norm_ (a' := ?_) ?_ ?_
              rotate_left
              ·show Act.put _ (some 70) _ = _
               simp only [Act.put, sA, sZ, sS, i64_w, i32_w]
               rfl
              refine pure_ (i := 6) (N := some 71) (v := ?_) (a' := ?_) #[true, true, true, true, true, true, true] rfl rfl (by kernel_rfl) (fun _ _ _ h => h) (Or.inl ⟨by rfl, ?_⟩) ?_ ?_
              rotate_left; (intro w'; go_simp; with_reducible rfl); rotate_left; (simp only [Act.put, sA, sZ, sS, i64_w, i32_w]; rfl)
              refine done_ (by kernel_rfl) ?_
              try go_wp2
              go_roundg k4
              case measure => have := HK1.out; have := HK2.out; have := HJ11.out; have := HK4.out; omega
              case rel => exact ⟨(wrap64 (x10_4 + 1)), sD, H', ⟨by have := HK1.out; have := HK2.out; have := HJ11.out; have := HK4.out; omega⟩, ⟨kR⟩, ⟨kB⟩, ⟨by repeat (first | (with_reducible first | exact HB.out | apply below_alloc | apply pw_below_drewN | apply below_drew1 | refine below_set ?_ GE184.out) | exact HB.out)⟩⟩
             ·replace c28 := Bool.eq_false_iff.mpr c28
              subst c28
              have H1 : (some false) = some r := by rw [if_neg (show ¬ (false = true) by decide)] at H; exact H
              clear H
              have H := H1
              clear H1
              obtain rfl := Option.some.inj H
              try go_wp2
              have n0_ := Aside0.mk (Kd.R_drew HO_5.out)
              have n1_ := Aside0.mk (blk_drew BK184.out)
              have n2_ := Aside0.mk (below_drew1 HB.out)
              clear HO_5
              clear BK184
              clear HB
              have HO_5 := n0_
              have BK184 := n1_
              have HB := n2_
              clear n0_ n1_ n2_
              have p186 : 0 ≤ (x10_4 : Int) := oD
              have q186 : x10_4 < (l1.length : Int) := oD
              obtain ⟨ad186, A186_0, c186_0, e186, hx186_0, hl186_0, hi186_0⟩ := at_L9 HR1.out x10_4 p186 q186
              have hw186_0 := hx186_0
              obtain rfl : ad181 = ad186 := (by injection e186)
              replace hx186_0 := (cB HB.out hx186_0 :)
              have HR186_0 := Aside0.mk hi186_0
              have HC186_0 := Aside0.mk hl186_0
              clear hi186_0 hl186_0
              replace p186 := eq_true p186
              replace q186 := eq_true q186
              refine start_ (n := 7) (S := fun w' => w'.cell? ⟨gb184, 0, none⟩ = some (.int .i64 ((rd_T130 (rd_L9 l1 x6_1) x8_2).f0)) ∧ w'.cell? ⟨gb184, 1, none⟩ = some (.int .i64 ((rd_T130 (rd_L9 l1 x6_1) x8_2).f1)) ∧ w'.cell? ⟨gb184, 2, none⟩ = some (.int .i64 ((rd_T130 (rd_L9 l1 x6_1) x8_2).f2)) ∧ w'.cell? (ad181.add (x10_4).toNat) = some (.slice A186_0 (rd_L9 l1 x10_4).length c186_0)) (ds := []) #[false, false, false, false, false, false, false] (by kernel_rfl) rfl rfl ⟨(blk_cell BK184.out 0).trans rfl, (blk_cell BK184.out 1).trans rfl, (blk_cell BK184.out 2).trans rfl, ((cB HB.out hw186_0 :))⟩ (fun hHeld => ?_)
              generalize wr.drew = w31 at HO_5 BK184 HB HR186_0 hx186_0 hHeld ⊢
              refine pure_ (i := 1) (N := some 66) (v := ?_) (a' := ?_) #[false, true, false, false, false, false, false] rfl rfl (by kernel_rfl) (fun _ _ _ h => h) (Or.inl ⟨by rfl, ?_⟩) ?_ ?_
              rotate_left; (intro w'; go_simp; with_reducible rfl); rotate_left; (simp only [Act.put, sA, sZ, sS, i64_w, i32_w]; rfl)
              refine pure_ (i := 2) (N := some 67) (v := ?_) (a' := ?_) #[false, true, true, false, false, false, false] rfl rfl (by kernel_rfl) (fun _ _ _ h => h) (Or.inl ⟨by rfl, ?_⟩) ?_ ?_
              rotate_left; (intro w'; go_simp; with_reducible rfl); rotate_left; (simp only [Act.put, sA, sZ, sS, i64_w, i32_w]; rfl)
              refine pure_ (i := 3) (N := some 68) (v := ?_) (a' := ?_) #[false, true, true, true, false, false, false] rfl rfl (by kernel_rfl) (fun _ _ _ h => h) (Or.inl ⟨by rfl, ?_⟩) ?_ ?_
              rotate_left; (intro w'; go_simp; with_reducible rfl); rotate_left; (simp only [Act.put, sA, sZ, sS, i64_w, i32_w]; rfl)
              refine take_ (i := 0) (N := some 65) (v := ?_) (a' := ?_) #[true, true, true, true, false, false, false] rfl rfl (by kernel_rfl) (fun _ _ _ h => h) (Or.inl ⟨by rfl, ?_⟩) hHeld ?_ ?_
              rotate_left
              ·rintro w' ⟨s0, s1, s2, s3⟩
               go_simp
               with_reducible rfl
              rotate_left
              ·simp only [Act.put, sA, sZ, sS, i64_w, i32_w]
               rfl
              refine take_ (i := 4) (N := some 69) (v := ?_) (a' := ?_) #[true, true, true, true, true, false, false] rfl rfl (by kernel_rfl) (fun _ _ _ h => h) (Or.inl ⟨by rfl, ?_⟩) hHeld ?_ ?_
              rotate_left
              ·rintro w' ⟨s0, s1, s2, s3⟩
               go_simp
               with_reducible rfl
              rotate_left
              ·simp only [Act.put, sA, sZ, sS, i64_w, i32_w]
               rfl
              refine one_ (i := 5) (N := some 70) #[true, true, true, true, true, true, false] rfl rfl (by kernel_rfl) (by decide) (fun K hK => ?_)
              refine goes_ Try.func133 (by kernel_rfl) rfl #[.agg #[.int .i64 ((rd_T130 (rd_L9 l1 x6_1) x8_2).f0), .int .i64 ((rd_T130 (rd_L9 l1 x6_1) x8_2).f1), .int .i64 ((rd_T130 (rd_L9 l1 x6_1) x8_2).f2)], .slice A186_0 (rd_L9 l1 x10_4).length c186_0] (by rfl) rfl rfl aE ?_
              with_reducible refine (spec_l7Apart.calls k4 ((rd_T130 (rd_L9 l1 x6_1) x8_2).f0) ((rd_T130 (rd_L9 l1 x6_1) x8_2).f1) ((rd_T130 (rd_L9 l1 x6_1) x8_2).f2) _ _ (rd_L9 l1 x10_4) false _ ?side1 ?side2 A27.out).mono ?_
              (case side1 => repeat (first | exact (Kd.C_below HR186_0.out HB.out) | (with_reducible refine Kd.C_alloc ?_ _) | (with_reducible refine Kd.C_drewN ?_ _) | (with_reducible refine Kd.C_drew ?_)))
              (case side2 => exact HC186_0.out)
              rintro e w32 ⟨rfl, hb⟩
              refine ⟨_, rfl, ?_⟩
              have n0_ := Aside0.mk (Kd.R_below (by (with_reducible repeat (first | apply Kd.R_alloc | apply Kd.R_drewN | apply Kd.R_drew)); exact HO_5.out) hb)
              have n1_ := Aside0.mk (blk_below (g := gb184) (o := .cells #[.int .i64 ((rd_T130 (rd_L9 l1 x6_1) x8_2).f0), .int .i64 ((rd_T130 (rd_L9 l1 x6_1) x8_2).f1), .int .i64 ((rd_T130 (rd_L9 l1 x6_1) x8_2).f2)] 130 (0, 0)) (by (with_reducible repeat (first | refine blk_drewN ?_ _ | refine blk_drew ?_ | refine blk_alloc ?_ _)); exact BK184.out) hb)
              have n2_ := Aside0.mk (below_step bS hb)
              clear HO_5
              clear BK184
              clear HB
              have HO_5 := n0_
              have BK184 := n1_
              have HB := n2_
              clear n0_ n1_ n2_
              (try clear hb)
              (try clear hb2)
              (try clear hk)
              (try clear hi)
              refine hK.out _ _ ⟨(blk_cell BK184.out 0).trans rfl, (blk_cell BK184.out 1).trans rfl, (blk_cell BK184.out 2).trans rfl, ((cB HB.out hw186_0 :))⟩ (fun hHeld => ?_)
              clear hK K
              refine norm_ (a' := ?_) ?_ ?_
              rotate_left
              ·show Act.put _ (some 70) _ = _
               simp only [Act.put, sA, sZ, sS, i64_w, i32_w]
               rfl
              refine pure_ (i := 6) (N := some 71) (v := ?_) (a' := ?_) #[true, true, true, true, true, true, true] rfl rfl (by kernel_rfl) (fun _ _ _ h => h) (Or.inl ⟨by rfl, ?_⟩) ?_ ?_
              rotate_left; (intro w'; go_simp; with_reducible rfl); rotate_left; (simp only [Act.put, sA, sZ, sS, i64_w, i32_w]; rfl)
              refine done_ (by kernel_rfl) ?_
              try go_wp2
              go_ret
              exact ⟨rE, bS⟩
            ·rw [if_neg c24] at H
             have c24b0 : decide (x10_4 < x6_1) = false := decide_eq_false c24
             clear c24
             by_cases c33 : 0 ≤ ((rd_T130 (rd_L9 l1 x6_1) x8_2).f0); rotate_left
             ·rw [if_neg c33] at H; exact absurd H (by simp)
             rw [if_pos c33] at H
             have c33b0 : decide (0 ≤ ((rd_T130 (rd_L9 l1 x6_1) x8_2).f0)) = true := decide_eq_true c33
             clear c33
             by_cases c34 : ((rd_T130 (rd_L9 l1 x6_1) x8_2).f0) < (x5_2.length : Int); rotate_left
             ·rw [if_neg c34] at H; exact absurd H (by simp)
             rw [if_pos c34] at H
             have c34b0 : decide (((rd_T130 (rd_L9 l1 x6_1) x8_2).f0) < (x5_2.length : Int)) = true := decide_eq_true c34
             clear c34
             obtain ⟨y189, hy189⟩ : ∃ y_ : List Int, y_ = (x5_2.set (((rd_T130 (rd_L9 l1 x6_1) x8_2).f0) : Int).toNat (wrap64 ((wrap64 ((rd x5_2 ((rd_T130 (rd_L9 l1 x6_1) x8_2).f0)) + ((rd_T130 (rd_L9 l1 x6_1) x8_2).f2))) - ((rd_T130 (rd_L9 l1 x6_1) x8_2).f1)))) := ⟨_, rfl⟩
             replace H : (spec_l7Shared.l1 k4 l0 l1 y189 x6_1 ((rd_T130 (rd_L9 l1 x6_1) x8_2).f2) (wrap64 (x8_2 + 1))) = some r := by first | (rw [hy189]; with_reducible exact H) | (have H2_ := (Option.bind_some _ _).symm.trans H; rw [hy189]; with_reducible exact H2_) | (have H2_ := (Option.bind_some _ _).symm.trans H; with_reducible exact H2_) | with_reducible exact H | (rw [hy189]; exact H) | exact H
             have Ny189 := Aside0.mk hy189
             clear hy189
             have H' := Aside0.mk H
             clear H
             try go_wp2
             have n0_ := Aside0.mk (Kd.R_drew HO_5.out)
             have n1_ := Aside0.mk (blk_drew BK184.out)
             have n2_ := Aside0.mk (below_drew1 HB.out)
             clear HO_5
             clear BK184
             clear HB
             have HO_5 := n0_
             have BK184 := n1_
             have HB := n2_
             clear n0_ n1_ n2_
             obtain ⟨Ao37, co37, eo37⟩ := Kd.R_slice HO_5.out
             (first | subst eo37 | (injection eo37 with f1_ f2_ f3_; have f4_ := f1_.symm; have f5_ := f3_.symm; clear f1_ f2_ f3_; subst f4_; subst f5_))
             have p188 : 0 ≤ (((rd_T130 (rd_L9 l1 x6_1) x8_2).f0) : Int) := oD
             have q188 : ((rd_T130 (rd_L9 l1 x6_1) x8_2).f0) < (x5_2.length : Int) := oD
             obtain ⟨ad188, e188, hx188_0⟩ := Kd.at_int (Kd.R_reads' HO_5.out).2.2 ((rd_T130 (rd_L9 l1 x6_1) x8_2).f0) p188 q188
             cases e188
             replace p188 := eq_true p188
             replace q188 := eq_true q188
             have p35 : 0 ≤ (((rd_T130 (rd_L9 l1 x6_1) x8_2).f0) : Int) := oD
             have q35 : (((rd_T130 (rd_L9 l1 x6_1) x8_2).f0) : Int) < ((x5_2.length : Int) : Int) := oD
             obtain ⟨go35, co35, eo35, gb35, gl35, cl35, HG35⟩ := Kd.R_form HO_5.out (by omega)
             (first | cases eo35 | (injection eo35 with ea_ en_ ec_; (first | subst ea_ | (injection ea_ with ea_; subst ea_)); subst ec_; clear en_))
             have GB35 := Aside0.mk gb35
             have GG35 := Aside0.mk HG35
             clear gb35 gl35 HG35
             (first | simp only [add_plain] at hx188_0 | skip)
             obtain ⟨hx35_0, hf35_0⟩ := Kd.R_celln 0 HO_5.out (((rd_T130 (rd_L9 l1 x6_1) x8_2).f0) : Int) p35 q35
             replace p35 := eq_true p35
             replace q35 := eq_true q35
             have HP38 := Kd.R_putn HO_5.out (((rd_T130 (rd_L9 l1 x6_1) x8_2).f0) : Int) (wrap64 ((wrap64 ((rd x5_2 ((rd_T130 (rd_L9 l1 x6_1) x8_2).f0)) + ((rd_T130 (rd_L9 l1 x6_1) x8_2).f2))) - ((rd_T130 (rd_L9 l1 x6_1) x8_2).f1)))
             rw [← Ny189.out] at HP38
             have HQ38 := Aside0.mk HP38
             clear HP38
             refine start_ (n := 16) (S := fun w' => w'.cell? ⟨gb184, 0, none⟩ = some (.int .i64 ((rd_T130 (rd_L9 l1 x6_1) x8_2).f0)) ∧ w'.cell? ⟨gb184, 1, none⟩ = some (.int .i64 ((rd_T130 (rd_L9 l1 x6_1) x8_2).f1)) ∧ w'.cell? ⟨gb184, 2, none⟩ = some (.int .i64 ((rd_T130 (rd_L9 l1 x6_1) x8_2).f2)) ∧ w'.cell? ⟨go35, (((rd_T130 (rd_L9 l1 x6_1) x8_2).f0)).toNat, none⟩ = some (.int .i64 (rd x5_2 ((rd_T130 (rd_L9 l1 x6_1) x8_2).f0)))) (ds := [15]) (bA 16 0) (by kernel_rfl) rfl rfl ⟨(blk_cell BK184.out 0).trans rfl, (blk_cell BK184.out 1).trans rfl, (blk_cell BK184.out 2).trans rfl, hx188_0⟩ (fun hHeld => ?_); refine with_tabW spec_l7Shared.tab17 spec_l7Shared.bits17 (fun HT_ HW_ => ?_)
             generalize wr.drew = w36 at HO_5 BK184 HB GG35 HQ38 hf35_0 hx188_0 hx35_0 hHeld ⊢
             refine pU 0 72 (bA 16 1) ?_
             refine pU 1 73 (bA 16 3) ?_
             refine pU 3 75 (bA 16 11) ?_
             refine pU 4 76 (bA 16 27) ?_
             refine pU 8 80 (bA 16 283) ?_
             refine pU 11 83 (bA 16 2331) ?_
             refine tU 2 74 (bA 16 2335) ?_
             refine tU 5 77 (bA 16 2367) ?_
             refine pU 6 78 (bA 16 2431) ?_
             refine tU 7 79 (bA 16 2559) ?_
             refine tU 9 81 (bA 16 3071) ?_
             refine pU 10 82 (bA 16 4095) ?_
             refine tU 12 84 (bA 16 8191) ?_
             refine pU 13 85 (bA 16 16383) ?_
             refine pU 14 86 (bA 16 32767) ?_
             refine last_ (i := 15) (N := none) (bA 16 65535) rfl rfl (one_of HT_.out (by kernel_rfl)) (by decide) (fun K hK => ?_)
             refine skip_ (w1 := ?_) (by rfl) rfl ?_ ?_
             rotate_left
             ·go_simp
              rfl
             refine hK.out _ _ ?_
             clear hK K
             refine done_ (done_of HT_.out (by kernel_rfl)) ?_
             have hcz39_0 : ∀ u_, (w36.setCell ⟨go35, (((rd_T130 (rd_L9 l1 x6_1) x8_2).f0) : Int).toNat, none⟩ u_).cell? ⟨gb184, 0, none⟩ = some (.int .i64 ((rd_T130 (rd_L9 l1 x6_1) x8_2).f0)) := fun u_ => (blk_cell (blk_far BK184.out (by obtain ⟨cs_, ho_, _⟩ := HO_5.out.2; intro e_; exact absurd (by rw [e_]; rfl) (own_ne ho_ BK184.out (by decide))) u_) 0).trans rfl
             have hcz39_1 : ∀ u_, (w36.setCell ⟨go35, (((rd_T130 (rd_L9 l1 x6_1) x8_2).f0) : Int).toNat, none⟩ u_).cell? ⟨gb184, 1, none⟩ = some (.int .i64 ((rd_T130 (rd_L9 l1 x6_1) x8_2).f1)) := fun u_ => (blk_cell (blk_far BK184.out (by obtain ⟨cs_, ho_, _⟩ := HO_5.out.2; intro e_; exact absurd (by rw [e_]; rfl) (own_ne ho_ BK184.out (by decide))) u_) 1).trans rfl
             have hcz39_2 : ∀ u_, (w36.setCell ⟨go35, (((rd_T130 (rd_L9 l1 x6_1) x8_2).f0) : Int).toNat, none⟩ u_).cell? ⟨gb184, 2, none⟩ = some (.int .i64 ((rd_T130 (rd_L9 l1 x6_1) x8_2).f2)) := fun u_ => (blk_cell (blk_far BK184.out (by obtain ⟨cs_, ho_, _⟩ := HO_5.out.2; intro e_; exact absurd (by rw [e_]; rfl) (own_ne ho_ BK184.out (by decide))) u_) 2).trans rfl
             (first | have hfz39_0 := fun u_ => blk_frozen (blk_far (p := ⟨go35, (((rd_T130 (rd_L9 l1 x6_1) x8_2).f0) : Int).toNat, none⟩) BK184.out (by obtain ⟨cs_, ho_, _⟩ := HO_5.out.2; intro e_; exact absurd (by rw [e_]; rfl) (own_ne ho_ BK184.out (by decide))) u_) 0 | have hfz39_0 := blk_frozen BK184.out 0)
             (first | have hfz39_1 := fun u_ => blk_frozen (blk_far (p := ⟨go35, (((rd_T130 (rd_L9 l1 x6_1) x8_2).f0) : Int).toNat, none⟩) BK184.out (by obtain ⟨cs_, ho_, _⟩ := HO_5.out.2; intro e_; exact absurd (by rw [e_]; rfl) (own_ne ho_ BK184.out (by decide))) u_) 1 | have hfz39_1 := blk_frozen BK184.out 1)
             (first | have hfz39_2 := fun u_ => blk_frozen (blk_far (p := ⟨go35, (((rd_T130 (rd_L9 l1 x6_1) x8_2).f0) : Int).toNat, none⟩) BK184.out (by obtain ⟨cs_, ho_, _⟩ := HO_5.out.2; intro e_; exact absurd (by rw [e_]; rfl) (own_ne ho_ BK184.out (by decide))) u_) 2 | have hfz39_2 := blk_frozen BK184.out 2)
             try go_wp2
             go_roundg k4
             case measure => have := HK1.out; have := HK2.out; have := HJ11.out; have := HK4.out; omega
             case rel => exact ⟨(y189), (((rd_T130 (rd_L9 l1 x6_1) x8_2).f2)), (wrap64 (x8_2 + 1)), sD, sD, H', ⟨by have := HK1.out; have := HK2.out; have := HJ11.out; have := HK4.out; omega⟩, ⟨by (with_reducible repeat (first | apply Kd.R_alloc | apply Kd.R_drewN | apply Kd.R_drew)); exact HQ38.out⟩, ⟨by repeat (first | (with_reducible first | exact HB.out | apply below_alloc | apply pw_below_drewN | apply below_drew1 | refine below_set ?_ GB35.out | refine below_set ?_ GE184.out) | exact HB.out)⟩⟩
      ·rw [if_neg c10] at H
       have c10b0 : decide (x8_2 < ((rd_L9 l1 x6_1).length : Int)) = false := decide_eq_false c10
       clear c10
       have H' := Aside0.mk H
       clear H
       have p181 : 0 ≤ (x6_1 : Int) := oD
       have q181 : x6_1 < (l1.length : Int) := oD
       obtain ⟨ad181, A181_0, c181_0, e181, hx181_0, hl181_0, hi181_0⟩ := at_L9 HR1.out x6_1 p181 q181
       cases e181
       replace hx181_0 := (cB HB.out hx181_0 :)
       have HR181_0 := Aside0.mk hi181_0
       have HC181_0 := Aside0.mk hl181_0
       clear hi181_0 hl181_0
       replace p181 := eq_true p181
       replace q181 := eq_true q181
       go_wp2
       go_roundg k2
       case measure => have := HK1.out; have := HK2.out; omega
       case rel => exact ⟨(x5_2), (wrap64 (x6_1 + 1)), sD, H', ⟨by have := HK1.out; have := HK2.out; omega⟩, ⟨kR⟩, ⟨by repeat (first | (with_reducible first | exact HB.out | apply below_alloc | apply pw_below_drewN | apply below_drew1) | exact HB.out)⟩⟩
   ·rw [if_neg c7] at H
    have c7b0 : decide (x6_1 < (l1.length : Int)) = false := decide_eq_false c7
    clear c7
    have H' := Aside0.mk H
    clear H
    go_wp2
    go_loopg [11] k1 (fun kq v11 w' => ∃ (x11_2 : Int), v11 = .int .i64 x11_2 ∧ Aside0 (spec_l7Shared.l3 kq l0 x5_1 x11_2 = some r) ∧ Aside0 (kq ≤ k1) ∧ Aside0 (Kd.R (Kd.int .i64) 3 w' w.heap.size (fun _ => True) v179 x5_1) ∧ Aside0 (Below w.heap.size w w'))
    case atStart => exact ⟨(0), sD, H', ⟨Nat.le_refl _⟩, ⟨kR⟩, ⟨by repeat (first | (with_reducible first | exact HB.out | apply below_alloc | apply pw_below_drewN | apply below_drew1) | exact HB.out)⟩⟩
    case round =>
     clear H'
     try clear c1
     try clear p1
     try clear q1
     try clear hx1
     try clear c2
     try clear p2
     try clear c3
     try clear c3b0
     try clear c3b1
     try clear p3
     try clear q3
     try clear hx3
     try clear hf3
     try clear c4
     try clear c4b0
     try clear c4b1
     try clear p6
     try clear c7
     try clear c7b0
     try clear c8
     try clear c8b0
     try clear c9
     try clear c9b0
     try clear c10
     try clear c10b0
     try clear c11
     try clear c11b0
     try clear c13
     try clear c16
     try clear c17
     try clear c17b0
     try clear c18
     try clear p18
     try clear q18
     try clear hx18
     try clear c19
     try clear c19b0
     try clear c23
     try clear c24
     try clear c24b0
     try clear c25
     try clear c25b0
     try clear c26
     try clear c26b0
     try clear c28
     try clear c33
     try clear c33b0
     try clear c34
     try clear c34b0
     try clear p35
     try clear q35
     try clear hx35
     try clear hf35
     try clear hcz14_0
     try clear hcz14_1
     try clear hcz14_2
     try clear hcz18_0
     try clear hcz18_1
     try clear hcz18_2
     try clear hcz20_0
     try clear hcz20_1
     try clear hcz20_2
     try clear hcz21_0
     try clear hcz21_1
     try clear hcz21_2
     try clear hcz22_0
     try clear hcz22_1
     try clear hcz22_2
     try clear hcz39_0
     try clear hcz39_1
     try clear hcz39_2
     try clear hfz14_0
     try clear hfz14_1
     try clear hfz14_2
     try clear hfz18_0
     try clear hfz18_1
     try clear hfz18_2
     try clear hfz20_0
     try clear hfz20_1
     try clear hfz20_2
     try clear hfz21_0
     try clear hfz21_1
     try clear hfz21_2
     try clear hfz22_0
     try clear hfz22_1
     try clear hfz22_2
     try clear hfz39_0
     try clear hfz39_1
     try clear hfz39_2
     try clear hx181_0
     try clear hx182_0
     try clear hx183_0
     try clear hx183_1
     try clear hx183_2
     try clear hx186_0
     try clear hx188_0
     try clear hx35_0
     try clear p1
     try clear p18
     try clear p181
     try clear p182
     try clear p183
     try clear p186
     try clear p188
     try clear p2
     try clear p35
     try clear q1
     try clear q18
     try clear q181
     try clear q182
     try clear q183
     try clear q186
     try clear q188
     try clear q35
     obtain ⟨x11_2, rfl, HA, HK2, HO_5, HB⟩ := hrel
     cases gk with
     | zero => exact absurd HA.out (by simp [spec_l7Shared.l3])
     | succ k2 =>
      have H := HA.out
      clear HA
      simp only [spec_l7Shared.l3] at H
      by_cases c40 : x11_2 < (l0.length : Int)
      ·rw [if_pos c40] at H
       have c40b0 : decide (x11_2 < (l0.length : Int)) = true := decide_eq_true c40
       clear c40
       by_cases c41 : 0 ≤ x11_2; rotate_left
       ·rw [if_neg c41] at H; exact absurd H (by simp)
       rw [if_pos c41] at H
       have c41b0 : decide (0 ≤ x11_2) = true := decide_eq_true c41
       clear c41
       by_cases c42 : x11_2 < (x5_1.length : Int); rotate_left
       ·rw [if_neg c42] at H; exact absurd H (by simp)
       rw [if_pos c42] at H
       have c42b0 : decide (x11_2 < (x5_1.length : Int)) = true := decide_eq_true c42
       clear c42
       by_cases c43 : (rd x5_1 x11_2) = ((rd_T79 l0 x11_2).f0)
       ·rw [if_pos c43] at H
        have c43b0 : ((rd x5_1 x11_2) == ((rd_T79 l0 x11_2).f0)) = true := beq_iff_eq.mpr c43
        have c43b1 : ((rd x5_1 x11_2) != ((rd_T79 l0 x11_2).f0)) = false := bne_eq_false_iff_eq.mpr c43
        clear c43
        have H' := Aside0.mk H
        clear H
        try go_wp2
        have n0_ := Aside0.mk (Kd.R_drew HO_5.out)
        have n1_ := Aside0.mk (below_drew1 HB.out)
        clear HO_5
        clear HB
        have HO_5 := n0_
        have HB := n1_
        clear n0_ n1_
        obtain ⟨Ao45, co45, eo45⟩ := Kd.R_slice HO_5.out
        (first | subst eo45 | (injection eo45 with f1_ f2_ f3_; have f4_ := f1_.symm; have f5_ := f3_.symm; clear f1_ f2_ f3_; subst f4_; subst f5_))
        have p190 : 0 ≤ (x11_2 : Int) := oD
        have q190 : x11_2 < (x5_1.length : Int) := oD
        obtain ⟨ad190, e190, hx190_0⟩ := Kd.at_int (Kd.R_reads' HO_5.out).2.2 x11_2 p190 q190
        cases e190
        replace p190 := eq_true p190
        replace q190 := eq_true q190
        have p191 : 0 ≤ (x11_2 : Int) := oD
        have q191 : x11_2 < (l0.length : Int) := oD
        obtain ⟨ad191, e191, hx191_0, hx191_1, hx191_2, hx191_3⟩ := at_T79 HR0.out x11_2 p191 q191
        have hw191_3 := hx191_3
        have hw191_2 := hx191_2
        have hw191_1 := hx191_1
        have hw191_0 := hx191_0
        cases e191
        replace hx191_0 := (cB HB.out hx191_0 :)
        replace hx191_1 := (cB HB.out hx191_1 :)
        replace hx191_2 := (cB HB.out hx191_2 :)
        replace hx191_3 := (cB HB.out hx191_3 :)
        replace p191 := eq_true p191
        replace q191 := eq_true q191
        refine start_ (n := 10) (S := fun w' => w'.cell? (ad190.add (x11_2).toNat) = some (.int .i64 (rd x5_1 x11_2)) ∧ w'.cell? (ad191.add ((x11_2).toNat * 4)) = some (.int .i64 ((rd_T79 l0 x11_2).f0)) ∧ w'.cell? ⟨(ad191.add ((x11_2).toNat * 4)).block, (ad191.add ((x11_2).toNat * 4)).off + 1, none⟩ = some (.int .i64 ((rd_T79 l0 x11_2).f1)) ∧ w'.cell? ⟨(ad191.add ((x11_2).toNat * 4)).block, (ad191.add ((x11_2).toNat * 4)).off + 2, none⟩ = some (.int .i64 ((rd_T79 l0 x11_2).f2)) ∧ w'.cell? ⟨(ad191.add ((x11_2).toNat * 4)).block, (ad191.add ((x11_2).toNat * 4)).off + 3, none⟩ = some (.int .i64 ((rd_T79 l0 x11_2).f3))) (ds := []) #[false, false, false, false, false, false, false, false, false, false] (by kernel_rfl) rfl rfl ⟨hx190_0, ((cB HB.out hw191_0 :)), ((cB HB.out hw191_1 :)), ((cB HB.out hw191_2 :)), ((cB HB.out hw191_3 :))⟩ (fun hHeld => ?_); refine with_tabW spec_l7Shared.tab22 spec_l7Shared.bits22 (fun HT_ HW_ => ?_)
        generalize wr.drew = w44 at HO_5 HB hx190_0 hx191_0 hx191_1 hx191_2 hx191_3 hHeld ⊢
        refine pU 0 95 #[true, false, false, false, false, false, false, false, false, false] ?_
        refine pU 1 96 #[true, true, false, false, false, false, false, false, false, false] ?_
        refine pU 2 97 #[true, true, true, false, false, false, false, false, false, false] ?_
        refine pU 4 99 #[true, true, true, false, true, false, false, false, false, false] ?_
        refine pU 5 100 #[true, true, true, false, true, true, false, false, false, false] ?_
        refine pU 6 101 #[true, true, true, false, true, true, true, false, false, false] ?_
        refine pU 7 102 #[true, true, true, false, true, true, true, true, false, false] ?_
        refine tU 3 98 #[true, true, true, true, true, true, true, true, false, false] ?_
        refine tU 8 103 #[true, true, true, true, true, true, true, true, true, false] ?_
        refine pU 9 104 #[true, true, true, true, true, true, true, true, true, true] ?_
        refine done_ (done_of HT_.out (by kernel_rfl)) ?_
        try go_wp2
        go_roundg k2
        case measure => have := HK1.out; have := HK2.out; omega
        case rel => exact ⟨(wrap64 (x11_2 + 1)), sD, H', ⟨by have := HK1.out; have := HK2.out; omega⟩, ⟨kR⟩, ⟨by repeat (first | (with_reducible first | exact HB.out | apply below_alloc | apply pw_below_drewN | apply below_drew1) | exact HB.out)⟩⟩
       ·rw [if_neg c43] at H
        have c43b0 : ((rd x5_1 x11_2) == ((rd_T79 l0 x11_2).f0)) = false := beq_eq_false_iff_ne.mpr c43
        have c43b1 : ((rd x5_1 x11_2) != ((rd_T79 l0 x11_2).f0)) = true := bne_iff_ne.mpr c43
        obtain rfl := Option.some.inj H
        try go_wp2
        have n0_ := Aside0.mk (Kd.R_drew HO_5.out)
        have n1_ := Aside0.mk (below_drew1 HB.out)
        clear HO_5
        clear HB
        have HO_5 := n0_
        have HB := n1_
        clear n0_ n1_
        obtain ⟨Ao47, co47, eo47⟩ := Kd.R_slice HO_5.out
        (first | subst eo47 | (injection eo47 with f1_ f2_ f3_; have f4_ := f1_.symm; have f5_ := f3_.symm; clear f1_ f2_ f3_; subst f4_; subst f5_))
        have p190 : 0 ≤ (x11_2 : Int) := oD
        have q190 : x11_2 < (x5_1.length : Int) := oD
        obtain ⟨ad190, e190, hx190_0⟩ := Kd.at_int (Kd.R_reads' HO_5.out).2.2 x11_2 p190 q190
        cases e190
        replace p190 := eq_true p190
        replace q190 := eq_true q190
        have p191 : 0 ≤ (x11_2 : Int) := oD
        have q191 : x11_2 < (l0.length : Int) := oD
        obtain ⟨ad191, e191, hx191_0, hx191_1, hx191_2, hx191_3⟩ := at_T79 HR0.out x11_2 p191 q191
        have hw191_3 := hx191_3
        have hw191_2 := hx191_2
        have hw191_1 := hx191_1
        have hw191_0 := hx191_0
        cases e191
        replace hx191_0 := (cB HB.out hx191_0 :)
        replace hx191_1 := (cB HB.out hx191_1 :)
        replace hx191_2 := (cB HB.out hx191_2 :)
        replace hx191_3 := (cB HB.out hx191_3 :)
        replace p191 := eq_true p191
        replace q191 := eq_true q191
        refine start_ (n := 10) (S := fun w' => w'.cell? (ad190.add (x11_2).toNat) = some (.int .i64 (rd x5_1 x11_2)) ∧ w'.cell? (ad191.add ((x11_2).toNat * 4)) = some (.int .i64 ((rd_T79 l0 x11_2).f0)) ∧ w'.cell? ⟨(ad191.add ((x11_2).toNat * 4)).block, (ad191.add ((x11_2).toNat * 4)).off + 1, none⟩ = some (.int .i64 ((rd_T79 l0 x11_2).f1)) ∧ w'.cell? ⟨(ad191.add ((x11_2).toNat * 4)).block, (ad191.add ((x11_2).toNat * 4)).off + 2, none⟩ = some (.int .i64 ((rd_T79 l0 x11_2).f2)) ∧ w'.cell? ⟨(ad191.add ((x11_2).toNat * 4)).block, (ad191.add ((x11_2).toNat * 4)).off + 3, none⟩ = some (.int .i64 ((rd_T79 l0 x11_2).f3))) (ds := []) #[false, false, false, false, false, false, false, false, false, false] (by kernel_rfl) rfl rfl ⟨hx190_0, ((cB HB.out hw191_0 :)), ((cB HB.out hw191_1 :)), ((cB HB.out hw191_2 :)), ((cB HB.out hw191_3 :))⟩ (fun hHeld => ?_); refine with_tabW spec_l7Shared.tab22 spec_l7Shared.bits22 (fun HT_ HW_ => ?_)
        generalize wr.drew = w46 at HO_5 HB hx190_0 hx191_0 hx191_1 hx191_2 hx191_3 hHeld ⊢
        refine pU 0 95 #[true, false, false, false, false, false, false, false, false, false] ?_
        refine pU 1 96 #[true, true, false, false, false, false, false, false, false, false] ?_
        refine pU 2 97 #[true, true, true, false, false, false, false, false, false, false] ?_
        refine pU 4 99 #[true, true, true, false, true, false, false, false, false, false] ?_
        refine pU 5 100 #[true, true, true, false, true, true, false, false, false, false] ?_
        refine pU 6 101 #[true, true, true, false, true, true, true, false, false, false] ?_
        refine pU 7 102 #[true, true, true, false, true, true, true, true, false, false] ?_
        refine tU 3 98 #[true, true, true, true, true, true, true, true, false, false] ?_
        refine tU 8 103 #[true, true, true, true, true, true, true, true, true, false] ?_
        refine pU 9 104 #[true, true, true, true, true, true, true, true, true, true] ?_
        refine done_ (done_of HT_.out (by kernel_rfl)) ?_
        try go_wp2
        go_ret
        exact ⟨rE, bB⟩
      ·rw [if_neg c40] at H
       have c40b0 : decide (x11_2 < (l0.length : Int)) = false := decide_eq_false c40
       clear c40
       obtain rfl := Option.some.inj H
       go_wp2
       go_ret
       exact ⟨rE, bB⟩

end Go.Proofs.Ytecdigebnhlfhaa.OFnExactIsShared
