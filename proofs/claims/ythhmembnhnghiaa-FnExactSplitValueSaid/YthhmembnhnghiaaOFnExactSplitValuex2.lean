/- Functions of the program as plain Lean functions, with their contracts: written by this session's program ownprint.py. Conditions: none. -/
import Derived.Test.YthhmembnhnghiaaOFnExactSplitValuex0
import Derived.Test.YthhmembnhnghiaaOFnExactSplitValuex1
namespace Go.Proofs.Ythhmembnhnghiaa.OFnExactSplitValue
open Go.RowKit Go.Proofs.YthhmembnhnghiaaW.PrintWords Go.Proofs.YthhmembnhnghiaaW.PrintLast Go.Proofs.YthhmembnhnghiaaW.PrintMore
attribute [local go_sem] max2_int min2_int max_two min_two max_three min_three max_four min_four   -- for this text's walks alone
set_option linter.unusedVariables false
set_option linter.unusedSimpArgs false

/-! ### spec_l5Split: function 123 -/
mutual
def spec_l5Split.l0 : Nat → List (S59) → List (S77) → List Int → Int → Int → Int → Option (Bool)
 | 0, _, _, _, _, _, _ => none
 | k + 1, x0, x1, x5, x6, x7, x8 => if x8 < (x1.length : Int) then (if 0 ≤ x8 then ((spec_l3Job.f x0 ((rd_T77 x1 x8).f0)).bind fun t131 => (if t131 = true then (if ((rd_T77 x1 x8).f1) < x6 then (some false) else (if 0 ≤ ((rd_T77 x1 x8).f0) then (if ((rd_T77 x1 x8).f0) < (x0.length : Int) then (if ((rd_T77 x1 x8).f1) < ((rd_T59 x0 ((rd_T77 x1 x8).f0)).f2) then (some false) else (if ((rd_T77 x1 x8).f2) ≤ ((rd_T77 x1 x8).f1) then (some false) else (if ((rd_T77 x1 x8).f0) = x7 then (if ((rd_T77 x1 x8).f1) = x6 then (some false) else (if ((rd_T77 x1 x8).f2) > 1000 then (some false) else (if ((rd_T77 x1 x8).f0) < (x5.length : Int) then (spec_l5Split.l0 k x0 x1 (x5.set (((rd_T77 x1 x8).f0) : Int).toNat (wrap64 ((wrap64 ((rd x5 ((rd_T77 x1 x8).f0)) + ((rd_T77 x1 x8).f2))) - ((rd_T77 x1 x8).f1)))) ((rd_T77 x1 x8).f2) ((rd_T77 x1 x8).f0) (wrap64 (x8 + 1))) else (none)))) else (if ((rd_T77 x1 x8).f2) > 1000 then (some false) else (if ((rd_T77 x1 x8).f0) < (x5.length : Int) then (spec_l5Split.l0 k x0 x1 (x5.set (((rd_T77 x1 x8).f0) : Int).toNat (wrap64 ((wrap64 ((rd x5 ((rd_T77 x1 x8).f0)) + ((rd_T77 x1 x8).f2))) - ((rd_T77 x1 x8).f1)))) ((rd_T77 x1 x8).f2) ((rd_T77 x1 x8).f0) (wrap64 (x8 + 1))) else (none)))))) else (none)) else (none))) else (some false))) else (none)) else (spec_l5Split.l1 k x0 x5 0)
def spec_l5Split.l1 : Nat → List (S59) → List Int → Int → Option (Bool)
 | 0, _, _, _ => none
 | k + 1, x0, x5, x10 => if x10 < (x0.length : Int) then (if 0 ≤ x10 then (if x10 < (x5.length : Int) then (if (rd x5 x10) = ((rd_T59 x0 x10).f0) then (spec_l5Split.l1 k x0 x5 (wrap64 (x10 + 1))) else (some false)) else (none)) else (none)) else (some true)
end
def spec_l5Split.f (k : Nat) (l0 : List (S59)) (l1 : List (S77)) : Option (Bool) := if 0 ≤ (l0.length : Int) then (if ((l0.length : Int) : Int).toNat ≤ 35184372088832 then (spec_l5Split.l0 k l0 l1 (List.replicate ((l0.length : Int) : Int).toNat 0) 0 (-1) 0) else (none)) else (none)
theorem spec_l5Split.mono_l : ∀ k, (∀ y0 y1 y2 y3 y4 y5, LeO (spec_l5Split.l0 k y0 y1 y2 y3 y4 y5) (spec_l5Split.l0 (k + 1) y0 y1 y2 y3 y4 y5)) ∧ (∀ y0 y1 y2, LeO (spec_l5Split.l1 k y0 y1 y2) (spec_l5Split.l1 (k + 1) y0 y1 y2))
 | 0 => ⟨fun _ _ _ _ _ _ r h => by simp [spec_l5Split.l0] at h, fun _ _ _ r h => by simp [spec_l5Split.l1] at h⟩
 | k + 1 => by
  obtain ⟨ih0, ih1⟩ := spec_l5Split.mono_l k
  refine ⟨?_, ?_⟩
  ·intro y0 y1 y2 y3 y4 y5
   unfold spec_l5Split.l0
   repeat' first
   | (with_reducible exact ih0 _ _ _ _ _ _)
   | (with_reducible exact ih1 _ _ _)
   | (with_reducible exact LeO.refl _)
   | (with_reducible exact LeO.none _)
   | (with_reducible refine LeO.ite ?_ ?_)
   | (with_reducible refine LeO.bind ?_ (fun _ => ?_))
   | exact ih0 _ _ _ _ _ _
   | exact ih1 _ _ _
   | exact LeO.none _
   | refine LeO.ite ?_ ?_
   | refine LeO.bind ?_ (fun _ => ?_)
  ·intro y0 y1 y2
   unfold spec_l5Split.l1
   repeat' first
   | (with_reducible exact ih0 _ _ _ _ _ _)
   | (with_reducible exact ih1 _ _ _)
   | (with_reducible exact LeO.refl _)
   | (with_reducible exact LeO.none _)
   | (with_reducible refine LeO.ite ?_ ?_)
   | (with_reducible refine LeO.bind ?_ (fun _ => ?_))
   | exact ih0 _ _ _ _ _ _
   | exact ih1 _ _ _
   | exact LeO.none _
   | refine LeO.ite ?_ ?_
   | refine LeO.bind ?_ (fun _ => ?_)
theorem spec_l5Split.mono : ∀ a0 a1 k, LeO (spec_l5Split.f k a0 a1) (spec_l5Split.f (k + 1) a0 a1) := by
 intro a0 a1 k
 obtain ⟨ih0, ih1⟩ := spec_l5Split.mono_l k
 unfold spec_l5Split.f
 repeat' first
   | (with_reducible exact ih0 _ _ _ _ _ _)
   | (with_reducible exact ih1 _ _ _)
   | (with_reducible exact LeO.refl _)
   | (with_reducible exact LeO.none _)
   | (with_reducible refine LeO.ite ?_ ?_)
   | (with_reducible refine LeO.bind ?_ (fun _ => ?_))
   | exact ih0 _ _ _ _ _ _
   | exact ih1 _ _ _
   | exact LeO.none _
   | refine LeO.ite ?_ ?_
   | refine LeO.bind ?_ (fun _ => ?_)
def spec_l5Split.T7 : Bool × List (List Nat × List Nat) := (true, [([], []), ([], []), ([1], [1]), ([0, 2], [0, 2]), ([3], [3]), ([4, 3], [4]), ([5], [5]), ([6, 5], [5, 6]), ([5], [5]), ([7, 8, 5], [5, 7, 8]), ([5, 9], [5, 9]), ([10, 5], [10]), ([11], [11]), ([12, 11], [11, 12]), ([11], [11]), ([11], [11]), ([15, 11], [11, 15]), ([14, 16, 11], [11, 14, 16]), ([17, 11], [11, 17]), ([18, 11], [11, 18]), ([13, 19, 11], [11, 13, 19]), ([11, 20], [11, 20]), ([21, 11], [21]), ([22], [22]), ([23, 22], [22, 23]), ([22], [22]), ([25, 22], [22, 25]), ([24, 26, 22], [22, 24, 26]), ([22, 27], [22, 27]), ([28, 22], [28]), ([29], [29]), ([30, 29], [29, 30]), ([29], [29]), ([31, 32, 29], [29, 31, 32]), ([33, 29, 29], [29, 33]), ([34], [34]), ([35, 34], [34, 35]), ([34], [34]), ([36, 37, 34], [34, 36, 37]), ([34, 38, 29], [29, 34, 38]), ([29, 39], [29, 39]), ([40, 34], [40]), ([41], [41]), ([42, 41], [41, 42]), ([43, 41], [41, 43]), ([41, 44], [41, 44])])
def spec_l5Split.B7 : List Nat := [0, 0, 2, 7, 15, 31, 63, 127, 63, 511, 1023, 2047, 4095, 8191, 4095, 4095, 36863, 118783, 249855, 511999, 1048575, 2097151, 4194303, 8388607, 16777215, 8388607, 41943039, 134217727, 268435455, 536870911, 1073741823, 2147483647, 1073741823, 8589934591, 17179869183, 34359738367, 68719476735, 34359738367, 274877906943, 549755813887, 1099511627775, 2199023255551, 4398046511103, 8796093022207, 17592186044415, 35184372088831]
theorem spec_l5Split.tab7 : rtab .any (opsOf Try.f123 7) = spec_l5Split.T7 := by kernel_rfl
theorem spec_l5Split.bits7 : waitsOk spec_l5Split.T7.2 spec_l5Split.B7 = true := by kernel_rfl
def spec_l5Split.T9 : Bool × List (List Nat × List Nat) := (true, [([], []), ([], []), ([1], [1]), ([], []), ([], []), ([4], [4]), ([3, 5], [3, 5]), ([6], [6]), ([], []), ([8], [8]), ([7, 9], [7, 9]), ([], []), ([11], [11]), ([10, 12], [10, 12]), ([0, 2, 0, 1, 2, 3, 4, 5, 6, 7, 8, 9, 10, 11, 12, 13], [0, 2]), ([14, 13, 0, 1, 2, 3, 4, 5, 6, 7, 8, 9, 10, 11, 12, 13], [13, 14])])
def spec_l5Split.B9 : List Nat := [0, 0, 2, 0, 0, 16, 56, 120, 0, 256, 1016, 0, 2048, 8184, 16383, 32767]
theorem spec_l5Split.tab9 : rtab .any (opsOf Try.f123 9) = spec_l5Split.T9 := by kernel_rfl
theorem spec_l5Split.bits9 : waitsOk spec_l5Split.T9.2 spec_l5Split.B9 = true := by kernel_rfl
def spec_l5Split.T15 : Bool × List (List Nat × List Nat) := (true, [([], []), ([], []), ([0, 1], [0, 1]), ([2], [2]), ([], []), ([], []), ([4, 5], [4, 5]), ([6], [6]), ([7], [7]), ([3, 8], [3, 8])])
def spec_l5Split.B15 : List Nat := [0, 0, 3, 7, 0, 0, 48, 112, 240, 511]
theorem spec_l5Split.tab15 : rtab .any (opsOf Try.f123 15) = spec_l5Split.T15 := by kernel_rfl
theorem spec_l5Split.bits15 : waitsOk spec_l5Split.T15.2 spec_l5Split.B15 = true := by kernel_rfl
set_option maxHeartbeats 8000000 in
set_option maxRecDepth 100000 in
theorem spec_l5Split.calls (k : Nat) (A0 : Option Addr) (c0 : Nat) (l0 : List (S59)) (A1 : Option Addr) (c1 : Nat) (l1 : List (S77)) (r : Bool) (w : World) (hr0 : Kd.C k59 w A0 l0.length l0) (hc0 : l0.length ≤ c0) (hr1 : Kd.C k77 w A1 l1.length l1) (hc1 : l1.length ≤ c1) (h : spec_l5Split.f k l0 l1 = some r) :
  Calls Try.prog 123 #[.slice A0 l0.length c0, .slice A1 l1.length c1] w fun e w' => e = .returned (.bool r) ∧ Below w.heap.size w w' := by
 have hu77 := Try.underlying77
 have HR0 := Aside0.mk hr0
 have HC0 := Aside0.mk hc0
 clear hr0 hc0
 have HR1 := Aside0.mk hr1
 have HC1 := Aside0.mk hc1
 clear hr1 hc1
 have HB := Aside0.mk (Below.refl w.heap.size w)
 have H : (if 0 ≤ (l0.length : Int) then (if ((l0.length : Int) : Int).toNat ≤ 35184372088832 then (spec_l5Split.l0 k l0 l1 (List.replicate ((l0.length : Int) : Int).toNat 0) 0 (-1) 0) else (none)) else (none)) = some r := h
 clear h
 by_cases c3 : 0 ≤ (l0.length : Int)
 ·rw [if_pos c3] at H
  have c3b0 := eq_true c3
  have c3b1 : decide (0 ≤ (l0.length : Int)) = true := decide_eq_true c3
  clear c3
  by_cases c4 : ((l0.length : Int) : Int).toNat ≤ 35184372088832
  ·rw [if_pos c4] at H
   have c4b0 := eq_true c4
   have c4b1 : decide (((l0.length : Int) : Int).toNat ≤ 35184372088832) = true := decide_eq_true c4
   clear c4
   obtain ⟨y126, hy126⟩ : ∃ y_ : List Int, y_ = (List.replicate ((l0.length : Int) : Int).toNat 0) := ⟨_, rfl⟩
   replace H : (spec_l5Split.l0 k l0 l1 y126 0 (-1) 0) = some r := by first | (rw [hy126]; with_reducible exact H) | (have H2_ := (Option.bind_some _ _).symm.trans H; rw [hy126]; with_reducible exact H2_) | (have H2_ := (Option.bind_some _ _).symm.trans H; with_reducible exact H2_) | with_reducible exact H | (rw [hy126]; exact H) | exact H
   have Ny126 := Aside0.mk hy126
   clear hy126
   have H' := Aside0.mk H
   clear H
   go_enter Try.func123, Try.ntmps123
   go_wp2_with (first | ((with_reducible refine gate_dst (N := 13) rfl ?_); refine Kd.R_make (Kd.int .i64) _ 3 rfl (N := 13) rfl 37 _ _ rfl (l0.length : Int) rfl rfl Try.underlying37 (.int .i64 0) 8 info3 rfl (by decide) (by omega) 0 (ok := fun _ => True) (okp := fun _ => True) rfl (fun _ hk => hk) trivial (of_decide_eq_true (by first | (with_reducible assumption) | assumption)) (Nat.le_trans (Nat.mul_le_mul_right _ (of_decide_eq_true (by first | (with_reducible assumption) | assumption) : (l0.length : Int).toNat ≤ 35184372088832)) (by omega)) (Below.refl _ _) (Nat.le_refl _) ?_; intro v127 w5 ho6 hb hg_ hnew_; clear hg_ hnew_; (first | rw [← Ny126.out] at ho6 | (simp only [Int.reduceToNat] at ho6; rw [← Ny126.out] at ho6)); have n0_ := Aside0.mk (Kd.R_lower ho6 (below_size (by repeat (first | (with_reducible first | exact HB.out | apply below_alloc | apply pw_below_drewN | apply below_drew1) | exact HB.out)))); have n1_ := Aside0.mk (below_step (by repeat (first | (with_reducible first | exact HB.out | apply below_alloc | apply pw_below_drewN | apply below_drew1) | exact HB.out)) hb); clear HB; have HO128 := n0_; have HB := n1_; clear n0_ n1_; clear hb ho6))
   go_loopg [6, 7, 8] k (fun kq v6 v7 v8 w' => ∃ (x5_1 : List Int) (x6_1 : Int) (x7_1 : Int) (x8_1 : Int), v6 = .int .i64 x6_1 ∧ v7 = .int .i64 x7_1 ∧ v8 = .int .i64 x8_1 ∧ Aside0 (spec_l5Split.l0 kq l0 l1 x5_1 x6_1 x7_1 x8_1 = some r) ∧ Aside0 (kq ≤ k) ∧ Aside0 (Kd.R (Kd.int .i64) 3 w' w.heap.size (fun _ => True) v127 x5_1) ∧ Aside0 (Below w.heap.size w w'))
   case atStart => exact ⟨(y126), (0), ((-1)), (0), (by first | rfl | (simp; done) | (simp [*]; done)), (by first | rfl | (simp; done) | (simp [*]; done)), (by first | rfl | (simp; done) | (simp [*]; done)), H', ⟨Nat.le_refl _⟩, ⟨by (with_reducible repeat (first | apply Kd.R_alloc | apply Kd.R_drewN | apply Kd.R_drew)); exact HO128.out⟩, ⟨by repeat (first | (with_reducible first | exact HB.out | apply below_alloc | apply pw_below_drewN | apply below_drew1) | exact HB.out)⟩⟩
   case round =>
    clear H'
    try clear c1
    try clear p2
    try clear c3
    try clear c3b0
    try clear c3b1
    try clear c4
    try clear c4b0
    try clear c4b1
    obtain ⟨x5_1, x6_1, x7_1, x8_1, rfl, rfl, rfl, HA, HK1, HO_5, HB⟩ := hrel
    cases gk with
    | zero => exact absurd HA.out (by simp [spec_l5Split.l0])
    | succ k1 =>
     have H := HA.out
     clear HA
     simp only [spec_l5Split.l0] at H
     by_cases c7 : x8_1 < (l1.length : Int)
     ·rw [if_pos c7] at H
      have c7b0 : decide (x8_1 < (l1.length : Int)) = true := decide_eq_true c7
      clear c7
      by_cases c8 : 0 ≤ x8_1
      ·rw [if_pos c8] at H
       have c8b0 : decide (0 ≤ x8_1) = true := decide_eq_true c8
       clear c8
       replace H := Option.bind_eq_some_iff.mp H
       obtain ⟨t131, A90, H⟩ := H
       replace H : (if t131 = true then (if ((rd_T77 l1 x8_1).f1) < x6_1 then (some false) else (if 0 ≤ ((rd_T77 l1 x8_1).f0) then (if ((rd_T77 l1 x8_1).f0) < (l0.length : Int) then (if ((rd_T77 l1 x8_1).f1) < ((rd_T59 l0 ((rd_T77 l1 x8_1).f0)).f2) then (some false) else (if ((rd_T77 l1 x8_1).f2) ≤ ((rd_T77 l1 x8_1).f1) then (some false) else (if ((rd_T77 l1 x8_1).f0) = x7_1 then (if ((rd_T77 l1 x8_1).f1) = x6_1 then (some false) else (if ((rd_T77 l1 x8_1).f2) > 1000 then (some false) else (if ((rd_T77 l1 x8_1).f0) < (x5_1.length : Int) then (spec_l5Split.l0 k1 l0 l1 (x5_1.set (((rd_T77 l1 x8_1).f0) : Int).toNat (wrap64 ((wrap64 ((rd x5_1 ((rd_T77 l1 x8_1).f0)) + ((rd_T77 l1 x8_1).f2))) - ((rd_T77 l1 x8_1).f1)))) ((rd_T77 l1 x8_1).f2) ((rd_T77 l1 x8_1).f0) (wrap64 (x8_1 + 1))) else (none)))) else (if ((rd_T77 l1 x8_1).f2) > 1000 then (some false) else (if ((rd_T77 l1 x8_1).f0) < (x5_1.length : Int) then (spec_l5Split.l0 k1 l0 l1 (x5_1.set (((rd_T77 l1 x8_1).f0) : Int).toNat (wrap64 ((wrap64 ((rd x5_1 ((rd_T77 l1 x8_1).f0)) + ((rd_T77 l1 x8_1).f2))) - ((rd_T77 l1 x8_1).f1)))) ((rd_T77 l1 x8_1).f2) ((rd_T77 l1 x8_1).f0) (wrap64 (x8_1 + 1))) else (none)))))) else (none)) else (none))) else (some false)) = some r := H
       have A9 := Aside0.mk A90
       clear A90
       by_cases c10 : t131 = true
       ·subst c10
        have H1 : (if ((rd_T77 l1 x8_1).f1) < x6_1 then (some false) else (if 0 ≤ ((rd_T77 l1 x8_1).f0) then (if ((rd_T77 l1 x8_1).f0) < (l0.length : Int) then (if ((rd_T77 l1 x8_1).f1) < ((rd_T59 l0 ((rd_T77 l1 x8_1).f0)).f2) then (some false) else (if ((rd_T77 l1 x8_1).f2) ≤ ((rd_T77 l1 x8_1).f1) then (some false) else (if ((rd_T77 l1 x8_1).f0) = x7_1 then (if ((rd_T77 l1 x8_1).f1) = x6_1 then (some false) else (if ((rd_T77 l1 x8_1).f2) > 1000 then (some false) else (if ((rd_T77 l1 x8_1).f0) < (x5_1.length : Int) then (spec_l5Split.l0 k1 l0 l1 (x5_1.set (((rd_T77 l1 x8_1).f0) : Int).toNat (wrap64 ((wrap64 ((rd x5_1 ((rd_T77 l1 x8_1).f0)) + ((rd_T77 l1 x8_1).f2))) - ((rd_T77 l1 x8_1).f1)))) ((rd_T77 l1 x8_1).f2) ((rd_T77 l1 x8_1).f0) (wrap64 (x8_1 + 1))) else (none)))) else (if ((rd_T77 l1 x8_1).f2) > 1000 then (some false) else (if ((rd_T77 l1 x8_1).f0) < (x5_1.length : Int) then (spec_l5Split.l0 k1 l0 l1 (x5_1.set (((rd_T77 l1 x8_1).f0) : Int).toNat (wrap64 ((wrap64 ((rd x5_1 ((rd_T77 l1 x8_1).f0)) + ((rd_T77 l1 x8_1).f2))) - ((rd_T77 l1 x8_1).f1)))) ((rd_T77 l1 x8_1).f2) ((rd_T77 l1 x8_1).f0) (wrap64 (x8_1 + 1))) else (none)))))) else (none)) else (none))) = some r := by rw [if_pos rfl] at H; exact H
        clear H
        have H := H1
        clear H1
        by_cases c11 : ((rd_T77 l1 x8_1).f1) < x6_1
        ·rw [if_pos c11] at H
         have c11b0 : decide (((rd_T77 l1 x8_1).f1) < x6_1) = true := decide_eq_true c11
         clear c11
         obtain rfl := Option.some.inj H
         have p129 : 0 ≤ (x8_1 : Int) := of_decide_eq_true (by first | (with_reducible assumption) | assumption)
         have q129 : x8_1 < (l1.length : Int) := of_decide_eq_true (by first | (with_reducible assumption) | assumption)
         obtain ⟨ad129, e129, hx129_0, hx129_1, hx129_2⟩ := at_T77 HR1.out x8_1 p129 q129
         cases e129
         replace hx129_0 := (HB.out.cell (World.block_lt_of_cell? w _ hx129_0)).trans hx129_0
         replace hx129_1 := (HB.out.cell (World.block_lt_of_cell? w _ hx129_1)).trans hx129_1
         replace hx129_2 := (HB.out.cell (World.block_lt_of_cell? w _ hx129_2)).trans hx129_2
         replace p129 := eq_true p129
         replace q129 := eq_true q129
         try go_wp2_with (first | ((with_reducible refine gate_dst (N := 9) rfl ?_); refine box_event ?hg (N := 9) ?hd (cs := #[.int .i64 0, .int .i64 0, .int .i64 0]) (t := 77) ?hr ?_; (case hd => rfl); (case hg => rfl); (case hr => first | (go_simp; done) | (go_simp; rfl)); intro gb130 hg w12 hbox hb; have n0_ := Aside0.mk (Kd.R_below (by (with_reducible repeat (first | apply Kd.R_alloc | apply Kd.R_drewN | apply Kd.R_drew)); exact HO_5.out) hb); have n1_ := Aside0.mk (below_step (by repeat (first | (with_reducible first | exact HB.out | apply below_alloc | apply pw_below_drewN | apply below_drew1) | exact HB.out)) hb); have n2_ := Aside0.mk (hbox); have n3_ := Aside0.mk ((by rw [hg]; exact (below_size (by repeat (first | (with_reducible first | exact HB.out | apply below_alloc | apply pw_below_drewN | apply below_drew1) | exact HB.out))) : w.heap.size ≤ gb130)); have n4_ := Aside0.mk ((by rw [hg]; exact (below_size (by repeat (first | (with_reducible first | exact HB.out | apply below_alloc | apply pw_below_drewN | apply below_drew1) | exact HB.out))) : w.heap.size ≤ gb130)); clear HO_5; clear HB; have HO_5 := n0_; have HB := n1_; have BK130 := n2_; have GW130 := n3_; have GE130 := n4_; clear n0_ n1_ n2_ n3_ n4_; clear hb hbox hg; have hcz13_0 : w12.cell? ⟨gb130, 0, none⟩ = some (.int .i64 0) := (blk_cell BK130.out 0).trans rfl; have hcz13_1 : w12.cell? ⟨gb130, 1, none⟩ = some (.int .i64 0) := (blk_cell BK130.out 1).trans rfl; have hcz13_2 : w12.cell? ⟨gb130, 2, none⟩ = some (.int .i64 0) := (blk_cell BK130.out 2).trans rfl; have hfz13_0 := blk_frozen BK130.out 0; have hfz13_1 := blk_frozen BK130.out 1; have hfz13_2 := blk_frozen BK130.out 2))
         have n0_ : Aside0 (Kd.R (Kd.int .i64) 3 (((w12.setCell ⟨gb130, 0, none⟩ (.int .i64 ((rd_T77 l1 x8_1).f0))).setCell ⟨gb130, 1, none⟩ (.int .i64 ((rd_T77 l1 x8_1).f1))).setCell ⟨gb130, 2, none⟩ (.int .i64 ((rd_T77 l1 x8_1).f2))) w.heap.size (fun _ => True) v127 x5_1) := ⟨by (with_reducible repeat (first | apply Kd.R_alloc | apply Kd.R_drewN | apply Kd.R_drew)); exact Kd.R_mono (Kd.R_far (p := ⟨gb130, 2, none⟩) (Kd.R_far (p := ⟨gb130, 1, none⟩) (Kd.R_far (p := ⟨gb130, 0, none⟩) (Kd.R_types HO_5.out BK130.out (by decide)) (fun _ hk => hk.2) (.int .i64 ((rd_T77 l1 x8_1).f0))) (fun _ hk => hk.2) (.int .i64 ((rd_T77 l1 x8_1).f1))) (fun _ hk => hk.2) (.int .i64 ((rd_T77 l1 x8_1).f2))) (fun _ hk => trivial)⟩
         have n1_ : Aside0 ((((w12.setCell ⟨gb130, 0, none⟩ (.int .i64 ((rd_T77 l1 x8_1).f0))).setCell ⟨gb130, 1, none⟩ (.int .i64 ((rd_T77 l1 x8_1).f1))).setCell ⟨gb130, 2, none⟩ (.int .i64 ((rd_T77 l1 x8_1).f2))).heap[gb130]? = some (.cells #[.int .i64 ((rd_T77 l1 x8_1).f0), .int .i64 ((rd_T77 l1 x8_1).f1), .int .i64 ((rd_T77 l1 x8_1).f2)] 77 (0, 0))) := ⟨by (with_reducible repeat (first | refine blk_drewN ?_ _ | refine blk_drew ?_ | refine blk_alloc ?_ _)); refine blk_put (cs := #[.int .i64 ((rd_T77 l1 x8_1).f0), .int .i64 ((rd_T77 l1 x8_1).f1), .int .i64 0]) ?_ 2 _ rfl; (with_reducible repeat (first | refine blk_drewN ?_ _ | refine blk_drew ?_ | refine blk_alloc ?_ _)); refine blk_put (cs := #[.int .i64 ((rd_T77 l1 x8_1).f0), .int .i64 0, .int .i64 0]) ?_ 1 _ rfl; (with_reducible repeat (first | refine blk_drewN ?_ _ | refine blk_drew ?_ | refine blk_alloc ?_ _)); refine blk_put (cs := #[.int .i64 0, .int .i64 0, .int .i64 0]) ?_ 0 _ rfl; (with_reducible repeat (first | refine blk_drewN ?_ _ | refine blk_drew ?_ | refine blk_alloc ?_ _)); exact BK130.out⟩
         have n2_ : Aside0 (Below w.heap.size w (((w12.setCell ⟨gb130, 0, none⟩ (.int .i64 ((rd_T77 l1 x8_1).f0))).setCell ⟨gb130, 1, none⟩ (.int .i64 ((rd_T77 l1 x8_1).f1))).setCell ⟨gb130, 2, none⟩ (.int .i64 ((rd_T77 l1 x8_1).f2)))) := ⟨by repeat (first | (with_reducible first | exact HB.out | apply below_alloc | apply pw_below_drewN | apply below_drew1 | refine below_set ?_ GE130.out) | exact HB.out)⟩
         (try clear HO_5)
         (try clear BK130)
         (try clear HB)
         generalize (((w12.setCell ⟨gb130, 0, none⟩ (.int .i64 ((rd_T77 l1 x8_1).f0))).setCell ⟨gb130, 1, none⟩ (.int .i64 ((rd_T77 l1 x8_1).f1))).setCell ⟨gb130, 2, none⟩ (.int .i64 ((rd_T77 l1 x8_1).f2))) = w14 at n0_ n1_ n2_ ⊢
         have HO_5 := n0_
         have BK130 := n1_
         have HB := n2_
         clear n0_ n1_ n2_
         have n0_ := Aside0.mk (Kd.R_drew HO_5.out)
         have n1_ := Aside0.mk (blk_drew BK130.out)
         have n2_ := Aside0.mk (below_drew1 HB.out)
         clear HO_5
         clear BK130
         clear HB
         have HO_5 := n0_
         have BK130 := n1_
         have HB := n2_
         clear n0_ n1_ n2_
         refine start_ (n := 46) (S := fun w' => w'.cell? ⟨gb130, 0, none⟩ = some (.int .i64 ((rd_T77 l1 x8_1).f0)) ∧ w'.cell? ⟨gb130, 1, none⟩ = some (.int .i64 ((rd_T77 l1 x8_1).f1)) ∧ w'.cell? ⟨gb130, 2, none⟩ = some (.int .i64 ((rd_T77 l1 x8_1).f2))) (ds := []) (bA 46 0) (by kernel_rfl) rfl rfl ⟨(blk_cell BK130.out 0).trans rfl, (blk_cell BK130.out 1).trans rfl, (blk_cell BK130.out 2).trans rfl⟩ (fun hHeld => ?_); refine with_tabW spec_l5Split.tab7 spec_l5Split.bits7 (fun HT_ HW_ => ?_)
         generalize w14.drew = w15 at HO_5 BK130 HB hHeld ⊢
         refine pU 0 24 (bA 46 1) ?_
         refine pU 1 25 (bA 46 3) ?_
         refine tU 2 26 (bA 46 7) ?_
         refine one_ (i := 3) (N := some 27) (bA 46 15) rfl rfl (one_of HT_.out (by kernel_rfl)) (by decide) (fun K hK => ?_)
         refine goes_ Try.func145 (by kernel_rfl) rfl #[.slice A0 l0.length c0, .int .i64 ((rd_T77 l1 x8_1).f0)] (by rfl) rfl rfl (by (try simp only [List.map_toArray, List.map_cons, List.map_nil]); first | done | rfl | (simp only [List.length_drop, List.length_take]; rfl)) ?_
         with_reducible refine (spec_l3Job.calls _ _ l0 ((rd_T77 l1 x8_1).f0) true _ ?side1 ?side2 A9.out).mono ?_
         (case side1 => repeat (first | exact (Kd.C_below HR0.out HB.out) | (with_reducible refine Kd.C_alloc ?_ _) | (with_reducible refine Kd.C_drewN ?_ _) | (with_reducible refine Kd.C_drew ?_)))
         (case side2 => exact HC0.out)
         rintro e w' ⟨rfl, ⟨nd, rfl⟩⟩
         refine ⟨_, rfl, ?_⟩
         refine hK.out _ _ ⟨(blk_cell BK130.out 0).trans rfl, (blk_cell BK130.out 1).trans rfl, (blk_cell BK130.out 2).trans rfl⟩ (fun hHeld => ?_)
         clear hK K
         refine norm_ (a' := ?_) ?_ ?_
         rotate_left
         ·show Act.put _ (some 27) _ = _
          simp only [Act.put, sA, sZ, sS, i64_w, i32_w]
          rfl
         refine pU 4 28 (bA 46 31) ?_
         refine pU 5 29 (bA 46 63) ?_
         refine pU 6 30 (bA 46 127) ?_
         refine pU 8 32 (bA 46 383) ?_
         refine tU 7 31 (bA 46 511) ?_
         refine pU 9 33 (bA 46 1023) ?_
         refine pU 10 34 (bA 46 2047) ?_
         refine pU 11 35 (bA 46 4095) ?_
         refine nU 12 36 (bA 46 8191) ?_
         refine nU 13 37 (bA 46 16383) ?_
         refine nU 14 38 (bA 46 32767) ?_
         refine nU 15 39 (bA 46 65535) ?_
         refine nU 16 40 (bA 46 131071) ?_
         refine nU 17 41 (bA 46 262143) ?_
         refine nU 18 42 (bA 46 524287) ?_
         refine nU 19 43 (bA 46 1048575) ?_
         refine nU 20 44 (bA 46 2097151) ?_
         refine pU 21 45 (bA 46 4194303) ?_
         refine pU 22 46 (bA 46 8388607) ?_
         refine nU 23 47 (bA 46 16777215) ?_
         refine nU 24 48 (bA 46 33554431) ?_
         refine nU 25 49 (bA 46 67108863) ?_
         refine nU 26 50 (bA 46 134217727) ?_
         refine nU 27 51 (bA 46 268435455) ?_
         refine pU 28 52 (bA 46 536870911) ?_
         refine pU 29 53 (bA 46 1073741823) ?_
         refine nU 30 54 (bA 46 2147483647) ?_
         refine nU 31 55 (bA 46 4294967295) ?_
         refine nU 32 56 (bA 46 8589934591) ?_
         refine nU 33 57 (bA 46 17179869183) ?_
         refine nU 34 58 (bA 46 34359738367) ?_
         refine nU 35 59 (bA 46 68719476735) ?_
         refine nU 36 60 (bA 46 137438953471) ?_
         refine nU 37 61 (bA 46 274877906943) ?_
         refine nU 38 62 (bA 46 549755813887) ?_
         refine nU 39 63 (bA 46 1099511627775) ?_
         refine pU 40 64 (bA 46 2199023255551) ?_
         refine pU 41 65 (bA 46 4398046511103) ?_
         refine nU 42 66 (bA 46 8796093022207) ?_
         refine nU 43 67 (bA 46 17592186044415) ?_
         refine nU 44 68 (bA 46 35184372088831) ?_
         refine pU 45 69 (bA 46 70368744177663) ?_
         refine done_ (done_of HT_.out (by kernel_rfl)) ?_
         try go_wp2
         go_ret
         exact ⟨by first | rfl | (simp [errW_none, errW_some] <;> rfl) | (simp [*, errW_none, errW_some] <;> rfl), by repeat (first | (with_reducible first | exact HB.out | apply below_alloc | apply pw_below_drewN | apply below_drew1 | refine below_set ?_ GE130.out) | exact HB.out)⟩
        ·rw [if_neg c11] at H
         have c11b0 : decide (((rd_T77 l1 x8_1).f1) < x6_1) = false := decide_eq_false c11
         clear c11
         by_cases c16 : 0 ≤ ((rd_T77 l1 x8_1).f0)
         ·rw [if_pos c16] at H
          have c16b0 : decide (0 ≤ ((rd_T77 l1 x8_1).f0)) = true := decide_eq_true c16
          clear c16
          by_cases c17 : ((rd_T77 l1 x8_1).f0) < (l0.length : Int)
          ·rw [if_pos c17] at H
           have c17b0 : decide (((rd_T77 l1 x8_1).f0) < (l0.length : Int)) = true := decide_eq_true c17
           clear c17
           by_cases c18 : ((rd_T77 l1 x8_1).f1) < ((rd_T59 l0 ((rd_T77 l1 x8_1).f0)).f2)
           ·rw [if_pos c18] at H
            have c18b0 : decide (((rd_T77 l1 x8_1).f1) < ((rd_T59 l0 ((rd_T77 l1 x8_1).f0)).f2)) = true := decide_eq_true c18
            clear c18
            obtain rfl := Option.some.inj H
            have p129 : 0 ≤ (x8_1 : Int) := of_decide_eq_true (by first | (with_reducible assumption) | assumption)
            have q129 : x8_1 < (l1.length : Int) := of_decide_eq_true (by first | (with_reducible assumption) | assumption)
            obtain ⟨ad129, e129, hx129_0, hx129_1, hx129_2⟩ := at_T77 HR1.out x8_1 p129 q129
            cases e129
            replace hx129_0 := (HB.out.cell (World.block_lt_of_cell? w _ hx129_0)).trans hx129_0
            replace hx129_1 := (HB.out.cell (World.block_lt_of_cell? w _ hx129_1)).trans hx129_1
            replace hx129_2 := (HB.out.cell (World.block_lt_of_cell? w _ hx129_2)).trans hx129_2
            replace p129 := eq_true p129
            replace q129 := eq_true q129
            try go_wp2_with (first | ((with_reducible refine gate_dst (N := 9) rfl ?_); refine box_event ?hg (N := 9) ?hd (cs := #[.int .i64 0, .int .i64 0, .int .i64 0]) (t := 77) ?hr ?_; (case hd => rfl); (case hg => rfl); (case hr => first | (go_simp; done) | (go_simp; rfl)); intro gb130 hg w19 hbox hb; have n0_ := Aside0.mk (Kd.R_below (by (with_reducible repeat (first | apply Kd.R_alloc | apply Kd.R_drewN | apply Kd.R_drew)); exact HO_5.out) hb); have n1_ := Aside0.mk (below_step (by repeat (first | (with_reducible first | exact HB.out | apply below_alloc | apply pw_below_drewN | apply below_drew1) | exact HB.out)) hb); have n2_ := Aside0.mk (hbox); have n3_ := Aside0.mk ((by rw [hg]; exact (below_size (by repeat (first | (with_reducible first | exact HB.out | apply below_alloc | apply pw_below_drewN | apply below_drew1) | exact HB.out))) : w.heap.size ≤ gb130)); have n4_ := Aside0.mk ((by rw [hg]; exact (below_size (by repeat (first | (with_reducible first | exact HB.out | apply below_alloc | apply pw_below_drewN | apply below_drew1) | exact HB.out))) : w.heap.size ≤ gb130)); clear HO_5; clear HB; have HO_5 := n0_; have HB := n1_; have BK130 := n2_; have GW130 := n3_; have GE130 := n4_; clear n0_ n1_ n2_ n3_ n4_; clear hb hbox hg; have hcz20_0 : w19.cell? ⟨gb130, 0, none⟩ = some (.int .i64 0) := (blk_cell BK130.out 0).trans rfl; have hcz20_1 : w19.cell? ⟨gb130, 1, none⟩ = some (.int .i64 0) := (blk_cell BK130.out 1).trans rfl; have hcz20_2 : w19.cell? ⟨gb130, 2, none⟩ = some (.int .i64 0) := (blk_cell BK130.out 2).trans rfl; have hfz20_0 := blk_frozen BK130.out 0; have hfz20_1 := blk_frozen BK130.out 1; have hfz20_2 := blk_frozen BK130.out 2))
            have n0_ : Aside0 (Kd.R (Kd.int .i64) 3 (((w19.setCell ⟨gb130, 0, none⟩ (.int .i64 ((rd_T77 l1 x8_1).f0))).setCell ⟨gb130, 1, none⟩ (.int .i64 ((rd_T77 l1 x8_1).f1))).setCell ⟨gb130, 2, none⟩ (.int .i64 ((rd_T77 l1 x8_1).f2))) w.heap.size (fun _ => True) v127 x5_1) := ⟨by (with_reducible repeat (first | apply Kd.R_alloc | apply Kd.R_drewN | apply Kd.R_drew)); exact Kd.R_mono (Kd.R_far (p := ⟨gb130, 2, none⟩) (Kd.R_far (p := ⟨gb130, 1, none⟩) (Kd.R_far (p := ⟨gb130, 0, none⟩) (Kd.R_types HO_5.out BK130.out (by decide)) (fun _ hk => hk.2) (.int .i64 ((rd_T77 l1 x8_1).f0))) (fun _ hk => hk.2) (.int .i64 ((rd_T77 l1 x8_1).f1))) (fun _ hk => hk.2) (.int .i64 ((rd_T77 l1 x8_1).f2))) (fun _ hk => trivial)⟩
            have n1_ : Aside0 ((((w19.setCell ⟨gb130, 0, none⟩ (.int .i64 ((rd_T77 l1 x8_1).f0))).setCell ⟨gb130, 1, none⟩ (.int .i64 ((rd_T77 l1 x8_1).f1))).setCell ⟨gb130, 2, none⟩ (.int .i64 ((rd_T77 l1 x8_1).f2))).heap[gb130]? = some (.cells #[.int .i64 ((rd_T77 l1 x8_1).f0), .int .i64 ((rd_T77 l1 x8_1).f1), .int .i64 ((rd_T77 l1 x8_1).f2)] 77 (0, 0))) := ⟨by (with_reducible repeat (first | refine blk_drewN ?_ _ | refine blk_drew ?_ | refine blk_alloc ?_ _)); refine blk_put (cs := #[.int .i64 ((rd_T77 l1 x8_1).f0), .int .i64 ((rd_T77 l1 x8_1).f1), .int .i64 0]) ?_ 2 _ rfl; (with_reducible repeat (first | refine blk_drewN ?_ _ | refine blk_drew ?_ | refine blk_alloc ?_ _)); refine blk_put (cs := #[.int .i64 ((rd_T77 l1 x8_1).f0), .int .i64 0, .int .i64 0]) ?_ 1 _ rfl; (with_reducible repeat (first | refine blk_drewN ?_ _ | refine blk_drew ?_ | refine blk_alloc ?_ _)); refine blk_put (cs := #[.int .i64 0, .int .i64 0, .int .i64 0]) ?_ 0 _ rfl; (with_reducible repeat (first | refine blk_drewN ?_ _ | refine blk_drew ?_ | refine blk_alloc ?_ _)); exact BK130.out⟩
            have n2_ : Aside0 (Below w.heap.size w (((w19.setCell ⟨gb130, 0, none⟩ (.int .i64 ((rd_T77 l1 x8_1).f0))).setCell ⟨gb130, 1, none⟩ (.int .i64 ((rd_T77 l1 x8_1).f1))).setCell ⟨gb130, 2, none⟩ (.int .i64 ((rd_T77 l1 x8_1).f2)))) := ⟨by repeat (first | (with_reducible first | exact HB.out | apply below_alloc | apply pw_below_drewN | apply below_drew1 | refine below_set ?_ GE130.out) | exact HB.out)⟩
            (try clear HO_5)
            (try clear BK130)
            (try clear HB)
            generalize (((w19.setCell ⟨gb130, 0, none⟩ (.int .i64 ((rd_T77 l1 x8_1).f0))).setCell ⟨gb130, 1, none⟩ (.int .i64 ((rd_T77 l1 x8_1).f1))).setCell ⟨gb130, 2, none⟩ (.int .i64 ((rd_T77 l1 x8_1).f2))) = w21 at n0_ n1_ n2_ ⊢
            have HO_5 := n0_
            have BK130 := n1_
            have HB := n2_
            clear n0_ n1_ n2_
            have n0_ := Aside0.mk (Kd.R_drew HO_5.out)
            have n1_ := Aside0.mk (blk_drew BK130.out)
            have n2_ := Aside0.mk (below_drew1 HB.out)
            clear HO_5
            clear BK130
            clear HB
            have HO_5 := n0_
            have BK130 := n1_
            have HB := n2_
            clear n0_ n1_ n2_
            have p132 : 0 ≤ (((rd_T77 l1 x8_1).f0) : Int) := of_decide_eq_true (by first | (with_reducible assumption) | assumption)
            have q132 : ((rd_T77 l1 x8_1).f0) < (l0.length : Int) := of_decide_eq_true (by first | (with_reducible assumption) | assumption)
            obtain ⟨ad132, e132, hx132_0, hx132_1, hx132_2, hx132_3⟩ := at_T59 HR0.out ((rd_T77 l1 x8_1).f0) p132 q132
            have hw132_3 := hx132_3
            have hw132_2 := hx132_2
            have hw132_1 := hx132_1
            have hw132_0 := hx132_0
            cases e132
            replace hx132_0 := (HB.out.cell (World.block_lt_of_cell? w _ hx132_0)).trans hx132_0
            replace hx132_1 := (HB.out.cell (World.block_lt_of_cell? w _ hx132_1)).trans hx132_1
            replace hx132_2 := (HB.out.cell (World.block_lt_of_cell? w _ hx132_2)).trans hx132_2
            replace hx132_3 := (HB.out.cell (World.block_lt_of_cell? w _ hx132_3)).trans hx132_3
            replace p132 := eq_true p132
            replace q132 := eq_true q132
            refine start_ (n := 46) (S := fun w' => w'.cell? ⟨gb130, 0, none⟩ = some (.int .i64 ((rd_T77 l1 x8_1).f0)) ∧ w'.cell? ⟨gb130, 1, none⟩ = some (.int .i64 ((rd_T77 l1 x8_1).f1)) ∧ w'.cell? ⟨gb130, 2, none⟩ = some (.int .i64 ((rd_T77 l1 x8_1).f2)) ∧ w'.cell? (ad132.add ((((rd_T77 l1 x8_1).f0)).toNat * 4)) = some (.int .i64 ((rd_T59 l0 ((rd_T77 l1 x8_1).f0)).f0)) ∧ w'.cell? ⟨(ad132.add ((((rd_T77 l1 x8_1).f0)).toNat * 4)).block, (ad132.add ((((rd_T77 l1 x8_1).f0)).toNat * 4)).off + 1, none⟩ = some (.int .i64 ((rd_T59 l0 ((rd_T77 l1 x8_1).f0)).f1)) ∧ w'.cell? ⟨(ad132.add ((((rd_T77 l1 x8_1).f0)).toNat * 4)).block, (ad132.add ((((rd_T77 l1 x8_1).f0)).toNat * 4)).off + 2, none⟩ = some (.int .i64 ((rd_T59 l0 ((rd_T77 l1 x8_1).f0)).f2)) ∧ w'.cell? ⟨(ad132.add ((((rd_T77 l1 x8_1).f0)).toNat * 4)).block, (ad132.add ((((rd_T77 l1 x8_1).f0)).toNat * 4)).off + 3, none⟩ = some (.int .i64 ((rd_T59 l0 ((rd_T77 l1 x8_1).f0)).f3))) (ds := []) (bA 46 0) (by kernel_rfl) rfl rfl ⟨(blk_cell BK130.out 0).trans rfl, (blk_cell BK130.out 1).trans rfl, (blk_cell BK130.out 2).trans rfl, ((HB.out.cell (World.block_lt_of_cell? w _ hw132_0)).trans hw132_0), ((HB.out.cell (World.block_lt_of_cell? w _ hw132_1)).trans hw132_1), ((HB.out.cell (World.block_lt_of_cell? w _ hw132_2)).trans hw132_2), ((HB.out.cell (World.block_lt_of_cell? w _ hw132_3)).trans hw132_3)⟩ (fun hHeld => ?_); refine with_tabW spec_l5Split.tab7 spec_l5Split.bits7 (fun HT_ HW_ => ?_)
            generalize w21.drew = w22 at HO_5 BK130 HB hx132_0 hx132_1 hx132_2 hx132_3 hHeld ⊢
            refine pU 0 24 (bA 46 1) ?_
            refine pU 1 25 (bA 46 3) ?_
            refine tU 2 26 (bA 46 7) ?_
            refine one_ (i := 3) (N := some 27) (bA 46 15) rfl rfl (one_of HT_.out (by kernel_rfl)) (by decide) (fun K hK => ?_)
            refine goes_ Try.func145 (by kernel_rfl) rfl #[.slice (some ad132) l0.length c0, .int .i64 ((rd_T77 l1 x8_1).f0)] (by rfl) rfl rfl (by (try simp only [List.map_toArray, List.map_cons, List.map_nil]); first | done | rfl | (simp only [List.length_drop, List.length_take]; rfl)) ?_
            with_reducible refine (spec_l3Job.calls _ _ l0 ((rd_T77 l1 x8_1).f0) true _ ?side1 ?side2 A9.out).mono ?_
            (case side1 => repeat (first | exact (Kd.C_below HR0.out HB.out) | (with_reducible refine Kd.C_alloc ?_ _) | (with_reducible refine Kd.C_drewN ?_ _) | (with_reducible refine Kd.C_drew ?_)))
            (case side2 => exact HC0.out)
            rintro e w' ⟨rfl, ⟨nd, rfl⟩⟩
            refine ⟨_, rfl, ?_⟩
            refine hK.out _ _ ⟨(blk_cell BK130.out 0).trans rfl, (blk_cell BK130.out 1).trans rfl, (blk_cell BK130.out 2).trans rfl, ((HB.out.cell (World.block_lt_of_cell? w _ hw132_0)).trans hw132_0), ((HB.out.cell (World.block_lt_of_cell? w _ hw132_1)).trans hw132_1), ((HB.out.cell (World.block_lt_of_cell? w _ hw132_2)).trans hw132_2), ((HB.out.cell (World.block_lt_of_cell? w _ hw132_3)).trans hw132_3)⟩ (fun hHeld => ?_)
            clear hK K
            refine norm_ (a' := ?_) ?_ ?_
            rotate_left
            ·show Act.put _ (some 27) _ = _
             simp only [Act.put, sA, sZ, sS, i64_w, i32_w]
             rfl
            refine pU 4 28 (bA 46 31) ?_
            refine pU 5 29 (bA 46 63) ?_
            refine pU 6 30 (bA 46 127) ?_
            refine pU 8 32 (bA 46 383) ?_
            refine tU 7 31 (bA 46 511) ?_
            refine pU 9 33 (bA 46 1023) ?_
            refine pU 10 34 (bA 46 2047) ?_
            refine pU 11 35 (bA 46 4095) ?_
            refine pU 12 36 (bA 46 8191) ?_
            refine pU 14 38 (bA 46 24575) ?_
            refine pU 15 39 (bA 46 57343) ?_
            refine tU 13 37 (bA 46 65535) ?_
            refine tU 16 40 (bA 46 131071) ?_
            refine pU 17 41 (bA 46 262143) ?_
            refine pU 18 42 (bA 46 524287) ?_
            refine tU 19 43 (bA 46 1048575) ?_
            refine pU 20 44 (bA 46 2097151) ?_
            refine pU 21 45 (bA 46 4194303) ?_
            refine pU 22 46 (bA 46 8388607) ?_
            refine nU 23 47 (bA 46 16777215) ?_
            refine nU 24 48 (bA 46 33554431) ?_
            refine nU 25 49 (bA 46 67108863) ?_
            refine nU 26 50 (bA 46 134217727) ?_
            refine nU 27 51 (bA 46 268435455) ?_
            refine pU 28 52 (bA 46 536870911) ?_
            refine pU 29 53 (bA 46 1073741823) ?_
            refine nU 30 54 (bA 46 2147483647) ?_
            refine nU 31 55 (bA 46 4294967295) ?_
            refine nU 32 56 (bA 46 8589934591) ?_
            refine nU 33 57 (bA 46 17179869183) ?_
            refine nU 34 58 (bA 46 34359738367) ?_
            refine nU 35 59 (bA 46 68719476735) ?_
            refine nU 36 60 (bA 46 137438953471) ?_
            refine nU 37 61 (bA 46 274877906943) ?_
            refine nU 38 62 (bA 46 549755813887) ?_
            refine nU 39 63 (bA 46 1099511627775) ?_
            refine pU 40 64 (bA 46 2199023255551) ?_
            refine pU 41 65 (bA 46 4398046511103) ?_
            refine nU 42 66 (bA 46 8796093022207) ?_
            refine nU 43 67 (bA 46 17592186044415) ?_
            refine nU 44 68 (bA 46 35184372088831) ?_
            refine pU 45 69 (bA 46 70368744177663) ?_
            refine done_ (done_of HT_.out (by kernel_rfl)) ?_
            try go_wp2
            go_ret
            exact ⟨by first | rfl | (simp [errW_none, errW_some] <;> rfl) | (simp [*, errW_none, errW_some] <;> rfl), by repeat (first | (with_reducible first | exact HB.out | apply below_alloc | apply pw_below_drewN | apply below_drew1 | refine below_set ?_ GE130.out) | exact HB.out)⟩
           ·rw [if_neg c18] at H
            have c18b0 : decide (((rd_T77 l1 x8_1).f1) < ((rd_T59 l0 ((rd_T77 l1 x8_1).f0)).f2)) = false := decide_eq_false c18
            clear c18
            by_cases c23 : ((rd_T77 l1 x8_1).f2) ≤ ((rd_T77 l1 x8_1).f1)
            ·rw [if_pos c23] at H
             have c23b0 : decide (((rd_T77 l1 x8_1).f2) ≤ ((rd_T77 l1 x8_1).f1)) = true := decide_eq_true c23
             clear c23
             obtain rfl := Option.some.inj H
             have p129 : 0 ≤ (x8_1 : Int) := of_decide_eq_true (by first | (with_reducible assumption) | assumption)
             have q129 : x8_1 < (l1.length : Int) := of_decide_eq_true (by first | (with_reducible assumption) | assumption)
             obtain ⟨ad129, e129, hx129_0, hx129_1, hx129_2⟩ := at_T77 HR1.out x8_1 p129 q129
             cases e129
             replace hx129_0 := (HB.out.cell (World.block_lt_of_cell? w _ hx129_0)).trans hx129_0
             replace hx129_1 := (HB.out.cell (World.block_lt_of_cell? w _ hx129_1)).trans hx129_1
             replace hx129_2 := (HB.out.cell (World.block_lt_of_cell? w _ hx129_2)).trans hx129_2
             replace p129 := eq_true p129
             replace q129 := eq_true q129
             try go_wp2_with (first | ((with_reducible refine gate_dst (N := 9) rfl ?_); refine box_event ?hg (N := 9) ?hd (cs := #[.int .i64 0, .int .i64 0, .int .i64 0]) (t := 77) ?hr ?_; (case hd => rfl); (case hg => rfl); (case hr => first | (go_simp; done) | (go_simp; rfl)); intro gb130 hg w24 hbox hb; have n0_ := Aside0.mk (Kd.R_below (by (with_reducible repeat (first | apply Kd.R_alloc | apply Kd.R_drewN | apply Kd.R_drew)); exact HO_5.out) hb); have n1_ := Aside0.mk (below_step (by repeat (first | (with_reducible first | exact HB.out | apply below_alloc | apply pw_below_drewN | apply below_drew1) | exact HB.out)) hb); have n2_ := Aside0.mk (hbox); have n3_ := Aside0.mk ((by rw [hg]; exact (below_size (by repeat (first | (with_reducible first | exact HB.out | apply below_alloc | apply pw_below_drewN | apply below_drew1) | exact HB.out))) : w.heap.size ≤ gb130)); have n4_ := Aside0.mk ((by rw [hg]; exact (below_size (by repeat (first | (with_reducible first | exact HB.out | apply below_alloc | apply pw_below_drewN | apply below_drew1) | exact HB.out))) : w.heap.size ≤ gb130)); clear HO_5; clear HB; have HO_5 := n0_; have HB := n1_; have BK130 := n2_; have GW130 := n3_; have GE130 := n4_; clear n0_ n1_ n2_ n3_ n4_; clear hb hbox hg; have hcz25_0 : w24.cell? ⟨gb130, 0, none⟩ = some (.int .i64 0) := (blk_cell BK130.out 0).trans rfl; have hcz25_1 : w24.cell? ⟨gb130, 1, none⟩ = some (.int .i64 0) := (blk_cell BK130.out 1).trans rfl; have hcz25_2 : w24.cell? ⟨gb130, 2, none⟩ = some (.int .i64 0) := (blk_cell BK130.out 2).trans rfl; have hfz25_0 := blk_frozen BK130.out 0; have hfz25_1 := blk_frozen BK130.out 1; have hfz25_2 := blk_frozen BK130.out 2))
             have n0_ : Aside0 (Kd.R (Kd.int .i64) 3 (((w24.setCell ⟨gb130, 0, none⟩ (.int .i64 ((rd_T77 l1 x8_1).f0))).setCell ⟨gb130, 1, none⟩ (.int .i64 ((rd_T77 l1 x8_1).f1))).setCell ⟨gb130, 2, none⟩ (.int .i64 ((rd_T77 l1 x8_1).f2))) w.heap.size (fun _ => True) v127 x5_1) := ⟨by (with_reducible repeat (first | apply Kd.R_alloc | apply Kd.R_drewN | apply Kd.R_drew)); exact Kd.R_mono (Kd.R_far (p := ⟨gb130, 2, none⟩) (Kd.R_far (p := ⟨gb130, 1, none⟩) (Kd.R_far (p := ⟨gb130, 0, none⟩) (Kd.R_types HO_5.out BK130.out (by decide)) (fun _ hk => hk.2) (.int .i64 ((rd_T77 l1 x8_1).f0))) (fun _ hk => hk.2) (.int .i64 ((rd_T77 l1 x8_1).f1))) (fun _ hk => hk.2) (.int .i64 ((rd_T77 l1 x8_1).f2))) (fun _ hk => trivial)⟩
             have n1_ : Aside0 ((((w24.setCell ⟨gb130, 0, none⟩ (.int .i64 ((rd_T77 l1 x8_1).f0))).setCell ⟨gb130, 1, none⟩ (.int .i64 ((rd_T77 l1 x8_1).f1))).setCell ⟨gb130, 2, none⟩ (.int .i64 ((rd_T77 l1 x8_1).f2))).heap[gb130]? = some (.cells #[.int .i64 ((rd_T77 l1 x8_1).f0), .int .i64 ((rd_T77 l1 x8_1).f1), .int .i64 ((rd_T77 l1 x8_1).f2)] 77 (0, 0))) := ⟨by (with_reducible repeat (first | refine blk_drewN ?_ _ | refine blk_drew ?_ | refine blk_alloc ?_ _)); refine blk_put (cs := #[.int .i64 ((rd_T77 l1 x8_1).f0), .int .i64 ((rd_T77 l1 x8_1).f1), .int .i64 0]) ?_ 2 _ rfl; (with_reducible repeat (first | refine blk_drewN ?_ _ | refine blk_drew ?_ | refine blk_alloc ?_ _)); refine blk_put (cs := #[.int .i64 ((rd_T77 l1 x8_1).f0), .int .i64 0, .int .i64 0]) ?_ 1 _ rfl; (with_reducible repeat (first | refine blk_drewN ?_ _ | refine blk_drew ?_ | refine blk_alloc ?_ _)); refine blk_put (cs := #[.int .i64 0, .int .i64 0, .int .i64 0]) ?_ 0 _ rfl; (with_reducible repeat (first | refine blk_drewN ?_ _ | refine blk_drew ?_ | refine blk_alloc ?_ _)); exact BK130.out⟩
             have n2_ : Aside0 (Below w.heap.size w (((w24.setCell ⟨gb130, 0, none⟩ (.int .i64 ((rd_T77 l1 x8_1).f0))).setCell ⟨gb130, 1, none⟩ (.int .i64 ((rd_T77 l1 x8_1).f1))).setCell ⟨gb130, 2, none⟩ (.int .i64 ((rd_T77 l1 x8_1).f2)))) := ⟨by repeat (first | (with_reducible first | exact HB.out | apply below_alloc | apply pw_below_drewN | apply below_drew1 | refine below_set ?_ GE130.out) | exact HB.out)⟩
             (try clear HO_5)
             (try clear BK130)
             (try clear HB)
             generalize (((w24.setCell ⟨gb130, 0, none⟩ (.int .i64 ((rd_T77 l1 x8_1).f0))).setCell ⟨gb130, 1, none⟩ (.int .i64 ((rd_T77 l1 x8_1).f1))).setCell ⟨gb130, 2, none⟩ (.int .i64 ((rd_T77 l1 x8_1).f2))) = w26 at n0_ n1_ n2_ ⊢
             have HO_5 := n0_
             have BK130 := n1_
             have HB := n2_
             clear n0_ n1_ n2_
             have n0_ := Aside0.mk (Kd.R_drew HO_5.out)
             have n1_ := Aside0.mk (blk_drew BK130.out)
             have n2_ := Aside0.mk (below_drew1 HB.out)
             clear HO_5
             clear BK130
             clear HB
             have HO_5 := n0_
             have BK130 := n1_
             have HB := n2_
             clear n0_ n1_ n2_
             have p132 : 0 ≤ (((rd_T77 l1 x8_1).f0) : Int) := of_decide_eq_true (by first | (with_reducible assumption) | assumption)
             have q132 : ((rd_T77 l1 x8_1).f0) < (l0.length : Int) := of_decide_eq_true (by first | (with_reducible assumption) | assumption)
             obtain ⟨ad132, e132, hx132_0, hx132_1, hx132_2, hx132_3⟩ := at_T59 HR0.out ((rd_T77 l1 x8_1).f0) p132 q132
             have hw132_3 := hx132_3
             have hw132_2 := hx132_2
             have hw132_1 := hx132_1
             have hw132_0 := hx132_0
             cases e132
             replace hx132_0 := (HB.out.cell (World.block_lt_of_cell? w _ hx132_0)).trans hx132_0
             replace hx132_1 := (HB.out.cell (World.block_lt_of_cell? w _ hx132_1)).trans hx132_1
             replace hx132_2 := (HB.out.cell (World.block_lt_of_cell? w _ hx132_2)).trans hx132_2
             replace hx132_3 := (HB.out.cell (World.block_lt_of_cell? w _ hx132_3)).trans hx132_3
             replace p132 := eq_true p132
             replace q132 := eq_true q132
             refine start_ (n := 46) (S := fun w' => w'.cell? ⟨gb130, 0, none⟩ = some (.int .i64 ((rd_T77 l1 x8_1).f0)) ∧ w'.cell? ⟨gb130, 1, none⟩ = some (.int .i64 ((rd_T77 l1 x8_1).f1)) ∧ w'.cell? ⟨gb130, 2, none⟩ = some (.int .i64 ((rd_T77 l1 x8_1).f2)) ∧ w'.cell? (ad132.add ((((rd_T77 l1 x8_1).f0)).toNat * 4)) = some (.int .i64 ((rd_T59 l0 ((rd_T77 l1 x8_1).f0)).f0)) ∧ w'.cell? ⟨(ad132.add ((((rd_T77 l1 x8_1).f0)).toNat * 4)).block, (ad132.add ((((rd_T77 l1 x8_1).f0)).toNat * 4)).off + 1, none⟩ = some (.int .i64 ((rd_T59 l0 ((rd_T77 l1 x8_1).f0)).f1)) ∧ w'.cell? ⟨(ad132.add ((((rd_T77 l1 x8_1).f0)).toNat * 4)).block, (ad132.add ((((rd_T77 l1 x8_1).f0)).toNat * 4)).off + 2, none⟩ = some (.int .i64 ((rd_T59 l0 ((rd_T77 l1 x8_1).f0)).f2)) ∧ w'.cell? ⟨(ad132.add ((((rd_T77 l1 x8_1).f0)).toNat * 4)).block, (ad132.add ((((rd_T77 l1 x8_1).f0)).toNat * 4)).off + 3, none⟩ = some (.int .i64 ((rd_T59 l0 ((rd_T77 l1 x8_1).f0)).f3))) (ds := []) (bA 46 0) (by kernel_rfl) rfl rfl ⟨(blk_cell BK130.out 0).trans rfl, (blk_cell BK130.out 1).trans rfl, (blk_cell BK130.out 2).trans rfl, ((HB.out.cell (World.block_lt_of_cell? w _ hw132_0)).trans hw132_0), ((HB.out.cell (World.block_lt_of_cell? w _ hw132_1)).trans hw132_1), ((HB.out.cell (World.block_lt_of_cell? w _ hw132_2)).trans hw132_2), ((HB.out.cell (World.block_lt_of_cell? w _ hw132_3)).trans hw132_3)⟩ (fun hHeld => ?_); refine with_tabW spec_l5Split.tab7 spec_l5Split.bits7 (fun HT_ HW_ => ?_)
             generalize w26.drew = w27 at HO_5 BK130 HB hx132_0 hx132_1 hx132_2 hx132_3 hHeld ⊢
             refine pU 0 24 (bA 46 1) ?_
             refine pU 1 25 (bA 46 3) ?_
             refine tU 2 26 (bA 46 7) ?_
             refine one_ (i := 3) (N := some 27) (bA 46 15) rfl rfl (one_of HT_.out (by kernel_rfl)) (by decide) (fun K hK => ?_)
             refine goes_ Try.func145 (by kernel_rfl) rfl #[.slice (some ad132) l0.length c0, .int .i64 ((rd_T77 l1 x8_1).f0)] (by rfl) rfl rfl (by (try simp only [List.map_toArray, List.map_cons, List.map_nil]); first | done | rfl | (simp only [List.length_drop, List.length_take]; rfl)) ?_
             with_reducible refine (spec_l3Job.calls _ _ l0 ((rd_T77 l1 x8_1).f0) true _ ?side1 ?side2 A9.out).mono ?_
             (case side1 => repeat (first | exact (Kd.C_below HR0.out HB.out) | (with_reducible refine Kd.C_alloc ?_ _) | (with_reducible refine Kd.C_drewN ?_ _) | (with_reducible refine Kd.C_drew ?_)))
             (case side2 => exact HC0.out)
             rintro e w' ⟨rfl, ⟨nd, rfl⟩⟩
             refine ⟨_, rfl, ?_⟩
             refine hK.out _ _ ⟨(blk_cell BK130.out 0).trans rfl, (blk_cell BK130.out 1).trans rfl, (blk_cell BK130.out 2).trans rfl, ((HB.out.cell (World.block_lt_of_cell? w _ hw132_0)).trans hw132_0), ((HB.out.cell (World.block_lt_of_cell? w _ hw132_1)).trans hw132_1), ((HB.out.cell (World.block_lt_of_cell? w _ hw132_2)).trans hw132_2), ((HB.out.cell (World.block_lt_of_cell? w _ hw132_3)).trans hw132_3)⟩ (fun hHeld => ?_)
             clear hK K
             refine norm_ (a' := ?_) ?_ ?_
             rotate_left
             ·show Act.put _ (some 27) _ = _
              simp only [Act.put, sA, sZ, sS, i64_w, i32_w]
              rfl
             refine pU 4 28 (bA 46 31) ?_
             refine pU 5 29 (bA 46 63) ?_
             refine pU 6 30 (bA 46 127) ?_
             refine pU 8 32 (bA 46 383) ?_
             refine tU 7 31 (bA 46 511) ?_
             refine pU 9 33 (bA 46 1023) ?_
             refine pU 10 34 (bA 46 2047) ?_
             refine pU 11 35 (bA 46 4095) ?_
             refine pU 12 36 (bA 46 8191) ?_
             refine pU 14 38 (bA 46 24575) ?_
             refine pU 15 39 (bA 46 57343) ?_
             refine tU 13 37 (bA 46 65535) ?_
             refine tU 16 40 (bA 46 131071) ?_
             refine pU 17 41 (bA 46 262143) ?_
             refine pU 18 42 (bA 46 524287) ?_
             refine tU 19 43 (bA 46 1048575) ?_
             refine pU 20 44 (bA 46 2097151) ?_
             refine pU 21 45 (bA 46 4194303) ?_
             refine pU 22 46 (bA 46 8388607) ?_
             refine pU 23 47 (bA 46 16777215) ?_
             refine pU 25 49 (bA 46 50331647) ?_
             refine tU 24 48 (bA 46 67108863) ?_
             refine tU 26 50 (bA 46 134217727) ?_
             refine pU 27 51 (bA 46 268435455) ?_
             refine pU 28 52 (bA 46 536870911) ?_
             refine pU 29 53 (bA 46 1073741823) ?_
             refine nU 30 54 (bA 46 2147483647) ?_
             refine nU 31 55 (bA 46 4294967295) ?_
             refine nU 32 56 (bA 46 8589934591) ?_
             refine nU 33 57 (bA 46 17179869183) ?_
             refine nU 34 58 (bA 46 34359738367) ?_
             refine nU 35 59 (bA 46 68719476735) ?_
             refine nU 36 60 (bA 46 137438953471) ?_
             refine nU 37 61 (bA 46 274877906943) ?_
             refine nU 38 62 (bA 46 549755813887) ?_
             refine nU 39 63 (bA 46 1099511627775) ?_
             refine pU 40 64 (bA 46 2199023255551) ?_
             refine pU 41 65 (bA 46 4398046511103) ?_
             refine nU 42 66 (bA 46 8796093022207) ?_
             refine nU 43 67 (bA 46 17592186044415) ?_
             refine nU 44 68 (bA 46 35184372088831) ?_
             refine pU 45 69 (bA 46 70368744177663) ?_
             refine done_ (done_of HT_.out (by kernel_rfl)) ?_
             try go_wp2
             go_ret
             exact ⟨by first | rfl | (simp [errW_none, errW_some] <;> rfl) | (simp [*, errW_none, errW_some] <;> rfl), by repeat (first | (with_reducible first | exact HB.out | apply below_alloc | apply pw_below_drewN | apply below_drew1 | refine below_set ?_ GE130.out) | exact HB.out)⟩
            ·rw [if_neg c23] at H
             have c23b0 : decide (((rd_T77 l1 x8_1).f2) ≤ ((rd_T77 l1 x8_1).f1)) = false := decide_eq_false c23
             clear c23
             by_cases c28 : ((rd_T77 l1 x8_1).f0) = x7_1
             ·rw [if_pos c28] at H
              have c28b0 : (((rd_T77 l1 x8_1).f0) == x7_1) = true := beq_iff_eq.mpr c28
              have c28b1 : (((rd_T77 l1 x8_1).f0) != x7_1) = false := bne_eq_false_iff_eq.mpr c28
              clear c28
              by_cases c29 : ((rd_T77 l1 x8_1).f1) = x6_1
              ·rw [if_pos c29] at H
               have c29b0 : (((rd_T77 l1 x8_1).f1) == x6_1) = true := beq_iff_eq.mpr c29
               have c29b1 : (((rd_T77 l1 x8_1).f1) != x6_1) = false := bne_eq_false_iff_eq.mpr c29
               clear c29
               obtain rfl := Option.some.inj H
               have p129 : 0 ≤ (x8_1 : Int) := of_decide_eq_true (by first | (with_reducible assumption) | assumption)
               have q129 : x8_1 < (l1.length : Int) := of_decide_eq_true (by first | (with_reducible assumption) | assumption)
               obtain ⟨ad129, e129, hx129_0, hx129_1, hx129_2⟩ := at_T77 HR1.out x8_1 p129 q129
               cases e129
               replace hx129_0 := (HB.out.cell (World.block_lt_of_cell? w _ hx129_0)).trans hx129_0
               replace hx129_1 := (HB.out.cell (World.block_lt_of_cell? w _ hx129_1)).trans hx129_1
               replace hx129_2 := (HB.out.cell (World.block_lt_of_cell? w _ hx129_2)).trans hx129_2
               replace p129 := eq_true p129
               replace q129 := eq_true q129
               try go_wp2_with (first | ((with_reducible refine gate_dst (N := 9) rfl ?_); refine box_event ?hg (N := 9) ?hd (cs := #[.int .i64 0, .int .i64 0, .int .i64 0]) (t := 77) ?hr ?_; (case hd => rfl); (case hg => rfl); (case hr => first | (go_simp; done) | (go_simp; rfl)); intro gb130 hg w30 hbox hb; have n0_ := Aside0.mk (Kd.R_below (by (with_reducible repeat (first | apply Kd.R_alloc | apply Kd.R_drewN | apply Kd.R_drew)); exact HO_5.out) hb); have n1_ := Aside0.mk (below_step (by repeat (first | (with_reducible first | exact HB.out | apply below_alloc | apply pw_below_drewN | apply below_drew1) | exact HB.out)) hb); have n2_ := Aside0.mk (hbox); have n3_ := Aside0.mk ((by rw [hg]; exact (below_size (by repeat (first | (with_reducible first | exact HB.out | apply below_alloc | apply pw_below_drewN | apply below_drew1) | exact HB.out))) : w.heap.size ≤ gb130)); have n4_ := Aside0.mk ((by rw [hg]; exact (below_size (by repeat (first | (with_reducible first | exact HB.out | apply below_alloc | apply pw_below_drewN | apply below_drew1) | exact HB.out))) : w.heap.size ≤ gb130)); clear HO_5; clear HB; have HO_5 := n0_; have HB := n1_; have BK130 := n2_; have GW130 := n3_; have GE130 := n4_; clear n0_ n1_ n2_ n3_ n4_; clear hb hbox hg; have hcz31_0 : w30.cell? ⟨gb130, 0, none⟩ = some (.int .i64 0) := (blk_cell BK130.out 0).trans rfl; have hcz31_1 : w30.cell? ⟨gb130, 1, none⟩ = some (.int .i64 0) := (blk_cell BK130.out 1).trans rfl; have hcz31_2 : w30.cell? ⟨gb130, 2, none⟩ = some (.int .i64 0) := (blk_cell BK130.out 2).trans rfl; have hfz31_0 := blk_frozen BK130.out 0; have hfz31_1 := blk_frozen BK130.out 1; have hfz31_2 := blk_frozen BK130.out 2))
               have n0_ : Aside0 (Kd.R (Kd.int .i64) 3 (((w30.setCell ⟨gb130, 0, none⟩ (.int .i64 ((rd_T77 l1 x8_1).f0))).setCell ⟨gb130, 1, none⟩ (.int .i64 ((rd_T77 l1 x8_1).f1))).setCell ⟨gb130, 2, none⟩ (.int .i64 ((rd_T77 l1 x8_1).f2))) w.heap.size (fun _ => True) v127 x5_1) := ⟨by (with_reducible repeat (first | apply Kd.R_alloc | apply Kd.R_drewN | apply Kd.R_drew)); exact Kd.R_mono (Kd.R_far (p := ⟨gb130, 2, none⟩) (Kd.R_far (p := ⟨gb130, 1, none⟩) (Kd.R_far (p := ⟨gb130, 0, none⟩) (Kd.R_types HO_5.out BK130.out (by decide)) (fun _ hk => hk.2) (.int .i64 ((rd_T77 l1 x8_1).f0))) (fun _ hk => hk.2) (.int .i64 ((rd_T77 l1 x8_1).f1))) (fun _ hk => hk.2) (.int .i64 ((rd_T77 l1 x8_1).f2))) (fun _ hk => trivial)⟩
               have n1_ : Aside0 ((((w30.setCell ⟨gb130, 0, none⟩ (.int .i64 ((rd_T77 l1 x8_1).f0))).setCell ⟨gb130, 1, none⟩ (.int .i64 ((rd_T77 l1 x8_1).f1))).setCell ⟨gb130, 2, none⟩ (.int .i64 ((rd_T77 l1 x8_1).f2))).heap[gb130]? = some (.cells #[.int .i64 ((rd_T77 l1 x8_1).f0), .int .i64 ((rd_T77 l1 x8_1).f1), .int .i64 ((rd_T77 l1 x8_1).f2)] 77 (0, 0))) := ⟨by (with_reducible repeat (first | refine blk_drewN ?_ _ | refine blk_drew ?_ | refine blk_alloc ?_ _)); refine blk_put (cs := #[.int .i64 ((rd_T77 l1 x8_1).f0), .int .i64 ((rd_T77 l1 x8_1).f1), .int .i64 0]) ?_ 2 _ rfl; (with_reducible repeat (first | refine blk_drewN ?_ _ | refine blk_drew ?_ | refine blk_alloc ?_ _)); refine blk_put (cs := #[.int .i64 ((rd_T77 l1 x8_1).f0), .int .i64 0, .int .i64 0]) ?_ 1 _ rfl; (with_reducible repeat (first | refine blk_drewN ?_ _ | refine blk_drew ?_ | refine blk_alloc ?_ _)); refine blk_put (cs := #[.int .i64 0, .int .i64 0, .int .i64 0]) ?_ 0 _ rfl; (with_reducible repeat (first | refine blk_drewN ?_ _ | refine blk_drew ?_ | refine blk_alloc ?_ _)); exact BK130.out⟩
               have n2_ : Aside0 (Below w.heap.size w (((w30.setCell ⟨gb130, 0, none⟩ (.int .i64 ((rd_T77 l1 x8_1).f0))).setCell ⟨gb130, 1, none⟩ (.int .i64 ((rd_T77 l1 x8_1).f1))).setCell ⟨gb130, 2, none⟩ (.int .i64 ((rd_T77 l1 x8_1).f2)))) := ⟨by repeat (first | (with_reducible first | exact HB.out | apply below_alloc | apply pw_below_drewN | apply below_drew1 | refine below_set ?_ GE130.out) | exact HB.out)⟩
               (try clear HO_5)
               (try clear BK130)
               (try clear HB)
               generalize (((w30.setCell ⟨gb130, 0, none⟩ (.int .i64 ((rd_T77 l1 x8_1).f0))).setCell ⟨gb130, 1, none⟩ (.int .i64 ((rd_T77 l1 x8_1).f1))).setCell ⟨gb130, 2, none⟩ (.int .i64 ((rd_T77 l1 x8_1).f2))) = w32 at n0_ n1_ n2_ ⊢
               have HO_5 := n0_
               have BK130 := n1_
               have HB := n2_
               clear n0_ n1_ n2_
               have n0_ := Aside0.mk (Kd.R_drew HO_5.out)
               have n1_ := Aside0.mk (blk_drew BK130.out)
               have n2_ := Aside0.mk (below_drew1 HB.out)
               clear HO_5
               clear BK130
               clear HB
               have HO_5 := n0_
               have BK130 := n1_
               have HB := n2_
               clear n0_ n1_ n2_
               have p132 : 0 ≤ (((rd_T77 l1 x8_1).f0) : Int) := of_decide_eq_true (by first | (with_reducible assumption) | assumption)
               have q132 : ((rd_T77 l1 x8_1).f0) < (l0.length : Int) := of_decide_eq_true (by first | (with_reducible assumption) | assumption)
               obtain ⟨ad132, e132, hx132_0, hx132_1, hx132_2, hx132_3⟩ := at_T59 HR0.out ((rd_T77 l1 x8_1).f0) p132 q132
               have hw132_3 := hx132_3
               have hw132_2 := hx132_2
               have hw132_1 := hx132_1
               have hw132_0 := hx132_0
               cases e132
               replace hx132_0 := (HB.out.cell (World.block_lt_of_cell? w _ hx132_0)).trans hx132_0
               replace hx132_1 := (HB.out.cell (World.block_lt_of_cell? w _ hx132_1)).trans hx132_1
               replace hx132_2 := (HB.out.cell (World.block_lt_of_cell? w _ hx132_2)).trans hx132_2
               replace hx132_3 := (HB.out.cell (World.block_lt_of_cell? w _ hx132_3)).trans hx132_3
               replace p132 := eq_true p132
               replace q132 := eq_true q132
               refine start_ (n := 46) (S := fun w' => w'.cell? ⟨gb130, 0, none⟩ = some (.int .i64 ((rd_T77 l1 x8_1).f0)) ∧ w'.cell? ⟨gb130, 1, none⟩ = some (.int .i64 ((rd_T77 l1 x8_1).f1)) ∧ w'.cell? ⟨gb130, 2, none⟩ = some (.int .i64 ((rd_T77 l1 x8_1).f2)) ∧ w'.cell? (ad132.add ((((rd_T77 l1 x8_1).f0)).toNat * 4)) = some (.int .i64 ((rd_T59 l0 ((rd_T77 l1 x8_1).f0)).f0)) ∧ w'.cell? ⟨(ad132.add ((((rd_T77 l1 x8_1).f0)).toNat * 4)).block, (ad132.add ((((rd_T77 l1 x8_1).f0)).toNat * 4)).off + 1, none⟩ = some (.int .i64 ((rd_T59 l0 ((rd_T77 l1 x8_1).f0)).f1)) ∧ w'.cell? ⟨(ad132.add ((((rd_T77 l1 x8_1).f0)).toNat * 4)).block, (ad132.add ((((rd_T77 l1 x8_1).f0)).toNat * 4)).off + 2, none⟩ = some (.int .i64 ((rd_T59 l0 ((rd_T77 l1 x8_1).f0)).f2)) ∧ w'.cell? ⟨(ad132.add ((((rd_T77 l1 x8_1).f0)).toNat * 4)).block, (ad132.add ((((rd_T77 l1 x8_1).f0)).toNat * 4)).off + 3, none⟩ = some (.int .i64 ((rd_T59 l0 ((rd_T77 l1 x8_1).f0)).f3))) (ds := []) (bA 46 0) (by kernel_rfl) rfl rfl ⟨(blk_cell BK130.out 0).trans rfl, (blk_cell BK130.out 1).trans rfl, (blk_cell BK130.out 2).trans rfl, ((HB.out.cell (World.block_lt_of_cell? w _ hw132_0)).trans hw132_0), ((HB.out.cell (World.block_lt_of_cell? w _ hw132_1)).trans hw132_1), ((HB.out.cell (World.block_lt_of_cell? w _ hw132_2)).trans hw132_2), ((HB.out.cell (World.block_lt_of_cell? w _ hw132_3)).trans hw132_3)⟩ (fun hHeld => ?_); refine with_tabW spec_l5Split.tab7 spec_l5Split.bits7 (fun HT_ HW_ => ?_)
               generalize w32.drew = w33 at HO_5 BK130 HB hx132_0 hx132_1 hx132_2 hx132_3 hHeld ⊢
               refine pU 0 24 (bA 46 1) ?_
               refine pU 1 25 (bA 46 3) ?_
               refine tU 2 26 (bA 46 7) ?_
               refine one_ (i := 3) (N := some 27) (bA 46 15) rfl rfl (one_of HT_.out (by kernel_rfl)) (by decide) (fun K hK => ?_)
               refine goes_ Try.func145 (by kernel_rfl) rfl #[.slice (some ad132) l0.length c0, .int .i64 ((rd_T77 l1 x8_1).f0)] (by rfl) rfl rfl (by (try simp only [List.map_toArray, List.map_cons, List.map_nil]); first | done | rfl | (simp only [List.length_drop, List.length_take]; rfl)) ?_
               with_reducible refine (spec_l3Job.calls _ _ l0 ((rd_T77 l1 x8_1).f0) true _ ?side1 ?side2 A9.out).mono ?_
               (case side1 => repeat (first | exact (Kd.C_below HR0.out HB.out) | (with_reducible refine Kd.C_alloc ?_ _) | (with_reducible refine Kd.C_drewN ?_ _) | (with_reducible refine Kd.C_drew ?_)))
               (case side2 => exact HC0.out)
               rintro e w' ⟨rfl, ⟨nd, rfl⟩⟩
               refine ⟨_, rfl, ?_⟩
               refine hK.out _ _ ⟨(blk_cell BK130.out 0).trans rfl, (blk_cell BK130.out 1).trans rfl, (blk_cell BK130.out 2).trans rfl, ((HB.out.cell (World.block_lt_of_cell? w _ hw132_0)).trans hw132_0), ((HB.out.cell (World.block_lt_of_cell? w _ hw132_1)).trans hw132_1), ((HB.out.cell (World.block_lt_of_cell? w _ hw132_2)).trans hw132_2), ((HB.out.cell (World.block_lt_of_cell? w _ hw132_3)).trans hw132_3)⟩ (fun hHeld => ?_)
               clear hK K
               refine norm_ (a' := ?_) ?_ ?_
               rotate_left
               ·show Act.put _ (some 27) _ = _
                simp only [Act.put, sA, sZ, sS, i64_w, i32_w]
                rfl
               refine pU 4 28 (bA 46 31) ?_
               refine pU 5 29 (bA 46 63) ?_
               refine pU 6 30 (bA 46 127) ?_
               refine pU 8 32 (bA 46 383) ?_
               refine tU 7 31 (bA 46 511) ?_
               refine pU 9 33 (bA 46 1023) ?_
               refine pU 10 34 (bA 46 2047) ?_
               refine pU 11 35 (bA 46 4095) ?_
               refine pU 12 36 (bA 46 8191) ?_
               refine pU 14 38 (bA 46 24575) ?_
               refine pU 15 39 (bA 46 57343) ?_
               refine tU 13 37 (bA 46 65535) ?_
               refine tU 16 40 (bA 46 131071) ?_
               refine pU 17 41 (bA 46 262143) ?_
               refine pU 18 42 (bA 46 524287) ?_
               refine tU 19 43 (bA 46 1048575) ?_
               refine pU 20 44 (bA 46 2097151) ?_
               refine pU 21 45 (bA 46 4194303) ?_
               refine pU 22 46 (bA 46 8388607) ?_
               refine pU 23 47 (bA 46 16777215) ?_
               refine pU 25 49 (bA 46 50331647) ?_
               refine tU 24 48 (bA 46 67108863) ?_
               refine tU 26 50 (bA 46 134217727) ?_
               refine pU 27 51 (bA 46 268435455) ?_
               refine pU 28 52 (bA 46 536870911) ?_
               refine pU 29 53 (bA 46 1073741823) ?_
               refine pU 30 54 (bA 46 2147483647) ?_
               refine pU 32 56 (bA 46 6442450943) ?_
               refine tU 31 55 (bA 46 8589934591) ?_
               refine pU 33 57 (bA 46 17179869183) ?_
               refine pU 34 58 (bA 46 34359738367) ?_
               refine pU 35 59 (bA 46 68719476735) ?_
               refine pU 37 61 (bA 46 206158430207) ?_
               refine tU 36 60 (bA 46 274877906943) ?_
               refine pU 38 62 (bA 46 549755813887) ?_
               refine pU 39 63 (bA 46 1099511627775) ?_
               refine pU 40 64 (bA 46 2199023255551) ?_
               refine pU 41 65 (bA 46 4398046511103) ?_
               refine nU 42 66 (bA 46 8796093022207) ?_
               refine nU 43 67 (bA 46 17592186044415) ?_
               refine nU 44 68 (bA 46 35184372088831) ?_
               refine pU 45 69 (bA 46 70368744177663) ?_
               refine done_ (done_of HT_.out (by kernel_rfl)) ?_
               try go_wp2
               go_ret
               exact ⟨by first | rfl | (simp [errW_none, errW_some] <;> rfl) | (simp [*, errW_none, errW_some] <;> rfl), by repeat (first | (with_reducible first | exact HB.out | apply below_alloc | apply pw_below_drewN | apply below_drew1 | refine below_set ?_ GE130.out) | exact HB.out)⟩
              ·rw [if_neg c29] at H
               have c29b0 : (((rd_T77 l1 x8_1).f1) == x6_1) = false := beq_eq_false_iff_ne.mpr c29
               have c29b1 : (((rd_T77 l1 x8_1).f1) != x6_1) = true := bne_iff_ne.mpr c29
               by_cases c34 : ((rd_T77 l1 x8_1).f2) > 1000
               ·rw [if_pos c34] at H
                have c34b0 : decide (1000 < ((rd_T77 l1 x8_1).f2)) = true := decide_eq_true c34
                clear c34
                obtain rfl := Option.some.inj H
                have p129 : 0 ≤ (x8_1 : Int) := of_decide_eq_true (by first | (with_reducible assumption) | assumption)
                have q129 : x8_1 < (l1.length : Int) := of_decide_eq_true (by first | (with_reducible assumption) | assumption)
                obtain ⟨ad129, e129, hx129_0, hx129_1, hx129_2⟩ := at_T77 HR1.out x8_1 p129 q129
                cases e129
                replace hx129_0 := (HB.out.cell (World.block_lt_of_cell? w _ hx129_0)).trans hx129_0
                replace hx129_1 := (HB.out.cell (World.block_lt_of_cell? w _ hx129_1)).trans hx129_1
                replace hx129_2 := (HB.out.cell (World.block_lt_of_cell? w _ hx129_2)).trans hx129_2
                replace p129 := eq_true p129
                replace q129 := eq_true q129
                try go_wp2_with (first | ((with_reducible refine gate_dst (N := 9) rfl ?_); refine box_event ?hg (N := 9) ?hd (cs := #[.int .i64 0, .int .i64 0, .int .i64 0]) (t := 77) ?hr ?_; (case hd => rfl); (case hg => rfl); (case hr => first | (go_simp; done) | (go_simp; rfl)); intro gb130 hg w35 hbox hb; have n0_ := Aside0.mk (Kd.R_below (by (with_reducible repeat (first | apply Kd.R_alloc | apply Kd.R_drewN | apply Kd.R_drew)); exact HO_5.out) hb); have n1_ := Aside0.mk (below_step (by repeat (first | (with_reducible first | exact HB.out | apply below_alloc | apply pw_below_drewN | apply below_drew1) | exact HB.out)) hb); have n2_ := Aside0.mk (hbox); have n3_ := Aside0.mk ((by rw [hg]; exact (below_size (by repeat (first | (with_reducible first | exact HB.out | apply below_alloc | apply pw_below_drewN | apply below_drew1) | exact HB.out))) : w.heap.size ≤ gb130)); have n4_ := Aside0.mk ((by rw [hg]; exact (below_size (by repeat (first | (with_reducible first | exact HB.out | apply below_alloc | apply pw_below_drewN | apply below_drew1) | exact HB.out))) : w.heap.size ≤ gb130)); clear HO_5; clear HB; have HO_5 := n0_; have HB := n1_; have BK130 := n2_; have GW130 := n3_; have GE130 := n4_; clear n0_ n1_ n2_ n3_ n4_; clear hb hbox hg; have hcz36_0 : w35.cell? ⟨gb130, 0, none⟩ = some (.int .i64 0) := (blk_cell BK130.out 0).trans rfl; have hcz36_1 : w35.cell? ⟨gb130, 1, none⟩ = some (.int .i64 0) := (blk_cell BK130.out 1).trans rfl; have hcz36_2 : w35.cell? ⟨gb130, 2, none⟩ = some (.int .i64 0) := (blk_cell BK130.out 2).trans rfl; have hfz36_0 := blk_frozen BK130.out 0; have hfz36_1 := blk_frozen BK130.out 1; have hfz36_2 := blk_frozen BK130.out 2))
                have n0_ : Aside0 (Kd.R (Kd.int .i64) 3 (((w35.setCell ⟨gb130, 0, none⟩ (.int .i64 ((rd_T77 l1 x8_1).f0))).setCell ⟨gb130, 1, none⟩ (.int .i64 ((rd_T77 l1 x8_1).f1))).setCell ⟨gb130, 2, none⟩ (.int .i64 ((rd_T77 l1 x8_1).f2))) w.heap.size (fun _ => True) v127 x5_1) := ⟨by (with_reducible repeat (first | apply Kd.R_alloc | apply Kd.R_drewN | apply Kd.R_drew)); exact Kd.R_mono (Kd.R_far (p := ⟨gb130, 2, none⟩) (Kd.R_far (p := ⟨gb130, 1, none⟩) (Kd.R_far (p := ⟨gb130, 0, none⟩) (Kd.R_types HO_5.out BK130.out (by decide)) (fun _ hk => hk.2) (.int .i64 ((rd_T77 l1 x8_1).f0))) (fun _ hk => hk.2) (.int .i64 ((rd_T77 l1 x8_1).f1))) (fun _ hk => hk.2) (.int .i64 ((rd_T77 l1 x8_1).f2))) (fun _ hk => trivial)⟩
                have n1_ : Aside0 ((((w35.setCell ⟨gb130, 0, none⟩ (.int .i64 ((rd_T77 l1 x8_1).f0))).setCell ⟨gb130, 1, none⟩ (.int .i64 ((rd_T77 l1 x8_1).f1))).setCell ⟨gb130, 2, none⟩ (.int .i64 ((rd_T77 l1 x8_1).f2))).heap[gb130]? = some (.cells #[.int .i64 ((rd_T77 l1 x8_1).f0), .int .i64 ((rd_T77 l1 x8_1).f1), .int .i64 ((rd_T77 l1 x8_1).f2)] 77 (0, 0))) := ⟨by (with_reducible repeat (first | refine blk_drewN ?_ _ | refine blk_drew ?_ | refine blk_alloc ?_ _)); refine blk_put (cs := #[.int .i64 ((rd_T77 l1 x8_1).f0), .int .i64 ((rd_T77 l1 x8_1).f1), .int .i64 0]) ?_ 2 _ rfl; (with_reducible repeat (first | refine blk_drewN ?_ _ | refine blk_drew ?_ | refine blk_alloc ?_ _)); refine blk_put (cs := #[.int .i64 ((rd_T77 l1 x8_1).f0), .int .i64 0, .int .i64 0]) ?_ 1 _ rfl; (with_reducible repeat (first | refine blk_drewN ?_ _ | refine blk_drew ?_ | refine blk_alloc ?_ _)); refine blk_put (cs := #[.int .i64 0, .int .i64 0, .int .i64 0]) ?_ 0 _ rfl; (with_reducible repeat (first | refine blk_drewN ?_ _ | refine blk_drew ?_ | refine blk_alloc ?_ _)); exact BK130.out⟩
                have n2_ : Aside0 (Below w.heap.size w (((w35.setCell ⟨gb130, 0, none⟩ (.int .i64 ((rd_T77 l1 x8_1).f0))).setCell ⟨gb130, 1, none⟩ (.int .i64 ((rd_T77 l1 x8_1).f1))).setCell ⟨gb130, 2, none⟩ (.int .i64 ((rd_T77 l1 x8_1).f2)))) := ⟨by repeat (first | (with_reducible first | exact HB.out | apply below_alloc | apply pw_below_drewN | apply below_drew1 | refine below_set ?_ GE130.out) | exact HB.out)⟩
                (try clear HO_5)
                (try clear BK130)
                (try clear HB)
                generalize (((w35.setCell ⟨gb130, 0, none⟩ (.int .i64 ((rd_T77 l1 x8_1).f0))).setCell ⟨gb130, 1, none⟩ (.int .i64 ((rd_T77 l1 x8_1).f1))).setCell ⟨gb130, 2, none⟩ (.int .i64 ((rd_T77 l1 x8_1).f2))) = w37 at n0_ n1_ n2_ ⊢
                have HO_5 := n0_
                have BK130 := n1_
                have HB := n2_
                clear n0_ n1_ n2_
                have n0_ := Aside0.mk (Kd.R_drew HO_5.out)
                have n1_ := Aside0.mk (blk_drew BK130.out)
                have n2_ := Aside0.mk (below_drew1 HB.out)
                clear HO_5
                clear BK130
                clear HB
                have HO_5 := n0_
                have BK130 := n1_
                have HB := n2_
                clear n0_ n1_ n2_
                have p132 : 0 ≤ (((rd_T77 l1 x8_1).f0) : Int) := of_decide_eq_true (by first | (with_reducible assumption) | assumption)
                have q132 : ((rd_T77 l1 x8_1).f0) < (l0.length : Int) := of_decide_eq_true (by first | (with_reducible assumption) | assumption)
                obtain ⟨ad132, e132, hx132_0, hx132_1, hx132_2, hx132_3⟩ := at_T59 HR0.out ((rd_T77 l1 x8_1).f0) p132 q132
                have hw132_3 := hx132_3
                have hw132_2 := hx132_2
                have hw132_1 := hx132_1
                have hw132_0 := hx132_0
                cases e132
                replace hx132_0 := (HB.out.cell (World.block_lt_of_cell? w _ hx132_0)).trans hx132_0
                replace hx132_1 := (HB.out.cell (World.block_lt_of_cell? w _ hx132_1)).trans hx132_1
                replace hx132_2 := (HB.out.cell (World.block_lt_of_cell? w _ hx132_2)).trans hx132_2
                replace hx132_3 := (HB.out.cell (World.block_lt_of_cell? w _ hx132_3)).trans hx132_3
                replace p132 := eq_true p132
                replace q132 := eq_true q132
                refine start_ (n := 46) (S := fun w' => w'.cell? ⟨gb130, 0, none⟩ = some (.int .i64 ((rd_T77 l1 x8_1).f0)) ∧ w'.cell? ⟨gb130, 1, none⟩ = some (.int .i64 ((rd_T77 l1 x8_1).f1)) ∧ w'.cell? ⟨gb130, 2, none⟩ = some (.int .i64 ((rd_T77 l1 x8_1).f2)) ∧ w'.cell? (ad132.add ((((rd_T77 l1 x8_1).f0)).toNat * 4)) = some (.int .i64 ((rd_T59 l0 ((rd_T77 l1 x8_1).f0)).f0)) ∧ w'.cell? ⟨(ad132.add ((((rd_T77 l1 x8_1).f0)).toNat * 4)).block, (ad132.add ((((rd_T77 l1 x8_1).f0)).toNat * 4)).off + 1, none⟩ = some (.int .i64 ((rd_T59 l0 ((rd_T77 l1 x8_1).f0)).f1)) ∧ w'.cell? ⟨(ad132.add ((((rd_T77 l1 x8_1).f0)).toNat * 4)).block, (ad132.add ((((rd_T77 l1 x8_1).f0)).toNat * 4)).off + 2, none⟩ = some (.int .i64 ((rd_T59 l0 ((rd_T77 l1 x8_1).f0)).f2)) ∧ w'.cell? ⟨(ad132.add ((((rd_T77 l1 x8_1).f0)).toNat * 4)).block, (ad132.add ((((rd_T77 l1 x8_1).f0)).toNat * 4)).off + 3, none⟩ = some (.int .i64 ((rd_T59 l0 ((rd_T77 l1 x8_1).f0)).f3))) (ds := []) (bA 46 0) (by kernel_rfl) rfl rfl ⟨(blk_cell BK130.out 0).trans rfl, (blk_cell BK130.out 1).trans rfl, (blk_cell BK130.out 2).trans rfl, ((HB.out.cell (World.block_lt_of_cell? w _ hw132_0)).trans hw132_0), ((HB.out.cell (World.block_lt_of_cell? w _ hw132_1)).trans hw132_1), ((HB.out.cell (World.block_lt_of_cell? w _ hw132_2)).trans hw132_2), ((HB.out.cell (World.block_lt_of_cell? w _ hw132_3)).trans hw132_3)⟩ (fun hHeld => ?_); refine with_tabW spec_l5Split.tab7 spec_l5Split.bits7 (fun HT_ HW_ => ?_)
                generalize w37.drew = w38 at HO_5 BK130 HB hx132_0 hx132_1 hx132_2 hx132_3 hHeld ⊢
                refine pU 0 24 (bA 46 1) ?_
                refine pU 1 25 (bA 46 3) ?_
                refine tU 2 26 (bA 46 7) ?_
                refine one_ (i := 3) (N := some 27) (bA 46 15) rfl rfl (one_of HT_.out (by kernel_rfl)) (by decide) (fun K hK => ?_)
                refine goes_ Try.func145 (by kernel_rfl) rfl #[.slice (some ad132) l0.length c0, .int .i64 ((rd_T77 l1 x8_1).f0)] (by rfl) rfl rfl (by (try simp only [List.map_toArray, List.map_cons, List.map_nil]); first | done | rfl | (simp only [List.length_drop, List.length_take]; rfl)) ?_
                with_reducible refine (spec_l3Job.calls _ _ l0 ((rd_T77 l1 x8_1).f0) true _ ?side1 ?side2 A9.out).mono ?_
                (case side1 => repeat (first | exact (Kd.C_below HR0.out HB.out) | (with_reducible refine Kd.C_alloc ?_ _) | (with_reducible refine Kd.C_drewN ?_ _) | (with_reducible refine Kd.C_drew ?_)))
                (case side2 => exact HC0.out)
                rintro e w' ⟨rfl, ⟨nd, rfl⟩⟩
                refine ⟨_, rfl, ?_⟩
                refine hK.out _ _ ⟨(blk_cell BK130.out 0).trans rfl, (blk_cell BK130.out 1).trans rfl, (blk_cell BK130.out 2).trans rfl, ((HB.out.cell (World.block_lt_of_cell? w _ hw132_0)).trans hw132_0), ((HB.out.cell (World.block_lt_of_cell? w _ hw132_1)).trans hw132_1), ((HB.out.cell (World.block_lt_of_cell? w _ hw132_2)).trans hw132_2), ((HB.out.cell (World.block_lt_of_cell? w _ hw132_3)).trans hw132_3)⟩ (fun hHeld => ?_)
                clear hK K
                refine norm_ (a' := ?_) ?_ ?_
                rotate_left
                ·show Act.put _ (some 27) _ = _
                 simp only [Act.put, sA, sZ, sS, i64_w, i32_w]
                 rfl
                refine pU 4 28 (bA 46 31) ?_
                refine pU 5 29 (bA 46 63) ?_
                refine pU 6 30 (bA 46 127) ?_
                refine pU 8 32 (bA 46 383) ?_
                refine tU 7 31 (bA 46 511) ?_
                refine pU 9 33 (bA 46 1023) ?_
                refine pU 10 34 (bA 46 2047) ?_
                refine pU 11 35 (bA 46 4095) ?_
                refine pU 12 36 (bA 46 8191) ?_
                refine pU 14 38 (bA 46 24575) ?_
                refine pU 15 39 (bA 46 57343) ?_
                refine tU 13 37 (bA 46 65535) ?_
                refine tU 16 40 (bA 46 131071) ?_
                refine pU 17 41 (bA 46 262143) ?_
                refine pU 18 42 (bA 46 524287) ?_
                refine tU 19 43 (bA 46 1048575) ?_
                refine pU 20 44 (bA 46 2097151) ?_
                refine pU 21 45 (bA 46 4194303) ?_
                refine pU 22 46 (bA 46 8388607) ?_
                refine pU 23 47 (bA 46 16777215) ?_
                refine pU 25 49 (bA 46 50331647) ?_
                refine tU 24 48 (bA 46 67108863) ?_
                refine tU 26 50 (bA 46 134217727) ?_
                refine pU 27 51 (bA 46 268435455) ?_
                refine pU 28 52 (bA 46 536870911) ?_
                refine pU 29 53 (bA 46 1073741823) ?_
                refine pU 30 54 (bA 46 2147483647) ?_
                refine pU 32 56 (bA 46 6442450943) ?_
                refine tU 31 55 (bA 46 8589934591) ?_
                refine pU 33 57 (bA 46 17179869183) ?_
                refine pU 34 58 (bA 46 34359738367) ?_
                refine pU 35 59 (bA 46 68719476735) ?_
                refine pU 37 61 (bA 46 206158430207) ?_
                refine tU 36 60 (bA 46 274877906943) ?_
                refine pU 38 62 (bA 46 549755813887) ?_
                refine pU 39 63 (bA 46 1099511627775) ?_
                refine pU 40 64 (bA 46 2199023255551) ?_
                refine pU 41 65 (bA 46 4398046511103) ?_
                refine pU 42 66 (bA 46 8796093022207) ?_
                refine tU 43 67 (bA 46 17592186044415) ?_
                refine pU 44 68 (bA 46 35184372088831) ?_
                refine pU 45 69 (bA 46 70368744177663) ?_
                refine done_ (done_of HT_.out (by kernel_rfl)) ?_
                try go_wp2
                go_ret
                exact ⟨by first | rfl | (simp [errW_none, errW_some] <;> rfl) | (simp [*, errW_none, errW_some] <;> rfl), by repeat (first | (with_reducible first | exact HB.out | apply below_alloc | apply pw_below_drewN | apply below_drew1 | refine below_set ?_ GE130.out) | exact HB.out)⟩
               ·rw [if_neg c34] at H
                have c34b0 : decide (1000 < ((rd_T77 l1 x8_1).f2)) = false := decide_eq_false c34
                clear c34
                by_cases c39 : ((rd_T77 l1 x8_1).f0) < (x5_1.length : Int)
                ·rw [if_pos c39] at H
                 have c39b0 : decide (((rd_T77 l1 x8_1).f0) < (x5_1.length : Int)) = true := decide_eq_true c39
                 clear c39
                 obtain ⟨y134, hy134⟩ : ∃ y_ : List Int, y_ = (x5_1.set (((rd_T77 l1 x8_1).f0) : Int).toNat (wrap64 ((wrap64 ((rd x5_1 ((rd_T77 l1 x8_1).f0)) + ((rd_T77 l1 x8_1).f2))) - ((rd_T77 l1 x8_1).f1)))) := ⟨_, rfl⟩
                 replace H : (spec_l5Split.l0 k1 l0 l1 y134 ((rd_T77 l1 x8_1).f2) ((rd_T77 l1 x8_1).f0) (wrap64 (x8_1 + 1))) = some r := by first | (rw [hy134]; with_reducible exact H) | (have H2_ := (Option.bind_some _ _).symm.trans H; rw [hy134]; with_reducible exact H2_) | (have H2_ := (Option.bind_some _ _).symm.trans H; with_reducible exact H2_) | with_reducible exact H | (rw [hy134]; exact H) | exact H
                 have Ny134 := Aside0.mk hy134
                 clear hy134
                 have H' := Aside0.mk H
                 clear H
                 have p129 : 0 ≤ (x8_1 : Int) := of_decide_eq_true (by first | (with_reducible assumption) | assumption)
                 have q129 : x8_1 < (l1.length : Int) := of_decide_eq_true (by first | (with_reducible assumption) | assumption)
                 obtain ⟨ad129, e129, hx129_0, hx129_1, hx129_2⟩ := at_T77 HR1.out x8_1 p129 q129
                 cases e129
                 replace hx129_0 := (HB.out.cell (World.block_lt_of_cell? w _ hx129_0)).trans hx129_0
                 replace hx129_1 := (HB.out.cell (World.block_lt_of_cell? w _ hx129_1)).trans hx129_1
                 replace hx129_2 := (HB.out.cell (World.block_lt_of_cell? w _ hx129_2)).trans hx129_2
                 replace p129 := eq_true p129
                 replace q129 := eq_true q129
                 try go_wp2_with (first | ((with_reducible refine gate_dst (N := 9) rfl ?_); refine box_event ?hg (N := 9) ?hd (cs := #[.int .i64 0, .int .i64 0, .int .i64 0]) (t := 77) ?hr ?_; (case hd => rfl); (case hg => rfl); (case hr => first | (go_simp; done) | (go_simp; rfl)); intro gb130 hg w41 hbox hb; have n0_ := Aside0.mk (Kd.R_below (by (with_reducible repeat (first | apply Kd.R_alloc | apply Kd.R_drewN | apply Kd.R_drew)); exact HO_5.out) hb); have n1_ := Aside0.mk (below_step (by repeat (first | (with_reducible first | exact HB.out | apply below_alloc | apply pw_below_drewN | apply below_drew1) | exact HB.out)) hb); have n2_ := Aside0.mk (hbox); have n3_ := Aside0.mk ((by rw [hg]; exact (below_size (by repeat (first | (with_reducible first | exact HB.out | apply below_alloc | apply pw_below_drewN | apply below_drew1) | exact HB.out))) : w.heap.size ≤ gb130)); have n4_ := Aside0.mk ((by rw [hg]; exact (below_size (by repeat (first | (with_reducible first | exact HB.out | apply below_alloc | apply pw_below_drewN | apply below_drew1) | exact HB.out))) : w.heap.size ≤ gb130)); clear HO_5; clear HB; have HO_5 := n0_; have HB := n1_; have BK130 := n2_; have GW130 := n3_; have GE130 := n4_; clear n0_ n1_ n2_ n3_ n4_; clear hb hbox hg; have hcz42_0 : w41.cell? ⟨gb130, 0, none⟩ = some (.int .i64 0) := (blk_cell BK130.out 0).trans rfl; have hcz42_1 : w41.cell? ⟨gb130, 1, none⟩ = some (.int .i64 0) := (blk_cell BK130.out 1).trans rfl; have hcz42_2 : w41.cell? ⟨gb130, 2, none⟩ = some (.int .i64 0) := (blk_cell BK130.out 2).trans rfl; have hfz42_0 := blk_frozen BK130.out 0; have hfz42_1 := blk_frozen BK130.out 1; have hfz42_2 := blk_frozen BK130.out 2))
                 have n0_ : Aside0 (Kd.R (Kd.int .i64) 3 (((w41.setCell ⟨gb130, 0, none⟩ (.int .i64 ((rd_T77 l1 x8_1).f0))).setCell ⟨gb130, 1, none⟩ (.int .i64 ((rd_T77 l1 x8_1).f1))).setCell ⟨gb130, 2, none⟩ (.int .i64 ((rd_T77 l1 x8_1).f2))) w.heap.size (fun _ => True) v127 x5_1) := ⟨by (with_reducible repeat (first | apply Kd.R_alloc | apply Kd.R_drewN | apply Kd.R_drew)); exact Kd.R_mono (Kd.R_far (p := ⟨gb130, 2, none⟩) (Kd.R_far (p := ⟨gb130, 1, none⟩) (Kd.R_far (p := ⟨gb130, 0, none⟩) (Kd.R_types HO_5.out BK130.out (by decide)) (fun _ hk => hk.2) (.int .i64 ((rd_T77 l1 x8_1).f0))) (fun _ hk => hk.2) (.int .i64 ((rd_T77 l1 x8_1).f1))) (fun _ hk => hk.2) (.int .i64 ((rd_T77 l1 x8_1).f2))) (fun _ hk => trivial)⟩
                 have n1_ : Aside0 ((((w41.setCell ⟨gb130, 0, none⟩ (.int .i64 ((rd_T77 l1 x8_1).f0))).setCell ⟨gb130, 1, none⟩ (.int .i64 ((rd_T77 l1 x8_1).f1))).setCell ⟨gb130, 2, none⟩ (.int .i64 ((rd_T77 l1 x8_1).f2))).heap[gb130]? = some (.cells #[.int .i64 ((rd_T77 l1 x8_1).f0), .int .i64 ((rd_T77 l1 x8_1).f1), .int .i64 ((rd_T77 l1 x8_1).f2)] 77 (0, 0))) := ⟨by (with_reducible repeat (first | refine blk_drewN ?_ _ | refine blk_drew ?_ | refine blk_alloc ?_ _)); refine blk_put (cs := #[.int .i64 ((rd_T77 l1 x8_1).f0), .int .i64 ((rd_T77 l1 x8_1).f1), .int .i64 0]) ?_ 2 _ rfl; (with_reducible repeat (first | refine blk_drewN ?_ _ | refine blk_drew ?_ | refine blk_alloc ?_ _)); refine blk_put (cs := #[.int .i64 ((rd_T77 l1 x8_1).f0), .int .i64 0, .int .i64 0]) ?_ 1 _ rfl; (with_reducible repeat (first | refine blk_drewN ?_ _ | refine blk_drew ?_ | refine blk_alloc ?_ _)); refine blk_put (cs := #[.int .i64 0, .int .i64 0, .int .i64 0]) ?_ 0 _ rfl; (with_reducible repeat (first | refine blk_drewN ?_ _ | refine blk_drew ?_ | refine blk_alloc ?_ _)); exact BK130.out⟩
                 have n2_ : Aside0 (Below w.heap.size w (((w41.setCell ⟨gb130, 0, none⟩ (.int .i64 ((rd_T77 l1 x8_1).f0))).setCell ⟨gb130, 1, none⟩ (.int .i64 ((rd_T77 l1 x8_1).f1))).setCell ⟨gb130, 2, none⟩ (.int .i64 ((rd_T77 l1 x8_1).f2)))) := ⟨by repeat (first | (with_reducible first | exact HB.out | apply below_alloc | apply pw_below_drewN | apply below_drew1 | refine below_set ?_ GE130.out) | exact HB.out)⟩
                 (try clear HO_5)
                 (try clear BK130)
                 (try clear HB)
                 generalize (((w41.setCell ⟨gb130, 0, none⟩ (.int .i64 ((rd_T77 l1 x8_1).f0))).setCell ⟨gb130, 1, none⟩ (.int .i64 ((rd_T77 l1 x8_1).f1))).setCell ⟨gb130, 2, none⟩ (.int .i64 ((rd_T77 l1 x8_1).f2))) = w43 at n0_ n1_ n2_ ⊢
                 have HO_5 := n0_
                 have BK130 := n1_
                 have HB := n2_
                 clear n0_ n1_ n2_
                 have n0_ := Aside0.mk (Kd.R_drew HO_5.out)
                 have n1_ := Aside0.mk (blk_drew BK130.out)
                 have n2_ := Aside0.mk (below_drew1 HB.out)
                 clear HO_5
                 clear BK130
                 clear HB
                 have HO_5 := n0_
                 have BK130 := n1_
                 have HB := n2_
                 clear n0_ n1_ n2_
                 have p132 : 0 ≤ (((rd_T77 l1 x8_1).f0) : Int) := of_decide_eq_true (by first | (with_reducible assumption) | assumption)
                 have q132 : ((rd_T77 l1 x8_1).f0) < (l0.length : Int) := of_decide_eq_true (by first | (with_reducible assumption) | assumption)
                 obtain ⟨ad132, e132, hx132_0, hx132_1, hx132_2, hx132_3⟩ := at_T59 HR0.out ((rd_T77 l1 x8_1).f0) p132 q132
                 have hw132_3 := hx132_3
                 have hw132_2 := hx132_2
                 have hw132_1 := hx132_1
                 have hw132_0 := hx132_0
                 cases e132
                 replace hx132_0 := (HB.out.cell (World.block_lt_of_cell? w _ hx132_0)).trans hx132_0
                 replace hx132_1 := (HB.out.cell (World.block_lt_of_cell? w _ hx132_1)).trans hx132_1
                 replace hx132_2 := (HB.out.cell (World.block_lt_of_cell? w _ hx132_2)).trans hx132_2
                 replace hx132_3 := (HB.out.cell (World.block_lt_of_cell? w _ hx132_3)).trans hx132_3
                 replace p132 := eq_true p132
                 replace q132 := eq_true q132
                 refine start_ (n := 46) (S := fun w' => w'.cell? ⟨gb130, 0, none⟩ = some (.int .i64 ((rd_T77 l1 x8_1).f0)) ∧ w'.cell? ⟨gb130, 1, none⟩ = some (.int .i64 ((rd_T77 l1 x8_1).f1)) ∧ w'.cell? ⟨gb130, 2, none⟩ = some (.int .i64 ((rd_T77 l1 x8_1).f2)) ∧ w'.cell? (ad132.add ((((rd_T77 l1 x8_1).f0)).toNat * 4)) = some (.int .i64 ((rd_T59 l0 ((rd_T77 l1 x8_1).f0)).f0)) ∧ w'.cell? ⟨(ad132.add ((((rd_T77 l1 x8_1).f0)).toNat * 4)).block, (ad132.add ((((rd_T77 l1 x8_1).f0)).toNat * 4)).off + 1, none⟩ = some (.int .i64 ((rd_T59 l0 ((rd_T77 l1 x8_1).f0)).f1)) ∧ w'.cell? ⟨(ad132.add ((((rd_T77 l1 x8_1).f0)).toNat * 4)).block, (ad132.add ((((rd_T77 l1 x8_1).f0)).toNat * 4)).off + 2, none⟩ = some (.int .i64 ((rd_T59 l0 ((rd_T77 l1 x8_1).f0)).f2)) ∧ w'.cell? ⟨(ad132.add ((((rd_T77 l1 x8_1).f0)).toNat * 4)).block, (ad132.add ((((rd_T77 l1 x8_1).f0)).toNat * 4)).off + 3, none⟩ = some (.int .i64 ((rd_T59 l0 ((rd_T77 l1 x8_1).f0)).f3))) (ds := []) (bA 46 0) (by kernel_rfl) rfl rfl ⟨(blk_cell BK130.out 0).trans rfl, (blk_cell BK130.out 1).trans rfl, (blk_cell BK130.out 2).trans rfl, ((HB.out.cell (World.block_lt_of_cell? w _ hw132_0)).trans hw132_0), ((HB.out.cell (World.block_lt_of_cell? w _ hw132_1)).trans hw132_1), ((HB.out.cell (World.block_lt_of_cell? w _ hw132_2)).trans hw132_2), ((HB.out.cell (World.block_lt_of_cell? w _ hw132_3)).trans hw132_3)⟩ (fun hHeld => ?_); refine with_tabW spec_l5Split.tab7 spec_l5Split.bits7 (fun HT_ HW_ => ?_)
                 generalize w43.drew = w44 at HO_5 BK130 HB hx132_0 hx132_1 hx132_2 hx132_3 hHeld ⊢
                 refine pU 0 24 (bA 46 1) ?_
                 refine pU 1 25 (bA 46 3) ?_
                 refine tU 2 26 (bA 46 7) ?_
                 refine one_ (i := 3) (N := some 27) (bA 46 15) rfl rfl (one_of HT_.out (by kernel_rfl)) (by decide) (fun K hK => ?_)
                 refine goes_ Try.func145 (by kernel_rfl) rfl #[.slice (some ad132) l0.length c0, .int .i64 ((rd_T77 l1 x8_1).f0)] (by rfl) rfl rfl (by (try simp only [List.map_toArray, List.map_cons, List.map_nil]); first | done | rfl | (simp only [List.length_drop, List.length_take]; rfl)) ?_
                 with_reducible refine (spec_l3Job.calls _ _ l0 ((rd_T77 l1 x8_1).f0) true _ ?side1 ?side2 A9.out).mono ?_
                 (case side1 => repeat (first | exact (Kd.C_below HR0.out HB.out) | (with_reducible refine Kd.C_alloc ?_ _) | (with_reducible refine Kd.C_drewN ?_ _) | (with_reducible refine Kd.C_drew ?_)))
                 (case side2 => exact HC0.out)
                 rintro e w' ⟨rfl, ⟨nd, rfl⟩⟩
                 refine ⟨_, rfl, ?_⟩
                 refine hK.out _ _ ⟨(blk_cell BK130.out 0).trans rfl, (blk_cell BK130.out 1).trans rfl, (blk_cell BK130.out 2).trans rfl, ((HB.out.cell (World.block_lt_of_cell? w _ hw132_0)).trans hw132_0), ((HB.out.cell (World.block_lt_of_cell? w _ hw132_1)).trans hw132_1), ((HB.out.cell (World.block_lt_of_cell? w _ hw132_2)).trans hw132_2), ((HB.out.cell (World.block_lt_of_cell? w _ hw132_3)).trans hw132_3)⟩ (fun hHeld => ?_)
                 clear hK K
                 refine norm_ (a' := ?_) ?_ ?_
                 rotate_left
                 ·show Act.put _ (some 27) _ = _
                  simp only [Act.put, sA, sZ, sS, i64_w, i32_w]
                  rfl
                 refine pU 4 28 (bA 46 31) ?_
                 refine pU 5 29 (bA 46 63) ?_
                 refine pU 6 30 (bA 46 127) ?_
                 refine pU 8 32 (bA 46 383) ?_
                 refine tU 7 31 (bA 46 511) ?_
                 refine pU 9 33 (bA 46 1023) ?_
                 refine pU 10 34 (bA 46 2047) ?_
                 refine pU 11 35 (bA 46 4095) ?_
                 refine pU 12 36 (bA 46 8191) ?_
                 refine pU 14 38 (bA 46 24575) ?_
                 refine pU 15 39 (bA 46 57343) ?_
                 refine tU 13 37 (bA 46 65535) ?_
                 refine tU 16 40 (bA 46 131071) ?_
                 refine pU 17 41 (bA 46 262143) ?_
                 refine pU 18 42 (bA 46 524287) ?_
                 refine tU 19 43 (bA 46 1048575) ?_
                 refine pU 20 44 (bA 46 2097151) ?_
                 refine pU 21 45 (bA 46 4194303) ?_
                 refine pU 22 46 (bA 46 8388607) ?_
                 refine pU 23 47 (bA 46 16777215) ?_
                 refine pU 25 49 (bA 46 50331647) ?_
                 refine tU 24 48 (bA 46 67108863) ?_
                 refine tU 26 50 (bA 46 134217727) ?_
                 refine pU 27 51 (bA 46 268435455) ?_
                 refine pU 28 52 (bA 46 536870911) ?_
                 refine pU 29 53 (bA 46 1073741823) ?_
                 refine pU 30 54 (bA 46 2147483647) ?_
                 refine pU 32 56 (bA 46 6442450943) ?_
                 refine tU 31 55 (bA 46 8589934591) ?_
                 refine pU 33 57 (bA 46 17179869183) ?_
                 refine pU 34 58 (bA 46 34359738367) ?_
                 refine pU 35 59 (bA 46 68719476735) ?_
                 refine pU 37 61 (bA 46 206158430207) ?_
                 refine tU 36 60 (bA 46 274877906943) ?_
                 refine pU 38 62 (bA 46 549755813887) ?_
                 refine pU 39 63 (bA 46 1099511627775) ?_
                 refine pU 40 64 (bA 46 2199023255551) ?_
                 refine pU 41 65 (bA 46 4398046511103) ?_
                 refine pU 42 66 (bA 46 8796093022207) ?_
                 refine tU 43 67 (bA 46 17592186044415) ?_
                 refine pU 44 68 (bA 46 35184372088831) ?_
                 refine pU 45 69 (bA 46 70368744177663) ?_
                 refine done_ (done_of HT_.out (by kernel_rfl)) ?_
                 try go_wp2
                 (try (rw [drewN_self w44]; generalize hq_ : World.drewN w44 _ = w44; have n0_ : Aside0 (Kd.R (Kd.int .i64) 3 w44 w.heap.size (fun _ => True) v127 x5_1) := ⟨by rw [← hq_]; exact (by (with_reducible repeat (first | apply Kd.R_alloc | apply Kd.R_drewN | apply Kd.R_drew)); exact HO_5.out)⟩; have n1_ : Aside0 (w44.heap[gb130]? = some (.cells #[.int .i64 ((rd_T77 l1 x8_1).f0), .int .i64 ((rd_T77 l1 x8_1).f1), .int .i64 ((rd_T77 l1 x8_1).f2)] 77 (0, 0))) := ⟨by rw [← hq_]; exact (by (with_reducible repeat (first | refine blk_drewN ?_ _ | refine blk_drew ?_ | refine blk_alloc ?_ _)); exact BK130.out)⟩; have n2_ : Aside0 (Below w.heap.size w w44) := ⟨by rw [← hq_]; exact (by repeat (first | (with_reducible first | exact HB.out | apply below_alloc | apply pw_below_drewN | apply below_drew1 | refine below_set ?_ GE130.out) | exact HB.out))⟩; clear HO_5 BK130 HB hq_; have HO_5 := n0_; have BK130 := n1_; have HB := n2_; clear n0_ n1_ n2_))
                 have n0_ := Aside0.mk (Kd.R_drew HO_5.out)
                 have n1_ := Aside0.mk (blk_drew BK130.out)
                 have n2_ := Aside0.mk (below_drew1 HB.out)
                 clear HO_5
                 clear BK130
                 clear HB
                 have HO_5 := n0_
                 have BK130 := n1_
                 have HB := n2_
                 clear n0_ n1_ n2_
                 obtain ⟨Ao46, co46, eo46⟩ := Kd.R_slice HO_5.out
                 (first | subst eo46 | (injection eo46 with f1_ f2_ f3_; have f4_ := f1_.symm; have f5_ := f3_.symm; clear f1_ f2_ f3_; subst f4_; subst f5_))
                 have p133 : 0 ≤ (((rd_T77 l1 x8_1).f0) : Int) := of_decide_eq_true (by first | (with_reducible assumption) | assumption)
                 have q133 : ((rd_T77 l1 x8_1).f0) < (x5_1.length : Int) := of_decide_eq_true (by first | (with_reducible assumption) | assumption)
                 obtain ⟨ad133, e133, hx133_0⟩ := Kd.at_int (Kd.R_reads' HO_5.out).2.2 ((rd_T77 l1 x8_1).f0) p133 q133
                 cases e133
                 replace p133 := eq_true p133
                 replace q133 := eq_true q133
                 have p40 : 0 ≤ (((rd_T77 l1 x8_1).f0) : Int) := of_decide_eq_true (by first | (with_reducible assumption) | assumption)
                 have q40 : (((rd_T77 l1 x8_1).f0) : Int) < ((x5_1.length : Int) : Int) := of_decide_eq_true (by first | (with_reducible assumption) | assumption)
                 obtain ⟨go40, co40, eo40, gb40, gl40, cl40, HG40⟩ := Kd.R_form HO_5.out (by omega)
                 (first | cases eo40 | (injection eo40 with ea_ en_ ec_; (first | subst ea_ | (injection ea_ with ea_; subst ea_)); subst ec_; clear en_))
                 have GB40 := Aside0.mk gb40
                 have GG40 := Aside0.mk HG40
                 clear gb40 gl40 HG40
                 (first | simp only [add_plain] at hx133_0 | skip)
                 obtain ⟨hx40_0, hf40_0⟩ := Kd.R_celln 0 HO_5.out (((rd_T77 l1 x8_1).f0) : Int) p40 q40
                 replace p40 := eq_true p40
                 replace q40 := eq_true q40
                 have HP47 := Kd.R_putn HO_5.out (((rd_T77 l1 x8_1).f0) : Int) (wrap64 ((wrap64 ((rd x5_1 ((rd_T77 l1 x8_1).f0)) + ((rd_T77 l1 x8_1).f2))) - ((rd_T77 l1 x8_1).f1)))
                 rw [← Ny134.out] at HP47
                 have HQ47 := Aside0.mk HP47
                 clear HP47
                 refine start_ (n := 16) (S := fun w' => w'.cell? ⟨gb130, 0, none⟩ = some (.int .i64 ((rd_T77 l1 x8_1).f0)) ∧ w'.cell? ⟨gb130, 1, none⟩ = some (.int .i64 ((rd_T77 l1 x8_1).f1)) ∧ w'.cell? ⟨gb130, 2, none⟩ = some (.int .i64 ((rd_T77 l1 x8_1).f2)) ∧ w'.cell? ⟨go40, (((rd_T77 l1 x8_1).f0)).toNat, none⟩ = some (.int .i64 (rd x5_1 ((rd_T77 l1 x8_1).f0)))) (ds := [15]) (bA 16 0) (by kernel_rfl) rfl rfl ⟨(blk_cell BK130.out 0).trans rfl, (blk_cell BK130.out 1).trans rfl, (blk_cell BK130.out 2).trans rfl, hx133_0⟩ (fun hHeld => ?_); refine with_tabW spec_l5Split.tab9 spec_l5Split.bits9 (fun HT_ HW_ => ?_)
                 generalize w44.drew = w45 at HO_5 BK130 HB GG40 HQ47 hf40_0 hx133_0 hx40_0 hHeld ⊢
                 refine pU 0 70 (bA 16 1) ?_
                 refine pU 1 71 (bA 16 3) ?_
                 refine pU 3 73 (bA 16 11) ?_
                 refine pU 4 74 (bA 16 27) ?_
                 refine pU 8 78 (bA 16 283) ?_
                 refine pU 11 81 (bA 16 2331) ?_
                 refine tU 2 72 (bA 16 2335) ?_
                 refine tU 5 75 (bA 16 2367) ?_
                 refine pU 6 76 (bA 16 2431) ?_
                 refine tU 7 77 (bA 16 2559) ?_
                 refine tU 9 79 (bA 16 3071) ?_
                 refine pU 10 80 (bA 16 4095) ?_
                 refine tU 12 82 (bA 16 8191) ?_
                 refine pU 13 83 (bA 16 16383) ?_
                 refine pU 14 84 (bA 16 32767) ?_
                 refine last_ (i := 15) (N := none) (bA 16 65535) rfl rfl (one_of HT_.out (by kernel_rfl)) (by decide) (fun K hK => ?_)
                 refine skip_ (w1 := ?_) (by rfl) rfl ?_ ?_
                 rotate_left
                 ·go_simp
                  rfl
                 refine hK.out _ _ ?_
                 clear hK K
                 refine done_ (done_of HT_.out (by kernel_rfl)) ?_
                 have hcz48_0 : ∀ u_, (w45.setCell ⟨go40, (((rd_T77 l1 x8_1).f0) : Int).toNat, none⟩ u_).cell? ⟨gb130, 0, none⟩ = some (.int .i64 ((rd_T77 l1 x8_1).f0)) := fun u_ => (blk_cell (blk_far BK130.out (by obtain ⟨cs_, ho_, _⟩ := HO_5.out.2; intro e_; exact absurd (by rw [e_]; rfl) (own_ne ho_ BK130.out (by decide))) u_) 0).trans rfl
                 have hcz48_1 : ∀ u_, (w45.setCell ⟨go40, (((rd_T77 l1 x8_1).f0) : Int).toNat, none⟩ u_).cell? ⟨gb130, 1, none⟩ = some (.int .i64 ((rd_T77 l1 x8_1).f1)) := fun u_ => (blk_cell (blk_far BK130.out (by obtain ⟨cs_, ho_, _⟩ := HO_5.out.2; intro e_; exact absurd (by rw [e_]; rfl) (own_ne ho_ BK130.out (by decide))) u_) 1).trans rfl
                 have hcz48_2 : ∀ u_, (w45.setCell ⟨go40, (((rd_T77 l1 x8_1).f0) : Int).toNat, none⟩ u_).cell? ⟨gb130, 2, none⟩ = some (.int .i64 ((rd_T77 l1 x8_1).f2)) := fun u_ => (blk_cell (blk_far BK130.out (by obtain ⟨cs_, ho_, _⟩ := HO_5.out.2; intro e_; exact absurd (by rw [e_]; rfl) (own_ne ho_ BK130.out (by decide))) u_) 2).trans rfl
                 have hfz48_0 := fun u_ => blk_frozen (blk_far (p := ⟨go40, (((rd_T77 l1 x8_1).f0) : Int).toNat, none⟩) BK130.out (by obtain ⟨cs_, ho_, _⟩ := HO_5.out.2; intro e_; exact absurd (by rw [e_]; rfl) (own_ne ho_ BK130.out (by decide))) u_) 0
                 have hfz48_1 := fun u_ => blk_frozen (blk_far (p := ⟨go40, (((rd_T77 l1 x8_1).f0) : Int).toNat, none⟩) BK130.out (by obtain ⟨cs_, ho_, _⟩ := HO_5.out.2; intro e_; exact absurd (by rw [e_]; rfl) (own_ne ho_ BK130.out (by decide))) u_) 1
                 have hfz48_2 := fun u_ => blk_frozen (blk_far (p := ⟨go40, (((rd_T77 l1 x8_1).f0) : Int).toNat, none⟩) BK130.out (by obtain ⟨cs_, ho_, _⟩ := HO_5.out.2; intro e_; exact absurd (by rw [e_]; rfl) (own_ne ho_ BK130.out (by decide))) u_) 2
                 try go_wp2
                 go_roundg k1
                 case measure => have := HK1.out; omega
                 case rel => exact ⟨(y134), ((rd_T77 l1 x8_1).f2), ((rd_T77 l1 x8_1).f0), (wrap64 (x8_1 + 1)), (by first | rfl | (simp; done) | (simp [*]; done)), (by first | rfl | (simp; done) | (simp [*]; done)), (by first | rfl | (simp; done) | (simp [*]; done)), H', ⟨by have := HK1.out; omega⟩, ⟨by (with_reducible repeat (first | apply Kd.R_alloc | apply Kd.R_drewN | apply Kd.R_drew)); exact HQ47.out⟩, ⟨by repeat (first | (with_reducible first | exact HB.out | apply below_alloc | apply pw_below_drewN | apply below_drew1 | refine below_set ?_ GB40.out | refine below_set ?_ GE130.out) | exact HB.out)⟩⟩
                ·rw [if_neg c39] at H
                 exact absurd H (by simp)
             ·rw [if_neg c28] at H
              have c28b0 : (((rd_T77 l1 x8_1).f0) == x7_1) = false := beq_eq_false_iff_ne.mpr c28
              have c28b1 : (((rd_T77 l1 x8_1).f0) != x7_1) = true := bne_iff_ne.mpr c28
              by_cases c49 : ((rd_T77 l1 x8_1).f2) > 1000
              ·rw [if_pos c49] at H
               have c49b0 : decide (1000 < ((rd_T77 l1 x8_1).f2)) = true := decide_eq_true c49
               clear c49
               obtain rfl := Option.some.inj H
               have p129 : 0 ≤ (x8_1 : Int) := of_decide_eq_true (by first | (with_reducible assumption) | assumption)
               have q129 : x8_1 < (l1.length : Int) := of_decide_eq_true (by first | (with_reducible assumption) | assumption)
               obtain ⟨ad129, e129, hx129_0, hx129_1, hx129_2⟩ := at_T77 HR1.out x8_1 p129 q129
               cases e129
               replace hx129_0 := (HB.out.cell (World.block_lt_of_cell? w _ hx129_0)).trans hx129_0
               replace hx129_1 := (HB.out.cell (World.block_lt_of_cell? w _ hx129_1)).trans hx129_1
               replace hx129_2 := (HB.out.cell (World.block_lt_of_cell? w _ hx129_2)).trans hx129_2
               replace p129 := eq_true p129
               replace q129 := eq_true q129
               try go_wp2_with (first | ((with_reducible refine gate_dst (N := 9) rfl ?_); refine box_event ?hg (N := 9) ?hd (cs := #[.int .i64 0, .int .i64 0, .int .i64 0]) (t := 77) ?hr ?_; (case hd => rfl); (case hg => rfl); (case hr => first | (go_simp; done) | (go_simp; rfl)); intro gb130 hg w50 hbox hb; have n0_ := Aside0.mk (Kd.R_below (by (with_reducible repeat (first | apply Kd.R_alloc | apply Kd.R_drewN | apply Kd.R_drew)); exact HO_5.out) hb); have n1_ := Aside0.mk (below_step (by repeat (first | (with_reducible first | exact HB.out | apply below_alloc | apply pw_below_drewN | apply below_drew1) | exact HB.out)) hb); have n2_ := Aside0.mk (hbox); have n3_ := Aside0.mk ((by rw [hg]; exact (below_size (by repeat (first | (with_reducible first | exact HB.out | apply below_alloc | apply pw_below_drewN | apply below_drew1) | exact HB.out))) : w.heap.size ≤ gb130)); have n4_ := Aside0.mk ((by rw [hg]; exact (below_size (by repeat (first | (with_reducible first | exact HB.out | apply below_alloc | apply pw_below_drewN | apply below_drew1) | exact HB.out))) : w.heap.size ≤ gb130)); clear HO_5; clear HB; have HO_5 := n0_; have HB := n1_; have BK130 := n2_; have GW130 := n3_; have GE130 := n4_; clear n0_ n1_ n2_ n3_ n4_; clear hb hbox hg; have hcz51_0 : w50.cell? ⟨gb130, 0, none⟩ = some (.int .i64 0) := (blk_cell BK130.out 0).trans rfl; have hcz51_1 : w50.cell? ⟨gb130, 1, none⟩ = some (.int .i64 0) := (blk_cell BK130.out 1).trans rfl; have hcz51_2 : w50.cell? ⟨gb130, 2, none⟩ = some (.int .i64 0) := (blk_cell BK130.out 2).trans rfl; have hfz51_0 := blk_frozen BK130.out 0; have hfz51_1 := blk_frozen BK130.out 1; have hfz51_2 := blk_frozen BK130.out 2))
               have n0_ : Aside0 (Kd.R (Kd.int .i64) 3 (((w50.setCell ⟨gb130, 0, none⟩ (.int .i64 ((rd_T77 l1 x8_1).f0))).setCell ⟨gb130, 1, none⟩ (.int .i64 ((rd_T77 l1 x8_1).f1))).setCell ⟨gb130, 2, none⟩ (.int .i64 ((rd_T77 l1 x8_1).f2))) w.heap.size (fun _ => True) v127 x5_1) := ⟨by (with_reducible repeat (first | apply Kd.R_alloc | apply Kd.R_drewN | apply Kd.R_drew)); exact Kd.R_mono (Kd.R_far (p := ⟨gb130, 2, none⟩) (Kd.R_far (p := ⟨gb130, 1, none⟩) (Kd.R_far (p := ⟨gb130, 0, none⟩) (Kd.R_types HO_5.out BK130.out (by decide)) (fun _ hk => hk.2) (.int .i64 ((rd_T77 l1 x8_1).f0))) (fun _ hk => hk.2) (.int .i64 ((rd_T77 l1 x8_1).f1))) (fun _ hk => hk.2) (.int .i64 ((rd_T77 l1 x8_1).f2))) (fun _ hk => trivial)⟩
               have n1_ : Aside0 ((((w50.setCell ⟨gb130, 0, none⟩ (.int .i64 ((rd_T77 l1 x8_1).f0))).setCell ⟨gb130, 1, none⟩ (.int .i64 ((rd_T77 l1 x8_1).f1))).setCell ⟨gb130, 2, none⟩ (.int .i64 ((rd_T77 l1 x8_1).f2))).heap[gb130]? = some (.cells #[.int .i64 ((rd_T77 l1 x8_1).f0), .int .i64 ((rd_T77 l1 x8_1).f1), .int .i64 ((rd_T77 l1 x8_1).f2)] 77 (0, 0))) := ⟨by (with_reducible repeat (first | refine blk_drewN ?_ _ | refine blk_drew ?_ | refine blk_alloc ?_ _)); refine blk_put (cs := #[.int .i64 ((rd_T77 l1 x8_1).f0), .int .i64 ((rd_T77 l1 x8_1).f1), .int .i64 0]) ?_ 2 _ rfl; (with_reducible repeat (first | refine blk_drewN ?_ _ | refine blk_drew ?_ | refine blk_alloc ?_ _)); refine blk_put (cs := #[.int .i64 ((rd_T77 l1 x8_1).f0), .int .i64 0, .int .i64 0]) ?_ 1 _ rfl; (with_reducible repeat (first | refine blk_drewN ?_ _ | refine blk_drew ?_ | refine blk_alloc ?_ _)); refine blk_put (cs := #[.int .i64 0, .int .i64 0, .int .i64 0]) ?_ 0 _ rfl; (with_reducible repeat (first | refine blk_drewN ?_ _ | refine blk_drew ?_ | refine blk_alloc ?_ _)); exact BK130.out⟩
               have n2_ : Aside0 (Below w.heap.size w (((w50.setCell ⟨gb130, 0, none⟩ (.int .i64 ((rd_T77 l1 x8_1).f0))).setCell ⟨gb130, 1, none⟩ (.int .i64 ((rd_T77 l1 x8_1).f1))).setCell ⟨gb130, 2, none⟩ (.int .i64 ((rd_T77 l1 x8_1).f2)))) := ⟨by repeat (first | (with_reducible first | exact HB.out | apply below_alloc | apply pw_below_drewN | apply below_drew1 | refine below_set ?_ GE130.out) | exact HB.out)⟩
               (try clear HO_5)
               (try clear BK130)
               (try clear HB)
               generalize (((w50.setCell ⟨gb130, 0, none⟩ (.int .i64 ((rd_T77 l1 x8_1).f0))).setCell ⟨gb130, 1, none⟩ (.int .i64 ((rd_T77 l1 x8_1).f1))).setCell ⟨gb130, 2, none⟩ (.int .i64 ((rd_T77 l1 x8_1).f2))) = w52 at n0_ n1_ n2_ ⊢
               have HO_5 := n0_
               have BK130 := n1_
               have HB := n2_
               clear n0_ n1_ n2_
               have n0_ := Aside0.mk (Kd.R_drew HO_5.out)
               have n1_ := Aside0.mk (blk_drew BK130.out)
               have n2_ := Aside0.mk (below_drew1 HB.out)
               clear HO_5
               clear BK130
               clear HB
               have HO_5 := n0_
               have BK130 := n1_
               have HB := n2_
               clear n0_ n1_ n2_
               have p132 : 0 ≤ (((rd_T77 l1 x8_1).f0) : Int) := of_decide_eq_true (by first | (with_reducible assumption) | assumption)
               have q132 : ((rd_T77 l1 x8_1).f0) < (l0.length : Int) := of_decide_eq_true (by first | (with_reducible assumption) | assumption)
               obtain ⟨ad132, e132, hx132_0, hx132_1, hx132_2, hx132_3⟩ := at_T59 HR0.out ((rd_T77 l1 x8_1).f0) p132 q132
               have hw132_3 := hx132_3
               have hw132_2 := hx132_2
               have hw132_1 := hx132_1
               have hw132_0 := hx132_0
               cases e132
               replace hx132_0 := (HB.out.cell (World.block_lt_of_cell? w _ hx132_0)).trans hx132_0
               replace hx132_1 := (HB.out.cell (World.block_lt_of_cell? w _ hx132_1)).trans hx132_1
               replace hx132_2 := (HB.out.cell (World.block_lt_of_cell? w _ hx132_2)).trans hx132_2
               replace hx132_3 := (HB.out.cell (World.block_lt_of_cell? w _ hx132_3)).trans hx132_3
               replace p132 := eq_true p132
               replace q132 := eq_true q132
               refine start_ (n := 46) (S := fun w' => w'.cell? ⟨gb130, 0, none⟩ = some (.int .i64 ((rd_T77 l1 x8_1).f0)) ∧ w'.cell? ⟨gb130, 1, none⟩ = some (.int .i64 ((rd_T77 l1 x8_1).f1)) ∧ w'.cell? ⟨gb130, 2, none⟩ = some (.int .i64 ((rd_T77 l1 x8_1).f2)) ∧ w'.cell? (ad132.add ((((rd_T77 l1 x8_1).f0)).toNat * 4)) = some (.int .i64 ((rd_T59 l0 ((rd_T77 l1 x8_1).f0)).f0)) ∧ w'.cell? ⟨(ad132.add ((((rd_T77 l1 x8_1).f0)).toNat * 4)).block, (ad132.add ((((rd_T77 l1 x8_1).f0)).toNat * 4)).off + 1, none⟩ = some (.int .i64 ((rd_T59 l0 ((rd_T77 l1 x8_1).f0)).f1)) ∧ w'.cell? ⟨(ad132.add ((((rd_T77 l1 x8_1).f0)).toNat * 4)).block, (ad132.add ((((rd_T77 l1 x8_1).f0)).toNat * 4)).off + 2, none⟩ = some (.int .i64 ((rd_T59 l0 ((rd_T77 l1 x8_1).f0)).f2)) ∧ w'.cell? ⟨(ad132.add ((((rd_T77 l1 x8_1).f0)).toNat * 4)).block, (ad132.add ((((rd_T77 l1 x8_1).f0)).toNat * 4)).off + 3, none⟩ = some (.int .i64 ((rd_T59 l0 ((rd_T77 l1 x8_1).f0)).f3))) (ds := []) (bA 46 0) (by kernel_rfl) rfl rfl ⟨(blk_cell BK130.out 0).trans rfl, (blk_cell BK130.out 1).trans rfl, (blk_cell BK130.out 2).trans rfl, ((HB.out.cell (World.block_lt_of_cell? w _ hw132_0)).trans hw132_0), ((HB.out.cell (World.block_lt_of_cell? w _ hw132_1)).trans hw132_1), ((HB.out.cell (World.block_lt_of_cell? w _ hw132_2)).trans hw132_2), ((HB.out.cell (World.block_lt_of_cell? w _ hw132_3)).trans hw132_3)⟩ (fun hHeld => ?_); refine with_tabW spec_l5Split.tab7 spec_l5Split.bits7 (fun HT_ HW_ => ?_)
               generalize w52.drew = w53 at HO_5 BK130 HB hx132_0 hx132_1 hx132_2 hx132_3 hHeld ⊢
               refine pU 0 24 (bA 46 1) ?_
               refine pU 1 25 (bA 46 3) ?_
               refine tU 2 26 (bA 46 7) ?_
               refine one_ (i := 3) (N := some 27) (bA 46 15) rfl rfl (one_of HT_.out (by kernel_rfl)) (by decide) (fun K hK => ?_)
               refine goes_ Try.func145 (by kernel_rfl) rfl #[.slice (some ad132) l0.length c0, .int .i64 ((rd_T77 l1 x8_1).f0)] (by rfl) rfl rfl (by (try simp only [List.map_toArray, List.map_cons, List.map_nil]); first | done | rfl | (simp only [List.length_drop, List.length_take]; rfl)) ?_
               with_reducible refine (spec_l3Job.calls _ _ l0 ((rd_T77 l1 x8_1).f0) true _ ?side1 ?side2 A9.out).mono ?_
               (case side1 => repeat (first | exact (Kd.C_below HR0.out HB.out) | (with_reducible refine Kd.C_alloc ?_ _) | (with_reducible refine Kd.C_drewN ?_ _) | (with_reducible refine Kd.C_drew ?_)))
               (case side2 => exact HC0.out)
               rintro e w' ⟨rfl, ⟨nd, rfl⟩⟩
               refine ⟨_, rfl, ?_⟩
               refine hK.out _ _ ⟨(blk_cell BK130.out 0).trans rfl, (blk_cell BK130.out 1).trans rfl, (blk_cell BK130.out 2).trans rfl, ((HB.out.cell (World.block_lt_of_cell? w _ hw132_0)).trans hw132_0), ((HB.out.cell (World.block_lt_of_cell? w _ hw132_1)).trans hw132_1), ((HB.out.cell (World.block_lt_of_cell? w _ hw132_2)).trans hw132_2), ((HB.out.cell (World.block_lt_of_cell? w _ hw132_3)).trans hw132_3)⟩ (fun hHeld => ?_)
               clear hK K
               refine norm_ (a' := ?_) ?_ ?_
               rotate_left
               ·show Act.put _ (some 27) _ = _
                simp only [Act.put, sA, sZ, sS, i64_w, i32_w]
                rfl
               refine pU 4 28 (bA 46 31) ?_
               refine pU 5 29 (bA 46 63) ?_
               refine pU 6 30 (bA 46 127) ?_
               refine pU 8 32 (bA 46 383) ?_
               refine tU 7 31 (bA 46 511) ?_
               refine pU 9 33 (bA 46 1023) ?_
               refine pU 10 34 (bA 46 2047) ?_
               refine pU 11 35 (bA 46 4095) ?_
               refine pU 12 36 (bA 46 8191) ?_
               refine pU 14 38 (bA 46 24575) ?_
               refine pU 15 39 (bA 46 57343) ?_
               refine tU 13 37 (bA 46 65535) ?_
               refine tU 16 40 (bA 46 131071) ?_
               refine pU 17 41 (bA 46 262143) ?_
               refine pU 18 42 (bA 46 524287) ?_
               refine tU 19 43 (bA 46 1048575) ?_
               refine pU 20 44 (bA 46 2097151) ?_
               refine pU 21 45 (bA 46 4194303) ?_
               refine pU 22 46 (bA 46 8388607) ?_
               refine pU 23 47 (bA 46 16777215) ?_
               refine pU 25 49 (bA 46 50331647) ?_
               refine tU 24 48 (bA 46 67108863) ?_
               refine tU 26 50 (bA 46 134217727) ?_
               refine pU 27 51 (bA 46 268435455) ?_
               refine pU 28 52 (bA 46 536870911) ?_
               refine pU 29 53 (bA 46 1073741823) ?_
               refine pU 30 54 (bA 46 2147483647) ?_
               refine pU 32 56 (bA 46 6442450943) ?_
               refine tU 31 55 (bA 46 8589934591) ?_
               refine pU 33 57 (bA 46 17179869183) ?_
               refine pU 34 58 (bA 46 34359738367) ?_
               refine nU 35 59 (bA 46 68719476735) ?_
               refine nU 36 60 (bA 46 137438953471) ?_
               refine nU 37 61 (bA 46 274877906943) ?_
               refine nU 38 62 (bA 46 549755813887) ?_
               refine pU 39 63 (bA 46 1099511627775) ?_
               refine pU 40 64 (bA 46 2199023255551) ?_
               refine pU 41 65 (bA 46 4398046511103) ?_
               refine pU 42 66 (bA 46 8796093022207) ?_
               refine tU 43 67 (bA 46 17592186044415) ?_
               refine pU 44 68 (bA 46 35184372088831) ?_
               refine pU 45 69 (bA 46 70368744177663) ?_
               refine done_ (done_of HT_.out (by kernel_rfl)) ?_
               try go_wp2
               go_ret
               exact ⟨by first | rfl | (simp [errW_none, errW_some] <;> rfl) | (simp [*, errW_none, errW_some] <;> rfl), by repeat (first | (with_reducible first | exact HB.out | apply below_alloc | apply pw_below_drewN | apply below_drew1 | refine below_set ?_ GE130.out) | exact HB.out)⟩
              ·rw [if_neg c49] at H
               have c49b0 : decide (1000 < ((rd_T77 l1 x8_1).f2)) = false := decide_eq_false c49
               clear c49
               by_cases c54 : ((rd_T77 l1 x8_1).f0) < (x5_1.length : Int)
               ·rw [if_pos c54] at H
                have c54b0 : decide (((rd_T77 l1 x8_1).f0) < (x5_1.length : Int)) = true := decide_eq_true c54
                clear c54
                obtain ⟨y136, hy136⟩ : ∃ y_ : List Int, y_ = (x5_1.set (((rd_T77 l1 x8_1).f0) : Int).toNat (wrap64 ((wrap64 ((rd x5_1 ((rd_T77 l1 x8_1).f0)) + ((rd_T77 l1 x8_1).f2))) - ((rd_T77 l1 x8_1).f1)))) := ⟨_, rfl⟩
                replace H : (spec_l5Split.l0 k1 l0 l1 y136 ((rd_T77 l1 x8_1).f2) ((rd_T77 l1 x8_1).f0) (wrap64 (x8_1 + 1))) = some r := by first | (rw [hy136]; with_reducible exact H) | (have H2_ := (Option.bind_some _ _).symm.trans H; rw [hy136]; with_reducible exact H2_) | (have H2_ := (Option.bind_some _ _).symm.trans H; with_reducible exact H2_) | with_reducible exact H | (rw [hy136]; exact H) | exact H
                have Ny136 := Aside0.mk hy136
                clear hy136
                have H' := Aside0.mk H
                clear H
                have p129 : 0 ≤ (x8_1 : Int) := of_decide_eq_true (by first | (with_reducible assumption) | assumption)
                have q129 : x8_1 < (l1.length : Int) := of_decide_eq_true (by first | (with_reducible assumption) | assumption)
                obtain ⟨ad129, e129, hx129_0, hx129_1, hx129_2⟩ := at_T77 HR1.out x8_1 p129 q129
                cases e129
                replace hx129_0 := (HB.out.cell (World.block_lt_of_cell? w _ hx129_0)).trans hx129_0
                replace hx129_1 := (HB.out.cell (World.block_lt_of_cell? w _ hx129_1)).trans hx129_1
                replace hx129_2 := (HB.out.cell (World.block_lt_of_cell? w _ hx129_2)).trans hx129_2
                replace p129 := eq_true p129
                replace q129 := eq_true q129
                try go_wp2_with (first | ((with_reducible refine gate_dst (N := 9) rfl ?_); refine box_event ?hg (N := 9) ?hd (cs := #[.int .i64 0, .int .i64 0, .int .i64 0]) (t := 77) ?hr ?_; (case hd => rfl); (case hg => rfl); (case hr => first | (go_simp; done) | (go_simp; rfl)); intro gb130 hg w56 hbox hb; have n0_ := Aside0.mk (Kd.R_below (by (with_reducible repeat (first | apply Kd.R_alloc | apply Kd.R_drewN | apply Kd.R_drew)); exact HO_5.out) hb); have n1_ := Aside0.mk (below_step (by repeat (first | (with_reducible first | exact HB.out | apply below_alloc | apply pw_below_drewN | apply below_drew1) | exact HB.out)) hb); have n2_ := Aside0.mk (hbox); have n3_ := Aside0.mk ((by rw [hg]; exact (below_size (by repeat (first | (with_reducible first | exact HB.out | apply below_alloc | apply pw_below_drewN | apply below_drew1) | exact HB.out))) : w.heap.size ≤ gb130)); have n4_ := Aside0.mk ((by rw [hg]; exact (below_size (by repeat (first | (with_reducible first | exact HB.out | apply below_alloc | apply pw_below_drewN | apply below_drew1) | exact HB.out))) : w.heap.size ≤ gb130)); clear HO_5; clear HB; have HO_5 := n0_; have HB := n1_; have BK130 := n2_; have GW130 := n3_; have GE130 := n4_; clear n0_ n1_ n2_ n3_ n4_; clear hb hbox hg; have hcz57_0 : w56.cell? ⟨gb130, 0, none⟩ = some (.int .i64 0) := (blk_cell BK130.out 0).trans rfl; have hcz57_1 : w56.cell? ⟨gb130, 1, none⟩ = some (.int .i64 0) := (blk_cell BK130.out 1).trans rfl; have hcz57_2 : w56.cell? ⟨gb130, 2, none⟩ = some (.int .i64 0) := (blk_cell BK130.out 2).trans rfl; have hfz57_0 := blk_frozen BK130.out 0; have hfz57_1 := blk_frozen BK130.out 1; have hfz57_2 := blk_frozen BK130.out 2))
                have n0_ : Aside0 (Kd.R (Kd.int .i64) 3 (((w56.setCell ⟨gb130, 0, none⟩ (.int .i64 ((rd_T77 l1 x8_1).f0))).setCell ⟨gb130, 1, none⟩ (.int .i64 ((rd_T77 l1 x8_1).f1))).setCell ⟨gb130, 2, none⟩ (.int .i64 ((rd_T77 l1 x8_1).f2))) w.heap.size (fun _ => True) v127 x5_1) := ⟨by (with_reducible repeat (first | apply Kd.R_alloc | apply Kd.R_drewN | apply Kd.R_drew)); exact Kd.R_mono (Kd.R_far (p := ⟨gb130, 2, none⟩) (Kd.R_far (p := ⟨gb130, 1, none⟩) (Kd.R_far (p := ⟨gb130, 0, none⟩) (Kd.R_types HO_5.out BK130.out (by decide)) (fun _ hk => hk.2) (.int .i64 ((rd_T77 l1 x8_1).f0))) (fun _ hk => hk.2) (.int .i64 ((rd_T77 l1 x8_1).f1))) (fun _ hk => hk.2) (.int .i64 ((rd_T77 l1 x8_1).f2))) (fun _ hk => trivial)⟩
                have n1_ : Aside0 ((((w56.setCell ⟨gb130, 0, none⟩ (.int .i64 ((rd_T77 l1 x8_1).f0))).setCell ⟨gb130, 1, none⟩ (.int .i64 ((rd_T77 l1 x8_1).f1))).setCell ⟨gb130, 2, none⟩ (.int .i64 ((rd_T77 l1 x8_1).f2))).heap[gb130]? = some (.cells #[.int .i64 ((rd_T77 l1 x8_1).f0), .int .i64 ((rd_T77 l1 x8_1).f1), .int .i64 ((rd_T77 l1 x8_1).f2)] 77 (0, 0))) := ⟨by (with_reducible repeat (first | refine blk_drewN ?_ _ | refine blk_drew ?_ | refine blk_alloc ?_ _)); refine blk_put (cs := #[.int .i64 ((rd_T77 l1 x8_1).f0), .int .i64 ((rd_T77 l1 x8_1).f1), .int .i64 0]) ?_ 2 _ rfl; (with_reducible repeat (first | refine blk_drewN ?_ _ | refine blk_drew ?_ | refine blk_alloc ?_ _)); refine blk_put (cs := #[.int .i64 ((rd_T77 l1 x8_1).f0), .int .i64 0, .int .i64 0]) ?_ 1 _ rfl; (with_reducible repeat (first | refine blk_drewN ?_ _ | refine blk_drew ?_ | refine blk_alloc ?_ _)); refine blk_put (cs := #[.int .i64 0, .int .i64 0, .int .i64 0]) ?_ 0 _ rfl; (with_reducible repeat (first | refine blk_drewN ?_ _ | refine blk_drew ?_ | refine blk_alloc ?_ _)); exact BK130.out⟩
                have n2_ : Aside0 (Below w.heap.size w (((w56.setCell ⟨gb130, 0, none⟩ (.int .i64 ((rd_T77 l1 x8_1).f0))).setCell ⟨gb130, 1, none⟩ (.int .i64 ((rd_T77 l1 x8_1).f1))).setCell ⟨gb130, 2, none⟩ (.int .i64 ((rd_T77 l1 x8_1).f2)))) := ⟨by repeat (first | (with_reducible first | exact HB.out | apply below_alloc | apply pw_below_drewN | apply below_drew1 | refine below_set ?_ GE130.out) | exact HB.out)⟩
                (try clear HO_5)
                (try clear BK130)
                (try clear HB)
                generalize (((w56.setCell ⟨gb130, 0, none⟩ (.int .i64 ((rd_T77 l1 x8_1).f0))).setCell ⟨gb130, 1, none⟩ (.int .i64 ((rd_T77 l1 x8_1).f1))).setCell ⟨gb130, 2, none⟩ (.int .i64 ((rd_T77 l1 x8_1).f2))) = w58 at n0_ n1_ n2_ ⊢
                have HO_5 := n0_
                have BK130 := n1_
                have HB := n2_
                clear n0_ n1_ n2_
                have n0_ := Aside0.mk (Kd.R_drew HO_5.out)
                have n1_ := Aside0.mk (blk_drew BK130.out)
                have n2_ := Aside0.mk (below_drew1 HB.out)
                clear HO_5
                clear BK130
                clear HB
                have HO_5 := n0_
                have BK130 := n1_
                have HB := n2_
                clear n0_ n1_ n2_
                have p132 : 0 ≤ (((rd_T77 l1 x8_1).f0) : Int) := of_decide_eq_true (by first | (with_reducible assumption) | assumption)
                have q132 : ((rd_T77 l1 x8_1).f0) < (l0.length : Int) := of_decide_eq_true (by first | (with_reducible assumption) | assumption)
                obtain ⟨ad132, e132, hx132_0, hx132_1, hx132_2, hx132_3⟩ := at_T59 HR0.out ((rd_T77 l1 x8_1).f0) p132 q132
                have hw132_3 := hx132_3
                have hw132_2 := hx132_2
                have hw132_1 := hx132_1
                have hw132_0 := hx132_0
                cases e132
                replace hx132_0 := (HB.out.cell (World.block_lt_of_cell? w _ hx132_0)).trans hx132_0
                replace hx132_1 := (HB.out.cell (World.block_lt_of_cell? w _ hx132_1)).trans hx132_1
                replace hx132_2 := (HB.out.cell (World.block_lt_of_cell? w _ hx132_2)).trans hx132_2
                replace hx132_3 := (HB.out.cell (World.block_lt_of_cell? w _ hx132_3)).trans hx132_3
                replace p132 := eq_true p132
                replace q132 := eq_true q132
                refine start_ (n := 46) (S := fun w' => w'.cell? ⟨gb130, 0, none⟩ = some (.int .i64 ((rd_T77 l1 x8_1).f0)) ∧ w'.cell? ⟨gb130, 1, none⟩ = some (.int .i64 ((rd_T77 l1 x8_1).f1)) ∧ w'.cell? ⟨gb130, 2, none⟩ = some (.int .i64 ((rd_T77 l1 x8_1).f2)) ∧ w'.cell? (ad132.add ((((rd_T77 l1 x8_1).f0)).toNat * 4)) = some (.int .i64 ((rd_T59 l0 ((rd_T77 l1 x8_1).f0)).f0)) ∧ w'.cell? ⟨(ad132.add ((((rd_T77 l1 x8_1).f0)).toNat * 4)).block, (ad132.add ((((rd_T77 l1 x8_1).f0)).toNat * 4)).off + 1, none⟩ = some (.int .i64 ((rd_T59 l0 ((rd_T77 l1 x8_1).f0)).f1)) ∧ w'.cell? ⟨(ad132.add ((((rd_T77 l1 x8_1).f0)).toNat * 4)).block, (ad132.add ((((rd_T77 l1 x8_1).f0)).toNat * 4)).off + 2, none⟩ = some (.int .i64 ((rd_T59 l0 ((rd_T77 l1 x8_1).f0)).f2)) ∧ w'.cell? ⟨(ad132.add ((((rd_T77 l1 x8_1).f0)).toNat * 4)).block, (ad132.add ((((rd_T77 l1 x8_1).f0)).toNat * 4)).off + 3, none⟩ = some (.int .i64 ((rd_T59 l0 ((rd_T77 l1 x8_1).f0)).f3))) (ds := []) (bA 46 0) (by kernel_rfl) rfl rfl ⟨(blk_cell BK130.out 0).trans rfl, (blk_cell BK130.out 1).trans rfl, (blk_cell BK130.out 2).trans rfl, ((HB.out.cell (World.block_lt_of_cell? w _ hw132_0)).trans hw132_0), ((HB.out.cell (World.block_lt_of_cell? w _ hw132_1)).trans hw132_1), ((HB.out.cell (World.block_lt_of_cell? w _ hw132_2)).trans hw132_2), ((HB.out.cell (World.block_lt_of_cell? w _ hw132_3)).trans hw132_3)⟩ (fun hHeld => ?_); refine with_tabW spec_l5Split.tab7 spec_l5Split.bits7 (fun HT_ HW_ => ?_)
                generalize w58.drew = w59 at HO_5 BK130 HB hx132_0 hx132_1 hx132_2 hx132_3 hHeld ⊢
                refine pU 0 24 (bA 46 1) ?_
                refine pU 1 25 (bA 46 3) ?_
                refine tU 2 26 (bA 46 7) ?_
                refine one_ (i := 3) (N := some 27) (bA 46 15) rfl rfl (one_of HT_.out (by kernel_rfl)) (by decide) (fun K hK => ?_)
                refine goes_ Try.func145 (by kernel_rfl) rfl #[.slice (some ad132) l0.length c0, .int .i64 ((rd_T77 l1 x8_1).f0)] (by rfl) rfl rfl (by (try simp only [List.map_toArray, List.map_cons, List.map_nil]); first | done | rfl | (simp only [List.length_drop, List.length_take]; rfl)) ?_
                with_reducible refine (spec_l3Job.calls _ _ l0 ((rd_T77 l1 x8_1).f0) true _ ?side1 ?side2 A9.out).mono ?_
                (case side1 => repeat (first | exact (Kd.C_below HR0.out HB.out) | (with_reducible refine Kd.C_alloc ?_ _) | (with_reducible refine Kd.C_drewN ?_ _) | (with_reducible refine Kd.C_drew ?_)))
                (case side2 => exact HC0.out)
                rintro e w' ⟨rfl, ⟨nd, rfl⟩⟩
                refine ⟨_, rfl, ?_⟩
                refine hK.out _ _ ⟨(blk_cell BK130.out 0).trans rfl, (blk_cell BK130.out 1).trans rfl, (blk_cell BK130.out 2).trans rfl, ((HB.out.cell (World.block_lt_of_cell? w _ hw132_0)).trans hw132_0), ((HB.out.cell (World.block_lt_of_cell? w _ hw132_1)).trans hw132_1), ((HB.out.cell (World.block_lt_of_cell? w _ hw132_2)).trans hw132_2), ((HB.out.cell (World.block_lt_of_cell? w _ hw132_3)).trans hw132_3)⟩ (fun hHeld => ?_)
                clear hK K
                refine norm_ (a' := ?_) ?_ ?_
                rotate_left
                ·show Act.put _ (some 27) _ = _
                 simp only [Act.put, sA, sZ, sS, i64_w, i32_w]
                 rfl
                refine pU 4 28 (bA 46 31) ?_
                refine pU 5 29 (bA 46 63) ?_
                refine pU 6 30 (bA 46 127) ?_
                refine pU 8 32 (bA 46 383) ?_
                refine tU 7 31 (bA 46 511) ?_
                refine pU 9 33 (bA 46 1023) ?_
                refine pU 10 34 (bA 46 2047) ?_
                refine pU 11 35 (bA 46 4095) ?_
                refine pU 12 36 (bA 46 8191) ?_
                refine pU 14 38 (bA 46 24575) ?_
                refine pU 15 39 (bA 46 57343) ?_
                refine tU 13 37 (bA 46 65535) ?_
                refine tU 16 40 (bA 46 131071) ?_
                refine pU 17 41 (bA 46 262143) ?_
                refine pU 18 42 (bA 46 524287) ?_
                refine tU 19 43 (bA 46 1048575) ?_
                refine pU 20 44 (bA 46 2097151) ?_
                refine pU 21 45 (bA 46 4194303) ?_
                refine pU 22 46 (bA 46 8388607) ?_
                refine pU 23 47 (bA 46 16777215) ?_
                refine pU 25 49 (bA 46 50331647) ?_
                refine tU 24 48 (bA 46 67108863) ?_
                refine tU 26 50 (bA 46 134217727) ?_
                refine pU 27 51 (bA 46 268435455) ?_
                refine pU 28 52 (bA 46 536870911) ?_
                refine pU 29 53 (bA 46 1073741823) ?_
                refine pU 30 54 (bA 46 2147483647) ?_
                refine pU 32 56 (bA 46 6442450943) ?_
                refine tU 31 55 (bA 46 8589934591) ?_
                refine pU 33 57 (bA 46 17179869183) ?_
                refine pU 34 58 (bA 46 34359738367) ?_
                refine nU 35 59 (bA 46 68719476735) ?_
                refine nU 36 60 (bA 46 137438953471) ?_
                refine nU 37 61 (bA 46 274877906943) ?_
                refine nU 38 62 (bA 46 549755813887) ?_
                refine pU 39 63 (bA 46 1099511627775) ?_
                refine pU 40 64 (bA 46 2199023255551) ?_
                refine pU 41 65 (bA 46 4398046511103) ?_
                refine pU 42 66 (bA 46 8796093022207) ?_
                refine tU 43 67 (bA 46 17592186044415) ?_
                refine pU 44 68 (bA 46 35184372088831) ?_
                refine pU 45 69 (bA 46 70368744177663) ?_
                refine done_ (done_of HT_.out (by kernel_rfl)) ?_
                try go_wp2
                (try (rw [drewN_self w59]; generalize hq_ : World.drewN w59 _ = w59; have n0_ : Aside0 (Kd.R (Kd.int .i64) 3 w59 w.heap.size (fun _ => True) v127 x5_1) := ⟨by rw [← hq_]; exact (by (with_reducible repeat (first | apply Kd.R_alloc | apply Kd.R_drewN | apply Kd.R_drew)); exact HO_5.out)⟩; have n1_ : Aside0 (w59.heap[gb130]? = some (.cells #[.int .i64 ((rd_T77 l1 x8_1).f0), .int .i64 ((rd_T77 l1 x8_1).f1), .int .i64 ((rd_T77 l1 x8_1).f2)] 77 (0, 0))) := ⟨by rw [← hq_]; exact (by (with_reducible repeat (first | refine blk_drewN ?_ _ | refine blk_drew ?_ | refine blk_alloc ?_ _)); exact BK130.out)⟩; have n2_ : Aside0 (Below w.heap.size w w59) := ⟨by rw [← hq_]; exact (by repeat (first | (with_reducible first | exact HB.out | apply below_alloc | apply pw_below_drewN | apply below_drew1 | refine below_set ?_ GE130.out) | exact HB.out))⟩; clear HO_5 BK130 HB hq_; have HO_5 := n0_; have BK130 := n1_; have HB := n2_; clear n0_ n1_ n2_))
                have n0_ := Aside0.mk (Kd.R_drew HO_5.out)
                have n1_ := Aside0.mk (blk_drew BK130.out)
                have n2_ := Aside0.mk (below_drew1 HB.out)
                clear HO_5
                clear BK130
                clear HB
                have HO_5 := n0_
                have BK130 := n1_
                have HB := n2_
                clear n0_ n1_ n2_
                obtain ⟨Ao61, co61, eo61⟩ := Kd.R_slice HO_5.out
                (first | subst eo61 | (injection eo61 with f1_ f2_ f3_; have f4_ := f1_.symm; have f5_ := f3_.symm; clear f1_ f2_ f3_; subst f4_; subst f5_))
                have p135 : 0 ≤ (((rd_T77 l1 x8_1).f0) : Int) := of_decide_eq_true (by first | (with_reducible assumption) | assumption)
                have q135 : ((rd_T77 l1 x8_1).f0) < (x5_1.length : Int) := of_decide_eq_true (by first | (with_reducible assumption) | assumption)
                obtain ⟨ad135, e135, hx135_0⟩ := Kd.at_int (Kd.R_reads' HO_5.out).2.2 ((rd_T77 l1 x8_1).f0) p135 q135
                cases e135
                replace p135 := eq_true p135
                replace q135 := eq_true q135
                have p55 : 0 ≤ (((rd_T77 l1 x8_1).f0) : Int) := of_decide_eq_true (by first | (with_reducible assumption) | assumption)
                have q55 : (((rd_T77 l1 x8_1).f0) : Int) < ((x5_1.length : Int) : Int) := of_decide_eq_true (by first | (with_reducible assumption) | assumption)
                obtain ⟨go55, co55, eo55, gb55, gl55, cl55, HG55⟩ := Kd.R_form HO_5.out (by omega)
                (first | cases eo55 | (injection eo55 with ea_ en_ ec_; (first | subst ea_ | (injection ea_ with ea_; subst ea_)); subst ec_; clear en_))
                have GB55 := Aside0.mk gb55
                have GG55 := Aside0.mk HG55
                clear gb55 gl55 HG55
                (first | simp only [add_plain] at hx135_0 | skip)
                obtain ⟨hx55_0, hf55_0⟩ := Kd.R_celln 0 HO_5.out (((rd_T77 l1 x8_1).f0) : Int) p55 q55
                replace p55 := eq_true p55
                replace q55 := eq_true q55
                have HP62 := Kd.R_putn HO_5.out (((rd_T77 l1 x8_1).f0) : Int) (wrap64 ((wrap64 ((rd x5_1 ((rd_T77 l1 x8_1).f0)) + ((rd_T77 l1 x8_1).f2))) - ((rd_T77 l1 x8_1).f1)))
                rw [← Ny136.out] at HP62
                have HQ62 := Aside0.mk HP62
                clear HP62
                refine start_ (n := 16) (S := fun w' => w'.cell? ⟨gb130, 0, none⟩ = some (.int .i64 ((rd_T77 l1 x8_1).f0)) ∧ w'.cell? ⟨gb130, 1, none⟩ = some (.int .i64 ((rd_T77 l1 x8_1).f1)) ∧ w'.cell? ⟨gb130, 2, none⟩ = some (.int .i64 ((rd_T77 l1 x8_1).f2)) ∧ w'.cell? ⟨go55, (((rd_T77 l1 x8_1).f0)).toNat, none⟩ = some (.int .i64 (rd x5_1 ((rd_T77 l1 x8_1).f0)))) (ds := [15]) (bA 16 0) (by kernel_rfl) rfl rfl ⟨(blk_cell BK130.out 0).trans rfl, (blk_cell BK130.out 1).trans rfl, (blk_cell BK130.out 2).trans rfl, hx135_0⟩ (fun hHeld => ?_); refine with_tabW spec_l5Split.tab9 spec_l5Split.bits9 (fun HT_ HW_ => ?_)
                generalize w59.drew = w60 at HO_5 BK130 HB GG55 HQ62 hf55_0 hx135_0 hx55_0 hHeld ⊢
                refine pU 0 70 (bA 16 1) ?_
                refine pU 1 71 (bA 16 3) ?_
                refine pU 3 73 (bA 16 11) ?_
                refine pU 4 74 (bA 16 27) ?_
                refine pU 8 78 (bA 16 283) ?_
                refine pU 11 81 (bA 16 2331) ?_
                refine tU 2 72 (bA 16 2335) ?_
                refine tU 5 75 (bA 16 2367) ?_
                refine pU 6 76 (bA 16 2431) ?_
                refine tU 7 77 (bA 16 2559) ?_
                refine tU 9 79 (bA 16 3071) ?_
                refine pU 10 80 (bA 16 4095) ?_
                refine tU 12 82 (bA 16 8191) ?_
                refine pU 13 83 (bA 16 16383) ?_
                refine pU 14 84 (bA 16 32767) ?_
                refine last_ (i := 15) (N := none) (bA 16 65535) rfl rfl (one_of HT_.out (by kernel_rfl)) (by decide) (fun K hK => ?_)
                refine skip_ (w1 := ?_) (by rfl) rfl ?_ ?_
                rotate_left
                ·go_simp
                 rfl
                refine hK.out _ _ ?_
                clear hK K
                refine done_ (done_of HT_.out (by kernel_rfl)) ?_
                have hcz63_0 : ∀ u_, (w60.setCell ⟨go55, (((rd_T77 l1 x8_1).f0) : Int).toNat, none⟩ u_).cell? ⟨gb130, 0, none⟩ = some (.int .i64 ((rd_T77 l1 x8_1).f0)) := fun u_ => (blk_cell (blk_far BK130.out (by obtain ⟨cs_, ho_, _⟩ := HO_5.out.2; intro e_; exact absurd (by rw [e_]; rfl) (own_ne ho_ BK130.out (by decide))) u_) 0).trans rfl
                have hcz63_1 : ∀ u_, (w60.setCell ⟨go55, (((rd_T77 l1 x8_1).f0) : Int).toNat, none⟩ u_).cell? ⟨gb130, 1, none⟩ = some (.int .i64 ((rd_T77 l1 x8_1).f1)) := fun u_ => (blk_cell (blk_far BK130.out (by obtain ⟨cs_, ho_, _⟩ := HO_5.out.2; intro e_; exact absurd (by rw [e_]; rfl) (own_ne ho_ BK130.out (by decide))) u_) 1).trans rfl
                have hcz63_2 : ∀ u_, (w60.setCell ⟨go55, (((rd_T77 l1 x8_1).f0) : Int).toNat, none⟩ u_).cell? ⟨gb130, 2, none⟩ = some (.int .i64 ((rd_T77 l1 x8_1).f2)) := fun u_ => (blk_cell (blk_far BK130.out (by obtain ⟨cs_, ho_, _⟩ := HO_5.out.2; intro e_; exact absurd (by rw [e_]; rfl) (own_ne ho_ BK130.out (by decide))) u_) 2).trans rfl
                have hfz63_0 := fun u_ => blk_frozen (blk_far (p := ⟨go55, (((rd_T77 l1 x8_1).f0) : Int).toNat, none⟩) BK130.out (by obtain ⟨cs_, ho_, _⟩ := HO_5.out.2; intro e_; exact absurd (by rw [e_]; rfl) (own_ne ho_ BK130.out (by decide))) u_) 0
                have hfz63_1 := fun u_ => blk_frozen (blk_far (p := ⟨go55, (((rd_T77 l1 x8_1).f0) : Int).toNat, none⟩) BK130.out (by obtain ⟨cs_, ho_, _⟩ := HO_5.out.2; intro e_; exact absurd (by rw [e_]; rfl) (own_ne ho_ BK130.out (by decide))) u_) 1
                have hfz63_2 := fun u_ => blk_frozen (blk_far (p := ⟨go55, (((rd_T77 l1 x8_1).f0) : Int).toNat, none⟩) BK130.out (by obtain ⟨cs_, ho_, _⟩ := HO_5.out.2; intro e_; exact absurd (by rw [e_]; rfl) (own_ne ho_ BK130.out (by decide))) u_) 2
                try go_wp2
                go_roundg k1
                case measure => have := HK1.out; omega
                case rel => exact ⟨(y136), ((rd_T77 l1 x8_1).f2), ((rd_T77 l1 x8_1).f0), (wrap64 (x8_1 + 1)), (by first | rfl | (simp; done) | (simp [*]; done)), (by first | rfl | (simp; done) | (simp [*]; done)), (by first | rfl | (simp; done) | (simp [*]; done)), H', ⟨by have := HK1.out; omega⟩, ⟨by (with_reducible repeat (first | apply Kd.R_alloc | apply Kd.R_drewN | apply Kd.R_drew)); exact HQ62.out⟩, ⟨by repeat (first | (with_reducible first | exact HB.out | apply below_alloc | apply pw_below_drewN | apply below_drew1 | refine below_set ?_ GB55.out | refine below_set ?_ GE130.out) | exact HB.out)⟩⟩
               ·rw [if_neg c54] at H
                exact absurd H (by simp)
          ·rw [if_neg c17] at H
           exact absurd H (by simp)
         ·rw [if_neg c16] at H
          exact absurd H (by simp)
       ·replace c10 := Bool.eq_false_iff.mpr c10
        subst c10
        have H1 : (some false) = some r := by rw [if_neg (show ¬ (false = true) by decide)] at H; exact H
        clear H
        have H := H1
        clear H1
        obtain rfl := Option.some.inj H
        have p129 : 0 ≤ (x8_1 : Int) := of_decide_eq_true (by first | (with_reducible assumption) | assumption)
        have q129 : x8_1 < (l1.length : Int) := of_decide_eq_true (by first | (with_reducible assumption) | assumption)
        obtain ⟨ad129, e129, hx129_0, hx129_1, hx129_2⟩ := at_T77 HR1.out x8_1 p129 q129
        cases e129
        replace hx129_0 := (HB.out.cell (World.block_lt_of_cell? w _ hx129_0)).trans hx129_0
        replace hx129_1 := (HB.out.cell (World.block_lt_of_cell? w _ hx129_1)).trans hx129_1
        replace hx129_2 := (HB.out.cell (World.block_lt_of_cell? w _ hx129_2)).trans hx129_2
        replace p129 := eq_true p129
        replace q129 := eq_true q129
        try go_wp2_with (first | ((with_reducible refine gate_dst (N := 9) rfl ?_); refine box_event ?hg (N := 9) ?hd (cs := #[.int .i64 0, .int .i64 0, .int .i64 0]) (t := 77) ?hr ?_; (case hd => rfl); (case hg => rfl); (case hr => first | (go_simp; done) | (go_simp; rfl)); intro gb130 hg w64 hbox hb; have n0_ := Aside0.mk (Kd.R_below (by (with_reducible repeat (first | apply Kd.R_alloc | apply Kd.R_drewN | apply Kd.R_drew)); exact HO_5.out) hb); have n1_ := Aside0.mk (below_step (by repeat (first | (with_reducible first | exact HB.out | apply below_alloc | apply pw_below_drewN | apply below_drew1) | exact HB.out)) hb); have n2_ := Aside0.mk (hbox); have n3_ := Aside0.mk ((by rw [hg]; exact (below_size (by repeat (first | (with_reducible first | exact HB.out | apply below_alloc | apply pw_below_drewN | apply below_drew1) | exact HB.out))) : w.heap.size ≤ gb130)); have n4_ := Aside0.mk ((by rw [hg]; exact (below_size (by repeat (first | (with_reducible first | exact HB.out | apply below_alloc | apply pw_below_drewN | apply below_drew1) | exact HB.out))) : w.heap.size ≤ gb130)); clear HO_5; clear HB; have HO_5 := n0_; have HB := n1_; have BK130 := n2_; have GW130 := n3_; have GE130 := n4_; clear n0_ n1_ n2_ n3_ n4_; clear hb hbox hg; have hcz65_0 : w64.cell? ⟨gb130, 0, none⟩ = some (.int .i64 0) := (blk_cell BK130.out 0).trans rfl; have hcz65_1 : w64.cell? ⟨gb130, 1, none⟩ = some (.int .i64 0) := (blk_cell BK130.out 1).trans rfl; have hcz65_2 : w64.cell? ⟨gb130, 2, none⟩ = some (.int .i64 0) := (blk_cell BK130.out 2).trans rfl; have hfz65_0 := blk_frozen BK130.out 0; have hfz65_1 := blk_frozen BK130.out 1; have hfz65_2 := blk_frozen BK130.out 2))
        have n0_ : Aside0 (Kd.R (Kd.int .i64) 3 (((w64.setCell ⟨gb130, 0, none⟩ (.int .i64 ((rd_T77 l1 x8_1).f0))).setCell ⟨gb130, 1, none⟩ (.int .i64 ((rd_T77 l1 x8_1).f1))).setCell ⟨gb130, 2, none⟩ (.int .i64 ((rd_T77 l1 x8_1).f2))) w.heap.size (fun _ => True) v127 x5_1) := ⟨by (with_reducible repeat (first | apply Kd.R_alloc | apply Kd.R_drewN | apply Kd.R_drew)); exact Kd.R_mono (Kd.R_far (p := ⟨gb130, 2, none⟩) (Kd.R_far (p := ⟨gb130, 1, none⟩) (Kd.R_far (p := ⟨gb130, 0, none⟩) (Kd.R_types HO_5.out BK130.out (by decide)) (fun _ hk => hk.2) (.int .i64 ((rd_T77 l1 x8_1).f0))) (fun _ hk => hk.2) (.int .i64 ((rd_T77 l1 x8_1).f1))) (fun _ hk => hk.2) (.int .i64 ((rd_T77 l1 x8_1).f2))) (fun _ hk => trivial)⟩
        have n1_ : Aside0 ((((w64.setCell ⟨gb130, 0, none⟩ (.int .i64 ((rd_T77 l1 x8_1).f0))).setCell ⟨gb130, 1, none⟩ (.int .i64 ((rd_T77 l1 x8_1).f1))).setCell ⟨gb130, 2, none⟩ (.int .i64 ((rd_T77 l1 x8_1).f2))).heap[gb130]? = some (.cells #[.int .i64 ((rd_T77 l1 x8_1).f0), .int .i64 ((rd_T77 l1 x8_1).f1), .int .i64 ((rd_T77 l1 x8_1).f2)] 77 (0, 0))) := ⟨by (with_reducible repeat (first | refine blk_drewN ?_ _ | refine blk_drew ?_ | refine blk_alloc ?_ _)); refine blk_put (cs := #[.int .i64 ((rd_T77 l1 x8_1).f0), .int .i64 ((rd_T77 l1 x8_1).f1), .int .i64 0]) ?_ 2 _ rfl; (with_reducible repeat (first | refine blk_drewN ?_ _ | refine blk_drew ?_ | refine blk_alloc ?_ _)); refine blk_put (cs := #[.int .i64 ((rd_T77 l1 x8_1).f0), .int .i64 0, .int .i64 0]) ?_ 1 _ rfl; (with_reducible repeat (first | refine blk_drewN ?_ _ | refine blk_drew ?_ | refine blk_alloc ?_ _)); refine blk_put (cs := #[.int .i64 0, .int .i64 0, .int .i64 0]) ?_ 0 _ rfl; (with_reducible repeat (first | refine blk_drewN ?_ _ | refine blk_drew ?_ | refine blk_alloc ?_ _)); exact BK130.out⟩
        have n2_ : Aside0 (Below w.heap.size w (((w64.setCell ⟨gb130, 0, none⟩ (.int .i64 ((rd_T77 l1 x8_1).f0))).setCell ⟨gb130, 1, none⟩ (.int .i64 ((rd_T77 l1 x8_1).f1))).setCell ⟨gb130, 2, none⟩ (.int .i64 ((rd_T77 l1 x8_1).f2)))) := ⟨by repeat (first | (with_reducible first | exact HB.out | apply below_alloc | apply pw_below_drewN | apply below_drew1 | refine below_set ?_ GE130.out) | exact HB.out)⟩
        (try clear HO_5)
        (try clear BK130)
        (try clear HB)
        generalize (((w64.setCell ⟨gb130, 0, none⟩ (.int .i64 ((rd_T77 l1 x8_1).f0))).setCell ⟨gb130, 1, none⟩ (.int .i64 ((rd_T77 l1 x8_1).f1))).setCell ⟨gb130, 2, none⟩ (.int .i64 ((rd_T77 l1 x8_1).f2))) = w66 at n0_ n1_ n2_ ⊢
        have HO_5 := n0_
        have BK130 := n1_
        have HB := n2_
        clear n0_ n1_ n2_
        have n0_ := Aside0.mk (Kd.R_drew HO_5.out)
        have n1_ := Aside0.mk (blk_drew BK130.out)
        have n2_ := Aside0.mk (below_drew1 HB.out)
        clear HO_5
        clear BK130
        clear HB
        have HO_5 := n0_
        have BK130 := n1_
        have HB := n2_
        clear n0_ n1_ n2_
        refine start_ (n := 46) (S := fun w' => w'.cell? ⟨gb130, 0, none⟩ = some (.int .i64 ((rd_T77 l1 x8_1).f0)) ∧ w'.cell? ⟨gb130, 1, none⟩ = some (.int .i64 ((rd_T77 l1 x8_1).f1)) ∧ w'.cell? ⟨gb130, 2, none⟩ = some (.int .i64 ((rd_T77 l1 x8_1).f2))) (ds := []) (bA 46 0) (by kernel_rfl) rfl rfl ⟨(blk_cell BK130.out 0).trans rfl, (blk_cell BK130.out 1).trans rfl, (blk_cell BK130.out 2).trans rfl⟩ (fun hHeld => ?_); refine with_tabW spec_l5Split.tab7 spec_l5Split.bits7 (fun HT_ HW_ => ?_)
        generalize w66.drew = w67 at HO_5 BK130 HB hHeld ⊢
        refine pU 0 24 (bA 46 1) ?_
        refine pU 1 25 (bA 46 3) ?_
        refine tU 2 26 (bA 46 7) ?_
        refine one_ (i := 3) (N := some 27) (bA 46 15) rfl rfl (one_of HT_.out (by kernel_rfl)) (by decide) (fun K hK => ?_)
        refine goes_ Try.func145 (by kernel_rfl) rfl #[.slice A0 l0.length c0, .int .i64 ((rd_T77 l1 x8_1).f0)] (by rfl) rfl rfl (by (try simp only [List.map_toArray, List.map_cons, List.map_nil]); first | done | rfl | (simp only [List.length_drop, List.length_take]; rfl)) ?_
        with_reducible refine (spec_l3Job.calls _ _ l0 ((rd_T77 l1 x8_1).f0) false _ ?side1 ?side2 A9.out).mono ?_
        (case side1 => repeat (first | exact (Kd.C_below HR0.out HB.out) | (with_reducible refine Kd.C_alloc ?_ _) | (with_reducible refine Kd.C_drewN ?_ _) | (with_reducible refine Kd.C_drew ?_)))
        (case side2 => exact HC0.out)
        rintro e w' ⟨rfl, ⟨nd, rfl⟩⟩
        refine ⟨_, rfl, ?_⟩
        refine hK.out _ _ ⟨(blk_cell BK130.out 0).trans rfl, (blk_cell BK130.out 1).trans rfl, (blk_cell BK130.out 2).trans rfl⟩ (fun hHeld => ?_)
        clear hK K
        refine norm_ (a' := ?_) ?_ ?_
        rotate_left
        ·show Act.put _ (some 27) _ = _
         simp only [Act.put, sA, sZ, sS, i64_w, i32_w]
         rfl
        refine pU 4 28 (bA 46 31) ?_
        refine pU 5 29 (bA 46 63) ?_
        refine nU 6 30 (bA 46 127) ?_
        refine nU 7 31 (bA 46 255) ?_
        refine nU 8 32 (bA 46 511) ?_
        refine nU 9 33 (bA 46 1023) ?_
        refine pU 10 34 (bA 46 2047) ?_
        refine pU 11 35 (bA 46 4095) ?_
        refine nU 12 36 (bA 46 8191) ?_
        refine nU 13 37 (bA 46 16383) ?_
        refine nU 14 38 (bA 46 32767) ?_
        refine nU 15 39 (bA 46 65535) ?_
        refine nU 16 40 (bA 46 131071) ?_
        refine nU 17 41 (bA 46 262143) ?_
        refine nU 18 42 (bA 46 524287) ?_
        refine nU 19 43 (bA 46 1048575) ?_
        refine nU 20 44 (bA 46 2097151) ?_
        refine pU 21 45 (bA 46 4194303) ?_
        refine pU 22 46 (bA 46 8388607) ?_
        refine nU 23 47 (bA 46 16777215) ?_
        refine nU 24 48 (bA 46 33554431) ?_
        refine nU 25 49 (bA 46 67108863) ?_
        refine nU 26 50 (bA 46 134217727) ?_
        refine nU 27 51 (bA 46 268435455) ?_
        refine pU 28 52 (bA 46 536870911) ?_
        refine pU 29 53 (bA 46 1073741823) ?_
        refine nU 30 54 (bA 46 2147483647) ?_
        refine nU 31 55 (bA 46 4294967295) ?_
        refine nU 32 56 (bA 46 8589934591) ?_
        refine nU 33 57 (bA 46 17179869183) ?_
        refine nU 34 58 (bA 46 34359738367) ?_
        refine nU 35 59 (bA 46 68719476735) ?_
        refine nU 36 60 (bA 46 137438953471) ?_
        refine nU 37 61 (bA 46 274877906943) ?_
        refine nU 38 62 (bA 46 549755813887) ?_
        refine nU 39 63 (bA 46 1099511627775) ?_
        refine pU 40 64 (bA 46 2199023255551) ?_
        refine pU 41 65 (bA 46 4398046511103) ?_
        refine nU 42 66 (bA 46 8796093022207) ?_
        refine nU 43 67 (bA 46 17592186044415) ?_
        refine nU 44 68 (bA 46 35184372088831) ?_
        refine pU 45 69 (bA 46 70368744177663) ?_
        refine done_ (done_of HT_.out (by kernel_rfl)) ?_
        try go_wp2
        go_ret
        exact ⟨by first | rfl | (simp [errW_none, errW_some] <;> rfl) | (simp [*, errW_none, errW_some] <;> rfl), by repeat (first | (with_reducible first | exact HB.out | apply below_alloc | apply pw_below_drewN | apply below_drew1 | refine below_set ?_ GE130.out) | exact HB.out)⟩
      ·rw [if_neg c8] at H
       exact absurd H (by simp)
     ·rw [if_neg c7] at H
      have c7b0 : decide (x8_1 < (l1.length : Int)) = false := decide_eq_false c7
      clear c7
      have H' := Aside0.mk H
      clear H
      go_wp2
      go_loopg [10] k1 (fun kq v10 w' => ∃ (x10_2 : Int), v10 = .int .i64 x10_2 ∧ Aside0 (spec_l5Split.l1 kq l0 x5_1 x10_2 = some r) ∧ Aside0 (kq ≤ k1) ∧ Aside0 (Kd.R (Kd.int .i64) 3 w' w.heap.size (fun _ => True) v127 x5_1) ∧ Aside0 (Below w.heap.size w w'))
      case atStart => exact ⟨(0), (by first | rfl | (simp; done) | (simp [*]; done)), H', ⟨Nat.le_refl _⟩, ⟨by (with_reducible repeat (first | apply Kd.R_alloc | apply Kd.R_drewN | apply Kd.R_drew)); exact HO_5.out⟩, ⟨by repeat (first | (with_reducible first | exact HB.out | apply below_alloc | apply pw_below_drewN | apply below_drew1) | exact HB.out)⟩⟩
      case round =>
       clear H'
       try clear c1
       try clear p1
       try clear q1
       try clear hx1
       try clear p2
       try clear c5
       try clear p5
       try clear q5
       try clear hx5
       try clear hf5
       try clear p6
       try clear c7
       try clear c7b0
       try clear c8
       try clear c10
       try clear p12
       try clear q12
       try clear hx12
       try clear p13
       try clear q13
       try clear hx13
       try clear c14
       try clear c16
       try clear c17
       try clear c54
       try clear p55
       try clear q55
       try clear hx55
       try clear hf55
       try clear p64
       try clear hcz63_0
       try clear hcz63_1
       try clear hcz63_2
       try clear hcz65_0
       try clear hcz65_1
       try clear hcz65_2
       try clear hfz63_0
       try clear hfz63_1
       try clear hfz63_2
       try clear hfz65_0
       try clear hfz65_1
       try clear hfz65_2
       try clear hx129_0
       try clear hx129_1
       try clear hx129_2
       try clear hx135_0
       try clear hx55_0
       try clear p129
       try clear p135
       try clear p55
       try clear q129
       try clear q135
       try clear q55
       obtain ⟨x10_2, rfl, HA, HK2, HO_5, HB⟩ := hrel
       cases gk with
       | zero => exact absurd HA.out (by simp [spec_l5Split.l1])
       | succ k2 =>
        have H := HA.out
        clear HA
        simp only [spec_l5Split.l1] at H
        by_cases c68 : x10_2 < (l0.length : Int)
        ·rw [if_pos c68] at H
         have c68b0 : decide (x10_2 < (l0.length : Int)) = true := decide_eq_true c68
         clear c68
         by_cases c69 : 0 ≤ x10_2
         ·rw [if_pos c69] at H
          have c69b0 : decide (0 ≤ x10_2) = true := decide_eq_true c69
          clear c69
          by_cases c70 : x10_2 < (x5_1.length : Int)
          ·rw [if_pos c70] at H
           have c70b0 : decide (x10_2 < (x5_1.length : Int)) = true := decide_eq_true c70
           clear c70
           by_cases c71 : (rd x5_1 x10_2) = ((rd_T59 l0 x10_2).f0)
           ·rw [if_pos c71] at H
            have c71b0 : ((rd x5_1 x10_2) == ((rd_T59 l0 x10_2).f0)) = true := beq_iff_eq.mpr c71
            have c71b1 : ((rd x5_1 x10_2) != ((rd_T59 l0 x10_2).f0)) = false := bne_eq_false_iff_eq.mpr c71
            clear c71
            have H' := Aside0.mk H
            clear H
            try go_wp2
            have n0_ := Aside0.mk (Kd.R_drew HO_5.out)
            have n1_ := Aside0.mk (below_drew1 HB.out)
            clear HO_5
            clear HB
            have HO_5 := n0_
            have HB := n1_
            clear n0_ n1_
            obtain ⟨Ao73, co73, eo73⟩ := Kd.R_slice HO_5.out
            (first | subst eo73 | (injection eo73 with f1_ f2_ f3_; have f4_ := f1_.symm; have f5_ := f3_.symm; clear f1_ f2_ f3_; subst f4_; subst f5_))
            have p137 : 0 ≤ (x10_2 : Int) := of_decide_eq_true (by first | (with_reducible assumption) | assumption)
            have q137 : x10_2 < (x5_1.length : Int) := of_decide_eq_true (by first | (with_reducible assumption) | assumption)
            obtain ⟨ad137, e137, hx137_0⟩ := Kd.at_int (Kd.R_reads' HO_5.out).2.2 x10_2 p137 q137
            cases e137
            replace p137 := eq_true p137
            replace q137 := eq_true q137
            have p138 : 0 ≤ (x10_2 : Int) := of_decide_eq_true (by first | (with_reducible assumption) | assumption)
            have q138 : x10_2 < (l0.length : Int) := of_decide_eq_true (by first | (with_reducible assumption) | assumption)
            obtain ⟨ad138, e138, hx138_0, hx138_1, hx138_2, hx138_3⟩ := at_T59 HR0.out x10_2 p138 q138
            have hw138_3 := hx138_3
            have hw138_2 := hx138_2
            have hw138_1 := hx138_1
            have hw138_0 := hx138_0
            cases e138
            replace hx138_0 := (HB.out.cell (World.block_lt_of_cell? w _ hx138_0)).trans hx138_0
            replace hx138_1 := (HB.out.cell (World.block_lt_of_cell? w _ hx138_1)).trans hx138_1
            replace hx138_2 := (HB.out.cell (World.block_lt_of_cell? w _ hx138_2)).trans hx138_2
            replace hx138_3 := (HB.out.cell (World.block_lt_of_cell? w _ hx138_3)).trans hx138_3
            replace p138 := eq_true p138
            replace q138 := eq_true q138
            refine start_ (n := 10) (S := fun w' => w'.cell? (ad137.add (x10_2).toNat) = some (.int .i64 (rd x5_1 x10_2)) ∧ w'.cell? (ad138.add ((x10_2).toNat * 4)) = some (.int .i64 ((rd_T59 l0 x10_2).f0)) ∧ w'.cell? ⟨(ad138.add ((x10_2).toNat * 4)).block, (ad138.add ((x10_2).toNat * 4)).off + 1, none⟩ = some (.int .i64 ((rd_T59 l0 x10_2).f1)) ∧ w'.cell? ⟨(ad138.add ((x10_2).toNat * 4)).block, (ad138.add ((x10_2).toNat * 4)).off + 2, none⟩ = some (.int .i64 ((rd_T59 l0 x10_2).f2)) ∧ w'.cell? ⟨(ad138.add ((x10_2).toNat * 4)).block, (ad138.add ((x10_2).toNat * 4)).off + 3, none⟩ = some (.int .i64 ((rd_T59 l0 x10_2).f3))) (ds := []) #[false, false, false, false, false, false, false, false, false, false] (by kernel_rfl) rfl rfl ⟨hx137_0, ((HB.out.cell (World.block_lt_of_cell? w _ hw138_0)).trans hw138_0), ((HB.out.cell (World.block_lt_of_cell? w _ hw138_1)).trans hw138_1), ((HB.out.cell (World.block_lt_of_cell? w _ hw138_2)).trans hw138_2), ((HB.out.cell (World.block_lt_of_cell? w _ hw138_3)).trans hw138_3)⟩ (fun hHeld => ?_); refine with_tabW spec_l5Split.tab15 spec_l5Split.bits15 (fun HT_ HW_ => ?_)
            generalize wr.drew = w72 at HO_5 HB hx137_0 hx138_0 hx138_1 hx138_2 hx138_3 hHeld ⊢
            refine pU 0 95 #[true, false, false, false, false, false, false, false, false, false] ?_
            refine pU 1 96 #[true, true, false, false, false, false, false, false, false, false] ?_
            refine pU 2 97 #[true, true, true, false, false, false, false, false, false, false] ?_
            refine pU 4 99 #[true, true, true, false, true, false, false, false, false, false] ?_
            refine pU 5 100 #[true, true, true, false, true, true, false, false, false, false] ?_
            refine pU 6 101 #[true, true, true, false, true, true, true, false, false, false] ?_
            refine pU 7 102 #[true, true, true, false, true, true, true, true, false, false] ?_
            refine tU 3 98 #[true, true, true, true, true, true, true, true, false, false] ?_
            refine tU 8 103 #[true, true, true, true, true, true, true, true, true, false] ?_
            refine pU 9 104 #[true, true, true, true, true, true, true, true, true, true] ?_
            refine done_ (done_of HT_.out (by kernel_rfl)) ?_
            try go_wp2
            go_roundg k2
            case measure => have := HK1.out; have := HK2.out; omega
            case rel => exact ⟨(wrap64 (x10_2 + 1)), (by first | rfl | (simp; done) | (simp [*]; done)), H', ⟨by have := HK1.out; have := HK2.out; omega⟩, ⟨by (with_reducible repeat (first | apply Kd.R_alloc | apply Kd.R_drewN | apply Kd.R_drew)); exact HO_5.out⟩, ⟨by repeat (first | (with_reducible first | exact HB.out | apply below_alloc | apply pw_below_drewN | apply below_drew1) | exact HB.out)⟩⟩
           ·rw [if_neg c71] at H
            have c71b0 : ((rd x5_1 x10_2) == ((rd_T59 l0 x10_2).f0)) = false := beq_eq_false_iff_ne.mpr c71
            have c71b1 : ((rd x5_1 x10_2) != ((rd_T59 l0 x10_2).f0)) = true := bne_iff_ne.mpr c71
            obtain rfl := Option.some.inj H
            try go_wp2
            have n0_ := Aside0.mk (Kd.R_drew HO_5.out)
            have n1_ := Aside0.mk (below_drew1 HB.out)
            clear HO_5
            clear HB
            have HO_5 := n0_
            have HB := n1_
            clear n0_ n1_
            obtain ⟨Ao75, co75, eo75⟩ := Kd.R_slice HO_5.out
            (first | subst eo75 | (injection eo75 with f1_ f2_ f3_; have f4_ := f1_.symm; have f5_ := f3_.symm; clear f1_ f2_ f3_; subst f4_; subst f5_))
            have p137 : 0 ≤ (x10_2 : Int) := of_decide_eq_true (by first | (with_reducible assumption) | assumption)
            have q137 : x10_2 < (x5_1.length : Int) := of_decide_eq_true (by first | (with_reducible assumption) | assumption)
            obtain ⟨ad137, e137, hx137_0⟩ := Kd.at_int (Kd.R_reads' HO_5.out).2.2 x10_2 p137 q137
            cases e137
            replace p137 := eq_true p137
            replace q137 := eq_true q137
            have p138 : 0 ≤ (x10_2 : Int) := of_decide_eq_true (by first | (with_reducible assumption) | assumption)
            have q138 : x10_2 < (l0.length : Int) := of_decide_eq_true (by first | (with_reducible assumption) | assumption)
            obtain ⟨ad138, e138, hx138_0, hx138_1, hx138_2, hx138_3⟩ := at_T59 HR0.out x10_2 p138 q138
            have hw138_3 := hx138_3
            have hw138_2 := hx138_2
            have hw138_1 := hx138_1
            have hw138_0 := hx138_0
            cases e138
            replace hx138_0 := (HB.out.cell (World.block_lt_of_cell? w _ hx138_0)).trans hx138_0
            replace hx138_1 := (HB.out.cell (World.block_lt_of_cell? w _ hx138_1)).trans hx138_1
            replace hx138_2 := (HB.out.cell (World.block_lt_of_cell? w _ hx138_2)).trans hx138_2
            replace hx138_3 := (HB.out.cell (World.block_lt_of_cell? w _ hx138_3)).trans hx138_3
            replace p138 := eq_true p138
            replace q138 := eq_true q138
            refine start_ (n := 10) (S := fun w' => w'.cell? (ad137.add (x10_2).toNat) = some (.int .i64 (rd x5_1 x10_2)) ∧ w'.cell? (ad138.add ((x10_2).toNat * 4)) = some (.int .i64 ((rd_T59 l0 x10_2).f0)) ∧ w'.cell? ⟨(ad138.add ((x10_2).toNat * 4)).block, (ad138.add ((x10_2).toNat * 4)).off + 1, none⟩ = some (.int .i64 ((rd_T59 l0 x10_2).f1)) ∧ w'.cell? ⟨(ad138.add ((x10_2).toNat * 4)).block, (ad138.add ((x10_2).toNat * 4)).off + 2, none⟩ = some (.int .i64 ((rd_T59 l0 x10_2).f2)) ∧ w'.cell? ⟨(ad138.add ((x10_2).toNat * 4)).block, (ad138.add ((x10_2).toNat * 4)).off + 3, none⟩ = some (.int .i64 ((rd_T59 l0 x10_2).f3))) (ds := []) #[false, false, false, false, false, false, false, false, false, false] (by kernel_rfl) rfl rfl ⟨hx137_0, ((HB.out.cell (World.block_lt_of_cell? w _ hw138_0)).trans hw138_0), ((HB.out.cell (World.block_lt_of_cell? w _ hw138_1)).trans hw138_1), ((HB.out.cell (World.block_lt_of_cell? w _ hw138_2)).trans hw138_2), ((HB.out.cell (World.block_lt_of_cell? w _ hw138_3)).trans hw138_3)⟩ (fun hHeld => ?_); refine with_tabW spec_l5Split.tab15 spec_l5Split.bits15 (fun HT_ HW_ => ?_)
            generalize wr.drew = w74 at HO_5 HB hx137_0 hx138_0 hx138_1 hx138_2 hx138_3 hHeld ⊢
            refine pU 0 95 #[true, false, false, false, false, false, false, false, false, false] ?_
            refine pU 1 96 #[true, true, false, false, false, false, false, false, false, false] ?_
            refine pU 2 97 #[true, true, true, false, false, false, false, false, false, false] ?_
            refine pU 4 99 #[true, true, true, false, true, false, false, false, false, false] ?_
            refine pU 5 100 #[true, true, true, false, true, true, false, false, false, false] ?_
            refine pU 6 101 #[true, true, true, false, true, true, true, false, false, false] ?_
            refine pU 7 102 #[true, true, true, false, true, true, true, true, false, false] ?_
            refine tU 3 98 #[true, true, true, true, true, true, true, true, false, false] ?_
            refine tU 8 103 #[true, true, true, true, true, true, true, true, true, false] ?_
            refine pU 9 104 #[true, true, true, true, true, true, true, true, true, true] ?_
            refine done_ (done_of HT_.out (by kernel_rfl)) ?_
            try go_wp2
            go_ret
            exact ⟨by first | rfl | (simp [errW_none, errW_some] <;> rfl) | (simp [*, errW_none, errW_some] <;> rfl), by repeat (first | (with_reducible first | exact HB.out | apply below_alloc | apply pw_below_drewN | apply below_drew1) | exact HB.out)⟩
          ·rw [if_neg c70] at H
           exact absurd H (by simp)
         ·rw [if_neg c69] at H
          exact absurd H (by simp)
        ·rw [if_neg c68] at H
         have c68b0 : decide (x10_2 < (l0.length : Int)) = false := decide_eq_false c68
         clear c68
         obtain rfl := Option.some.inj H
         go_wp2
         go_ret
         exact ⟨by first | rfl | (simp [errW_none, errW_some] <;> rfl) | (simp [*, errW_none, errW_some] <;> rfl), by repeat (first | (with_reducible first | exact HB.out | apply below_alloc | apply pw_below_drewN | apply below_drew1) | exact HB.out)⟩
  ·rw [if_neg c4] at H
   exact absurd H (by simp)
 ·rw [if_neg c3] at H
  exact absurd H (by simp)

end Go.Proofs.Ythhmembnhnghiaa.OFnExactSplitValue
