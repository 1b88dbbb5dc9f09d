/- Functions of the program as plain Lean functions, with their contracts: written by this session's program ownprint.py. Conditions: none. -/
import Derived.Test.YtlhppclbokkfmaaOFnExactSidneyBlocksx0
namespace Go.Proofs.Ytlhppclbokkfmaa.OFnExactSidneyBlocks
open Go.RowKit Go.Proofs.YtlhppclbokkfmaaW.PrintWords Go.Proofs.YtlhppclbokkfmaaW.PrintLast Go.Proofs.YtlhppclbokkfmaaW.PrintMore
attribute [local go_sem] max2_int min2_int max_two min_two max_three min_three max_four min_four   -- for this text's walks alone
set_option linter.unusedVariables false
set_option linter.unusedSimpArgs false

/-! ### impl_closure: function 51 -/
mutual
def impl_closure.l0 : Nat → Int → List (S53) → List (List Bool) → Int → Int → Option ((List (List Bool)))
 | 0, _, _, _, _, _ => none
 | k + 1, x0, x1, x5, x15, x16 => if x16 < x15 then (if 0 ≤ x0 then (if (x0 : Int).toNat ≤ 281474976710656 then (if 0 ≤ x16 then (if x16 < (x5.length : Int) then (impl_closure.l0 k x0 x1 (x5.set (x16 : Int).toNat (List.replicate (x0 : Int).toNat false)) x15 (wrap64 (x16 + 1))) else (none)) else (none)) else (none)) else (none)) else (impl_closure.l1 k x0 x5 x1 (x1.length : Int) 0)
def impl_closure.l1 : Nat → Int → List (List Bool) → List (S53) → Int → Int → Option ((List (List Bool)))
 | 0, _, _, _, _, _ => none
 | k + 1, x0, x5, x25, x26, x27 => if x27 < x26 then (if 0 ≤ x27 then (if x27 < (x25.length : Int) then (if 0 ≤ ((rd_T53 x25 x27).f0) then (if ((rd_T53 x25 x27).f0) < (x5.length : Int) then (if 0 ≤ ((rd_T53 x25 x27).f1) then (if ((rd_T53 x25 x27).f1) < ((rd_L5 x5 ((rd_T53 x25 x27).f0)).length : Int) then (impl_closure.l1 k x0 (x5.set (((rd_T53 x25 x27).f0) : Int).toNat ((rd_L5 x5 ((rd_T53 x25 x27).f0)).set (((rd_T53 x25 x27).f1) : Int).toNat true)) x25 x26 (wrap64 (x27 + 1))) else (none)) else (none)) else (none)) else (none)) else (none)) else (none)) else (impl_closure.l2 k x0 x5 0)
def impl_closure.l2 : Nat → Int → List (List Bool) → Int → Option ((List (List Bool)))
 | 0, _, _, _ => none
 | k + 1, x0, x5, x9 => if x9 < x0 then (impl_closure.l3 k x0 x5 x9 0) else (some x5)
def impl_closure.l3 : Nat → Int → List (List Bool) → Int → Int → Option ((List (List Bool)))
 | 0, _, _, _, _ => none
 | k + 1, x0, x5, x9, x10 => if x10 < x0 then (impl_closure.l4 k x0 x5 x9 x10 0) else (impl_closure.l2 k x0 x5 (wrap64 (x9 + 1)))
def impl_closure.l4 : Nat → Int → List (List Bool) → Int → Int → Int → Option ((List (List Bool)))
 | 0, _, _, _, _, _ => none
 | k + 1, x0, x5, x9, x10, x11 => if x11 < x0 then (if 0 ≤ x10 then (if x10 < (x5.length : Int) then (if 0 ≤ x11 then (if x11 < ((rd_L5 x5 x10).length : Int) then (if rdOf false (rd_L5 x5 x10) x11 = true then (impl_closure.l4 k x0 (x5.set (x10 : Int).toNat ((rd_L5 x5 x10).set (x11 : Int).toNat true)) x9 x10 (wrap64 (x11 + 1))) else (if 0 ≤ x9 then (if x9 < ((rd_L5 x5 x10).length : Int) then (if rdOf false (rd_L5 x5 x10) x9 = true then (if x9 < (x5.length : Int) then (if x11 < ((rd_L5 x5 x9).length : Int) then (impl_closure.l4 k x0 (x5.set (x10 : Int).toNat ((rd_L5 x5 x10).set (x11 : Int).toNat (rdOf false (rd_L5 x5 x9) x11))) x9 x10 (wrap64 (x11 + 1))) else (none)) else (none)) else (impl_closure.l4 k x0 (x5.set (x10 : Int).toNat ((rd_L5 x5 x10).set (x11 : Int).toNat false)) x9 x10 (wrap64 (x11 + 1)))) else (none)) else (none))) else (none)) else (none)) else (none)) else (none)) else (impl_closure.l3 k x0 x5 x9 (wrap64 (x10 + 1)))
end
def impl_closure.f (k : Nat) (a0 : Int) (l1 : List (S53)) : Option ((List (List Bool))) := if 0 ≤ a0 then (if (a0 : Int).toNat ≤ 11728124029610 then ((some (List.replicate (a0 : Int).toNat [] : List (List Bool))).bind fun y253 => (impl_closure.l0 k a0 l1 y253 (y253.length : Int) 0)) else (none)) else (none)
theorem impl_closure.mono_l : ∀ k, (∀ y0 y1 y2 y3 y4, LeO (impl_closure.l0 k y0 y1 y2 y3 y4) (impl_closure.l0 (k + 1) y0 y1 y2 y3 y4)) ∧ (∀ y0 y1 y2 y3 y4, LeO (impl_closure.l1 k y0 y1 y2 y3 y4) (impl_closure.l1 (k + 1) y0 y1 y2 y3 y4)) ∧ (∀ y0 y1 y2, LeO (impl_closure.l2 k y0 y1 y2) (impl_closure.l2 (k + 1) y0 y1 y2)) ∧ (∀ y0 y1 y2 y3, LeO (impl_closure.l3 k y0 y1 y2 y3) (impl_closure.l3 (k + 1) y0 y1 y2 y3)) ∧ (∀ y0 y1 y2 y3 y4, LeO (impl_closure.l4 k y0 y1 y2 y3 y4) (impl_closure.l4 (k + 1) y0 y1 y2 y3 y4))
 | 0 => ⟨fun _ _ _ _ _ r h => by simp [impl_closure.l0] at h, fun _ _ _ _ _ r h => by simp [impl_closure.l1] at h, fun _ _ _ r h => by simp [impl_closure.l2] at h, fun _ _ _ _ r h => by simp [impl_closure.l3] at h, fun _ _ _ _ _ r h => by simp [impl_closure.l4] at h⟩
 | k + 1 => by
  obtain ⟨ih0, ih1, ih2, ih3, ih4⟩ := impl_closure.mono_l k
  refine ⟨?_, ?_, ?_, ?_, ?_⟩
  ·intro y0 y1 y2 y3 y4
   unfold impl_closure.l0
   repeat' first
   | (with_reducible exact ih0 _ _ _ _ _)
   | (with_reducible exact ih1 _ _ _ _ _)
   | (with_reducible exact ih2 _ _ _)
   | (with_reducible exact ih3 _ _ _ _)
   | (with_reducible exact ih4 _ _ _ _ _)
   | (with_reducible exact LeO.refl _)
   | (with_reducible exact LeO.none _)
   | (with_reducible refine LeO.ite ?_ ?_)
   | (with_reducible refine LeO.bind ?_ (fun _ => ?_))
   | exact ih0 _ _ _ _ _
   | exact ih1 _ _ _ _ _
   | exact ih2 _ _ _
   | exact ih3 _ _ _ _
   | exact ih4 _ _ _ _ _
   | exact LeO.none _
   | refine LeO.ite ?_ ?_
   | refine LeO.bind ?_ (fun _ => ?_)
  ·intro y0 y1 y2 y3 y4
   unfold impl_closure.l1
   repeat' first
   | (with_reducible exact ih0 _ _ _ _ _)
   | (with_reducible exact ih1 _ _ _ _ _)
   | (with_reducible exact ih2 _ _ _)
   | (with_reducible exact ih3 _ _ _ _)
   | (with_reducible exact ih4 _ _ _ _ _)
   | (with_reducible exact LeO.refl _)
   | (with_reducible exact LeO.none _)
   | (with_reducible refine LeO.ite ?_ ?_)
   | (with_reducible refine LeO.bind ?_ (fun _ => ?_))
   | exact ih0 _ _ _ _ _
   | exact ih1 _ _ _ _ _
   | exact ih2 _ _ _
   | exact ih3 _ _ _ _
   | exact ih4 _ _ _ _ _
   | exact LeO.none _
   | refine LeO.ite ?_ ?_
   | refine LeO.bind ?_ (fun _ => ?_)
  ·intro y0 y1 y2
   unfold impl_closure.l2
   repeat' first
   | (with_reducible exact ih0 _ _ _ _ _)
   | (with_reducible exact ih1 _ _ _ _ _)
   | (with_reducible exact ih2 _ _ _)
   | (with_reducible exact ih3 _ _ _ _)
   | (with_reducible exact ih4 _ _ _ _ _)
   | (with_reducible exact LeO.refl _)
   | (with_reducible exact LeO.none _)
   | (with_reducible refine LeO.ite ?_ ?_)
   | (with_reducible refine LeO.bind ?_ (fun _ => ?_))
   | exact ih0 _ _ _ _ _
   | exact ih1 _ _ _ _ _
   | exact ih2 _ _ _
   | exact ih3 _ _ _ _
   | exact ih4 _ _ _ _ _
   | exact LeO.none _
   | refine LeO.ite ?_ ?_
   | refine LeO.bind ?_ (fun _ => ?_)
  ·intro y0 y1 y2 y3
   unfold impl_closure.l3
   repeat' first
   | (with_reducible exact ih0 _ _ _ _ _)
   | (with_reducible exact ih1 _ _ _ _ _)
   | (with_reducible exact ih2 _ _ _)
   | (with_reducible exact ih3 _ _ _ _)
   | (with_reducible exact ih4 _ _ _ _ _)
   | (with_reducible exact LeO.refl _)
   | (with_reducible exact LeO.none _)
   | (with_reducible refine LeO.ite ?_ ?_)
   | (with_reducible refine LeO.bind ?_ (fun _ => ?_))
   | exact ih0 _ _ _ _ _
   | exact ih1 _ _ _ _ _
   | exact ih2 _ _ _
   | exact ih3 _ _ _ _
   | exact ih4 _ _ _ _ _
   | exact LeO.none _
   | refine LeO.ite ?_ ?_
   | refine LeO.bind ?_ (fun _ => ?_)
  ·intro y0 y1 y2 y3 y4
   unfold impl_closure.l4
   repeat' first
   | (with_reducible exact ih0 _ _ _ _ _)
   | (with_reducible exact ih1 _ _ _ _ _)
   | (with_reducible exact ih2 _ _ _)
   | (with_reducible exact ih3 _ _ _ _)
   | (with_reducible exact ih4 _ _ _ _ _)
   | (with_reducible exact LeO.refl _)
   | (with_reducible exact LeO.none _)
   | (with_reducible refine LeO.ite ?_ ?_)
   | (with_reducible refine LeO.bind ?_ (fun _ => ?_))
   | exact ih0 _ _ _ _ _
   | exact ih1 _ _ _ _ _
   | exact ih2 _ _ _
   | exact ih3 _ _ _ _
   | exact ih4 _ _ _ _ _
   | exact LeO.none _
   | refine LeO.ite ?_ ?_
   | refine LeO.bind ?_ (fun _ => ?_)
theorem impl_closure.mono : ∀ a0 a1 k, LeO (impl_closure.f k a0 a1) (impl_closure.f (k + 1) a0 a1) := by
 intro a0 a1 k
 obtain ⟨ih0, ih1, ih2, ih3, ih4⟩ := impl_closure.mono_l k
 unfold impl_closure.f
 repeat' first
   | (with_reducible exact ih0 _ _ _ _ _)
   | (with_reducible exact ih1 _ _ _ _ _)
   | (with_reducible exact ih2 _ _ _)
   | (with_reducible exact ih3 _ _ _ _)
   | (with_reducible exact ih4 _ _ _ _ _)
   | (with_reducible exact LeO.refl _)
   | (with_reducible exact LeO.none _)
   | (with_reducible refine LeO.ite ?_ ?_)
   | (with_reducible refine LeO.bind ?_ (fun _ => ?_))
   | exact ih0 _ _ _ _ _
   | exact ih1 _ _ _ _ _
   | exact ih2 _ _ _
   | exact ih3 _ _ _ _
   | exact ih4 _ _ _ _ _
   | exact LeO.none _
   | refine LeO.ite ?_ ?_
   | refine LeO.bind ?_ (fun _ => ?_)
def impl_closure.T10 : Bool × List (List Nat × List Nat) := (true, [([], []), ([], []), ([1], [1]), ([0, 2], [0, 2]), ([3], [3]), ([], []), ([5], [5]), ([4, 6, 0, 1, 2, 3, 4, 5, 6], [4, 6]), ([7, 0, 1, 2, 3, 4, 5, 6], [7])])
def impl_closure.B10 : List Nat := [0, 0, 2, 7, 15, 0, 32, 127, 255]
theorem impl_closure.tab10 : rtab .any (opsOf Try.f51 10) = impl_closure.T10 := by kernel_rfl
theorem impl_closure.bits10 : waitsOk impl_closure.T10.2 impl_closure.B10 = true := by kernel_rfl
def impl_closure.T21 : Bool × List (List Nat × List Nat) := (true, [([], []), ([], []), ([0, 1], [0, 1]), ([2], [2]), ([], []), ([], []), ([], []), ([5, 6], [5, 6]), ([7], [7]), ([], []), ([8, 9], [8, 9]), ([10], [10]), ([11], [11]), ([12], [12]), ([12], [12]), ([13, 14, 12], [12, 13, 14]), ([15, 12], [12, 15]), ([12], [12]), ([16, 17, 12], [12, 16, 17]), ([18, 12], [12, 18]), ([19, 12, 12], [12, 19]), ([20], [20]), ([20], [20]), ([21, 22, 20], [20, 21, 22]), ([23, 20], [20, 23]), ([20], [20]), ([24, 25, 20], [20, 24, 25]), ([26, 20], [20, 26]), ([20, 27, 12], [12, 20, 27]), ([12, 28], [12, 28]), ([3, 4, 0, 1, 2, 3, 4, 5, 6, 7, 8, 9, 10, 11, 12, 13, 14, 15, 16, 17, 18, 19, 20, 21, 22, 23, 24, 25, 26, 27, 28, 29], [3, 4]), ([30, 29, 20, 0, 1, 2, 3, 4, 5, 6, 7, 8, 9, 10, 11, 12, 13, 14, 15, 16, 17, 18, 19, 20, 21, 22, 23, 24, 25, 26, 27, 28, 29], [29, 30])])
def impl_closure.B21 : List Nat := [0, 0, 3, 7, 0, 0, 0, 96, 224, 0, 992, 2016, 4064, 8160, 8160, 32736, 65504, 8160, 262112, 524256, 1048544, 2097120, 2097120, 8388576, 16777184, 2097120, 67108832, 134217696, 268435424, 536870880, 1073741823, 2147483647]
theorem impl_closure.tab21 : rtab .any (opsOf Try.f51 21) = impl_closure.T21 := by kernel_rfl
theorem impl_closure.bits21 : waitsOk impl_closure.T21.2 impl_closure.B21 = true := by kernel_rfl
set_option maxHeartbeats 8000000 in
set_option maxRecDepth 100000 in
theorem impl_closure.calls (k : Nat) (a0 : Int) (A1 : Option Addr) (c1 : Nat) (l1 : List (S53)) (r : List (List Bool)) (w : World) (hr1 : Kd.C k53 w A1 l1.length l1) (hc1 : l1.length ≤ c1) (h : impl_closure.f k a0 l1 = some r) :
  Calls Try.prog 51 #[.int .i64 a0, .slice A1 l1.length c1] w fun e w' => ∃ v0_ : Value, e = .returned (v0_) ∧ Kd.S (Kd.slice 4 Kd.bool) 94 w' w.heap.size (fun _ => True) v0_ r ∧ Below w.heap.size w w' := by
 have hu53 := Try.underlying53
 have HR1 := Aside0.mk hr1
 have HC1 := Aside0.mk hc1
 clear hr1 hc1
 have HB := Aside0.mk (Below.refl w.heap.size w)
 have H : (if 0 ≤ a0 then (if (a0 : Int).toNat ≤ 11728124029610 then ((some (List.replicate (a0 : Int).toNat [] : List (List Bool))).bind fun y253 => (impl_closure.l0 k a0 l1 y253 (y253.length : Int) 0)) else (none)) else (none)) = some r := h
 clear h
 by_cases c3 : 0 ≤ a0; rotate_left
 ·rw [if_neg c3] at H; exact absurd H (by simp)
 rw [if_pos c3] at H
 have c3b0 := eq_true c3
 have c3b1 : decide (0 ≤ a0) = true := decide_eq_true c3
 clear c3
 by_cases c4 : (a0 : Int).toNat ≤ 11728124029610; rotate_left
 ·rw [if_neg c4] at H; exact absurd H (by simp)
 rw [if_pos c4] at H
 have c4b0 := eq_true c4
 have c4b1 : decide ((a0 : Int).toNat ≤ 11728124029610) = true := decide_eq_true c4
 clear c4
 obtain ⟨y253, hy253⟩ : ∃ y_ : List (List Bool), y_ = (List.replicate (a0 : Int).toNat []) := ⟨_, rfl⟩
 replace H : (impl_closure.l0 k a0 l1 y253 (y253.length : Int) 0) = some r := by first | (rw [hy253]; with_reducible exact H) | (have H2_ := (Option.bind_some _ _).symm.trans H; rw [hy253]; with_reducible exact H2_) | (have H2_ := (Option.bind_some _ _).symm.trans H; with_reducible exact H2_) | with_reducible exact H | (rw [hy253]; exact H) | exact H
 have Ny253 := Aside0.mk hy253
 clear hy253
 have H' := Aside0.mk H
 clear H
 go_enter Try.func51, Try.ntmps51
 go_wp2_with (first | ((with_reducible refine gate_dst (N := 13) rfl ?_); refine Kd.S_make (Kd.slice 4 Kd.bool) _ 94 rfl (N := 13) rfl 71 _ _ rfl a0 rfl rfl Try.underlying71 (.slice none 0 0) 24 info94 rfl (by decide) (by omega) [] (ok := fun _ => True) (okp := fun _ => True) ⟨_, rfl, Kd.R_nil _ _ _ _ _⟩ (fun _ hk => hk) trivial (oD) (Nat.le_trans (Nat.mul_le_mul_right _ (oD : a0.toNat ≤ 11728124029610)) (by omega)) (Below.refl _ _) (Nat.le_refl _) ?_; intro v254 w5 ho6 hb hg_ hnew_; clear hg_ hnew_; (first | rw [← Ny253.out] at ho6 | (simp only [Int.reduceToNat] at ho6; rw [← Ny253.out] at ho6)); have n0_ := Aside0.mk (Kd.S_lower ho6 (below_size bB)); have n1_ := Aside0.mk (below_step bB hb); clear HB; have HO255 := n0_; have HB := n1_; clear n0_ n1_; clear hb ho6; obtain ⟨Ao7, co7, eo7⟩ := Kd.S_slice HO255.out; subst eo7))
 go_loopg [16] k (fun kq v16 w' => ∃ (x5_1 : List (List Bool)) (x16_1 : Int), v16 = .int .i64 x16_1 ∧ Aside0 (impl_closure.l0 kq a0 l1 x5_1 (y253.length : Int) x16_1 = some r) ∧ Aside0 (kq ≤ k) ∧ Aside0 (Kd.S (Kd.slice 4 Kd.bool) 94 w' w.heap.size (fun _ => True) (.slice Ao7 y253.length co7) x5_1) ∧ Aside0 (Below w.heap.size w w'))
 case atStart => exact ⟨(y253), (0), sD, H', ⟨Nat.le_refl _⟩, ⟨kS⟩, ⟨by repeat (first | (with_reducible first | exact HB.out | apply below_alloc | apply pw_below_drewN | apply below_drew1) | exact HB.out)⟩⟩
 case round =>
  clear H'
  try clear c1
  try clear p2
  try clear c3
  try clear c3b0
  try clear c3b1
  try clear c4
  try clear c4b0
  try clear c4b1
  try clear c5
  obtain ⟨x5_1, x16_1, rfl, HA, HK1, HO_5, HB⟩ := hrel
  have hl5_1 := (Kd.S_reads' HO_5.out).1
  rw [hl5_1] at HO_5
  (try simp only [hl5_1])
  cases gk with
  | zero => exact absurd HA.out (by simp [impl_closure.l0])
  | succ k1 =>
   have H := HA.out
   clear HA
   simp only [impl_closure.l0] at H
   by_cases c8 : x16_1 < (y253.length : Int)
   ·rw [if_pos c8] at H
    have c8b0 : decide (x16_1 < (y253.length : Int)) = true := decide_eq_true c8
    (try (have c8b0e0 := c8b0; simp only [hl5_1] at c8b0e0))
    clear c8
    by_cases c9 : 0 ≤ a0; rotate_left
    ·rw [if_neg c9] at H; exact absurd H (by simp)
    rw [if_pos c9] at H
    have c9b0 := eq_true c9
    have c9b1 : decide (0 ≤ a0) = true := decide_eq_true c9
    clear c9
    by_cases c10 : (a0 : Int).toNat ≤ 281474976710656; rotate_left
    ·rw [if_neg c10] at H; exact absurd H (by simp)
    rw [if_pos c10] at H
    have c10b0 := eq_true c10
    have c10b1 : decide ((a0 : Int).toNat ≤ 281474976710656) = true := decide_eq_true c10
    clear c10
    obtain ⟨y256, hy256⟩ : ∃ y_ : List Bool, y_ = (List.replicate (a0 : Int).toNat false) := ⟨_, rfl⟩
    replace H : (if 0 ≤ x16_1 then (if x16_1 < (x5_1.length : Int) then (impl_closure.l0 k1 a0 l1 (x5_1.set (x16_1 : Int).toNat y256) (y253.length : Int) (wrap64 (x16_1 + 1))) else (none)) else (none)) = some r := by first | (rw [hy256]; with_reducible exact H) | (have H2_ := (Option.bind_some _ _).symm.trans H; rw [hy256]; with_reducible exact H2_) | (have H2_ := (Option.bind_some _ _).symm.trans H; with_reducible exact H2_) | with_reducible exact H | (rw [hy256]; exact H) | exact H
    have Ny256 := Aside0.mk hy256
    clear hy256
    by_cases c11 : 0 ≤ x16_1; rotate_left
    ·rw [if_neg c11] at H; exact absurd H (by simp)
    rw [if_pos c11] at H
    have c11b0 : decide (0 ≤ x16_1) = true := decide_eq_true c11
    clear c11
    by_cases c12 : x16_1 < (x5_1.length : Int); rotate_left
    ·rw [if_neg c12] at H; exact absurd H (by simp)
    rw [if_pos c12] at H
    have c12b0 : decide (x16_1 < (x5_1.length : Int)) = true := decide_eq_true c12
    clear c12
    obtain ⟨y259, hy259⟩ : ∃ y_ : List (List Bool), y_ = (x5_1.set (x16_1 : Int).toNat y256) := ⟨_, rfl⟩
    replace H : (impl_closure.l0 k1 a0 l1 y259 (y253.length : Int) (wrap64 (x16_1 + 1))) = some r := by first | (rw [hy259]; with_reducible exact H) | (have H2_ := (Option.bind_some _ _).symm.trans H; rw [hy259]; with_reducible exact H2_) | (have H2_ := (Option.bind_some _ _).symm.trans H; with_reducible exact H2_) | with_reducible exact H | (rw [hy259]; exact H) | exact H
    have Ny259 := Aside0.mk hy259
    clear hy259
    have H' := Aside0.mk H
    clear H
    go_wp2_with (first | ((with_reducible refine gate_dst (N := 22) rfl ?_); refine Kd.R_make Kd.bool _ 4 rfl (N := 22) rfl 94 _ _ rfl a0 rfl rfl Try.underlying94 (.bool false) 1 info4 rfl (by decide) (by omega) false (ok := fun _ => True) (okp := fun _ => True) rfl (fun _ hk => hk) trivial (oD) (Nat.le_trans (Nat.mul_le_mul_right _ (oD : a0.toNat ≤ 281474976710656)) (by omega)) (Below.refl _ _) (Nat.le_refl _) ?_; intro v257 w14 ho15 hb hg_ hnew_; clear hg_ hnew_; (first | rw [← Ny256.out] at ho15 | (simp only [Int.reduceToNat] at ho15; rw [← Ny256.out] at ho15)); have n0_ := Aside0.mk (Kd.S_elder' (by (with_reducible repeat (first | apply Kd.S_alloc | apply Kd.S_drewN | apply Kd.S_drew)); exact HO_5.out) (Kd.R_base ho15) hb); have n1_ := Aside0.mk (Kd.R_lower ho15 (below_size bB)); have n2_ := Aside0.mk (below_step bB hb); clear HO_5; clear HB; have HO_5 := n0_; have HO258 := n1_; have HB := n2_; clear n0_ n1_ n2_; clear hb ho15; have p13 : 0 ≤ (x16_1 : Int) := oD; have q13 : (x16_1 : Int) < ((x5_1.length : Int) : Int) := oD; obtain ⟨go13, co13, eo13, gb13, gl13, cl13, HG13⟩ := Kd.S_form HO_5.out (by omega); (first | cases eo13 | (injection eo13 with ea_ en_ ec_; (first | subst ea_ | (injection ea_ with ea_; subst ea_)); subst ec_; clear en_)); have GB13 := Aside0.mk gb13; have GG13 := Aside0.mk HG13; clear gb13 gl13 HG13; obtain ⟨_, ce13, hcl13, hM13, hcc13, hfr13, _, _⟩ := Kd.S_elem HO_5.out [] (x16_1 : Int) p13 q13; obtain ⟨ve13_0, rfl, ge13_0⟩ := hM13; have hx13_0 := hcc13 0 _ rfl; have hf13_0 := hfr13 0; (try simp only [show ((Kd.slice 4 Kd.bool)).sz = 1 from rfl, Nat.mul_one, Nat.add_zero] at hx13_0); (try simp only [show ((Kd.slice 4 Kd.bool)).sz = 1 from rfl, Nat.mul_one, Nat.add_zero] at hf13_0); (try clear hcl13); (try clear hcc13); (try clear hfr13); (try clear hM13); replace p13 := eq_true p13; replace q13 := eq_true q13; have n_ := Aside0.mk (Kd.S_mono (ok' := (fun k_ => some k_ ≠ (v257 : Value).ownBlock)) HO_5.out (fun k_ hk => hk.2)); clear HO_5; have HO_5 := n_; clear n_; have HX16 := Aside0.mk (show Kd.S (Kd.slice 4 Kd.bool) 94 w14 w.heap.size (fun k_ => ((fun _ => True)) k_ ∧ ¬ ((fun k_ => some k_ = (v257 : Value).ownBlock)) k_) (.slice (some ⟨go13, 0, none⟩) x5_1.length co7) x5_1 from (by (with_reducible repeat (first | apply Kd.S_alloc | apply Kd.S_drewN | apply Kd.S_drew)); exact Kd.S_mono HO_5.out (fun k_ hk => ⟨trivial, fun e_ => hk e_⟩))); obtain ⟨oki16, ce16, hcl16, hM16, hcc16, hfr16, hoki16, hH16⟩ := Kd.S_elem HX16.out [] (x16_1 : Int) (oD) (by have h_ : (x16_1 : Int) < ((x5_1.length : Int) : Int) := oD; first | exact h_ | (have e_ := (Kd.S_reads' HO_5.out).1; omega) | simpa using h_); obtain ⟨ve16_0, rfl, ge16_0⟩ := hM16; have HP16 := Kd.S_seg hH16 (oD) (by have h_ : (x16_1 : Int) < ((x5_1.length : Int) : Int) := oD; first | exact h_ | (have e_ := (Kd.S_reads' HO_5.out).1; omega) | simpa using h_) (seg := [v257]) (j := 0) (show 1 ≤ 1 from by decide) (x' := y256) (Kd.M_row (Kd.R_mono (Kd.R_tight rfl (Kd.R_mono (ok' := fun k_ => ((fun _ => True)) k_ ∧ k_ ≠ go13) (Kd.R_apart' (HO258.out) (Kd.S_typed HO_5.out) (by decide)) (fun k_ hk => ⟨trivial, fun e_ => (hk.2) (by rw [e_]; rfl)⟩))) (fun _ h_ => Or.inr (h_)))) (fun _ hk => hk) (fun k_ hk_ => ((Kd.R_mono (ok' := fun k_ => ((fun _ => True)) k_ ∧ k_ ≠ go13) (Kd.R_apart' (HO258.out) (Kd.S_typed HO_5.out) (by decide)) (fun k_ hk => ⟨trivial, fun e_ => (hk.2) (by rw [e_]; rfl)⟩))).1 k_ hk_.symm); have hx16_0 := hcc16 0 _ rfl; (try simp only [show ((Kd.slice 4 Kd.bool)).sz = 1 from rfl, Nat.mul_one, Nat.add_zero] at hx16_0); have hf16_0 := hfr16 0; (try simp only [show ((Kd.slice 4 Kd.bool)).sz = 1 from rfl, Nat.mul_one, Nat.add_zero] at hf16_0); (try clear hcl16); (try clear hcc16); (try clear hfr16); (try clear hM16); (try clear hoki16); (try clear hH16); (try simp only [show ((Kd.slice 4 Kd.bool)).sz = 1 from rfl, Nat.mul_one, Nat.add_zero] at HP16)) | ((with_reducible refine gate_store (t := 94) (p := 23) rfl ?_); refine store_event (t := 94) (p := 23) (v := ?vo_w17) (w1 := (w14.setCell ⟨go13, (x16_1 : Int).toNat, none⟩ (v257))) ?hg ?ho ?hn ?hr ?_; (case ho => rfl); (case hg => rfl); (case hn => rfl); (case hr => first | (go_simp; done) | (go_simp; rfl) | (obtain ⟨As_, cs_, es_⟩ := Kd.R_slice HO258.out; simp only [es_]; go_simp; first | done | rfl)); intro w17 hw; have hg : w14.grownBy w17 (some go13) := (by rw [hw]; exact HP16.2); have hp_ : Kd.S (Kd.slice 4 Kd.bool) 94 w17 w.heap.size (fun _ => True) (.slice (some ⟨go13, 0, none⟩) x5_1.length co7) y259 := (by rw [hw, Ny259.out]; exact HP16.1); clear HP16; have n0_ := Aside0.mk (hp_); have n1_ := Aside0.mk ((by rw [hw]; exact below_set (HB.out) GB13.out : Below w.heap.size w w17)); clear HO_5; clear HB; clear HO258; have HO_5 := n0_; have HB := n1_; clear n0_ n1_; clear hg hw hp_))
    (try simp only [← hl5_1])
    go_roundg k1
    case measure => have := HK1.out; omega
    case rel => exact ⟨(y259), (wrap64 (x16_1 + 1)), sD, H', ⟨by have := HK1.out; omega⟩, ⟨by (try simp only [hl5_1]); (with_reducible repeat (first | apply Kd.S_alloc | apply Kd.S_drewN | apply Kd.S_drew)); exact HO_5.out⟩, ⟨by repeat (first | (with_reducible first | exact HB.out | apply below_alloc | apply pw_below_drewN | apply below_drew1) | exact HB.out)⟩⟩
   ·rw [if_neg c8] at H
    have c8b0 : decide (x16_1 < (y253.length : Int)) = false := decide_eq_false c8
    (try (have c8b0e0 := c8b0; simp only [hl5_1] at c8b0e0))
    clear c8
    have H' := Aside0.mk H
    clear H
    go_wp2
    go_loopg [27] k1 (fun kq v27 w' => ∃ (x5_2 : List (List Bool)) (x27_2 : Int), v27 = .int .i64 x27_2 ∧ Aside0 (impl_closure.l1 kq a0 x5_2 l1 (l1.length : Int) x27_2 = some r) ∧ Aside0 (kq ≤ k1) ∧ Aside0 (Kd.S (Kd.slice 4 Kd.bool) 94 w' w.heap.size (fun _ => True) (.slice Ao7 x5_1.length co7) x5_2) ∧ Aside0 (Below w.heap.size w w'))
    case atStart => exact ⟨(x5_1), (0), sD, H', ⟨Nat.le_refl _⟩, ⟨by (try simp only [hl5_1]); (with_reducible repeat (first | apply Kd.S_alloc | apply Kd.S_drewN | apply Kd.S_drew)); exact HO_5.out⟩, ⟨by repeat (first | (with_reducible first | exact HB.out | apply below_alloc | apply pw_below_drewN | apply below_drew1) | exact HB.out)⟩⟩
    case round =>
     clear H'
     try clear c1
     try clear p1
     try clear q1
     try clear hx1
     try clear p2
     try clear c3
     try clear c3b0
     try clear c3b1
     try clear c4
     try clear c4b0
     try clear c4b1
     try clear c5
     try clear p6
     try clear c8
     try clear c8b0
     try clear c9
     try clear c9b0
     try clear c9b1
     try clear c10
     try clear c10b0
     try clear c10b1
     try clear c11
     try clear c11b0
     try clear c12
     try clear c12b0
     try clear c13
     try clear p13
     try clear q13
     try clear hx13
     try clear hf13
     try clear c16
     try clear hx16
     try clear hf16
     try clear hx13_0
     try clear hx16_0
     try clear p13
     try clear p2
     try clear q13
     obtain ⟨x5_2, x27_2, rfl, HA, HK2, HO_5, HB⟩ := hrel
     have hl5_2 := (Kd.S_reads' HO_5.out).1
     rw [hl5_2] at HO_5
     (try simp only [hl5_2])
     cases gk with
     | zero => exact absurd HA.out (by simp [impl_closure.l1])
     | succ k2 =>
      have H := HA.out
      clear HA
      simp only [impl_closure.l1] at H
      by_cases c18 : x27_2 < (l1.length : Int)
      ·rw [if_pos c18] at H
       have c18b0 : decide (x27_2 < (l1.length : Int)) = true := decide_eq_true c18
       clear c18
       by_cases c19 : 0 ≤ x27_2; rotate_left
       ·rw [if_neg c19] at H; exact absurd H (by simp)
       rw [if_pos c19] at H
       have c19b0 : decide (0 ≤ x27_2) = true := decide_eq_true c19
       clear c19
       by_cases c20 : x27_2 < (l1.length : Int); rotate_left
       ·rw [if_neg c20] at H; exact absurd H (by simp)
       rw [if_pos c20] at H
       have c20b0 : decide (x27_2 < (l1.length : Int)) = true := decide_eq_true c20
       clear c20
       by_cases c21 : 0 ≤ ((rd_T53 l1 x27_2).f0); rotate_left
       ·rw [if_neg c21] at H; exact absurd H (by simp)
       rw [if_pos c21] at H
       have c21b0 : decide (0 ≤ ((rd_T53 l1 x27_2).f0)) = true := decide_eq_true c21
       clear c21
       by_cases c22 : ((rd_T53 l1 x27_2).f0) < (x5_2.length : Int); rotate_left
       ·rw [if_neg c22] at H; exact absurd H (by simp)
       rw [if_pos c22] at H
       have c22b0 : decide (((rd_T53 l1 x27_2).f0) < (x5_2.length : Int)) = true := decide_eq_true c22
       clear c22
       by_cases c23 : 0 ≤ ((rd_T53 l1 x27_2).f1); rotate_left
       ·rw [if_neg c23] at H; exact absurd H (by simp)
       rw [if_pos c23] at H
       have c23b0 : decide (0 ≤ ((rd_T53 l1 x27_2).f1)) = true := decide_eq_true c23
       clear c23
       by_cases c24 : ((rd_T53 l1 x27_2).f1) < ((rd_L5 x5_2 ((rd_T53 l1 x27_2).f0)).length : Int); rotate_left
       ·rw [if_neg c24] at H; exact absurd H (by simp)
       rw [if_pos c24] at H
       have c24b0 : decide (((rd_T53 l1 x27_2).f1) < ((rd_L5 x5_2 ((rd_T53 l1 x27_2).f0)).length : Int)) = true := decide_eq_true c24
       clear c24
       obtain ⟨y263, hy263⟩ : ∃ y_ : List Bool, y_ = ((rd_L5 x5_2 ((rd_T53 l1 x27_2).f0)).set (((rd_T53 l1 x27_2).f1) : Int).toNat true) := ⟨_, rfl⟩
       replace H : (impl_closure.l1 k2 a0 (x5_2.set (((rd_T53 l1 x27_2).f0) : Int).toNat y263) l1 (l1.length : Int) (wrap64 (x27_2 + 1))) = some r := by first | (rw [hy263]; with_reducible exact H) | (have H2_ := (Option.bind_some _ _).symm.trans H; rw [hy263]; with_reducible exact H2_) | (have H2_ := (Option.bind_some _ _).symm.trans H; with_reducible exact H2_) | with_reducible exact H | (rw [hy263]; exact H) | exact H
       have Ny263 := Aside0.mk hy263
       clear hy263
       obtain ⟨y265, hy265⟩ : ∃ y_ : List (List Bool), y_ = (x5_2.set (((rd_T53 l1 x27_2).f0) : Int).toNat y263) := ⟨_, rfl⟩
       replace H : (impl_closure.l1 k2 a0 y265 l1 (l1.length : Int) (wrap64 (x27_2 + 1))) = some r := by first | (rw [hy265]; with_reducible exact H) | (have H2_ := (Option.bind_some _ _).symm.trans H; rw [hy265]; with_reducible exact H2_) | (have H2_ := (Option.bind_some _ _).symm.trans H; with_reducible exact H2_) | with_reducible exact H | (rw [hy265]; exact H) | exact H
       have Ny265 := Aside0.mk hy265
       clear hy265
       have H' := Aside0.mk H
       clear H
       have p260 : 0 ≤ (x27_2 : Int) := oD
       have q260 : x27_2 < (l1.length : Int) := oD
       obtain ⟨ad260, e260, hx260_0, hx260_1⟩ := at_T53 HR1.out x27_2 p260 q260
       cases e260
       replace hx260_0 := (cB HB.out hx260_0 :)
       replace hx260_1 := (cB HB.out hx260_1 :)
       replace p260 := eq_true p260
       replace q260 := eq_true q260
       try go_wp2_with (first | ((with_reducible refine gate_dst (N := 8) rfl ?_); refine bE 8 #[.int .i64 0, .int .i64 0] 53 ?_; intro gb261 hg w26 hbox hb; have n0_ := Aside0.mk (sB HO_5 hb); have n1_ := Aside0.mk (below_step bB hb); have n2_ := Aside0.mk (hbox); have n3_ := Aside0.mk ((by rw [hg]; exact (below_size bB) : w.heap.size ≤ gb261)); have n4_ := Aside0.mk ((by rw [hg]; exact (below_size bB) : w.heap.size ≤ gb261)); clear HO_5; clear HB; have HO_5 := n0_; have HB := n1_; have BK261 := n2_; have GW261 := n3_; have GE261 := n4_; clear n0_ n1_ n2_ n3_ n4_; clear hb hbox hg; have hcz27_0 := (blk_cell BK261.out 0).trans (show _ = some ((.int .i64 0) : Value) from rfl); have hcz27_1 := (blk_cell BK261.out 1).trans (show _ = some ((.int .i64 0) : Value) from rfl); have hfz27_0 := blk_frozen BK261.out 0; have hfz27_1 := blk_frozen BK261.out 1))
       have n0_ : Aside0 (Kd.S (Kd.slice 4 Kd.bool) 94 ((w26.setCell ⟨gb261, 0, none⟩ (.int .i64 ((rd_T53 l1 x27_2).f0))).setCell ⟨gb261, 1, none⟩ (.int .i64 ((rd_T53 l1 x27_2).f1))) w.heap.size (fun _ => True) (.slice Ao7 x5_2.length co7) x5_2) := ⟨by exact Kd.S_mono (Kd.S_far (p := ⟨gb261, 1, none⟩) (Kd.S_far (p := ⟨gb261, 0, none⟩) (Kd.S_types HO_5.out BK261.out (by decide)) (fun _ hk => hk.2) (.int .i64 ((rd_T53 l1 x27_2).f0))) (fun _ hk => hk.2) (.int .i64 ((rd_T53 l1 x27_2).f1))) (fun _ hk => trivial)⟩
       have n1_ : Aside0 (((w26.setCell ⟨gb261, 0, none⟩ (.int .i64 ((rd_T53 l1 x27_2).f0))).setCell ⟨gb261, 1, none⟩ (.int .i64 ((rd_T53 l1 x27_2).f1))).heap[gb261]? = some (.cells #[.int .i64 ((rd_T53 l1 x27_2).f0), .int .i64 ((rd_T53 l1 x27_2).f1)] 53 (0, 0))) := ⟨by refine blk_put (cs := #[.int .i64 ((rd_T53 l1 x27_2).f0), .int .i64 0]) ?_ 1 _ rfl; refine blk_put (cs := #[.int .i64 0, .int .i64 0]) ?_ 0 _ rfl; exact BK261.out⟩
       have n2_ : Aside0 (Below w.heap.size w ((w26.setCell ⟨gb261, 0, none⟩ (.int .i64 ((rd_T53 l1 x27_2).f0))).setCell ⟨gb261, 1, none⟩ (.int .i64 ((rd_T53 l1 x27_2).f1)))) := ⟨by repeat (first | (with_reducible first | exact HB.out | apply below_alloc | apply pw_below_drewN | apply below_drew1 | refine below_set ?_ GE261.out) | exact HB.out)⟩
       (try clear HO_5)
       (try clear BK261)
       (try clear HB)
       generalize ((w26.setCell ⟨gb261, 0, none⟩ (.int .i64 ((rd_T53 l1 x27_2).f0))).setCell ⟨gb261, 1, none⟩ (.int .i64 ((rd_T53 l1 x27_2).f1))) = w28 at n0_ n1_ n2_ ⊢
       have HO_5 := n0_
       have BK261 := n1_
       have HB := n2_
       clear n0_ n1_ n2_
       have n0_ := Aside0.mk (Kd.S_drew HO_5.out)
       have n1_ := Aside0.mk (blk_drew BK261.out)
       have n2_ := Aside0.mk (below_drew1 HB.out)
       clear HO_5
       clear BK261
       clear HB
       have HO_5 := n0_
       have BK261 := n1_
       have HB := n2_
       clear n0_ n1_ n2_
       have p262 : 0 ≤ (((rd_T53 l1 x27_2).f0) : Int) := oD
       have q262 : ((rd_T53 l1 x27_2).f0) < (x5_2.length : Int) := oD
       obtain ⟨ad262, A262_0, c262_0, e262, hx262_0, hl262_0, hi262_0⟩ := at_L5 (Kd.S_reads' HO_5.out).2.2 ((rd_T53 l1 x27_2).f0) p262 q262
       cases e262
       obtain ⟨ce262, hce262, hMe262, hcc262⟩ := Kd.S_get HO_5.out [] ((rd_T53 l1 x27_2).f0) p262 (by first | exact q262 | exact oD | (have e_ := (Kd.S_reads' HO_5.out).1; omega))
       obtain ⟨ve262_0, rfl, ge262_0⟩ := hMe262
       have hv262_0 := hcc262 0 _ rfl
       rw [Nat.add_zero, show ((Kd.slice 4 Kd.bool)).sz = 1 from rfl, Nat.mul_one] at hv262_0
       replace hv262_0 := Option.some.inj (hv262_0.symm.trans hx262_0)
       rw [hv262_0] at ge262_0
       have HL262_0 := Aside0.mk (show Kd.R Kd.bool 4 _ _ _ _ (rd_L5 x5_2 ((rd_T53 l1 x27_2).f0)) from ge262_0)
       clear hv262_0 ge262_0
       have HX262_0 := Aside0.mk hx262_0
       clear hcc262 hce262
       have HR262_0 := Aside0.mk hi262_0
       have HC262_0 := Aside0.mk hl262_0
       clear hi262_0 hl262_0
       replace p262 := eq_true p262
       replace q262 := eq_true q262
       have p25 : 0 ≤ (((rd_T53 l1 x27_2).f1) : Int) := oD
       have q25 : (((rd_T53 l1 x27_2).f1) : Int) < (((rd_L5 x5_2 ((rd_T53 l1 x27_2).f0)).length : Int) : Int) := oD
       obtain ⟨go25, co25, eo25, gb25, gl25, cl25, HG25⟩ := Kd.R_form HL262_0.out (by omega)
       (first | cases eo25 | (injection eo25 with ea_ en_ ec_; (first | subst ea_ | (injection ea_ with ea_; subst ea_)); subst ec_; clear en_))
       have GB25 := Aside0.mk gb25
       have GG25 := Aside0.mk HG25
       clear gb25 gl25 HG25
       obtain ⟨hx25_0, hf25_0⟩ := Kd.R_celln false HL262_0.out (((rd_T53 l1 x27_2).f1) : Int) p25 q25
       replace p25 := eq_true p25
       replace q25 := eq_true q25
       have hq30 : (((rd_T53 l1 x27_2).f0) : Int) < (x5_2.length : Int) := (by have h_ : (((rd_T53 l1 x27_2).f0) : Int) < ((x5_2.length : Int) : Int) := oD; first | exact h_ | (have e_ := (Kd.S_reads' HO_5.out).1; omega) | simpa only [List.length_set, List.length_set] using h_)
       obtain ⟨oki30, ce30, hcl30, hM30, hcc30, hok30, hbk30⟩ := Kd.S_borrow HO_5.out [] (((rd_T53 l1 x27_2).f0) : Int) (oD) hq30
       obtain ⟨ve30_0, rfl, ge30_0⟩ := hM30
       have hv30 := hcc30 0 _ rfl
       rw [Nat.add_zero, show ((Kd.slice 4 Kd.bool)).sz = 1 from rfl, Nat.mul_one] at hv30
       replace hv30 := Option.some.inj (hv30.symm.trans HX262_0.out)
       subst hv30
       clear hcc30 hcl30
       replace ge30_0 := (show Kd.R Kd.bool 4 _ _ _ _ (rd_L5 x5_2 ((rd_T53 l1 x27_2).f0)) from ge30_0)
       have HP30 := Kd.R_putg ge30_0 (((rd_T53 l1 x27_2).f1) : Int) true
       rw [← Ny263.out] at HP30
       have HS30 := hbk30 HP30.2 (fun k_ e_ => by injection e_ with e_; subst e_; exact ge30_0.1 _ rfl) (x' := y263) (Kd.M_row HP30.1)
       rw [← Ny265.out] at HS30
       have HQ30 := Aside0.mk HS30
       clear HP30 HS30 hbk30 hok30
       refine start_ (n := 9) (S := fun w' => w'.cell? ⟨gb261, 0, none⟩ = some (.int .i64 ((rd_T53 l1 x27_2).f0)) ∧ w'.cell? ⟨gb261, 1, none⟩ = some (.int .i64 ((rd_T53 l1 x27_2).f1)) ∧ w'.cell? (ad262.add (((rd_T53 l1 x27_2).f0)).toNat) = some (.slice (some ⟨go25, 0, none⟩) (rd_L5 x5_2 ((rd_T53 l1 x27_2).f0)).length c262_0)) (ds := [8]) #[false, false, false, false, false, false, false, false, false] (by kernel_rfl) rfl rfl ⟨(blk_cell BK261.out 0).trans rfl, (blk_cell BK261.out 1).trans rfl, hx262_0⟩ (fun hHeld => ?_); refine with_tabW impl_closure.tab10 impl_closure.bits10 (fun HT_ HW_ => ?_)
       generalize w28.drew = w29 at HO_5 BK261 HB GG25 HL262_0 HQ30 HR262_0 HX262_0 hf25_0 hx25_0 hx262_0 hHeld ⊢
       refine pU 0 31 #[true, false, false, false, false, false, false, false, false] ?_
       refine pU 1 32 #[true, true, false, false, false, false, false, false, false] ?_
       refine pU 5 36 #[true, true, false, false, false, true, false, false, false] ?_
       refine tU 2 33 #[true, true, true, false, false, true, false, false, false] ?_
       refine pU 3 34 #[true, true, true, true, false, true, false, false, false] ?_
       refine tU 4 35 #[true, true, true, true, true, true, false, false, false] ?_
       refine tU 6 37 #[true, true, true, true, true, true, true, false, false] ?_
       refine pU 7 38 #[true, true, true, true, true, true, true, true, false] ?_
       refine last_ (i := 8) (N := none) #[true, true, true, true, true, true, true, true, true] rfl rfl (one_of HT_.out (by kernel_rfl)) (by decide) (fun K hK => ?_)
       refine skip_ (w1 := ?_) (by rfl) rfl ?_ ?_
       rotate_left
       ·go_simp
        rfl
       refine hK.out _ _ ?_
       clear hK K
       refine done_ (done_of HT_.out (by kernel_rfl)) ?_
       try go_wp2
       (try simp only [← hl5_2])
       go_roundg k2
       case measure => have := HK1.out; have := HK2.out; omega
       case rel => exact ⟨(y265), (wrap64 (x27_2 + 1)), sD, H', ⟨by have := HK1.out; have := HK2.out; omega⟩, ⟨by (try simp only [hl5_1]); (try simp only [hl5_2]); (with_reducible repeat (first | apply Kd.S_alloc | apply Kd.S_drewN | apply Kd.S_drew)); exact HQ30.out⟩, ⟨by repeat (first | (with_reducible first | exact HB.out | apply below_alloc | apply pw_below_drewN | apply below_drew1 | refine below_set ?_ GB25.out | refine below_set ?_ GE261.out) | exact HB.out)⟩⟩
      ·rw [if_neg c18] at H
       have c18b0 : decide (x27_2 < (l1.length : Int)) = false := decide_eq_false c18
       clear c18
       have H' := Aside0.mk H
       clear H
       go_wp2
       go_loopg [9] k2 (fun kq v9 w' => ∃ (x5_3 : List (List Bool)) (x9_3 : Int), v9 = .int .i64 x9_3 ∧ Aside0 (impl_closure.l2 kq a0 x5_3 x9_3 = some r) ∧ Aside0 (kq ≤ k2) ∧ Aside0 (Kd.S (Kd.slice 4 Kd.bool) 94 w' w.heap.size (fun _ => True) (.slice Ao7 x5_2.length co7) x5_3) ∧ Aside0 (Below w.heap.size w w'))
       case atStart => exact ⟨(x5_2), (0), sD, H', ⟨Nat.le_refl _⟩, ⟨by (try simp only [hl5_1]); (try simp only [hl5_2]); (with_reducible repeat (first | apply Kd.S_alloc | apply Kd.S_drewN | apply Kd.S_drew)); exact HO_5.out⟩, ⟨by repeat (first | (with_reducible first | exact HB.out | apply below_alloc | apply pw_below_drewN | apply below_drew1) | exact HB.out)⟩⟩
       case round =>
        clear H'
        try clear c1
        try clear p1
        try clear q1
        try clear hx1
        try clear c2
        try clear p2
        try clear q2
        try clear hx2
        try clear hf2
        try clear c3
        try clear c3b0
        try clear c3b1
        try clear q3
        try clear c4
        try clear c4b0
        try clear c4b1
        try clear c5
        try clear p6
        try clear c8
        try clear c8b0
        try clear c9
        try clear c9b0
        try clear c9b1
        try clear c10
        try clear c10b0
        try clear c10b1
        try clear c11
        try clear c11b0
        try clear c12
        try clear c12b0
        try clear c13
        try clear p13
        try clear q13
        try clear hx13
        try clear hf13
        try clear c16
        try clear hx16
        try clear hf16
        try clear c18
        try clear c18b0
        try clear c19
        try clear c19b0
        try clear c20
        try clear c20b0
        try clear c21
        try clear c21b0
        try clear c22
        try clear c22b0
        try clear c23
        try clear c23b0
        try clear c24
        try clear c24b0
        try clear p25
        try clear q25
        try clear hx25
        try clear hf25
        try clear c26
        try clear p26
        try clear q26
        try clear hx26
        try clear c30
        try clear q30
        try clear hcz27_0
        try clear hcz27_1
        try clear hfz27_0
        try clear hfz27_1
        try clear hx13_0
        try clear hx16_0
        try clear hx25_0
        try clear hx260_0
        try clear hx260_1
        try clear hx262_0
        try clear p1
        try clear p13
        try clear p2
        try clear p25
        try clear p260
        try clear p262
        try clear p6
        try clear q1
        try clear q13
        try clear q25
        try clear q260
        try clear q262
        obtain ⟨x5_3, x9_3, rfl, HA, HK3, HO_5, HB⟩ := hrel
        have hl5_3 := (Kd.S_reads' HO_5.out).1
        rw [hl5_3] at HO_5
        (try simp only [hl5_3])
        cases gk with
        | zero => exact absurd HA.out (by simp [impl_closure.l2])
        | succ k3 =>
         have H := HA.out
         clear HA
         simp only [impl_closure.l2] at H
         by_cases c32 : x9_3 < a0
         ·rw [if_pos c32] at H
          have c32b0 : decide (x9_3 < a0) = true := decide_eq_true c32
          clear c32
          have H' := Aside0.mk H
          clear H
          go_wp2
          go_loopg [10] k3 (fun kq v10 w' => ∃ (x5_4 : List (List Bool)) (x10_4 : Int), v10 = .int .i64 x10_4 ∧ Aside0 (impl_closure.l3 kq a0 x5_4 x9_3 x10_4 = some r) ∧ Aside0 (kq ≤ k3) ∧ Aside0 (Kd.S (Kd.slice 4 Kd.bool) 94 w' w.heap.size (fun _ => True) (.slice Ao7 x5_3.length co7) x5_4) ∧ Aside0 (Below w.heap.size w w'))
          case atStart => exact ⟨(x5_3), (0), sD, H', ⟨Nat.le_refl _⟩, ⟨by (try simp only [hl5_1]); (try simp only [hl5_2]); (try simp only [hl5_3]); (with_reducible repeat (first | apply Kd.S_alloc | apply Kd.S_drewN | apply Kd.S_drew)); exact HO_5.out⟩, ⟨by repeat (first | (with_reducible first | exact HB.out | apply below_alloc | apply pw_below_drewN | apply below_drew1) | exact HB.out)⟩⟩
          case round =>
           clear H'
           try clear c1
           try clear p1
           try clear q1
           try clear hx1
           try clear c2
           try clear p2
           try clear q2
           try clear hx2
           try clear hf2
           try clear c3
           try clear c3b0
           try clear c3b1
           try clear q3
           try clear c4
           try clear c4b0
           try clear c4b1
           try clear c5
           try clear p6
           try clear c8
           try clear c8b0
           try clear c9
           try clear c9b0
           try clear c9b1
           try clear c10
           try clear c10b0
           try clear c10b1
           try clear c11
           try clear c11b0
           try clear c12
           try clear c12b0
           try clear c13
           try clear p13
           try clear q13
           try clear hx13
           try clear hf13
           try clear c16
           try clear hx16
           try clear hf16
           try clear c18
           try clear c18b0
           try clear c19
           try clear c19b0
           try clear c20
           try clear c20b0
           try clear c21
           try clear c21b0
           try clear c22
           try clear c22b0
           try clear c23
           try clear c23b0
           try clear c24
           try clear c24b0
           try clear p25
           try clear q25
           try clear hx25
           try clear hf25
           try clear c26
           try clear p26
           try clear q26
           try clear hx26
           try clear c30
           try clear q30
           try clear c32
           try clear c32b0
           try clear hcz27_0
           try clear hcz27_1
           try clear hfz27_0
           try clear hfz27_1
           try clear hx13_0
           try clear hx16_0
           try clear hx25_0
           try clear hx260_0
           try clear hx260_1
           try clear hx262_0
           try clear p1
           try clear p13
           try clear p2
           try clear p25
           try clear p26
           try clear p260
           try clear p262
           try clear p6
           try clear q1
           try clear q13
           try clear q2
           try clear q25
           try clear q26
           try clear q260
           try clear q262
           try clear q3
           try clear q30
           obtain ⟨x5_4, x10_4, rfl, HA, HK4, HO_5, HB⟩ := hrel
           have hl5_4 := (Kd.S_reads' HO_5.out).1
           rw [hl5_4] at HO_5
           (try simp only [hl5_4])
           cases gk with
           | zero => exact absurd HA.out (by simp [impl_closure.l3])
           | succ k4 =>
            have H := HA.out
            clear HA
            simp only [impl_closure.l3] at H
            by_cases c33 : x10_4 < a0
            ·rw [if_pos c33] at H
             have c33b0 : decide (x10_4 < a0) = true := decide_eq_true c33
             clear c33
             have H' := Aside0.mk H
             clear H
             go_wp2
             go_loopg [11] k4 (fun kq v11 w' => ∃ (x5_5 : List (List Bool)) (x11_5 : Int), v11 = .int .i64 x11_5 ∧ Aside0 (impl_closure.l4 kq a0 x5_5 x9_3 x10_4 x11_5 = some r) ∧ Aside0 (kq ≤ k4) ∧ Aside0 (Kd.S (Kd.slice 4 Kd.bool) 94 w' w.heap.size (fun _ => True) (.slice Ao7 x5_4.length co7) x5_5) ∧ Aside0 (Below w.heap.size w w'))
             case atStart => exact ⟨(x5_4), (0), sD, H', ⟨Nat.le_refl _⟩, ⟨by (try simp only [hl5_1]); (try simp only [hl5_2]); (try simp only [hl5_3]); (try simp only [hl5_4]); (with_reducible repeat (first | apply Kd.S_alloc | apply Kd.S_drewN | apply Kd.S_drew)); exact HO_5.out⟩, ⟨by repeat (first | (with_reducible first | exact HB.out | apply below_alloc | apply pw_below_drewN | apply below_drew1) | exact HB.out)⟩⟩
             case round =>
              clear H'
              try clear c1
              try clear p1
              try clear q1
              try clear hx1
              try clear c2
              try clear p2
              try clear q2
              try clear hx2
              try clear hf2
              try clear c3
              try clear c3b0
              try clear c3b1
              try clear q3
              try clear c4
              try clear c4b0
              try clear c4b1
              try clear c5
              try clear p6
              try clear c8
              try clear c8b0
              try clear c9
              try clear c9b0
              try clear c9b1
              try clear c10
              try clear c10b0
              try clear c10b1
              try clear c11
              try clear c11b0
              try clear c12
              try clear c12b0
              try clear c13
              try clear p13
              try clear q13
              try clear hx13
              try clear hf13
              try clear c16
              try clear hx16
              try clear hf16
              try clear c18
              try clear c18b0
              try clear c19
              try clear c19b0
              try clear c20
              try clear c20b0
              try clear c21
              try clear c21b0
              try clear c22
              try clear c22b0
              try clear c23
              try clear c23b0
              try clear c24
              try clear c24b0
              try clear p25
              try clear q25
              try clear hx25
              try clear hf25
              try clear c26
              try clear p26
              try clear q26
              try clear hx26
              try clear c30
              try clear q30
              try clear c32
              try clear c32b0
              try clear c33
              try clear c33b0
              try clear hcz27_0
              try clear hcz27_1
              try clear hfz27_0
              try clear hfz27_1
              try clear hx13_0
              try clear hx16_0
              try clear hx25_0
              try clear hx260_0
              try clear hx260_1
              try clear hx262_0
              try clear p1
              try clear p13
              try clear p2
              try clear p25
              try clear p26
              try clear p260
              try clear p262
              try clear p6
              try clear q1
              try clear q13
              try clear q2
              try clear q25
              try clear q26
              try clear q260
              try clear q262
              try clear q3
              try clear q30
              obtain ⟨x5_5, x11_5, rfl, HA, HK5, HO_5, HB⟩ := hrel
              have hl5_5 := (Kd.S_reads' HO_5.out).1
              rw [hl5_5] at HO_5
              (try simp only [hl5_5])
              cases gk with
              | zero => exact absurd HA.out (by simp [impl_closure.l4])
              | succ k5 =>
               have H := HA.out
               clear HA
               simp only [impl_closure.l4] at H
               by_cases c34 : x11_5 < a0
               ·rw [if_pos c34] at H
                have c34b0 : decide (x11_5 < a0) = true := decide_eq_true c34
                clear c34
                by_cases c35 : 0 ≤ x10_4; rotate_left
                ·rw [if_neg c35] at H; exact absurd H (by simp)
                rw [if_pos c35] at H
                have c35b0 : decide (0 ≤ x10_4) = true := decide_eq_true c35
                clear c35
                by_cases c36 : x10_4 < (x5_5.length : Int); rotate_left
                ·rw [if_neg c36] at H; exact absurd H (by simp)
                rw [if_pos c36] at H
                have c36b0 : decide (x10_4 < (x5_5.length : Int)) = true := decide_eq_true c36
                clear c36
                by_cases c37 : 0 ≤ x11_5; rotate_left
                ·rw [if_neg c37] at H; exact absurd H (by simp)
                rw [if_pos c37] at H
                have c37b0 : decide (0 ≤ x11_5) = true := decide_eq_true c37
                clear c37
                by_cases c38 : x11_5 < ((rd_L5 x5_5 x10_4).length : Int); rotate_left
                ·rw [if_neg c38] at H; exact absurd H (by simp)
                rw [if_pos c38] at H
                have c38b0 : decide (x11_5 < ((rd_L5 x5_5 x10_4).length : Int)) = true := decide_eq_true c38
                clear c38
                obtain ⟨bq39, hbq39⟩ : ∃ b_ : Bool, b_ = (rdOf false (rd_L5 x5_5 x10_4) x11_5) := ⟨_, rfl⟩
                replace H : (if bq39 = true then (impl_closure.l4 k5 a0 (x5_5.set (x10_4 : Int).toNat ((rd_L5 x5_5 x10_4).set (x11_5 : Int).toNat true)) x9_3 x10_4 (wrap64 (x11_5 + 1))) else (if 0 ≤ x9_3 then (if x9_3 < ((rd_L5 x5_5 x10_4).length : Int) then (if rdOf false (rd_L5 x5_5 x10_4) x9_3 = true then (if x9_3 < (x5_5.length : Int) then (if x11_5 < ((rd_L5 x5_5 x9_3).length : Int) then (impl_closure.l4 k5 a0 (x5_5.set (x10_4 : Int).toNat ((rd_L5 x5_5 x10_4).set (x11_5 : Int).toNat (rdOf false (rd_L5 x5_5 x9_3) x11_5))) x9_3 x10_4 (wrap64 (x11_5 + 1))) else (none)) else (none)) else (impl_closure.l4 k5 a0 (x5_5.set (x10_4 : Int).toNat ((rd_L5 x5_5 x10_4).set (x11_5 : Int).toNat false)) x9_3 x10_4 (wrap64 (x11_5 + 1)))) else (none)) else (none))) = some r := by rw [← hbq39] at H; exact H
                have Nbq39 := Aside0.mk hbq39
                clear hbq39
                by_cases c40 : bq39 = true
                ·subst c40
                 have H1 : (impl_closure.l4 k5 a0 (x5_5.set (x10_4 : Int).toNat ((rd_L5 x5_5 x10_4).set (x11_5 : Int).toNat true)) x9_3 x10_4 (wrap64 (x11_5 + 1))) = some r := by rw [if_pos rfl] at H; exact H
                 clear H
                 have H := H1
                 clear H1
                 obtain ⟨y269, hy269⟩ : ∃ y_ : List Bool, y_ = ((rd_L5 x5_5 x10_4).set (x11_5 : Int).toNat true) := ⟨_, rfl⟩
                 replace H : (impl_closure.l4 k5 a0 (x5_5.set (x10_4 : Int).toNat y269) x9_3 x10_4 (wrap64 (x11_5 + 1))) = some r := by first | (rw [hy269]; with_reducible exact H) | (have H2_ := (Option.bind_some _ _).symm.trans H; rw [hy269]; with_reducible exact H2_) | (have H2_ := (Option.bind_some _ _).symm.trans H; with_reducible exact H2_) | with_reducible exact H | (rw [hy269]; exact H) | exact H
                 have Ny269 := Aside0.mk hy269
                 clear hy269
                 obtain ⟨y271, hy271⟩ : ∃ y_ : List (List Bool), y_ = (x5_5.set (x10_4 : Int).toNat y269) := ⟨_, rfl⟩
                 replace H : (impl_closure.l4 k5 a0 y271 x9_3 x10_4 (wrap64 (x11_5 + 1))) = some r := by first | (rw [hy271]; with_reducible exact H) | (have H2_ := (Option.bind_some _ _).symm.trans H; rw [hy271]; with_reducible exact H2_) | (have H2_ := (Option.bind_some _ _).symm.trans H; with_reducible exact H2_) | with_reducible exact H | (rw [hy271]; exact H) | exact H
                 have Ny271 := Aside0.mk hy271
                 clear hy271
                 have H' := Aside0.mk H
                 clear H
                 try go_wp2
                 have n0_ := Aside0.mk (Kd.S_drew HO_5.out)
                 have n1_ := Aside0.mk (below_drew1 HB.out)
                 clear HO_5
                 clear HB
                 have HO_5 := n0_
                 have HB := n1_
                 clear n0_ n1_
                 have p266 : 0 ≤ (x10_4 : Int) := oD
                 have q266 : x10_4 < (x5_5.length : Int) := oD
                 obtain ⟨ad266, A266_0, c266_0, e266, hx266_0, hl266_0, hi266_0⟩ := at_L5 (Kd.S_reads' HO_5.out).2.2 x10_4 p266 q266
                 cases e266
                 obtain ⟨ce266, hce266, hMe266, hcc266⟩ := Kd.S_get HO_5.out [] x10_4 p266 (by first | exact q266 | exact oD | (have e_ := (Kd.S_reads' HO_5.out).1; omega))
                 obtain ⟨ve266_0, rfl, ge266_0⟩ := hMe266
                 have hv266_0 := hcc266 0 _ rfl
                 rw [Nat.add_zero, show ((Kd.slice 4 Kd.bool)).sz = 1 from rfl, Nat.mul_one] at hv266_0
                 replace hv266_0 := Option.some.inj (hv266_0.symm.trans hx266_0)
                 rw [hv266_0] at ge266_0
                 have HL266_0 := Aside0.mk (show Kd.R Kd.bool 4 _ _ _ _ (rd_L5 x5_5 x10_4) from ge266_0)
                 clear hv266_0 ge266_0
                 have HX266_0 := Aside0.mk hx266_0
                 clear hcc266 hce266
                 have HR266_0 := Aside0.mk hi266_0
                 have HC266_0 := Aside0.mk hl266_0
                 clear hi266_0 hl266_0
                 replace p266 := eq_true p266
                 replace q266 := eq_true q266
                 have p267 : 0 ≤ (x10_4 : Int) := oD
                 have q267 : x10_4 < (x5_5.length : Int) := oD
                 obtain ⟨ad267, A267_0, c267_0, e267, hx267_0, hl267_0, hi267_0⟩ := at_L5 (Kd.S_reads' HO_5.out).2.2 x10_4 p267 q267
                 obtain rfl : ad266 = ad267 := (by injection e267)
                 obtain ⟨ce267, hce267, hMe267, hcc267⟩ := Kd.S_get HO_5.out [] x10_4 p267 (by first | exact q267 | exact oD | (have e_ := (Kd.S_reads' HO_5.out).1; omega))
                 obtain ⟨ve267_0, rfl, ge267_0⟩ := hMe267
                 have hv267_0 := hcc267 0 _ rfl
                 rw [Nat.add_zero, show ((Kd.slice 4 Kd.bool)).sz = 1 from rfl, Nat.mul_one] at hv267_0
                 replace hv267_0 := Option.some.inj (hv267_0.symm.trans hx267_0)
                 rw [hv267_0] at ge267_0
                 have HL267_0 := Aside0.mk (show Kd.R Kd.bool 4 _ _ _ _ (rd_L5 x5_5 x10_4) from ge267_0)
                 clear hv267_0 ge267_0
                 have HX267_0 := Aside0.mk hx267_0
                 clear hcc267 hce267
                 have HR267_0 := Aside0.mk hi267_0
                 have HC267_0 := Aside0.mk hl267_0
                 clear hi267_0 hl267_0
                 replace p267 := eq_true p267
                 replace q267 := eq_true q267
                 have ea_ := Option.some.inj (hx266_0.symm.trans hx267_0)
                 injection ea_ with ea_ en_ ec_
                 subst ea_
                 subst ec_
                 clear en_
                 have p268 : 0 ≤ (x11_5 : Int) := oD
                 have q268 : x11_5 < ((rd_L5 x5_5 x10_4).length : Int) := oD
                 obtain ⟨ad268, e268, hx268_0⟩ := Kd.at_bool (by repeat (first | (with_reducible exact HR267_0.out) | (with_reducible refine Kd.C_alloc ?_ _) | (with_reducible refine Kd.C_drewN ?_ _) | (with_reducible refine Kd.C_drew ?_) | exact HR267_0.out)) x11_5 p268 q268
                 (try rw [← Nbq39.out] at hx268_0)
                 cases e268
                 replace p268 := eq_true p268
                 replace q268 := eq_true q268
                 have p41 : 0 ≤ (x11_5 : Int) := oD
                 have q41 : (x11_5 : Int) < (((rd_L5 x5_5 x10_4).length : Int) : Int) := oD
                 obtain ⟨go41, co41, eo41, gb41, gl41, cl41, HG41⟩ := Kd.R_form HL266_0.out (by omega)
                 (first | cases eo41 | (injection eo41 with ea_ en_ ec_; (first | subst ea_ | (injection ea_ with ea_; subst ea_)); subst ec_; clear en_))
                 have GB41 := Aside0.mk gb41
                 have GG41 := Aside0.mk HG41
                 clear gb41 gl41 HG41
                 (first | simp only [add_plain] at hx268_0 | skip)
                 obtain ⟨hx41_0, hf41_0⟩ := Kd.R_celln false HL266_0.out (x11_5 : Int) p41 q41
                 replace p41 := eq_true p41
                 replace q41 := eq_true q41
                 have hq43 : (x10_4 : Int) < (x5_5.length : Int) := (by have h_ : (x10_4 : Int) < ((x5_5.length : Int) : Int) := oD; first | exact h_ | (have e_ := (Kd.S_reads' HO_5.out).1; omega) | simpa only [List.length_set, List.length_set] using h_)
                 obtain ⟨oki43, ce43, hcl43, hM43, hcc43, hok43, hbk43⟩ := Kd.S_borrow HO_5.out [] (x10_4 : Int) (oD) hq43
                 obtain ⟨ve43_0, rfl, ge43_0⟩ := hM43
                 have hv43 := hcc43 0 _ rfl
                 rw [Nat.add_zero, show ((Kd.slice 4 Kd.bool)).sz = 1 from rfl, Nat.mul_one] at hv43
                 replace hv43 := Option.some.inj (hv43.symm.trans HX266_0.out)
                 subst hv43
                 clear hcc43 hcl43
                 replace ge43_0 := (show Kd.R Kd.bool 4 _ _ _ _ (rd_L5 x5_5 x10_4) from ge43_0)
                 have HP43 := Kd.R_putg ge43_0 (x11_5 : Int) true
                 rw [← Ny269.out] at HP43
                 have HS43 := hbk43 HP43.2 (fun k_ e_ => by injection e_ with e_; subst e_; exact ge43_0.1 _ rfl) (x' := y269) (Kd.M_row HP43.1)
                 rw [← Ny271.out] at HS43
                 have HQ43 := Aside0.mk HS43
                 clear HP43 HS43 hbk43 hok43
                 refine start_ (n := 32) (S := fun w' => w'.cell? (ad266.add (x10_4).toNat) = some (.slice (some ⟨go41, 0, none⟩) (rd_L5 x5_5 x10_4).length c266_0) ∧ w'.cell? (ad266.add (x10_4).toNat) = some (.slice (some ⟨go41, 0, none⟩) (rd_L5 x5_5 x10_4).length c266_0) ∧ w'.cell? ⟨go41, (x11_5).toNat, none⟩ = some (.bool true)) (ds := [31]) (bA 32 0) (by kernel_rfl) rfl rfl ⟨hx266_0, hx267_0, hx268_0⟩ (fun hHeld => ?_); refine with_tabW impl_closure.tab21 impl_closure.bits21 (fun HT_ HW_ => ?_)
                 generalize wr.drew = w42 at HO_5 HB GG41 HL266_0 HL267_0 HQ43 HR266_0 HR267_0 HX266_0 HX267_0 hf41_0 hx266_0 hx267_0 hx268_0 hx41_0 hHeld ⊢
                 refine pU 0 55 (bA 32 1) ?_
                 refine pU 1 56 (bA 32 3) ?_
                 refine pU 2 57 (bA 32 7) ?_
                 refine pU 4 59 (bA 32 23) ?_
                 refine pU 5 60 (bA 32 55) ?_
                 refine pU 6 61 (bA 32 119) ?_
                 refine pU 7 62 (bA 32 247) ?_
                 refine pU 9 64 (bA 32 759) ?_
                 refine tU 3 58 (bA 32 767) ?_
                 refine tU 8 63 (bA 32 1023) ?_
                 refine pU 10 65 (bA 32 2047) ?_
                 refine tU 11 66 (bA 32 4095) ?_
                 refine pU 12 67 (bA 32 8191) ?_
                 refine nU 13 68 (bA 32 16383) ?_
                 refine nU 14 69 (bA 32 32767) ?_
                 refine nU 15 70 (bA 32 65535) ?_
                 refine nU 16 71 (bA 32 131071) ?_
                 refine nU 17 72 (bA 32 262143) ?_
                 refine nU 18 73 (bA 32 524287) ?_
                 refine nU 19 74 (bA 32 1048575) ?_
                 refine nU 20 75 (bA 32 2097151) ?_
                 refine nU 21 76 (bA 32 4194303) ?_
                 refine nU 22 77 (bA 32 8388607) ?_
                 refine nU 23 78 (bA 32 16777215) ?_
                 refine nU 24 79 (bA 32 33554431) ?_
                 refine nU 25 80 (bA 32 67108863) ?_
                 refine nU 26 81 (bA 32 134217727) ?_
                 refine nU 27 82 (bA 32 268435455) ?_
                 refine nU 28 83 (bA 32 536870911) ?_
                 refine pU 29 84 (bA 32 1073741823) ?_
                 refine pU 30 85 (bA 32 2147483647) ?_
                 refine last_ (i := 31) (N := none) (bA 32 4294967295) rfl rfl (one_of HT_.out (by kernel_rfl)) (by decide) (fun K hK => ?_)
                 refine skip_ (w1 := ?_) (by rfl) rfl ?_ ?_
                 rotate_left
                 ·go_simp
                  rfl
                 refine hK.out _ _ ?_
                 clear hK K
                 refine done_ (done_of HT_.out (by kernel_rfl)) ?_
                 try go_wp2
                 (try simp only [← hl5_5])
                 go_roundg k5
                 case measure => have := HK1.out; have := HK2.out; have := HK3.out; have := HK4.out; have := HK5.out; omega
                 case rel => exact ⟨(y271), (wrap64 (x11_5 + 1)), sD, H', ⟨by have := HK1.out; have := HK2.out; have := HK3.out; have := HK4.out; have := HK5.out; omega⟩, ⟨by (try simp only [hl5_1]); (try simp only [hl5_2]); (try simp only [hl5_3]); (try simp only [hl5_4]); (try simp only [hl5_5]); (with_reducible repeat (first | apply Kd.S_alloc | apply Kd.S_drewN | apply Kd.S_drew)); exact HQ43.out⟩, ⟨by repeat (first | (with_reducible first | exact HB.out | apply below_alloc | apply pw_below_drewN | apply below_drew1 | refine below_set ?_ GB41.out) | exact HB.out)⟩⟩
                ·replace c40 := Bool.eq_false_iff.mpr c40
                 subst c40
                 have H1 : (if 0 ≤ x9_3 then (if x9_3 < ((rd_L5 x5_5 x10_4).length : Int) then (if rdOf false (rd_L5 x5_5 x10_4) x9_3 = true then (if x9_3 < (x5_5.length : Int) then (if x11_5 < ((rd_L5 x5_5 x9_3).length : Int) then (impl_closure.l4 k5 a0 (x5_5.set (x10_4 : Int).toNat ((rd_L5 x5_5 x10_4).set (x11_5 : Int).toNat (rdOf false (rd_L5 x5_5 x9_3) x11_5))) x9_3 x10_4 (wrap64 (x11_5 + 1))) else (none)) else (none)) else (impl_closure.l4 k5 a0 (x5_5.set (x10_4 : Int).toNat ((rd_L5 x5_5 x10_4).set (x11_5 : Int).toNat false)) x9_3 x10_4 (wrap64 (x11_5 + 1)))) else (none)) else (none)) = some r := by rw [if_neg (show ¬ (false = true) by decide)] at H; exact H
                 clear H
                 have H := H1
                 clear H1
                 by_cases c45 : 0 ≤ x9_3; rotate_left
                 ·rw [if_neg c45] at H; exact absurd H (by simp)
                 rw [if_pos c45] at H
                 have c45b0 : decide (0 ≤ x9_3) = true := decide_eq_true c45
                 clear c45
                 by_cases c46 : x9_3 < ((rd_L5 x5_5 x10_4).length : Int); rotate_left
                 ·rw [if_neg c46] at H; exact absurd H (by simp)
                 rw [if_pos c46] at H
                 have c46b0 : decide (x9_3 < ((rd_L5 x5_5 x10_4).length : Int)) = true := decide_eq_true c46
                 clear c46
                 obtain ⟨bq47, hbq47⟩ : ∃ b_ : Bool, b_ = (rdOf false (rd_L5 x5_5 x10_4) x9_3) := ⟨_, rfl⟩
                 replace H : (if bq47 = true then (if x9_3 < (x5_5.length : Int) then (if x11_5 < ((rd_L5 x5_5 x9_3).length : Int) then (impl_closure.l4 k5 a0 (x5_5.set (x10_4 : Int).toNat ((rd_L5 x5_5 x10_4).set (x11_5 : Int).toNat (rdOf false (rd_L5 x5_5 x9_3) x11_5))) x9_3 x10_4 (wrap64 (x11_5 + 1))) else (none)) else (none)) else (impl_closure.l4 k5 a0 (x5_5.set (x10_4 : Int).toNat ((rd_L5 x5_5 x10_4).set (x11_5 : Int).toNat false)) x9_3 x10_4 (wrap64 (x11_5 + 1)))) = some r := by rw [← hbq47] at H; exact H
                 have Nbq47 := Aside0.mk hbq47
                 clear hbq47
                 by_cases c48 : bq47 = true
                 ·subst c48
                  have H1 : (if x9_3 < (x5_5.length : Int) then (if x11_5 < ((rd_L5 x5_5 x9_3).length : Int) then (impl_closure.l4 k5 a0 (x5_5.set (x10_4 : Int).toNat ((rd_L5 x5_5 x10_4).set (x11_5 : Int).toNat (rdOf false (rd_L5 x5_5 x9_3) x11_5))) x9_3 x10_4 (wrap64 (x11_5 + 1))) else (none)) else (none)) = some r := by rw [if_pos rfl] at H; exact H
                  clear H
                  have H := H1
                  clear H1
                  by_cases c49 : x9_3 < (x5_5.length : Int); rotate_left
                  ·rw [if_neg c49] at H; exact absurd H (by simp)
                  rw [if_pos c49] at H
                  have c49b0 : decide (x9_3 < (x5_5.length : Int)) = true := decide_eq_true c49
                  clear c49
                  by_cases c50 : x11_5 < ((rd_L5 x5_5 x9_3).length : Int); rotate_left
                  ·rw [if_neg c50] at H; exact absurd H (by simp)
                  rw [if_pos c50] at H
                  have c50b0 : decide (x11_5 < ((rd_L5 x5_5 x9_3).length : Int)) = true := decide_eq_true c50
                  clear c50
                  obtain ⟨y276, hy276⟩ : ∃ y_ : List Bool, y_ = ((rd_L5 x5_5 x10_4).set (x11_5 : Int).toNat (rdOf false (rd_L5 x5_5 x9_3) x11_5)) := ⟨_, rfl⟩
                  replace H : (impl_closure.l4 k5 a0 (x5_5.set (x10_4 : Int).toNat y276) x9_3 x10_4 (wrap64 (x11_5 + 1))) = some r := by first | (rw [hy276]; with_reducible exact H) | (have H2_ := (Option.bind_some _ _).symm.trans H; rw [hy276]; with_reducible exact H2_) | (have H2_ := (Option.bind_some _ _).symm.trans H; with_reducible exact H2_) | with_reducible exact H | (rw [hy276]; exact H) | exact H
                  have Ny276 := Aside0.mk hy276
                  clear hy276
                  obtain ⟨y278, hy278⟩ : ∃ y_ : List (List Bool), y_ = (x5_5.set (x10_4 : Int).toNat y276) := ⟨_, rfl⟩
                  replace H : (impl_closure.l4 k5 a0 y278 x9_3 x10_4 (wrap64 (x11_5 + 1))) = some r := by first | (rw [hy278]; with_reducible exact H) | (have H2_ := (Option.bind_some _ _).symm.trans H; rw [hy278]; with_reducible exact H2_) | (have H2_ := (Option.bind_some _ _).symm.trans H; with_reducible exact H2_) | with_reducible exact H | (rw [hy278]; exact H) | exact H
                  have Ny278 := Aside0.mk hy278
                  clear hy278
                  have H' := Aside0.mk H
                  clear H
                  try go_wp2
                  have n0_ := Aside0.mk (Kd.S_drew HO_5.out)
                  have n1_ := Aside0.mk (below_drew1 HB.out)
                  clear HO_5
                  clear HB
                  have HO_5 := n0_
                  have HB := n1_
                  clear n0_ n1_
                  have p266 : 0 ≤ (x10_4 : Int) := oD
                  have q266 : x10_4 < (x5_5.length : Int) := oD
                  obtain ⟨ad266, A266_0, c266_0, e266, hx266_0, hl266_0, hi266_0⟩ := at_L5 (Kd.S_reads' HO_5.out).2.2 x10_4 p266 q266
                  cases e266
                  obtain ⟨ce266, hce266, hMe266, hcc266⟩ := Kd.S_get HO_5.out [] x10_4 p266 (by first | exact q266 | exact oD | (have e_ := (Kd.S_reads' HO_5.out).1; omega))
                  obtain ⟨ve266_0, rfl, ge266_0⟩ := hMe266
                  have hv266_0 := hcc266 0 _ rfl
                  rw [Nat.add_zero, show ((Kd.slice 4 Kd.bool)).sz = 1 from rfl, Nat.mul_one] at hv266_0
                  replace hv266_0 := Option.some.inj (hv266_0.symm.trans hx266_0)
                  rw [hv266_0] at ge266_0
                  have HL266_0 := Aside0.mk (show Kd.R Kd.bool 4 _ _ _ _ (rd_L5 x5_5 x10_4) from ge266_0)
                  clear hv266_0 ge266_0
                  have HX266_0 := Aside0.mk hx266_0
                  clear hcc266 hce266
                  have HR266_0 := Aside0.mk hi266_0
                  have HC266_0 := Aside0.mk hl266_0
                  clear hi266_0 hl266_0
                  replace p266 := eq_true p266
                  replace q266 := eq_true q266
                  have p267 : 0 ≤ (x10_4 : Int) := oD
                  have q267 : x10_4 < (x5_5.length : Int) := oD
                  obtain ⟨ad267, A267_0, c267_0, e267, hx267_0, hl267_0, hi267_0⟩ := at_L5 (Kd.S_reads' HO_5.out).2.2 x10_4 p267 q267
                  obtain rfl : ad266 = ad267 := (by injection e267)
                  obtain ⟨ce267, hce267, hMe267, hcc267⟩ := Kd.S_get HO_5.out [] x10_4 p267 (by first | exact q267 | exact oD | (have e_ := (Kd.S_reads' HO_5.out).1; omega))
                  obtain ⟨ve267_0, rfl, ge267_0⟩ := hMe267
                  have hv267_0 := hcc267 0 _ rfl
                  rw [Nat.add_zero, show ((Kd.slice 4 Kd.bool)).sz = 1 from rfl, Nat.mul_one] at hv267_0
                  replace hv267_0 := Option.some.inj (hv267_0.symm.trans hx267_0)
                  rw [hv267_0] at ge267_0
                  have HL267_0 := Aside0.mk (show Kd.R Kd.bool 4 _ _ _ _ (rd_L5 x5_5 x10_4) from ge267_0)
                  clear hv267_0 ge267_0
                  have HX267_0 := Aside0.mk hx267_0
                  clear hcc267 hce267
                  have HR267_0 := Aside0.mk hi267_0
                  have HC267_0 := Aside0.mk hl267_0
                  clear hi267_0 hl267_0
                  replace p267 := eq_true p267
                  replace q267 := eq_true q267
                  have ea_ := Option.some.inj (hx266_0.symm.trans hx267_0)
                  injection ea_ with ea_ en_ ec_
                  subst ea_
                  subst ec_
                  clear en_
                  have p268 : 0 ≤ (x11_5 : Int) := oD
                  have q268 : x11_5 < ((rd_L5 x5_5 x10_4).length : Int) := oD
                  obtain ⟨ad268, e268, hx268_0⟩ := Kd.at_bool (by repeat (first | (with_reducible exact HR267_0.out) | (with_reducible refine Kd.C_alloc ?_ _) | (with_reducible refine Kd.C_drewN ?_ _) | (with_reducible refine Kd.C_drew ?_) | exact HR267_0.out)) x11_5 p268 q268
                  (try rw [← Nbq39.out] at hx268_0)
                  (try rw [← Nbq47.out] at hx268_0)
                  cases e268
                  replace p268 := eq_true p268
                  replace q268 := eq_true q268
                  have p272 : 0 ≤ (x10_4 : Int) := oD
                  have q272 : x10_4 < (x5_5.length : Int) := oD
                  obtain ⟨ad272, A272_0, c272_0, e272, hx272_0, hl272_0, hi272_0⟩ := at_L5 (Kd.S_reads' HO_5.out).2.2 x10_4 p272 q272
                  obtain rfl : ad266 = ad272 := (by injection e272)
                  obtain ⟨ce272, hce272, hMe272, hcc272⟩ := Kd.S_get HO_5.out [] x10_4 p272 (by first | exact q272 | exact oD | (have e_ := (Kd.S_reads' HO_5.out).1; omega))
                  obtain ⟨ve272_0, rfl, ge272_0⟩ := hMe272
                  have hv272_0 := hcc272 0 _ rfl
                  rw [Nat.add_zero, show ((Kd.slice 4 Kd.bool)).sz = 1 from rfl, Nat.mul_one] at hv272_0
                  replace hv272_0 := Option.some.inj (hv272_0.symm.trans hx272_0)
                  rw [hv272_0] at ge272_0
                  have HL272_0 := Aside0.mk (show Kd.R Kd.bool 4 _ _ _ _ (rd_L5 x5_5 x10_4) from ge272_0)
                  clear hv272_0 ge272_0
                  have HX272_0 := Aside0.mk hx272_0
                  clear hcc272 hce272
                  have HR272_0 := Aside0.mk hi272_0
                  have HC272_0 := Aside0.mk hl272_0
                  clear hi272_0 hl272_0
                  replace p272 := eq_true p272
                  replace q272 := eq_true q272
                  have ea_ := Option.some.inj (hx266_0.symm.trans hx272_0)
                  injection ea_ with ea_ en_ ec_
                  subst ea_
                  subst ec_
                  clear en_
                  have p273 : 0 ≤ (x9_3 : Int) := oD
                  have q273 : x9_3 < ((rd_L5 x5_5 x10_4).length : Int) := oD
                  obtain ⟨ad273, e273, hx273_0⟩ := Kd.at_bool (by repeat (first | (with_reducible exact HR272_0.out) | (with_reducible refine Kd.C_alloc ?_ _) | (with_reducible refine Kd.C_drewN ?_ _) | (with_reducible refine Kd.C_drew ?_) | exact HR272_0.out)) x9_3 p273 q273
                  (try rw [← Nbq39.out] at hx273_0)
                  (try rw [← Nbq47.out] at hx273_0)
                  cases e273
                  replace p273 := eq_true p273
                  replace q273 := eq_true q273
                  have p274 : 0 ≤ (x9_3 : Int) := oD
                  have q274 : x9_3 < (x5_5.length : Int) := oD
                  obtain ⟨ad274, A274_0, c274_0, e274, hx274_0, hl274_0, hi274_0⟩ := at_L5 (Kd.S_reads' HO_5.out).2.2 x9_3 p274 q274
                  obtain rfl : ad266 = ad274 := (by injection e274)
                  obtain ⟨ce274, hce274, hMe274, hcc274⟩ := Kd.S_get HO_5.out [] x9_3 p274 (by first | exact q274 | exact oD | (have e_ := (Kd.S_reads' HO_5.out).1; omega))
                  obtain ⟨ve274_0, rfl, ge274_0⟩ := hMe274
                  have hv274_0 := hcc274 0 _ rfl
                  rw [Nat.add_zero, show ((Kd.slice 4 Kd.bool)).sz = 1 from rfl, Nat.mul_one] at hv274_0
                  replace hv274_0 := Option.some.inj (hv274_0.symm.trans hx274_0)
                  rw [hv274_0] at ge274_0
                  have HL274_0 := Aside0.mk (show Kd.R Kd.bool 4 _ _ _ _ (rd_L5 x5_5 x9_3) from ge274_0)
                  clear hv274_0 ge274_0
                  have HX274_0 := Aside0.mk hx274_0
                  clear hcc274 hce274
                  have HR274_0 := Aside0.mk hi274_0
                  have HC274_0 := Aside0.mk hl274_0
                  clear hi274_0 hl274_0
                  replace p274 := eq_true p274
                  replace q274 := eq_true q274
                  have p275 : 0 ≤ (x11_5 : Int) := oD
                  have q275 : x11_5 < ((rd_L5 x5_5 x9_3).length : Int) := oD
                  obtain ⟨ad275, e275, hx275_0⟩ := Kd.at_bool (by repeat (first | (with_reducible exact HR274_0.out) | (with_reducible refine Kd.C_alloc ?_ _) | (with_reducible refine Kd.C_drewN ?_ _) | (with_reducible refine Kd.C_drew ?_) | exact HR274_0.out)) x11_5 p275 q275
                  (try rw [← Nbq39.out] at hx275_0)
                  (try rw [← Nbq47.out] at hx275_0)
                  cases e275
                  replace p275 := eq_true p275
                  replace q275 := eq_true q275
                  have p51 : 0 ≤ (x11_5 : Int) := oD
                  have q51 : (x11_5 : Int) < (((rd_L5 x5_5 x10_4).length : Int) : Int) := oD
                  obtain ⟨go51, co51, eo51, gb51, gl51, cl51, HG51⟩ := Kd.R_form HL266_0.out (by omega)
                  (first | cases eo51 | (injection eo51 with ea_ en_ ec_; (first | subst ea_ | (injection ea_ with ea_; subst ea_)); subst ec_; clear en_))
                  have GB51 := Aside0.mk gb51
                  have GG51 := Aside0.mk HG51
                  clear gb51 gl51 HG51
                  (first | simp only [add_plain] at hx273_0 | skip)
                  (try simp only [add_plain] at hx268_0)
                  obtain ⟨hx51_0, hf51_0⟩ := Kd.R_celln false HL266_0.out (x11_5 : Int) p51 q51
                  replace p51 := eq_true p51
                  replace q51 := eq_true q51
                  have hq53 : (x10_4 : Int) < (x5_5.length : Int) := (by have h_ : (x10_4 : Int) < ((x5_5.length : Int) : Int) := oD; first | exact h_ | (have e_ := (Kd.S_reads' HO_5.out).1; omega) | simpa only [List.length_set, List.length_set] using h_)
                  obtain ⟨oki53, ce53, hcl53, hM53, hcc53, hok53, hbk53⟩ := Kd.S_borrow HO_5.out [] (x10_4 : Int) (oD) hq53
                  obtain ⟨ve53_0, rfl, ge53_0⟩ := hM53
                  have hv53 := hcc53 0 _ rfl
                  rw [Nat.add_zero, show ((Kd.slice 4 Kd.bool)).sz = 1 from rfl, Nat.mul_one] at hv53
                  replace hv53 := Option.some.inj (hv53.symm.trans HX266_0.out)
                  subst hv53
                  clear hcc53 hcl53
                  replace ge53_0 := (show Kd.R Kd.bool 4 _ _ _ _ (rd_L5 x5_5 x10_4) from ge53_0)
                  have HP53 := Kd.R_putg ge53_0 (x11_5 : Int) (rdOf false (rd_L5 x5_5 x9_3) x11_5)
                  rw [← Ny276.out] at HP53
                  have HS53 := hbk53 HP53.2 (fun k_ e_ => by injection e_ with e_; subst e_; exact ge53_0.1 _ rfl) (x' := y276) (Kd.M_row HP53.1)
                  rw [← Ny278.out] at HS53
                  have HQ53 := Aside0.mk HS53
                  clear HP53 HS53 hbk53 hok53
                  refine start_ (n := 32) (S := fun w' => w'.cell? (ad266.add (x10_4).toNat) = some (.slice (some ⟨go51, 0, none⟩) (rd_L5 x5_5 x10_4).length c266_0) ∧ w'.cell? (ad266.add (x10_4).toNat) = some (.slice (some ⟨go51, 0, none⟩) (rd_L5 x5_5 x10_4).length c266_0) ∧ w'.cell? ⟨go51, (x11_5).toNat, none⟩ = some (.bool false) ∧ w'.cell? (ad266.add (x10_4).toNat) = some (.slice (some ⟨go51, 0, none⟩) (rd_L5 x5_5 x10_4).length c266_0) ∧ w'.cell? ⟨go51, (x9_3).toNat, none⟩ = some (.bool true) ∧ w'.cell? (ad266.add (x9_3).toNat) = some (.slice (some ad275) (rd_L5 x5_5 x9_3).length c274_0) ∧ w'.cell? (ad275.add (x11_5).toNat) = some (.bool (rdOf false (rd_L5 x5_5 x9_3) x11_5))) (ds := [31]) (bA 32 0) (by kernel_rfl) rfl rfl ⟨hx266_0, hx267_0, hx268_0, hx272_0, hx273_0, hx274_0, hx275_0⟩ (fun hHeld => ?_); refine with_tabW impl_closure.tab21 impl_closure.bits21 (fun HT_ HW_ => ?_)
                  generalize wr.drew = w52 at HO_5 HB GG51 HL266_0 HL267_0 HL272_0 HL274_0 HQ53 HR266_0 HR267_0 HR272_0 HR274_0 HX266_0 HX267_0 HX272_0 HX274_0 hf51_0 hx266_0 hx267_0 hx268_0 hx272_0 hx273_0 hx274_0 hx275_0 hx51_0 hHeld ⊢
                  refine pU 0 55 (bA 32 1) ?_
                  refine pU 1 56 (bA 32 3) ?_
                  refine pU 2 57 (bA 32 7) ?_
                  refine pU 4 59 (bA 32 23) ?_
                  refine pU 5 60 (bA 32 55) ?_
                  refine pU 6 61 (bA 32 119) ?_
                  refine pU 7 62 (bA 32 247) ?_
                  refine pU 9 64 (bA 32 759) ?_
                  refine tU 3 58 (bA 32 767) ?_
                  refine tU 8 63 (bA 32 1023) ?_
                  refine pU 10 65 (bA 32 2047) ?_
                  refine tU 11 66 (bA 32 4095) ?_
                  refine pU 12 67 (bA 32 8191) ?_
                  refine pU 13 68 (bA 32 16383) ?_
                  refine pU 14 69 (bA 32 32767) ?_
                  refine pU 15 70 (bA 32 65535) ?_
                  refine pU 17 72 (bA 32 196607) ?_
                  refine tU 16 71 (bA 32 262143) ?_
                  refine pU 18 73 (bA 32 524287) ?_
                  refine tU 19 74 (bA 32 1048575) ?_
                  refine pU 20 75 (bA 32 2097151) ?_
                  refine pU 21 76 (bA 32 4194303) ?_
                  refine pU 22 77 (bA 32 8388607) ?_
                  refine pU 23 78 (bA 32 16777215) ?_
                  refine pU 25 80 (bA 32 50331647) ?_
                  refine tU 24 79 (bA 32 67108863) ?_
                  refine pU 26 81 (bA 32 134217727) ?_
                  refine tU 27 82 (bA 32 268435455) ?_
                  refine pU 28 83 (bA 32 536870911) ?_
                  refine pU 29 84 (bA 32 1073741823) ?_
                  refine pU 30 85 (bA 32 2147483647) ?_
                  refine last_ (i := 31) (N := none) (bA 32 4294967295) rfl rfl (one_of HT_.out (by kernel_rfl)) (by decide) (fun K hK => ?_)
                  refine skip_ (w1 := ?_) (by rfl) rfl ?_ ?_
                  rotate_left
                  ·go_simp
                   rfl
                  refine hK.out _ _ ?_
                  clear hK K
                  refine done_ (done_of HT_.out (by kernel_rfl)) ?_
                  try go_wp2
                  (try simp only [← hl5_5])
                  go_roundg k5
                  case measure => have := HK1.out; have := HK2.out; have := HK3.out; have := HK4.out; have := HK5.out; omega
                  case rel => exact ⟨(y278), (wrap64 (x11_5 + 1)), sD, H', ⟨by have := HK1.out; have := HK2.out; have := HK3.out; have := HK4.out; have := HK5.out; omega⟩, ⟨by (try simp only [hl5_1]); (try simp only [hl5_2]); (try simp only [hl5_3]); (try simp only [hl5_4]); (try simp only [hl5_5]); (with_reducible repeat (first | apply Kd.S_alloc | apply Kd.S_drewN | apply Kd.S_drew)); exact HQ53.out⟩, ⟨by repeat (first | (with_reducible first | exact HB.out | apply below_alloc | apply pw_below_drewN | apply below_drew1 | refine below_set ?_ GB51.out) | exact HB.out)⟩⟩
                 ·replace c48 := Bool.eq_false_iff.mpr c48
                  subst c48
                  have H1 : (impl_closure.l4 k5 a0 (x5_5.set (x10_4 : Int).toNat ((rd_L5 x5_5 x10_4).set (x11_5 : Int).toNat false)) x9_3 x10_4 (wrap64 (x11_5 + 1))) = some r := by rw [if_neg (show ¬ (false = true) by decide)] at H; exact H
                  clear H
                  have H := H1
                  clear H1
                  obtain ⟨y279, hy279⟩ : ∃ y_ : List Bool, y_ = ((rd_L5 x5_5 x10_4).set (x11_5 : Int).toNat false) := ⟨_, rfl⟩
                  replace H : (impl_closure.l4 k5 a0 (x5_5.set (x10_4 : Int).toNat y279) x9_3 x10_4 (wrap64 (x11_5 + 1))) = some r := by first | (rw [hy279]; with_reducible exact H) | (have H2_ := (Option.bind_some _ _).symm.trans H; rw [hy279]; with_reducible exact H2_) | (have H2_ := (Option.bind_some _ _).symm.trans H; with_reducible exact H2_) | with_reducible exact H | (rw [hy279]; exact H) | exact H
                  have Ny279 := Aside0.mk hy279
                  clear hy279
                  obtain ⟨y281, hy281⟩ : ∃ y_ : List (List Bool), y_ = (x5_5.set (x10_4 : Int).toNat y279) := ⟨_, rfl⟩
                  replace H : (impl_closure.l4 k5 a0 y281 x9_3 x10_4 (wrap64 (x11_5 + 1))) = some r := by first | (rw [hy281]; with_reducible exact H) | (have H2_ := (Option.bind_some _ _).symm.trans H; rw [hy281]; with_reducible exact H2_) | (have H2_ := (Option.bind_some _ _).symm.trans H; with_reducible exact H2_) | with_reducible exact H | (rw [hy281]; exact H) | exact H
                  have Ny281 := Aside0.mk hy281
                  clear hy281
                  have H' := Aside0.mk H
                  clear H
                  try go_wp2
                  have n0_ := Aside0.mk (Kd.S_drew HO_5.out)
                  have n1_ := Aside0.mk (below_drew1 HB.out)
                  clear HO_5
                  clear HB
                  have HO_5 := n0_
                  have HB := n1_
                  clear n0_ n1_
                  have p266 : 0 ≤ (x10_4 : Int) := oD
                  have q266 : x10_4 < (x5_5.length : Int) := oD
                  obtain ⟨ad266, A266_0, c266_0, e266, hx266_0, hl266_0, hi266_0⟩ := at_L5 (Kd.S_reads' HO_5.out).2.2 x10_4 p266 q266
                  cases e266
                  obtain ⟨ce266, hce266, hMe266, hcc266⟩ := Kd.S_get HO_5.out [] x10_4 p266 (by first | exact q266 | exact oD | (have e_ := (Kd.S_reads' HO_5.out).1; omega))
                  obtain ⟨ve266_0, rfl, ge266_0⟩ := hMe266
                  have hv266_0 := hcc266 0 _ rfl
                  rw [Nat.add_zero, show ((Kd.slice 4 Kd.bool)).sz = 1 from rfl, Nat.mul_one] at hv266_0
                  replace hv266_0 := Option.some.inj (hv266_0.symm.trans hx266_0)
                  rw [hv266_0] at ge266_0
                  have HL266_0 := Aside0.mk (show Kd.R Kd.bool 4 _ _ _ _ (rd_L5 x5_5 x10_4) from ge266_0)
                  clear hv266_0 ge266_0
                  have HX266_0 := Aside0.mk hx266_0
                  clear hcc266 hce266
                  have HR266_0 := Aside0.mk hi266_0
                  have HC266_0 := Aside0.mk hl266_0
                  clear hi266_0 hl266_0
                  replace p266 := eq_true p266
                  replace q266 := eq_true q266
                  have p267 : 0 ≤ (x10_4 : Int) := oD
                  have q267 : x10_4 < (x5_5.length : Int) := oD
                  obtain ⟨ad267, A267_0, c267_0, e267, hx267_0, hl267_0, hi267_0⟩ := at_L5 (Kd.S_reads' HO_5.out).2.2 x10_4 p267 q267
                  obtain rfl : ad266 = ad267 := (by injection e267)
                  obtain ⟨ce267, hce267, hMe267, hcc267⟩ := Kd.S_get HO_5.out [] x10_4 p267 (by first | exact q267 | exact oD | (have e_ := (Kd.S_reads' HO_5.out).1; omega))
                  obtain ⟨ve267_0, rfl, ge267_0⟩ := hMe267
                  have hv267_0 := hcc267 0 _ rfl
                  rw [Nat.add_zero, show ((Kd.slice 4 Kd.bool)).sz = 1 from rfl, Nat.mul_one] at hv267_0
                  replace hv267_0 := Option.some.inj (hv267_0.symm.trans hx267_0)
                  rw [hv267_0] at ge267_0
                  have HL267_0 := Aside0.mk (show Kd.R Kd.bool 4 _ _ _ _ (rd_L5 x5_5 x10_4) from ge267_0)
                  clear hv267_0 ge267_0
                  have HX267_0 := Aside0.mk hx267_0
                  clear hcc267 hce267
                  have HR267_0 := Aside0.mk hi267_0
                  have HC267_0 := Aside0.mk hl267_0
                  clear hi267_0 hl267_0
                  replace p267 := eq_true p267
                  replace q267 := eq_true q267
                  have ea_ := Option.some.inj (hx266_0.symm.trans hx267_0)
                  injection ea_ with ea_ en_ ec_
                  subst ea_
                  subst ec_
                  clear en_
                  have p268 : 0 ≤ (x11_5 : Int) := oD
                  have q268 : x11_5 < ((rd_L5 x5_5 x10_4).length : Int) := oD
                  obtain ⟨ad268, e268, hx268_0⟩ := Kd.at_bool (by repeat (first | (with_reducible exact HR267_0.out) | (with_reducible refine Kd.C_alloc ?_ _) | (with_reducible refine Kd.C_drewN ?_ _) | (with_reducible refine Kd.C_drew ?_) | exact HR267_0.out)) x11_5 p268 q268
                  (try rw [← Nbq39.out] at hx268_0)
                  (try rw [← Nbq47.out] at hx268_0)
                  cases e268
                  replace p268 := eq_true p268
                  replace q268 := eq_true q268
                  have p272 : 0 ≤ (x10_4 : Int) := oD
                  have q272 : x10_4 < (x5_5.length : Int) := oD
                  obtain ⟨ad272, A272_0, c272_0, e272, hx272_0, hl272_0, hi272_0⟩ := at_L5 (Kd.S_reads' HO_5.out).2.2 x10_4 p272 q272
                  obtain rfl : ad266 = ad272 := (by injection e272)
                  obtain ⟨ce272, hce272, hMe272, hcc272⟩ := Kd.S_get HO_5.out [] x10_4 p272 (by first | exact q272 | exact oD | (have e_ := (Kd.S_reads' HO_5.out).1; omega))
                  obtain ⟨ve272_0, rfl, ge272_0⟩ := hMe272
                  have hv272_0 := hcc272 0 _ rfl
                  rw [Nat.add_zero, show ((Kd.slice 4 Kd.bool)).sz = 1 from rfl, Nat.mul_one] at hv272_0
                  replace hv272_0 := Option.some.inj (hv272_0.symm.trans hx272_0)
                  rw [hv272_0] at ge272_0
                  have HL272_0 := Aside0.mk (show Kd.R Kd.bool 4 _ _ _ _ (rd_L5 x5_5 x10_4) from ge272_0)
                  clear hv272_0 ge272_0
                  have HX272_0 := Aside0.mk hx272_0
                  clear hcc272 hce272
                  have HR272_0 := Aside0.mk hi272_0
                  have HC272_0 := Aside0.mk hl272_0
                  clear hi272_0 hl272_0
                  replace p272 := eq_true p272
                  replace q272 := eq_true q272
                  have ea_ := Option.some.inj (hx266_0.symm.trans hx272_0)
                  injection ea_ with ea_ en_ ec_
                  subst ea_
                  subst ec_
                  clear en_
                  have p273 : 0 ≤ (x9_3 : Int) := oD
                  have q273 : x9_3 < ((rd_L5 x5_5 x10_4).length : Int) := oD
                  obtain ⟨ad273, e273, hx273_0⟩ := Kd.at_bool (by repeat (first | (with_reducible exact HR272_0.out) | (with_reducible refine Kd.C_alloc ?_ _) | (with_reducible refine Kd.C_drewN ?_ _) | (with_reducible refine Kd.C_drew ?_) | exact HR272_0.out)) x9_3 p273 q273
                  (try rw [← Nbq39.out] at hx273_0)
                  (try rw [← Nbq47.out] at hx273_0)
                  cases e273
                  replace p273 := eq_true p273
                  replace q273 := eq_true q273
                  have p55 : 0 ≤ (x11_5 : Int) := oD
                  have q55 : (x11_5 : Int) < (((rd_L5 x5_5 x10_4).length : Int) : Int) := oD
                  obtain ⟨go55, co55, eo55, gb55, gl55, cl55, HG55⟩ := Kd.R_form HL266_0.out (by omega)
                  (first | cases eo55 | (injection eo55 with ea_ en_ ec_; (first | subst ea_ | (injection ea_ with ea_; subst ea_)); subst ec_; clear en_))
                  have GB55 := Aside0.mk gb55
                  have GG55 := Aside0.mk HG55
                  clear gb55 gl55 HG55
                  (first | simp only [add_plain] at hx273_0 | skip)
                  (try simp only [add_plain] at hx268_0)
                  obtain ⟨hx55_0, hf55_0⟩ := Kd.R_celln false HL266_0.out (x11_5 : Int) p55 q55
                  replace p55 := eq_true p55
                  replace q55 := eq_true q55
                  have hq57 : (x10_4 : Int) < (x5_5.length : Int) := (by have h_ : (x10_4 : Int) < ((x5_5.length : Int) : Int) := oD; first | exact h_ | (have e_ := (Kd.S_reads' HO_5.out).1; omega) | simpa only [List.length_set, List.length_set] using h_)
                  obtain ⟨oki57, ce57, hcl57, hM57, hcc57, hok57, hbk57⟩ := Kd.S_borrow HO_5.out [] (x10_4 : Int) (oD) hq57
                  obtain ⟨ve57_0, rfl, ge57_0⟩ := hM57
                  have hv57 := hcc57 0 _ rfl
                  rw [Nat.add_zero, show ((Kd.slice 4 Kd.bool)).sz = 1 from rfl, Nat.mul_one] at hv57
                  replace hv57 := Option.some.inj (hv57.symm.trans HX266_0.out)
                  subst hv57
                  clear hcc57 hcl57
                  replace ge57_0 := (show Kd.R Kd.bool 4 _ _ _ _ (rd_L5 x5_5 x10_4) from ge57_0)
                  have HP57 := Kd.R_putg ge57_0 (x11_5 : Int) false
                  rw [← Ny279.out] at HP57
                  have HS57 := hbk57 HP57.2 (fun k_ e_ => by injection e_ with e_; subst e_; exact ge57_0.1 _ rfl) (x' := y279) (Kd.M_row HP57.1)
                  rw [← Ny281.out] at HS57
                  have HQ57 := Aside0.mk HS57
                  clear HP57 HS57 hbk57 hok57
                  refine start_ (n := 32) (S := fun w' => w'.cell? (ad266.add (x10_4).toNat) = some (.slice (some ⟨go55, 0, none⟩) (rd_L5 x5_5 x10_4).length c266_0) ∧ w'.cell? (ad266.add (x10_4).toNat) = some (.slice (some ⟨go55, 0, none⟩) (rd_L5 x5_5 x10_4).length c266_0) ∧ w'.cell? ⟨go55, (x11_5).toNat, none⟩ = some (.bool false) ∧ w'.cell? (ad266.add (x10_4).toNat) = some (.slice (some ⟨go55, 0, none⟩) (rd_L5 x5_5 x10_4).length c266_0) ∧ w'.cell? ⟨go55, (x9_3).toNat, none⟩ = some (.bool false)) (ds := [31]) (bA 32 0) (by kernel_rfl) rfl rfl ⟨hx266_0, hx267_0, hx268_0, hx272_0, hx273_0⟩ (fun hHeld => ?_); refine with_tabW impl_closure.tab21 impl_closure.bits21 (fun HT_ HW_ => ?_)
                  generalize wr.drew = w56 at HO_5 HB GG55 HL266_0 HL267_0 HL272_0 HQ57 HR266_0 HR267_0 HR272_0 HX266_0 HX267_0 HX272_0 hf55_0 hx266_0 hx267_0 hx268_0 hx272_0 hx273_0 hx55_0 hHeld ⊢
                  refine pU 0 55 (bA 32 1) ?_
                  refine pU 1 56 (bA 32 3) ?_
                  refine pU 2 57 (bA 32 7) ?_
                  refine pU 4 59 (bA 32 23) ?_
                  refine pU 5 60 (bA 32 55) ?_
                  refine pU 6 61 (bA 32 119) ?_
                  refine pU 7 62 (bA 32 247) ?_
                  refine pU 9 64 (bA 32 759) ?_
                  refine tU 3 58 (bA 32 767) ?_
                  refine tU 8 63 (bA 32 1023) ?_
                  refine pU 10 65 (bA 32 2047) ?_
                  refine tU 11 66 (bA 32 4095) ?_
                  refine pU 12 67 (bA 32 8191) ?_
                  refine pU 13 68 (bA 32 16383) ?_
                  refine pU 14 69 (bA 32 32767) ?_
                  refine pU 15 70 (bA 32 65535) ?_
                  refine pU 17 72 (bA 32 196607) ?_
                  refine tU 16 71 (bA 32 262143) ?_
                  refine pU 18 73 (bA 32 524287) ?_
                  refine tU 19 74 (bA 32 1048575) ?_
                  refine pU 20 75 (bA 32 2097151) ?_
                  refine nU 21 76 (bA 32 4194303) ?_
                  refine nU 22 77 (bA 32 8388607) ?_
                  refine nU 23 78 (bA 32 16777215) ?_
                  refine nU 24 79 (bA 32 33554431) ?_
                  refine nU 25 80 (bA 32 67108863) ?_
                  refine nU 26 81 (bA 32 134217727) ?_
                  refine nU 27 82 (bA 32 268435455) ?_
                  refine pU 28 83 (bA 32 536870911) ?_
                  refine pU 29 84 (bA 32 1073741823) ?_
                  refine pU 30 85 (bA 32 2147483647) ?_
                  refine last_ (i := 31) (N := none) (bA 32 4294967295) rfl rfl (one_of HT_.out (by kernel_rfl)) (by decide) (fun K hK => ?_)
                  refine skip_ (w1 := ?_) (by rfl) rfl ?_ ?_
                  rotate_left
                  ·go_simp
                   rfl
                  refine hK.out _ _ ?_
                  clear hK K
                  refine done_ (done_of HT_.out (by kernel_rfl)) ?_
                  try go_wp2
                  (try simp only [← hl5_5])
                  go_roundg k5
                  case measure => have := HK1.out; have := HK2.out; have := HK3.out; have := HK4.out; have := HK5.out; omega
                  case rel => exact ⟨(y281), (wrap64 (x11_5 + 1)), sD, H', ⟨by have := HK1.out; have := HK2.out; have := HK3.out; have := HK4.out; have := HK5.out; omega⟩, ⟨by (try simp only [hl5_1]); (try simp only [hl5_2]); (try simp only [hl5_3]); (try simp only [hl5_4]); (try simp only [hl5_5]); (with_reducible repeat (first | apply Kd.S_alloc | apply Kd.S_drewN | apply Kd.S_drew)); exact HQ57.out⟩, ⟨by repeat (first | (with_reducible first | exact HB.out | apply below_alloc | apply pw_below_drewN | apply below_drew1 | refine below_set ?_ GB55.out) | exact HB.out)⟩⟩
               ·rw [if_neg c34] at H
                have c34b0 : decide (x11_5 < a0) = false := decide_eq_false c34
                clear c34
                have H' := Aside0.mk H
                clear H
                go_wp2
                (try simp only [← hl5_4, ← hl5_5])
                go_roundg k5
                case measure => have := HK1.out; have := HK2.out; have := HK3.out; have := HK4.out; have := HK5.out; omega
                case rel => exact ⟨(x5_5), (wrap64 (x10_4 + 1)), sD, H', ⟨by have := HK1.out; have := HK2.out; have := HK3.out; have := HK4.out; have := HK5.out; omega⟩, ⟨by (try simp only [hl5_1]); (try simp only [hl5_2]); (try simp only [hl5_3]); (try simp only [hl5_4]); (try simp only [hl5_5]); (with_reducible repeat (first | apply Kd.S_alloc | apply Kd.S_drewN | apply Kd.S_drew)); exact HO_5.out⟩, ⟨by repeat (first | (with_reducible first | exact HB.out | apply below_alloc | apply pw_below_drewN | apply below_drew1) | exact HB.out)⟩⟩
            ·rw [if_neg c33] at H
             have c33b0 : decide (x10_4 < a0) = false := decide_eq_false c33
             clear c33
             have H' := Aside0.mk H
             clear H
             go_wp2
             (try simp only [← hl5_3, ← hl5_4])
             go_roundg k4
             case measure => have := HK1.out; have := HK2.out; have := HK3.out; have := HK4.out; omega
             case rel => exact ⟨(x5_4), (wrap64 (x9_3 + 1)), sD, H', ⟨by have := HK1.out; have := HK2.out; have := HK3.out; have := HK4.out; omega⟩, ⟨by (try simp only [hl5_1]); (try simp only [hl5_2]); (try simp only [hl5_3]); (try simp only [hl5_4]); (with_reducible repeat (first | apply Kd.S_alloc | apply Kd.S_drewN | apply Kd.S_drew)); exact HO_5.out⟩, ⟨by repeat (first | (with_reducible first | exact HB.out | apply below_alloc | apply pw_below_drewN | apply below_drew1) | exact HB.out)⟩⟩
         ·rw [if_neg c32] at H
          have c32b0 : decide (x9_3 < a0) = false := decide_eq_false c32
          clear c32
          obtain rfl := Option.some.inj H
          go_wp2
          go_ret
          exact ⟨_, by first | rfl | (simp [errW_none, errW_some] <;> rfl) | (simp [*, errW_none, errW_some] <;> rfl), by (with_reducible repeat (first | apply Kd.S_alloc | apply Kd.S_drewN | apply Kd.S_drew)); exact HO_5.out, bB⟩

end Go.Proofs.Ytlhppclbokkfmaa.OFnExactSidneyBlocks
