/- Functions of the program as plain Lean functions, with their contracts: written by this session's program ownprint.py. Conditions: none. -/
import Derived.Test.YtecdigebnhlfhaaOFnExactLabelsOfx0
namespace Go.Proofs.Ytecdigebnhlfhaa.OFnExactLabelsOf
open Go.RowKit Go.Proofs.YtecdigebnhlfhaaW.PrintWords Go.Proofs.YtecdigebnhlfhaaW.PrintLast Go.Proofs.YtecdigebnhlfhaaW.PrintMore
attribute [local go_sem] max2_int min2_int max_two min_two max_three min_three max_four min_four   -- for this text's walks alone
set_option linter.unusedVariables false
set_option linter.unusedSimpArgs false

/-! ### impl_closure: function 63 -/
mutual
def impl_closure.l0 : Nat → Int → List (S71) → List (List Bool) → Int → Int → Option ((List (List Bool)))
 | 0, _, _, _, _, _ => none
 | k + 1, x0, x1, x5, x15, x16 => if x16 < x15 then (if 0 ≤ x0 then (if (x0 : Int).toNat ≤ 281474976710656 then (if 0 ≤ x16 then (if x16 < (x5.length : Int) then (impl_closure.l0 k x0 x1 (x5.set (x16 : Int).toNat (List.replicate (x0 : Int).toNat false)) x15 (wrap64 (x16 + 1))) else (none)) else (none)) else (none)) else (none)) else (impl_closure.l1 k x0 x5 x1 (x1.length : Int) 0)
def impl_closure.l1 : Nat → Int → List (List Bool) → List (S71) → Int → Int → Option ((List (List Bool)))
 | 0, _, _, _, _, _ => none
 | k + 1, x0, x5, x25, x26, x27 => if x27 < x26 then (if 0 ≤ x27 then (if x27 < (x25.length : Int) then (if 0 ≤ ((rd_T71 x25 x27).f0) then (if ((rd_T71 x25 x27).f0) < (x5.length : Int) then (if 0 ≤ ((rd_T71 x25 x27).f1) then (if ((rd_T71 x25 x27).f1) < ((rd_L3 x5 ((rd_T71 x25 x27).f0)).length : Int) then (impl_closure.l1 k x0 (x5.set (((rd_T71 x25 x27).f0) : Int).toNat ((rd_L3 x5 ((rd_T71 x25 x27).f0)).set (((rd_T71 x25 x27).f1) : Int).toNat true)) x25 x26 (wrap64 (x27 + 1))) else (none)) else (none)) else (none)) else (none)) else (none)) else (none)) else (impl_closure.l2 k x0 x5 0)
def impl_closure.l2 : Nat → Int → List (List Bool) → Int → Option ((List (List Bool)))
 | 0, _, _, _ => none
 | k + 1, x0, x5, x9 => if x9 < x0 then (impl_closure.l3 k x0 x5 x9 0) else (some x5)
def impl_closure.l3 : Nat → Int → List (List Bool) → Int → Int → Option ((List (List Bool)))
 | 0, _, _, _, _ => none
 | k + 1, x0, x5, x9, x10 => if x10 < x0 then (impl_closure.l4 k x0 x5 x9 x10 0) else (impl_closure.l2 k x0 x5 (wrap64 (x9 + 1)))
def impl_closure.l4 : Nat → Int → List (List Bool) → Int → Int → Int → Option ((List (List Bool)))
 | 0, _, _, _, _, _ => none
 | k + 1, x0, x5, x9, x10, x11 => if x11 < x0 then (if 0 ≤ x10 then (if x10 < (x5.length : Int) then (if 0 ≤ x11 then (if x11 < ((rd_L3 x5 x10).length : Int) then (if rdOf false (rd_L3 x5 x10) x11 = true then (impl_closure.l4 k x0 (x5.set (x10 : Int).toNat ((rd_L3 x5 x10).set (x11 : Int).toNat true)) x9 x10 (wrap64 (x11 + 1))) else (if 0 ≤ x9 then (if x9 < ((rd_L3 x5 x10).length : Int) then (if rdOf false (rd_L3 x5 x10) x9 = true then (if x9 < (x5.length : Int) then (if x11 < ((rd_L3 x5 x9).length : Int) then (impl_closure.l4 k x0 (x5.set (x10 : Int).toNat ((rd_L3 x5 x10).set (x11 : Int).toNat (rdOf false (rd_L3 x5 x9) x11))) x9 x10 (wrap64 (x11 + 1))) else (none)) else (none)) else (impl_closure.l4 k x0 (x5.set (x10 : Int).toNat ((rd_L3 x5 x10).set (x11 : Int).toNat false)) x9 x10 (wrap64 (x11 + 1)))) else (none)) else (none))) else (none)) else (none)) else (none)) else (none)) else (impl_closure.l3 k x0 x5 x9 (wrap64 (x10 + 1)))
end
def impl_closure.f (k : Nat) (a0 : Int) (l1 : List (S71)) : Option ((List (List Bool))) := if 0 ≤ a0 then (if (a0 : Int).toNat ≤ 11728124029610 then ((some (List.replicate (a0 : Int).toNat [] : List (List Bool))).bind fun y215 => (impl_closure.l0 k a0 l1 y215 (y215.length : Int) 0)) else (none)) else (none)
theorem impl_closure.mono_l : ∀ k, (∀ y0 y1 y2 y3 y4, LeO (impl_closure.l0 k y0 y1 y2 y3 y4) (impl_closure.l0 (k + 1) y0 y1 y2 y3 y4)) ∧ (∀ y0 y1 y2 y3 y4, LeO (impl_closure.l1 k y0 y1 y2 y3 y4) (impl_closure.l1 (k + 1) y0 y1 y2 y3 y4)) ∧ (∀ y0 y1 y2, LeO (impl_closure.l2 k y0 y1 y2) (impl_closure.l2 (k + 1) y0 y1 y2)) ∧ (∀ y0 y1 y2 y3, LeO (impl_closure.l3 k y0 y1 y2 y3) (impl_closure.l3 (k + 1) y0 y1 y2 y3)) ∧ (∀ y0 y1 y2 y3 y4, LeO (impl_closure.l4 k y0 y1 y2 y3 y4) (impl_closure.l4 (k + 1) y0 y1 y2 y3 y4))
 | 0 => ⟨fun _ _ _ _ _ r h => by simp [impl_closure.l0] at h, fun _ _ _ _ _ r h => by simp [impl_closure.l1] at h, fun _ _ _ r h => by simp [impl_closure.l2] at h, fun _ _ _ _ r h => by simp [impl_closure.l3] at h, fun _ _ _ _ _ r h => by simp [impl_closure.l4] at h⟩
 | k + 1 => by
  obtain ⟨ih0, ih1, ih2, ih3, ih4⟩ := impl_closure.mono_l k
  refine ⟨?_, ?_, ?_, ?_, ?_⟩
  ·intro y0 y1 y2 y3 y4
   unfold impl_closure.l0
   repeat' first
   | (with_reducible exact ih0 _ _ _ _ _)
   | (with_reducible exact ih1 _ _ _ _ _)
   | (with_reducible exact ih2 _ _ _)
   | (with_reducible exact ih3 _ _ _ _)
   | (with_reducible exact ih4 _ _ _ _ _)
   | (with_reducible exact LeO.refl _)
   | (with_reducible exact LeO.none _)
   | (with_reducible refine LeO.ite ?_ ?_)
   | (with_reducible refine LeO.bind ?_ (fun _ => ?_))
   | exact ih0 _ _ _ _ _
   | exact ih1 _ _ _ _ _
   | exact ih2 _ _ _
   | exact ih3 _ _ _ _
   | exact ih4 _ _ _ _ _
   | exact LeO.none _
   | refine LeO.ite ?_ ?_
   | refine LeO.bind ?_ (fun _ => ?_)
  ·intro y0 y1 y2 y3 y4
   unfold impl_closure.l1
   repeat' first
   | (with_reducible exact ih0 _ _ _ _ _)
   | (with_reducible exact ih1 _ _ _ _ _)
   | (with_reducible exact ih2 _ _ _)
   | (with_reducible exact ih3 _ _ _ _)
   | (with_reducible exact ih4 _ _ _ _ _)
   | (with_reducible exact LeO.refl _)
   | (with_reducible exact LeO.none _)
   | (with_reducible refine LeO.ite ?_ ?_)
   | (with_reducible refine LeO.bind ?_ (fun _ => ?_))
   | exact ih0 _ _ _ _ _
   | exact ih1 _ _ _ _ _
   | exact ih2 _ _ _
   | exact ih3 _ _ _ _
   | exact ih4 _ _ _ _ _
   | exact LeO.none _
   | refine LeO.ite ?_ ?_
   | refine LeO.bind ?_ (fun _ => ?_)
  ·intro y0 y1 y2
   unfold impl_closure.l2
   repeat' first
   | (with_reducible exact ih0 _ _ _ _ _)
   | (with_reducible exact ih1 _ _ _ _ _)
   | (with_reducible exact ih2 _ _ _)
   | (with_reducible exact ih3 _ _ _ _)
   | (with_reducible exact ih4 _ _ _ _ _)
   | (with_reducible exact LeO.refl _)
   | (with_reducible exact LeO.none _)
   | (with_reducible refine LeO.ite ?_ ?_)
   | (with_reducible refine LeO.bind ?_ (fun _ => ?_))
   | exact ih0 _ _ _ _ _
   | exact ih1 _ _ _ _ _
   | exact ih2 _ _ _
   | exact ih3 _ _ _ _
   | exact ih4 _ _ _ _ _
   | exact LeO.none _
   | refine LeO.ite ?_ ?_
   | refine LeO.bind ?_ (fun _ => ?_)
  ·intro y0 y1 y2 y3
   unfold impl_closure.l3
   repeat' first
   | (with_reducible exact ih0 _ _ _ _ _)
   | (with_reducible exact ih1 _ _ _ _ _)
   | (with_reducible exact ih2 _ _ _)
   | (with_reducible exact ih3 _ _ _ _)
   | (with_reducible exact ih4 _ _ _ _ _)
   | (with_reducible exact LeO.refl _)
   | (with_reducible exact LeO.none _)
   | (with_reducible refine LeO.ite ?_ ?_)
   | (with_reducible refine LeO.bind ?_ (fun _ => ?_))
   | exact ih0 _ _ _ _ _
   | exact ih1 _ _ _ _ _
   | exact ih2 _ _ _
   | exact ih3 _ _ _ _
   | exact ih4 _ _ _ _ _
   | exact LeO.none _
   | refine LeO.ite ?_ ?_
   | refine LeO.bind ?_ (fun _ => ?_)
  ·intro y0 y1 y2 y3 y4
   unfold impl_closure.l4
   repeat' first
   | (with_reducible exact ih0 _ _ _ _ _)
   | (with_reducible exact ih1 _ _ _ _ _)
   | (with_reducible exact ih2 _ _ _)
   | (with_reducible exact ih3 _ _ _ _)
   | (with_reducible exact ih4 _ _ _ _ _)
   | (with_reducible exact LeO.refl _)
   | (with_reducible exact LeO.none _)
   | (with_reducible refine LeO.ite ?_ ?_)
   | (with_reducible refine LeO.bind ?_ (fun _ => ?_))
   | exact ih0 _ _ _ _ _
   | exact ih1 _ _ _ _ _
   | exact ih2 _ _ _
   | exact ih3 _ _ _ _
   | exact ih4 _ _ _ _ _
   | exact LeO.none _
   | refine LeO.ite ?_ ?_
   | refine LeO.bind ?_ (fun _ => ?_)
theorem impl_closure.mono : ∀ a0 a1 k, LeO (impl_closure.f k a0 a1) (impl_closure.f (k + 1) a0 a1) := by
 intro a0 a1 k
 obtain ⟨ih0, ih1, ih2, ih3, ih4⟩ := impl_closure.mono_l k
 unfold impl_closure.f
 repeat' first
   | (with_reducible exact ih0 _ _ _ _ _)
   | (with_reducible exact ih1 _ _ _ _ _)
   | (with_reducible exact ih2 _ _ _)
   | (with_reducible exact ih3 _ _ _ _)
   | (with_reducible exact ih4 _ _ _ _ _)
   | (with_reducible exact LeO.refl _)
   | (with_reducible exact LeO.none _)
   | (with_reducible refine LeO.ite ?_ ?_)
   | (with_reducible refine LeO.bind ?_ (fun _ => ?_))
   | exact ih0 _ _ _ _ _
   | exact ih1 _ _ _ _ _
   | exact ih2 _ _ _
   | exact ih3 _ _ _ _
   | exact ih4 _ _ _ _ _
   | exact LeO.none _
   | refine LeO.ite ?_ ?_
   | refine LeO.bind ?_ (fun _ => ?_)
def impl_closure.T10 : Bool × List (List Nat × List Nat) := (true, [([], []), ([], []), ([1], [1]), ([0, 2], [0, 2]), ([3], [3]), ([], []), ([5], [5]), ([4, 6, 0, 1, 2, 3, 4, 5, 6], [4, 6]), ([7, 0, 1, 2, 3, 4, 5, 6], [7])])
def impl_closure.B10 : List Nat := [0, 0, 2, 7, 15, 0, 32, 127, 255]
theorem impl_closure.tab10 : rtab .any (opsOf Try.f63 10) = impl_closure.T10 := by kernel_rfl
theorem impl_closure.bits10 : waitsOk impl_closure.T10.2 impl_closure.B10 = true := by kernel_rfl
def impl_closure.T21 : Bool × List (List Nat × List Nat) := (true, [([], []), ([], []), ([0, 1], [0, 1]), ([2], [2]), ([], []), ([], []), ([], []), ([5, 6], [5, 6]), ([7], [7]), ([], []), ([8, 9], [8, 9]), ([10], [10]), ([11], [11]), ([12], [12]), ([12], [12]), ([13, 14, 12], [12, 13, 14]), ([15, 12], [12, 15]), ([12], [12]), ([16, 17, 12], [12, 16, 17]), ([18, 12], [12, 18]), ([19, 12, 12], [12, 19]), ([20], [20]), ([20], [20]), ([21, 22, 20], [20, 21, 22]), ([23, 20], [20, 23]), ([20], [20]), ([24, 25, 20], [20, 24, 25]), ([26, 20], [20, 26]), ([20, 27, 12], [12, 20, 27]), ([12, 28], [12, 28]), ([3, 4, 0, 1, 2, 3, 4, 5, 6, 7, 8, 9, 10, 11, 12, 13, 14, 15, 16, 17, 18, 19, 20, 21, 22, 23, 24, 25, 26, 27, 28, 29], [3, 4]), ([30, 29, 20, 0, 1, 2, 3, 4, 5, 6, 7, 8, 9, 10, 11, 12, 13, 14, 15, 16, 17, 18, 19, 20, 21, 22, 23, 24, 25, 26, 27, 28, 29], [29, 30])])
def impl_closure.B21 : List Nat := [0, 0, 3, 7, 0, 0, 0, 96, 224, 0, 992, 2016, 4064, 8160, 8160, 32736, 65504, 8160, 262112, 524256, 1048544, 2097120, 2097120, 8388576, 16777184, 2097120, 67108832, 134217696, 268435424, 536870880, 1073741823, 2147483647]
theorem impl_closure.tab21 : rtab .any (opsOf Try.f63 21) = impl_closure.T21 := by kernel_rfl
theorem impl_closure.bits21 : waitsOk impl_closure.T21.2 impl_closure.B21 = true := by kernel_rfl
set_option maxHeartbeats 8000000 in
set_option maxRecDepth 100000 in
theorem impl_closure.calls (k : Nat) (a0 : Int) (A1 : Option Addr) (c1 : Nat) (l1 : List (S71)) (r : List (List Bool)) (w : World) (hr1 : Kd.C k71 w A1 l1.length l1) (hc1 : l1.length ≤ c1) (h : impl_closure.f k a0 l1 = some r) :
  Calls Try.prog 63 #[.int .i64 a0, .slice A1 l1.length c1] w fun e w' => ∃ v0_ : Value, e = .returned (v0_) ∧ Kd.S (Kd.slice 4 Kd.bool) 80 w' w.heap.size (fun _ => True) v0_ r ∧ Below w.heap.size w w' := by
 have hu71 := Try.underlying71
 have HR1 := Aside0.mk hr1
 have HC1 := Aside0.mk hc1
 clear hr1 hc1
 have HB := Aside0.mk (Below.refl w.heap.size w)
 have H : (if 0 ≤ a0 then (if (a0 : Int).toNat ≤ 11728124029610 then ((some (List.replicate (a0 : Int).toNat [] : List (List Bool))).bind fun y215 => (impl_closure.l0 k a0 l1 y215 (y215.length : Int) 0)) else (none)) else (none)) = some r := h
 clear h
 by_cases c3 : 0 ≤ a0; rotate_left
 ·rw [if_neg c3] at H; exact absurd H (by simp)
 rw [if_pos c3] at H
 have c3b0 := eq_true c3
 have c3b1 : decide (0 ≤ a0) = true := decide_eq_true c3
 clear c3
 by_cases c4 : (a0 : Int).toNat ≤ 11728124029610; rotate_left
 ·rw [if_neg c4] at H; exact absurd H (by simp)
 rw [if_pos c4] at H
 have c4b0 := eq_true c4
 have c4b1 : decide ((a0 : Int).toNat ≤ 11728124029610) = true := decide_eq_true c4
 clear c4
 obtain ⟨y215, hy215⟩ : ∃ y_ : List (List Bool), y_ = (List.replicate (a0 : Int).toNat []) := ⟨_, rfl⟩
 replace H : (impl_closure.l0 k a0 l1 y215 (y215.length : Int) 0) = some r := by first | (rw [hy215]; with_reducible exact H) | (have H2_ := (Option.bind_some _ _).symm.trans H; rw [hy215]; with_reducible exact H2_) | (have H2_ := (Option.bind_some _ _).symm.trans H; with_reducible exact H2_) | with_reducible exact H | (rw [hy215]; exact H) | exact H
 have Ny215 := Aside0.mk hy215
 clear hy215
 have H' := Aside0.mk H
 clear H
 go_enter Try.func63, Try.ntmps63
 go_wp2_with (first | ((with_reducible refine gate_dst (N := 13) rfl ?_); refine Kd.S_make (Kd.slice 4 Kd.bool) _ 80 rfl (N := 13) rfl 67 _ _ rfl a0 rfl rfl Try.underlying67 (.slice none 0 0) 24 info80 rfl (by decide) (by omega) [] (ok := fun _ => True) (okp := fun _ => True) ⟨_, rfl, Kd.R_nil _ _ _ _ _⟩ (fun _ hk => hk) trivial (oD) (Nat.le_trans (Nat.mul_le_mul_right _ (oD : a0.toNat ≤ 11728124029610)) (by omega)) (Below.refl _ _) (Nat.le_refl _) ?_; intro v216 w5 ho6 hb hg_ hnew_; clear hg_ hnew_; (first | rw [← Ny215.out] at ho6 | (simp only [Int.reduceToNat] at ho6; rw [← Ny215.out] at ho6)); have n0_ := Aside0.mk (Kd.S_lower ho6 (below_size bB)); have n1_ := Aside0.mk (below_step bB hb); clear HB; have HO217 := n0_; have HB := n1_; clear n0_ n1_; clear hb ho6; obtain ⟨Ao7, co7, eo7⟩ := Kd.S_slice HO217.out; subst eo7))
 go_loopg [16] k (fun kq v16 w' => ∃ (x5_1 : List (List Bool)) (x16_1 : Int), v16 = .int .i64 x16_1 ∧ Aside0 (impl_closure.l0 kq a0 l1 x5_1 (y215.length : Int) x16_1 = some r) ∧ Aside0 (kq ≤ k) ∧ Aside0 (Kd.S (Kd.slice 4 Kd.bool) 80 w' w.heap.size (fun _ => True) (.slice Ao7 y215.length co7) x5_1) ∧ Aside0 (Below w.heap.size w w'))
 case atStart => exact ⟨(y215), (0), sD, H', ⟨Nat.le_refl _⟩, ⟨kS⟩, ⟨by repeat (first | (with_reducible first | exact HB.out | apply below_alloc | apply pw_below_drewN | apply below_drew1) | exact HB.out)⟩⟩
 case round =>
  clear H'
  try clear c1
  try clear p2
  try clear c3
  try clear c3b0
  try clear c3b1
  try clear c4
  try clear c4b0
  try clear c4b1
  try clear c6
  obtain ⟨x5_1, x16_1, rfl, HA, HK1, HO_5, HB⟩ := hrel
  have hl5_1 := (Kd.S_reads' HO_5.out).1
  rw [hl5_1] at HO_5
  (try simp only [hl5_1])
  cases gk with
  | zero => exact absurd HA.out (by simp [impl_closure.l0])
  | succ k1 =>
   have H := HA.out
   clear HA
   simp only [impl_closure.l0] at H
   by_cases c8 : x16_1 < (y215.length : Int)
   ·rw [if_pos c8] at H
    have c8b0 : decide (x16_1 < (y215.length : Int)) = true := decide_eq_true c8
    (try (have c8b0e0 := c8b0; simp only [hl5_1] at c8b0e0))
    clear c8
    by_cases c9 : 0 ≤ a0; rotate_left
    ·rw [if_neg c9] at H; exact absurd H (by simp)
    rw [if_pos c9] at H
    have c9b0 := eq_true c9
    have c9b1 : decide (0 ≤ a0) = true := decide_eq_true c9
    clear c9
    by_cases c10 : (a0 : Int).toNat ≤ 281474976710656; rotate_left
    ·rw [if_neg c10] at H; exact absurd H (by simp)
    rw [if_pos c10] at H
    have c10b0 := eq_true c10
    have c10b1 : decide ((a0 : Int).toNat ≤ 281474976710656) = true := decide_eq_true c10
    clear c10
    obtain ⟨y218, hy218⟩ : ∃ y_ : List Bool, y_ = (List.replicate (a0 : Int).toNat false) := ⟨_, rfl⟩
    replace H : (if 0 ≤ x16_1 then (if x16_1 < (x5_1.length : Int) then (impl_closure.l0 k1 a0 l1 (x5_1.set (x16_1 : Int).toNat y218) (y215.length : Int) (wrap64 (x16_1 + 1))) else (none)) else (none)) = some r := by first | (rw [hy218]; with_reducible exact H) | (have H2_ := (Option.bind_some _ _).symm.trans H; rw [hy218]; with_reducible exact H2_) | (have H2_ := (Option.bind_some _ _).symm.trans H; with_reducible exact H2_) | with_reducible exact H | (rw [hy218]; exact H) | exact H
    have Ny218 := Aside0.mk hy218
    clear hy218
    by_cases c11 : 0 ≤ x16_1; rotate_left
    ·rw [if_neg c11] at H; exact absurd H (by simp)
    rw [if_pos c11] at H
    have c11b0 : decide (0 ≤ x16_1) = true := decide_eq_true c11
    clear c11
    by_cases c12 : x16_1 < (x5_1.length : Int); rotate_left
    ·rw [if_neg c12] at H; exact absurd H (by simp)
    rw [if_pos c12] at H
    have c12b0 : decide (x16_1 < (x5_1.length : Int)) = true := decide_eq_true c12
    clear c12
    obtain ⟨y221, hy221⟩ : ∃ y_ : List (List Bool), y_ = (x5_1.set (x16_1 : Int).toNat y218) := ⟨_, rfl⟩
    replace H : (impl_closure.l0 k1 a0 l1 y221 (y215.length : Int) (wrap64 (x16_1 + 1))) = some r := by first | (rw [hy221]; with_reducible exact H) | (have H2_ := (Option.bind_some _ _).symm.trans H; rw [hy221]; with_reducible exact H2_) | (have H2_ := (Option.bind_some _ _).symm.trans H; with_reducible exact H2_) | with_reducible exact H | (rw [hy221]; exact H) | exact H
    have Ny221 := Aside0.mk hy221
    clear hy221
    have H' := Aside0.mk H
    clear H
    go_wp2_with (first | ((with_reducible refine gate_dst (N := 22) rfl ?_); refine Kd.R_make Kd.bool _ 4 rfl (N := 22) rfl 80 _ _ rfl a0 rfl rfl Try.underlying80 (.bool false) 1 info4 rfl (by decide) (by omega) false (ok := fun _ => True) (okp := fun _ => True) rfl (fun _ hk => hk) trivial (oD) (Nat.le_trans (Nat.mul_le_mul_right _ (oD : a0.toNat ≤ 281474976710656)) (by omega)) (Below.refl _ _) (Nat.le_refl _) ?_; intro v219 w14 ho15 hb hg_ hnew_; clear hg_ hnew_; (first | rw [← Ny218.out] at ho15 | (simp only [Int.reduceToNat] at ho15; rw [← Ny218.out] at ho15)); have n0_ := Aside0.mk (Kd.S_elder' (by (with_reducible repeat (first | apply Kd.S_alloc | apply Kd.S_drewN | apply Kd.S_drew)); exact HO_5.out) (Kd.R_base ho15) hb); have n1_ := Aside0.mk (Kd.R_lower ho15 (below_size bB)); have n2_ := Aside0.mk (below_step bB hb); clear HO_5; clear HB; have HO_5 := n0_; have HO220 := n1_; have HB := n2_; clear n0_ n1_ n2_; clear hb ho15; have p13 : 0 ≤ (x16_1 : Int) := oD; have q13 : (x16_1 : Int) < ((x5_1.length : Int) : Int) := oD; obtain ⟨go13, co13, eo13, gb13, gl13, cl13, HG13⟩ := Kd.S_form HO_5.out (by omega); (first | cases eo13 | (injection eo13 with ea_ en_ ec_; (first | subst ea_ | (injection ea_ with ea_; subst ea_)); subst ec_; clear en_)); have GB13 := Aside0.mk gb13; have GG13 := Aside0.mk HG13; clear gb13 gl13 HG13; obtain ⟨_, ce13, hcl13, hM13, hcc13, hfr13, _, _⟩ := Kd.S_elem HO_5.out [] (x16_1 : Int) p13 q13; obtain ⟨ve13_0, rfl, ge13_0⟩ := hM13; have hx13_0 := hcc13 0 _ rfl; have hf13_0 := hfr13 0; (try simp only [show ((Kd.slice 4 Kd.bool)).sz = 1 from rfl, Nat.mul_one, Nat.add_zero] at hx13_0); (try simp only [show ((Kd.slice 4 Kd.bool)).sz = 1 from rfl, Nat.mul_one, Nat.add_zero] at hf13_0); (try clear hcl13); (try clear hcc13); (try clear hfr13); (try clear hM13); replace p13 := eq_true p13; replace q13 := eq_true q13; have n_ := Aside0.mk (Kd.S_mono (ok' := (fun k_ => some k_ ≠ (v219 : Value).ownBlock)) HO_5.out (fun k_ hk => hk.2)); clear HO_5; have HO_5 := n_; clear n_; have HX16 := Aside0.mk (show Kd.S (Kd.slice 4 Kd.bool) 80 w14 w.heap.size (fun k_ => ((fun _ => True)) k_ ∧ ¬ ((fun k_ => some k_ = (v219 : Value).ownBlock)) k_) (.slice (some ⟨go13, 0, none⟩) x5_1.length co7) x5_1 from (by (with_reducible repeat (first | apply Kd.S_alloc | apply Kd.S_drewN | apply Kd.S_drew)); exact Kd.S_mono HO_5.out (fun k_ hk => ⟨trivial, fun e_ => hk e_⟩))); obtain ⟨oki16, ce16, hcl16, hM16, hcc16, hfr16, hoki16, hH16⟩ := Kd.S_elem HX16.out [] (x16_1 : Int) (oD) (by have h_ : (x16_1 : Int) < ((x5_1.length : Int) : Int) := oD; first | exact h_ | (have e_ := (Kd.S_reads' HO_5.out).1; omega) | simpa using h_); obtain ⟨ve16_0, rfl, ge16_0⟩ := hM16; have HP16 := Kd.S_seg hH16 (oD) (by have h_ : (x16_1 : Int) < ((x5_1.length : Int) : Int) := oD; first | exact h_ | (have e_ := (Kd.S_reads' HO_5.out).1; omega) | simpa using h_) (seg := [v219]) (j := 0) (show 1 ≤ 1 from by decide) (x' := y218) (Kd.M_row (Kd.R_mono (Kd.R_tight rfl (Kd.R_mono (ok' := fun k_ => ((fun _ => True)) k_ ∧ k_ ≠ go13) (Kd.R_apart' (HO220.out) (Kd.S_typed HO_5.out) (by decide)) (fun k_ hk => ⟨trivial, fun e_ => (hk.2) (by rw [e_]; rfl)⟩))) (fun _ h_ => Or.inr (h_)))) (fun _ hk => hk) (fun k_ hk_ => ((Kd.R_mono (ok' := fun k_ => ((fun _ => True)) k_ ∧ k_ ≠ go13) (Kd.R_apart' (HO220.out) (Kd.S_typed HO_5.out) (by decide)) (fun k_ hk => ⟨trivial, fun e_ => (hk.2) (by rw [e_]; rfl)⟩))).1 k_ hk_.symm); have hx16_0 := hcc16 0 _ rfl; (try simp only [show ((Kd.slice 4 Kd.bool)).sz = 1 from rfl, Nat.mul_one, Nat.add_zero] at hx16_0); have hf16_0 := hfr16 0; (try simp only [show ((Kd.slice 4 Kd.bool)).sz = 1 from rfl, Nat.mul_one, Nat.add_zero] at hf16_0); (try clear hcl16); (try clear hcc16); (try clear hfr16); (try clear hM16); (try clear hoki16); (try clear hH16); (try simp only [show ((Kd.slice 4 Kd.bool)).sz = 1 from rfl, Nat.mul_one, Nat.add_zero] at HP16)) | ((with_reducible refine gate_store (t := 80) (p := 23) rfl ?_); refine store_event (t := 80) (p := 23) (v := ?vo_w17) (w1 := (w14.setCell ⟨go13, (x16_1 : Int).toNat, none⟩ (v219))) ?hg ?ho ?hn ?hr ?_; (case ho => rfl); (case hg => rfl); (case hn => rfl); (case hr => first | (go_simp; done) | (go_simp; rfl) | (obtain ⟨As_, cs_, es_⟩ := Kd.R_slice HO220.out; simp only [es_]; go_simp; first | done | rfl)); intro w17 hw; have hg : w14.grownBy w17 (some go13) := (by rw [hw]; exact HP16.2); have hp_ : Kd.S (Kd.slice 4 Kd.bool) 80 w17 w.heap.size (fun _ => True) (.slice (some ⟨go13, 0, none⟩) x5_1.length co7) y221 := (by rw [hw, Ny221.out]; exact HP16.1); clear HP16; have n0_ := Aside0.mk (hp_); have n1_ := Aside0.mk ((by rw [hw]; exact below_set (HB.out) GB13.out : Below w.heap.size w w17)); clear HO_5; clear HB; clear HO220; have HO_5 := n0_; have HB := n1_; clear n0_ n1_; clear hg hw hp_))
    (try simp only [← hl5_1])
    go_roundg k1
    case measure => have := HK1.out; omega
    case rel => exact ⟨(y221), (wrap64 (x16_1 + 1)), sD, H', ⟨by have := HK1.out; omega⟩, ⟨by (try simp only [hl5_1]); (with_reducible repeat (first | apply Kd.S_alloc | apply Kd.S_drewN | apply Kd.S_drew)); exact HO_5.out⟩, ⟨by repeat (first | (with_reducible first | exact HB.out | apply below_alloc | apply pw_below_drewN | apply below_drew1) | exact HB.out)⟩⟩
   ·rw [if_neg c8] at H
    have c8b0 : decide (x16_1 < (y215.length : Int)) = false := decide_eq_false c8
    (try (have c8b0e0 := c8b0; simp only [hl5_1] at c8b0e0))
    clear c8
    have H' := Aside0.mk H
    clear H
    go_wp2
    go_loopg [27] k1 (fun kq v27 w' => ∃ (x5_2 : List (List Bool)) (x27_2 : Int), v27 = .int .i64 x27_2 ∧ Aside0 (impl_closure.l1 kq a0 x5_2 l1 (l1.length : Int) x27_2 = some r) ∧ Aside0 (kq ≤ k1) ∧ Aside0 (Kd.S (Kd.slice 4 Kd.bool) 80 w' w.heap.size (fun _ => True) (.slice Ao7 x5_1.length co7) x5_2) ∧ Aside0 (Below w.heap.size w w'))
    case atStart => exact ⟨(x5_1), (0), sD, H', ⟨Nat.le_refl _⟩, ⟨by (try simp only [hl5_1]); (with_reducible repeat (first | apply Kd.S_alloc | apply Kd.S_drewN | apply Kd.S_drew)); exact HO_5.out⟩, ⟨by repeat (first | (with_reducible first | exact HB.out | apply below_alloc | apply pw_below_drewN | apply below_drew1) | exact HB.out)⟩⟩
    case round =>
     clear H'
     try clear c1
     try clear p1
     try clear q1
     try clear hx1
     try clear p2
     try clear c3
     try clear c3b0
     try clear c3b1
     try clear c4
     try clear c4b0
     try clear c4b1
     try clear c6
     try clear p6
     try clear c8
     try clear c8b0
     try clear c9
     try clear c9b0
     try clear c9b1
     try clear c10
     try clear c10b0
     try clear c10b1
     try clear c11
     try clear c11b0
     try clear c12
     try clear c12b0
     try clear c13
     try clear p13
     try clear q13
     try clear hx13
     try clear hf13
     try clear c16
     try clear hx16
     try clear hf16
     try clear hx13_0
     try clear hx16_0
     try clear p13
     try clear p2
     try clear q13
     obtain ⟨x5_2, x27_2, rfl, HA, HK2, HO_5, HB⟩ := hrel
     have hl5_2 := (Kd.S_reads' HO_5.out).1
     rw [hl5_2] at HO_5
     (try simp only [hl5_2])
     cases gk with
     | zero => exact absurd HA.out (by simp [impl_closure.l1])
     | succ k2 =>
      have H := HA.out
      clear HA
      simp only [impl_closure.l1] at H
      by_cases c18 : x27_2 < (l1.length : Int)
      ·rw [if_pos c18] at H
       have c18b0 : decide (x27_2 < (l1.length : Int)) = true := decide_eq_true c18
       clear c18
       by_cases c19 : 0 ≤ x27_2; rotate_left
       ·rw [if_neg c19] at H; exact absurd H (by simp)
       rw [if_pos c19] at H
       have c19b0 : decide (0 ≤ x27_2) = true := decide_eq_true c19
       clear c19
       by_cases c20 : x27_2 < (l1.length : Int); rotate_left
       ·rw [if_neg c20] at H; exact absurd H (by simp)
       rw [if_pos c20] at H
       have c20b0 : decide (x27_2 < (l1.length : Int)) = true := decide_eq_true c20
       clear c20
       by_cases c21 : 0 ≤ ((rd_T71 l1 x27_2).f0); rotate_left
       ·rw [if_neg c21] at H; exact absurd H (by simp)
       rw [if_pos c21] at H
       have c21b0 : decide (0 ≤ ((rd_T71 l1 x27_2).f0)) = true := decide_eq_true c21
       clear c21
       by_cases c22 : ((rd_T71 l1 x27_2).f0) < (x5_2.length : Int); rotate_left
       ·rw [if_neg c22] at H; exact absurd H (by simp)
       rw [if_pos c22] at H
       have c22b0 : decide (((rd_T71 l1 x27_2).f0) < (x5_2.length : Int)) = true := decide_eq_true c22
       clear c22
       by_cases c23 : 0 ≤ ((rd_T71 l1 x27_2).f1); rotate_left
       ·rw [if_neg c23] at H; exact absurd H (by simp)
       rw [if_pos c23] at H
       have c23b0 : decide (0 ≤ ((rd_T71 l1 x27_2).f1)) = true := decide_eq_true c23
       clear c23
       by_cases c24 : ((rd_T71 l1 x27_2).f1) < ((rd_L3 x5_2 ((rd_T71 l1 x27_2).f0)).length : Int); rotate_left
       ·rw [if_neg c24] at H; exact absurd H (by simp)
       rw [if_pos c24] at H
       have c24b0 : decide (((rd_T71 l1 x27_2).f1) < ((rd_L3 x5_2 ((rd_T71 l1 x27_2).f0)).length : Int)) = true := decide_eq_true c24
       clear c24
       obtain ⟨y225, hy225⟩ : ∃ y_ : List Bool, y_ = ((rd_L3 x5_2 ((rd_T71 l1 x27_2).f0)).set (((rd_T71 l1 x27_2).f1) : Int).toNat true) := ⟨_, rfl⟩
       replace H : (impl_closure.l1 k2 a0 (x5_2.set (((rd_T71 l1 x27_2).f0) : Int).toNat y225) l1 (l1.length : Int) (wrap64 (x27_2 + 1))) = some r := by first | (rw [hy225]; with_reducible exact H) | (have H2_ := (Option.bind_some _ _).symm.trans H; rw [hy225]; with_reducible exact H2_) | (have H2_ := (Option.bind_some _ _).symm.trans H; with_reducible exact H2_) | with_reducible exact H | (rw [hy225]; exact H) | exact H
       have Ny225 := Aside0.mk hy225
       clear hy225
       obtain ⟨y227, hy227⟩ : ∃ y_ : List (List Bool), y_ = (x5_2.set (((rd_T71 l1 x27_2).f0) : Int).toNat y225) := ⟨_, rfl⟩
       replace H : (impl_closure.l1 k2 a0 y227 l1 (l1.length : Int) (wrap64 (x27_2 + 1))) = some r := by first | (rw [hy227]; with_reducible exact H) | (have H2_ := (Option.bind_some _ _).symm.trans H; rw [hy227]; with_reducible exact H2_) | (have H2_ := (Option.bind_some _ _).symm.trans H; with_reducible exact H2_) | with_reducible exact H | (rw [hy227]; exact H) | exact H
       have Ny227 := Aside0.mk hy227
       clear hy227
       have H' := Aside0.mk H
       clear H
       have p222 : 0 ≤ (x27_2 : Int) := oD
       have q222 : x27_2 < (l1.length : Int) := oD
       obtain ⟨ad222, e222, hx222_0, hx222_1⟩ := at_T71 HR1.out x27_2 p222 q222
       cases e222
       replace hx222_0 := (cB HB.out hx222_0 :)
       replace hx222_1 := (cB HB.out hx222_1 :)
       replace p222 := eq_true p222
       replace q222 := eq_true q222
       try go_wp2_with (first | ((with_reducible refine gate_dst (N := 8) rfl ?_); refine bE 8 #[.int .i64 0, .int .i64 0] 71 ?_; intro gb223 hg w26 hbox hb; have n0_ := Aside0.mk (sB HO_5 hb); have n1_ := Aside0.mk (below_step bB hb); have n2_ := Aside0.mk (hbox); have n3_ := Aside0.mk ((by rw [hg]; exact (below_size bB) : w.heap.size ≤ gb223)); have n4_ := Aside0.mk ((by rw [hg]; exact (below_size bB) : w.heap.size ≤ gb223)); clear HO_5; clear HB; have HO_5 := n0_; have HB := n1_; have BK223 := n2_; have GW223 := n3_; have GE223 := n4_; clear n0_ n1_ n2_ n3_ n4_; clear hb hbox hg; have hcz27_0 := (blk_cell BK223.out 0).trans (show _ = some ((.int .i64 0) : Value) from rfl); have hcz27_1 := (blk_cell BK223.out 1).trans (show _ = some ((.int .i64 0) : Value) from rfl); have hfz27_0 := blk_frozen BK223.out 0; have hfz27_1 := blk_frozen BK223.out 1))
       have n0_ : Aside0 (Kd.S (Kd.slice 4 Kd.bool) 80 ((w26.setCell ⟨gb223, 0, none⟩ (.int .i64 ((rd_T71 l1 x27_2).f0))).setCell ⟨gb223, 1, none⟩ (.int .i64 ((rd_T71 l1 x27_2).f1))) w.heap.size (fun _ => True) (.slice Ao7 x5_2.length co7) x5_2) := ⟨by exact Kd.S_mono (Kd.S_far (p := ⟨gb223, 1, none⟩) (Kd.S_far (p := ⟨gb223, 0, none⟩) (Kd.S_types HO_5.out BK223.out (by decide)) (fun _ hk => hk.2) (.int .i64 ((rd_T71 l1 x27_2).f0))) (fun _ hk => hk.2) (.int .i64 ((rd_T71 l1 x27_2).f1))) (fun _ hk => trivial)⟩
       have n1_ : Aside0 (((w26.setCell ⟨gb223, 0, none⟩ (.int .i64 ((rd_T71 l1 x27_2).f0))).setCell ⟨gb223, 1, none⟩ (.int .i64 ((rd_T71 l1 x27_2).f1))).heap[gb223]? = some (.cells #[.int .i64 ((rd_T71 l1 x27_2).f0), .int .i64 ((rd_T71 l1 x27_2).f1)] 71 (0, 0))) := ⟨by refine blk_put (cs := #[.int .i64 ((rd_T71 l1 x27_2).f0), .int .i64 0]) ?_ 1 _ rfl; refine blk_put (cs := #[.int .i64 0, .int .i64 0]) ?_ 0 _ rfl; exact BK223.out⟩
       have n2_ : Aside0 (Below w.heap.size w ((w26.setCell ⟨gb223, 0, none⟩ (.int .i64 ((rd_T71 l1 x27_2).f0))).setCell ⟨gb223, 1, none⟩ (.int .i64 ((rd_T71 l1 x27_2).f1)))) := ⟨by repeat (first | (with_reducible first | exact HB.out | apply below_alloc | apply pw_below_drewN | apply below_drew1 | refine below_set ?_ GE223.out) | exact HB.out)⟩
       (try clear HO_5)
       (try clear BK223)
       (try clear HB)
       generalize ((w26.setCell ⟨gb223, 0, none⟩ (.int .i64 ((rd_T71 l1 x27_2).f0))).setCell ⟨gb223, 1, none⟩ (.int .i64 ((rd_T71 l1 x27_2).f1))) = w28 at n0_ n1_ n2_ ⊢
       have HO_5 := n0_
       have BK223 := n1_
       have HB := n2_
       clear n0_ n1_ n2_
       have n0_ := Aside0.mk (Kd.S_drew HO_5.out)
       have n1_ := Aside0.mk (blk_drew BK223.out)
       have n2_ := Aside0.mk (below_drew1 HB.out)
       clear HO_5
       clear BK223
       clear HB
       have HO_5 := n0_
       have BK223 := n1_
       have HB := n2_
       clear n0_ n1_ n2_
       have p224 : 0 ≤ (((rd_T71 l1 x27_2).f0) : Int) := oD
       have q224 : ((rd_T71 l1 x27_2).f0) < (x5_2.length : Int) := oD
       obtain ⟨ad224, A224_0, c224_0, e224, hx224_0, hl224_0, hi224_0⟩ := at_L3 (Kd.S_reads' HO_5.out).2.2 ((rd_T71 l1 x27_2).f0) p224 q224
       cases e224
       obtain ⟨ce224, hce224, hMe224, hcc224⟩ := Kd.S_get HO_5.out [] ((rd_T71 l1 x27_2).f0) p224 (by first | exact q224 | exact oD | (have e_ := (Kd.S_reads' HO_5.out).1; omega))
       obtain ⟨ve224_0, rfl, ge224_0⟩ := hMe224
       have hv224_0 := hcc224 0 _ rfl
       rw [Nat.add_zero, show ((Kd.slice 4 Kd.bool)).sz = 1 from rfl, Nat.mul_one] at hv224_0
       replace hv224_0 := Option.some.inj (hv224_0.symm.trans hx224_0)
       rw [hv224_0] at ge224_0
       have HL224_0 := Aside0.mk (show Kd.R Kd.bool 4 _ _ _ _ (rd_L3 x5_2 ((rd_T71 l1 x27_2).f0)) from ge224_0)
       clear hv224_0 ge224_0
       have HX224_0 := Aside0.mk hx224_0
       clear hcc224 hce224
       have HR224_0 := Aside0.mk hi224_0
       have HC224_0 := Aside0.mk hl224_0
       clear hi224_0 hl224_0
       replace p224 := eq_true p224
       replace q224 := eq_true q224
       have p25 : 0 ≤ (((rd_T71 l1 x27_2).f1) : Int) := oD
       have q25 : (((rd_T71 l1 x27_2).f1) : Int) < (((rd_L3 x5_2 ((rd_T71 l1 x27_2).f0)).length : Int) : Int) := oD
       obtain ⟨go25, co25, eo25, gb25, gl25, cl25, HG25⟩ := Kd.R_form HL224_0.out (by omega)
       (first | cases eo25 | (injection eo25 with ea_ en_ ec_; (first | subst ea_ | (injection ea_ with ea_; subst ea_)); subst ec_; clear en_))
       have GB25 := Aside0.mk gb25
       have GG25 := Aside0.mk HG25
       clear gb25 gl25 HG25
       obtain ⟨hx25_0, hf25_0⟩ := Kd.R_celln false HL224_0.out (((rd_T71 l1 x27_2).f1) : Int) p25 q25
       replace p25 := eq_true p25
       replace q25 := eq_true q25
       have hq30 : (((rd_T71 l1 x27_2).f0) : Int) < (x5_2.length : Int) := (by have h_ : (((rd_T71 l1 x27_2).f0) : Int) < ((x5_2.length : Int) : Int) := oD; first | exact h_ | (have e_ := (Kd.S_reads' HO_5.out).1; omega) | simpa only [List.length_set, List.length_set] using h_)
       obtain ⟨oki30, ce30, hcl30, hM30, hcc30, hok30, hbk30⟩ := Kd.S_borrow HO_5.out [] (((rd_T71 l1 x27_2).f0) : Int) (oD) hq30
       obtain ⟨ve30_0, rfl, ge30_0⟩ := hM30
       have hv30 := hcc30 0 _ rfl
       rw [Nat.add_zero, show ((Kd.slice 4 Kd.bool)).sz = 1 from rfl, Nat.mul_one] at hv30
       replace hv30 := Option.some.inj (hv30.symm.trans HX224_0.out)
       subst hv30
       clear hcc30 hcl30
       replace ge30_0 := (show Kd.R Kd.bool 4 _ _ _ _ (rd_L3 x5_2 ((rd_T71 l1 x27_2).f0)) from ge30_0)
       have HP30 := Kd.R_putg ge30_0 (((rd_T71 l1 x27_2).f1) : Int) true
       rw [← Ny225.out] at HP30
       have HS30 := hbk30 HP30.2 (fun k_ e_ => by injection e_ with e_; subst e_; exact ge30_0.1 _ rfl) (x' := y225) (Kd.M_row HP30.1)
       rw [← Ny227.out] at HS30
       have HQ30 := Aside0.mk HS30
       clear HP30 HS30 hbk30 hok30
       refine start_ (n := 9) (S := fun w' => w'.cell? ⟨gb223, 0, none⟩ = some (.int .i64 ((rd_T71 l1 x27_2).f0)) ∧ w'.cell? ⟨gb223, 1, none⟩ = some (.int .i64 ((rd_T71 l1 x27_2).f1)) ∧ w'.cell? (ad224.add (((rd_T71 l1 x27_2).f0)).toNat) = some (.slice (some ⟨go25, 0, none⟩) (rd_L3 x5_2 ((rd_T71 l1 x27_2).f0)).length c224_0)) (ds := [8]) #[false, false, false, false, false, false, false, false, false] (by kernel_rfl) rfl rfl ⟨(blk_cell BK223.out 0).trans rfl, (blk_cell BK223.out 1).trans rfl, hx224_0⟩ (fun hHeld => ?_); refine with_tabW impl_closure.tab10 impl_closure.bits10 (fun HT_ HW_ => ?_)
       generalize w28.drew = w29 at HO_5 BK223 HB GG25 HL224_0 HQ30 HR224_0 HX224_0 hf25_0 hx224_0 hx25_0 hHeld ⊢
       refine pU 0 31 #[true, false, false, false, false, false, false, false, false] ?_
       refine pU 1 32 #[true, true, false, false, false, false, false, false, false] ?_
       refine pU 5 36 #[true, true, false, false, false, true, false, false, false] ?_
       refine tU 2 33 #[true, true, true, false, false, true, false, false, false] ?_
       refine pU 3 34 #[true, true, true, true, false, true, false, false, false] ?_
       refine tU 4 35 #[true, true, true, true, true, true, false, false, false] ?_
       refine tU 6 37 #[true, true, true, true, true, true, true, false, false] ?_
       refine pU 7 38 #[true, true, true, true, true, true, true, true, false] ?_
       refine last_ (i := 8) (N := none) #[true, true, true, true, true, true, true, true, true] rfl rfl (one_of HT_.out (by kernel_rfl)) (by decide) (fun K hK => ?_)
       refine skip_ (w1 := ?_) (by rfl) rfl ?_ ?_
       rotate_left
       ·go_simp
        rfl
       refine hK.out _ _ ?_
       clear hK K
       refine done_ (done_of HT_.out (by kernel_rfl)) ?_
       try go_wp2
       (try simp only [← hl5_2])
       go_roundg k2
       case measure => have := HK1.out; have := HK2.out; omega
       case rel => exact ⟨(y227), (wrap64 (x27_2 + 1)), sD, H', ⟨by have := HK1.out; have := HK2.out; omega⟩, ⟨by (try simp only [hl5_1]); (try simp only [hl5_2]); (with_reducible repeat (first | apply Kd.S_alloc | apply Kd.S_drewN | apply Kd.S_drew)); exact HQ30.out⟩, ⟨by repeat (first | (with_reducible first | exact HB.out | apply below_alloc | apply pw_below_drewN | apply below_drew1 | refine below_set ?_ GB25.out | refine below_set ?_ GE223.out) | exact HB.out)⟩⟩
      ·rw [if_neg c18] at H
       have c18b0 : decide (x27_2 < (l1.length : Int)) = false := decide_eq_false c18
       clear c18
       have H' := Aside0.mk H
       clear H
       go_wp2
       go_loopg [9] k2 (fun kq v9 w' => ∃ (x5_3 : List (List Bool)) (x9_3 : Int), v9 = .int .i64 x9_3 ∧ Aside0 (impl_closure.l2 kq a0 x5_3 x9_3 = some r) ∧ Aside0 (kq ≤ k2) ∧ Aside0 (Kd.S (Kd.slice 4 Kd.bool) 80 w' w.heap.size (fun _ => True) (.slice Ao7 x5_2.length co7) x5_3) ∧ Aside0 (Below w.heap.size w w'))
       case atStart => exact ⟨(x5_2), (0), sD, H', ⟨Nat.le_refl _⟩, ⟨by (try simp only [hl5_1]); (try simp only [hl5_2]); (with_reducible repeat (first | apply Kd.S_alloc | apply Kd.S_drewN | apply Kd.S_drew)); exact HO_5.out⟩, ⟨by repeat (first | (with_reducible first | exact HB.out | apply below_alloc | apply pw_below_drewN | apply below_drew1) | exact HB.out)⟩⟩
       case round =>
        clear H'
        try clear c1
        try clear p1
        try clear q1
        try clear hx1
        try clear c2
        try clear p2
        try clear q2
        try clear hx2
        try clear hf2
        try clear c3
        try clear c3b0
        try clear c3b1
        try clear q3
        try clear c4
        try clear c4b0
        try clear c4b1
        try clear c6
        try clear p6
        try clear c8
        try clear c8b0
        try clear c9
        try clear c9b0
        try clear c9b1
        try clear c10
        try clear c10b0
        try clear c10b1
        try clear c11
        try clear c11b0
        try clear c12
        try clear c12b0
        try clear c13
        try clear p13
        try clear q13
        try clear hx13
        try clear hf13
        try clear c16
        try clear hx16
        try clear hf16
        try clear c18
        try clear c18b0
        try clear c19
        try clear c19b0
        try clear c20
        try clear c20b0
        try clear c21
        try clear c21b0
        try clear c22
        try clear c22b0
        try clear p22
        try clear q22
        try clear hx22
        try clear c23
        try clear c23b0
        try clear c24
        try clear c24b0
        try clear p25
        try clear q25
        try clear hx25
        try clear hf25
        try clear c30
        try clear q30
        try clear hcz27_0
        try clear hcz27_1
        try clear hfz27_0
        try clear hfz27_1
        try clear hx13_0
        try clear hx16_0
        try clear hx222_0
        try clear hx222_1
        try clear hx224_0
        try clear hx25_0
        try clear p1
        try clear p13
        try clear p2
        try clear p222
        try clear p224
        try clear p25
        try clear p6
        try clear q1
        try clear q13
        try clear q222
        try clear q224
        try clear q25
        obtain ⟨x5_3, x9_3, rfl, HA, HK3, HO_5, HB⟩ := hrel
        have hl5_3 := (Kd.S_reads' HO_5.out).1
        rw [hl5_3] at HO_5
        (try simp only [hl5_3])
        cases gk with
        | zero => exact absurd HA.out (by simp [impl_closure.l2])
        | succ k3 =>
         have H := HA.out
         clear HA
         simp only [impl_closure.l2] at H
         by_cases c32 : x9_3 < a0
         ·rw [if_pos c32] at H
          have c32b0 : decide (x9_3 < a0) = true := decide_eq_true c32
          clear c32
          have H' := Aside0.mk H
          clear H
          go_wp2
          go_loopg [10] k3 (fun kq v10 w' => ∃ (x5_4 : List (List Bool)) (x10_4 : Int), v10 = .int .i64 x10_4 ∧ Aside0 (impl_closure.l3 kq a0 x5_4 x9_3 x10_4 = some r) ∧ Aside0 (kq ≤ k3) ∧ Aside0 (Kd.S (Kd.slice 4 Kd.bool) 80 w' w.heap.size (fun _ => True) (.slice Ao7 x5_3.length co7) x5_4) ∧ Aside0 (Below w.heap.size w w'))
          case atStart => exact ⟨(x5_3), (0), sD, H', ⟨Nat.le_refl _⟩, ⟨by (try simp only [hl5_1]); (try simp only [hl5_2]); (try simp only [hl5_3]); (with_reducible repeat (first | apply Kd.S_alloc | apply Kd.S_drewN | apply Kd.S_drew)); exact HO_5.out⟩, ⟨by repeat (first | (with_reducible first | exact HB.out | apply below_alloc | apply pw_below_drewN | apply below_drew1) | exact HB.out)⟩⟩
          case round =>
           clear H'
           try clear c1
           try clear p1
           try clear q1
           try clear hx1
           try clear c2
           try clear p2
           try clear q2
           try clear hx2
           try clear hf2
           try clear c3
           try clear c3b0
           try clear c3b1
           try clear q3
           try clear c4
           try clear c4b0
           try clear c4b1
           try clear c6
           try clear p6
           try clear c8
           try clear c8b0
           try clear c9
           try clear c9b0
           try clear c9b1
           try clear c10
           try clear c10b0
           try clear c10b1
           try clear c11
           try clear c11b0
           try clear c12
           try clear c12b0
           try clear c13
           try clear p13
           try clear q13
           try clear hx13
           try clear hf13
           try clear c16
           try clear hx16
           try clear hf16
           try clear c18
           try clear c18b0
           try clear c19
           try clear c19b0
           try clear c20
           try clear c20b0
           try clear c21
           try clear c21b0
           try clear c22
           try clear c22b0
           try clear p22
           try clear q22
           try clear hx22
           try clear c23
           try clear c23b0
           try clear c24
           try clear c24b0
           try clear p25
           try clear q25
           try clear hx25
           try clear hf25
           try clear c30
           try clear q30
           try clear c32
           try clear c32b0
           try clear hcz27_0
           try clear hcz27_1
           try clear hfz27_0
           try clear hfz27_1
           try clear hx13_0
           try clear hx16_0
           try clear hx222_0
           try clear hx222_1
           try clear hx224_0
           try clear hx25_0
           try clear p1
           try clear p13
           try clear p2
           try clear p22
           try clear p222
           try clear p224
           try clear p25
           try clear p6
           try clear q1
           try clear q13
           try clear q2
           try clear q22
           try clear q222
           try clear q224
           try clear q25
           try clear q3
           try clear q30
           obtain ⟨x5_4, x10_4, rfl, HA, HK4, HO_5, HB⟩ := hrel
           have hl5_4 := (Kd.S_reads' HO_5.out).1
           rw [hl5_4] at HO_5
           (try simp only [hl5_4])
           cases gk with
           | zero => exact absurd HA.out (by simp [impl_closure.l3])
           | succ k4 =>
            have H := HA.out
            clear HA
            simp only [impl_closure.l3] at H
            by_cases c33 : x10_4 < a0
            ·rw [if_pos c33] at H
             have c33b0 : decide (x10_4 < a0) = true := decide_eq_true c33
             clear c33
             have H' := Aside0.mk H
             clear H
             go_wp2
             go_loopg [11] k4 (fun kq v11 w' => ∃ (x5_5 : List (List Bool)) (x11_5 : Int), v11 = .int .i64 x11_5 ∧ Aside0 (impl_closure.l4 kq a0 x5_5 x9_3 x10_4 x11_5 = some r) ∧ Aside0 (kq ≤ k4) ∧ Aside0 (Kd.S (Kd.slice 4 Kd.bool) 80 w' w.heap.size (fun _ => True) (.slice Ao7 x5_4.length co7) x5_5) ∧ Aside0 (Below w.heap.size w w'))
             case atStart => exact ⟨(x5_4), (0), sD, H', ⟨Nat.le_refl _⟩, ⟨by (try simp only [hl5_1]); (try simp only [hl5_2]); (try simp only [hl5_3]); (try simp only [hl5_4]); (with_reducible repeat (first | apply Kd.S_alloc | apply Kd.S_drewN | apply Kd.S_drew)); exact HO_5.out⟩, ⟨by repeat (first | (with_reducible first | exact HB.out | apply below_alloc | apply pw_below_drewN | apply below_drew1) | exact HB.out)⟩⟩
             case round =>
              clear H'
              try clear c1
              try clear p1
              try clear q1
              try clear hx1
              try clear c2
              try clear p2
              try clear q2
              try clear hx2
              try clear hf2
              try clear c3
              try clear c3b0
              try clear c3b1
              try clear q3
              try clear c4
              try clear c4b0
              try clear c4b1
              try clear c6
              try clear p6
              try clear c8
              try clear c8b0
              try clear c9
              try clear c9b0
              try clear c9b1
              try clear c10
              try clear c10b0
              try clear c10b1
              try clear c11
              try clear c11b0
              try clear c12
              try clear c12b0
              try clear c13
              try clear p13
              try clear q13
              try clear hx13
              try clear hf13
              try clear c16
              try clear hx16
              try clear hf16
              try clear c18
              try clear c18b0
              try clear c19
              try clear c19b0
              try clear c20
              try clear c20b0
              try clear c21
              try clear c21b0
              try clear c22
              try clear c22b0
              try clear p22
              try clear q22
              try clear hx22
              try clear c23
              try clear c23b0
              try clear c24
              try clear c24b0
              try clear p25
              try clear q25
              try clear hx25
              try clear hf25
              try clear c30
              try clear q30
              try clear c32
              try clear c32b0
              try clear c33
              try clear c33b0
              try clear hcz27_0
              try clear hcz27_1
              try clear hfz27_0
              try clear hfz27_1
              try clear hx13_0
              try clear hx16_0
              try clear hx222_0
              try clear hx222_1
              try clear hx224_0
              try clear hx25_0
              try clear p1
              try clear p13
              try clear p2
              try clear p22
              try clear p222
              try clear p224
              try clear p25
              try clear p6
              try clear q1
              try clear q13
              try clear q2
              try clear q22
              try clear q222
              try clear q224
              try clear q25
              try clear q3
              try clear q30
              obtain ⟨x5_5, x11_5, rfl, HA, HK5, HO_5, HB⟩ := hrel
              have hl5_5 := (Kd.S_reads' HO_5.out).1
              rw [hl5_5] at HO_5
              (try simp only [hl5_5])
              cases gk with
              | zero => exact absurd HA.out (by simp [impl_closure.l4])
              | succ k5 =>
               have H := HA.out
               clear HA
               simp only [impl_closure.l4] at H
               by_cases c34 : x11_5 < a0
               ·rw [if_pos c34] at H
                have c34b0 : decide (x11_5 < a0) = true := decide_eq_true c34
                clear c34
                by_cases c35 : 0 ≤ x10_4; rotate_left
                ·rw [if_neg c35] at H; exact absurd H (by simp)
                rw [if_pos c35] at H
                have c35b0 : decide (0 ≤ x10_4) = true := decide_eq_true c35
                clear c35
                by_cases c36 : x10_4 < (x5_5.length : Int); rotate_left
                ·rw [if_neg c36] at H; exact absurd H (by simp)
                rw [if_pos c36] at H
                have c36b0 : decide (x10_4 < (x5_5.length : Int)) = true := decide_eq_true c36
                clear c36
                by_cases c37 : 0 ≤ x11_5; rotate_left
                ·rw [if_neg c37] at H; exact absurd H (by simp)
                rw [if_pos c37] at H
                have c37b0 : decide (0 ≤ x11_5) = true := decide_eq_true c37
                clear c37
                by_cases c38 : x11_5 < ((rd_L3 x5_5 x10_4).length : Int); rotate_left
                ·rw [if_neg c38] at H; exact absurd H (by simp)
                rw [if_pos c38] at H
                have c38b0 : decide (x11_5 < ((rd_L3 x5_5 x10_4).length : Int)) = true := decide_eq_true c38
                clear c38
                obtain ⟨bq39, hbq39⟩ : ∃ b_ : Bool, b_ = (rdOf false (rd_L3 x5_5 x10_4) x11_5) := ⟨_, rfl⟩
                replace H : (if bq39 = true then (impl_closure.l4 k5 a0 (x5_5.set (x10_4 : Int).toNat ((rd_L3 x5_5 x10_4).set (x11_5 : Int).toNat true)) x9_3 x10_4 (wrap64 (x11_5 + 1))) else (if 0 ≤ x9_3 then (if x9_3 < ((rd_L3 x5_5 x10_4).length : Int) then (if rdOf false (rd_L3 x5_5 x10_4) x9_3 = true then (if x9_3 < (x5_5.length : Int) then (if x11_5 < ((rd_L3 x5_5 x9_3).length : Int) then (impl_closure.l4 k5 a0 (x5_5.set (x10_4 : Int).toNat ((rd_L3 x5_5 x10_4).set (x11_5 : Int).toNat (rdOf false (rd_L3 x5_5 x9_3) x11_5))) x9_3 x10_4 (wrap64 (x11_5 + 1))) else (none)) else (none)) else (impl_closure.l4 k5 a0 (x5_5.set (x10_4 : Int).toNat ((rd_L3 x5_5 x10_4).set (x11_5 : Int).toNat false)) x9_3 x10_4 (wrap64 (x11_5 + 1)))) else (none)) else (none))) = some r := by rw [← hbq39] at H; exact H
                have Nbq39 := Aside0.mk hbq39
                clear hbq39
                by_cases c40 : bq39 = true
                ·subst c40
                 have H1 : (impl_closure.l4 k5 a0 (x5_5.set (x10_4 : Int).toNat ((rd_L3 x5_5 x10_4).set (x11_5 : Int).toNat true)) x9_3 x10_4 (wrap64 (x11_5 + 1))) = some r := by rw [if_pos rfl] at H; exact H
                 clear H
                 have H := H1
                 clear H1
                 obtain ⟨y231, hy231⟩ : ∃ y_ : List Bool, y_ = ((rd_L3 x5_5 x10_4).set (x11_5 : Int).toNat true) := ⟨_, rfl⟩
                 replace H : (impl_closure.l4 k5 a0 (x5_5.set (x10_4 : Int).toNat y231) x9_3 x10_4 (wrap64 (x11_5 + 1))) = some r := by first | (rw [hy231]; with_reducible exact H) | (have H2_ := (Option.bind_some _ _).symm.trans H; rw [hy231]; with_reducible exact H2_) | (have H2_ := (Option.bind_some _ _).symm.trans H; with_reducible exact H2_) | with_reducible exact H | (rw [hy231]; exact H) | exact H
                 have Ny231 := Aside0.mk hy231
                 clear hy231
                 obtain ⟨y233, hy233⟩ : ∃ y_ : List (List Bool), y_ = (x5_5.set (x10_4 : Int).toNat y231) := ⟨_, rfl⟩
                 replace H : (impl_closure.l4 k5 a0 y233 x9_3 x10_4 (wrap64 (x11_5 + 1))) = some r := by first | (rw [hy233]; with_reducible exact H) | (have H2_ := (Option.bind_some _ _).symm.trans H; rw [hy233]; with_reducible exact H2_) | (have H2_ := (Option.bind_some _ _).symm.trans H; with_reducible exact H2_) | with_reducible exact H | (rw [hy233]; exact H) | exact H
                 have Ny233 := Aside0.mk hy233
                 clear hy233
                 have H' := Aside0.mk H
                 clear H
                 try go_wp2
                 have n0_ := Aside0.mk (Kd.S_drew HO_5.out)
                 have n1_ := Aside0.mk (below_drew1 HB.out)
                 clear HO_5
                 clear HB
                 have HO_5 := n0_
                 have HB := n1_
                 clear n0_ n1_
                 have p228 : 0 ≤ (x10_4 : Int) := oD
                 have q228 : x10_4 < (x5_5.length : Int) := oD
                 obtain ⟨ad228, A228_0, c228_0, e228, hx228_0, hl228_0, hi228_0⟩ := at_L3 (Kd.S_reads' HO_5.out).2.2 x10_4 p228 q228
                 cases e228
                 obtain ⟨ce228, hce228, hMe228, hcc228⟩ := Kd.S_get HO_5.out [] x10_4 p228 (by first | exact q228 | exact oD | (have e_ := (Kd.S_reads' HO_5.out).1; omega))
                 obtain ⟨ve228_0, rfl, ge228_0⟩ := hMe228
                 have hv228_0 := hcc228 0 _ rfl
                 rw [Nat.add_zero, show ((Kd.slice 4 Kd.bool)).sz = 1 from rfl, Nat.mul_one] at hv228_0
                 replace hv228_0 := Option.some.inj (hv228_0.symm.trans hx228_0)
                 rw [hv228_0] at ge228_0
                 have HL228_0 := Aside0.mk (show Kd.R Kd.bool 4 _ _ _ _ (rd_L3 x5_5 x10_4) from ge228_0)
                 clear hv228_0 ge228_0
                 have HX228_0 := Aside0.mk hx228_0
                 clear hcc228 hce228
                 have HR228_0 := Aside0.mk hi228_0
                 have HC228_0 := Aside0.mk hl228_0
                 clear hi228_0 hl228_0
                 replace p228 := eq_true p228
                 replace q228 := eq_true q228
                 have p229 : 0 ≤ (x10_4 : Int) := oD
                 have q229 : x10_4 < (x5_5.length : Int) := oD
                 obtain ⟨ad229, A229_0, c229_0, e229, hx229_0, hl229_0, hi229_0⟩ := at_L3 (Kd.S_reads' HO_5.out).2.2 x10_4 p229 q229
                 obtain rfl : ad228 = ad229 := (by injection e229)
                 obtain ⟨ce229, hce229, hMe229, hcc229⟩ := Kd.S_get HO_5.out [] x10_4 p229 (by first | exact q229 | exact oD | (have e_ := (Kd.S_reads' HO_5.out).1; omega))
                 obtain ⟨ve229_0, rfl, ge229_0⟩ := hMe229
                 have hv229_0 := hcc229 0 _ rfl
                 rw [Nat.add_zero, show ((Kd.slice 4 Kd.bool)).sz = 1 from rfl, Nat.mul_one] at hv229_0
                 replace hv229_0 := Option.some.inj (hv229_0.symm.trans hx229_0)
                 rw [hv229_0] at ge229_0
                 have HL229_0 := Aside0.mk (show Kd.R Kd.bool 4 _ _ _ _ (rd_L3 x5_5 x10_4) from ge229_0)
                 clear hv229_0 ge229_0
                 have HX229_0 := Aside0.mk hx229_0
                 clear hcc229 hce229
                 have HR229_0 := Aside0.mk hi229_0
                 have HC229_0 := Aside0.mk hl229_0
                 clear hi229_0 hl229_0
                 replace p229 := eq_true p229
                 replace q229 := eq_true q229
                 have ea_ := Option.some.inj (hx228_0.symm.trans hx229_0)
                 injection ea_ with ea_ en_ ec_
                 subst ea_
                 subst ec_
                 clear en_
                 have p230 : 0 ≤ (x11_5 : Int) := oD
                 have q230 : x11_5 < ((rd_L3 x5_5 x10_4).length : Int) := oD
                 obtain ⟨ad230, e230, hx230_0⟩ := Kd.at_bool (by repeat (first | (with_reducible exact HR229_0.out) | (with_reducible refine Kd.C_alloc ?_ _) | (with_reducible refine Kd.C_drewN ?_ _) | (with_reducible refine Kd.C_drew ?_) | exact HR229_0.out)) x11_5 p230 q230
                 (try rw [← Nbq39.out] at hx230_0)
                 cases e230
                 replace p230 := eq_true p230
                 replace q230 := eq_true q230
                 have p41 : 0 ≤ (x11_5 : Int) := oD
                 have q41 : (x11_5 : Int) < (((rd_L3 x5_5 x10_4).length : Int) : Int) := oD
                 obtain ⟨go41, co41, eo41, gb41, gl41, cl41, HG41⟩ := Kd.R_form HL228_0.out (by omega)
                 (first | cases eo41 | (injection eo41 with ea_ en_ ec_; (first | subst ea_ | (injection ea_ with ea_; subst ea_)); subst ec_; clear en_))
                 have GB41 := Aside0.mk gb41
                 have GG41 := Aside0.mk HG41
                 clear gb41 gl41 HG41
                 (first | simp only [add_plain] at hx230_0 | skip)
                 obtain ⟨hx41_0, hf41_0⟩ := Kd.R_celln false HL228_0.out (x11_5 : Int) p41 q41
                 replace p41 := eq_true p41
                 replace q41 := eq_true q41
                 have hq43 : (x10_4 : Int) < (x5_5.length : Int) := (by have h_ : (x10_4 : Int) < ((x5_5.length : Int) : Int) := oD; first | exact h_ | (have e_ := (Kd.S_reads' HO_5.out).1; omega) | simpa only [List.length_set, List.length_set] using h_)
                 obtain ⟨oki43, ce43, hcl43, hM43, hcc43, hok43, hbk43⟩ := Kd.S_borrow HO_5.out [] (x10_4 : Int) (oD) hq43
                 obtain ⟨ve43_0, rfl, ge43_0⟩ := hM43
                 have hv43 := hcc43 0 _ rfl
                 rw [Nat.add_zero, show ((Kd.slice 4 Kd.bool)).sz = 1 from rfl, Nat.mul_one] at hv43
                 replace hv43 := Option.some.inj (hv43.symm.trans HX228_0.out)
                 subst hv43
                 clear hcc43 hcl43
                 replace ge43_0 := (show Kd.R Kd.bool 4 _ _ _ _ (rd_L3 x5_5 x10_4) from ge43_0)
                 have HP43 := Kd.R_putg ge43_0 (x11_5 : Int) true
                 rw [← Ny231.out] at HP43
                 have HS43 := hbk43 HP43.2 (fun k_ e_ => by injection e_ with e_; subst e_; exact ge43_0.1 _ rfl) (x' := y231) (Kd.M_row HP43.1)
                 rw [← Ny233.out] at HS43
                 have HQ43 := Aside0.mk HS43
                 clear HP43 HS43 hbk43 hok43
                 refine start_ (n := 32) (S := fun w' => w'.cell? (ad228.add (x10_4).toNat) = some (.slice (some ⟨go41, 0, none⟩) (rd_L3 x5_5 x10_4).length c228_0) ∧ w'.cell? (ad228.add (x10_4).toNat) = some (.slice (some ⟨go41, 0, none⟩) (rd_L3 x5_5 x10_4).length c228_0) ∧ w'.cell? ⟨go41, (x11_5).toNat, none⟩ = some (.bool true)) (ds := [31]) (bA 32 0) (by kernel_rfl) rfl rfl ⟨hx228_0, hx229_0, hx230_0⟩ (fun hHeld => ?_); refine with_tabW impl_closure.tab21 impl_closure.bits21 (fun HT_ HW_ => ?_)
                 generalize wr.drew = w42 at HO_5 HB GG41 HL228_0 HL229_0 HQ43 HR228_0 HR229_0 HX228_0 HX229_0 hf41_0 hx228_0 hx229_0 hx230_0 hx41_0 hHeld ⊢
                 refine pU 0 55 (bA 32 1) ?_
                 refine pU 1 56 (bA 32 3) ?_
                 refine pU 2 57 (bA 32 7) ?_
                 refine pU 4 59 (bA 32 23) ?_
                 refine pU 5 60 (bA 32 55) ?_
                 refine pU 6 61 (bA 32 119) ?_
                 refine pU 7 62 (bA 32 247) ?_
                 refine pU 9 64 (bA 32 759) ?_
                 refine tU 3 58 (bA 32 767) ?_
                 refine tU 8 63 (bA 32 1023) ?_
                 refine pU 10 65 (bA 32 2047) ?_
                 refine tU 11 66 (bA 32 4095) ?_
                 refine pU 12 67 (bA 32 8191) ?_
                 refine nU 13 68 (bA 32 16383) ?_
                 refine nU 14 69 (bA 32 32767) ?_
                 refine nU 15 70 (bA 32 65535) ?_
                 refine nU 16 71 (bA 32 131071) ?_
                 refine nU 17 72 (bA 32 262143) ?_
                 refine nU 18 73 (bA 32 524287) ?_
                 refine nU 19 74 (bA 32 1048575) ?_
                 refine nU 20 75 (bA 32 2097151) ?_
                 refine nU 21 76 (bA 32 4194303) ?_
                 refine nU 22 77 (bA 32 8388607) ?_
                 refine nU 23 78 (bA 32 16777215) ?_
                 refine nU 24 79 (bA 32 33554431) ?_
                 refine nU 25 80 (bA 32 67108863) ?_
                 refine nU 26 81 (bA 32 134217727) ?_
                 refine nU 27 82 (bA 32 268435455) ?_
                 refine nU 28 83 (bA 32 536870911) ?_
                 refine pU 29 84 (bA 32 1073741823) ?_
                 refine pU 30 85 (bA 32 2147483647) ?_
                 refine last_ (i := 31) (N := none) (bA 32 4294967295) rfl rfl (one_of HT_.out (by kernel_rfl)) (by decide) (fun K hK => ?_)
                 refine skip_ (w1 := ?_) (by rfl) rfl ?_ ?_
                 rotate_left
                 ·go_simp
                  rfl
                 refine hK.out _ _ ?_
                 clear hK K
                 refine done_ (done_of HT_.out (by kernel_rfl)) ?_
                 try go_wp2
                 (try simp only [← hl5_5])
                 go_roundg k5
                 case measure => have := HK1.out; have := HK2.out; have := HK3.out; have := HK4.out; have := HK5.out; omega
                 case rel => exact ⟨(y233), (wrap64 (x11_5 + 1)), sD, H', ⟨by have := HK1.out; have := HK2.out; have := HK3.out; have := HK4.out; have := HK5.out; omega⟩, ⟨by (try simp only [hl5_1]); (try simp only [hl5_2]); (try simp only [hl5_3]); (try simp only [hl5_4]); (try simp only [hl5_5]); (with_reducible repeat (first | apply Kd.S_alloc | apply Kd.S_drewN | apply Kd.S_drew)); exact HQ43.out⟩, ⟨by repeat (first | (with_reducible first | exact HB.out | apply below_alloc | apply pw_below_drewN | apply below_drew1 | refine below_set ?_ GB41.out) | exact HB.out)⟩⟩
                ·replace c40 := Bool.eq_false_iff.mpr c40
                 subst c40
                 have H1 : (if 0 ≤ x9_3 then (if x9_3 < ((rd_L3 x5_5 x10_4).length : Int) then (if rdOf false (rd_L3 x5_5 x10_4) x9_3 = true then (if x9_3 < (x5_5.length : Int) then (if x11_5 < ((rd_L3 x5_5 x9_3).length : Int) then (impl_closure.l4 k5 a0 (x5_5.set (x10_4 : Int).toNat ((rd_L3 x5_5 x10_4).set (x11_5 : Int).toNat (rdOf false (rd_L3 x5_5 x9_3) x11_5))) x9_3 x10_4 (wrap64 (x11_5 + 1))) else (none)) else (none)) else (impl_closure.l4 k5 a0 (x5_5.set (x10_4 : Int).toNat ((rd_L3 x5_5 x10_4).set (x11_5 : Int).toNat false)) x9_3 x10_4 (wrap64 (x11_5 + 1)))) else (none)) else (none)) = some r := by rw [if_neg (show ¬ (false = true) by decide)] at H; exact H
                 clear H
                 have H := H1
                 clear H1
                 by_cases c45 : 0 ≤ x9_3; rotate_left
                 ·rw [if_neg c45] at H; exact absurd H (by simp)
                 rw [if_pos c45] at H
                 have c45b0 : decide (0 ≤ x9_3) = true := decide_eq_true c45
                 clear c45
                 by_cases c46 : x9_3 < ((rd_L3 x5_5 x10_4).length : Int); rotate_left
                 ·rw [if_neg c46] at H; exact absurd H (by simp)
                 rw [if_pos c46] at H
                 have c46b0 : decide (x9_3 < ((rd_L3 x5_5 x10_4).length : Int)) = true := decide_eq_true c46
                 clear c46
                 obtain ⟨bq47, hbq47⟩ : ∃ b_ : Bool, b_ = (rdOf false (rd_L3 x5_5 x10_4) x9_3) := ⟨_, rfl⟩
                 replace H : (if bq47 = true then (if x9_3 < (x5_5.length : Int) then (if x11_5 < ((rd_L3 x5_5 x9_3).length : Int) then (impl_closure.l4 k5 a0 (x5_5.set (x10_4 : Int).toNat ((rd_L3 x5_5 x10_4).set (x11_5 : Int).toNat (rdOf false (rd_L3 x5_5 x9_3) x11_5))) x9_3 x10_4 (wrap64 (x11_5 + 1))) else (none)) else (none)) else (impl_closure.l4 k5 a0 (x5_5.set (x10_4 : Int).toNat ((rd_L3 x5_5 x10_4).set (x11_5 : Int).toNat false)) x9_3 x10_4 (wrap64 (x11_5 + 1)))) = some r := by rw [← hbq47] at H; exact H
                 have Nbq47 := Aside0.mk hbq47
                 clear hbq47
                 by_cases c48 : bq47 = true
                 ·subst c48
                  have H1 : (if x9_3 < (x5_5.length : Int) then (if x11_5 < ((rd_L3 x5_5 x9_3).length : Int) then (impl_closure.l4 k5 a0 (x5_5.set (x10_4 : Int).toNat ((rd_L3 x5_5 x10_4).set (x11_5 : Int).toNat (rdOf false (rd_L3 x5_5 x9_3) x11_5))) x9_3 x10_4 (wrap64 (x11_5 + 1))) else (none)) else (none)) = some r := by rw [if_pos rfl] at H; exact H
                  clear H
                  have H := H1
                  clear H1
                  by_cases c49 : x9_3 < (x5_5.length : Int); rotate_left
                  ·rw [if_neg c49] at H; exact absurd H (by simp)
                  rw [if_pos c49] at H
                  have c49b0 : decide (x9_3 < (x5_5.length : Int)) = true := decide_eq_true c49
                  clear c49
                  by_cases c50 : x11_5 < ((rd_L3 x5_5 x9_3).length : Int); rotate_left
                  ·rw [if_neg c50] at H; exact absurd H (by simp)
                  rw [if_pos c50] at H
                  have c50b0 : decide (x11_5 < ((rd_L3 x5_5 x9_3).length : Int)) = true := decide_eq_true c50
                  clear c50
                  obtain ⟨y238, hy238⟩ : ∃ y_ : List Bool, y_ = ((rd_L3 x5_5 x10_4).set (x11_5 : Int).toNat (rdOf false (rd_L3 x5_5 x9_3) x11_5)) := ⟨_, rfl⟩
                  replace H : (impl_closure.l4 k5 a0 (x5_5.set (x10_4 : Int).toNat y238) x9_3 x10_4 (wrap64 (x11_5 + 1))) = some r := by first | (rw [hy238]; with_reducible exact H) | (have H2_ := (Option.bind_some _ _).symm.trans H; rw [hy238]; with_reducible exact H2_) | (have H2_ := (Option.bind_some _ _).symm.trans H; with_reducible exact H2_) | with_reducible exact H | (rw [hy238]; exact H) | exact H
                  have Ny238 := Aside0.mk hy238
                  clear hy238
                  obtain ⟨y240, hy240⟩ : ∃ y_ : List (List Bool), y_ = (x5_5.set (x10_4 : Int).toNat y238) := ⟨_, rfl⟩
                  replace H : (impl_closure.l4 k5 a0 y240 x9_3 x10_4 (wrap64 (x11_5 + 1))) = some r := by first | (rw [hy240]; with_reducible exact H) | (have H2_ := (Option.bind_some _ _).symm.trans H; rw [hy240]; with_reducible exact H2_) | (have H2_ := (Option.bind_some _ _).symm.trans H; with_reducible exact H2_) | with_reducible exact H | (rw [hy240]; exact H) | exact H
                  have Ny240 := Aside0.mk hy240
                  clear hy240
                  have H' := Aside0.mk H
                  clear H
                  try go_wp2
                  have n0_ := Aside0.mk (Kd.S_drew HO_5.out)
                  have n1_ := Aside0.mk (below_drew1 HB.out)
                  clear HO_5
                  clear HB
                  have HO_5 := n0_
                  have HB := n1_
                  clear n0_ n1_
                  have p228 : 0 ≤ (x10_4 : Int) := oD
                  have q228 : x10_4 < (x5_5.length : Int) := oD
                  obtain ⟨ad228, A228_0, c228_0, e228, hx228_0, hl228_0, hi228_0⟩ := at_L3 (Kd.S_reads' HO_5.out).2.2 x10_4 p228 q228
                  cases e228
                  obtain ⟨ce228, hce228, hMe228, hcc228⟩ := Kd.S_get HO_5.out [] x10_4 p228 (by first | exact q228 | exact oD | (have e_ := (Kd.S_reads' HO_5.out).1; omega))
                  obtain ⟨ve228_0, rfl, ge228_0⟩ := hMe228
                  have hv228_0 := hcc228 0 _ rfl
                  rw [Nat.add_zero, show ((Kd.slice 4 Kd.bool)).sz = 1 from rfl, Nat.mul_one] at hv228_0
                  replace hv228_0 := Option.some.inj (hv228_0.symm.trans hx228_0)
                  rw [hv228_0] at ge228_0
                  have HL228_0 := Aside0.mk (show Kd.R Kd.bool 4 _ _ _ _ (rd_L3 x5_5 x10_4) from ge228_0)
                  clear hv228_0 ge228_0
                  have HX228_0 := Aside0.mk hx228_0
                  clear hcc228 hce228
                  have HR228_0 := Aside0.mk hi228_0
                  have HC228_0 := Aside0.mk hl228_0
                  clear hi228_0 hl228_0
                  replace p228 := eq_true p228
                  replace q228 := eq_true q228
                  have p229 : 0 ≤ (x10_4 : Int) := oD
                  have q229 : x10_4 < (x5_5.length : Int) := oD
                  obtain ⟨ad229, A229_0, c229_0, e229, hx229_0, hl229_0, hi229_0⟩ := at_L3 (Kd.S_reads' HO_5.out).2.2 x10_4 p229 q229
                  obtain rfl : ad228 = ad229 := (by injection e229)
                  obtain ⟨ce229, hce229, hMe229, hcc229⟩ := Kd.S_get HO_5.out [] x10_4 p229 (by first | exact q229 | exact oD | (have e_ := (Kd.S_reads' HO_5.out).1; omega))
                  obtain ⟨ve229_0, rfl, ge229_0⟩ := hMe229
                  have hv229_0 := hcc229 0 _ rfl
                  rw [Nat.add_zero, show ((Kd.slice 4 Kd.bool)).sz = 1 from rfl, Nat.mul_one] at hv229_0
                  replace hv229_0 := Option.some.inj (hv229_0.symm.trans hx229_0)
                  rw [hv229_0] at ge229_0
                  have HL229_0 := Aside0.mk (show Kd.R Kd.bool 4 _ _ _ _ (rd_L3 x5_5 x10_4) from ge229_0)
                  clear hv229_0 ge229_0
                  have HX229_0 := Aside0.mk hx229_0
                  clear hcc229 hce229
                  have HR229_0 := Aside0.mk hi229_0
                  have HC229_0 := Aside0.mk hl229_0
                  clear hi229_0 hl229_0
                  replace p229 := eq_true p229
                  replace q229 := eq_true q229
                  have ea_ := Option.some.inj (hx228_0.symm.trans hx229_0)
                  injection ea_ with ea_ en_ ec_
                  subst ea_
                  subst ec_
                  clear en_
                  have p230 : 0 ≤ (x11_5 : Int) := oD
                  have q230 : x11_5 < ((rd_L3 x5_5 x10_4).length : Int) := oD
                  obtain ⟨ad230, e230, hx230_0⟩ := Kd.at_bool (by repeat (first | (with_reducible exact HR229_0.out) | (with_reducible refine Kd.C_alloc ?_ _) | (with_reducible refine Kd.C_drewN ?_ _) | (with_reducible refine Kd.C_drew ?_) | exact HR229_0.out)) x11_5 p230 q230
                  (try rw [← Nbq39.out] at hx230_0)
                  (try rw [← Nbq47.out] at hx230_0)
                  cases e230
                  replace p230 := eq_true p230
                  replace q230 := eq_true q230
                  have p234 : 0 ≤ (x10_4 : Int) := oD
                  have q234 : x10_4 < (x5_5.length : Int) := oD
                  obtain ⟨ad234, A234_0, c234_0, e234, hx234_0, hl234_0, hi234_0⟩ := at_L3 (Kd.S_reads' HO_5.out).2.2 x10_4 p234 q234
                  obtain rfl : ad228 = ad234 := (by injection e234)
                  obtain ⟨ce234, hce234, hMe234, hcc234⟩ := Kd.S_get HO_5.out [] x10_4 p234 (by first | exact q234 | exact oD | (have e_ := (Kd.S_reads' HO_5.out).1; omega))
                  obtain ⟨ve234_0, rfl, ge234_0⟩ := hMe234
                  have hv234_0 := hcc234 0 _ rfl
                  rw [Nat.add_zero, show ((Kd.slice 4 Kd.bool)).sz = 1 from rfl, Nat.mul_one] at hv234_0
                  replace hv234_0 := Option.some.inj (hv234_0.symm.trans hx234_0)
                  rw [hv234_0] at ge234_0
                  have HL234_0 := Aside0.mk (show Kd.R Kd.bool 4 _ _ _ _ (rd_L3 x5_5 x10_4) from ge234_0)
                  clear hv234_0 ge234_0
                  have HX234_0 := Aside0.mk hx234_0
                  clear hcc234 hce234
                  have HR234_0 := Aside0.mk hi234_0
                  have HC234_0 := Aside0.mk hl234_0
                  clear hi234_0 hl234_0
                  replace p234 := eq_true p234
                  replace q234 := eq_true q234
                  have ea_ := Option.some.inj (hx228_0.symm.trans hx234_0)
                  injection ea_ with ea_ en_ ec_
                  subst ea_
                  subst ec_
                  clear en_
                  have p235 : 0 ≤ (x9_3 : Int) := oD
                  have q235 : x9_3 < ((rd_L3 x5_5 x10_4).length : Int) := oD
                  obtain ⟨ad235, e235, hx235_0⟩ := Kd.at_bool (by repeat (first | (with_reducible exact HR234_0.out) | (with_reducible refine Kd.C_alloc ?_ _) | (with_reducible refine Kd.C_drewN ?_ _) | (with_reducible refine Kd.C_drew ?_) | exact HR234_0.out)) x9_3 p235 q235
                  (try rw [← Nbq39.out] at hx235_0)
                  (try rw [← Nbq47.out] at hx235_0)
                  cases e235
                  replace p235 := eq_true p235
                  replace q235 := eq_true q235
                  have p236 : 0 ≤ (x9_3 : Int) := oD
                  have q236 : x9_3 < (x5_5.length : Int) := oD
                  obtain ⟨ad236, A236_0, c236_0, e236, hx236_0, hl236_0, hi236_0⟩ := at_L3 (Kd.S_reads' HO_5.out).2.2 x9_3 p236 q236
                  obtain rfl : ad228 = ad236 := (by injection e236)
                  obtain ⟨ce236, hce236, hMe236, hcc236⟩ := Kd.S_get HO_5.out [] x9_3 p236 (by first | exact q236 | exact oD | (have e_ := (Kd.S_reads' HO_5.out).1; omega))
                  obtain ⟨ve236_0, rfl, ge236_0⟩ := hMe236
                  have hv236_0 := hcc236 0 _ rfl
                  rw [Nat.add_zero, show ((Kd.slice 4 Kd.bool)).sz = 1 from rfl, Nat.mul_one] at hv236_0
                  replace hv236_0 := Option.some.inj (hv236_0.symm.trans hx236_0)
                  rw [hv236_0] at ge236_0
                  have HL236_0 := Aside0.mk (show Kd.R Kd.bool 4 _ _ _ _ (rd_L3 x5_5 x9_3) from ge236_0)
                  clear hv236_0 ge236_0
                  have HX236_0 := Aside0.mk hx236_0
                  clear hcc236 hce236
                  have HR236_0 := Aside0.mk hi236_0
                  have HC236_0 := Aside0.mk hl236_0
                  clear hi236_0 hl236_0
                  replace p236 := eq_true p236
                  replace q236 := eq_true q236
                  have p237 : 0 ≤ (x11_5 : Int) := oD
                  have q237 : x11_5 < ((rd_L3 x5_5 x9_3).length : Int) := oD
                  obtain ⟨ad237, e237, hx237_0⟩ := Kd.at_bool (by repeat (first | (with_reducible exact HR236_0.out) | (with_reducible refine Kd.C_alloc ?_ _) | (with_reducible refine Kd.C_drewN ?_ _) | (with_reducible refine Kd.C_drew ?_) | exact HR236_0.out)) x11_5 p237 q237
                  (try rw [← Nbq39.out] at hx237_0)
                  (try rw [← Nbq47.out] at hx237_0)
                  cases e237
                  replace p237 := eq_true p237
                  replace q237 := eq_true q237
                  have p51 : 0 ≤ (x11_5 : Int) := oD
                  have q51 : (x11_5 : Int) < (((rd_L3 x5_5 x10_4).length : Int) : Int) := oD
                  obtain ⟨go51, co51, eo51, gb51, gl51, cl51, HG51⟩ := Kd.R_form HL228_0.out (by omega)
                  (first | cases eo51 | (injection eo51 with ea_ en_ ec_; (first | subst ea_ | (injection ea_ with ea_; subst ea_)); subst ec_; clear en_))
                  have GB51 := Aside0.mk gb51
                  have GG51 := Aside0.mk HG51
                  clear gb51 gl51 HG51
                  (first | simp only [add_plain] at hx235_0 | skip)
                  (try simp only [add_plain] at hx230_0)
                  obtain ⟨hx51_0, hf51_0⟩ := Kd.R_celln false HL228_0.out (x11_5 : Int) p51 q51
                  replace p51 := eq_true p51
                  replace q51 := eq_true q51
                  have hq53 : (x10_4 : Int) < (x5_5.length : Int) := (by have h_ : (x10_4 : Int) < ((x5_5.length : Int) : Int) := oD; first | exact h_ | (have e_ := (Kd.S_reads' HO_5.out).1; omega) | simpa only [List.length_set, List.length_set] using h_)
                  obtain ⟨oki53, ce53, hcl53, hM53, hcc53, hok53, hbk53⟩ := Kd.S_borrow HO_5.out [] (x10_4 : Int) (oD) hq53
                  obtain ⟨ve53_0, rfl, ge53_0⟩ := hM53
                  have hv53 := hcc53 0 _ rfl
                  rw [Nat.add_zero, show ((Kd.slice 4 Kd.bool)).sz = 1 from rfl, Nat.mul_one] at hv53
                  replace hv53 := Option.some.inj (hv53.symm.trans HX228_0.out)
                  subst hv53
                  clear hcc53 hcl53
                  replace ge53_0 := (show Kd.R Kd.bool 4 _ _ _ _ (rd_L3 x5_5 x10_4) from ge53_0)
                  have HP53 := Kd.R_putg ge53_0 (x11_5 : Int) (rdOf false (rd_L3 x5_5 x9_3) x11_5)
                  rw [← Ny238.out] at HP53
                  have HS53 := hbk53 HP53.2 (fun k_ e_ => by injection e_ with e_; subst e_; exact ge53_0.1 _ rfl) (x' := y238) (Kd.M_row HP53.1)
                  rw [← Ny240.out] at HS53
                  have HQ53 := Aside0.mk HS53
                  clear HP53 HS53 hbk53 hok53
                  refine start_ (n := 32) (S := fun w' => w'.cell? (ad228.add (x10_4).toNat) = some (.slice (some ⟨go51, 0, none⟩) (rd_L3 x5_5 x10_4).length c228_0) ∧ w'.cell? (ad228.add (x10_4).toNat) = some (.slice (some ⟨go51, 0, none⟩) (rd_L3 x5_5 x10_4).length c228_0) ∧ w'.cell? ⟨go51, (x11_5).toNat, none⟩ = some (.bool false) ∧ w'.cell? (ad228.add (x10_4).toNat) = some (.slice (some ⟨go51, 0, none⟩) (rd_L3 x5_5 x10_4).length c228_0) ∧ w'.cell? ⟨go51, (x9_3).toNat, none⟩ = some (.bool true) ∧ w'.cell? (ad228.add (x9_3).toNat) = some (.slice (some ad237) (rd_L3 x5_5 x9_3).length c236_0) ∧ w'.cell? (ad237.add (x11_5).toNat) = some (.bool (rdOf false (rd_L3 x5_5 x9_3) x11_5))) (ds := [31]) (bA 32 0) (by kernel_rfl) rfl rfl ⟨hx228_0, hx229_0, hx230_0, hx234_0, hx235_0, hx236_0, hx237_0⟩ (fun hHeld => ?_); refine with_tabW impl_closure.tab21 impl_closure.bits21 (fun HT_ HW_ => ?_)
                  generalize wr.drew = w52 at HO_5 HB GG51 HL228_0 HL229_0 HL234_0 HL236_0 HQ53 HR228_0 HR229_0 HR234_0 HR236_0 HX228_0 HX229_0 HX234_0 HX236_0 hf51_0 hx228_0 hx229_0 hx230_0 hx234_0 hx235_0 hx236_0 hx237_0 hx51_0 hHeld ⊢
                  refine pU 0 55 (bA 32 1) ?_
                  refine pU 1 56 (bA 32 3) ?_
                  refine pU 2 57 (bA 32 7) ?_
                  refine pU 4 59 (bA 32 23) ?_
                  refine pU 5 60 (bA 32 55) ?_
                  refine pU 6 61 (bA 32 119) ?_
                  refine pU 7 62 (bA 32 247) ?_
                  refine pU 9 64 (bA 32 759) ?_
                  refine tU 3 58 (bA 32 767) ?_
                  refine tU 8 63 (bA 32 1023) ?_
                  refine pU 10 65 (bA 32 2047) ?_
                  refine tU 11 66 (bA 32 4095) ?_
                  refine pU 12 67 (bA 32 8191) ?_
                  refine pU 13 68 (bA 32 16383) ?_
                  refine pU 14 69 (bA 32 32767) ?_
                  refine pU 15 70 (bA 32 65535) ?_
                  refine pU 17 72 (bA 32 196607) ?_
                  refine tU 16 71 (bA 32 262143) ?_
                  refine pU 18 73 (bA 32 524287) ?_
                  refine tU 19 74 (bA 32 1048575) ?_
                  refine pU 20 75 (bA 32 2097151) ?_
                  refine pU 21 76 (bA 32 4194303) ?_
                  refine pU 22 77 (bA 32 8388607) ?_
                  refine pU 23 78 (bA 32 16777215) ?_
                  refine pU 25 80 (bA 32 50331647) ?_
                  refine tU 24 79 (bA 32 67108863) ?_
                  refine pU 26 81 (bA 32 134217727) ?_
                  refine tU 27 82 (bA 32 268435455) ?_
                  refine pU 28 83 (bA 32 536870911) ?_
                  refine pU 29 84 (bA 32 1073741823) ?_
                  refine pU 30 85 (bA 32 2147483647) ?_
                  refine last_ (i := 31) (N := none) (bA 32 4294967295) rfl rfl (one_of HT_.out (by kernel_rfl)) (by decide) (fun K hK => ?_)
                  refine skip_ (w1 := ?_) (by rfl) rfl ?_ ?_
                  rotate_left
                  ·go_simp
                   rfl
                  refine hK.out _ _ ?_
                  clear hK K
                  refine done_ (done_of HT_.out (by kernel_rfl)) ?_
                  try go_wp2
                  (try simp only [← hl5_5])
                  go_roundg k5
                  case measure => have := HK1.out; have := HK2.out; have := HK3.out; have := HK4.out; have := HK5.out; omega
                  case rel => exact ⟨(y240), (wrap64 (x11_5 + 1)), sD, H', ⟨by have := HK1.out; have := HK2.out; have := HK3.out; have := HK4.out; have := HK5.out; omega⟩, ⟨by (try simp only [hl5_1]); (try simp only [hl5_2]); (try simp only [hl5_3]); (try simp only [hl5_4]); (try simp only [hl5_5]); (with_reducible repeat (first | apply Kd.S_alloc | apply Kd.S_drewN | apply Kd.S_drew)); exact HQ53.out⟩, ⟨by repeat (first | (with_reducible first | exact HB.out | apply below_alloc | apply pw_below_drewN | apply below_drew1 | refine below_set ?_ GB51.out) | exact HB.out)⟩⟩
                 ·replace c48 := Bool.eq_false_iff.mpr c48
                  subst c48
                  have H1 : (impl_closure.l4 k5 a0 (x5_5.set (x10_4 : Int).toNat ((rd_L3 x5_5 x10_4).set (x11_5 : Int).toNat false)) x9_3 x10_4 (wrap64 (x11_5 + 1))) = some r := by rw [if_neg (show ¬ (false = true) by decide)] at H; exact H
                  clear H
                  have H := H1
                  clear H1
                  obtain ⟨y241, hy241⟩ : ∃ y_ : List Bool, y_ = ((rd_L3 x5_5 x10_4).set (x11_5 : Int).toNat false) := ⟨_, rfl⟩
                  replace H : (impl_closure.l4 k5 a0 (x5_5.set (x10_4 : Int).toNat y241) x9_3 x10_4 (wrap64 (x11_5 + 1))) = some r := by first | (rw [hy241]; with_reducible exact H) | (have H2_ := (Option.bind_some _ _).symm.trans H; rw [hy241]; with_reducible exact H2_) | (have H2_ := (Option.bind_some _ _).symm.trans H; with_reducible exact H2_) | with_reducible exact H | (rw [hy241]; exact H) | exact H
                  have Ny241 := Aside0.mk hy241
                  clear hy241
                  obtain ⟨y243, hy243⟩ : ∃ y_ : List (List Bool), y_ = (x5_5.set (x10_4 : Int).toNat y241) := ⟨_, rfl⟩
                  replace H : (impl_closure.l4 k5 a0 y243 x9_3 x10_4 (wrap64 (x11_5 + 1))) = some r := by first | (rw [hy243]; with_reducible exact H) | (have H2_ := (Option.bind_some _ _).symm.trans H; rw [hy243]; with_reducible exact H2_) | (have H2_ := (Option.bind_some _ _).symm.trans H; with_reducible exact H2_) | with_reducible exact H | (rw [hy243]; exact H) | exact H
                  have Ny243 := Aside0.mk hy243
                  clear hy243
                  have H' := Aside0.mk H
                  clear H
                  try go_wp2
                  have n0_ := Aside0.mk (Kd.S_drew HO_5.out)
                  have n1_ := Aside0.mk (below_drew1 HB.out)
                  clear HO_5
                  clear HB
                  have HO_5 := n0_
                  have HB := n1_
                  clear n0_ n1_
                  have p228 : 0 ≤ (x10_4 : Int) := oD
                  have q228 : x10_4 < (x5_5.length : Int) := oD
                  obtain ⟨ad228, A228_0, c228_0, e228, hx228_0, hl228_0, hi228_0⟩ := at_L3 (Kd.S_reads' HO_5.out).2.2 x10_4 p228 q228
                  cases e228
                  obtain ⟨ce228, hce228, hMe228, hcc228⟩ := Kd.S_get HO_5.out [] x10_4 p228 (by first | exact q228 | exact oD | (have e_ := (Kd.S_reads' HO_5.out).1; omega))
                  obtain ⟨ve228_0, rfl, ge228_0⟩ := hMe228
                  have hv228_0 := hcc228 0 _ rfl
                  rw [Nat.add_zero, show ((Kd.slice 4 Kd.bool)).sz = 1 from rfl, Nat.mul_one] at hv228_0
                  replace hv228_0 := Option.some.inj (hv228_0.symm.trans hx228_0)
                  rw [hv228_0] at ge228_0
                  have HL228_0 := Aside0.mk (show Kd.R Kd.bool 4 _ _ _ _ (rd_L3 x5_5 x10_4) from ge228_0)
                  clear hv228_0 ge228_0
                  have HX228_0 := Aside0.mk hx228_0
                  clear hcc228 hce228
                  have HR228_0 := Aside0.mk hi228_0
                  have HC228_0 := Aside0.mk hl228_0
                  clear hi228_0 hl228_0
                  replace p228 := eq_true p228
                  replace q228 := eq_true q228
                  have p229 : 0 ≤ (x10_4 : Int) := oD
                  have q229 : x10_4 < (x5_5.length : Int) := oD
                  obtain ⟨ad229, A229_0, c229_0, e229, hx229_0, hl229_0, hi229_0⟩ := at_L3 (Kd.S_reads' HO_5.out).2.2 x10_4 p229 q229
                  obtain rfl : ad228 = ad229 := (by injection e229)
                  obtain ⟨ce229, hce229, hMe229, hcc229⟩ := Kd.S_get HO_5.out [] x10_4 p229 (by first | exact q229 | exact oD | (have e_ := (Kd.S_reads' HO_5.out).1; omega))
                  obtain ⟨ve229_0, rfl, ge229_0⟩ := hMe229
                  have hv229_0 := hcc229 0 _ rfl
                  rw [Nat.add_zero, show ((Kd.slice 4 Kd.bool)).sz = 1 from rfl, Nat.mul_one] at hv229_0
                  replace hv229_0 := Option.some.inj (hv229_0.symm.trans hx229_0)
                  rw [hv229_0] at ge229_0
                  have HL229_0 := Aside0.mk (show Kd.R Kd.bool 4 _ _ _ _ (rd_L3 x5_5 x10_4) from ge229_0)
                  clear hv229_0 ge229_0
                  have HX229_0 := Aside0.mk hx229_0
                  clear hcc229 hce229
                  have HR229_0 := Aside0.mk hi229_0
                  have HC229_0 := Aside0.mk hl229_0
                  clear hi229_0 hl229_0
                  replace p229 := eq_true p229
                  replace q229 := eq_true q229
                  have ea_ := Option.some.inj (hx228_0.symm.trans hx229_0)
                  injection ea_ with ea_ en_ ec_
                  subst ea_
                  subst ec_
                  clear en_
                  have p230 : 0 ≤ (x11_5 : Int) := oD
                  have q230 : x11_5 < ((rd_L3 x5_5 x10_4).length : Int) := oD
                  obtain ⟨ad230, e230, hx230_0⟩ := Kd.at_bool (by repeat (first | (with_reducible exact HR229_0.out) | (with_reducible refine Kd.C_alloc ?_ _) | (with_reducible refine Kd.C_drewN ?_ _) | (with_reducible refine Kd.C_drew ?_) | exact HR229_0.out)) x11_5 p230 q230
                  (try rw [← Nbq39.out] at hx230_0)
                  (try rw [← Nbq47.out] at hx230_0)
                  cases e230
                  replace p230 := eq_true p230
                  replace q230 := eq_true q230
                  have p234 : 0 ≤ (x10_4 : Int) := oD
                  have q234 : x10_4 < (x5_5.length : Int) := oD
                  obtain ⟨ad234, A234_0, c234_0, e234, hx234_0, hl234_0, hi234_0⟩ := at_L3 (Kd.S_reads' HO_5.out).2.2 x10_4 p234 q234
                  obtain rfl : ad228 = ad234 := (by injection e234)
                  obtain ⟨ce234, hce234, hMe234, hcc234⟩ := Kd.S_get HO_5.out [] x10_4 p234 (by first | exact q234 | exact oD | (have e_ := (Kd.S_reads' HO_5.out).1; omega))
                  obtain ⟨ve234_0, rfl, ge234_0⟩ := hMe234
                  have hv234_0 := hcc234 0 _ rfl
                  rw [Nat.add_zero, show ((Kd.slice 4 Kd.bool)).sz = 1 from rfl, Nat.mul_one] at hv234_0
                  replace hv234_0 := Option.some.inj (hv234_0.symm.trans hx234_0)
                  rw [hv234_0] at ge234_0
                  have HL234_0 := Aside0.mk (show Kd.R Kd.bool 4 _ _ _ _ (rd_L3 x5_5 x10_4) from ge234_0)
                  clear hv234_0 ge234_0
                  have HX234_0 := Aside0.mk hx234_0
                  clear hcc234 hce234
                  have HR234_0 := Aside0.mk hi234_0
                  have HC234_0 := Aside0.mk hl234_0
                  clear hi234_0 hl234_0
                  replace p234 := eq_true p234
                  replace q234 := eq_true q234
                  have ea_ := Option.some.inj (hx228_0.symm.trans hx234_0)
                  injection ea_ with ea_ en_ ec_
                  subst ea_
                  subst ec_
                  clear en_
                  have p235 : 0 ≤ (x9_3 : Int) := oD
                  have q235 : x9_3 < ((rd_L3 x5_5 x10_4).length : Int) := oD
                  obtain ⟨ad235, e235, hx235_0⟩ := Kd.at_bool (by repeat (first | (with_reducible exact HR234_0.out) | (with_reducible refine Kd.C_alloc ?_ _) | (with_reducible refine Kd.C_drewN ?_ _) | (with_reducible refine Kd.C_drew ?_) | exact HR234_0.out)) x9_3 p235 q235
                  (try rw [← Nbq39.out] at hx235_0)
                  (try rw [← Nbq47.out] at hx235_0)
                  cases e235
                  replace p235 := eq_true p235
                  replace q235 := eq_true q235
                  have p55 : 0 ≤ (x11_5 : Int) := oD
                  have q55 : (x11_5 : Int) < (((rd_L3 x5_5 x10_4).length : Int) : Int) := oD
                  obtain ⟨go55, co55, eo55, gb55, gl55, cl55, HG55⟩ := Kd.R_form HL228_0.out (by omega)
                  (first | cases eo55 | (injection eo55 with ea_ en_ ec_; (first | subst ea_ | (injection ea_ with ea_; subst ea_)); subst ec_; clear en_))
                  have GB55 := Aside0.mk gb55
                  have GG55 := Aside0.mk HG55
                  clear gb55 gl55 HG55
                  (first | simp only [add_plain] at hx235_0 | skip)
                  (try simp only [add_plain] at hx230_0)
                  obtain ⟨hx55_0, hf55_0⟩ := Kd.R_celln false HL228_0.out (x11_5 : Int) p55 q55
                  replace p55 := eq_true p55
                  replace q55 := eq_true q55
                  have hq57 : (x10_4 : Int) < (x5_5.length : Int) := (by have h_ : (x10_4 : Int) < ((x5_5.length : Int) : Int) := oD; first | exact h_ | (have e_ := (Kd.S_reads' HO_5.out).1; omega) | simpa only [List.length_set, List.length_set] using h_)
                  obtain ⟨oki57, ce57, hcl57, hM57, hcc57, hok57, hbk57⟩ := Kd.S_borrow HO_5.out [] (x10_4 : Int) (oD) hq57
                  obtain ⟨ve57_0, rfl, ge57_0⟩ := hM57
                  have hv57 := hcc57 0 _ rfl
                  rw [Nat.add_zero, show ((Kd.slice 4 Kd.bool)).sz = 1 from rfl, Nat.mul_one] at hv57
                  replace hv57 := Option.some.inj (hv57.symm.trans HX228_0.out)
                  subst hv57
                  clear hcc57 hcl57
                  replace ge57_0 := (show Kd.R Kd.bool 4 _ _ _ _ (rd_L3 x5_5 x10_4) from ge57_0)
                  have HP57 := Kd.R_putg ge57_0 (x11_5 : Int) false
                  rw [← Ny241.out] at HP57
                  have HS57 := hbk57 HP57.2 (fun k_ e_ => by injection e_ with e_; subst e_; exact ge57_0.1 _ rfl) (x' := y241) (Kd.M_row HP57.1)
                  rw [← Ny243.out] at HS57
                  have HQ57 := Aside0.mk HS57
                  clear HP57 HS57 hbk57 hok57
                  refine start_ (n := 32) (S := fun w' => w'.cell? (ad228.add (x10_4).toNat) = some (.slice (some ⟨go55, 0, none⟩) (rd_L3 x5_5 x10_4).length c228_0) ∧ w'.cell? (ad228.add (x10_4).toNat) = some (.slice (some ⟨go55, 0, none⟩) (rd_L3 x5_5 x10_4).length c228_0) ∧ w'.cell? ⟨go55, (x11_5).toNat, none⟩ = some (.bool false) ∧ w'.cell? (ad228.add (x10_4).toNat) = some (.slice (some ⟨go55, 0, none⟩) (rd_L3 x5_5 x10_4).length c228_0) ∧ w'.cell? ⟨go55, (x9_3).toNat, none⟩ = some (.bool false)) (ds := [31]) (bA 32 0) (by kernel_rfl) rfl rfl ⟨hx228_0, hx229_0, hx230_0, hx234_0, hx235_0⟩ (fun hHeld => ?_); refine with_tabW impl_closure.tab21 impl_closure.bits21 (fun HT_ HW_ => ?_)
                  generalize wr.drew = w56 at HO_5 HB GG55 HL228_0 HL229_0 HL234_0 HQ57 HR228_0 HR229_0 HR234_0 HX228_0 HX229_0 HX234_0 hf55_0 hx228_0 hx229_0 hx230_0 hx234_0 hx235_0 hx55_0 hHeld ⊢
                  refine pU 0 55 (bA 32 1) ?_
                  refine pU 1 56 (bA 32 3) ?_
                  refine pU 2 57 (bA 32 7) ?_
                  refine pU 4 59 (bA 32 23) ?_
                  refine pU 5 60 (bA 32 55) ?_
                  refine pU 6 61 (bA 32 119) ?_
                  refine pU 7 62 (bA 32 247) ?_
                  refine pU 9 64 (bA 32 759) ?_
                  refine tU 3 58 (bA 32 767) ?_
                  refine tU 8 63 (bA 32 1023) ?_
                  refine pU 10 65 (bA 32 2047) ?_
                  refine tU 11 66 (bA 32 4095) ?_
                  refine pU 12 67 (bA 32 8191) ?_
                  refine pU 13 68 (bA 32 16383) ?_
                  refine pU 14 69 (bA 32 32767) ?_
                  refine pU 15 70 (bA 32 65535) ?_
                  refine pU 17 72 (bA 32 196607) ?_
                  refine tU 16 71 (bA 32 262143) ?_
                  refine pU 18 73 (bA 32 524287) ?_
                  refine tU 19 74 (bA 32 1048575) ?_
                  refine pU 20 75 (bA 32 2097151) ?_
                  refine nU 21 76 (bA 32 4194303) ?_
                  refine nU 22 77 (bA 32 8388607) ?_
                  refine nU 23 78 (bA 32 16777215) ?_
                  refine nU 24 79 (bA 32 33554431) ?_
                  refine nU 25 80 (bA 32 67108863) ?_
                  refine nU 26 81 (bA 32 134217727) ?_
                  refine nU 27 82 (bA 32 268435455) ?_
                  refine pU 28 83 (bA 32 536870911) ?_
                  refine pU 29 84 (bA 32 1073741823) ?_
                  refine pU 30 85 (bA 32 2147483647) ?_
                  refine last_ (i := 31) (N := none) (bA 32 4294967295) rfl rfl (one_of HT_.out (by kernel_rfl)) (by decide) (fun K hK => ?_)
                  refine skip_ (w1 := ?_) (by rfl) rfl ?_ ?_
                  rotate_left
                  ·go_simp
                   rfl
                  refine hK.out _ _ ?_
                  clear hK K
                  refine done_ (done_of HT_.out (by kernel_rfl)) ?_
                  try go_wp2
                  (try simp only [← hl5_5])
                  go_roundg k5
                  case measure => have := HK1.out; have := HK2.out; have := HK3.out; have := HK4.out; have := HK5.out; omega
                  case rel => exact ⟨(y243), (wrap64 (x11_5 + 1)), sD, H', ⟨by have := HK1.out; have := HK2.out; have := HK3.out; have := HK4.out; have := HK5.out; omega⟩, ⟨by (try simp only [hl5_1]); (try simp only [hl5_2]); (try simp only [hl5_3]); (try simp only [hl5_4]); (try simp only [hl5_5]); (with_reducible repeat (first | apply Kd.S_alloc | apply Kd.S_drewN | apply Kd.S_drew)); exact HQ57.out⟩, ⟨by repeat (first | (with_reducible first | exact HB.out | apply below_alloc | apply pw_below_drewN | apply below_drew1 | refine below_set ?_ GB55.out) | exact HB.out)⟩⟩
               ·rw [if_neg c34] at H
                have c34b0 : decide (x11_5 < a0) = false := decide_eq_false c34
                clear c34
                have H' := Aside0.mk H
                clear H
                go_wp2
                (try simp only [← hl5_4, ← hl5_5])
                go_roundg k5
                case measure => have := HK1.out; have := HK2.out; have := HK3.out; have := HK4.out; have := HK5.out; omega
                case rel => exact ⟨(x5_5), (wrap64 (x10_4 + 1)), sD, H', ⟨by have := HK1.out; have := HK2.out; have := HK3.out; have := HK4.out; have := HK5.out; omega⟩, ⟨by (try simp only [hl5_1]); (try simp only [hl5_2]); (try simp only [hl5_3]); (try simp only [hl5_4]); (try simp only [hl5_5]); (with_reducible repeat (first | apply Kd.S_alloc | apply Kd.S_drewN | apply Kd.S_drew)); exact HO_5.out⟩, ⟨by repeat (first | (with_reducible first | exact HB.out | apply below_alloc | apply pw_below_drewN | apply below_drew1) | exact HB.out)⟩⟩
            ·rw [if_neg c33] at H
             have c33b0 : decide (x10_4 < a0) = false := decide_eq_false c33
             clear c33
             have H' := Aside0.mk H
             clear H
             go_wp2
             (try simp only [← hl5_3, ← hl5_4])
             go_roundg k4
             case measure => have := HK1.out; have := HK2.out; have := HK3.out; have := HK4.out; omega
             case rel => exact ⟨(x5_4), (wrap64 (x9_3 + 1)), sD, H', ⟨by have := HK1.out; have := HK2.out; have := HK3.out; have := HK4.out; omega⟩, ⟨by (try simp only [hl5_1]); (try simp only [hl5_2]); (try simp only [hl5_3]); (try simp only [hl5_4]); (with_reducible repeat (first | apply Kd.S_alloc | apply Kd.S_drewN | apply Kd.S_drew)); exact HO_5.out⟩, ⟨by repeat (first | (with_reducible first | exact HB.out | apply below_alloc | apply pw_below_drewN | apply below_drew1) | exact HB.out)⟩⟩
         ·rw [if_neg c32] at H
          have c32b0 : decide (x9_3 < a0) = false := decide_eq_false c32
          clear c32
          obtain rfl := Option.some.inj H
          go_wp2
          go_ret
          exact ⟨_, by first | rfl | (simp [errW_none, errW_some] <;> rfl) | (simp [*, errW_none, errW_some] <;> rfl), by (with_reducible repeat (first | apply Kd.S_alloc | apply Kd.S_drewN | apply Kd.S_drew)); exact HO_5.out, bB⟩

end Go.Proofs.Ytecdigebnhlfhaa.OFnExactLabelsOf
