/- Functions of the program as plain Lean functions, with their contracts: written by this session's program ownprint.py. Conditions: none. -/
import Derived.Test.YtlhppclbokkfmaaOFnExactSidneyBlocksx0
namespace Go.Proofs.Ytlhppclbokkfmaa.OFnExactSidneyBlocks
open Go.RowKit Go.Proofs.YtlhppclbokkfmaaW.PrintWords Go.Proofs.YtlhppclbokkfmaaW.PrintLast Go.Proofs.YtlhppclbokkfmaaW.PrintMore
attribute [local go_sem] max2_int min2_int max_two min_two max_three min_three max_four min_four   -- for this text's walks alone
set_option linter.unusedVariables false
set_option linter.unusedSimpArgs false

/-! ### spec_l4Table: function 60 -/
mutual
def spec_l4Table.l0 : Nat → Int → List (S53) → List (List Bool) → Int → Option ((List (List Bool)))
 | 0, _, _, _, _ => none
 | k + 1, x0, x1, x5, x6 => if x6 < x0 then (if 0 ≤ x0 then (if (x0 : Int).toNat ≤ 281474976710656 then (if x5.length < 5864062014805 then (spec_l4Table.l0 k x0 x1 (x5 ++ [(List.replicate (x0 : Int).toNat false)]) (wrap64 (x6 + 1))) else (none)) else (none)) else (none)) else (spec_l4Table.l1 k x0 x1 x5 0)
def spec_l4Table.l1 : Nat → Int → List (S53) → List (List Bool) → Int → Option ((List (List Bool)))
 | 0, _, _, _, _ => none
 | k + 1, x0, x1, x5, x7 => if x7 < (x1.length : Int) then (if 0 ≤ x7 then (if 0 ≤ ((rd_T53 x1 x7).f0) then (if ((rd_T53 x1 x7).f0) < (x5.length : Int) then (if 0 ≤ ((rd_T53 x1 x7).f1) then (if ((rd_T53 x1 x7).f1) < ((rd_L5 x5 ((rd_T53 x1 x7).f0)).length : Int) then (spec_l4Table.l1 k x0 x1 (x5.set (((rd_T53 x1 x7).f0) : Int).toNat ((rd_L5 x5 ((rd_T53 x1 x7).f0)).set (((rd_T53 x1 x7).f1) : Int).toNat true)) (wrap64 (x7 + 1))) else (none)) else (none)) else (none)) else (none)) else (none)) else (spec_l4Table.l2 k x0 x5 0)
def spec_l4Table.l2 : Nat → Int → List (List Bool) → Int → Option ((List (List Bool)))
 | 0, _, _, _ => none
 | k + 1, x0, x5, x8 => if x8 < x0 then (spec_l4Table.l3 k x0 x5 x8 0) else (some x5)
def spec_l4Table.l3 : Nat → Int → List (List Bool) → Int → Int → Option ((List (List Bool)))
 | 0, _, _, _, _ => none
 | k + 1, x0, x5, x8, x9 => if x9 < x0 then (spec_l4Table.l4 k x0 x5 x8 x9 0) else (spec_l4Table.l2 k x0 x5 (wrap64 (x8 + 1)))
def spec_l4Table.l4 : Nat → Int → List (List Bool) → Int → Int → Int → Option ((List (List Bool)))
 | 0, _, _, _, _, _ => none
 | k + 1, x0, x5, x8, x9, x10 => if x10 < x0 then (if 0 ≤ x9 then (if x9 < (x5.length : Int) then (if 0 ≤ x8 then (if x8 < ((rd_L5 x5 x9).length : Int) then (if rdOf false (rd_L5 x5 x9) x8 = true then (if x8 < (x5.length : Int) then (if 0 ≤ x10 then (if x10 < ((rd_L5 x5 x8).length : Int) then (if rdOf false (rd_L5 x5 x8) x10 = true then (if x10 < ((rd_L5 x5 x9).length : Int) then (spec_l4Table.l4 k x0 (x5.set (x9 : Int).toNat ((rd_L5 x5 x9).set (x10 : Int).toNat true)) x8 x9 (wrap64 (x10 + 1))) else (none)) else (spec_l4Table.l4 k x0 x5 x8 x9 (wrap64 (x10 + 1)))) else (none)) else (none)) else (none)) else (spec_l4Table.l4 k x0 x5 x8 x9 (wrap64 (x10 + 1)))) else (none)) else (none)) else (none)) else (none)) else (spec_l4Table.l3 k x0 x5 x8 (wrap64 (x9 + 1)))
end
def spec_l4Table.f (k : Nat) (a0 : Int) (l1 : List (S53)) : Option ((List (List Bool))) := spec_l4Table.l0 k a0 l1 (([] : List (List Bool))) 0
theorem spec_l4Table.mono_l : ∀ k, (∀ y0 y1 y2 y3, LeO (spec_l4Table.l0 k y0 y1 y2 y3) (spec_l4Table.l0 (k + 1) y0 y1 y2 y3)) ∧ (∀ y0 y1 y2 y3, LeO (spec_l4Table.l1 k y0 y1 y2 y3) (spec_l4Table.l1 (k + 1) y0 y1 y2 y3)) ∧ (∀ y0 y1 y2, LeO (spec_l4Table.l2 k y0 y1 y2) (spec_l4Table.l2 (k + 1) y0 y1 y2)) ∧ (∀ y0 y1 y2 y3, LeO (spec_l4Table.l3 k y0 y1 y2 y3) (spec_l4Table.l3 (k + 1) y0 y1 y2 y3)) ∧ (∀ y0 y1 y2 y3 y4, LeO (spec_l4Table.l4 k y0 y1 y2 y3 y4) (spec_l4Table.l4 (k + 1) y0 y1 y2 y3 y4))
 | 0 => ⟨fun _ _ _ _ r h => by simp [spec_l4Table.l0] at h, fun _ _ _ _ r h => by simp [spec_l4Table.l1] at h, fun _ _ _ r h => by simp [spec_l4Table.l2] at h, fun _ _ _ _ r h => by simp [spec_l4Table.l3] at h, fun _ _ _ _ _ r h => by simp [spec_l4Table.l4] at h⟩
 | k + 1 => by
  obtain ⟨ih0, ih1, ih2, ih3, ih4⟩ := spec_l4Table.mono_l k
  refine ⟨?_, ?_, ?_, ?_, ?_⟩
  ·intro y0 y1 y2 y3
   unfold spec_l4Table.l0
   repeat' first
   | (with_reducible exact ih0 _ _ _ _)
   | (with_reducible exact ih1 _ _ _ _)
   | (with_reducible exact ih2 _ _ _)
   | (with_reducible exact ih3 _ _ _ _)
   | (with_reducible exact ih4 _ _ _ _ _)
   | (with_reducible exact LeO.refl _)
   | (with_reducible exact LeO.none _)
   | (with_reducible refine LeO.ite ?_ ?_)
   | (with_reducible refine LeO.bind ?_ (fun _ => ?_))
   | exact ih0 _ _ _ _
   | exact ih1 _ _ _ _
   | exact ih2 _ _ _
   | exact ih3 _ _ _ _
   | exact ih4 _ _ _ _ _
   | exact LeO.none _
   | refine LeO.ite ?_ ?_
   | refine LeO.bind ?_ (fun _ => ?_)
  ·intro y0 y1 y2 y3
   unfold spec_l4Table.l1
   repeat' first
   | (with_reducible exact ih0 _ _ _ _)
   | (with_reducible exact ih1 _ _ _ _)
   | (with_reducible exact ih2 _ _ _)
   | (with_reducible exact ih3 _ _ _ _)
   | (with_reducible exact ih4 _ _ _ _ _)
   | (with_reducible exact LeO.refl _)
   | (with_reducible exact LeO.none _)
   | (with_reducible refine LeO.ite ?_ ?_)
   | (with_reducible refine LeO.bind ?_ (fun _ => ?_))
   | exact ih0 _ _ _ _
   | exact ih1 _ _ _ _
   | exact ih2 _ _ _
   | exact ih3 _ _ _ _
   | exact ih4 _ _ _ _ _
   | exact LeO.none _
   | refine LeO.ite ?_ ?_
   | refine LeO.bind ?_ (fun _ => ?_)
  ·intro y0 y1 y2
   unfold spec_l4Table.l2
   repeat' first
   | (with_reducible exact ih0 _ _ _ _)
   | (with_reducible exact ih1 _ _ _ _)
   | (with_reducible exact ih2 _ _ _)
   | (with_reducible exact ih3 _ _ _ _)
   | (with_reducible exact ih4 _ _ _ _ _)
   | (with_reducible exact LeO.refl _)
   | (with_reducible exact LeO.none _)
   | (with_reducible refine LeO.ite ?_ ?_)
   | (with_reducible refine LeO.bind ?_ (fun _ => ?_))
   | exact ih0 _ _ _ _
   | exact ih1 _ _ _ _
   | exact ih2 _ _ _
   | exact ih3 _ _ _ _
   | exact ih4 _ _ _ _ _
   | exact LeO.none _
   | refine LeO.ite ?_ ?_
   | refine LeO.bind ?_ (fun _ => ?_)
  ·intro y0 y1 y2 y3
   unfold spec_l4Table.l3
   repeat' first
   | (with_reducible exact ih0 _ _ _ _)
   | (with_reducible exact ih1 _ _ _ _)
   | (with_reducible exact ih2 _ _ _)
   | (with_reducible exact ih3 _ _ _ _)
   | (with_reducible exact ih4 _ _ _ _ _)
   | (with_reducible exact LeO.refl _)
   | (with_reducible exact LeO.none _)
   | (with_reducible refine LeO.ite ?_ ?_)
   | (with_reducible refine LeO.bind ?_ (fun _ => ?_))
   | exact ih0 _ _ _ _
   | exact ih1 _ _ _ _
   | exact ih2 _ _ _
   | exact ih3 _ _ _ _
   | exact ih4 _ _ _ _ _
   | exact LeO.none _
   | refine LeO.ite ?_ ?_
   | refine LeO.bind ?_ (fun _ => ?_)
  ·intro y0 y1 y2 y3 y4
   unfold spec_l4Table.l4
   repeat' first
   | (with_reducible exact ih0 _ _ _ _)
   | (with_reducible exact ih1 _ _ _ _)
   | (with_reducible exact ih2 _ _ _)
   | (with_reducible exact ih3 _ _ _ _)
   | (with_reducible exact ih4 _ _ _ _ _)
   | (with_reducible exact LeO.refl _)
   | (with_reducible exact LeO.none _)
   | (with_reducible refine LeO.ite ?_ ?_)
   | (with_reducible refine LeO.bind ?_ (fun _ => ?_))
   | exact ih0 _ _ _ _
   | exact ih1 _ _ _ _
   | exact ih2 _ _ _
   | exact ih3 _ _ _ _
   | exact ih4 _ _ _ _ _
   | exact LeO.none _
   | refine LeO.ite ?_ ?_
   | refine LeO.bind ?_ (fun _ => ?_)
theorem spec_l4Table.mono : ∀ a0 a1 k, LeO (spec_l4Table.f k a0 a1) (spec_l4Table.f (k + 1) a0 a1) := by
 intro a0 a1 k
 obtain ⟨ih0, ih1, ih2, ih3, ih4⟩ := spec_l4Table.mono_l k
 unfold spec_l4Table.f
 repeat' first
   | (with_reducible exact ih0 _ _ _ _)
   | (with_reducible exact ih1 _ _ _ _)
   | (with_reducible exact ih2 _ _ _)
   | (with_reducible exact ih3 _ _ _ _)
   | (with_reducible exact ih4 _ _ _ _ _)
   | (with_reducible exact LeO.refl _)
   | (with_reducible exact LeO.none _)
   | (with_reducible refine LeO.ite ?_ ?_)
   | (with_reducible refine LeO.bind ?_ (fun _ => ?_))
   | exact ih0 _ _ _ _
   | exact ih1 _ _ _ _
   | exact ih2 _ _ _
   | exact ih3 _ _ _ _
   | exact ih4 _ _ _ _ _
   | exact LeO.none _
   | refine LeO.ite ?_ ?_
   | refine LeO.bind ?_ (fun _ => ?_)
def spec_l4Table.T9 : Bool × List (List Nat × List Nat) := (true, [([], []), ([], []), ([], []), ([1, 2], [1, 2]), ([3], [3]), ([4], [4]), ([0, 5], [0, 5]), ([6], [6]), ([], []), ([], []), ([8, 9], [8, 9]), ([10], [10]), ([11], [11]), ([7, 12, 0, 1, 2, 3, 4, 5, 6, 7, 8, 9, 10, 11, 12], [7, 12]), ([13, 0, 1, 2, 3, 4, 5, 6, 7, 8, 9, 10, 11, 12], [13])])
def spec_l4Table.B9 : List Nat := [0, 0, 0, 6, 14, 30, 63, 127, 0, 0, 768, 1792, 3840, 8191, 16383]
theorem spec_l4Table.tab9 : rtab .any (opsOf Try.f60 9) = spec_l4Table.T9 := by kernel_rfl
theorem spec_l4Table.bits9 : waitsOk spec_l4Table.T9.2 spec_l4Table.B9 = true := by kernel_rfl
set_option maxHeartbeats 8000000 in
set_option maxRecDepth 100000 in
theorem spec_l4Table.calls (k : Nat) (a0 : Int) (A1 : Option Addr) (c1 : Nat) (l1 : List (S53)) (r : List (List Bool)) (w : World) (hr1 : Kd.C k53 w A1 l1.length l1) (hc1 : l1.length ≤ c1) (h : spec_l4Table.f k a0 l1 = some r) :
  Calls Try.prog 60 #[.int .i64 a0, .slice A1 l1.length c1] w fun e w' => ∃ v0_ : Value, e = .returned (v0_) ∧ Kd.S (Kd.slice 4 Kd.bool) 94 w' w.heap.size (fun _ => True) v0_ r ∧ Below w.heap.size w w' := by
 have hu53 := Try.underlying53
 have HR1 := Aside0.mk hr1
 have HC1 := Aside0.mk hc1
 clear hr1 hc1
 have HB := Aside0.mk (Below.refl w.heap.size w)
 have H : (spec_l4Table.l0 k a0 l1 (([] : List (List Bool))) 0) = some r := h
 clear h
 obtain ⟨y108, hy108⟩ : ∃ y_ : List (List Bool), y_ = (([] : List (List Bool))) := ⟨_, rfl⟩
 replace H : (spec_l4Table.l0 k a0 l1 y108 0) = some r := by first | (rw [hy108]; with_reducible exact H) | (have H2_ := (Option.bind_some _ _).symm.trans H; rw [hy108]; with_reducible exact H2_) | (have H2_ := (Option.bind_some _ _).symm.trans H; with_reducible exact H2_) | with_reducible exact H | (rw [hy108]; exact H) | exact H
 have Ny108 := Aside0.mk hy108
 clear hy108
 have H' := Aside0.mk H
 clear H
 go_enter Try.func60, Try.ntmps60
 go_wp2_with (first | ((with_reducible refine gate_dst (N := 11) rfl ?_); refine Kd.S_lit (Kd.slice 4 Kd.bool) _ 94 ?hg (N := 11) ?hd (xs := ([] : List (List Bool))) (inner := []) (ok := fun _ => True) (okp := fun _ => True) ?hr ?hp (fun _ hk => hk) trivial (Below.refl _ _) (Nat.le_refl _) (by simp) ?_; (case hd => rfl); (case hg => rfl); (case hr => first | (go_simp; done) | (go_simp; rfl)); (case hp => exact (Reps.none _ _)); intro v109 w3 ho4 hb hg_ hnew_; clear hg_ hnew_; (first | rw [← Ny108.out] at ho4 | (simp only [Int.reduceToNat] at ho4; rw [← Ny108.out] at ho4)); have n0_ := Aside0.mk (Kd.S_lower ho4 (below_size bB)); have n1_ := Aside0.mk (below_step bB hb); clear HB; have HO110 := n0_; have HB := n1_; clear n0_ n1_; clear hb ho4))
 go_loopg [5, 6] k (fun kq v5 v6 w' => ∃ (x5_1 : List (List Bool)) (x6_1 : Int), v6 = .int .i64 x6_1 ∧ Aside0 (spec_l4Table.l0 kq a0 l1 x5_1 x6_1 = some r) ∧ Aside0 (kq ≤ k) ∧ Aside0 (Kd.S (Kd.slice 4 Kd.bool) 94 w' w.heap.size (fun _ => True) v5 x5_1) ∧ Aside0 (Below w.heap.size w w'))
 case atStart => exact ⟨(y108), (0), sD, H', ⟨Nat.le_refl _⟩, ⟨kS⟩, ⟨by repeat (first | (with_reducible first | exact HB.out | apply below_alloc | apply pw_below_drewN | apply below_drew1) | exact HB.out)⟩⟩
 case round =>
  clear H'
  try clear c1
  try clear p2
  obtain ⟨x5_1, x6_1, rfl, HA, HK1, HO_5, HB⟩ := hrel
  cases gk with
  | zero => exact absurd HA.out (by simp [spec_l4Table.l0])
  | succ k1 =>
   have H := HA.out
   clear HA
   simp only [spec_l4Table.l0] at H
   by_cases c5 : x6_1 < a0
   ·rw [if_pos c5] at H
    have c5b0 : decide (x6_1 < a0) = true := decide_eq_true c5
    clear c5
    by_cases c6 : 0 ≤ a0; rotate_left
    ·rw [if_neg c6] at H; exact absurd H (by simp)
    rw [if_pos c6] at H
    have c6b0 := eq_true c6
    have c6b1 : decide (0 ≤ a0) = true := decide_eq_true c6
    clear c6
    by_cases c7 : (a0 : Int).toNat ≤ 281474976710656; rotate_left
    ·rw [if_neg c7] at H; exact absurd H (by simp)
    rw [if_pos c7] at H
    have c7b0 := eq_true c7
    have c7b1 : decide ((a0 : Int).toNat ≤ 281474976710656) = true := decide_eq_true c7
    clear c7
    obtain ⟨y111, hy111⟩ : ∃ y_ : List Bool, y_ = (List.replicate (a0 : Int).toNat false) := ⟨_, rfl⟩
    replace H : (if x5_1.length < 5864062014805 then (spec_l4Table.l0 k1 a0 l1 (x5_1 ++ [y111]) (wrap64 (x6_1 + 1))) else (none)) = some r := by first | (rw [hy111]; with_reducible exact H) | (have H2_ := (Option.bind_some _ _).symm.trans H; rw [hy111]; with_reducible exact H2_) | (have H2_ := (Option.bind_some _ _).symm.trans H; with_reducible exact H2_) | with_reducible exact H | (rw [hy111]; exact H) | exact H
    have Ny111 := Aside0.mk hy111
    clear hy111
    by_cases c8 : x5_1.length < 5864062014805; rotate_left
    ·rw [if_neg c8] at H; exact absurd H (by simp)
    rw [if_pos c8] at H
    have LMc8 := Aside0.mk c8
    clear c8
    obtain ⟨y114, hy114⟩ : ∃ y_ : List (List Bool), y_ = (x5_1 ++ [y111]) := ⟨_, rfl⟩
    replace H : (spec_l4Table.l0 k1 a0 l1 y114 (wrap64 (x6_1 + 1))) = some r := by first | (rw [hy114]; with_reducible exact H) | (have H2_ := (Option.bind_some _ _).symm.trans H; rw [hy114]; with_reducible exact H2_) | (have H2_ := (Option.bind_some _ _).symm.trans H; with_reducible exact H2_) | with_reducible exact H | (rw [hy114]; exact H) | exact H
    have Ny114 := Aside0.mk hy114
    clear hy114
    have H' := Aside0.mk H
    clear H
    go_wp2_with (first | ((with_reducible refine gate_dst (N := 19) rfl ?_); refine Kd.R_make Kd.bool _ 4 rfl (N := 19) rfl 94 _ _ rfl a0 rfl rfl Try.underlying94 (.bool false) 1 info4 rfl (by decide) (by omega) false (ok := fun _ => True) (okp := fun _ => True) rfl (fun _ hk => hk) trivial (oD) (Nat.le_trans (Nat.mul_le_mul_right _ (oD : a0.toNat ≤ 281474976710656)) (by omega)) (Below.refl _ _) (Nat.le_refl _) ?_; intro v112 w9 ho10 hb hg_ hnew_; clear hg_ hnew_; (first | rw [← Ny111.out] at ho10 | (simp only [Int.reduceToNat] at ho10; rw [← Ny111.out] at ho10)); have n0_ := Aside0.mk (Kd.S_elder' (by (with_reducible repeat (first | apply Kd.S_alloc | apply Kd.S_drewN | apply Kd.S_drew)); exact HO_5.out) (Kd.R_base ho10) hb); have n1_ := Aside0.mk (Kd.R_lower ho10 (below_size bB)); have n2_ := Aside0.mk (below_step bB hb); clear HO_5; clear HB; have HO_5 := n0_; have HO113 := n1_; have HB := n2_; clear n0_ n1_ n2_; clear hb ho10; obtain ⟨Ao12, co12, eo12⟩ := Kd.R_slice HO113.out; subst eo12) | ((with_reducible refine gate_builtin (b := .append) (xs := #[.tmp 17, .tmp 20]) rfl ?_); at_builtin; refine Kd.S_append (Kd.slice 4 Kd.bool) (w0 := w) w.heap.size rfl (.tmp 17) (.tmp 20) 71 94 (.slice none 0 0) 24 rfl Try.underlying71 info94 rfl (by decide) (by omega) u5 x5_1 y111 [.slice Ao12 y111.length co12] (fun _ => True) (fun k_ => some k_ = (.slice Ao12 y111.length co12 : Value).ownBlock) rfl rfl ?aP (fun k_ hk_ => ((Kd.R_mono (ok' := fun k_ => ((fun _ => True)) k_ ∧ some k_ ≠ (u5 : Value).ownBlock) (Kd.R_apart' (HO113.out) (Kd.S_typed HO_5.out) (by decide)) (fun k_ hk => ⟨trivial, hk.2⟩))).1 k_ hk_.symm) ?aF ?aO ?aB ?aS ?aL ?_; (case aP => exact Kd.M_row (Kd.R_mono (Kd.R_tight rfl (Kd.R_mono (ok' := fun k_ => ((fun _ => True)) k_ ∧ some k_ ≠ (u5 : Value).ownBlock) (Kd.R_apart' (HO113.out) (Kd.S_typed HO_5.out) (by decide)) (fun k_ hk => ⟨trivial, hk.2⟩))) (fun _ h_ => h_))); (case aB => exact bB); (case aF => exact (fun _ _ => trivial)); (case aO => exact (by (with_reducible repeat (first | apply Kd.S_alloc | apply Kd.S_drewN | apply Kd.S_drew)); exact Kd.S_mono HO_5.out (fun k_ hk => ⟨trivial, fun e_ => hk.2 e_⟩))); (case aS => exact (below_size bB)); (case aL => have := LMc8.out; omega); intro v115 w11 ho hb hg hat; rw [← Ny114.out] at ho; have n0_ := Aside0.mk (hb); have n1_ := Aside0.mk (ho); clear HB; clear HO_5; clear HO113; have HB := n0_; have HO116 := n1_; clear n0_ n1_; clear ho hb hg hat))
    go_roundg k1
    case measure => have := HK1.out; omega
    case rel => exact ⟨(y114), (wrap64 (x6_1 + 1)), sD, H', ⟨by have := HK1.out; omega⟩, ⟨kS⟩, ⟨by repeat (first | (with_reducible first | exact HB.out | apply below_alloc | apply pw_below_drewN | apply below_drew1) | exact HB.out)⟩⟩
   ·rw [if_neg c5] at H
    have c5b0 : decide (x6_1 < a0) = false := decide_eq_false c5
    clear c5
    have H' := Aside0.mk H
    clear H
    go_wp2
    go_loopg [7] k1 (fun kq v7 w' => ∃ (x5_2 : List (List Bool)) (x7_2 : Int), v7 = .int .i64 x7_2 ∧ Aside0 (spec_l4Table.l1 kq a0 l1 x5_2 x7_2 = some r) ∧ Aside0 (kq ≤ k1) ∧ Aside0 (Kd.S (Kd.slice 4 Kd.bool) 94 w' w.heap.size (fun _ => True) u5 x5_2) ∧ Aside0 (Below w.heap.size w w'))
    case atStart => exact ⟨(x5_1), (0), sD, H', ⟨Nat.le_refl _⟩, ⟨kS⟩, ⟨by repeat (first | (with_reducible first | exact HB.out | apply below_alloc | apply pw_below_drewN | apply below_drew1) | exact HB.out)⟩⟩
    case round =>
     clear H'
     try clear c1
     try clear p2
     try clear c5
     try clear c5b0
     try clear c6
     try clear c6b0
     try clear c6b1
     try clear p6
     try clear c7
     try clear c7b0
     try clear c7b1
     try clear c8
     try clear p2
     obtain ⟨x5_2, x7_2, rfl, HA, HK2, HO_5, HB⟩ := hrel
     cases gk with
     | zero => exact absurd HA.out (by simp [spec_l4Table.l1])
     | succ k2 =>
      have H := HA.out
      clear HA
      simp only [spec_l4Table.l1] at H
      by_cases c13 : x7_2 < (l1.length : Int)
      ·rw [if_pos c13] at H
       have c13b0 : decide (x7_2 < (l1.length : Int)) = true := decide_eq_true c13
       clear c13
       by_cases c14 : 0 ≤ x7_2; rotate_left
       ·rw [if_neg c14] at H; exact absurd H (by simp)
       rw [if_pos c14] at H
       have c14b0 : decide (0 ≤ x7_2) = true := decide_eq_true c14
       clear c14
       by_cases c15 : 0 ≤ ((rd_T53 l1 x7_2).f0); rotate_left
       ·rw [if_neg c15] at H; exact absurd H (by simp)
       rw [if_pos c15] at H
       have c15b0 : decide (0 ≤ ((rd_T53 l1 x7_2).f0)) = true := decide_eq_true c15
       clear c15
       by_cases c16 : ((rd_T53 l1 x7_2).f0) < (x5_2.length : Int); rotate_left
       ·rw [if_neg c16] at H; exact absurd H (by simp)
       rw [if_pos c16] at H
       have c16b0 : decide (((rd_T53 l1 x7_2).f0) < (x5_2.length : Int)) = true := decide_eq_true c16
       clear c16
       by_cases c17 : 0 ≤ ((rd_T53 l1 x7_2).f1); rotate_left
       ·rw [if_neg c17] at H; exact absurd H (by simp)
       rw [if_pos c17] at H
       have c17b0 : decide (0 ≤ ((rd_T53 l1 x7_2).f1)) = true := decide_eq_true c17
       clear c17
       by_cases c18 : ((rd_T53 l1 x7_2).f1) < ((rd_L5 x5_2 ((rd_T53 l1 x7_2).f0)).length : Int); rotate_left
       ·rw [if_neg c18] at H; exact absurd H (by simp)
       rw [if_pos c18] at H
       have c18b0 : decide (((rd_T53 l1 x7_2).f1) < ((rd_L5 x5_2 ((rd_T53 l1 x7_2).f0)).length : Int)) = true := decide_eq_true c18
       clear c18
       obtain ⟨y120, hy120⟩ : ∃ y_ : List Bool, y_ = ((rd_L5 x5_2 ((rd_T53 l1 x7_2).f0)).set (((rd_T53 l1 x7_2).f1) : Int).toNat true) := ⟨_, rfl⟩
       replace H : (spec_l4Table.l1 k2 a0 l1 (x5_2.set (((rd_T53 l1 x7_2).f0) : Int).toNat y120) (wrap64 (x7_2 + 1))) = some r := by first | (rw [hy120]; with_reducible exact H) | (have H2_ := (Option.bind_some _ _).symm.trans H; rw [hy120]; with_reducible exact H2_) | (have H2_ := (Option.bind_some _ _).symm.trans H; with_reducible exact H2_) | with_reducible exact H | (rw [hy120]; exact H) | exact H
       have Ny120 := Aside0.mk hy120
       clear hy120
       obtain ⟨y122, hy122⟩ : ∃ y_ : List (List Bool), y_ = (x5_2.set (((rd_T53 l1 x7_2).f0) : Int).toNat y120) := ⟨_, rfl⟩
       replace H : (spec_l4Table.l1 k2 a0 l1 y122 (wrap64 (x7_2 + 1))) = some r := by first | (rw [hy122]; with_reducible exact H) | (have H2_ := (Option.bind_some _ _).symm.trans H; rw [hy122]; with_reducible exact H2_) | (have H2_ := (Option.bind_some _ _).symm.trans H; with_reducible exact H2_) | with_reducible exact H | (rw [hy122]; exact H) | exact H
       have Ny122 := Aside0.mk hy122
       clear hy122
       have H' := Aside0.mk H
       clear H
       try go_wp2
       have n0_ := Aside0.mk (Kd.S_drew HO_5.out)
       have n1_ := Aside0.mk (below_drew1 HB.out)
       clear HO_5
       clear HB
       have HO_5 := n0_
       have HB := n1_
       clear n0_ n1_
       have p117 : 0 ≤ (x7_2 : Int) := oD
       have q117 : x7_2 < (l1.length : Int) := oD
       obtain ⟨ad117, e117, hx117_0, hx117_1⟩ := at_T53 HR1.out x7_2 p117 q117
       have hw117_1 := hx117_1
       have hw117_0 := hx117_0
       cases e117
       replace hx117_0 := (cB HB.out hx117_0 :)
       replace hx117_1 := (cB HB.out hx117_1 :)
       replace p117 := eq_true p117
       replace q117 := eq_true q117
       obtain ⟨Ao21, co21, eo21⟩ := Kd.S_slice HO_5.out
       (first | subst eo21 | (injection eo21 with f1_ f2_ f3_; have f4_ := f1_.symm; have f5_ := f3_.symm; clear f1_ f2_ f3_; subst f4_; subst f5_))
       have p118 : 0 ≤ (((rd_T53 l1 x7_2).f0) : Int) := oD
       have q118 : ((rd_T53 l1 x7_2).f0) < (x5_2.length : Int) := oD
       obtain ⟨ad118, A118_0, c118_0, e118, hx118_0, hl118_0, hi118_0⟩ := at_L5 (Kd.S_reads' HO_5.out).2.2 ((rd_T53 l1 x7_2).f0) p118 q118
       cases e118
       obtain ⟨ce118, hce118, hMe118, hcc118⟩ := Kd.S_get HO_5.out [] ((rd_T53 l1 x7_2).f0) p118 (by first | exact q118 | exact oD | (have e_ := (Kd.S_reads' HO_5.out).1; omega))
       obtain ⟨ve118_0, rfl, ge118_0⟩ := hMe118
       have hv118_0 := hcc118 0 _ rfl
       rw [Nat.add_zero, show ((Kd.slice 4 Kd.bool)).sz = 1 from rfl, Nat.mul_one] at hv118_0
       replace hv118_0 := Option.some.inj (hv118_0.symm.trans hx118_0)
       rw [hv118_0] at ge118_0
       have HL118_0 := Aside0.mk (show Kd.R Kd.bool 4 _ _ _ _ (rd_L5 x5_2 ((rd_T53 l1 x7_2).f0)) from ge118_0)
       clear hv118_0 ge118_0
       have HX118_0 := Aside0.mk hx118_0
       clear hcc118 hce118
       have HR118_0 := Aside0.mk hi118_0
       have HC118_0 := Aside0.mk hl118_0
       clear hi118_0 hl118_0
       replace p118 := eq_true p118
       replace q118 := eq_true q118
       have p119 : 0 ≤ (x7_2 : Int) := oD
       have q119 : x7_2 < (l1.length : Int) := oD
       obtain ⟨ad119, e119, hx119_0, hx119_1⟩ := at_T53 HR1.out x7_2 p119 q119
       have hw119_1 := hx119_1
       have hw119_0 := hx119_0
       obtain rfl : ad117 = ad119 := (by injection e119)
       replace hx119_0 := (cB HB.out hx119_0 :)
       replace hx119_1 := (cB HB.out hx119_1 :)
       replace p119 := eq_true p119
       replace q119 := eq_true q119
       have p19 : 0 ≤ (((rd_T53 l1 x7_2).f1) : Int) := oD
       have q19 : (((rd_T53 l1 x7_2).f1) : Int) < (((rd_L5 x5_2 ((rd_T53 l1 x7_2).f0)).length : Int) : Int) := oD
       obtain ⟨go19, co19, eo19, gb19, gl19, cl19, HG19⟩ := Kd.R_form HL118_0.out (by omega)
       (first | cases eo19 | (injection eo19 with ea_ en_ ec_; (first | subst ea_ | (injection ea_ with ea_; subst ea_)); subst ec_; clear en_))
       have GB19 := Aside0.mk gb19
       have GG19 := Aside0.mk HG19
       clear gb19 gl19 HG19
       obtain ⟨hx19_0, hf19_0⟩ := Kd.R_celln false HL118_0.out (((rd_T53 l1 x7_2).f1) : Int) p19 q19
       replace p19 := eq_true p19
       replace q19 := eq_true q19
       have hq22 : (((rd_T53 l1 x7_2).f0) : Int) < (x5_2.length : Int) := (by have h_ : (((rd_T53 l1 x7_2).f0) : Int) < ((x5_2.length : Int) : Int) := oD; first | exact h_ | (have e_ := (Kd.S_reads' HO_5.out).1; omega) | simpa only [List.length_set, List.length_set] using h_)
       obtain ⟨oki22, ce22, hcl22, hM22, hcc22, hok22, hbk22⟩ := Kd.S_borrow HO_5.out [] (((rd_T53 l1 x7_2).f0) : Int) (oD) hq22
       obtain ⟨ve22_0, rfl, ge22_0⟩ := hM22
       have hv22 := hcc22 0 _ rfl
       rw [Nat.add_zero, show ((Kd.slice 4 Kd.bool)).sz = 1 from rfl, Nat.mul_one] at hv22
       replace hv22 := Option.some.inj (hv22.symm.trans HX118_0.out)
       subst hv22
       clear hcc22 hcl22
       replace ge22_0 := (show Kd.R Kd.bool 4 _ _ _ _ (rd_L5 x5_2 ((rd_T53 l1 x7_2).f0)) from ge22_0)
       have HP22 := Kd.R_putg ge22_0 (((rd_T53 l1 x7_2).f1) : Int) true
       rw [← Ny120.out] at HP22
       have HS22 := hbk22 HP22.2 (fun k_ e_ => by injection e_ with e_; subst e_; exact ge22_0.1 _ rfl) (x' := y120) (Kd.M_row HP22.1)
       rw [← Ny122.out] at HS22
       have HQ22 := Aside0.mk HS22
       clear HP22 HS22 hbk22 hok22
       refine start_ (n := 15) (S := fun w' => w'.cell? (ad117.add ((x7_2).toNat * 2)) = some (.int .i64 ((rd_T53 l1 x7_2).f0)) ∧ w'.cell? ⟨(ad117.add ((x7_2).toNat * 2)).block, (ad117.add ((x7_2).toNat * 2)).off + 1, none⟩ = some (.int .i64 ((rd_T53 l1 x7_2).f1)) ∧ w'.cell? (ad118.add (((rd_T53 l1 x7_2).f0)).toNat) = some (.slice (some ⟨go19, 0, none⟩) (rd_L5 x5_2 ((rd_T53 l1 x7_2).f0)).length c118_0) ∧ w'.cell? (ad117.add ((x7_2).toNat * 2)) = some (.int .i64 ((rd_T53 l1 x7_2).f0)) ∧ w'.cell? ⟨(ad117.add ((x7_2).toNat * 2)).block, (ad117.add ((x7_2).toNat * 2)).off + 1, none⟩ = some (.int .i64 ((rd_T53 l1 x7_2).f1))) (ds := [14]) (bA 15 0) (by kernel_rfl) rfl rfl ⟨(cB HB.out hw117_0 :), (cB HB.out hw117_1 :), hx118_0, (cB HB.out hw119_0 :), (cB HB.out hw119_1 :)⟩ (fun hHeld => ?_); refine with_tabW spec_l4Table.tab9 spec_l4Table.bits9 (fun HT_ HW_ => ?_)
       generalize wr.drew = w20 at HO_5 HB GG19 HL118_0 HQ22 HR118_0 HX118_0 hf19_0 hx117_0 hx117_1 hx118_0 hx119_0 hx119_1 hx19_0 hHeld ⊢
       refine pU 0 28 (bA 15 1) ?_
       refine pU 1 29 (bA 15 3) ?_
       refine pU 2 30 (bA 15 7) ?_
       refine pU 3 31 (bA 15 15) ?_
       refine pU 4 32 (bA 15 31) ?_
       refine pU 8 36 (bA 15 287) ?_
       refine pU 9 37 (bA 15 799) ?_
       refine pU 10 38 (bA 15 1823) ?_
       refine pU 11 39 (bA 15 3871) ?_
       refine tU 5 33 (bA 15 3903) ?_
       refine pU 6 34 (bA 15 3967) ?_
       refine tU 7 35 (bA 15 4095) ?_
       refine tU 12 40 (bA 15 8191) ?_
       refine pU 13 41 (bA 15 16383) ?_
       refine last_ (i := 14) (N := none) (bA 15 32767) rfl rfl (one_of HT_.out (by kernel_rfl)) (by decide) (fun K hK => ?_)
       refine skip_ (w1 := ?_) (by rfl) rfl ?_ ?_
       rotate_left
       ·go_simp
        rfl
       refine hK.out _ _ ?_
       clear hK K
       refine done_ (done_of HT_.out (by kernel_rfl)) ?_
       try go_wp2
       go_roundg k2
       case measure => have := HK1.out; have := HK2.out; omega
       case rel => exact ⟨(y122), (wrap64 (x7_2 + 1)), sD, H', ⟨by have := HK1.out; have := HK2.out; omega⟩, ⟨by (with_reducible repeat (first | apply Kd.S_alloc | apply Kd.S_drewN | apply Kd.S_drew)); exact HQ22.out⟩, ⟨by repeat (first | (with_reducible first | exact HB.out | apply below_alloc | apply pw_below_drewN | apply below_drew1 | refine below_set ?_ GB19.out) | exact HB.out)⟩⟩
      ·rw [if_neg c13] at H
       have c13b0 : decide (x7_2 < (l1.length : Int)) = false := decide_eq_false c13
       clear c13
       have H' := Aside0.mk H
       clear H
       go_wp2
       go_loopg [8] k2 (fun kq v8 w' => ∃ (x5_3 : List (List Bool)) (x8_3 : Int), v8 = .int .i64 x8_3 ∧ Aside0 (spec_l4Table.l2 kq a0 x5_3 x8_3 = some r) ∧ Aside0 (kq ≤ k2) ∧ Aside0 (Kd.S (Kd.slice 4 Kd.bool) 94 w' w.heap.size (fun _ => True) u5 x5_3) ∧ Aside0 (Below w.heap.size w w'))
       case atStart => exact ⟨(x5_2), (0), sD, H', ⟨Nat.le_refl _⟩, ⟨kS⟩, ⟨by repeat (first | (with_reducible first | exact HB.out | apply below_alloc | apply pw_below_drewN | apply below_drew1) | exact HB.out)⟩⟩
       case round =>
        clear H'
        try clear c1
        try clear p1
        try clear q1
        try clear hx1
        try clear c2
        try clear p2
        try clear q2
        try clear c5
        try clear c5b0
        try clear c6
        try clear c6b0
        try clear c6b1
        try clear p6
        try clear c7
        try clear c7b0
        try clear c7b1
        try clear c8
        try clear c11
        try clear p11
        try clear q11
        try clear hx11
        try clear c13
        try clear c13b0
        try clear c14
        try clear c14b0
        try clear c15
        try clear c15b0
        try clear c16
        try clear c16b0
        try clear c17
        try clear c17b0
        try clear c18
        try clear c18b0
        try clear p19
        try clear q19
        try clear hx19
        try clear hf19
        try clear c22
        try clear q22
        try clear hx117_0
        try clear hx117_1
        try clear hx118_0
        try clear hx119_0
        try clear hx119_1
        try clear hx19_0
        try clear p117
        try clear p118
        try clear p119
        try clear p19
        try clear p2
        try clear p6
        try clear q117
        try clear q118
        try clear q119
        try clear q19
        obtain ⟨x5_3, x8_3, rfl, HA, HK3, HO_5, HB⟩ := hrel
        cases gk with
        | zero => exact absurd HA.out (by simp [spec_l4Table.l2])
        | succ k3 =>
         have H := HA.out
         clear HA
         simp only [spec_l4Table.l2] at H
         by_cases c24 : x8_3 < a0
         ·rw [if_pos c24] at H
          have c24b0 : decide (x8_3 < a0) = true := decide_eq_true c24
          clear c24
          have H' := Aside0.mk H
          clear H
          go_wp2
          go_loopg [9] k3 (fun kq v9 w' => ∃ (x5_4 : List (List Bool)) (x9_4 : Int), v9 = .int .i64 x9_4 ∧ Aside0 (spec_l4Table.l3 kq a0 x5_4 x8_3 x9_4 = some r) ∧ Aside0 (kq ≤ k3) ∧ Aside0 (Kd.S (Kd.slice 4 Kd.bool) 94 w' w.heap.size (fun _ => True) u5 x5_4) ∧ Aside0 (Below w.heap.size w w'))
          case atStart => exact ⟨(x5_3), (0), sD, H', ⟨Nat.le_refl _⟩, ⟨kS⟩, ⟨by repeat (first | (with_reducible first | exact HB.out | apply below_alloc | apply pw_below_drewN | apply below_drew1) | exact HB.out)⟩⟩
          case round =>
           clear H'
           try clear c1
           try clear p1
           try clear q1
           try clear hx1
           try clear c2
           try clear p2
           try clear q2
           try clear c5
           try clear c5b0
           try clear c6
           try clear c6b0
           try clear c6b1
           try clear p6
           try clear c7
           try clear c7b0
           try clear c7b1
           try clear c8
           try clear c11
           try clear p11
           try clear q11
           try clear hx11
           try clear c13
           try clear c13b0
           try clear c14
           try clear c14b0
           try clear c15
           try clear c15b0
           try clear c16
           try clear c16b0
           try clear c17
           try clear c17b0
           try clear c18
           try clear c18b0
           try clear p19
           try clear q19
           try clear hx19
           try clear hf19
           try clear c22
           try clear q22
           try clear c24
           try clear c24b0
           try clear hx117_0
           try clear hx117_1
           try clear hx118_0
           try clear hx119_0
           try clear hx119_1
           try clear hx19_0
           try clear p1
           try clear p11
           try clear p117
           try clear p118
           try clear p119
           try clear p19
           try clear p2
           try clear p6
           try clear q1
           try clear q11
           try clear q117
           try clear q118
           try clear q119
           try clear q19
           try clear q2
           try clear q22
           obtain ⟨x5_4, x9_4, rfl, HA, HK4, HO_5, HB⟩ := hrel
           cases gk with
           | zero => exact absurd HA.out (by simp [spec_l4Table.l3])
           | succ k4 =>
            have H := HA.out
            clear HA
            simp only [spec_l4Table.l3] at H
            by_cases c25 : x9_4 < a0
            ·rw [if_pos c25] at H
             have c25b0 : decide (x9_4 < a0) = true := decide_eq_true c25
             clear c25
             have H' := Aside0.mk H
             clear H
             go_wp2
             go_loopg [10] k4 (fun kq v10 w' => ∃ (x5_5 : List (List Bool)) (x10_5 : Int), v10 = .int .i64 x10_5 ∧ Aside0 (spec_l4Table.l4 kq a0 x5_5 x8_3 x9_4 x10_5 = some r) ∧ Aside0 (kq ≤ k4) ∧ Aside0 (Kd.S (Kd.slice 4 Kd.bool) 94 w' w.heap.size (fun _ => True) u5 x5_5) ∧ Aside0 (Below w.heap.size w w'))
             case atStart => exact ⟨(x5_4), (0), sD, H', ⟨Nat.le_refl _⟩, ⟨kS⟩, ⟨by repeat (first | (with_reducible first | exact HB.out | apply below_alloc | apply pw_below_drewN | apply below_drew1) | exact HB.out)⟩⟩
             case round =>
              clear H'
              try clear c1
              try clear p1
              try clear q1
              try clear hx1
              try clear c2
              try clear p2
              try clear q2
              try clear c5
              try clear c5b0
              try clear c6
              try clear c6b0
              try clear c6b1
              try clear p6
              try clear c7
              try clear c7b0
              try clear c7b1
              try clear c8
              try clear c11
              try clear p11
              try clear q11
              try clear hx11
              try clear c13
              try clear c13b0
              try clear c14
              try clear c14b0
              try clear c15
              try clear c15b0
              try clear c16
              try clear c16b0
              try clear c17
              try clear c17b0
              try clear c18
              try clear c18b0
              try clear p19
              try clear q19
              try clear hx19
              try clear hf19
              try clear c22
              try clear q22
              try clear c24
              try clear c24b0
              try clear c25
              try clear c25b0
              try clear hx117_0
              try clear hx117_1
              try clear hx118_0
              try clear hx119_0
              try clear hx119_1
              try clear hx19_0
              try clear p1
              try clear p11
              try clear p117
              try clear p118
              try clear p119
              try clear p19
              try clear p2
              try clear p6
              try clear q1
              try clear q11
              try clear q117
              try clear q118
              try clear q119
              try clear q19
              try clear q2
              try clear q22
              obtain ⟨x5_5, x10_5, rfl, HA, HK5, HO_5, HB⟩ := hrel
              cases gk with
              | zero => exact absurd HA.out (by simp [spec_l4Table.l4])
              | succ k5 =>
               have H := HA.out
               clear HA
               simp only [spec_l4Table.l4] at H
               by_cases c26 : x10_5 < a0
               ·rw [if_pos c26] at H
                have c26b0 : decide (x10_5 < a0) = true := decide_eq_true c26
                clear c26
                by_cases c27 : 0 ≤ x9_4; rotate_left
                ·rw [if_neg c27] at H; exact absurd H (by simp)
                rw [if_pos c27] at H
                have c27b0 : decide (0 ≤ x9_4) = true := decide_eq_true c27
                clear c27
                by_cases c28 : x9_4 < (x5_5.length : Int); rotate_left
                ·rw [if_neg c28] at H; exact absurd H (by simp)
                rw [if_pos c28] at H
                have c28b0 : decide (x9_4 < (x5_5.length : Int)) = true := decide_eq_true c28
                clear c28
                by_cases c29 : 0 ≤ x8_3; rotate_left
                ·rw [if_neg c29] at H; exact absurd H (by simp)
                rw [if_pos c29] at H
                have c29b0 : decide (0 ≤ x8_3) = true := decide_eq_true c29
                clear c29
                by_cases c30 : x8_3 < ((rd_L5 x5_5 x9_4).length : Int); rotate_left
                ·rw [if_neg c30] at H; exact absurd H (by simp)
                rw [if_pos c30] at H
                have c30b0 : decide (x8_3 < ((rd_L5 x5_5 x9_4).length : Int)) = true := decide_eq_true c30
                clear c30
                obtain ⟨bq31, hbq31⟩ : ∃ b_ : Bool, b_ = (rdOf false (rd_L5 x5_5 x9_4) x8_3) := ⟨_, rfl⟩
                replace H : (if bq31 = true then (if x8_3 < (x5_5.length : Int) then (if 0 ≤ x10_5 then (if x10_5 < ((rd_L5 x5_5 x8_3).length : Int) then (if rdOf false (rd_L5 x5_5 x8_3) x10_5 = true then (if x10_5 < ((rd_L5 x5_5 x9_4).length : Int) then (spec_l4Table.l4 k5 a0 (x5_5.set (x9_4 : Int).toNat ((rd_L5 x5_5 x9_4).set (x10_5 : Int).toNat true)) x8_3 x9_4 (wrap64 (x10_5 + 1))) else (none)) else (spec_l4Table.l4 k5 a0 x5_5 x8_3 x9_4 (wrap64 (x10_5 + 1)))) else (none)) else (none)) else (none)) else (spec_l4Table.l4 k5 a0 x5_5 x8_3 x9_4 (wrap64 (x10_5 + 1)))) = some r := by rw [← hbq31] at H; exact H
                have Nbq31 := Aside0.mk hbq31
                clear hbq31
                by_cases c32 : bq31 = true
                ·subst c32
                 have H1 : (if x8_3 < (x5_5.length : Int) then (if 0 ≤ x10_5 then (if x10_5 < ((rd_L5 x5_5 x8_3).length : Int) then (if rdOf false (rd_L5 x5_5 x8_3) x10_5 = true then (if x10_5 < ((rd_L5 x5_5 x9_4).length : Int) then (spec_l4Table.l4 k5 a0 (x5_5.set (x9_4 : Int).toNat ((rd_L5 x5_5 x9_4).set (x10_5 : Int).toNat true)) x8_3 x9_4 (wrap64 (x10_5 + 1))) else (none)) else (spec_l4Table.l4 k5 a0 x5_5 x8_3 x9_4 (wrap64 (x10_5 + 1)))) else (none)) else (none)) else (none)) = some r := by rw [if_pos rfl] at H; exact H
                 clear H
                 have H := H1
                 clear H1
                 by_cases c33 : x8_3 < (x5_5.length : Int); rotate_left
                 ·rw [if_neg c33] at H; exact absurd H (by simp)
                 rw [if_pos c33] at H
                 have c33b0 : decide (x8_3 < (x5_5.length : Int)) = true := decide_eq_true c33
                 clear c33
                 by_cases c34 : 0 ≤ x10_5; rotate_left
                 ·rw [if_neg c34] at H; exact absurd H (by simp)
                 rw [if_pos c34] at H
                 have c34b0 : decide (0 ≤ x10_5) = true := decide_eq_true c34
                 clear c34
                 by_cases c35 : x10_5 < ((rd_L5 x5_5 x8_3).length : Int); rotate_left
                 ·rw [if_neg c35] at H; exact absurd H (by simp)
                 rw [if_pos c35] at H
                 have c35b0 : decide (x10_5 < ((rd_L5 x5_5 x8_3).length : Int)) = true := decide_eq_true c35
                 clear c35
                 obtain ⟨bq36, hbq36⟩ : ∃ b_ : Bool, b_ = (rdOf false (rd_L5 x5_5 x8_3) x10_5) := ⟨_, rfl⟩
                 replace H : (if bq36 = true then (if x10_5 < ((rd_L5 x5_5 x9_4).length : Int) then (spec_l4Table.l4 k5 a0 (x5_5.set (x9_4 : Int).toNat ((rd_L5 x5_5 x9_4).set (x10_5 : Int).toNat true)) x8_3 x9_4 (wrap64 (x10_5 + 1))) else (none)) else (spec_l4Table.l4 k5 a0 x5_5 x8_3 x9_4 (wrap64 (x10_5 + 1)))) = some r := by rw [← hbq36] at H; exact H
                 have Nbq36 := Aside0.mk hbq36
                 clear hbq36
                 by_cases c37 : bq36 = true
                 ·subst c37
                  have H1 : (if x10_5 < ((rd_L5 x5_5 x9_4).length : Int) then (spec_l4Table.l4 k5 a0 (x5_5.set (x9_4 : Int).toNat ((rd_L5 x5_5 x9_4).set (x10_5 : Int).toNat true)) x8_3 x9_4 (wrap64 (x10_5 + 1))) else (none)) = some r := by rw [if_pos rfl] at H; exact H
                  clear H
                  have H := H1
                  clear H1
                  by_cases c38 : x10_5 < ((rd_L5 x5_5 x9_4).length : Int); rotate_left
                  ·rw [if_neg c38] at H; exact absurd H (by simp)
                  rw [if_pos c38] at H
                  have c38b0 : decide (x10_5 < ((rd_L5 x5_5 x9_4).length : Int)) = true := decide_eq_true c38
                  clear c38
                  obtain ⟨y128, hy128⟩ : ∃ y_ : List Bool, y_ = ((rd_L5 x5_5 x9_4).set (x10_5 : Int).toNat true) := ⟨_, rfl⟩
                  replace H : (spec_l4Table.l4 k5 a0 (x5_5.set (x9_4 : Int).toNat y128) x8_3 x9_4 (wrap64 (x10_5 + 1))) = some r := by first | (rw [hy128]; with_reducible exact H) | (have H2_ := (Option.bind_some _ _).symm.trans H; rw [hy128]; with_reducible exact H2_) | (have H2_ := (Option.bind_some _ _).symm.trans H; with_reducible exact H2_) | with_reducible exact H | (rw [hy128]; exact H) | exact H
                  have Ny128 := Aside0.mk hy128
                  clear hy128
                  obtain ⟨y130, hy130⟩ : ∃ y_ : List (List Bool), y_ = (x5_5.set (x9_4 : Int).toNat y128) := ⟨_, rfl⟩
                  replace H : (spec_l4Table.l4 k5 a0 y130 x8_3 x9_4 (wrap64 (x10_5 + 1))) = some r := by first | (rw [hy130]; with_reducible exact H) | (have H2_ := (Option.bind_some _ _).symm.trans H; rw [hy130]; with_reducible exact H2_) | (have H2_ := (Option.bind_some _ _).symm.trans H; with_reducible exact H2_) | with_reducible exact H | (rw [hy130]; exact H) | exact H
                  have Ny130 := Aside0.mk hy130
                  clear hy130
                  have H' := Aside0.mk H
                  clear H
                  obtain ⟨Ao40, co40, eo40⟩ := Kd.S_slice HO_5.out
                  subst eo40
                  have p123 : 0 ≤ (x9_4 : Int) := oD
                  have q123 : x9_4 < (x5_5.length : Int) := oD
                  obtain ⟨ad123, A123_0, c123_0, e123, hx123_0, hl123_0, hi123_0⟩ := at_L5 (Kd.S_reads' HO_5.out).2.2 x9_4 p123 q123
                  cases e123
                  obtain ⟨ce123, hce123, hMe123, hcc123⟩ := Kd.S_get HO_5.out [] x9_4 p123 (by first | exact q123 | exact oD | (have e_ := (Kd.S_reads' HO_5.out).1; omega))
                  obtain ⟨ve123_0, rfl, ge123_0⟩ := hMe123
                  have hv123_0 := hcc123 0 _ rfl
                  rw [Nat.add_zero, show ((Kd.slice 4 Kd.bool)).sz = 1 from rfl, Nat.mul_one] at hv123_0
                  replace hv123_0 := Option.some.inj (hv123_0.symm.trans hx123_0)
                  rw [hv123_0] at ge123_0
                  have HL123_0 := Aside0.mk (show Kd.R Kd.bool 4 _ _ _ _ (rd_L5 x5_5 x9_4) from ge123_0)
                  clear hv123_0 ge123_0
                  have HX123_0 := Aside0.mk hx123_0
                  clear hcc123 hce123
                  have HR123_0 := Aside0.mk hi123_0
                  have HC123_0 := Aside0.mk hl123_0
                  clear hi123_0 hl123_0
                  replace p123 := eq_true p123
                  replace q123 := eq_true q123
                  have p124 : 0 ≤ (x8_3 : Int) := oD
                  have q124 : x8_3 < ((rd_L5 x5_5 x9_4).length : Int) := oD
                  obtain ⟨ad124, e124, hx124_0⟩ := Kd.at_bool (by repeat (first | (with_reducible exact HR123_0.out) | (with_reducible refine Kd.C_alloc ?_ _) | (with_reducible refine Kd.C_drewN ?_ _) | (with_reducible refine Kd.C_drew ?_) | exact HR123_0.out)) x8_3 p124 q124
                  (try rw [← Nbq31.out] at hx124_0)
                  (try rw [← Nbq36.out] at hx124_0)
                  cases e124
                  replace p124 := eq_true p124
                  replace q124 := eq_true q124
                  have p125 : 0 ≤ (x8_3 : Int) := oD
                  have q125 : x8_3 < (x5_5.length : Int) := oD
                  obtain ⟨ad125, A125_0, c125_0, e125, hx125_0, hl125_0, hi125_0⟩ := at_L5 (Kd.S_reads' HO_5.out).2.2 x8_3 p125 q125
                  obtain rfl : ad123 = ad125 := (by injection e125)
                  obtain ⟨ce125, hce125, hMe125, hcc125⟩ := Kd.S_get HO_5.out [] x8_3 p125 (by first | exact q125 | exact oD | (have e_ := (Kd.S_reads' HO_5.out).1; omega))
                  obtain ⟨ve125_0, rfl, ge125_0⟩ := hMe125
                  have hv125_0 := hcc125 0 _ rfl
                  rw [Nat.add_zero, show ((Kd.slice 4 Kd.bool)).sz = 1 from rfl, Nat.mul_one] at hv125_0
                  replace hv125_0 := Option.some.inj (hv125_0.symm.trans hx125_0)
                  rw [hv125_0] at ge125_0
                  have HL125_0 := Aside0.mk (show Kd.R Kd.bool 4 _ _ _ _ (rd_L5 x5_5 x8_3) from ge125_0)
                  clear hv125_0 ge125_0
                  have HX125_0 := Aside0.mk hx125_0
                  clear hcc125 hce125
                  have HR125_0 := Aside0.mk hi125_0
                  have HC125_0 := Aside0.mk hl125_0
                  clear hi125_0 hl125_0
                  replace p125 := eq_true p125
                  replace q125 := eq_true q125
                  have p126 : 0 ≤ (x10_5 : Int) := oD
                  have q126 : x10_5 < ((rd_L5 x5_5 x8_3).length : Int) := oD
                  obtain ⟨ad126, e126, hx126_0⟩ := Kd.at_bool (by repeat (first | (with_reducible exact HR125_0.out) | (with_reducible refine Kd.C_alloc ?_ _) | (with_reducible refine Kd.C_drewN ?_ _) | (with_reducible refine Kd.C_drew ?_) | exact HR125_0.out)) x10_5 p126 q126
                  (try rw [← Nbq31.out] at hx126_0)
                  (try rw [← Nbq36.out] at hx126_0)
                  cases e126
                  replace p126 := eq_true p126
                  replace q126 := eq_true q126
                  have p127 : 0 ≤ (x9_4 : Int) := oD
                  have q127 : x9_4 < (x5_5.length : Int) := oD
                  obtain ⟨ad127, A127_0, c127_0, e127, hx127_0, hl127_0, hi127_0⟩ := at_L5 (Kd.S_reads' HO_5.out).2.2 x9_4 p127 q127
                  obtain rfl : ad123 = ad127 := (by injection e127)
                  obtain ⟨ce127, hce127, hMe127, hcc127⟩ := Kd.S_get HO_5.out [] x9_4 p127 (by first | exact q127 | exact oD | (have e_ := (Kd.S_reads' HO_5.out).1; omega))
                  obtain ⟨ve127_0, rfl, ge127_0⟩ := hMe127
                  have hv127_0 := hcc127 0 _ rfl
                  rw [Nat.add_zero, show ((Kd.slice 4 Kd.bool)).sz = 1 from rfl, Nat.mul_one] at hv127_0
                  replace hv127_0 := Option.some.inj (hv127_0.symm.trans hx127_0)
                  rw [hv127_0] at ge127_0
                  have HL127_0 := Aside0.mk (show Kd.R Kd.bool 4 _ _ _ _ (rd_L5 x5_5 x9_4) from ge127_0)
                  clear hv127_0 ge127_0
                  have HX127_0 := Aside0.mk hx127_0
                  clear hcc127 hce127
                  have HR127_0 := Aside0.mk hi127_0
                  have HC127_0 := Aside0.mk hl127_0
                  clear hi127_0 hl127_0
                  replace p127 := eq_true p127
                  replace q127 := eq_true q127
                  have ea_ := Option.some.inj (hx123_0.symm.trans hx127_0)
                  injection ea_ with ea_ en_ ec_
                  subst ea_
                  subst ec_
                  clear en_
                  have p39 : 0 ≤ (x10_5 : Int) := oD
                  have q39 : (x10_5 : Int) < (((rd_L5 x5_5 x9_4).length : Int) : Int) := oD
                  obtain ⟨go39, co39, eo39, gb39, gl39, cl39, HG39⟩ := Kd.R_form HL127_0.out (by omega)
                  (first | cases eo39 | (injection eo39 with ea_ en_ ec_; (first | subst ea_ | (injection ea_ with ea_; subst ea_)); subst ec_; clear en_))
                  have GB39 := Aside0.mk gb39
                  have GG39 := Aside0.mk HG39
                  clear gb39 gl39 HG39
                  (first | simp only [add_plain] at hx124_0 | skip)
                  obtain ⟨hx39_0, hf39_0⟩ := Kd.R_celln false HL127_0.out (x10_5 : Int) p39 q39
                  replace p39 := eq_true p39
                  replace q39 := eq_true q39
                  have hq41 : (x9_4 : Int) < (x5_5.length : Int) := (by have h_ : (x9_4 : Int) < ((x5_5.length : Int) : Int) := oD; first | exact h_ | (have e_ := (Kd.S_reads' HO_5.out).1; omega) | simpa only [List.length_set, List.length_set] using h_)
                  obtain ⟨oki41, ce41, hcl41, hM41, hcc41, hok41, hbk41⟩ := Kd.S_borrow HO_5.out [] (x9_4 : Int) (oD) hq41
                  obtain ⟨ve41_0, rfl, ge41_0⟩ := hM41
                  have hv41 := hcc41 0 _ rfl
                  rw [Nat.add_zero, show ((Kd.slice 4 Kd.bool)).sz = 1 from rfl, Nat.mul_one] at hv41
                  replace hv41 := Option.some.inj (hv41.symm.trans HX127_0.out)
                  subst hv41
                  clear hcc41 hcl41
                  replace ge41_0 := (show Kd.R Kd.bool 4 _ _ _ _ (rd_L5 x5_5 x9_4) from ge41_0)
                  have HP41 := Kd.R_putg ge41_0 (x10_5 : Int) true
                  go_wp2_with (first | ((with_reducible refine gate_store (t := 4) (p := 78) rfl ?_); refine store_event (t := 4) (p := 78) (v := ?vo_w42) (w1 := (wr.setCell ⟨go39, (x10_5 : Int).toNat, none⟩ (.bool true))) ?hg ?ho ?hn ?hr ?_; (case ho => rfl); (case hg => rfl); (case hn => rfl); (case hr => first | (go_simp; done) | (go_simp; rfl)); intro w42 hw; have hg : wr.grownBy w42 (some go39) := (by rw [hw]; exact HP41.2); have hz_ : Kd.R Kd.bool 4 w42 w.heap.size oki41 (.slice (some ⟨go39, 0, none⟩) (rd_L5 x5_5 x9_4).length c123_0) y128 := (by rw [hw, Ny128.out]; exact HP41.1); have hp_ : Kd.S (Kd.slice 4 Kd.bool) 94 w42 w.heap.size (fun _ => True) (.slice (some ad123) x5_5.length co40) y130 := (by rw [Ny130.out]; exact hbk41 hg (fun k_ e_ => by injection e_ with e_; subst e_; exact ge41_0.1 _ rfl) (Kd.M_row hz_)); have hm_ := Kd.R_mono hz_ hok41; clear HP41 hbk41; have n0_ := Aside0.mk (hp_); have n1_ := Aside0.mk ((by rw [hw]; exact below_set (HB.out) GB39.out : Below w.heap.size w w42)); have n2_ := Aside0.mk (hm_); have n3_ := Aside0.mk ((Kd.R_reads' hm_).2.1); clear HO_5; clear HB; clear HL123_0; clear HL125_0; clear HL127_0; have HO_5 := n0_; have HB := n1_; have HL131 := n2_; have HC129 := n3_; clear n0_ n1_ n2_ n3_; clear hg hw hp_ hz_ hm_ hok41))
                  go_roundg k5
                  case measure => have := HK1.out; have := HK2.out; have := HK3.out; have := HK4.out; have := HK5.out; omega
                  case rel => exact ⟨(y130), (wrap64 (x10_5 + 1)), sD, H', ⟨by have := HK1.out; have := HK2.out; have := HK3.out; have := HK4.out; have := HK5.out; omega⟩, ⟨kS⟩, ⟨by repeat (first | (with_reducible first | exact HB.out | apply below_alloc | apply pw_below_drewN | apply below_drew1) | exact HB.out)⟩⟩
                 ·replace c37 := Bool.eq_false_iff.mpr c37
                  subst c37
                  have H1 : (spec_l4Table.l4 k5 a0 x5_5 x8_3 x9_4 (wrap64 (x10_5 + 1))) = some r := by rw [if_neg (show ¬ (false = true) by decide)] at H; exact H
                  clear H
                  have H := H1
                  clear H1
                  have H' := Aside0.mk H
                  clear H
                  obtain ⟨Ao43, co43, eo43⟩ := Kd.S_slice HO_5.out
                  subst eo43
                  have p123 : 0 ≤ (x9_4 : Int) := oD
                  have q123 : x9_4 < (x5_5.length : Int) := oD
                  obtain ⟨ad123, A123_0, c123_0, e123, hx123_0, hl123_0, hi123_0⟩ := at_L5 (Kd.S_reads' HO_5.out).2.2 x9_4 p123 q123
                  cases e123
                  obtain ⟨ce123, hce123, hMe123, hcc123⟩ := Kd.S_get HO_5.out [] x9_4 p123 (by first | exact q123 | exact oD | (have e_ := (Kd.S_reads' HO_5.out).1; omega))
                  obtain ⟨ve123_0, rfl, ge123_0⟩ := hMe123
                  have hv123_0 := hcc123 0 _ rfl
                  rw [Nat.add_zero, show ((Kd.slice 4 Kd.bool)).sz = 1 from rfl, Nat.mul_one] at hv123_0
                  replace hv123_0 := Option.some.inj (hv123_0.symm.trans hx123_0)
                  rw [hv123_0] at ge123_0
                  have HL123_0 := Aside0.mk (show Kd.R Kd.bool 4 _ _ _ _ (rd_L5 x5_5 x9_4) from ge123_0)
                  clear hv123_0 ge123_0
                  have HX123_0 := Aside0.mk hx123_0
                  clear hcc123 hce123
                  have HR123_0 := Aside0.mk hi123_0
                  have HC123_0 := Aside0.mk hl123_0
                  clear hi123_0 hl123_0
                  replace p123 := eq_true p123
                  replace q123 := eq_true q123
                  have p124 : 0 ≤ (x8_3 : Int) := oD
                  have q124 : x8_3 < ((rd_L5 x5_5 x9_4).length : Int) := oD
                  obtain ⟨ad124, e124, hx124_0⟩ := Kd.at_bool (by repeat (first | (with_reducible exact HR123_0.out) | (with_reducible refine Kd.C_alloc ?_ _) | (with_reducible refine Kd.C_drewN ?_ _) | (with_reducible refine Kd.C_drew ?_) | exact HR123_0.out)) x8_3 p124 q124
                  (try rw [← Nbq31.out] at hx124_0)
                  (try rw [← Nbq36.out] at hx124_0)
                  cases e124
                  replace p124 := eq_true p124
                  replace q124 := eq_true q124
                  have p125 : 0 ≤ (x8_3 : Int) := oD
                  have q125 : x8_3 < (x5_5.length : Int) := oD
                  obtain ⟨ad125, A125_0, c125_0, e125, hx125_0, hl125_0, hi125_0⟩ := at_L5 (Kd.S_reads' HO_5.out).2.2 x8_3 p125 q125
                  obtain rfl : ad123 = ad125 := (by injection e125)
                  obtain ⟨ce125, hce125, hMe125, hcc125⟩ := Kd.S_get HO_5.out [] x8_3 p125 (by first | exact q125 | exact oD | (have e_ := (Kd.S_reads' HO_5.out).1; omega))
                  obtain ⟨ve125_0, rfl, ge125_0⟩ := hMe125
                  have hv125_0 := hcc125 0 _ rfl
                  rw [Nat.add_zero, show ((Kd.slice 4 Kd.bool)).sz = 1 from rfl, Nat.mul_one] at hv125_0
                  replace hv125_0 := Option.some.inj (hv125_0.symm.trans hx125_0)
                  rw [hv125_0] at ge125_0
                  have HL125_0 := Aside0.mk (show Kd.R Kd.bool 4 _ _ _ _ (rd_L5 x5_5 x8_3) from ge125_0)
                  clear hv125_0 ge125_0
                  have HX125_0 := Aside0.mk hx125_0
                  clear hcc125 hce125
                  have HR125_0 := Aside0.mk hi125_0
                  have HC125_0 := Aside0.mk hl125_0
                  clear hi125_0 hl125_0
                  replace p125 := eq_true p125
                  replace q125 := eq_true q125
                  have p126 : 0 ≤ (x10_5 : Int) := oD
                  have q126 : x10_5 < ((rd_L5 x5_5 x8_3).length : Int) := oD
                  obtain ⟨ad126, e126, hx126_0⟩ := Kd.at_bool (by repeat (first | (with_reducible exact HR125_0.out) | (with_reducible refine Kd.C_alloc ?_ _) | (with_reducible refine Kd.C_drewN ?_ _) | (with_reducible refine Kd.C_drew ?_) | exact HR125_0.out)) x10_5 p126 q126
                  (try rw [← Nbq31.out] at hx126_0)
                  (try rw [← Nbq36.out] at hx126_0)
                  cases e126
                  replace p126 := eq_true p126
                  replace q126 := eq_true q126
                  go_wp2
                  go_roundg k5
                  case measure => have := HK1.out; have := HK2.out; have := HK3.out; have := HK4.out; have := HK5.out; omega
                  case rel => exact ⟨(x5_5), (wrap64 (x10_5 + 1)), sD, H', ⟨by have := HK1.out; have := HK2.out; have := HK3.out; have := HK4.out; have := HK5.out; omega⟩, ⟨kS⟩, ⟨by repeat (first | (with_reducible first | exact HB.out | apply below_alloc | apply pw_below_drewN | apply below_drew1) | exact HB.out)⟩⟩
                ·replace c32 := Bool.eq_false_iff.mpr c32
                 subst c32
                 have H1 : (spec_l4Table.l4 k5 a0 x5_5 x8_3 x9_4 (wrap64 (x10_5 + 1))) = some r := by rw [if_neg (show ¬ (false = true) by decide)] at H; exact H
                 clear H
                 have H := H1
                 clear H1
                 have H' := Aside0.mk H
                 clear H
                 obtain ⟨Ao44, co44, eo44⟩ := Kd.S_slice HO_5.out
                 subst eo44
                 have p123 : 0 ≤ (x9_4 : Int) := oD
                 have q123 : x9_4 < (x5_5.length : Int) := oD
                 obtain ⟨ad123, A123_0, c123_0, e123, hx123_0, hl123_0, hi123_0⟩ := at_L5 (Kd.S_reads' HO_5.out).2.2 x9_4 p123 q123
                 cases e123
                 obtain ⟨ce123, hce123, hMe123, hcc123⟩ := Kd.S_get HO_5.out [] x9_4 p123 (by first | exact q123 | exact oD | (have e_ := (Kd.S_reads' HO_5.out).1; omega))
                 obtain ⟨ve123_0, rfl, ge123_0⟩ := hMe123
                 have hv123_0 := hcc123 0 _ rfl
                 rw [Nat.add_zero, show ((Kd.slice 4 Kd.bool)).sz = 1 from rfl, Nat.mul_one] at hv123_0
                 replace hv123_0 := Option.some.inj (hv123_0.symm.trans hx123_0)
                 rw [hv123_0] at ge123_0
                 have HL123_0 := Aside0.mk (show Kd.R Kd.bool 4 _ _ _ _ (rd_L5 x5_5 x9_4) from ge123_0)
                 clear hv123_0 ge123_0
                 have HX123_0 := Aside0.mk hx123_0
                 clear hcc123 hce123
                 have HR123_0 := Aside0.mk hi123_0
                 have HC123_0 := Aside0.mk hl123_0
                 clear hi123_0 hl123_0
                 replace p123 := eq_true p123
                 replace q123 := eq_true q123
                 have p124 : 0 ≤ (x8_3 : Int) := oD
                 have q124 : x8_3 < ((rd_L5 x5_5 x9_4).length : Int) := oD
                 obtain ⟨ad124, e124, hx124_0⟩ := Kd.at_bool (by repeat (first | (with_reducible exact HR123_0.out) | (with_reducible refine Kd.C_alloc ?_ _) | (with_reducible refine Kd.C_drewN ?_ _) | (with_reducible refine Kd.C_drew ?_) | exact HR123_0.out)) x8_3 p124 q124
                 (try rw [← Nbq31.out] at hx124_0)
                 cases e124
                 replace p124 := eq_true p124
                 replace q124 := eq_true q124
                 go_wp2
                 go_roundg k5
                 case measure => have := HK1.out; have := HK2.out; have := HK3.out; have := HK4.out; have := HK5.out; omega
                 case rel => exact ⟨(x5_5), (wrap64 (x10_5 + 1)), sD, H', ⟨by have := HK1.out; have := HK2.out; have := HK3.out; have := HK4.out; have := HK5.out; omega⟩, ⟨kS⟩, ⟨by repeat (first | (with_reducible first | exact HB.out | apply below_alloc | apply pw_below_drewN | apply below_drew1) | exact HB.out)⟩⟩
               ·rw [if_neg c26] at H
                have c26b0 : decide (x10_5 < a0) = false := decide_eq_false c26
                clear c26
                have H' := Aside0.mk H
                clear H
                go_wp2
                go_roundg k5
                case measure => have := HK1.out; have := HK2.out; have := HK3.out; have := HK4.out; have := HK5.out; omega
                case rel => exact ⟨(x5_5), (wrap64 (x9_4 + 1)), sD, H', ⟨by have := HK1.out; have := HK2.out; have := HK3.out; have := HK4.out; have := HK5.out; omega⟩, ⟨kS⟩, ⟨by repeat (first | (with_reducible first | exact HB.out | apply below_alloc | apply pw_below_drewN | apply below_drew1) | exact HB.out)⟩⟩
            ·rw [if_neg c25] at H
             have c25b0 : decide (x9_4 < a0) = false := decide_eq_false c25
             clear c25
             have H' := Aside0.mk H
             clear H
             go_wp2
             go_roundg k4
             case measure => have := HK1.out; have := HK2.out; have := HK3.out; have := HK4.out; omega
             case rel => exact ⟨(x5_4), (wrap64 (x8_3 + 1)), sD, H', ⟨by have := HK1.out; have := HK2.out; have := HK3.out; have := HK4.out; omega⟩, ⟨kS⟩, ⟨by repeat (first | (with_reducible first | exact HB.out | apply below_alloc | apply pw_below_drewN | apply below_drew1) | exact HB.out)⟩⟩
         ·rw [if_neg c24] at H
          have c24b0 : decide (x8_3 < a0) = false := decide_eq_false c24
          clear c24
          obtain rfl := Option.some.inj H
          go_wp2
          go_ret
          exact ⟨_, by first | rfl | (simp [errW_none, errW_some] <;> rfl) | (simp [*, errW_none, errW_some] <;> rfl), by (with_reducible repeat (first | apply Kd.S_alloc | apply Kd.S_drewN | apply Kd.S_drew)); exact HO_5.out, bB⟩

end Go.Proofs.Ytlhppclbokkfmaa.OFnExactSidneyBlocks
