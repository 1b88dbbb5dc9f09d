/- Functions of the program as plain Lean functions, with their contracts: written by this session's program ownprint.py. Conditions: none. -/
import Derived.Test.YtecdigebnhlfhaaOFnExactPlanLengthx0
import Derived.Test.YtecdigebnhlfhaaOFnExactPlanLengthx1
import Derived.Test.YtecdigebnhlfhaaOFnExactPlanLengthx2
import Derived.Test.YtecdigebnhlfhaaOFnExactPlanLengthx7
import Derived.Test.YtecdigebnhlfhaaOFnExactPlanLengthx10
import Derived.Test.YtecdigebnhlfhaaOFnExactPlanLengthx11
namespace Go.Proofs.Ytecdigebnhlfhaa.OFnExactPlanLength
open Go.RowKit Go.Proofs.YtecdigebnhlfhaaW.PrintWords Go.Proofs.YtecdigebnhlfhaaW.PrintLast Go.Proofs.YtecdigebnhlfhaaW.PrintMore
attribute [local go_sem] max2_int min2_int max_two min_two max_three min_three max_four min_four   -- for this text's walks alone
set_option linter.unusedVariables false
set_option linter.unusedSimpArgs false

/-! ### impl_planLength: function 100 -/
def impl_planLength.l0 : Nat → List (S79) → Int → List (S91) → Int → Int → Option (Int)
 | 0, _, _, _, _, _ => none
 | k + 1, x0, x5, x8, x9, x10 => if x10 < x9 then (if 0 ≤ x10 then (if x10 < (x8.length : Int) then (if 0 ≤ ((rd_T91 x8 x10).f0) then (if ((rd_T91 x8 x10).f0) < (x0.length : Int) then (impl_planLength.l0 k x0 (mx x5 (wrap64 (((rd_T91 x8 x10).f2) + ((rd_T79 x0 ((rd_T91 x8 x10).f0)).f0)))) x8 x9 (wrap64 (x10 + 1))) else (none)) else (none)) else (none)) else (none)) else (some x5)
def impl_planLength.f (k : Nat) (l0 : List (S79)) (l1 : List (S91)) : Option (Int) := impl_planLength.l0 k l0 0 l1 (l1.length : Int) 0
theorem impl_planLength.mono_l : ∀ k, (∀ y0 y1 y2 y3 y4, LeO (impl_planLength.l0 k y0 y1 y2 y3 y4) (impl_planLength.l0 (k + 1) y0 y1 y2 y3 y4))
 | 0 => fun _ _ _ _ _ r h => by simp [impl_planLength.l0] at h
 | k + 1 => by
  have ih0 := impl_planLength.mono_l k
  ·intro y0 y1 y2 y3 y4
   unfold impl_planLength.l0
   repeat' first
   | (with_reducible exact ih0 _ _ _ _ _)
   | (with_reducible exact LeO.refl _)
   | (with_reducible exact LeO.none _)
   | (with_reducible refine LeO.ite ?_ ?_)
   | (with_reducible refine LeO.bind ?_ (fun _ => ?_))
   | exact ih0 _ _ _ _ _
   | exact LeO.none _
   | refine LeO.ite ?_ ?_
   | refine LeO.bind ?_ (fun _ => ?_)
theorem impl_planLength.mono : ∀ a0 a1 k, LeO (impl_planLength.f k a0 a1) (impl_planLength.f (k + 1) a0 a1) := by
 intro a0 a1 k
 have ih0 := impl_planLength.mono_l k
 unfold impl_planLength.f
 repeat' first
   | (with_reducible exact ih0 _ _ _ _ _)
   | (with_reducible exact LeO.refl _)
   | (with_reducible exact LeO.none _)
   | (with_reducible refine LeO.ite ?_ ?_)
   | (with_reducible refine LeO.bind ?_ (fun _ => ?_))
   | exact ih0 _ _ _ _ _
   | exact LeO.none _
   | refine LeO.ite ?_ ?_
   | refine LeO.bind ?_ (fun _ => ?_)
set_option maxHeartbeats 8000000 in
set_option maxRecDepth 100000 in
theorem impl_planLength.calls (k : Nat) (A0 : Option Addr) (c0 : Nat) (l0 : List (S79)) (A1 : Option Addr) (c1 : Nat) (l1 : List (S91)) (r : Int) (w : World) (hr0 : Kd.C k79 w A0 l0.length l0) (hc0 : l0.length ≤ c0) (hr1 : Kd.C k91 w A1 l1.length l1) (hc1 : l1.length ≤ c1) (h : impl_planLength.f k l0 l1 = some r) :
  Calls Try.prog 100 #[.slice A0 l0.length c0, .slice A1 l1.length c1] w fun e w' => e = .returned (.int .i64 r) ∧ Below w.heap.size w w' := by
 have hu91 := Try.underlying91
 have HR0 := Aside0.mk hr0
 have HC0 := Aside0.mk hc0
 clear hr0 hc0
 have HR1 := Aside0.mk hr1
 have HC1 := Aside0.mk hc1
 clear hr1 hc1
 have HB := Aside0.mk (Below.refl w.heap.size w)
 have H : (impl_planLength.l0 k l0 0 l1 (l1.length : Int) 0) = some r := h
 clear h
 have H' := Aside0.mk H
 clear H
 go_enter Try.func100, Try.ntmps100
 go_wp2
 repeat (go_quiet (fail); try go_wp2)
 go_loopg [5, 10] k (fun kq v5 v10 w' => ∃ (x5_1 : Int) (x10_1 : Int), v5 = .int .i64 x5_1 ∧ v10 = .int .i64 x10_1 ∧ Aside0 (impl_planLength.l0 kq l0 x5_1 l1 (l1.length : Int) x10_1 = some r) ∧ Aside0 (kq ≤ k) ∧ Aside0 (Below w.heap.size w w'))
 case atStart => exact ⟨(0), (0), sD, sD, H', ⟨Nat.le_refl _⟩, ⟨by repeat (first | (with_reducible first | exact HB.out | apply below_alloc | apply pw_below_drewN | apply below_drew1) | exact HB.out)⟩⟩
 case round =>
  clear H'
  try clear c1
  try clear p2
  obtain ⟨x5_1, x10_1, rfl, rfl, HA, HK1, HB⟩ := hrel
  cases gk with
  | zero => exact absurd HA.out (by simp [impl_planLength.l0])
  | succ k1 =>
   have H := HA.out
   clear HA
   simp only [impl_planLength.l0] at H
   by_cases c3 : x10_1 < (l1.length : Int)
   ·rw [if_pos c3] at H
    have c3b0 : decide (x10_1 < (l1.length : Int)) = true := decide_eq_true c3
    clear c3
    by_cases c4 : 0 ≤ x10_1; rotate_left
    ·rw [if_neg c4] at H; exact absurd H (by simp)
    rw [if_pos c4] at H
    have c4b0 : decide (0 ≤ x10_1) = true := decide_eq_true c4
    clear c4
    by_cases c5 : x10_1 < (l1.length : Int); rotate_left
    ·rw [if_neg c5] at H; exact absurd H (by simp)
    rw [if_pos c5] at H
    have c5b0 : decide (x10_1 < (l1.length : Int)) = true := decide_eq_true c5
    clear c5
    by_cases c6 : 0 ≤ ((rd_T91 l1 x10_1).f0); rotate_left
    ·rw [if_neg c6] at H; exact absurd H (by simp)
    rw [if_pos c6] at H
    have c6b0 : decide (0 ≤ ((rd_T91 l1 x10_1).f0)) = true := decide_eq_true c6
    clear c6
    by_cases c7 : ((rd_T91 l1 x10_1).f0) < (l0.length : Int); rotate_left
    ·rw [if_neg c7] at H; exact absurd H (by simp)
    rw [if_pos c7] at H
    have c7b0 : decide (((rd_T91 l1 x10_1).f0) < (l0.length : Int)) = true := decide_eq_true c7
    clear c7
    obtain ⟨ji8, hji8⟩ : ∃ j_ : Int, (mx x5_1 (wrap64 (((rd_T91 l1 x10_1).f2) + ((rd_T79 l0 ((rd_T91 l1 x10_1).f0)).f0)))) = j_ := ⟨_, rfl⟩
    replace H : (impl_planLength.l0 k1 l0 ji8 l1 (l1.length : Int) (wrap64 (x10_1 + 1))) = some r := by first | (rw [hji8] at H; exact H) | (simp only [hji8] at H ⊢; exact H)
    have hji8_ : (if x5_1 < (wrap64 (((rd_T91 l1 x10_1).f2) + ((rd_T79 l0 ((rd_T91 l1 x10_1).f0)).f0))) then (wrap64 (((rd_T91 l1 x10_1).f2) + ((rd_T79 l0 ((rd_T91 l1 x10_1).f0)).f0))) else x5_1) = ji8 := hji8
    have H' := Aside0.mk H
    clear H
    have p296 : 0 ≤ (x10_1 : Int) := oD
    have q296 : x10_1 < (l1.length : Int) := oD
    obtain ⟨ad296, e296, hx296_0, hx296_1, hx296_2⟩ := at_T91 HR1.out x10_1 p296 q296
    cases e296
    replace hx296_0 := (cB HB.out hx296_0 :)
    replace hx296_1 := (cB HB.out hx296_1 :)
    replace hx296_2 := (cB HB.out hx296_2 :)
    replace p296 := eq_true p296
    replace q296 := eq_true q296
    go_wp2_with (first | ((with_reducible refine gate_dst (N := 7) rfl ?_); refine bE 7 #[.int .i64 0, .int .i64 0, .int .i64 0] 91 ?_; intro gb297 hg w9 hbox hb; have n0_ := Aside0.mk (below_step bB hb); have n1_ := Aside0.mk (hbox); have n2_ := Aside0.mk ((by rw [hg]; exact (below_size bB) : w.heap.size ≤ gb297)); have n3_ := Aside0.mk ((by rw [hg]; exact (below_size bB) : w.heap.size ≤ gb297)); clear HB; have HB := n0_; have BK297 := n1_; have GW297 := n2_; have GE297 := n3_; clear n0_ n1_ n2_ n3_; clear hb hbox hg; have hcz10_0 : w9.cell? ⟨gb297, 0, none⟩ = some (.int .i64 0) := (blk_cell BK297.out 0).trans rfl; have hcz10_1 : w9.cell? ⟨gb297, 1, none⟩ = some (.int .i64 0) := (blk_cell BK297.out 1).trans rfl; have hcz10_2 : w9.cell? ⟨gb297, 2, none⟩ = some (.int .i64 0) := (blk_cell BK297.out 2).trans rfl; have hfz10_0 := blk_frozen BK297.out 0; have hfz10_1 := blk_frozen BK297.out 1; have hfz10_2 := blk_frozen BK297.out 2; have p298 : 0 ≤ (((rd_T91 l1 x10_1).f0) : Int) := oD; have q298 : ((rd_T91 l1 x10_1).f0) < (l0.length : Int) := oD; obtain ⟨ad298, e298, hx298_0, hx298_1, hx298_2, hx298_3⟩ := at_T79 HR0.out ((rd_T91 l1 x10_1).f0) p298 q298; cases e298; have hn298_0 : ad298.block ≠ gb297 := Nat.ne_of_lt (Nat.lt_of_lt_of_le (by have := World.block_lt_of_cell? _ _ hx298_0; first | rwa [add_block] at this | exact this) GW297.out); have hn298_1 : ad298.block ≠ gb297 := Nat.ne_of_lt (Nat.lt_of_lt_of_le (by have := World.block_lt_of_cell? _ _ hx298_0; first | rwa [add_block] at this | exact this) GW297.out); have hn298_2 : ad298.block ≠ gb297 := Nat.ne_of_lt (Nat.lt_of_lt_of_le (by have := World.block_lt_of_cell? _ _ hx298_0; first | rwa [add_block] at this | exact this) GW297.out); replace hx298_0 := (cB HB.out hx298_0 :); replace hx298_1 := (cB HB.out hx298_1 :); replace hx298_2 := (cB HB.out hx298_2 :); replace hx298_3 := (cB HB.out hx298_3 :); replace hx298_0 := (cell_far (p := ⟨gb297, 0, none⟩) (nC hn298_0) (.int .i64 ((rd_T91 l1 x10_1).f0))).trans hx298_0; replace hx298_1 := (cell_far (p := ⟨gb297, 0, none⟩) (nC hn298_0) (.int .i64 ((rd_T91 l1 x10_1).f0))).trans hx298_1; replace hx298_2 := (cell_far (p := ⟨gb297, 0, none⟩) (nC hn298_0) (.int .i64 ((rd_T91 l1 x10_1).f0))).trans hx298_2; replace hx298_3 := (cell_far (p := ⟨gb297, 0, none⟩) (nC hn298_0) (.int .i64 ((rd_T91 l1 x10_1).f0))).trans hx298_3; replace hx298_0 := (cell_far (p := ⟨gb297, 1, none⟩) (nC hn298_1) (.int .i64 ((rd_T91 l1 x10_1).f1))).trans hx298_0; replace hx298_1 := (cell_far (p := ⟨gb297, 1, none⟩) (nC hn298_1) (.int .i64 ((rd_T91 l1 x10_1).f1))).trans hx298_1; replace hx298_2 := (cell_far (p := ⟨gb297, 1, none⟩) (nC hn298_1) (.int .i64 ((rd_T91 l1 x10_1).f1))).trans hx298_2; replace hx298_3 := (cell_far (p := ⟨gb297, 1, none⟩) (nC hn298_1) (.int .i64 ((rd_T91 l1 x10_1).f1))).trans hx298_3; replace hx298_0 := (cell_far (p := ⟨gb297, 2, none⟩) (nC hn298_2) (.int .i64 ((rd_T91 l1 x10_1).f2))).trans hx298_0; replace hx298_1 := (cell_far (p := ⟨gb297, 2, none⟩) (nC hn298_2) (.int .i64 ((rd_T91 l1 x10_1).f2))).trans hx298_1; replace hx298_2 := (cell_far (p := ⟨gb297, 2, none⟩) (nC hn298_2) (.int .i64 ((rd_T91 l1 x10_1).f2))).trans hx298_2; replace hx298_3 := (cell_far (p := ⟨gb297, 2, none⟩) (nC hn298_2) (.int .i64 ((rd_T91 l1 x10_1).f2))).trans hx298_3; (try have hy298_0 := fun (n_ : Nat) => (show (((((w9.drewN n_).setCell ⟨gb297, 0, none⟩ (.int .i64 ((rd_T91 l1 x10_1).f0))).setCell ⟨gb297, 1, none⟩ (.int .i64 ((rd_T91 l1 x10_1).f1))).setCell ⟨gb297, 2, none⟩ (.int .i64 ((rd_T91 l1 x10_1).f2)))).cell? _ = some _ from hx298_0)); (try have hy298_1 := fun (n_ : Nat) => (show (((((w9.drewN n_).setCell ⟨gb297, 0, none⟩ (.int .i64 ((rd_T91 l1 x10_1).f0))).setCell ⟨gb297, 1, none⟩ (.int .i64 ((rd_T91 l1 x10_1).f1))).setCell ⟨gb297, 2, none⟩ (.int .i64 ((rd_T91 l1 x10_1).f2)))).cell? _ = some _ from hx298_1)); (try have hy298_2 := fun (n_ : Nat) => (show (((((w9.drewN n_).setCell ⟨gb297, 0, none⟩ (.int .i64 ((rd_T91 l1 x10_1).f0))).setCell ⟨gb297, 1, none⟩ (.int .i64 ((rd_T91 l1 x10_1).f1))).setCell ⟨gb297, 2, none⟩ (.int .i64 ((rd_T91 l1 x10_1).f2)))).cell? _ = some _ from hx298_2)); (try have hy298_3 := fun (n_ : Nat) => (show (((((w9.drewN n_).setCell ⟨gb297, 0, none⟩ (.int .i64 ((rd_T91 l1 x10_1).f0))).setCell ⟨gb297, 1, none⟩ (.int .i64 ((rd_T91 l1 x10_1).f1))).setCell ⟨gb297, 2, none⟩ (.int .i64 ((rd_T91 l1 x10_1).f2)))).cell? _ = some _ from hx298_3)); clear hn298_0; clear hn298_1; clear hn298_2; replace p298 := eq_true p298; replace q298 := eq_true q298))
    repeat (go_quiet (first | ((with_reducible refine gate_dst (N := 7) rfl ?_); refine bE 7 #[.int .i64 0, .int .i64 0, .int .i64 0] 91 ?_; intro gb297 hg w9 hbox hb; have n0_ := Aside0.mk (below_step bB hb); have n1_ := Aside0.mk (hbox); have n2_ := Aside0.mk ((by rw [hg]; exact (below_size bB) : w.heap.size ≤ gb297)); have n3_ := Aside0.mk ((by rw [hg]; exact (below_size bB) : w.heap.size ≤ gb297)); clear HB; have HB := n0_; have BK297 := n1_; have GW297 := n2_; have GE297 := n3_; clear n0_ n1_ n2_ n3_; clear hb hbox hg; have hcz10_0 : w9.cell? ⟨gb297, 0, none⟩ = some (.int .i64 0) := (blk_cell BK297.out 0).trans rfl; have hcz10_1 : w9.cell? ⟨gb297, 1, none⟩ = some (.int .i64 0) := (blk_cell BK297.out 1).trans rfl; have hcz10_2 : w9.cell? ⟨gb297, 2, none⟩ = some (.int .i64 0) := (blk_cell BK297.out 2).trans rfl; have hfz10_0 := blk_frozen BK297.out 0; have hfz10_1 := blk_frozen BK297.out 1; have hfz10_2 := blk_frozen BK297.out 2; have p298 : 0 ≤ (((rd_T91 l1 x10_1).f0) : Int) := oD; have q298 : ((rd_T91 l1 x10_1).f0) < (l0.length : Int) := oD; obtain ⟨ad298, e298, hx298_0, hx298_1, hx298_2, hx298_3⟩ := at_T79 HR0.out ((rd_T91 l1 x10_1).f0) p298 q298; cases e298; have hn298_0 : ad298.block ≠ gb297 := Nat.ne_of_lt (Nat.lt_of_lt_of_le (by have := World.block_lt_of_cell? _ _ hx298_0; first | rwa [add_block] at this | exact this) GW297.out); have hn298_1 : ad298.block ≠ gb297 := Nat.ne_of_lt (Nat.lt_of_lt_of_le (by have := World.block_lt_of_cell? _ _ hx298_0; first | rwa [add_block] at this | exact this) GW297.out); have hn298_2 : ad298.block ≠ gb297 := Nat.ne_of_lt (Nat.lt_of_lt_of_le (by have := World.block_lt_of_cell? _ _ hx298_0; first | rwa [add_block] at this | exact this) GW297.out); replace hx298_0 := (cB HB.out hx298_0 :); replace hx298_1 := (cB HB.out hx298_1 :); replace hx298_2 := (cB HB.out hx298_2 :); replace hx298_3 := (cB HB.out hx298_3 :); replace hx298_0 := (cell_far (p := ⟨gb297, 0, none⟩) (nC hn298_0) (.int .i64 ((rd_T91 l1 x10_1).f0))).trans hx298_0; replace hx298_1 := (cell_far (p := ⟨gb297, 0, none⟩) (nC hn298_0) (.int .i64 ((rd_T91 l1 x10_1).f0))).trans hx298_1; replace hx298_2 := (cell_far (p := ⟨gb297, 0, none⟩) (nC hn298_0) (.int .i64 ((rd_T91 l1 x10_1).f0))).trans hx298_2; replace hx298_3 := (cell_far (p := ⟨gb297, 0, none⟩) (nC hn298_0) (.int .i64 ((rd_T91 l1 x10_1).f0))).trans hx298_3; replace hx298_0 := (cell_far (p := ⟨gb297, 1, none⟩) (nC hn298_1) (.int .i64 ((rd_T91 l1 x10_1).f1))).trans hx298_0; replace hx298_1 := (cell_far (p := ⟨gb297, 1, none⟩) (nC hn298_1) (.int .i64 ((rd_T91 l1 x10_1).f1))).trans hx298_1; replace hx298_2 := (cell_far (p := ⟨gb297, 1, none⟩) (nC hn298_1) (.int .i64 ((rd_T91 l1 x10_1).f1))).trans hx298_2; replace hx298_3 := (cell_far (p := ⟨gb297, 1, none⟩) (nC hn298_1) (.int .i64 ((rd_T91 l1 x10_1).f1))).trans hx298_3; replace hx298_0 := (cell_far (p := ⟨gb297, 2, none⟩) (nC hn298_2) (.int .i64 ((rd_T91 l1 x10_1).f2))).trans hx298_0; replace hx298_1 := (cell_far (p := ⟨gb297, 2, none⟩) (nC hn298_2) (.int .i64 ((rd_T91 l1 x10_1).f2))).trans hx298_1; replace hx298_2 := (cell_far (p := ⟨gb297, 2, none⟩) (nC hn298_2) (.int .i64 ((rd_T91 l1 x10_1).f2))).trans hx298_2; replace hx298_3 := (cell_far (p := ⟨gb297, 2, none⟩) (nC hn298_2) (.int .i64 ((rd_T91 l1 x10_1).f2))).trans hx298_3; (try have hy298_0 := fun (n_ : Nat) => (show (((((w9.drewN n_).setCell ⟨gb297, 0, none⟩ (.int .i64 ((rd_T91 l1 x10_1).f0))).setCell ⟨gb297, 1, none⟩ (.int .i64 ((rd_T91 l1 x10_1).f1))).setCell ⟨gb297, 2, none⟩ (.int .i64 ((rd_T91 l1 x10_1).f2)))).cell? _ = some _ from hx298_0)); (try have hy298_1 := fun (n_ : Nat) => (show (((((w9.drewN n_).setCell ⟨gb297, 0, none⟩ (.int .i64 ((rd_T91 l1 x10_1).f0))).setCell ⟨gb297, 1, none⟩ (.int .i64 ((rd_T91 l1 x10_1).f1))).setCell ⟨gb297, 2, none⟩ (.int .i64 ((rd_T91 l1 x10_1).f2)))).cell? _ = some _ from hx298_1)); (try have hy298_2 := fun (n_ : Nat) => (show (((((w9.drewN n_).setCell ⟨gb297, 0, none⟩ (.int .i64 ((rd_T91 l1 x10_1).f0))).setCell ⟨gb297, 1, none⟩ (.int .i64 ((rd_T91 l1 x10_1).f1))).setCell ⟨gb297, 2, none⟩ (.int .i64 ((rd_T91 l1 x10_1).f2)))).cell? _ = some _ from hx298_2)); (try have hy298_3 := fun (n_ : Nat) => (show (((((w9.drewN n_).setCell ⟨gb297, 0, none⟩ (.int .i64 ((rd_T91 l1 x10_1).f0))).setCell ⟨gb297, 1, none⟩ (.int .i64 ((rd_T91 l1 x10_1).f1))).setCell ⟨gb297, 2, none⟩ (.int .i64 ((rd_T91 l1 x10_1).f2)))).cell? _ = some _ from hx298_3)); clear hn298_0; clear hn298_1; clear hn298_2; replace p298 := eq_true p298; replace q298 := eq_true q298)); try go_wp2_with (first | ((with_reducible refine gate_dst (N := 7) rfl ?_); refine bE 7 #[.int .i64 0, .int .i64 0, .int .i64 0] 91 ?_; intro gb297 hg w9 hbox hb; have n0_ := Aside0.mk (below_step bB hb); have n1_ := Aside0.mk (hbox); have n2_ := Aside0.mk ((by rw [hg]; exact (below_size bB) : w.heap.size ≤ gb297)); have n3_ := Aside0.mk ((by rw [hg]; exact (below_size bB) : w.heap.size ≤ gb297)); clear HB; have HB := n0_; have BK297 := n1_; have GW297 := n2_; have GE297 := n3_; clear n0_ n1_ n2_ n3_; clear hb hbox hg; have hcz10_0 : w9.cell? ⟨gb297, 0, none⟩ = some (.int .i64 0) := (blk_cell BK297.out 0).trans rfl; have hcz10_1 : w9.cell? ⟨gb297, 1, none⟩ = some (.int .i64 0) := (blk_cell BK297.out 1).trans rfl; have hcz10_2 : w9.cell? ⟨gb297, 2, none⟩ = some (.int .i64 0) := (blk_cell BK297.out 2).trans rfl; have hfz10_0 := blk_frozen BK297.out 0; have hfz10_1 := blk_frozen BK297.out 1; have hfz10_2 := blk_frozen BK297.out 2; have p298 : 0 ≤ (((rd_T91 l1 x10_1).f0) : Int) := oD; have q298 : ((rd_T91 l1 x10_1).f0) < (l0.length : Int) := oD; obtain ⟨ad298, e298, hx298_0, hx298_1, hx298_2, hx298_3⟩ := at_T79 HR0.out ((rd_T91 l1 x10_1).f0) p298 q298; cases e298; have hn298_0 : ad298.block ≠ gb297 := Nat.ne_of_lt (Nat.lt_of_lt_of_le (by have := World.block_lt_of_cell? _ _ hx298_0; first | rwa [add_block] at this | exact this) GW297.out); have hn298_1 : ad298.block ≠ gb297 := Nat.ne_of_lt (Nat.lt_of_lt_of_le (by have := World.block_lt_of_cell? _ _ hx298_0; first | rwa [add_block] at this | exact this) GW297.out); have hn298_2 : ad298.block ≠ gb297 := Nat.ne_of_lt (Nat.lt_of_lt_of_le (by have := World.block_lt_of_cell? _ _ hx298_0; first | rwa [add_block] at this | exact this) GW297.out); replace hx298_0 := (cB HB.out hx298_0 :); replace hx298_1 := (cB HB.out hx298_1 :); replace hx298_2 := (cB HB.out hx298_2 :); replace hx298_3 := (cB HB.out hx298_3 :); replace hx298_0 := (cell_far (p := ⟨gb297, 0, none⟩) (nC hn298_0) (.int .i64 ((rd_T91 l1 x10_1).f0))).trans hx298_0; replace hx298_1 := (cell_far (p := ⟨gb297, 0, none⟩) (nC hn298_0) (.int .i64 ((rd_T91 l1 x10_1).f0))).trans hx298_1; replace hx298_2 := (cell_far (p := ⟨gb297, 0, none⟩) (nC hn298_0) (.int .i64 ((rd_T91 l1 x10_1).f0))).trans hx298_2; replace hx298_3 := (cell_far (p := ⟨gb297, 0, none⟩) (nC hn298_0) (.int .i64 ((rd_T91 l1 x10_1).f0))).trans hx298_3; replace hx298_0 := (cell_far (p := ⟨gb297, 1, none⟩) (nC hn298_1) (.int .i64 ((rd_T91 l1 x10_1).f1))).trans hx298_0; replace hx298_1 := (cell_far (p := ⟨gb297, 1, none⟩) (nC hn298_1) (.int .i64 ((rd_T91 l1 x10_1).f1))).trans hx298_1; replace hx298_2 := (cell_far (p := ⟨gb297, 1, none⟩) (nC hn298_1) (.int .i64 ((rd_T91 l1 x10_1).f1))).trans hx298_2; replace hx298_3 := (cell_far (p := ⟨gb297, 1, none⟩) (nC hn298_1) (.int .i64 ((rd_T91 l1 x10_1).f1))).trans hx298_3; replace hx298_0 := (cell_far (p := ⟨gb297, 2, none⟩) (nC hn298_2) (.int .i64 ((rd_T91 l1 x10_1).f2))).trans hx298_0; replace hx298_1 := (cell_far (p := ⟨gb297, 2, none⟩) (nC hn298_2) (.int .i64 ((rd_T91 l1 x10_1).f2))).trans hx298_1; replace hx298_2 := (cell_far (p := ⟨gb297, 2, none⟩) (nC hn298_2) (.int .i64 ((rd_T91 l1 x10_1).f2))).trans hx298_2; replace hx298_3 := (cell_far (p := ⟨gb297, 2, none⟩) (nC hn298_2) (.int .i64 ((rd_T91 l1 x10_1).f2))).trans hx298_3; (try have hy298_0 := fun (n_ : Nat) => (show (((((w9.drewN n_).setCell ⟨gb297, 0, none⟩ (.int .i64 ((rd_T91 l1 x10_1).f0))).setCell ⟨gb297, 1, none⟩ (.int .i64 ((rd_T91 l1 x10_1).f1))).setCell ⟨gb297, 2, none⟩ (.int .i64 ((rd_T91 l1 x10_1).f2)))).cell? _ = some _ from hx298_0)); (try have hy298_1 := fun (n_ : Nat) => (show (((((w9.drewN n_).setCell ⟨gb297, 0, none⟩ (.int .i64 ((rd_T91 l1 x10_1).f0))).setCell ⟨gb297, 1, none⟩ (.int .i64 ((rd_T91 l1 x10_1).f1))).setCell ⟨gb297, 2, none⟩ (.int .i64 ((rd_T91 l1 x10_1).f2)))).cell? _ = some _ from hx298_1)); (try have hy298_2 := fun (n_ : Nat) => (show (((((w9.drewN n_).setCell ⟨gb297, 0, none⟩ (.int .i64 ((rd_T91 l1 x10_1).f0))).setCell ⟨gb297, 1, none⟩ (.int .i64 ((rd_T91 l1 x10_1).f1))).setCell ⟨gb297, 2, none⟩ (.int .i64 ((rd_T91 l1 x10_1).f2)))).cell? _ = some _ from hx298_2)); (try have hy298_3 := fun (n_ : Nat) => (show (((((w9.drewN n_).setCell ⟨gb297, 0, none⟩ (.int .i64 ((rd_T91 l1 x10_1).f0))).setCell ⟨gb297, 1, none⟩ (.int .i64 ((rd_T91 l1 x10_1).f1))).setCell ⟨gb297, 2, none⟩ (.int .i64 ((rd_T91 l1 x10_1).f2)))).cell? _ = some _ from hx298_3)); clear hn298_0; clear hn298_1; clear hn298_2; replace p298 := eq_true p298; replace q298 := eq_true q298)))
    go_roundg k1
    case measure => have := HK1.out; omega
    case rel => exact ⟨(ji8), (wrap64 (x10_1 + 1)), (by first | rfl | (simp; done) | (simp only [← hji8] <;> (first | rfl | simp)) | (simp [*]; done)), sD, H', ⟨by have := HK1.out; omega⟩, ⟨by repeat (first | (with_reducible first | exact HB.out | apply below_alloc | apply pw_below_drewN | apply below_drew1 | refine below_set ?_ GE297.out) | exact HB.out)⟩⟩
   ·rw [if_neg c3] at H
    have c3b0 : decide (x10_1 < (l1.length : Int)) = false := decide_eq_false c3
    clear c3
    obtain rfl := Option.some.inj H
    go_wp2
    repeat (go_quiet (fail); try go_wp2)
    go_ret
    exact ⟨rE, bB⟩

/-! ### impl_PlanLength: function 53 -/
def impl_PlanLength.f (k : Nat) (l0 : List (S79)) (a1 : Int) (l2 : List (S71)) (l3 : List (S91)) : Option (Int × Bool) := (impl_isParallel.f k l0 a1 l2).bind fun t299 => (if t299 = true then ((impl_isPlan.f k l0 a1 l2 l3).bind fun t300 => (if t300 = true then ((impl_planLength.f k l0 l3).bind fun t301 => (some (t301, true))) else (some (0, false)))) else (some (0, false)))
theorem impl_PlanLength.mono : ∀ a0 a1 a2 a3 k, LeO (impl_PlanLength.f k a0 a1 a2 a3) (impl_PlanLength.f (k + 1) a0 a1 a2 a3) := by
 intro a0 a1 a2 a3 k
 unfold impl_PlanLength.f
 repeat' first
   | (with_reducible exact impl_isParallel.mono _ _ _ _)
   | (with_reducible exact impl_isPlan.mono _ _ _ _ _)
   | (with_reducible exact impl_planLength.mono _ _ _)
   | (with_reducible exact LeO.refl _)
   | (with_reducible exact LeO.none _)
   | (with_reducible refine LeO.ite ?_ ?_)
   | (with_reducible refine LeO.bind ?_ (fun _ => ?_))
   | exact impl_isParallel.mono _ _ _ _
   | exact impl_isPlan.mono _ _ _ _ _
   | exact impl_planLength.mono _ _ _
   | exact LeO.none _
   | refine LeO.ite ?_ ?_
   | refine LeO.bind ?_ (fun _ => ?_)
set_option maxHeartbeats 8000000 in
set_option maxRecDepth 100000 in
theorem impl_PlanLength.calls (k : Nat) (A0 : Option Addr) (c0 : Nat) (l0 : List (S79)) (a1 : Int) (A2 : Option Addr) (c2 : Nat) (l2 : List (S71)) (A3 : Option Addr) (c3 : Nat) (l3 : List (S91)) (r1 : Int) (r2 : Bool) (w : World) (hr0 : Kd.C k79 w A0 l0.length l0) (hc0 : l0.length ≤ c0) (hr2 : Kd.C k71 w A2 l2.length l2) (hc2 : l2.length ≤ c2) (hr3 : Kd.C k91 w A3 l3.length l3) (hc3 : l3.length ≤ c3) (h : impl_PlanLength.f k l0 a1 l2 l3 = some (r1, r2)) :
  Calls Try.prog 53 #[.slice A0 l0.length c0, .int .i64 a1, .slice A2 l2.length c2, .slice A3 l3.length c3] w fun e w' => e = .returned (.tuple #[.int .i64 r1, .bool r2]) ∧ Below w.heap.size w w' := by
 have HR0 := Aside0.mk hr0
 have HC0 := Aside0.mk hc0
 clear hr0 hc0
 have HR2 := Aside0.mk hr2
 have HC2 := Aside0.mk hc2
 clear hr2 hc2
 have HR3 := Aside0.mk hr3
 have HC3 := Aside0.mk hc3
 clear hr3 hc3
 have HB := Aside0.mk (Below.refl w.heap.size w)
 have H : ((impl_isParallel.f k l0 a1 l2).bind fun t299 => (if t299 = true then ((impl_isPlan.f k l0 a1 l2 l3).bind fun t300 => (if t300 = true then ((impl_planLength.f k l0 l3).bind fun t301 => (some (t301, true))) else (some (0, false)))) else (some (0, false)))) = some (r1, r2) := h
 clear h
 replace H := Option.bind_eq_some_iff.mp H
 obtain ⟨t299, A50, H⟩ := H
 replace H : (if t299 = true then ((impl_isPlan.f k l0 a1 l2 l3).bind fun t300 => (if t300 = true then ((impl_planLength.f k l0 l3).bind fun t301 => (some (t301, true))) else (some (0, false)))) else (some (0, false))) = some (r1, r2) := H
 have A5 := Aside0.mk A50
 clear A50
 by_cases c6 : t299 = true
 ·subst c6
  have H1 : ((impl_isPlan.f k l0 a1 l2 l3).bind fun t300 => (if t300 = true then ((impl_planLength.f k l0 l3).bind fun t301 => (some (t301, true))) else (some (0, false)))) = some (r1, r2) := by rw [if_pos rfl] at H; exact H
  clear H
  have H := H1
  clear H1
  replace H := Option.bind_eq_some_iff.mp H
  obtain ⟨t300, A70, H⟩ := H
  replace H : (if t300 = true then ((impl_planLength.f k l0 l3).bind fun t301 => (some (t301, true))) else (some (0, false))) = some (r1, r2) := H
  have A7 := Aside0.mk A70
  clear A70
  by_cases c8 : t300 = true
  ·subst c8
   have H1 : ((impl_planLength.f k l0 l3).bind fun t301 => (some (t301, true))) = some (r1, r2) := by rw [if_pos rfl] at H; exact H
   clear H
   have H := H1
   clear H1
   replace H := Option.bind_eq_some_iff.mp H
   obtain ⟨t301, A90, H⟩ := H
   replace H : (some (t301, true)) = some (r1, r2) := H
   have A9 := Aside0.mk A90
   clear A90
   simp only [Option.some.injEq, Prod.mk.injEq] at H
   obtain ⟨rfl, rfl⟩ := H
   go_enter Try.func53, Try.ntmps53
   go_wp2_with (first | ((with_reducible refine gate_callee (f := 77) rfl ?_); refine goesL_ (some 13) rfl rfl Try.func77 (by kernel_rfl) rfl #[.slice A0 l0.length c0, .int .i64 a1, .slice A2 l2.length c2] rfl aE ?_; (with_reducible refine (impl_isParallel.calls k _ _ l0 a1 _ _ l2 true _ ?side1 ?side2 ?side3 ?side4 A5.out).mono ?_); (case side1 => repeat (first | exact HR0.out | (with_reducible refine Kd.C_alloc ?_ _) | (with_reducible refine Kd.C_drewN ?_ _) | (with_reducible refine Kd.C_drew ?_))); (case side2 => exact HC0.out); (case side3 => repeat (first | exact HR2.out | (with_reducible refine Kd.C_alloc ?_ _) | (with_reducible refine Kd.C_drewN ?_ _) | (with_reducible refine Kd.C_drew ?_))); (case side4 => exact HC2.out); rintro e w10 ⟨rfl, hb⟩; refine ⟨_, rfl, ?_⟩; have n0_ := Aside0.mk (below_step bB hb); clear HB; have HB := n0_; clear n0_; (try clear hb)) | (go_at_call 83; (with_reducible refine (impl_isPlan.calls k _ _ l0 a1 _ _ l2 _ _ l3 true _ ?side1 ?side2 ?side3 ?side4 ?side5 ?side6 A7.out).mono ?_); (case side1 => repeat (first | exact (Kd.C_below HR0.out HB.out) | (with_reducible refine Kd.C_alloc ?_ _) | (with_reducible refine Kd.C_drewN ?_ _) | (with_reducible refine Kd.C_drew ?_))); (case side2 => exact HC0.out); (case side3 => repeat (first | exact (Kd.C_below HR2.out HB.out) | (with_reducible refine Kd.C_alloc ?_ _) | (with_reducible refine Kd.C_drewN ?_ _) | (with_reducible refine Kd.C_drew ?_))); (case side4 => exact HC2.out); (case side5 => repeat (first | exact (Kd.C_below HR3.out HB.out) | (with_reducible refine Kd.C_alloc ?_ _) | (with_reducible refine Kd.C_drewN ?_ _) | (with_reducible refine Kd.C_drew ?_))); (case side6 => exact HC3.out); rintro e w11 ⟨rfl, hb⟩; have n0_ := Aside0.mk (below_step bB hb); clear HB; have HB := n0_; clear n0_; (try clear hb)) | ((with_reducible refine gate_callee (f := 100) rfl ?_); refine goesL_ (some 25) rfl rfl Try.func100 (by kernel_rfl) rfl #[.slice A0 l0.length c0, .slice A3 l3.length c3] rfl aE ?_; (with_reducible refine (impl_planLength.calls k _ _ l0 _ _ l3 t301 _ ?side1 ?side2 ?side3 ?side4 A9.out).mono ?_); (case side1 => repeat (first | exact (Kd.C_below HR0.out HB.out) | (with_reducible refine Kd.C_alloc ?_ _) | (with_reducible refine Kd.C_drewN ?_ _) | (with_reducible refine Kd.C_drew ?_))); (case side2 => exact HC0.out); (case side3 => repeat (first | exact (Kd.C_below HR3.out HB.out) | (with_reducible refine Kd.C_alloc ?_ _) | (with_reducible refine Kd.C_drewN ?_ _) | (with_reducible refine Kd.C_drew ?_))); (case side4 => exact HC3.out); rintro e w12 ⟨rfl, hb⟩; refine ⟨_, rfl, ?_⟩; have n0_ := Aside0.mk (below_step bB hb); clear HB; have HB := n0_; clear n0_; (try clear hb)))
   go_ret2
   exact ⟨rE, bB⟩
  ·replace c8 := Bool.eq_false_iff.mpr c8
   subst c8
   have H1 : (some (0, false)) = some (r1, r2) := by rw [if_neg (show ¬ (false = true) by decide)] at H; exact H
   clear H
   have H := H1
   clear H1
   simp only [Option.some.injEq, Prod.mk.injEq] at H
   obtain ⟨rfl, rfl⟩ := H
   go_enter Try.func53, Try.ntmps53
   go_wp2_with (first | ((with_reducible refine gate_callee (f := 77) rfl ?_); refine goesL_ (some 13) rfl rfl Try.func77 (by kernel_rfl) rfl #[.slice A0 l0.length c0, .int .i64 a1, .slice A2 l2.length c2] rfl aE ?_; (with_reducible refine (impl_isParallel.calls k _ _ l0 a1 _ _ l2 true _ ?side1 ?side2 ?side3 ?side4 A5.out).mono ?_); (case side1 => repeat (first | exact HR0.out | (with_reducible refine Kd.C_alloc ?_ _) | (with_reducible refine Kd.C_drewN ?_ _) | (with_reducible refine Kd.C_drew ?_))); (case side2 => exact HC0.out); (case side3 => repeat (first | exact HR2.out | (with_reducible refine Kd.C_alloc ?_ _) | (with_reducible refine Kd.C_drewN ?_ _) | (with_reducible refine Kd.C_drew ?_))); (case side4 => exact HC2.out); rintro e w13 ⟨rfl, hb⟩; refine ⟨_, rfl, ?_⟩; have n0_ := Aside0.mk (below_step bB hb); clear HB; have HB := n0_; clear n0_; (try clear hb)) | (go_at_call 83; (with_reducible refine (impl_isPlan.calls k _ _ l0 a1 _ _ l2 _ _ l3 false _ ?side1 ?side2 ?side3 ?side4 ?side5 ?side6 A7.out).mono ?_); (case side1 => repeat (first | exact (Kd.C_below HR0.out HB.out) | (with_reducible refine Kd.C_alloc ?_ _) | (with_reducible refine Kd.C_drewN ?_ _) | (with_reducible refine Kd.C_drew ?_))); (case side2 => exact HC0.out); (case side3 => repeat (first | exact (Kd.C_below HR2.out HB.out) | (with_reducible refine Kd.C_alloc ?_ _) | (with_reducible refine Kd.C_drewN ?_ _) | (with_reducible refine Kd.C_drew ?_))); (case side4 => exact HC2.out); (case side5 => repeat (first | exact (Kd.C_below HR3.out HB.out) | (with_reducible refine Kd.C_alloc ?_ _) | (with_reducible refine Kd.C_drewN ?_ _) | (with_reducible refine Kd.C_drew ?_))); (case side6 => exact HC3.out); rintro e w14 ⟨rfl, hb⟩; have n0_ := Aside0.mk (below_step bB hb); clear HB; have HB := n0_; clear n0_; (try clear hb)))
   go_ret2
   exact ⟨rE, bB⟩
 ·replace c6 := Bool.eq_false_iff.mpr c6
  subst c6
  have H1 : (some (0, false)) = some (r1, r2) := by rw [if_neg (show ¬ (false = true) by decide)] at H; exact H
  clear H
  have H := H1
  clear H1
  simp only [Option.some.injEq, Prod.mk.injEq] at H
  obtain ⟨rfl, rfl⟩ := H
  go_enter Try.func53, Try.ntmps53
  go_wp2_with (first | ((with_reducible refine gate_callee (f := 77) rfl ?_); refine goesL_ (some 13) rfl rfl Try.func77 (by kernel_rfl) rfl #[.slice A0 l0.length c0, .int .i64 a1, .slice A2 l2.length c2] rfl aE ?_; (with_reducible refine (impl_isParallel.calls k _ _ l0 a1 _ _ l2 false _ ?side1 ?side2 ?side3 ?side4 A5.out).mono ?_); (case side1 => repeat (first | exact HR0.out | (with_reducible refine Kd.C_alloc ?_ _) | (with_reducible refine Kd.C_drewN ?_ _) | (with_reducible refine Kd.C_drew ?_))); (case side2 => exact HC0.out); (case side3 => repeat (first | exact HR2.out | (with_reducible refine Kd.C_alloc ?_ _) | (with_reducible refine Kd.C_drewN ?_ _) | (with_reducible refine Kd.C_drew ?_))); (case side4 => exact HC2.out); rintro e w15 ⟨rfl, hb⟩; refine ⟨_, rfl, ?_⟩; have n0_ := Aside0.mk (below_step bB hb); clear HB; have HB := n0_; clear n0_; (try clear hb)))
  go_ret2
  exact ⟨rE, bB⟩

/-! ### laws_FnExactPlanLength: function 12 -/
def laws_FnExactPlanLength.j0 : Nat → List (S83) → List (S71) → List (S93) → List (S79) → List (S71) → List (S91) → Bool → Option (Bool)
 | 0, _, _, _, _, _, _, _ => none
 | k + 1, x0, x2, x3, x12, x13, x14, x64 => if x64 = true then (some false) else ((laws_toJobS.f k x0).bind fun t327 => ((laws_eqJobS.f k x12 t327).bind fun t330 => (if t330 = true then ((laws_toIntA2S.f k x2).bind fun t331 => ((laws_eqIntA2S.f k x13 t331).bind fun t334 => (if t334 = true then ((laws_toTaskS.f k x3).bind fun t335 => ((laws_eqTaskS.f k x14 t335).bind fun t338 => (if t338 = true then (some true) else (some false)))) else (some false)))) else (some false))))
def laws_FnExactPlanLength.f (k : Nat) (l0 : List (S83)) (a1 : Int) (l2 : List (S71)) (l3 : List (S93)) : Option (Bool) := (laws_szJobS.f l0 1048576).bind fun t302 => (if t302 < 0 then (some true) else ((laws_szIntA2S.f l2 t302).bind fun t303 => (if t303 < 0 then (some true) else ((laws_szTaskS.f l3 t303).bind fun t304 => (if t304 < 0 then (some true) else ((laws_toJobS.f k l0).bind fun t305 => ((laws_toIntA2S.f k l2).bind fun t308 => ((laws_toTaskS.f k l3).bind fun t311 => ((spec_PlanLength.f k t305 a1 t308 t311).bind fun bt314 => ((laws_toJobS.f k l0).bind fun t316 => ((laws_toIntA2S.f k l2).bind fun t319 => ((laws_toTaskS.f k l3).bind fun t322 => ((impl_PlanLength.f k t316 a1 t319 t322).bind fun bt325 => (if bt325.1 = bt314.1 then (laws_FnExactPlanLength.j0 k l0 l2 l3 t316 t319 t322 (bt325.2 != bt314.2)) else (laws_FnExactPlanLength.j0 k l0 l2 l3 t316 t319 t322 true)))))))))))))))
theorem laws_FnExactPlanLength.mono_l : ∀ k, (∀ y0 y1 y2 y3 y4 y5 y6, LeO (laws_FnExactPlanLength.j0 k y0 y1 y2 y3 y4 y5 y6) (laws_FnExactPlanLength.j0 (k + 1) y0 y1 y2 y3 y4 y5 y6))
 | 0 => fun _ _ _ _ _ _ _ r h => by simp [laws_FnExactPlanLength.j0] at h
 | k + 1 => by
  have ih0 := laws_FnExactPlanLength.mono_l k
  ·intro y0 y1 y2 y3 y4 y5 y6
   unfold laws_FnExactPlanLength.j0
   repeat' first
   | (with_reducible exact ih0 _ _ _ _ _ _ _)
   | (with_reducible exact impl_PlanLength.mono _ _ _ _ _)
   | (with_reducible exact laws_eqIntA2S.mono _ _ _)
   | (with_reducible exact laws_eqJobS.mono _ _ _)
   | (with_reducible exact laws_eqTaskS.mono _ _ _)
   | (with_reducible exact laws_toIntA2S.mono _ _)
   | (with_reducible exact laws_toJobS.mono _ _)
   | (with_reducible exact laws_toTaskS.mono _ _)
   | (with_reducible exact spec_PlanLength.mono _ _ _ _ _)
   | (with_reducible exact LeO.refl _)
   | (with_reducible exact LeO.none _)
   | (with_reducible refine LeO.ite ?_ ?_)
   | (with_reducible refine LeO.bind ?_ (fun _ => ?_))
   | exact ih0 _ _ _ _ _ _ _
   | exact impl_PlanLength.mono _ _ _ _ _
   | exact laws_eqIntA2S.mono _ _ _
   | exact laws_eqJobS.mono _ _ _
   | exact laws_eqTaskS.mono _ _ _
   | exact laws_toIntA2S.mono _ _
   | exact laws_toJobS.mono _ _
   | exact laws_toTaskS.mono _ _
   | exact spec_PlanLength.mono _ _ _ _ _
   | exact LeO.none _
   | refine LeO.ite ?_ ?_
   | refine LeO.bind ?_ (fun _ => ?_)
theorem laws_FnExactPlanLength.mono : ∀ a0 a1 a2 a3 k, LeO (laws_FnExactPlanLength.f k a0 a1 a2 a3) (laws_FnExactPlanLength.f (k + 1) a0 a1 a2 a3) := by
 intro a0 a1 a2 a3 k
 have ih0 := laws_FnExactPlanLength.mono_l k
 unfold laws_FnExactPlanLength.f
 repeat' first
   | (with_reducible exact ih0 _ _ _ _ _ _ _)
   | (with_reducible exact impl_PlanLength.mono _ _ _ _ _)
   | (with_reducible exact laws_eqIntA2S.mono _ _ _)
   | (with_reducible exact laws_eqJobS.mono _ _ _)
   | (with_reducible exact laws_eqTaskS.mono _ _ _)
   | (with_reducible exact laws_toIntA2S.mono _ _)
   | (with_reducible exact laws_toJobS.mono _ _)
   | (with_reducible exact laws_toTaskS.mono _ _)
   | (with_reducible exact spec_PlanLength.mono _ _ _ _ _)
   | (with_reducible exact LeO.refl _)
   | (with_reducible exact LeO.none _)
   | (with_reducible refine LeO.ite ?_ ?_)
   | (with_reducible refine LeO.bind ?_ (fun _ => ?_))
   | exact ih0 _ _ _ _ _ _ _
   | exact impl_PlanLength.mono _ _ _ _ _
   | exact laws_eqIntA2S.mono _ _ _
   | exact laws_eqJobS.mono _ _ _
   | exact laws_eqTaskS.mono _ _ _
   | exact laws_toIntA2S.mono _ _
   | exact laws_toJobS.mono _ _
   | exact laws_toTaskS.mono _ _
   | exact spec_PlanLength.mono _ _ _ _ _
   | exact LeO.none _
   | refine LeO.ite ?_ ?_
   | refine LeO.bind ?_ (fun _ => ?_)
set_option maxHeartbeats 8000000 in
set_option maxRecDepth 100000 in
theorem laws_FnExactPlanLength.calls (k : Nat) (A0 : Option Addr) (c0 : Nat) (l0 : List (S83)) (a1 : Int) (A2 : Option Addr) (c2 : Nat) (l2 : List (S71)) (A3 : Option Addr) (c3 : Nat) (l3 : List (S93)) (r : Bool) (w : World) (hr0 : Kd.C k83 w A0 l0.length l0) (hc0 : l0.length ≤ c0) (hr2 : Kd.C k71 w A2 l2.length l2) (hc2 : l2.length ≤ c2) (hr3 : Kd.C k93 w A3 l3.length l3) (hc3 : l3.length ≤ c3) (h : laws_FnExactPlanLength.f k l0 a1 l2 l3 = some r) :
  Calls Try.prog 12 #[.slice A0 l0.length c0, .int .i64 a1, .slice A2 l2.length c2, .slice A3 l3.length c3] w fun e w' => e = .returned (.bool r) ∧ Below w.heap.size w w' := by
 have HR0 := Aside0.mk hr0
 have HC0 := Aside0.mk hc0
 clear hr0 hc0
 have HR2 := Aside0.mk hr2
 have HC2 := Aside0.mk hc2
 clear hr2 hc2
 have HR3 := Aside0.mk hr3
 have HC3 := Aside0.mk hc3
 clear hr3 hc3
 have HB := Aside0.mk (Below.refl w.heap.size w)
 have H : ((laws_szJobS.f l0 1048576).bind fun t302 => (if t302 < 0 then (some true) else ((laws_szIntA2S.f l2 t302).bind fun t303 => (if t303 < 0 then (some true) else ((laws_szTaskS.f l3 t303).bind fun t304 => (if t304 < 0 then (some true) else ((laws_toJobS.f k l0).bind fun t305 => ((laws_toIntA2S.f k l2).bind fun t308 => ((laws_toTaskS.f k l3).bind fun t311 => ((spec_PlanLength.f k t305 a1 t308 t311).bind fun bt314 => ((laws_toJobS.f k l0).bind fun t316 => ((laws_toIntA2S.f k l2).bind fun t319 => ((laws_toTaskS.f k l3).bind fun t322 => ((impl_PlanLength.f k t316 a1 t319 t322).bind fun bt325 => (if bt325.1 = bt314.1 then (laws_FnExactPlanLength.j0 k l0 l2 l3 t316 t319 t322 (bt325.2 != bt314.2)) else (laws_FnExactPlanLength.j0 k l0 l2 l3 t316 t319 t322 true)))))))))))))))) = some r := h
 clear h
 replace H := Option.bind_eq_some_iff.mp H
 obtain ⟨t302, A50, H⟩ := H
 replace H : (if t302 < 0 then (some true) else ((laws_szIntA2S.f l2 t302).bind fun t303 => (if t303 < 0 then (some true) else ((laws_szTaskS.f l3 t303).bind fun t304 => (if t304 < 0 then (some true) else ((laws_toJobS.f k l0).bind fun t305 => ((laws_toIntA2S.f k l2).bind fun t308 => ((laws_toTaskS.f k l3).bind fun t311 => ((spec_PlanLength.f k t305 a1 t308 t311).bind fun bt314 => ((laws_toJobS.f k l0).bind fun t316 => ((laws_toIntA2S.f k l2).bind fun t319 => ((laws_toTaskS.f k l3).bind fun t322 => ((impl_PlanLength.f k t316 a1 t319 t322).bind fun bt325 => (if bt325.1 = bt314.1 then (laws_FnExactPlanLength.j0 k l0 l2 l3 t316 t319 t322 (bt325.2 != bt314.2)) else (laws_FnExactPlanLength.j0 k l0 l2 l3 t316 t319 t322 true))))))))))))))) = some r := H
 have A5 := Aside0.mk A50
 clear A50
 by_cases c6 : t302 < 0
 ·rw [if_pos c6] at H
  have c6b0 : decide (t302 < 0) = true := decide_eq_true c6
  clear c6
  obtain rfl := Option.some.inj H
  go_enter Try.func12, Try.ntmps12
  go_wp2_with (first | ((with_reducible refine gate_callee (f := 23) rfl ?_); refine goesL_ (some 19) rfl rfl Try.func23 (by kernel_rfl) rfl #[.slice A0 l0.length c0, .int .i64 1048576] rfl aE ?_; (with_reducible refine (laws_szJobS.calls _ _ l0 1048576 t302 _ ?side1 ?side2 A5.out).mono ?_); (case side1 => repeat (first | exact HR0.out | (with_reducible refine Kd.C_alloc ?_ _) | (with_reducible refine Kd.C_drewN ?_ _) | (with_reducible refine Kd.C_drew ?_))); (case side2 => exact HC0.out); rintro e w' ⟨rfl, ⟨nd, rfl⟩⟩; refine ⟨_, rfl, ?_⟩))
  go_ret
  exact ⟨rE, bB⟩
 ·rw [if_neg c6] at H
  have c6b0 : decide (t302 < 0) = false := decide_eq_false c6
  clear c6
  replace H := Option.bind_eq_some_iff.mp H
  obtain ⟨t303, A70, H⟩ := H
  replace H : (if t303 < 0 then (some true) else ((laws_szTaskS.f l3 t303).bind fun t304 => (if t304 < 0 then (some true) else ((laws_toJobS.f k l0).bind fun t305 => ((laws_toIntA2S.f k l2).bind fun t308 => ((laws_toTaskS.f k l3).bind fun t311 => ((spec_PlanLength.f k t305 a1 t308 t311).bind fun bt314 => ((laws_toJobS.f k l0).bind fun t316 => ((laws_toIntA2S.f k l2).bind fun t319 => ((laws_toTaskS.f k l3).bind fun t322 => ((impl_PlanLength.f k t316 a1 t319 t322).bind fun bt325 => (if bt325.1 = bt314.1 then (laws_FnExactPlanLength.j0 k l0 l2 l3 t316 t319 t322 (bt325.2 != bt314.2)) else (laws_FnExactPlanLength.j0 k l0 l2 l3 t316 t319 t322 true))))))))))))) = some r := H
  have A7 := Aside0.mk A70
  clear A70
  by_cases c8 : t303 < 0
  ·rw [if_pos c8] at H
   have c8b0 : decide (t303 < 0) = true := decide_eq_true c8
   clear c8
   obtain rfl := Option.some.inj H
   go_enter Try.func12, Try.ntmps12
   go_wp2_with (first | ((with_reducible refine gate_callee (f := 23) rfl ?_); refine goesL_ (some 19) rfl rfl Try.func23 (by kernel_rfl) rfl #[.slice A0 l0.length c0, .int .i64 1048576] rfl aE ?_; (with_reducible refine (laws_szJobS.calls _ _ l0 1048576 t302 _ ?side1 ?side2 A5.out).mono ?_); (case side1 => repeat (first | exact HR0.out | (with_reducible refine Kd.C_alloc ?_ _) | (with_reducible refine Kd.C_drewN ?_ _) | (with_reducible refine Kd.C_drew ?_))); (case side2 => exact HC0.out); rintro e w' ⟨rfl, ⟨nd, rfl⟩⟩; refine ⟨_, rfl, ?_⟩) | ((with_reducible refine gate_callee (f := 14) rfl ?_); refine goesL_ (some 24) rfl rfl Try.func14 (by kernel_rfl) rfl #[.slice A2 l2.length c2, .int .i64 t302] rfl aE ?_; (with_reducible refine (laws_szIntA2S.calls _ _ l2 t302 t303 _ ?side1 ?side2 A7.out).mono ?_); (case side1 => repeat (first | exact HR2.out | (with_reducible refine Kd.C_alloc ?_ _) | (with_reducible refine Kd.C_drewN ?_ _) | (with_reducible refine Kd.C_drew ?_))); (case side2 => exact HC2.out); rintro e w' ⟨rfl, ⟨nd, rfl⟩⟩; refine ⟨_, rfl, ?_⟩))
   go_ret
   exact ⟨rE, bB⟩
  ·rw [if_neg c8] at H
   have c8b0 : decide (t303 < 0) = false := decide_eq_false c8
   clear c8
   replace H := Option.bind_eq_some_iff.mp H
   obtain ⟨t304, A90, H⟩ := H
   replace H : (if t304 < 0 then (some true) else ((laws_toJobS.f k l0).bind fun t305 => ((laws_toIntA2S.f k l2).bind fun t308 => ((laws_toTaskS.f k l3).bind fun t311 => ((spec_PlanLength.f k t305 a1 t308 t311).bind fun bt314 => ((laws_toJobS.f k l0).bind fun t316 => ((laws_toIntA2S.f k l2).bind fun t319 => ((laws_toTaskS.f k l3).bind fun t322 => ((impl_PlanLength.f k t316 a1 t319 t322).bind fun bt325 => (if bt325.1 = bt314.1 then (laws_FnExactPlanLength.j0 k l0 l2 l3 t316 t319 t322 (bt325.2 != bt314.2)) else (laws_FnExactPlanLength.j0 k l0 l2 l3 t316 t319 t322 true))))))))))) = some r := H
   have A9 := Aside0.mk A90
   clear A90
   by_cases c10 : t304 < 0
   ·rw [if_pos c10] at H
    have c10b0 : decide (t304 < 0) = true := decide_eq_true c10
    clear c10
    obtain rfl := Option.some.inj H
    go_enter Try.func12, Try.ntmps12
    go_wp2_with (first | ((with_reducible refine gate_callee (f := 23) rfl ?_); refine goesL_ (some 19) rfl rfl Try.func23 (by kernel_rfl) rfl #[.slice A0 l0.length c0, .int .i64 1048576] rfl aE ?_; (with_reducible refine (laws_szJobS.calls _ _ l0 1048576 t302 _ ?side1 ?side2 A5.out).mono ?_); (case side1 => repeat (first | exact HR0.out | (with_reducible refine Kd.C_alloc ?_ _) | (with_reducible refine Kd.C_drewN ?_ _) | (with_reducible refine Kd.C_drew ?_))); (case side2 => exact HC0.out); rintro e w' ⟨rfl, ⟨nd, rfl⟩⟩; refine ⟨_, rfl, ?_⟩) | ((with_reducible refine gate_callee (f := 14) rfl ?_); refine goesL_ (some 24) rfl rfl Try.func14 (by kernel_rfl) rfl #[.slice A2 l2.length c2, .int .i64 t302] rfl aE ?_; (with_reducible refine (laws_szIntA2S.calls _ _ l2 t302 t303 _ ?side1 ?side2 A7.out).mono ?_); (case side1 => repeat (first | exact HR2.out | (with_reducible refine Kd.C_alloc ?_ _) | (with_reducible refine Kd.C_drewN ?_ _) | (with_reducible refine Kd.C_drew ?_))); (case side2 => exact HC2.out); rintro e w' ⟨rfl, ⟨nd, rfl⟩⟩; refine ⟨_, rfl, ?_⟩) | ((with_reducible refine gate_callee (f := 38) rfl ?_); refine goesL_ (some 29) rfl rfl Try.func38 (by kernel_rfl) rfl #[.slice A3 l3.length c3, .int .i64 t303] rfl aE ?_; (with_reducible refine (laws_szTaskS.calls _ _ l3 t303 t304 _ ?side1 ?side2 A9.out).mono ?_); (case side1 => repeat (first | exact HR3.out | (with_reducible refine Kd.C_alloc ?_ _) | (with_reducible refine Kd.C_drewN ?_ _) | (with_reducible refine Kd.C_drew ?_))); (case side2 => exact HC3.out); rintro e w' ⟨rfl, ⟨nd, rfl⟩⟩; refine ⟨_, rfl, ?_⟩))
    go_ret
    exact ⟨rE, bB⟩
   ·rw [if_neg c10] at H
    have c10b0 : decide (t304 < 0) = false := decide_eq_false c10
    clear c10
    replace H := Option.bind_eq_some_iff.mp H
    obtain ⟨t305, A110, H⟩ := H
    replace H : ((laws_toIntA2S.f k l2).bind fun t308 => ((laws_toTaskS.f k l3).bind fun t311 => ((spec_PlanLength.f k t305 a1 t308 t311).bind fun bt314 => ((laws_toJobS.f k l0).bind fun t316 => ((laws_toIntA2S.f k l2).bind fun t319 => ((laws_toTaskS.f k l3).bind fun t322 => ((impl_PlanLength.f k t316 a1 t319 t322).bind fun bt325 => (if bt325.1 = bt314.1 then (laws_FnExactPlanLength.j0 k l0 l2 l3 t316 t319 t322 (bt325.2 != bt314.2)) else (laws_FnExactPlanLength.j0 k l0 l2 l3 t316 t319 t322 true))))))))) = some r := H
    have A11 := Aside0.mk A110
    clear A110
    replace H := Option.bind_eq_some_iff.mp H
    obtain ⟨t308, A120, H⟩ := H
    replace H : ((laws_toTaskS.f k l3).bind fun t311 => ((spec_PlanLength.f k t305 a1 t308 t311).bind fun bt314 => ((laws_toJobS.f k l0).bind fun t316 => ((laws_toIntA2S.f k l2).bind fun t319 => ((laws_toTaskS.f k l3).bind fun t322 => ((impl_PlanLength.f k t316 a1 t319 t322).bind fun bt325 => (if bt325.1 = bt314.1 then (laws_FnExactPlanLength.j0 k l0 l2 l3 t316 t319 t322 (bt325.2 != bt314.2)) else (laws_FnExactPlanLength.j0 k l0 l2 l3 t316 t319 t322 true)))))))) = some r := H
    have A12 := Aside0.mk A120
    clear A120
    replace H := Option.bind_eq_some_iff.mp H
    obtain ⟨t311, A130, H⟩ := H
    replace H : ((spec_PlanLength.f k t305 a1 t308 t311).bind fun bt314 => ((laws_toJobS.f k l0).bind fun t316 => ((laws_toIntA2S.f k l2).bind fun t319 => ((laws_toTaskS.f k l3).bind fun t322 => ((impl_PlanLength.f k t316 a1 t319 t322).bind fun bt325 => (if bt325.1 = bt314.1 then (laws_FnExactPlanLength.j0 k l0 l2 l3 t316 t319 t322 (bt325.2 != bt314.2)) else (laws_FnExactPlanLength.j0 k l0 l2 l3 t316 t319 t322 true))))))) = some r := H
    have A13 := Aside0.mk A130
    clear A130
    replace H := Option.bind_eq_some_iff.mp H
    obtain ⟨⟨t314, t315⟩, A140, H⟩ := H
    replace H : ((laws_toJobS.f k l0).bind fun t316 => ((laws_toIntA2S.f k l2).bind fun t319 => ((laws_toTaskS.f k l3).bind fun t322 => ((impl_PlanLength.f k t316 a1 t319 t322).bind fun bt325 => (if bt325.1 = t314 then (laws_FnExactPlanLength.j0 k l0 l2 l3 t316 t319 t322 (bt325.2 != t315)) else (laws_FnExactPlanLength.j0 k l0 l2 l3 t316 t319 t322 true)))))) = some r := H
    have A14 := Aside0.mk A140
    clear A140
    replace H := Option.bind_eq_some_iff.mp H
    obtain ⟨t316, A150, H⟩ := H
    replace H : ((laws_toIntA2S.f k l2).bind fun t319 => ((laws_toTaskS.f k l3).bind fun t322 => ((impl_PlanLength.f k t316 a1 t319 t322).bind fun bt325 => (if bt325.1 = t314 then (laws_FnExactPlanLength.j0 k l0 l2 l3 t316 t319 t322 (bt325.2 != t315)) else (laws_FnExactPlanLength.j0 k l0 l2 l3 t316 t319 t322 true))))) = some r := H
    have A15 := Aside0.mk A150
    clear A150
    replace H := Option.bind_eq_some_iff.mp H
    obtain ⟨t319, A160, H⟩ := H
    replace H : ((laws_toTaskS.f k l3).bind fun t322 => ((impl_PlanLength.f k t316 a1 t319 t322).bind fun bt325 => (if bt325.1 = t314 then (laws_FnExactPlanLength.j0 k l0 l2 l3 t316 t319 t322 (bt325.2 != t315)) else (laws_FnExactPlanLength.j0 k l0 l2 l3 t316 t319 t322 true)))) = some r := H
    have A16 := Aside0.mk A160
    clear A160
    replace H := Option.bind_eq_some_iff.mp H
    obtain ⟨t322, A170, H⟩ := H
    replace H : ((impl_PlanLength.f k t316 a1 t319 t322).bind fun bt325 => (if bt325.1 = t314 then (laws_FnExactPlanLength.j0 k l0 l2 l3 t316 t319 t322 (bt325.2 != t315)) else (laws_FnExactPlanLength.j0 k l0 l2 l3 t316 t319 t322 true))) = some r := H
    have A17 := Aside0.mk A170
    clear A170
    replace H := Option.bind_eq_some_iff.mp H
    obtain ⟨⟨t325, t326⟩, A180, H⟩ := H
    replace H : (if t325 = t314 then (laws_FnExactPlanLength.j0 k l0 l2 l3 t316 t319 t322 (t326 != t315)) else (laws_FnExactPlanLength.j0 k l0 l2 l3 t316 t319 t322 true)) = some r := H
    have A18 := Aside0.mk A180
    clear A180
    have HC19 := Aside0.mk H
    clear H
    go_enter Try.func12, Try.ntmps12
    go_upto_region 16 with (first | ((with_reducible refine gate_callee (f := 23) rfl ?_); refine goesL_ (some 19) rfl rfl Try.func23 (by kernel_rfl) rfl #[.slice A0 l0.length c0, .int .i64 1048576] rfl aE ?_; (with_reducible refine (laws_szJobS.calls _ _ l0 1048576 t302 _ ?side1 ?side2 A5.out).mono ?_); (case side1 => repeat (first | exact HR0.out | (with_reducible refine Kd.C_alloc ?_ _) | (with_reducible refine Kd.C_drewN ?_ _) | (with_reducible refine Kd.C_drew ?_))); (case side2 => exact HC0.out); rintro e w' ⟨rfl, ⟨nd, rfl⟩⟩; refine ⟨_, rfl, ?_⟩) | ((with_reducible refine gate_callee (f := 14) rfl ?_); refine goesL_ (some 24) rfl rfl Try.func14 (by kernel_rfl) rfl #[.slice A2 l2.length c2, .int .i64 t302] rfl aE ?_; (with_reducible refine (laws_szIntA2S.calls _ _ l2 t302 t303 _ ?side1 ?side2 A7.out).mono ?_); (case side1 => repeat (first | exact HR2.out | (with_reducible refine Kd.C_alloc ?_ _) | (with_reducible refine Kd.C_drewN ?_ _) | (with_reducible refine Kd.C_drew ?_))); (case side2 => exact HC2.out); rintro e w' ⟨rfl, ⟨nd, rfl⟩⟩; refine ⟨_, rfl, ?_⟩) | ((with_reducible refine gate_callee (f := 38) rfl ?_); refine goesL_ (some 29) rfl rfl Try.func38 (by kernel_rfl) rfl #[.slice A3 l3.length c3, .int .i64 t303] rfl aE ?_; (with_reducible refine (laws_szTaskS.calls _ _ l3 t303 t304 _ ?side1 ?side2 A9.out).mono ?_); (case side1 => repeat (first | exact HR3.out | (with_reducible refine Kd.C_alloc ?_ _) | (with_reducible refine Kd.C_drewN ?_ _) | (with_reducible refine Kd.C_drew ?_))); (case side2 => exact HC3.out); rintro e w' ⟨rfl, ⟨nd, rfl⟩⟩; refine ⟨_, rfl, ?_⟩) | ((with_reducible refine gate_callee (f := 25) rfl ?_); refine goesL_ (some 34) rfl rfl Try.func25 (by kernel_rfl) rfl #[.slice A0 l0.length c0] rfl aE ?_; (with_reducible refine (laws_toJobS.calls k _ _ l0 t305 _ ?side1 ?side2 A11.out).mono ?_); (case side1 => repeat (first | exact HR0.out | (with_reducible refine Kd.C_alloc ?_ _) | (with_reducible refine Kd.C_drewN ?_ _) | (with_reducible refine Kd.C_drew ?_))); (case side2 => exact HC0.out); rintro e w20 ⟨v306, rfl, ho0, hb⟩; refine ⟨_, rfl, ?_⟩; have n0_ := Aside0.mk (Kd.R_lower ho0 (below_size bB)); have n1_ := Aside0.mk (below_step bB hb); clear HB; have HO307 := n0_; have HB := n1_; clear n0_ n1_; (try clear hb); (try clear hk); (try clear ho0)) | ((with_reducible refine gate_callee (f := 16) rfl ?_); refine goesL_ (some 37) rfl rfl Try.func16 (by kernel_rfl) rfl #[.slice A2 l2.length c2] rfl aE ?_; (with_reducible refine (laws_toIntA2S.calls k _ _ l2 t308 _ ?side1 ?side2 A12.out).mono ?_); (case side1 => repeat (first | exact (Kd.C_below HR2.out HB.out) | (with_reducible refine Kd.C_alloc ?_ _) | (with_reducible refine Kd.C_drewN ?_ _) | (with_reducible refine Kd.C_drew ?_))); (case side2 => exact HC2.out); rintro e w21 ⟨v309, rfl, ho0, hb⟩; refine ⟨_, rfl, ?_⟩; have n0_ := Aside0.mk (Kd.R_below (by (with_reducible repeat (first | apply Kd.R_alloc | apply Kd.R_drewN | apply Kd.R_drew)); exact HO307.out) hb); have n1_ := Aside0.mk (Kd.R_lower ho0 (below_size bB)); have n2_ := Aside0.mk (below_step bB hb); clear HO307; clear HB; have HO307 := n0_; have HO310 := n1_; have HB := n2_; clear n0_ n1_ n2_; (try clear hb); (try clear hk); (try clear ho0)) | ((with_reducible refine gate_callee (f := 40) rfl ?_); refine goesL_ (some 39) rfl rfl Try.func40 (by kernel_rfl) rfl #[.slice A3 l3.length c3] rfl aE ?_; (with_reducible refine (laws_toTaskS.calls k _ _ l3 t311 _ ?side1 ?side2 A13.out).mono ?_); (case side1 => repeat (first | exact (Kd.C_below HR3.out HB.out) | (with_reducible refine Kd.C_alloc ?_ _) | (with_reducible refine Kd.C_drewN ?_ _) | (with_reducible refine Kd.C_drew ?_))); (case side2 => exact HC3.out); rintro e w22 ⟨v312, rfl, ho0, hb⟩; refine ⟨_, rfl, ?_⟩; have n0_ := Aside0.mk (Kd.R_below (by (with_reducible repeat (first | apply Kd.R_alloc | apply Kd.R_drewN | apply Kd.R_drew)); exact HO307.out) hb); have n1_ := Aside0.mk (Kd.R_below (by (with_reducible repeat (first | apply Kd.R_alloc | apply Kd.R_drewN | apply Kd.R_drew)); exact HO310.out) hb); have n2_ := Aside0.mk (Kd.R_lower ho0 (below_size bB)); have n3_ := Aside0.mk (below_step bB hb); clear HO307; clear HO310; clear HB; have HO307 := n0_; have HO310 := n1_; have HO313 := n2_; have HB := n3_; clear n0_ n1_ n2_ n3_; (try clear hb); (try clear hk); (try clear ho0); obtain ⟨Ao23, co23, eo23⟩ := Kd.R_slice HO307.out; subst eo23; obtain ⟨Ao24, co24, eo24⟩ := Kd.R_slice HO310.out; subst eo24; obtain ⟨Ao25, co25, eo25⟩ := Kd.R_slice HO313.out; subst eo25) | ((with_reducible refine gate_callee (f := 52) rfl ?_); refine goesL_ (some 40) rfl rfl Try.func52 (by kernel_rfl) rfl #[.slice Ao23 t305.length co23, .int .i64 a1, .slice Ao24 t308.length co24, .slice Ao25 t311.length co25] rfl aE ?_; (with_reducible refine (spec_PlanLength.calls k _ _ t305 a1 _ _ t308 _ _ t311 t314 t315 _ ?side1 ?side2 ?side3 ?side4 ?side5 ?side6 A14.out).mono ?_); (case side1 => repeat (first | exact (Kd.R_reads' HO307.out).2.2 | (with_reducible refine Kd.C_alloc ?_ _) | (with_reducible refine Kd.C_drewN ?_ _) | (with_reducible refine Kd.C_drew ?_))); (case side2 => exact (Kd.R_reads' HO307.out).2.1); (case side3 => repeat (first | exact (Kd.R_reads' HO310.out).2.2 | (with_reducible refine Kd.C_alloc ?_ _) | (with_reducible refine Kd.C_drewN ?_ _) | (with_reducible refine Kd.C_drew ?_))); (case side4 => exact (Kd.R_reads' HO310.out).2.1); (case side5 => repeat (first | exact (Kd.R_reads' HO313.out).2.2 | (with_reducible refine Kd.C_alloc ?_ _) | (with_reducible refine Kd.C_drewN ?_ _) | (with_reducible refine Kd.C_drew ?_))); (case side6 => exact (Kd.R_reads' HO313.out).2.1); rintro e w26 ⟨rfl, hb⟩; refine ⟨_, rfl, ?_⟩; have n0_ := Aside0.mk (Kd.R_below (by (with_reducible repeat (first | apply Kd.R_alloc | apply Kd.R_drewN | apply Kd.R_drew)); exact HO307.out) hb); have n1_ := Aside0.mk (Kd.R_below (by (with_reducible repeat (first | apply Kd.R_alloc | apply Kd.R_drewN | apply Kd.R_drew)); exact HO310.out) hb); have n2_ := Aside0.mk (Kd.R_below (by (with_reducible repeat (first | apply Kd.R_alloc | apply Kd.R_drewN | apply Kd.R_drew)); exact HO313.out) hb); have n3_ := Aside0.mk (below_step bB hb); clear HO307; clear HO310; clear HO313; clear HB; have HO307 := n0_; have HO310 := n1_; have HO313 := n2_; have HB := n3_; clear n0_ n1_ n2_ n3_; (try clear hb); (try clear hk)) | ((with_reducible refine gate_callee (f := 25) rfl ?_); refine goesL_ (some 44) rfl rfl Try.func25 (by kernel_rfl) rfl #[.slice A0 l0.length c0] rfl aE ?_; (with_reducible refine (laws_toJobS.calls k _ _ l0 t316 _ ?side1 ?side2 A15.out).mono ?_); (case side1 => repeat (first | exact (Kd.C_below HR0.out HB.out) | (with_reducible refine Kd.C_alloc ?_ _) | (with_reducible refine Kd.C_drewN ?_ _) | (with_reducible refine Kd.C_drew ?_))); (case side2 => exact HC0.out); rintro e w27 ⟨v317, rfl, ho0, hb⟩; refine ⟨_, rfl, ?_⟩; have n0_ := Aside0.mk (Kd.R_elder' (by (with_reducible repeat (first | apply Kd.R_alloc | apply Kd.R_drewN | apply Kd.R_drew)); exact HO307.out) (Kd.R_base ho0) hb); have n1_ := Aside0.mk (Kd.R_below (by (with_reducible repeat (first | apply Kd.R_alloc | apply Kd.R_drewN | apply Kd.R_drew)); exact HO310.out) hb); have n2_ := Aside0.mk (Kd.R_below (by (with_reducible repeat (first | apply Kd.R_alloc | apply Kd.R_drewN | apply Kd.R_drew)); exact HO313.out) hb); have n3_ := Aside0.mk (Kd.R_lower (Kd.R_new' ho0 (Kd.R_lt (by (with_reducible repeat (first | apply Kd.R_alloc | apply Kd.R_drewN | apply Kd.R_drew)); exact HO307.out))) (below_size bB)); have n4_ := Aside0.mk (below_step bB hb); clear HO307; clear HO310; clear HO313; clear HB; have HO307 := n0_; have HO310 := n1_; have HO313 := n2_; have HO318 := n3_; have HB := n4_; clear n0_ n1_ n2_ n3_ n4_; (try clear hb); (try clear hk); (try clear ho0)) | ((with_reducible refine gate_callee (f := 16) rfl ?_); refine goesL_ (some 46) rfl rfl Try.func16 (by kernel_rfl) rfl #[.slice A2 l2.length c2] rfl aE ?_; (with_reducible refine (laws_toIntA2S.calls k _ _ l2 t319 _ ?side1 ?side2 A16.out).mono ?_); (case side1 => repeat (first | exact (Kd.C_below HR2.out HB.out) | (with_reducible refine Kd.C_alloc ?_ _) | (with_reducible refine Kd.C_drewN ?_ _) | (with_reducible refine Kd.C_drew ?_))); (case side2 => exact HC2.out); rintro e w28 ⟨v320, rfl, ho0, hb⟩; refine ⟨_, rfl, ?_⟩; have n0_ := Aside0.mk (Kd.R_below (by (with_reducible repeat (first | apply Kd.R_alloc | apply Kd.R_drewN | apply Kd.R_drew)); exact HO307.out) hb); have n1_ := Aside0.mk (Kd.R_elder' (by (with_reducible repeat (first | apply Kd.R_alloc | apply Kd.R_drewN | apply Kd.R_drew)); exact HO310.out) (Kd.R_base ho0) hb); have n2_ := Aside0.mk (Kd.R_below (by (with_reducible repeat (first | apply Kd.R_alloc | apply Kd.R_drewN | apply Kd.R_drew)); exact HO313.out) hb); have n3_ := Aside0.mk (Kd.R_below (by (with_reducible repeat (first | apply Kd.R_alloc | apply Kd.R_drewN | apply Kd.R_drew)); exact HO318.out) hb); have n4_ := Aside0.mk (Kd.R_lower (Kd.R_new' ho0 (Kd.R_lt (by (with_reducible repeat (first | apply Kd.R_alloc | apply Kd.R_drewN | apply Kd.R_drew)); exact HO310.out))) (below_size bB)); have n5_ := Aside0.mk (below_step bB hb); clear HO307; clear HO310; clear HO313; clear HO318; clear HB; have HO307 := n0_; have HO310 := n1_; have HO313 := n2_; have HO318 := n3_; have HO321 := n4_; have HB := n5_; clear n0_ n1_ n2_ n3_ n4_ n5_; (try clear hb); (try clear hk); (try clear ho0)) | ((with_reducible refine gate_callee (f := 40) rfl ?_); refine goesL_ (some 48) rfl rfl Try.func40 (by kernel_rfl) rfl #[.slice A3 l3.length c3] rfl aE ?_; (with_reducible refine (laws_toTaskS.calls k _ _ l3 t322 _ ?side1 ?side2 A17.out).mono ?_); (case side1 => repeat (first | exact (Kd.C_below HR3.out HB.out) | (with_reducible refine Kd.C_alloc ?_ _) | (with_reducible refine Kd.C_drewN ?_ _) | (with_reducible refine Kd.C_drew ?_))); (case side2 => exact HC3.out); rintro e w29 ⟨v323, rfl, ho0, hb⟩; refine ⟨_, rfl, ?_⟩; have n0_ := Aside0.mk (Kd.R_below (by (with_reducible repeat (first | apply Kd.R_alloc | apply Kd.R_drewN | apply Kd.R_drew)); exact HO307.out) hb); have n1_ := Aside0.mk (Kd.R_below (by (with_reducible repeat (first | apply Kd.R_alloc | apply Kd.R_drewN | apply Kd.R_drew)); exact HO310.out) hb); have n2_ := Aside0.mk (Kd.R_elder' (by (with_reducible repeat (first | apply Kd.R_alloc | apply Kd.R_drewN | apply Kd.R_drew)); exact HO313.out) (Kd.R_base ho0) hb); have n3_ := Aside0.mk (Kd.R_below (by (with_reducible repeat (first | apply Kd.R_alloc | apply Kd.R_drewN | apply Kd.R_drew)); exact HO318.out) hb); have n4_ := Aside0.mk (Kd.R_below (by (with_reducible repeat (first | apply Kd.R_alloc | apply Kd.R_drewN | apply Kd.R_drew)); exact HO321.out) hb); have n5_ := Aside0.mk (Kd.R_lower (Kd.R_new' ho0 (Kd.R_lt (by (with_reducible repeat (first | apply Kd.R_alloc | apply Kd.R_drewN | apply Kd.R_drew)); exact HO313.out))) (below_size bB)); have n6_ := Aside0.mk (below_step bB hb); clear HO307; clear HO310; clear HO313; clear HO318; clear HO321; clear HB; have HO307 := n0_; have HO310 := n1_; have HO313 := n2_; have HO318 := n3_; have HO321 := n4_; have HO324 := n5_; have HB := n6_; clear n0_ n1_ n2_ n3_ n4_ n5_ n6_; (try clear hb); (try clear hk); (try clear ho0); obtain ⟨Ao30, co30, eo30⟩ := Kd.R_slice HO318.out; subst eo30; obtain ⟨Ao31, co31, eo31⟩ := Kd.R_slice HO321.out; subst eo31; obtain ⟨Ao32, co32, eo32⟩ := Kd.R_slice HO324.out; subst eo32) | ((with_reducible refine gate_callee (f := 53) rfl ?_); refine goesL_ (some 54) rfl rfl Try.func53 (by kernel_rfl) rfl #[.slice Ao30 t316.length co30, .int .i64 a1, .slice Ao31 t319.length co31, .slice Ao32 t322.length co32] rfl aE ?_; (with_reducible refine (impl_PlanLength.calls k _ _ t316 a1 _ _ t319 _ _ t322 t325 t326 _ ?side1 ?side2 ?side3 ?side4 ?side5 ?side6 A18.out).mono ?_); (case side1 => repeat (first | exact (Kd.R_reads' HO318.out).2.2 | (with_reducible refine Kd.C_alloc ?_ _) | (with_reducible refine Kd.C_drewN ?_ _) | (with_reducible refine Kd.C_drew ?_))); (case side2 => exact (Kd.R_reads' HO318.out).2.1); (case side3 => repeat (first | exact (Kd.R_reads' HO321.out).2.2 | (with_reducible refine Kd.C_alloc ?_ _) | (with_reducible refine Kd.C_drewN ?_ _) | (with_reducible refine Kd.C_drew ?_))); (case side4 => exact (Kd.R_reads' HO321.out).2.1); (case side5 => repeat (first | exact (Kd.R_reads' HO324.out).2.2 | (with_reducible refine Kd.C_alloc ?_ _) | (with_reducible refine Kd.C_drewN ?_ _) | (with_reducible refine Kd.C_drew ?_))); (case side6 => exact (Kd.R_reads' HO324.out).2.1); rintro e w33 ⟨rfl, hb⟩; refine ⟨_, rfl, ?_⟩; have n0_ := Aside0.mk (Kd.R_below (by (with_reducible repeat (first | apply Kd.R_alloc | apply Kd.R_drewN | apply Kd.R_drew)); exact HO307.out) hb); have n1_ := Aside0.mk (Kd.R_below (by (with_reducible repeat (first | apply Kd.R_alloc | apply Kd.R_drewN | apply Kd.R_drew)); exact HO310.out) hb); have n2_ := Aside0.mk (Kd.R_below (by (with_reducible repeat (first | apply Kd.R_alloc | apply Kd.R_drewN | apply Kd.R_drew)); exact HO313.out) hb); have n3_ := Aside0.mk (Kd.R_below (by (with_reducible repeat (first | apply Kd.R_alloc | apply Kd.R_drewN | apply Kd.R_drew)); exact HO318.out) hb); have n4_ := Aside0.mk (Kd.R_below (by (with_reducible repeat (first | apply Kd.R_alloc | apply Kd.R_drewN | apply Kd.R_drew)); exact HO321.out) hb); have n5_ := Aside0.mk (Kd.R_below (by (with_reducible repeat (first | apply Kd.R_alloc | apply Kd.R_drewN | apply Kd.R_drew)); exact HO324.out) hb); have n6_ := Aside0.mk (below_step bB hb); clear HO307; clear HO310; clear HO313; clear HO318; clear HO321; clear HO324; clear HB; have HO307 := n0_; have HO310 := n1_; have HO313 := n2_; have HO318 := n3_; have HO321 := n4_; have HO324 := n5_; have HB := n6_; clear n0_ n1_ n2_ n3_ n4_ n5_ n6_; (try clear hb); (try clear hk)))
    (try simp only [Act.put, sA, sZ, sS])
    go_cut [64] (fun v64 wc => ∃ (kq : Nat) (x64_18 : Bool), v64 = .bool x64_18 ∧ Aside0 (laws_FnExactPlanLength.j0 kq l0 l2 l3 t316 t319 t322 x64_18 = some r) ∧ Aside0 (kq ≤ k) ∧ Aside0 (Kd.R k79 79 wc w.heap.size (fun _ => True) (.slice Ao30 t316.length co30) t316) ∧ Aside0 (Kd.R k71 71 wc w.heap.size (fun _ => True) (.slice Ao31 t319.length co31) t319) ∧ Aside0 (Kd.R k91 91 wc w.heap.size (fun _ => True) (.slice Ao32 t322.length co32) t322) ∧ Aside0 (Below w.heap.size w wc))
    case first =>
     have H := HC19.out
     clear HC19
     by_cases c34 : t325 = t314
     ·rw [if_pos c34] at H
      have c34b0 : (t325 == t314) = true := beq_iff_eq.mpr c34
      have c34b1 : (t325 != t314) = false := bne_eq_false_iff_eq.mpr c34
      clear c34
      (first | rw [c34b0] | (simp only [i64_w, i32_w]; rw [c34b0]) | skip)
      have H' := Aside0.mk H
      clear H
      go_wp2
      go_meet
      case rel => exact ⟨_, ((t326 != t315)), sD, H', ⟨by first | omega | exact Nat.le_refl _⟩, ⟨by (with_reducible repeat (first | apply Kd.R_alloc | apply Kd.R_drewN | apply Kd.R_drew)); exact Kd.R_mono HO318.out (fun _ hk => trivial)⟩, ⟨by (with_reducible repeat (first | apply Kd.R_alloc | apply Kd.R_drewN | apply Kd.R_drew)); exact Kd.R_mono HO321.out (fun _ hk => trivial)⟩, ⟨by (with_reducible repeat (first | apply Kd.R_alloc | apply Kd.R_drewN | apply Kd.R_drew)); exact Kd.R_mono HO324.out (fun _ hk => trivial)⟩, ⟨by repeat (first | (with_reducible first | exact HB.out | apply below_alloc | apply pw_below_drewN | apply below_drew1) | exact HB.out)⟩⟩
     ·rw [if_neg c34] at H
      have c34b0 : (t325 == t314) = false := beq_eq_false_iff_ne.mpr c34
      have c34b1 : (t325 != t314) = true := bne_iff_ne.mpr c34
      (first | rw [c34b0] | (simp only [i64_w, i32_w]; rw [c34b0]) | skip)
      have H' := Aside0.mk H
      clear H
      go_wp2
      go_meet
      case rel => exact ⟨_, (true), sD, H', ⟨by first | omega | exact Nat.le_refl _⟩, ⟨by (with_reducible repeat (first | apply Kd.R_alloc | apply Kd.R_drewN | apply Kd.R_drew)); exact Kd.R_mono HO318.out (fun _ hk => trivial)⟩, ⟨by (with_reducible repeat (first | apply Kd.R_alloc | apply Kd.R_drewN | apply Kd.R_drew)); exact Kd.R_mono HO321.out (fun _ hk => trivial)⟩, ⟨by (with_reducible repeat (first | apply Kd.R_alloc | apply Kd.R_drewN | apply Kd.R_drew)); exact Kd.R_mono HO324.out (fun _ hk => trivial)⟩, ⟨by repeat (first | (with_reducible first | exact HB.out | apply below_alloc | apply pw_below_drewN | apply below_drew1) | exact HB.out)⟩⟩
    case rest =>
     clear HC19
     try clear c1
     try clear c2
     try clear p2
     try clear c3
     try clear c4
     try clear c5
     try clear c6
     try clear c6b0
     try clear c8
     try clear c8b0
     try clear c10
     try clear c10b0
     try clear c12
     try clear c14
     try clear c16
     try clear c23
     try clear c25
     try clear c34
     try clear c34b0
     try clear c34b1
     obtain ⟨kq, x64_18, rfl, HA, HJ18, HO_12, HO_13, HO_14, HB⟩ := hcut
     cases kq with
     | zero => exact absurd HA.out (by simp [laws_FnExactPlanLength.j0])
     | succ kj18 =>
      have H := HA.out
      clear HA
      simp only [laws_FnExactPlanLength.j0] at H
      by_cases c35 : x64_18 = true
      ·subst c35
       have H1 : (some false) = some r := by rw [if_pos rfl] at H; exact H
       clear H
       have H := H1
       clear H1
       obtain rfl := Option.some.inj H
       go_wp2
       go_ret
       exact ⟨rE, bB⟩
      ·replace c35 := Bool.eq_false_iff.mpr c35
       subst c35
       have H1 : ((laws_toJobS.f kj18 l0).bind fun t327 => ((laws_eqJobS.f kj18 t316 t327).bind fun t330 => (if t330 = true then ((laws_toIntA2S.f kj18 l2).bind fun t331 => ((laws_eqIntA2S.f kj18 t319 t331).bind fun t334 => (if t334 = true then ((laws_toTaskS.f kj18 l3).bind fun t335 => ((laws_eqTaskS.f kj18 t322 t335).bind fun t338 => (if t338 = true then (some true) else (some false)))) else (some false)))) else (some false)))) = some r := by rw [if_neg (show ¬ (false = true) by decide)] at H; exact H
       clear H
       have H := H1
       clear H1
       replace H := Option.bind_eq_some_iff.mp H
       obtain ⟨t327, A360, H⟩ := H
       replace H : ((laws_eqJobS.f kj18 t316 t327).bind fun t330 => (if t330 = true then ((laws_toIntA2S.f kj18 l2).bind fun t331 => ((laws_eqIntA2S.f kj18 t319 t331).bind fun t334 => (if t334 = true then ((laws_toTaskS.f kj18 l3).bind fun t335 => ((laws_eqTaskS.f kj18 t322 t335).bind fun t338 => (if t338 = true then (some true) else (some false)))) else (some false)))) else (some false))) = some r := H
       have A36 := Aside0.mk A360
       clear A360
       replace H := Option.bind_eq_some_iff.mp H
       obtain ⟨t330, A370, H⟩ := H
       replace H : (if t330 = true then ((laws_toIntA2S.f kj18 l2).bind fun t331 => ((laws_eqIntA2S.f kj18 t319 t331).bind fun t334 => (if t334 = true then ((laws_toTaskS.f kj18 l3).bind fun t335 => ((laws_eqTaskS.f kj18 t322 t335).bind fun t338 => (if t338 = true then (some true) else (some false)))) else (some false)))) else (some false)) = some r := H
       have A37 := Aside0.mk A370
       clear A370
       by_cases c38 : t330 = true
       ·subst c38
        have H1 : ((laws_toIntA2S.f kj18 l2).bind fun t331 => ((laws_eqIntA2S.f kj18 t319 t331).bind fun t334 => (if t334 = true then ((laws_toTaskS.f kj18 l3).bind fun t335 => ((laws_eqTaskS.f kj18 t322 t335).bind fun t338 => (if t338 = true then (some true) else (some false)))) else (some false)))) = some r := by rw [if_pos rfl] at H; exact H
        clear H
        have H := H1
        clear H1
        replace H := Option.bind_eq_some_iff.mp H
        obtain ⟨t331, A390, H⟩ := H
        replace H : ((laws_eqIntA2S.f kj18 t319 t331).bind fun t334 => (if t334 = true then ((laws_toTaskS.f kj18 l3).bind fun t335 => ((laws_eqTaskS.f kj18 t322 t335).bind fun t338 => (if t338 = true then (some true) else (some false)))) else (some false))) = some r := H
        have A39 := Aside0.mk A390
        clear A390
        replace H := Option.bind_eq_some_iff.mp H
        obtain ⟨t334, A400, H⟩ := H
        replace H : (if t334 = true then ((laws_toTaskS.f kj18 l3).bind fun t335 => ((laws_eqTaskS.f kj18 t322 t335).bind fun t338 => (if t338 = true then (some true) else (some false)))) else (some false)) = some r := H
        have A40 := Aside0.mk A400
        clear A400
        by_cases c41 : t334 = true
        ·subst c41
         have H1 : ((laws_toTaskS.f kj18 l3).bind fun t335 => ((laws_eqTaskS.f kj18 t322 t335).bind fun t338 => (if t338 = true then (some true) else (some false)))) = some r := by rw [if_pos rfl] at H; exact H
         clear H
         have H := H1
         clear H1
         replace H := Option.bind_eq_some_iff.mp H
         obtain ⟨t335, A420, H⟩ := H
         replace H : ((laws_eqTaskS.f kj18 t322 t335).bind fun t338 => (if t338 = true then (some true) else (some false))) = some r := H
         have A42 := Aside0.mk A420
         clear A420
         replace H := Option.bind_eq_some_iff.mp H
         obtain ⟨t338, A430, H⟩ := H
         replace H : (if t338 = true then (some true) else (some false)) = some r := H
         have A43 := Aside0.mk A430
         clear A430
         by_cases c44 : t338 = true
         ·subst c44
          have H1 : (some true) = some r := by rw [if_pos rfl] at H; exact H
          clear H
          have H := H1
          clear H1
          obtain rfl := Option.some.inj H
          go_wp2_with (first | ((with_reducible refine gate_callee (f := 25) rfl ?_); refine goesL_ (some 67) rfl rfl Try.func25 (by kernel_rfl) rfl #[.slice A0 l0.length c0] rfl aE ?_; (with_reducible refine (laws_toJobS.calls kj18 _ _ l0 t327 _ ?side1 ?side2 A36.out).mono ?_); (case side1 => repeat (first | exact (Kd.C_below HR0.out HB.out) | (with_reducible refine Kd.C_alloc ?_ _) | (with_reducible refine Kd.C_drewN ?_ _) | (with_reducible refine Kd.C_drew ?_))); (case side2 => exact HC0.out); rintro e w45 ⟨v328, rfl, ho0, hb⟩; refine ⟨_, rfl, ?_⟩; have n0_ := Aside0.mk (Kd.R_elder' (by (with_reducible repeat (first | apply Kd.R_alloc | apply Kd.R_drewN | apply Kd.R_drew)); exact HO_12.out) (Kd.R_base ho0) hb); have n1_ := Aside0.mk (Kd.R_below (by (with_reducible repeat (first | apply Kd.R_alloc | apply Kd.R_drewN | apply Kd.R_drew)); exact HO_13.out) hb); have n2_ := Aside0.mk (Kd.R_below (by (with_reducible repeat (first | apply Kd.R_alloc | apply Kd.R_drewN | apply Kd.R_drew)); exact HO_14.out) hb); have n3_ := Aside0.mk (Kd.R_lower (Kd.R_new' ho0 (Kd.R_lt (by (with_reducible repeat (first | apply Kd.R_alloc | apply Kd.R_drewN | apply Kd.R_drew)); exact HO_12.out))) (below_size bB)); have n4_ := Aside0.mk (below_step bB hb); clear HO_12; clear HO_13; clear HO_14; clear HB; have HO_12 := n0_; have HO_13 := n1_; have HO_14 := n2_; have HO329 := n3_; have HB := n4_; clear n0_ n1_ n2_ n3_ n4_; (try clear hb); (try clear hk); (try clear ho0); obtain ⟨Ao46, co46, eo46⟩ := Kd.R_slice HO329.out; subst eo46) | ((with_reducible refine gate_callee (f := 28) rfl ?_); refine goesL_ (some 68) rfl rfl Try.func28 (by kernel_rfl) rfl #[.slice Ao30 t316.length co30, .slice Ao46 t327.length co46] rfl aE ?_; (with_reducible refine (laws_eqJobS.calls kj18 _ _ t316 _ _ t327 true _ ?side1 ?side2 ?side3 ?side4 A37.out).mono ?_); (case side1 => repeat (first | exact (Kd.R_reads' HO_12.out).2.2 | (with_reducible refine Kd.C_alloc ?_ _) | (with_reducible refine Kd.C_drewN ?_ _) | (with_reducible refine Kd.C_drew ?_))); (case side2 => exact (Kd.R_reads' HO_12.out).2.1); (case side3 => repeat (first | exact (Kd.R_reads' HO329.out).2.2 | (with_reducible refine Kd.C_alloc ?_ _) | (with_reducible refine Kd.C_drewN ?_ _) | (with_reducible refine Kd.C_drew ?_))); (case side4 => exact (Kd.R_reads' HO329.out).2.1); rintro e w47 ⟨rfl, hb⟩; refine ⟨_, rfl, ?_⟩; have n0_ := Aside0.mk (Kd.R_below (by (with_reducible repeat (first | apply Kd.R_alloc | apply Kd.R_drewN | apply Kd.R_drew)); exact HO_12.out) hb); have n1_ := Aside0.mk (Kd.R_below (by (with_reducible repeat (first | apply Kd.R_alloc | apply Kd.R_drewN | apply Kd.R_drew)); exact HO_13.out) hb); have n2_ := Aside0.mk (Kd.R_below (by (with_reducible repeat (first | apply Kd.R_alloc | apply Kd.R_drewN | apply Kd.R_drew)); exact HO_14.out) hb); have n3_ := Aside0.mk (Kd.R_below (by (with_reducible repeat (first | apply Kd.R_alloc | apply Kd.R_drewN | apply Kd.R_drew)); exact HO329.out) hb); have n4_ := Aside0.mk (below_step bB hb); clear HO_12; clear HO_13; clear HO_14; clear HO329; clear HB; have HO_12 := n0_; have HO_13 := n1_; have HO_14 := n2_; have HO329 := n3_; have HB := n4_; clear n0_ n1_ n2_ n3_ n4_; (try clear hb); (try clear hk)) | ((with_reducible refine gate_callee (f := 16) rfl ?_); refine goesL_ (some 72) rfl rfl Try.func16 (by kernel_rfl) rfl #[.slice A2 l2.length c2] rfl aE ?_; (with_reducible refine (laws_toIntA2S.calls kj18 _ _ l2 t331 _ ?side1 ?side2 A39.out).mono ?_); (case side1 => repeat (first | exact (Kd.C_below HR2.out HB.out) | (with_reducible refine Kd.C_alloc ?_ _) | (with_reducible refine Kd.C_drewN ?_ _) | (with_reducible refine Kd.C_drew ?_))); (case side2 => exact HC2.out); rintro e w48 ⟨v332, rfl, ho0, hb⟩; refine ⟨_, rfl, ?_⟩; have n0_ := Aside0.mk (Kd.R_below (by (with_reducible repeat (first | apply Kd.R_alloc | apply Kd.R_drewN | apply Kd.R_drew)); exact HO_12.out) hb); have n1_ := Aside0.mk (Kd.R_elder' (by (with_reducible repeat (first | apply Kd.R_alloc | apply Kd.R_drewN | apply Kd.R_drew)); exact HO_13.out) (Kd.R_base ho0) hb); have n2_ := Aside0.mk (Kd.R_below (by (with_reducible repeat (first | apply Kd.R_alloc | apply Kd.R_drewN | apply Kd.R_drew)); exact HO_14.out) hb); have n3_ := Aside0.mk (Kd.R_below (by (with_reducible repeat (first | apply Kd.R_alloc | apply Kd.R_drewN | apply Kd.R_drew)); exact HO329.out) hb); have n4_ := Aside0.mk (Kd.R_lower (Kd.R_new' ho0 (Kd.R_lt (by (with_reducible repeat (first | apply Kd.R_alloc | apply Kd.R_drewN | apply Kd.R_drew)); exact HO_13.out))) (below_size bB)); have n5_ := Aside0.mk (below_step bB hb); clear HO_12; clear HO_13; clear HO_14; clear HO329; clear HB; have HO_12 := n0_; have HO_13 := n1_; have HO_14 := n2_; have HO329 := n3_; have HO333 := n4_; have HB := n5_; clear n0_ n1_ n2_ n3_ n4_ n5_; (try clear hb); (try clear hk); (try clear ho0); obtain ⟨Ao49, co49, eo49⟩ := Kd.R_slice HO333.out; subst eo49) | ((with_reducible refine gate_callee (f := 19) rfl ?_); refine goesL_ (some 73) rfl rfl Try.func19 (by kernel_rfl) rfl #[.slice Ao31 t319.length co31, .slice Ao49 t331.length co49] rfl aE ?_; (with_reducible refine (laws_eqIntA2S.calls kj18 _ _ t319 _ _ t331 true _ ?side1 ?side2 ?side3 ?side4 A40.out).mono ?_); (case side1 => repeat (first | exact (Kd.R_reads' HO_13.out).2.2 | (with_reducible refine Kd.C_alloc ?_ _) | (with_reducible refine Kd.C_drewN ?_ _) | (with_reducible refine Kd.C_drew ?_))); (case side2 => exact (Kd.R_reads' HO_13.out).2.1); (case side3 => repeat (first | exact (Kd.R_reads' HO333.out).2.2 | (with_reducible refine Kd.C_alloc ?_ _) | (with_reducible refine Kd.C_drewN ?_ _) | (with_reducible refine Kd.C_drew ?_))); (case side4 => exact (Kd.R_reads' HO333.out).2.1); rintro e w50 ⟨rfl, hb⟩; refine ⟨_, rfl, ?_⟩; have n0_ := Aside0.mk (Kd.R_below (by (with_reducible repeat (first | apply Kd.R_alloc | apply Kd.R_drewN | apply Kd.R_drew)); exact HO_12.out) hb); have n1_ := Aside0.mk (Kd.R_below (by (with_reducible repeat (first | apply Kd.R_alloc | apply Kd.R_drewN | apply Kd.R_drew)); exact HO_13.out) hb); have n2_ := Aside0.mk (Kd.R_below (by (with_reducible repeat (first | apply Kd.R_alloc | apply Kd.R_drewN | apply Kd.R_drew)); exact HO_14.out) hb); have n3_ := Aside0.mk (Kd.R_below (by (with_reducible repeat (first | apply Kd.R_alloc | apply Kd.R_drewN | apply Kd.R_drew)); exact HO329.out) hb); have n4_ := Aside0.mk (Kd.R_below (by (with_reducible repeat (first | apply Kd.R_alloc | apply Kd.R_drewN | apply Kd.R_drew)); exact HO333.out) hb); have n5_ := Aside0.mk (below_step bB hb); clear HO_12; clear HO_13; clear HO_14; clear HO329; clear HO333; clear HB; have HO_12 := n0_; have HO_13 := n1_; have HO_14 := n2_; have HO329 := n3_; have HO333 := n4_; have HB := n5_; clear n0_ n1_ n2_ n3_ n4_ n5_; (try clear hb); (try clear hk)) | ((with_reducible refine gate_callee (f := 40) rfl ?_); refine goesL_ (some 77) rfl rfl Try.func40 (by kernel_rfl) rfl #[.slice A3 l3.length c3] rfl aE ?_; (with_reducible refine (laws_toTaskS.calls kj18 _ _ l3 t335 _ ?side1 ?side2 A42.out).mono ?_); (case side1 => repeat (first | exact (Kd.C_below HR3.out HB.out) | (with_reducible refine Kd.C_alloc ?_ _) | (with_reducible refine Kd.C_drewN ?_ _) | (with_reducible refine Kd.C_drew ?_))); (case side2 => exact HC3.out); rintro e w51 ⟨v336, rfl, ho0, hb⟩; refine ⟨_, rfl, ?_⟩; have n0_ := Aside0.mk (Kd.R_below (by (with_reducible repeat (first | apply Kd.R_alloc | apply Kd.R_drewN | apply Kd.R_drew)); exact HO_12.out) hb); have n1_ := Aside0.mk (Kd.R_below (by (with_reducible repeat (first | apply Kd.R_alloc | apply Kd.R_drewN | apply Kd.R_drew)); exact HO_13.out) hb); have n2_ := Aside0.mk (Kd.R_elder' (by (with_reducible repeat (first | apply Kd.R_alloc | apply Kd.R_drewN | apply Kd.R_drew)); exact HO_14.out) (Kd.R_base ho0) hb); have n3_ := Aside0.mk (Kd.R_below (by (with_reducible repeat (first | apply Kd.R_alloc | apply Kd.R_drewN | apply Kd.R_drew)); exact HO329.out) hb); have n4_ := Aside0.mk (Kd.R_below (by (with_reducible repeat (first | apply Kd.R_alloc | apply Kd.R_drewN | apply Kd.R_drew)); exact HO333.out) hb); have n5_ := Aside0.mk (Kd.R_lower (Kd.R_new' ho0 (Kd.R_lt (by (with_reducible repeat (first | apply Kd.R_alloc | apply Kd.R_drewN | apply Kd.R_drew)); exact HO_14.out))) (below_size bB)); have n6_ := Aside0.mk (below_step bB hb); clear HO_12; clear HO_13; clear HO_14; clear HO329; clear HO333; clear HB; have HO_12 := n0_; have HO_13 := n1_; have HO_14 := n2_; have HO329 := n3_; have HO333 := n4_; have HO337 := n5_; have HB := n6_; clear n0_ n1_ n2_ n3_ n4_ n5_ n6_; (try clear hb); (try clear hk); (try clear ho0); obtain ⟨Ao52, co52, eo52⟩ := Kd.R_slice HO337.out; subst eo52) | ((with_reducible refine gate_callee (f := 42) rfl ?_); refine goesL_ (some 78) rfl rfl Try.func42 (by kernel_rfl) rfl #[.slice Ao32 t322.length co32, .slice Ao52 t335.length co52] rfl aE ?_; (with_reducible refine (laws_eqTaskS.calls kj18 _ _ t322 _ _ t335 true _ ?side1 ?side2 ?side3 ?side4 A43.out).mono ?_); (case side1 => repeat (first | exact (Kd.R_reads' HO_14.out).2.2 | (with_reducible refine Kd.C_alloc ?_ _) | (with_reducible refine Kd.C_drewN ?_ _) | (with_reducible refine Kd.C_drew ?_))); (case side2 => exact (Kd.R_reads' HO_14.out).2.1); (case side3 => repeat (first | exact (Kd.R_reads' HO337.out).2.2 | (with_reducible refine Kd.C_alloc ?_ _) | (with_reducible refine Kd.C_drewN ?_ _) | (with_reducible refine Kd.C_drew ?_))); (case side4 => exact (Kd.R_reads' HO337.out).2.1); rintro e w53 ⟨rfl, hb⟩; refine ⟨_, rfl, ?_⟩; have n0_ := Aside0.mk (Kd.R_below (by (with_reducible repeat (first | apply Kd.R_alloc | apply Kd.R_drewN | apply Kd.R_drew)); exact HO_12.out) hb); have n1_ := Aside0.mk (Kd.R_below (by (with_reducible repeat (first | apply Kd.R_alloc | apply Kd.R_drewN | apply Kd.R_drew)); exact HO_13.out) hb); have n2_ := Aside0.mk (Kd.R_below (by (with_reducible repeat (first | apply Kd.R_alloc | apply Kd.R_drewN | apply Kd.R_drew)); exact HO_14.out) hb); have n3_ := Aside0.mk (Kd.R_below (by (with_reducible repeat (first | apply Kd.R_alloc | apply Kd.R_drewN | apply Kd.R_drew)); exact HO329.out) hb); have n4_ := Aside0.mk (Kd.R_below (by (with_reducible repeat (first | apply Kd.R_alloc | apply Kd.R_drewN | apply Kd.R_drew)); exact HO333.out) hb); have n5_ := Aside0.mk (Kd.R_below (by (with_reducible repeat (first | apply Kd.R_alloc | apply Kd.R_drewN | apply Kd.R_drew)); exact HO337.out) hb); have n6_ := Aside0.mk (below_step bB hb); clear HO_12; clear HO_13; clear HO_14; clear HO329; clear HO333; clear HO337; clear HB; have HO_12 := n0_; have HO_13 := n1_; have HO_14 := n2_; have HO329 := n3_; have HO333 := n4_; have HO337 := n5_; have HB := n6_; clear n0_ n1_ n2_ n3_ n4_ n5_ n6_; (try clear hb); (try clear hk)))
          go_ret
          exact ⟨rE, bB⟩
         ·replace c44 := Bool.eq_false_iff.mpr c44
          subst c44
          have H1 : (some false) = some r := by rw [if_neg (show ¬ (false = true) by decide)] at H; exact H
          clear H
          have H := H1
          clear H1
          obtain rfl := Option.some.inj H
          go_wp2_with (first | ((with_reducible refine gate_callee (f := 25) rfl ?_); refine goesL_ (some 67) rfl rfl Try.func25 (by kernel_rfl) rfl #[.slice A0 l0.length c0] rfl aE ?_; (with_reducible refine (laws_toJobS.calls kj18 _ _ l0 t327 _ ?side1 ?side2 A36.out).mono ?_); (case side1 => repeat (first | exact (Kd.C_below HR0.out HB.out) | (with_reducible refine Kd.C_alloc ?_ _) | (with_reducible refine Kd.C_drewN ?_ _) | (with_reducible refine Kd.C_drew ?_))); (case side2 => exact HC0.out); rintro e w54 ⟨v328, rfl, ho0, hb⟩; refine ⟨_, rfl, ?_⟩; have n0_ := Aside0.mk (Kd.R_elder' (by (with_reducible repeat (first | apply Kd.R_alloc | apply Kd.R_drewN | apply Kd.R_drew)); exact HO_12.out) (Kd.R_base ho0) hb); have n1_ := Aside0.mk (Kd.R_below (by (with_reducible repeat (first | apply Kd.R_alloc | apply Kd.R_drewN | apply Kd.R_drew)); exact HO_13.out) hb); have n2_ := Aside0.mk (Kd.R_below (by (with_reducible repeat (first | apply Kd.R_alloc | apply Kd.R_drewN | apply Kd.R_drew)); exact HO_14.out) hb); have n3_ := Aside0.mk (Kd.R_lower (Kd.R_new' ho0 (Kd.R_lt (by (with_reducible repeat (first | apply Kd.R_alloc | apply Kd.R_drewN | apply Kd.R_drew)); exact HO_12.out))) (below_size bB)); have n4_ := Aside0.mk (below_step bB hb); clear HO_12; clear HO_13; clear HO_14; clear HB; have HO_12 := n0_; have HO_13 := n1_; have HO_14 := n2_; have HO329 := n3_; have HB := n4_; clear n0_ n1_ n2_ n3_ n4_; (try clear hb); (try clear hk); (try clear ho0); obtain ⟨Ao55, co55, eo55⟩ := Kd.R_slice HO329.out; subst eo55) | ((with_reducible refine gate_callee (f := 28) rfl ?_); refine goesL_ (some 68) rfl rfl Try.func28 (by kernel_rfl) rfl #[.slice Ao30 t316.length co30, .slice Ao55 t327.length co55] rfl aE ?_; (with_reducible refine (laws_eqJobS.calls kj18 _ _ t316 _ _ t327 true _ ?side1 ?side2 ?side3 ?side4 A37.out).mono ?_); (case side1 => repeat (first | exact (Kd.R_reads' HO_12.out).2.2 | (with_reducible refine Kd.C_alloc ?_ _) | (with_reducible refine Kd.C_drewN ?_ _) | (with_reducible refine Kd.C_drew ?_))); (case side2 => exact (Kd.R_reads' HO_12.out).2.1); (case side3 => repeat (first | exact (Kd.R_reads' HO329.out).2.2 | (with_reducible refine Kd.C_alloc ?_ _) | (with_reducible refine Kd.C_drewN ?_ _) | (with_reducible refine Kd.C_drew ?_))); (case side4 => exact (Kd.R_reads' HO329.out).2.1); rintro e w56 ⟨rfl, hb⟩; refine ⟨_, rfl, ?_⟩; have n0_ := Aside0.mk (Kd.R_below (by (with_reducible repeat (first | apply Kd.R_alloc | apply Kd.R_drewN | apply Kd.R_drew)); exact HO_12.out) hb); have n1_ := Aside0.mk (Kd.R_below (by (with_reducible repeat (first | apply Kd.R_alloc | apply Kd.R_drewN | apply Kd.R_drew)); exact HO_13.out) hb); have n2_ := Aside0.mk (Kd.R_below (by (with_reducible repeat (first | apply Kd.R_alloc | apply Kd.R_drewN | apply Kd.R_drew)); exact HO_14.out) hb); have n3_ := Aside0.mk (Kd.R_below (by (with_reducible repeat (first | apply Kd.R_alloc | apply Kd.R_drewN | apply Kd.R_drew)); exact HO329.out) hb); have n4_ := Aside0.mk (below_step bB hb); clear HO_12; clear HO_13; clear HO_14; clear HO329; clear HB; have HO_12 := n0_; have HO_13 := n1_; have HO_14 := n2_; have HO329 := n3_; have HB := n4_; clear n0_ n1_ n2_ n3_ n4_; (try clear hb); (try clear hk)) | ((with_reducible refine gate_callee (f := 16) rfl ?_); refine goesL_ (some 72) rfl rfl Try.func16 (by kernel_rfl) rfl #[.slice A2 l2.length c2] rfl aE ?_; (with_reducible refine (laws_toIntA2S.calls kj18 _ _ l2 t331 _ ?side1 ?side2 A39.out).mono ?_); (case side1 => repeat (first | exact (Kd.C_below HR2.out HB.out) | (with_reducible refine Kd.C_alloc ?_ _) | (with_reducible refine Kd.C_drewN ?_ _) | (with_reducible refine Kd.C_drew ?_))); (case side2 => exact HC2.out); rintro e w57 ⟨v332, rfl, ho0, hb⟩; refine ⟨_, rfl, ?_⟩; have n0_ := Aside0.mk (Kd.R_below (by (with_reducible repeat (first | apply Kd.R_alloc | apply Kd.R_drewN | apply Kd.R_drew)); exact HO_12.out) hb); have n1_ := Aside0.mk (Kd.R_elder' (by (with_reducible repeat (first | apply Kd.R_alloc | apply Kd.R_drewN | apply Kd.R_drew)); exact HO_13.out) (Kd.R_base ho0) hb); have n2_ := Aside0.mk (Kd.R_below (by (with_reducible repeat (first | apply Kd.R_alloc | apply Kd.R_drewN | apply Kd.R_drew)); exact HO_14.out) hb); have n3_ := Aside0.mk (Kd.R_below (by (with_reducible repeat (first | apply Kd.R_alloc | apply Kd.R_drewN | apply Kd.R_drew)); exact HO329.out) hb); have n4_ := Aside0.mk (Kd.R_lower (Kd.R_new' ho0 (Kd.R_lt (by (with_reducible repeat (first | apply Kd.R_alloc | apply Kd.R_drewN | apply Kd.R_drew)); exact HO_13.out))) (below_size bB)); have n5_ := Aside0.mk (below_step bB hb); clear HO_12; clear HO_13; clear HO_14; clear HO329; clear HB; have HO_12 := n0_; have HO_13 := n1_; have HO_14 := n2_; have HO329 := n3_; have HO333 := n4_; have HB := n5_; clear n0_ n1_ n2_ n3_ n4_ n5_; (try clear hb); (try clear hk); (try clear ho0); obtain ⟨Ao58, co58, eo58⟩ := Kd.R_slice HO333.out; subst eo58) | ((with_reducible refine gate_callee (f := 19) rfl ?_); refine goesL_ (some 73) rfl rfl Try.func19 (by kernel_rfl) rfl #[.slice Ao31 t319.length co31, .slice Ao58 t331.length co58] rfl aE ?_; (with_reducible refine (laws_eqIntA2S.calls kj18 _ _ t319 _ _ t331 true _ ?side1 ?side2 ?side3 ?side4 A40.out).mono ?_); (case side1 => repeat (first | exact (Kd.R_reads' HO_13.out).2.2 | (with_reducible refine Kd.C_alloc ?_ _) | (with_reducible refine Kd.C_drewN ?_ _) | (with_reducible refine Kd.C_drew ?_))); (case side2 => exact (Kd.R_reads' HO_13.out).2.1); (case side3 => repeat (first | exact (Kd.R_reads' HO333.out).2.2 | (with_reducible refine Kd.C_alloc ?_ _) | (with_reducible refine Kd.C_drewN ?_ _) | (with_reducible refine Kd.C_drew ?_))); (case side4 => exact (Kd.R_reads' HO333.out).2.1); rintro e w59 ⟨rfl, hb⟩; refine ⟨_, rfl, ?_⟩; have n0_ := Aside0.mk (Kd.R_below (by (with_reducible repeat (first | apply Kd.R_alloc | apply Kd.R_drewN | apply Kd.R_drew)); exact HO_12.out) hb); have n1_ := Aside0.mk (Kd.R_below (by (with_reducible repeat (first | apply Kd.R_alloc | apply Kd.R_drewN | apply Kd.R_drew)); exact HO_13.out) hb); have n2_ := Aside0.mk (Kd.R_below (by (with_reducible repeat (first | apply Kd.R_alloc | apply Kd.R_drewN | apply Kd.R_drew)); exact HO_14.out) hb); have n3_ := Aside0.mk (Kd.R_below (by (with_reducible repeat (first | apply Kd.R_alloc | apply Kd.R_drewN | apply Kd.R_drew)); exact HO329.out) hb); have n4_ := Aside0.mk (Kd.R_below (by (with_reducible repeat (first | apply Kd.R_alloc | apply Kd.R_drewN | apply Kd.R_drew)); exact HO333.out) hb); have n5_ := Aside0.mk (below_step bB hb); clear HO_12; clear HO_13; clear HO_14; clear HO329; clear HO333; clear HB; have HO_12 := n0_; have HO_13 := n1_; have HO_14 := n2_; have HO329 := n3_; have HO333 := n4_; have HB := n5_; clear n0_ n1_ n2_ n3_ n4_ n5_; (try clear hb); (try clear hk)) | ((with_reducible refine gate_callee (f := 40) rfl ?_); refine goesL_ (some 77) rfl rfl Try.func40 (by kernel_rfl) rfl #[.slice A3 l3.length c3] rfl aE ?_; (with_reducible refine (laws_toTaskS.calls kj18 _ _ l3 t335 _ ?side1 ?side2 A42.out).mono ?_); (case side1 => repeat (first | exact (Kd.C_below HR3.out HB.out) | (with_reducible refine Kd.C_alloc ?_ _) | (with_reducible refine Kd.C_drewN ?_ _) | (with_reducible refine Kd.C_drew ?_))); (case side2 => exact HC3.out); rintro e w60 ⟨v336, rfl, ho0, hb⟩; refine ⟨_, rfl, ?_⟩; have n0_ := Aside0.mk (Kd.R_below (by (with_reducible repeat (first | apply Kd.R_alloc | apply Kd.R_drewN | apply Kd.R_drew)); exact HO_12.out) hb); have n1_ := Aside0.mk (Kd.R_below (by (with_reducible repeat (first | apply Kd.R_alloc | apply Kd.R_drewN | apply Kd.R_drew)); exact HO_13.out) hb); have n2_ := Aside0.mk (Kd.R_elder' (by (with_reducible repeat (first | apply Kd.R_alloc | apply Kd.R_drewN | apply Kd.R_drew)); exact HO_14.out) (Kd.R_base ho0) hb); have n3_ := Aside0.mk (Kd.R_below (by (with_reducible repeat (first | apply Kd.R_alloc | apply Kd.R_drewN | apply Kd.R_drew)); exact HO329.out) hb); have n4_ := Aside0.mk (Kd.R_below (by (with_reducible repeat (first | apply Kd.R_alloc | apply Kd.R_drewN | apply Kd.R_drew)); exact HO333.out) hb); have n5_ := Aside0.mk (Kd.R_lower (Kd.R_new' ho0 (Kd.R_lt (by (with_reducible repeat (first | apply Kd.R_alloc | apply Kd.R_drewN | apply Kd.R_drew)); exact HO_14.out))) (below_size bB)); have n6_ := Aside0.mk (below_step bB hb); clear HO_12; clear HO_13; clear HO_14; clear HO329; clear HO333; clear HB; have HO_12 := n0_; have HO_13 := n1_; have HO_14 := n2_; have HO329 := n3_; have HO333 := n4_; have HO337 := n5_; have HB := n6_; clear n0_ n1_ n2_ n3_ n4_ n5_ n6_; (try clear hb); (try clear hk); (try clear ho0); obtain ⟨Ao61, co61, eo61⟩ := Kd.R_slice HO337.out; subst eo61) | ((with_reducible refine gate_callee (f := 42) rfl ?_); refine goesL_ (some 78) rfl rfl Try.func42 (by kernel_rfl) rfl #[.slice Ao32 t322.length co32, .slice Ao61 t335.length co61] rfl aE ?_; (with_reducible refine (laws_eqTaskS.calls kj18 _ _ t322 _ _ t335 false _ ?side1 ?side2 ?side3 ?side4 A43.out).mono ?_); (case side1 => repeat (first | exact (Kd.R_reads' HO_14.out).2.2 | (with_reducible refine Kd.C_alloc ?_ _) | (with_reducible refine Kd.C_drewN ?_ _) | (with_reducible refine Kd.C_drew ?_))); (case side2 => exact (Kd.R_reads' HO_14.out).2.1); (case side3 => repeat (first | exact (Kd.R_reads' HO337.out).2.2 | (with_reducible refine Kd.C_alloc ?_ _) | (with_reducible refine Kd.C_drewN ?_ _) | (with_reducible refine Kd.C_drew ?_))); (case side4 => exact (Kd.R_reads' HO337.out).2.1); rintro e w62 ⟨rfl, hb⟩; refine ⟨_, rfl, ?_⟩; have n0_ := Aside0.mk (Kd.R_below (by (with_reducible repeat (first | apply Kd.R_alloc | apply Kd.R_drewN | apply Kd.R_drew)); exact HO_12.out) hb); have n1_ := Aside0.mk (Kd.R_below (by (with_reducible repeat (first | apply Kd.R_alloc | apply Kd.R_drewN | apply Kd.R_drew)); exact HO_13.out) hb); have n2_ := Aside0.mk (Kd.R_below (by (with_reducible repeat (first | apply Kd.R_alloc | apply Kd.R_drewN | apply Kd.R_drew)); exact HO_14.out) hb); have n3_ := Aside0.mk (Kd.R_below (by (with_reducible repeat (first | apply Kd.R_alloc | apply Kd.R_drewN | apply Kd.R_drew)); exact HO329.out) hb); have n4_ := Aside0.mk (Kd.R_below (by (with_reducible repeat (first | apply Kd.R_alloc | apply Kd.R_drewN | apply Kd.R_drew)); exact HO333.out) hb); have n5_ := Aside0.mk (Kd.R_below (by (with_reducible repeat (first | apply Kd.R_alloc | apply Kd.R_drewN | apply Kd.R_drew)); exact HO337.out) hb); have n6_ := Aside0.mk (below_step bB hb); clear HO_12; clear HO_13; clear HO_14; clear HO329; clear HO333; clear HO337; clear HB; have HO_12 := n0_; have HO_13 := n1_; have HO_14 := n2_; have HO329 := n3_; have HO333 := n4_; have HO337 := n5_; have HB := n6_; clear n0_ n1_ n2_ n3_ n4_ n5_ n6_; (try clear hb); (try clear hk)))
          go_ret
          exact ⟨rE, bB⟩
        ·replace c41 := Bool.eq_false_iff.mpr c41
         subst c41
         have H1 : (some false) = some r := by rw [if_neg (show ¬ (false = true) by decide)] at H; exact H
         clear H
         have H := H1
         clear H1
         obtain rfl := Option.some.inj H
         go_wp2_with (first | ((with_reducible refine gate_callee (f := 25) rfl ?_); refine goesL_ (some 67) rfl rfl Try.func25 (by kernel_rfl) rfl #[.slice A0 l0.length c0] rfl aE ?_; (with_reducible refine (laws_toJobS.calls kj18 _ _ l0 t327 _ ?side1 ?side2 A36.out).mono ?_); (case side1 => repeat (first | exact (Kd.C_below HR0.out HB.out) | (with_reducible refine Kd.C_alloc ?_ _) | (with_reducible refine Kd.C_drewN ?_ _) | (with_reducible refine Kd.C_drew ?_))); (case side2 => exact HC0.out); rintro e w63 ⟨v328, rfl, ho0, hb⟩; refine ⟨_, rfl, ?_⟩; have n0_ := Aside0.mk (Kd.R_elder' (by (with_reducible repeat (first | apply Kd.R_alloc | apply Kd.R_drewN | apply Kd.R_drew)); exact HO_12.out) (Kd.R_base ho0) hb); have n1_ := Aside0.mk (Kd.R_below (by (with_reducible repeat (first | apply Kd.R_alloc | apply Kd.R_drewN | apply Kd.R_drew)); exact HO_13.out) hb); have n2_ := Aside0.mk (Kd.R_below (by (with_reducible repeat (first | apply Kd.R_alloc | apply Kd.R_drewN | apply Kd.R_drew)); exact HO_14.out) hb); have n3_ := Aside0.mk (Kd.R_lower (Kd.R_new' ho0 (Kd.R_lt (by (with_reducible repeat (first | apply Kd.R_alloc | apply Kd.R_drewN | apply Kd.R_drew)); exact HO_12.out))) (below_size bB)); have n4_ := Aside0.mk (below_step bB hb); clear HO_12; clear HO_13; clear HO_14; clear HB; have HO_12 := n0_; have HO_13 := n1_; have HO_14 := n2_; have HO329 := n3_; have HB := n4_; clear n0_ n1_ n2_ n3_ n4_; (try clear hb); (try clear hk); (try clear ho0); obtain ⟨Ao64, co64, eo64⟩ := Kd.R_slice HO329.out; subst eo64) | ((with_reducible refine gate_callee (f := 28) rfl ?_); refine goesL_ (some 68) rfl rfl Try.func28 (by kernel_rfl) rfl #[.slice Ao30 t316.length co30, .slice Ao64 t327.length co64] rfl aE ?_; (with_reducible refine (laws_eqJobS.calls kj18 _ _ t316 _ _ t327 true _ ?side1 ?side2 ?side3 ?side4 A37.out).mono ?_); (case side1 => repeat (first | exact (Kd.R_reads' HO_12.out).2.2 | (with_reducible refine Kd.C_alloc ?_ _) | (with_reducible refine Kd.C_drewN ?_ _) | (with_reducible refine Kd.C_drew ?_))); (case side2 => exact (Kd.R_reads' HO_12.out).2.1); (case side3 => repeat (first | exact (Kd.R_reads' HO329.out).2.2 | (with_reducible refine Kd.C_alloc ?_ _) | (with_reducible refine Kd.C_drewN ?_ _) | (with_reducible refine Kd.C_drew ?_))); (case side4 => exact (Kd.R_reads' HO329.out).2.1); rintro e w65 ⟨rfl, hb⟩; refine ⟨_, rfl, ?_⟩; have n0_ := Aside0.mk (Kd.R_below (by (with_reducible repeat (first | apply Kd.R_alloc | apply Kd.R_drewN | apply Kd.R_drew)); exact HO_12.out) hb); have n1_ := Aside0.mk (Kd.R_below (by (with_reducible repeat (first | apply Kd.R_alloc | apply Kd.R_drewN | apply Kd.R_drew)); exact HO_13.out) hb); have n2_ := Aside0.mk (Kd.R_below (by (with_reducible repeat (first | apply Kd.R_alloc | apply Kd.R_drewN | apply Kd.R_drew)); exact HO_14.out) hb); have n3_ := Aside0.mk (Kd.R_below (by (with_reducible repeat (first | apply Kd.R_alloc | apply Kd.R_drewN | apply Kd.R_drew)); exact HO329.out) hb); have n4_ := Aside0.mk (below_step bB hb); clear HO_12; clear HO_13; clear HO_14; clear HO329; clear HB; have HO_12 := n0_; have HO_13 := n1_; have HO_14 := n2_; have HO329 := n3_; have HB := n4_; clear n0_ n1_ n2_ n3_ n4_; (try clear hb); (try clear hk)) | ((with_reducible refine gate_callee (f := 16) rfl ?_); refine goesL_ (some 72) rfl rfl Try.func16 (by kernel_rfl) rfl #[.slice A2 l2.length c2] rfl aE ?_; (with_reducible refine (laws_toIntA2S.calls kj18 _ _ l2 t331 _ ?side1 ?side2 A39.out).mono ?_); (case side1 => repeat (first | exact (Kd.C_below HR2.out HB.out) | (with_reducible refine Kd.C_alloc ?_ _) | (with_reducible refine Kd.C_drewN ?_ _) | (with_reducible refine Kd.C_drew ?_))); (case side2 => exact HC2.out); rintro e w66 ⟨v332, rfl, ho0, hb⟩; refine ⟨_, rfl, ?_⟩; have n0_ := Aside0.mk (Kd.R_below (by (with_reducible repeat (first | apply Kd.R_alloc | apply Kd.R_drewN | apply Kd.R_drew)); exact HO_12.out) hb); have n1_ := Aside0.mk (Kd.R_elder' (by (with_reducible repeat (first | apply Kd.R_alloc | apply Kd.R_drewN | apply Kd.R_drew)); exact HO_13.out) (Kd.R_base ho0) hb); have n2_ := Aside0.mk (Kd.R_below (by (with_reducible repeat (first | apply Kd.R_alloc | apply Kd.R_drewN | apply Kd.R_drew)); exact HO_14.out) hb); have n3_ := Aside0.mk (Kd.R_below (by (with_reducible repeat (first | apply Kd.R_alloc | apply Kd.R_drewN | apply Kd.R_drew)); exact HO329.out) hb); have n4_ := Aside0.mk (Kd.R_lower (Kd.R_new' ho0 (Kd.R_lt (by (with_reducible repeat (first | apply Kd.R_alloc | apply Kd.R_drewN | apply Kd.R_drew)); exact HO_13.out))) (below_size bB)); have n5_ := Aside0.mk (below_step bB hb); clear HO_12; clear HO_13; clear HO_14; clear HO329; clear HB; have HO_12 := n0_; have HO_13 := n1_; have HO_14 := n2_; have HO329 := n3_; have HO333 := n4_; have HB := n5_; clear n0_ n1_ n2_ n3_ n4_ n5_; (try clear hb); (try clear hk); (try clear ho0); obtain ⟨Ao67, co67, eo67⟩ := Kd.R_slice HO333.out; subst eo67) | ((with_reducible refine gate_callee (f := 19) rfl ?_); refine goesL_ (some 73) rfl rfl Try.func19 (by kernel_rfl) rfl #[.slice Ao31 t319.length co31, .slice Ao67 t331.length co67] rfl aE ?_; (with_reducible refine (laws_eqIntA2S.calls kj18 _ _ t319 _ _ t331 false _ ?side1 ?side2 ?side3 ?side4 A40.out).mono ?_); (case side1 => repeat (first | exact (Kd.R_reads' HO_13.out).2.2 | (with_reducible refine Kd.C_alloc ?_ _) | (with_reducible refine Kd.C_drewN ?_ _) | (with_reducible refine Kd.C_drew ?_))); (case side2 => exact (Kd.R_reads' HO_13.out).2.1); (case side3 => repeat (first | exact (Kd.R_reads' HO333.out).2.2 | (with_reducible refine Kd.C_alloc ?_ _) | (with_reducible refine Kd.C_drewN ?_ _) | (with_reducible refine Kd.C_drew ?_))); (case side4 => exact (Kd.R_reads' HO333.out).2.1); rintro e w68 ⟨rfl, hb⟩; refine ⟨_, rfl, ?_⟩; have n0_ := Aside0.mk (Kd.R_below (by (with_reducible repeat (first | apply Kd.R_alloc | apply Kd.R_drewN | apply Kd.R_drew)); exact HO_12.out) hb); have n1_ := Aside0.mk (Kd.R_below (by (with_reducible repeat (first | apply Kd.R_alloc | apply Kd.R_drewN | apply Kd.R_drew)); exact HO_13.out) hb); have n2_ := Aside0.mk (Kd.R_below (by (with_reducible repeat (first | apply Kd.R_alloc | apply Kd.R_drewN | apply Kd.R_drew)); exact HO_14.out) hb); have n3_ := Aside0.mk (Kd.R_below (by (with_reducible repeat (first | apply Kd.R_alloc | apply Kd.R_drewN | apply Kd.R_drew)); exact HO329.out) hb); have n4_ := Aside0.mk (Kd.R_below (by (with_reducible repeat (first | apply Kd.R_alloc | apply Kd.R_drewN | apply Kd.R_drew)); exact HO333.out) hb); have n5_ := Aside0.mk (below_step bB hb); clear HO_12; clear HO_13; clear HO_14; clear HO329; clear HO333; clear HB; have HO_12 := n0_; have HO_13 := n1_; have HO_14 := n2_; have HO329 := n3_; have HO333 := n4_; have HB := n5_; clear n0_ n1_ n2_ n3_ n4_ n5_; (try clear hb); (try clear hk)))
         go_ret
         exact ⟨rE, bB⟩
       ·replace c38 := Bool.eq_false_iff.mpr c38
        subst c38
        have H1 : (some false) = some r := by rw [if_neg (show ¬ (false = true) by decide)] at H; exact H
        clear H
        have H := H1
        clear H1
        obtain rfl := Option.some.inj H
        go_wp2_with (first | ((with_reducible refine gate_callee (f := 25) rfl ?_); refine goesL_ (some 67) rfl rfl Try.func25 (by kernel_rfl) rfl #[.slice A0 l0.length c0] rfl aE ?_; (with_reducible refine (laws_toJobS.calls kj18 _ _ l0 t327 _ ?side1 ?side2 A36.out).mono ?_); (case side1 => repeat (first | exact (Kd.C_below HR0.out HB.out) | (with_reducible refine Kd.C_alloc ?_ _) | (with_reducible refine Kd.C_drewN ?_ _) | (with_reducible refine Kd.C_drew ?_))); (case side2 => exact HC0.out); rintro e w69 ⟨v328, rfl, ho0, hb⟩; refine ⟨_, rfl, ?_⟩; have n0_ := Aside0.mk (Kd.R_elder' (by (with_reducible repeat (first | apply Kd.R_alloc | apply Kd.R_drewN | apply Kd.R_drew)); exact HO_12.out) (Kd.R_base ho0) hb); have n1_ := Aside0.mk (Kd.R_below (by (with_reducible repeat (first | apply Kd.R_alloc | apply Kd.R_drewN | apply Kd.R_drew)); exact HO_13.out) hb); have n2_ := Aside0.mk (Kd.R_below (by (with_reducible repeat (first | apply Kd.R_alloc | apply Kd.R_drewN | apply Kd.R_drew)); exact HO_14.out) hb); have n3_ := Aside0.mk (Kd.R_lower (Kd.R_new' ho0 (Kd.R_lt (by (with_reducible repeat (first | apply Kd.R_alloc | apply Kd.R_drewN | apply Kd.R_drew)); exact HO_12.out))) (below_size bB)); have n4_ := Aside0.mk (below_step bB hb); clear HO_12; clear HO_13; clear HO_14; clear HB; have HO_12 := n0_; have HO_13 := n1_; have HO_14 := n2_; have HO329 := n3_; have HB := n4_; clear n0_ n1_ n2_ n3_ n4_; (try clear hb); (try clear hk); (try clear ho0); obtain ⟨Ao70, co70, eo70⟩ := Kd.R_slice HO329.out; subst eo70) | ((with_reducible refine gate_callee (f := 28) rfl ?_); refine goesL_ (some 68) rfl rfl Try.func28 (by kernel_rfl) rfl #[.slice Ao30 t316.length co30, .slice Ao70 t327.length co70] rfl aE ?_; (with_reducible refine (laws_eqJobS.calls kj18 _ _ t316 _ _ t327 false _ ?side1 ?side2 ?side3 ?side4 A37.out).mono ?_); (case side1 => repeat (first | exact (Kd.R_reads' HO_12.out).2.2 | (with_reducible refine Kd.C_alloc ?_ _) | (with_reducible refine Kd.C_drewN ?_ _) | (with_reducible refine Kd.C_drew ?_))); (case side2 => exact (Kd.R_reads' HO_12.out).2.1); (case side3 => repeat (first | exact (Kd.R_reads' HO329.out).2.2 | (with_reducible refine Kd.C_alloc ?_ _) | (with_reducible refine Kd.C_drewN ?_ _) | (with_reducible refine Kd.C_drew ?_))); (case side4 => exact (Kd.R_reads' HO329.out).2.1); rintro e w71 ⟨rfl, hb⟩; refine ⟨_, rfl, ?_⟩; have n0_ := Aside0.mk (Kd.R_below (by (with_reducible repeat (first | apply Kd.R_alloc | apply Kd.R_drewN | apply Kd.R_drew)); exact HO_12.out) hb); have n1_ := Aside0.mk (Kd.R_below (by (with_reducible repeat (first | apply Kd.R_alloc | apply Kd.R_drewN | apply Kd.R_drew)); exact HO_13.out) hb); have n2_ := Aside0.mk (Kd.R_below (by (with_reducible repeat (first | apply Kd.R_alloc | apply Kd.R_drewN | apply Kd.R_drew)); exact HO_14.out) hb); have n3_ := Aside0.mk (Kd.R_below (by (with_reducible repeat (first | apply Kd.R_alloc | apply Kd.R_drewN | apply Kd.R_drew)); exact HO329.out) hb); have n4_ := Aside0.mk (below_step bB hb); clear HO_12; clear HO_13; clear HO_14; clear HO329; clear HB; have HO_12 := n0_; have HO_13 := n1_; have HO_14 := n2_; have HO329 := n3_; have HB := n4_; clear n0_ n1_ n2_ n3_ n4_; (try clear hb); (try clear hk)))
        go_ret
        exact ⟨rE, bB⟩

end Go.Proofs.Ytecdigebnhlfhaa.OFnExactPlanLength
