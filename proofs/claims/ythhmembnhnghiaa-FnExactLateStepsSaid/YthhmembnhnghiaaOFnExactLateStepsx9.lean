/- Functions of the program as plain Lean functions, with their contracts: written by this session's program ownprint.py. Conditions: none. -/
import Derived.Test.YthhmembnhnghiaaOFnExactLateStepsx0
import Derived.Test.YthhmembnhnghiaaOFnExactLateStepsx7
import Derived.Test.YthhmembnhnghiaaOFnExactLateStepsx8
namespace Go.Proofs.Ythhmembnhnghiaa.OFnExactLateSteps
open Go.RowKit Go.Proofs.YthhmembnhnghiaaW.PrintWords Go.Proofs.YthhmembnhnghiaaW.PrintLast Go.Proofs.YthhmembnhnghiaaW.PrintMore
attribute [local go_sem] max2_int min2_int max_two min_two max_three min_three max_four min_four   -- for this text's walks alone
set_option linter.unusedVariables false
set_option linter.unusedSimpArgs false

/-! ### impl_lateRule: function 88 -/
mutual
def impl_lateRule.l0 : Nat → List (S59) → List Int → List (S64) → Int → List Int → Int → Int → Option (List Int × (List (S64)))
 | 0, _, _, _, _, _, _, _ => none
 | k + 1, x0, x6, x7, x8, x18, x19, x20 => if x20 < x19 then (if 0 ≤ x20 then (if x20 < (x18.length : Int) then (if x6.length < 17592186044416 then ((some (x6 ++ [rd x18 x20] : List Int)).bind fun y287 => (if 0 ≤ (rd x18 x20) then (if (rd x18 x20) < (x0.length : Int) then (if (wrap64 (x8 + ((rd_T59 x0 (rd x18 x20)).f0))) > ((rd_T59 x0 (rd x18 x20)).f3) then (impl_lateRule.l1 k x0 y287 x7 (wrap64 (x8 + ((rd_T59 x0 (rd x18 x20)).f0))) (rd x18 x20) 0 x18 x19 x20 y287 (y287.length : Int) 0) else (if x7.length < 8796093022208 then (impl_lateRule.l0 k x0 y287 (x7 ++ [(⟨rd x18 x20, (-1)⟩ : S64)]) (wrap64 (x8 + ((rd_T59 x0 (rd x18 x20)).f0))) x18 x19 (wrap64 (x20 + 1))) else (none))) else (none)) else (none))) else (none)) else (none)) else (none)) else (some (x6, x7))
def impl_lateRule.l1 : Nat → List (S59) → List Int → List (S64) → Int → Int → Int → List Int → Int → Int → List Int → Int → Int → Option (List Int × (List (S64)))
 | 0, _, _, _, _, _, _, _, _, _, _, _, _ => none
 | k + 1, x0, x6, x7, x8, x10, x12, x18, x19, x20, x42, x43, x44 => if x44 < x43 then (if 0 ≤ x44 then (if x44 < (x42.length : Int) then (if 0 ≤ (rd x42 x44) then (if (rd x42 x44) < (x0.length : Int) then (if 0 ≤ x12 then (if x12 < (x6.length : Int) then (if 0 ≤ (rd x6 x12) then (if (rd x6 x12) < (x0.length : Int) then (if ((rd_T59 x0 (rd x42 x44)).f0) > ((rd_T59 x0 (rd x6 x12)).f0) then (impl_lateRule.l1 k x0 x6 x7 x8 x10 x44 x18 x19 x20 x42 x43 (wrap64 (x44 + 1))) else (impl_lateRule.l1 k x0 x6 x7 x8 x10 x12 x18 x19 x20 x42 x43 (wrap64 (x44 + 1)))) else (none)) else (none)) else (none)) else (none)) else (none)) else (none)) else (none)) else (none)) else (if 0 ≤ x12 then (if x12 < (x6.length : Int) then (if 0 ≤ (rd x6 x12) then (if (rd x6 x12) < (x0.length : Int) then (if x12 ≤ (x6.length : Int) then (if 0 ≤ (wrap64 (x12 + 1)) then (if (wrap64 (x12 + 1)) ≤ (x6.length : Int) then (if x7.length < 8796093022208 then (impl_lateRule.l0 k x0 (x6.eraseIdx (x12 : Int).toNat) (x7 ++ [(⟨x10, rd x6 x12⟩ : S64)]) (wrap64 (x8 - ((rd_T59 x0 (rd x6 x12)).f0))) x18 x19 (wrap64 (x20 + 1))) else (none)) else (none)) else (none)) else (none)) else (none)) else (none)) else (none)) else (none))
end
def impl_lateRule.f (k : Nat) (l0 : List (S59)) (a1 : Int) : Option (List Int × (List (S64))) := (impl_ruledOrder.f k l0 4).bind fun t280 => (if 0 ≤ a1 then (if a1 ≤ (t280.length : Int) then ((some (t280.take (a1 : Int).toNat : List Int)).bind fun y283 => (impl_lateRule.l0 k l0 ([] : List Int) ([] : List (S64)) 0 y283 (y283.length : Int) 0)) else (none)) else (none))
theorem impl_lateRule.mono_l : ∀ k, (∀ y0 y1 y2 y3 y4 y5 y6, LeO (impl_lateRule.l0 k y0 y1 y2 y3 y4 y5 y6) (impl_lateRule.l0 (k + 1) y0 y1 y2 y3 y4 y5 y6)) ∧ (∀ y0 y1 y2 y3 y4 y5 y6 y7 y8 y9 y10 y11, LeO (impl_lateRule.l1 k y0 y1 y2 y3 y4 y5 y6 y7 y8 y9 y10 y11) (impl_lateRule.l1 (k + 1) y0 y1 y2 y3 y4 y5 y6 y7 y8 y9 y10 y11))
 | 0 => ⟨fun _ _ _ _ _ _ _ r h => by simp [impl_lateRule.l0] at h, fun _ _ _ _ _ _ _ _ _ _ _ _ r h => by simp [impl_lateRule.l1] at h⟩
 | k + 1 => by
  obtain ⟨ih0, ih1⟩ := impl_lateRule.mono_l k
  refine ⟨?_, ?_⟩
  ·intro y0 y1 y2 y3 y4 y5 y6
   unfold impl_lateRule.l0
   repeat' first
   | (with_reducible exact ih0 _ _ _ _ _ _ _)
   | (with_reducible exact ih1 _ _ _ _ _ _ _ _ _ _ _ _)
   | (with_reducible exact impl_ruledOrder.mono _ _ _)
   | (with_reducible exact LeO.refl _)
   | (with_reducible exact LeO.none _)
   | (with_reducible refine LeO.ite ?_ ?_)
   | (with_reducible refine LeO.bind ?_ (fun _ => ?_))
   | exact ih0 _ _ _ _ _ _ _
   | exact ih1 _ _ _ _ _ _ _ _ _ _ _ _
   | exact impl_ruledOrder.mono _ _ _
   | exact LeO.none _
   | refine LeO.ite ?_ ?_
   | refine LeO.bind ?_ (fun _ => ?_)
  ·intro y0 y1 y2 y3 y4 y5 y6 y7 y8 y9 y10 y11
   unfold impl_lateRule.l1
   repeat' first
   | (with_reducible exact ih0 _ _ _ _ _ _ _)
   | (with_reducible exact ih1 _ _ _ _ _ _ _ _ _ _ _ _)
   | (with_reducible exact impl_ruledOrder.mono _ _ _)
   | (with_reducible exact LeO.refl _)
   | (with_reducible exact LeO.none _)
   | (with_reducible refine LeO.ite ?_ ?_)
   | (with_reducible refine LeO.bind ?_ (fun _ => ?_))
   | exact ih0 _ _ _ _ _ _ _
   | exact ih1 _ _ _ _ _ _ _ _ _ _ _ _
   | exact impl_ruledOrder.mono _ _ _
   | exact LeO.none _
   | refine LeO.ite ?_ ?_
   | refine LeO.bind ?_ (fun _ => ?_)
theorem impl_lateRule.mono : ∀ a0 a1 k, LeO (impl_lateRule.f k a0 a1) (impl_lateRule.f (k + 1) a0 a1) := by
 intro a0 a1 k
 obtain ⟨ih0, ih1⟩ := impl_lateRule.mono_l k
 unfold impl_lateRule.f
 repeat' first
   | (with_reducible exact ih0 _ _ _ _ _ _ _)
   | (with_reducible exact ih1 _ _ _ _ _ _ _ _ _ _ _ _)
   | (with_reducible exact impl_ruledOrder.mono _ _ _)
   | (with_reducible exact LeO.refl _)
   | (with_reducible exact LeO.none _)
   | (with_reducible refine LeO.ite ?_ ?_)
   | (with_reducible refine LeO.bind ?_ (fun _ => ?_))
   | exact ih0 _ _ _ _ _ _ _
   | exact ih1 _ _ _ _ _ _ _ _ _ _ _ _
   | exact impl_ruledOrder.mono _ _ _
   | exact LeO.none _
   | refine LeO.ite ?_ ?_
   | refine LeO.bind ?_ (fun _ => ?_)
def impl_lateRule.T15 : Bool × List (List Nat × List Nat) := (true, [([], []), ([], []), ([0, 1], [0, 1]), ([2], [2]), ([3], [3]), ([], []), ([], []), ([], []), ([6, 7], [6, 7]), ([8], [8]), ([5, 9], [5, 9]), ([10], [10]), ([11], [11]), ([4, 12], [4, 12])])
def impl_lateRule.B15 : List Nat := [0, 0, 3, 7, 15, 0, 0, 0, 192, 448, 992, 2016, 4064, 8191]
theorem impl_lateRule.tab15 : rtab .any (opsOf Try.f88 15) = impl_lateRule.T15 := by kernel_rfl
theorem impl_lateRule.bits15 : waitsOk impl_lateRule.T15.2 impl_lateRule.B15 = true := by kernel_rfl
def impl_lateRule.T20 : Bool × List (List Nat × List Nat) := (true, [([], []), ([], []), ([0, 1], [0, 1]), ([], []), ([], []), ([4], [4]), ([3, 5], [3, 5]), ([2, 6], [2, 6]), ([7, 7, 0, 1, 2, 3, 4, 5, 6, 7], [0, 3, 7])])
def impl_lateRule.B20 : List Nat := [0, 0, 3, 0, 0, 16, 56, 127, 255]
theorem impl_lateRule.tab20 : rtab .any (opsOf Try.f88 20) = impl_lateRule.T20 := by kernel_rfl
theorem impl_lateRule.bits20 : waitsOk impl_lateRule.T20.2 impl_lateRule.B20 = true := by kernel_rfl
set_option maxHeartbeats 8000000 in
set_option maxRecDepth 100000 in
theorem impl_lateRule.calls (k : Nat) (A0 : Option Addr) (c0 : Nat) (l0 : List (S59)) (a1 : Int) (r1 : List Int) (r2 : List (S64)) (w : World) (hr0 : Kd.C k59 w A0 l0.length l0) (hc0 : l0.length ≤ c0) (h : impl_lateRule.f k l0 a1 = some (r1, r2)) :
  Calls Try.prog 88 #[.slice A0 l0.length c0, .int .i64 a1] w fun e w' => ∃ v0_ v1_ : Value, e = .returned (.tuple #[v0_, v1_]) ∧ Kd.R (Kd.int .i64) 3 w' w.heap.size (fun _ => True) v0_ r1 ∧ Kd.R k64 64 w' w.heap.size (fun _ => True) v1_ r2 ∧ Below w.heap.size w w' := by
 have hu64 := Try.underlying64
 have HR0 := Aside0.mk hr0
 have HC0 := Aside0.mk hc0
 clear hr0 hc0
 have HB := Aside0.mk (Below.refl w.heap.size w)
 have H : ((impl_ruledOrder.f k l0 4).bind fun t280 => (if 0 ≤ a1 then (if a1 ≤ (t280.length : Int) then ((some (t280.take (a1 : Int).toNat : List Int)).bind fun y283 => (impl_lateRule.l0 k l0 ([] : List Int) ([] : List (S64)) 0 y283 (y283.length : Int) 0)) else (none)) else (none))) = some (r1, r2) := h
 clear h
 replace H := Option.bind_eq_some_iff.mp H
 obtain ⟨t280, A30, H⟩ := H
 replace H : (if 0 ≤ a1 then (if a1 ≤ (t280.length : Int) then ((some (t280.take (a1 : Int).toNat : List Int)).bind fun y283 => (impl_lateRule.l0 k l0 ([] : List Int) ([] : List (S64)) 0 y283 (y283.length : Int) 0)) else (none)) else (none)) = some (r1, r2) := H
 have A3 := Aside0.mk A30
 clear A30
 by_cases c4 : 0 ≤ a1; rotate_left
 ·rw [if_neg c4] at H; exact absurd H (by simp)
 rw [if_pos c4] at H
 have c4b0 := eq_true c4
 have c4b1 : decide (0 ≤ a1) = true := decide_eq_true c4
 clear c4
 by_cases c5 : a1 ≤ (t280.length : Int); rotate_left
 ·rw [if_neg c5] at H; exact absurd H (by simp)
 rw [if_pos c5] at H
 have c5b0 := eq_true c5
 have c5b1 : decide (a1 ≤ (t280.length : Int)) = true := decide_eq_true c5
 clear c5
 obtain ⟨y283, hy283⟩ : ∃ y_ : List Int, y_ = (t280.take (a1 : Int).toNat) := ⟨_, rfl⟩
 replace H : (impl_lateRule.l0 k l0 ([] : List Int) ([] : List (S64)) 0 y283 (y283.length : Int) 0) = some (r1, r2) := by first | (rw [hy283]; with_reducible exact H) | (have H2_ := (Option.bind_some _ _).symm.trans H; rw [hy283]; with_reducible exact H2_) | (have H2_ := (Option.bind_some _ _).symm.trans H; with_reducible exact H2_) | with_reducible exact H | (rw [hy283]; exact H) | exact H
 have Ny283 := Aside0.mk hy283
 clear hy283
 have H' := Aside0.mk H
 clear H
 go_enter Try.func88, Try.ntmps88
 go_wp2_with (first | ((with_reducible refine gate_callee (f := 120) rfl ?_); refine goesL_ (some 16) rfl rfl Try.func120 (by kernel_rfl) rfl #[.slice A0 l0.length c0, .int .i64 4] rfl aE ?_; (with_reducible refine (impl_ruledOrder.calls k _ _ l0 4 t280 _ ?side1 ?side2 A3.out).mono ?_); (case side1 => repeat (first | exact HR0.out | (with_reducible refine Kd.C_alloc ?_ _) | (with_reducible refine Kd.C_drewN ?_ _) | (with_reducible refine Kd.C_drew ?_))); (case side2 => exact HC0.out); rintro e w6 ⟨v281, rfl, ho0, hb⟩; refine ⟨_, rfl, ?_⟩; have n0_ := Aside0.mk (Kd.R_lower ho0 (below_size bB)); have n1_ := Aside0.mk (below_step bB hb); clear HB; have HO282 := n0_; have HB := n1_; clear n0_ n1_; (try clear hb); (try clear hb2); (try clear hk); (try clear hi); (try clear ho0); obtain ⟨Ao7, co7, eo7⟩ := Kd.R_slice HO282.out; subst eo7; have q8 : (a1 : Int) ≤ ((t280.length : Int) : Int) := oD; obtain ⟨i08, hi08, _, hsz8, _⟩ := info_parts info3; have hcut8 := cut_to (P := Try.prog) 37 3 .i64 Try.underlying37 hi08 Ao7 t280.length co7 a1 (oD) q8 (Kd.R_reads' HO282.out).2.1; have hr8 := Kd.R_take (m := (a1 : Int).toNat) HO282.out (by omega); have hy8 : y283.length = (a1 : Int).toNat := (by rw [Ny283.out, List.length_take]; omega); rw [← Ny283.out] at hr8; rw [← hy8] at hr8 hcut8; clear hy8 hi08 hsz8 HO282; have HO285 := Aside0.mk hr8; clear hr8; replace q8 := eq_true q8))
 go_loopg [6, 7, 8, 20] k (fun kq v6 v7 v8 v20 w' => ∃ (x6_1 : List Int) (x7_1 : List (S64)) (x8_1 : Int) (x20_1 : Int), v8 = .int .i64 x8_1 ∧ v20 = .int .i64 x20_1 ∧ Aside0 (impl_lateRule.l0 kq l0 x6_1 x7_1 x8_1 y283 (y283.length : Int) x20_1 = some (r1, r2)) ∧ Aside0 (kq ≤ k) ∧ Aside0 (Kd.R (Kd.int .i64) 3 w' w.heap.size (fun k_ => some k_ ≠ ((.slice Ao7 y283.length co7) : Value).ownBlock) v6 x6_1) ∧ Aside0 (Kd.R k64 64 w' w.heap.size (fun _ => True) v7 x7_1) ∧ Aside0 (Kd.R (Kd.int .i64) 3 w' w.heap.size (fun k_ => some k_ ≠ (v6 : Value).ownBlock) (.slice Ao7 y283.length co7) y283) ∧ Aside0 (Below w.heap.size w w'))
 case atStart => exact ⟨(([] : List Int)), (([] : List (S64))), (0), (0), sD, sD, H', ⟨Nat.le_refl _⟩, ⟨by first | exact Kd.R_nil _ _ _ _ _ | exact Kd.N_nil _ _ _ _ _ | exact Kd.V_nil _ _ _ _ _ | exact Kd.Q_nil _ _ _ _ _ | exact Kd.S_nil _ _ _ _ _⟩, ⟨by first | exact Kd.R_nil _ _ _ _ _ | exact Kd.N_nil _ _ _ _ _ | exact Kd.V_nil _ _ _ _ _ | exact Kd.Q_nil _ _ _ _ _ | exact Kd.S_nil _ _ _ _ _⟩, ⟨by (with_reducible repeat (first | apply Kd.R_alloc | apply Kd.R_drewN | apply Kd.R_drew)); exact Kd.R_mono HO285.out (fun _ hk => (by simp [Value.ownBlock]))⟩, ⟨by repeat (first | (with_reducible first | exact HB.out | apply below_alloc | apply pw_below_drewN | apply below_drew1) | exact HB.out)⟩⟩
 case round =>
  clear H'
  try clear c1
  try clear p2
  try clear c4
  try clear c4b0
  try clear c4b1
  try clear c5
  try clear c5b0
  try clear c5b1
  try clear c8
  try clear q8
  try clear q8
  obtain ⟨x6_1, x7_1, x8_1, x20_1, rfl, rfl, HA, HK1, HO_6, HO_7, HO_18, HB⟩ := hrel
  cases gk with
  | zero => exact absurd HA.out (by simp [impl_lateRule.l0])
  | succ k1 =>
   have H := HA.out
   clear HA
   simp only [impl_lateRule.l0] at H
   by_cases c9 : x20_1 < (y283.length : Int)
   ·rw [if_pos c9] at H
    have c9b0 : decide (x20_1 < (y283.length : Int)) = true := decide_eq_true c9
    clear c9
    by_cases c10 : 0 ≤ x20_1; rotate_left
    ·rw [if_neg c10] at H; exact absurd H (by simp)
    rw [if_pos c10] at H
    have c10b0 : decide (0 ≤ x20_1) = true := decide_eq_true c10
    clear c10
    by_cases c11 : x20_1 < (y283.length : Int); rotate_left
    ·rw [if_neg c11] at H; exact absurd H (by simp)
    rw [if_pos c11] at H
    have c11b0 : decide (x20_1 < (y283.length : Int)) = true := decide_eq_true c11
    clear c11
    by_cases c12 : x6_1.length < 17592186044416; rotate_left
    ·rw [if_neg c12] at H; exact absurd H (by simp)
    rw [if_pos c12] at H
    have LMc12 := Aside0.mk c12
    clear c12
    obtain ⟨y287, hy287⟩ : ∃ y_ : List Int, y_ = (x6_1 ++ [rd y283 x20_1]) := ⟨_, rfl⟩
    replace H : (if 0 ≤ (rd y283 x20_1) then (if (rd y283 x20_1) < (l0.length : Int) then (if (wrap64 (x8_1 + ((rd_T59 l0 (rd y283 x20_1)).f0))) > ((rd_T59 l0 (rd y283 x20_1)).f3) then (impl_lateRule.l1 k1 l0 y287 x7_1 (wrap64 (x8_1 + ((rd_T59 l0 (rd y283 x20_1)).f0))) (rd y283 x20_1) 0 y283 (y283.length : Int) x20_1 y287 (y287.length : Int) 0) else (if x7_1.length < 8796093022208 then (impl_lateRule.l0 k1 l0 y287 (x7_1 ++ [(⟨rd y283 x20_1, (-1)⟩ : S64)]) (wrap64 (x8_1 + ((rd_T59 l0 (rd y283 x20_1)).f0))) y283 (y283.length : Int) (wrap64 (x20_1 + 1))) else (none))) else (none)) else (none)) = some (r1, r2) := by first | (rw [hy287]; with_reducible exact H) | (have H2_ := (Option.bind_some _ _).symm.trans H; rw [hy287]; with_reducible exact H2_) | (have H2_ := (Option.bind_some _ _).symm.trans H; with_reducible exact H2_) | with_reducible exact H | (rw [hy287]; exact H) | exact H
    have Ny287 := Aside0.mk hy287
    clear hy287
    by_cases c13 : 0 ≤ (rd y283 x20_1); rotate_left
    ·rw [if_neg c13] at H; exact absurd H (by simp)
    rw [if_pos c13] at H
    have c13b0 : decide (0 ≤ (rd y283 x20_1)) = true := decide_eq_true c13
    clear c13
    by_cases c14 : (rd y283 x20_1) < (l0.length : Int); rotate_left
    ·rw [if_neg c14] at H; exact absurd H (by simp)
    rw [if_pos c14] at H
    have c14b0 : decide ((rd y283 x20_1) < (l0.length : Int)) = true := decide_eq_true c14
    clear c14
    by_cases c15 : (wrap64 (x8_1 + ((rd_T59 l0 (rd y283 x20_1)).f0))) > ((rd_T59 l0 (rd y283 x20_1)).f3)
    ·rw [if_pos c15] at H
     have c15b0 : decide (((rd_T59 l0 (rd y283 x20_1)).f3) < (wrap64 (x8_1 + ((rd_T59 l0 (rd y283 x20_1)).f0)))) = true := decide_eq_true c15
     clear c15
     have H' := Aside0.mk H
     clear H
     have p286 : 0 ≤ (x20_1 : Int) := oD
     have q286 : x20_1 < (y283.length : Int) := oD
     obtain ⟨ad286, e286, hx286_0⟩ := Kd.at_int (Kd.R_reads' HO_18.out).2.2 x20_1 p286 q286
     cases e286
     replace p286 := eq_true p286
     replace q286 := eq_true q286
     go_wp2_with (first | ((with_reducible refine gate_builtin (b := .append) (xs := #[.tmp 24, .tmp 26]) rfl ?_); at_builtin; refine Kd.R_append (Kd.int .i64) (w0 := w) w.heap.size rfl (.tmp 24) (.tmp 26) 37 3 (.int .i64 0) 8 rfl Try.underlying37 info3 rfl (by decide) (by omega) u6 x6_1 (rd y283 x20_1) [.int .i64 (rd y283 x20_1)] (fun k_ => some k_ ≠ (.slice (some ad286) y283.length co7 : Value).ownBlock) (fun _ => False) rfl rfl ?aP (fun _ hk => hk.elim) ?aF ?aO ?aB ?aS ?aL ?_; (case aP => exact rfl); (case aB => exact bB); (case aF => exact (fun k_ hk => Kd.fresh' (Kd.R_lt (by (with_reducible repeat (first | apply Kd.R_alloc | apply Kd.R_drewN | apply Kd.R_drew)); exact HO_18.out)) k_ hk)); (case aO => exact (by (with_reducible repeat (first | apply Kd.R_alloc | apply Kd.R_drewN | apply Kd.R_drew)); exact HO_6.out)); (case aS => exact (below_size bB)); (case aL => have := LMc12.out; omega); intro v288 w16 ho hb hg hat; rw [← Ny287.out] at ho; have n0_ := Aside0.mk (Kd.R_over' (by (with_reducible repeat (first | apply Kd.R_alloc | apply Kd.R_drewN | apply Kd.R_drew)); exact HO_7.out) (Kd.R_typed (by (with_reducible repeat (first | apply Kd.R_alloc | apply Kd.R_drewN | apply Kd.R_drew)); exact HO_6.out)) (by decide) hg); have n1_ := Aside0.mk (Kd.R_after (ok := (fun _ => True)) (by (with_reducible repeat (first | apply Kd.R_alloc | apply Kd.R_drewN | apply Kd.R_drew)); exact Kd.R_mono HO_18.out (fun _ hk => ⟨trivial, hk⟩)) hg hat); have n2_ := Aside0.mk (hb); have n3_ := Aside0.mk (ho); clear HO_7; clear HO_18; clear HB; clear HO_6; have HO_7 := n0_; have HO_18 := n1_; have HB := n2_; have HO289 := n3_; clear n0_ n1_ n2_ n3_; clear ho hb hg hat; have p290 : 0 ≤ ((rd y283 x20_1) : Int) := oD; have q290 : (rd y283 x20_1) < (l0.length : Int) := oD; obtain ⟨ad290, e290, hx290_0, hx290_1, hx290_2, hx290_3⟩ := at_T59 HR0.out (rd y283 x20_1) p290 q290; cases e290; replace hx290_0 := (cB HB.out hx290_0 :); replace hx290_1 := (cB HB.out hx290_1 :); replace hx290_2 := (cB HB.out hx290_2 :); replace hx290_3 := (cB HB.out hx290_3 :); replace p290 := eq_true p290; replace q290 := eq_true q290; have p291 : 0 ≤ ((rd y283 x20_1) : Int) := oD; have q291 : (rd y283 x20_1) < (l0.length : Int) := oD; obtain ⟨ad291, e291, hx291_0, hx291_1, hx291_2, hx291_3⟩ := at_T59 HR0.out (rd y283 x20_1) p291 q291; obtain rfl : ad290 = ad291 := (by injection e291); replace hx291_0 := (cB HB.out hx291_0 :); replace hx291_1 := (cB HB.out hx291_1 :); replace hx291_2 := (cB HB.out hx291_2 :); replace hx291_3 := (cB HB.out hx291_3 :); replace p291 := eq_true p291; replace q291 := eq_true q291; obtain ⟨Ao17, co17, eo17⟩ := Kd.R_slice HO289.out; subst eo17))
     go_loopg [12, 44] k1 (fun kq v12 v44 w' => ∃ (x12_2 : Int) (x44_2 : Int), v12 = .int .i64 x12_2 ∧ v44 = .int .i64 x44_2 ∧ Aside0 (impl_lateRule.l1 kq l0 y287 x7_1 (wrap64 (x8_1 + ((rd_T59 l0 (rd y283 x20_1)).f0))) (rd y283 x20_1) x12_2 y283 (y283.length : Int) x20_1 y287 (y287.length : Int) x44_2 = some (r1, r2)) ∧ Aside0 (kq ≤ k1) ∧ Aside0 (Kd.R (Kd.int .i64) 3 w' w.heap.size (fun k_ => some k_ ≠ ((.slice (some ad286) y283.length co7) : Value).ownBlock) (.slice Ao17 y287.length co17) y287) ∧ Aside0 (Kd.R k64 64 w' w.heap.size (fun _ => True) u7 x7_1) ∧ Aside0 (Kd.R (Kd.int .i64) 3 w' w.heap.size (fun k_ => some k_ ≠ ((.slice Ao17 y287.length co17) : Value).ownBlock ∧ some k_ ≠ ((.slice Ao17 y287.length co17) : Value).ownBlock) (.slice (some ad286) y283.length co7) y283) ∧ Aside0 (Kd.R (Kd.int .i64) 3 w' w.heap.size (fun k_ => some k_ ≠ ((.slice (some ad286) y283.length co7) : Value).ownBlock) (.slice Ao17 y287.length co17) y287) ∧ Aside0 (Below w.heap.size w w'))
     case atStart => exact ⟨(0), (0), sD, sD, H', ⟨Nat.le_refl _⟩, ⟨kR⟩, ⟨kR⟩, ⟨by (with_reducible repeat (first | apply Kd.R_alloc | apply Kd.R_drewN | apply Kd.R_drew)); exact Kd.R_mono HO_18.out (fun _ hk => ⟨hk.2, hk.2⟩)⟩, ⟨kR⟩, ⟨by repeat (first | (with_reducible first | exact HB.out | apply below_alloc | apply pw_below_drewN | apply below_drew1) | exact HB.out)⟩⟩
     case round =>
      clear H'
      try clear c1
      try clear p2
      try clear q2
      try clear hx2
      try clear c4
      try clear c4b0
      try clear c4b1
      try clear c5
      try clear c5b0
      try clear c5b1
      try clear p6
      try clear c8
      try clear q8
      try clear c9
      try clear c9b0
      try clear c10
      try clear c10b0
      try clear c11
      try clear c11b0
      try clear c12
      try clear c13
      try clear c13b0
      try clear c14
      try clear c14b0
      try clear c15
      try clear c15b0
      try clear hx286_0
      try clear hx290_0
      try clear hx290_1
      try clear hx290_2
      try clear hx290_3
      try clear hx291_0
      try clear hx291_1
      try clear hx291_2
      try clear hx291_3
      try clear p2
      try clear p286
      try clear p290
      try clear p291
      try clear q286
      try clear q290
      try clear q291
      try clear q8
      obtain ⟨x12_2, x44_2, rfl, rfl, HA, HK2, HO_6, HO_7, HO_18, HO_42, HB⟩ := hrel
      cases gk with
      | zero => exact absurd HA.out (by simp [impl_lateRule.l1])
      | succ k2 =>
       have H := HA.out
       clear HA
       simp only [impl_lateRule.l1] at H
       by_cases c18 : x44_2 < (y287.length : Int)
       ·rw [if_pos c18] at H
        have c18b0 : decide (x44_2 < (y287.length : Int)) = true := decide_eq_true c18
        clear c18
        by_cases c19 : 0 ≤ x44_2; rotate_left
        ·rw [if_neg c19] at H; exact absurd H (by simp)
        rw [if_pos c19] at H
        have c19b0 : decide (0 ≤ x44_2) = true := decide_eq_true c19
        clear c19
        by_cases c20 : x44_2 < (y287.length : Int); rotate_left
        ·rw [if_neg c20] at H; exact absurd H (by simp)
        rw [if_pos c20] at H
        have c20b0 : decide (x44_2 < (y287.length : Int)) = true := decide_eq_true c20
        clear c20
        by_cases c21 : 0 ≤ (rd y287 x44_2); rotate_left
        ·rw [if_neg c21] at H; exact absurd H (by simp)
        rw [if_pos c21] at H
        have c21b0 : decide (0 ≤ (rd y287 x44_2)) = true := decide_eq_true c21
        clear c21
        by_cases c22 : (rd y287 x44_2) < (l0.length : Int); rotate_left
        ·rw [if_neg c22] at H; exact absurd H (by simp)
        rw [if_pos c22] at H
        have c22b0 : decide ((rd y287 x44_2) < (l0.length : Int)) = true := decide_eq_true c22
        clear c22
        by_cases c23 : 0 ≤ x12_2; rotate_left
        ·rw [if_neg c23] at H; exact absurd H (by simp)
        rw [if_pos c23] at H
        have c23b0 : decide (0 ≤ x12_2) = true := decide_eq_true c23
        clear c23
        by_cases c24 : x12_2 < (y287.length : Int); rotate_left
        ·rw [if_neg c24] at H; exact absurd H (by simp)
        rw [if_pos c24] at H
        have c24b0 : decide (x12_2 < (y287.length : Int)) = true := decide_eq_true c24
        clear c24
        by_cases c25 : 0 ≤ (rd y287 x12_2); rotate_left
        ·rw [if_neg c25] at H; exact absurd H (by simp)
        rw [if_pos c25] at H
        have c25b0 : decide (0 ≤ (rd y287 x12_2)) = true := decide_eq_true c25
        clear c25
        by_cases c26 : (rd y287 x12_2) < (l0.length : Int); rotate_left
        ·rw [if_neg c26] at H; exact absurd H (by simp)
        rw [if_pos c26] at H
        have c26b0 : decide ((rd y287 x12_2) < (l0.length : Int)) = true := decide_eq_true c26
        clear c26
        by_cases c27 : ((rd_T59 l0 (rd y287 x44_2)).f0) > ((rd_T59 l0 (rd y287 x12_2)).f0)
        ·rw [if_pos c27] at H
         have c27b0 : decide (((rd_T59 l0 (rd y287 x12_2)).f0) < ((rd_T59 l0 (rd y287 x44_2)).f0)) = true := decide_eq_true c27
         clear c27
         have H' := Aside0.mk H
         clear H
         have p292 : 0 ≤ (x44_2 : Int) := oD
         have q292 : x44_2 < (y287.length : Int) := oD
         obtain ⟨ad292, e292, hx292_0⟩ := Kd.at_int (Kd.R_reads' HO_42.out).2.2 x44_2 p292 q292
         cases e292
         replace p292 := eq_true p292
         replace q292 := eq_true q292
         try go_wp2
         have n0_ := Aside0.mk (Kd.R_drew HO_6.out)
         have n1_ := Aside0.mk (Kd.R_drew HO_7.out)
         have n2_ := Aside0.mk (Kd.R_drew HO_18.out)
         have n3_ := Aside0.mk (Kd.R_drew HO_42.out)
         have n4_ := Aside0.mk (below_drew1 HB.out)
         clear HO_6
         clear HO_7
         clear HO_18
         clear HO_42
         clear HB
         have HO_6 := n0_
         have HO_7 := n1_
         have HO_18 := n2_
         have HO_42 := n3_
         have HB := n4_
         clear n0_ n1_ n2_ n3_ n4_
         have p293 : 0 ≤ ((rd y287 x44_2) : Int) := oD
         have q293 : (rd y287 x44_2) < (l0.length : Int) := oD
         obtain ⟨ad293, e293, hx293_0, hx293_1, hx293_2, hx293_3⟩ := at_T59 HR0.out (rd y287 x44_2) p293 q293
         have hw293_3 := hx293_3
         have hw293_2 := hx293_2
         have hw293_1 := hx293_1
         have hw293_0 := hx293_0
         obtain rfl : ad290 = ad293 := (by injection e293)
         replace hx293_0 := (cB HB.out hx293_0 :)
         replace hx293_1 := (cB HB.out hx293_1 :)
         replace hx293_2 := (cB HB.out hx293_2 :)
         replace hx293_3 := (cB HB.out hx293_3 :)
         replace p293 := eq_true p293
         replace q293 := eq_true q293
         have p294 : 0 ≤ (x12_2 : Int) := oD
         have q294 : x12_2 < (y287.length : Int) := oD
         obtain ⟨ad294, e294, hx294_0⟩ := Kd.at_int (Kd.R_reads' HO_6.out).2.2 x12_2 p294 q294
         obtain rfl : ad292 = ad294 := (by injection e294)
         replace p294 := eq_true p294
         replace q294 := eq_true q294
         have p295 : 0 ≤ ((rd y287 x12_2) : Int) := oD
         have q295 : (rd y287 x12_2) < (l0.length : Int) := oD
         obtain ⟨ad295, e295, hx295_0, hx295_1, hx295_2, hx295_3⟩ := at_T59 HR0.out (rd y287 x12_2) p295 q295
         have hw295_3 := hx295_3
         have hw295_2 := hx295_2
         have hw295_1 := hx295_1
         have hw295_0 := hx295_0
         obtain rfl : ad290 = ad295 := (by injection e295)
         replace hx295_0 := (cB HB.out hx295_0 :)
         replace hx295_1 := (cB HB.out hx295_1 :)
         replace hx295_2 := (cB HB.out hx295_2 :)
         replace hx295_3 := (cB HB.out hx295_3 :)
         replace p295 := eq_true p295
         replace q295 := eq_true q295
         refine start_ (n := 14) (S := fun w' => w'.cell? (ad290.add (((rd y287 x44_2)).toNat * 4)) = some (.int .i64 ((rd_T59 l0 (rd y287 x44_2)).f0)) ∧ w'.cell? ⟨(ad290.add (((rd y287 x44_2)).toNat * 4)).block, (ad290.add (((rd y287 x44_2)).toNat * 4)).off + 1, none⟩ = some (.int .i64 ((rd_T59 l0 (rd y287 x44_2)).f1)) ∧ w'.cell? ⟨(ad290.add (((rd y287 x44_2)).toNat * 4)).block, (ad290.add (((rd y287 x44_2)).toNat * 4)).off + 2, none⟩ = some (.int .i64 ((rd_T59 l0 (rd y287 x44_2)).f2)) ∧ w'.cell? ⟨(ad290.add (((rd y287 x44_2)).toNat * 4)).block, (ad290.add (((rd y287 x44_2)).toNat * 4)).off + 3, none⟩ = some (.int .i64 ((rd_T59 l0 (rd y287 x44_2)).f3)) ∧ w'.cell? (ad292.add (x12_2).toNat) = some (.int .i64 (rd y287 x12_2)) ∧ w'.cell? (ad290.add (((rd y287 x12_2)).toNat * 4)) = some (.int .i64 ((rd_T59 l0 (rd y287 x12_2)).f0)) ∧ w'.cell? ⟨(ad290.add (((rd y287 x12_2)).toNat * 4)).block, (ad290.add (((rd y287 x12_2)).toNat * 4)).off + 1, none⟩ = some (.int .i64 ((rd_T59 l0 (rd y287 x12_2)).f1)) ∧ w'.cell? ⟨(ad290.add (((rd y287 x12_2)).toNat * 4)).block, (ad290.add (((rd y287 x12_2)).toNat * 4)).off + 2, none⟩ = some (.int .i64 ((rd_T59 l0 (rd y287 x12_2)).f2)) ∧ w'.cell? ⟨(ad290.add (((rd y287 x12_2)).toNat * 4)).block, (ad290.add (((rd y287 x12_2)).toNat * 4)).off + 3, none⟩ = some (.int .i64 ((rd_T59 l0 (rd y287 x12_2)).f3))) (ds := []) (bA 14 0) (by kernel_rfl) rfl rfl ⟨((cB HB.out hw293_0 :)), ((cB HB.out hw293_1 :)), ((cB HB.out hw293_2 :)), ((cB HB.out hw293_3 :)), hx294_0, ((cB HB.out hw295_0 :)), ((cB HB.out hw295_1 :)), ((cB HB.out hw295_2 :)), ((cB HB.out hw295_3 :))⟩ (fun hHeld => ?_); refine with_tabW impl_lateRule.tab15 impl_lateRule.bits15 (fun HT_ HW_ => ?_)
         generalize wr.drew = w28 at HO_6 HO_7 HO_18 HO_42 HB hx293_0 hx293_1 hx293_2 hx293_3 hx294_0 hx295_0 hx295_1 hx295_2 hx295_3 hHeld ⊢
         refine pU 0 49 (bA 14 1) ?_
         refine pU 1 50 (bA 14 3) ?_
         refine pU 2 51 (bA 14 7) ?_
         refine pU 3 52 (bA 14 15) ?_
         refine pU 5 54 (bA 14 47) ?_
         refine pU 6 55 (bA 14 111) ?_
         refine pU 7 56 (bA 14 239) ?_
         refine pU 8 57 (bA 14 495) ?_
         refine tU 4 53 (bA 14 511) ?_
         refine tU 9 58 (bA 14 1023) ?_
         refine pU 10 59 (bA 14 2047) ?_
         refine pU 11 60 (bA 14 4095) ?_
         refine tU 12 61 (bA 14 8191) ?_
         refine pU 13 62 (bA 14 16383) ?_
         refine done_ (done_of HT_.out (by kernel_rfl)) ?_
         try go_wp2
         go_roundg k2
         case measure => have := HK1.out; have := HK2.out; omega
         case rel => exact ⟨(x44_2), (wrap64 (x44_2 + 1)), sD, sD, H', ⟨by have := HK1.out; have := HK2.out; omega⟩, ⟨kR⟩, ⟨kR⟩, ⟨kR⟩, ⟨kR⟩, ⟨by repeat (first | (with_reducible first | exact HB.out | apply below_alloc | apply pw_below_drewN | apply below_drew1) | exact HB.out)⟩⟩
        ·rw [if_neg c27] at H
         have c27b0 : decide (((rd_T59 l0 (rd y287 x12_2)).f0) < ((rd_T59 l0 (rd y287 x44_2)).f0)) = false := decide_eq_false c27
         clear c27
         have H' := Aside0.mk H
         clear H
         have p292 : 0 ≤ (x44_2 : Int) := oD
         have q292 : x44_2 < (y287.length : Int) := oD
         obtain ⟨ad292, e292, hx292_0⟩ := Kd.at_int (Kd.R_reads' HO_42.out).2.2 x44_2 p292 q292
         cases e292
         replace p292 := eq_true p292
         replace q292 := eq_true q292
         try go_wp2
         have n0_ := Aside0.mk (Kd.R_drew HO_6.out)
         have n1_ := Aside0.mk (Kd.R_drew HO_7.out)
         have n2_ := Aside0.mk (Kd.R_drew HO_18.out)
         have n3_ := Aside0.mk (Kd.R_drew HO_42.out)
         have n4_ := Aside0.mk (below_drew1 HB.out)
         clear HO_6
         clear HO_7
         clear HO_18
         clear HO_42
         clear HB
         have HO_6 := n0_
         have HO_7 := n1_
         have HO_18 := n2_
         have HO_42 := n3_
         have HB := n4_
         clear n0_ n1_ n2_ n3_ n4_
         have p293 : 0 ≤ ((rd y287 x44_2) : Int) := oD
         have q293 : (rd y287 x44_2) < (l0.length : Int) := oD
         obtain ⟨ad293, e293, hx293_0, hx293_1, hx293_2, hx293_3⟩ := at_T59 HR0.out (rd y287 x44_2) p293 q293
         have hw293_3 := hx293_3
         have hw293_2 := hx293_2
         have hw293_1 := hx293_1
         have hw293_0 := hx293_0
         obtain rfl : ad290 = ad293 := (by injection e293)
         replace hx293_0 := (cB HB.out hx293_0 :)
         replace hx293_1 := (cB HB.out hx293_1 :)
         replace hx293_2 := (cB HB.out hx293_2 :)
         replace hx293_3 := (cB HB.out hx293_3 :)
         replace p293 := eq_true p293
         replace q293 := eq_true q293
         have p294 : 0 ≤ (x12_2 : Int) := oD
         have q294 : x12_2 < (y287.length : Int) := oD
         obtain ⟨ad294, e294, hx294_0⟩ := Kd.at_int (Kd.R_reads' HO_6.out).2.2 x12_2 p294 q294
         obtain rfl : ad292 = ad294 := (by injection e294)
         replace p294 := eq_true p294
         replace q294 := eq_true q294
         have p295 : 0 ≤ ((rd y287 x12_2) : Int) := oD
         have q295 : (rd y287 x12_2) < (l0.length : Int) := oD
         obtain ⟨ad295, e295, hx295_0, hx295_1, hx295_2, hx295_3⟩ := at_T59 HR0.out (rd y287 x12_2) p295 q295
         have hw295_3 := hx295_3
         have hw295_2 := hx295_2
         have hw295_1 := hx295_1
         have hw295_0 := hx295_0
         obtain rfl : ad290 = ad295 := (by injection e295)
         replace hx295_0 := (cB HB.out hx295_0 :)
         replace hx295_1 := (cB HB.out hx295_1 :)
         replace hx295_2 := (cB HB.out hx295_2 :)
         replace hx295_3 := (cB HB.out hx295_3 :)
         replace p295 := eq_true p295
         replace q295 := eq_true q295
         refine start_ (n := 14) (S := fun w' => w'.cell? (ad290.add (((rd y287 x44_2)).toNat * 4)) = some (.int .i64 ((rd_T59 l0 (rd y287 x44_2)).f0)) ∧ w'.cell? ⟨(ad290.add (((rd y287 x44_2)).toNat * 4)).block, (ad290.add (((rd y287 x44_2)).toNat * 4)).off + 1, none⟩ = some (.int .i64 ((rd_T59 l0 (rd y287 x44_2)).f1)) ∧ w'.cell? ⟨(ad290.add (((rd y287 x44_2)).toNat * 4)).block, (ad290.add (((rd y287 x44_2)).toNat * 4)).off + 2, none⟩ = some (.int .i64 ((rd_T59 l0 (rd y287 x44_2)).f2)) ∧ w'.cell? ⟨(ad290.add (((rd y287 x44_2)).toNat * 4)).block, (ad290.add (((rd y287 x44_2)).toNat * 4)).off + 3, none⟩ = some (.int .i64 ((rd_T59 l0 (rd y287 x44_2)).f3)) ∧ w'.cell? (ad292.add (x12_2).toNat) = some (.int .i64 (rd y287 x12_2)) ∧ w'.cell? (ad290.add (((rd y287 x12_2)).toNat * 4)) = some (.int .i64 ((rd_T59 l0 (rd y287 x12_2)).f0)) ∧ w'.cell? ⟨(ad290.add (((rd y287 x12_2)).toNat * 4)).block, (ad290.add (((rd y287 x12_2)).toNat * 4)).off + 1, none⟩ = some (.int .i64 ((rd_T59 l0 (rd y287 x12_2)).f1)) ∧ w'.cell? ⟨(ad290.add (((rd y287 x12_2)).toNat * 4)).block, (ad290.add (((rd y287 x12_2)).toNat * 4)).off + 2, none⟩ = some (.int .i64 ((rd_T59 l0 (rd y287 x12_2)).f2)) ∧ w'.cell? ⟨(ad290.add (((rd y287 x12_2)).toNat * 4)).block, (ad290.add (((rd y287 x12_2)).toNat * 4)).off + 3, none⟩ = some (.int .i64 ((rd_T59 l0 (rd y287 x12_2)).f3))) (ds := []) (bA 14 0) (by kernel_rfl) rfl rfl ⟨((cB HB.out hw293_0 :)), ((cB HB.out hw293_1 :)), ((cB HB.out hw293_2 :)), ((cB HB.out hw293_3 :)), hx294_0, ((cB HB.out hw295_0 :)), ((cB HB.out hw295_1 :)), ((cB HB.out hw295_2 :)), ((cB HB.out hw295_3 :))⟩ (fun hHeld => ?_); refine with_tabW impl_lateRule.tab15 impl_lateRule.bits15 (fun HT_ HW_ => ?_)
         generalize wr.drew = w29 at HO_6 HO_7 HO_18 HO_42 HB hx293_0 hx293_1 hx293_2 hx293_3 hx294_0 hx295_0 hx295_1 hx295_2 hx295_3 hHeld ⊢
         refine pU 0 49 (bA 14 1) ?_
         refine pU 1 50 (bA 14 3) ?_
         refine pU 2 51 (bA 14 7) ?_
         refine pU 3 52 (bA 14 15) ?_
         refine pU 5 54 (bA 14 47) ?_
         refine pU 6 55 (bA 14 111) ?_
         refine pU 7 56 (bA 14 239) ?_
         refine pU 8 57 (bA 14 495) ?_
         refine tU 4 53 (bA 14 511) ?_
         refine tU 9 58 (bA 14 1023) ?_
         refine pU 10 59 (bA 14 2047) ?_
         refine pU 11 60 (bA 14 4095) ?_
         refine tU 12 61 (bA 14 8191) ?_
         refine pU 13 62 (bA 14 16383) ?_
         refine done_ (done_of HT_.out (by kernel_rfl)) ?_
         try go_wp2
         go_roundg k2
         case measure => have := HK1.out; have := HK2.out; omega
         case rel => exact ⟨(x12_2), (wrap64 (x44_2 + 1)), sD, sD, H', ⟨by have := HK1.out; have := HK2.out; omega⟩, ⟨kR⟩, ⟨kR⟩, ⟨kR⟩, ⟨kR⟩, ⟨by repeat (first | (with_reducible first | exact HB.out | apply below_alloc | apply pw_below_drewN | apply below_drew1) | exact HB.out)⟩⟩
       ·rw [if_neg c18] at H
        have c18b0 : decide (x44_2 < (y287.length : Int)) = false := decide_eq_false c18
        clear c18
        by_cases c30 : 0 ≤ x12_2; rotate_left
        ·rw [if_neg c30] at H; exact absurd H (by simp)
        rw [if_pos c30] at H
        have c30b0 : decide (0 ≤ x12_2) = true := decide_eq_true c30
        clear c30
        by_cases c31 : x12_2 < (y287.length : Int); rotate_left
        ·rw [if_neg c31] at H; exact absurd H (by simp)
        rw [if_pos c31] at H
        have c31b0 : decide (x12_2 < (y287.length : Int)) = true := decide_eq_true c31
        clear c31
        by_cases c32 : 0 ≤ (rd y287 x12_2); rotate_left
        ·rw [if_neg c32] at H; exact absurd H (by simp)
        rw [if_pos c32] at H
        have c32b0 : decide (0 ≤ (rd y287 x12_2)) = true := decide_eq_true c32
        clear c32
        by_cases c33 : (rd y287 x12_2) < (l0.length : Int); rotate_left
        ·rw [if_neg c33] at H; exact absurd H (by simp)
        rw [if_pos c33] at H
        have c33b0 : decide ((rd y287 x12_2) < (l0.length : Int)) = true := decide_eq_true c33
        clear c33
        have c34b0 := eq_true (oD : 0 ≤ x12_2)
        by_cases c35 : x12_2 ≤ (y287.length : Int); rotate_left
        ·rw [if_neg c35] at H; exact absurd H (by simp)
        rw [if_pos c35] at H
        have c35b0 := eq_true c35
        have c35b1 : decide (x12_2 ≤ (y287.length : Int)) = true := decide_eq_true c35
        clear c35
        obtain ⟨y298, hy298⟩ : ∃ y_ : List Int, y_ = (y287.take (x12_2 : Int).toNat) := ⟨_, rfl⟩
        replace H : (if 0 ≤ (wrap64 (x12_2 + 1)) then (if (wrap64 (x12_2 + 1)) ≤ (y287.length : Int) then (if x7_1.length < 8796093022208 then (impl_lateRule.l0 k2 l0 (y287.eraseIdx (x12_2 : Int).toNat) (x7_1 ++ [(⟨(rd y283 x20_1), rd y287 x12_2⟩ : S64)]) (wrap64 ((wrap64 (x8_1 + ((rd_T59 l0 (rd y283 x20_1)).f0))) - ((rd_T59 l0 (rd y287 x12_2)).f0))) y283 (y283.length : Int) (wrap64 (x20_1 + 1))) else (none)) else (none)) else (none)) = some (r1, r2) := by first | (rw [hy298]; with_reducible exact H) | (have H2_ := (Option.bind_some _ _).symm.trans H; rw [hy298]; with_reducible exact H2_) | (have H2_ := (Option.bind_some _ _).symm.trans H; with_reducible exact H2_) | with_reducible exact H | (rw [hy298]; exact H) | exact H
        have Ny298 := Aside0.mk hy298
        clear hy298
        obtain ⟨ji36, hji36⟩ : ∃ j_ : Int, (wrap64 (x12_2 + 1)) = j_ := ⟨_, rfl⟩
        replace H : (if 0 ≤ (ji36) then (if (ji36) ≤ (y287.length : Int) then (if x7_1.length < 8796093022208 then (impl_lateRule.l0 k2 l0 (y287.eraseIdx (x12_2 : Int).toNat) (x7_1 ++ [(⟨(rd y283 x20_1), rd y287 x12_2⟩ : S64)]) (wrap64 ((wrap64 (x8_1 + ((rd_T59 l0 (rd y283 x20_1)).f0))) - ((rd_T59 l0 (rd y287 x12_2)).f0))) y283 (y283.length : Int) (wrap64 (x20_1 + 1))) else (none)) else (none)) else (none)) = some (r1, r2) := by first | (rw [hji36] at H; exact H) | (simp only [hji36] at H ⊢; exact H)
        have hji36w : (IntKind.i64.wrap (x12_2 + 1)) = ji36 := (i64_w _).trans hji36
        by_cases c37 : 0 ≤ (ji36); rotate_left
        ·rw [if_neg c37] at H; exact absurd H (by simp)
        rw [if_pos c37] at H
        have c37b0 := eq_true c37
        have c37b1 : decide (0 ≤ (ji36)) = true := decide_eq_true c37
        clear c37
        by_cases c38 : (ji36) ≤ (y287.length : Int); rotate_left
        ·rw [if_neg c38] at H; exact absurd H (by simp)
        rw [if_pos c38] at H
        have c38b0 := eq_true c38
        have c38b1 : decide ((ji36) ≤ (y287.length : Int)) = true := decide_eq_true c38
        clear c38
        obtain ⟨y302, hy302⟩ : ∃ y_ : List Int, y_ = (y287.drop ((ji36) : Int).toNat) := ⟨_, rfl⟩
        replace H : (if x7_1.length < 8796093022208 then (impl_lateRule.l0 k2 l0 (y287.eraseIdx (x12_2 : Int).toNat) (x7_1 ++ [(⟨(rd y283 x20_1), rd y287 x12_2⟩ : S64)]) (wrap64 ((wrap64 (x8_1 + ((rd_T59 l0 (rd y283 x20_1)).f0))) - ((rd_T59 l0 (rd y287 x12_2)).f0))) y283 (y283.length : Int) (wrap64 (x20_1 + 1))) else (none)) = some (r1, r2) := by first | (rw [hy302]; with_reducible exact H) | (have H2_ := (Option.bind_some _ _).symm.trans H; rw [hy302]; with_reducible exact H2_) | (have H2_ := (Option.bind_some _ _).symm.trans H; with_reducible exact H2_) | with_reducible exact H | (rw [hy302]; exact H) | exact H
        have Ny302 := Aside0.mk hy302
        clear hy302
        obtain ⟨y306, hy306⟩ : ∃ y_ : List Int, y_ = (y287.eraseIdx (x12_2 : Int).toNat) := ⟨_, rfl⟩
        replace H : (if x7_1.length < 8796093022208 then (impl_lateRule.l0 k2 l0 y306 (x7_1 ++ [(⟨(rd y283 x20_1), rd y287 x12_2⟩ : S64)]) (wrap64 ((wrap64 (x8_1 + ((rd_T59 l0 (rd y283 x20_1)).f0))) - ((rd_T59 l0 (rd y287 x12_2)).f0))) y283 (y283.length : Int) (wrap64 (x20_1 + 1))) else (none)) = some (r1, r2) := by first | (rw [hy306]; with_reducible exact H) | (have H2_ := (Option.bind_some _ _).symm.trans H; rw [hy306]; with_reducible exact H2_) | (have H2_ := (Option.bind_some _ _).symm.trans H; with_reducible exact H2_) | with_reducible exact H | (rw [hy306]; exact H) | exact H
        have Ny306 := Aside0.mk hy306
        clear hy306
        by_cases c39 : x7_1.length < 8796093022208; rotate_left
        ·rw [if_neg c39] at H; exact absurd H (by simp)
        rw [if_pos c39] at H
        have LMc39 := Aside0.mk c39
        clear c39
        obtain ⟨y309, hy309⟩ : ∃ y_ : List (S64), y_ = (x7_1 ++ [(⟨(rd y283 x20_1), rd y287 x12_2⟩ : S64)]) := ⟨_, rfl⟩
        replace H : (impl_lateRule.l0 k2 l0 y306 y309 (wrap64 ((wrap64 (x8_1 + ((rd_T59 l0 (rd y283 x20_1)).f0))) - ((rd_T59 l0 (rd y287 x12_2)).f0))) y283 (y283.length : Int) (wrap64 (x20_1 + 1))) = some (r1, r2) := by first | (rw [hy309]; with_reducible exact H) | (have H2_ := (Option.bind_some _ _).symm.trans H; rw [hy309]; with_reducible exact H2_) | (have H2_ := (Option.bind_some _ _).symm.trans H; with_reducible exact H2_) | with_reducible exact H | (rw [hy309]; exact H) | exact H
        have Ny309 := Aside0.mk hy309
        clear hy309
        have H' := Aside0.mk H
        clear H
        have p296 : 0 ≤ (x12_2 : Int) := oD
        have q296 : x12_2 < (y287.length : Int) := oD
        obtain ⟨ad296, e296, hx296_0⟩ := Kd.at_int (Kd.R_reads' HO_6.out).2.2 x12_2 p296 q296
        cases e296
        replace p296 := eq_true p296
        replace q296 := eq_true q296
        have p297 : 0 ≤ ((rd y287 x12_2) : Int) := oD
        have q297 : (rd y287 x12_2) < (l0.length : Int) := oD
        obtain ⟨ad297, e297, hx297_0, hx297_1, hx297_2, hx297_3⟩ := at_T59 HR0.out (rd y287 x12_2) p297 q297
        obtain rfl : ad290 = ad297 := (by injection e297)
        replace hx297_0 := (cB HB.out hx297_0 :)
        replace hx297_1 := (cB HB.out hx297_1 :)
        replace hx297_2 := (cB HB.out hx297_2 :)
        replace hx297_3 := (cB HB.out hx297_3 :)
        replace p297 := eq_true p297
        replace q297 := eq_true q297
        try go_wp2
        have n0_ := Aside0.mk (Kd.R_drew HO_6.out)
        have n1_ := Aside0.mk (Kd.R_drew HO_7.out)
        have n2_ := Aside0.mk (Kd.R_drew HO_18.out)
        have n3_ := Aside0.mk (Kd.R_drew HO_42.out)
        have n4_ := Aside0.mk (below_drew1 HB.out)
        clear HO_6
        clear HO_7
        clear HO_18
        clear HO_42
        clear HB
        have HO_6 := n0_
        have HO_7 := n1_
        have HO_18 := n2_
        have HO_42 := n3_
        have HB := n4_
        clear n0_ n1_ n2_ n3_ n4_
        have q41 : (x12_2 : Int) ≤ ((y287.length : Int) : Int) := oD
        obtain ⟨i041, hi041, _, hsz41, _⟩ := info_parts info3
        have hroom41 : y287.length ≤ co17 := (Kd.R_reads' HO_6.out).2.1
        have hC41 : Kd.C (Kd.int .i64) _ (some ad296) y287.length y287 := (Kd.R_reads' HO_6.out).2.2
        have hcut41 := cut_to (P := Try.prog) 37 3 .i64 Try.underlying37 hi041 (some ad296) y287.length co17 x12_2 (oD) q41 hroom41
        have hr41 := Kd.C_take (m := (x12_2 : Int).toNat) hC41 (by omega)
        have hy41 : y298.length = (x12_2 : Int).toNat := (by rw [Ny298.out, List.length_take]; omega)
        rw [← Ny298.out] at hr41
        rw [← hy41] at hcut41
        have HR301 := Aside0.mk hr41
        have HC301 := Aside0.mk (show y298.length ≤ co17 from by omega)
        clear hr41 hC41 hroom41 hi041 hsz41
        have KY41 := Aside0.mk hy41
        clear hy41
        have KL41 := Aside0.mk (show (x12_2 : Int).toNat ≤ y287.length from by omega)
        replace q41 := eq_true q41
        have q42 : ((ji36) : Int) ≤ ((y287.length : Int) : Int) := oD
        obtain ⟨i042, hi042, _, hsz42, _⟩ := info_parts info3
        have hroom42 : y287.length ≤ co17 := (Kd.R_reads' HO_6.out).2.1
        have hC42 : Kd.C (Kd.int .i64) _ (some ad296) y287.length y287 := (Kd.R_reads' HO_6.out).2.2
        have q042 : (0 : Int) ≤ ((ji36) : Int) := oD
        have hcut42 := cut_from (P := Try.prog) 37 3 .i64 Try.underlying37 hi042 1 hsz42 (some ad296) y287.length co17 (ji36) q042 q42
        have hr42 := Kd.C_drop (m := ((ji36) : Int).toNat) (c := co17) hC42 (by omega) hroom42
        obtain ⟨A42, hA42⟩ : ∃ A1, A1 = (if co17 = ((ji36) : Int).toNat then (some ad296) else ((some ad296) : Option Addr).map (·.add (((ji36) : Int).toNat * 1))) := ⟨_, rfl⟩
        obtain ⟨c42, hc42⟩ : ∃ c1, c1 = co17 - ((ji36) : Int).toNat := ⟨_, rfl⟩
        have hy42 : y302.length = y287.length - ((ji36) : Int).toNat := (by rw [Ny302.out, List.length_drop] <;> omega)
        rw [show (y287).drop ((ji36) : Int).toNat = y302 from Ny302.out.symm] at hr42
        replace hr42 : Kd.C (Kd.int .i64) _ A42 y302.length y302 := (by rw [hA42]; exact hr42)
        rw [← hy42, ← hA42, ← hc42] at hcut42
        have HR305 := Aside0.mk hr42
        have HC305 := Aside0.mk (show y302.length ≤ c42 from by rw [hy42, hc42]; exact Nat.sub_le_sub_right hroom42 _)
        clear hr42 hC42 hroom42 hi042 hsz42 hc42
        have KY42 := Aside0.mk hy42
        have KA42 := Aside0.mk hA42
        clear hy42 hA42
        have KL42 := Aside0.mk (show ((ji36) : Int).toNat ≤ y287.length from by omega)
        replace q42 := eq_true q42
        obtain ⟨go44, co44, eo44, gb44, gl44, cl44, HG44⟩ := Kd.R_form HO_6.out (by have hj_ : 0 ≤ (x12_2 : Int) := oD; have hl_ : (ji36 : Int) ≤ (y287.length : Int) := oD; have hh_ : (x12_2 : Int) ≤ (y287.length : Int) := oD; rw [← hji36] at hl_; unfold wrap64 at hl_; omega)
        (first | cases eo44 | (injection eo44 with ea_ en_ ec_; (first | subst ea_ | (injection ea_ with ea_; subst ea_)); subst ec_; clear en_))
        have GB44 := Aside0.mk gb44
        have GG44 := Aside0.mk HG44
        clear gb44 gl44 HG44
        (first | simp only [add_plain] at hx296_0 | skip)
        refine start_ (n := 9) (S := fun w' => True) (ds := []) #[false, false, false, false, false, false, false, false, false] (by kernel_rfl) rfl rfl trivial (fun hHeld => ?_); refine with_tabW impl_lateRule.tab20 impl_lateRule.bits20 (fun HT_ HW_ => ?_)
        generalize wr.drew = w40 at HO_6 HO_7 HO_18 HO_42 HB GG44 HR301 HR305 hx296_0 hHeld ⊢
        refine pU 0 76 #[true, false, false, false, false, false, false, false, false] ?_
        refine pU 1 77 #[true, true, false, false, false, false, false, false, false] ?_
        refine pU 2 78 #[true, true, true, false, false, false, false, false, false] ?_
        refine pU 3 79 #[true, true, true, true, false, false, false, false, false] ?_
        refine pU 4 80 #[true, true, true, true, true, false, false, false, false] ?_
        refine pU 5 81 #[true, true, true, true, true, true, false, false, false] ?_
        refine pU 6 82 #[true, true, true, true, true, true, true, false, false] ?_
        refine one_ (i := 7) (N := some 83) #[true, true, true, true, true, true, true, true, false] rfl rfl (one_of HT_.out (by kernel_rfl)) (by decide) (fun K hK => ?_)
        have hj_ : 0 ≤ (x12_2 : Int) := oD
        have hl_ : (ji36 : Int) ≤ (y287.length : Int) := oD
        have hh_ : (x12_2 : Int) ≤ (y287.length : Int) := oD
        have hb_ := (Kd.R_reads' HO_6.out).2.2.2.1
        have h0_ : (0 : Int) ≤ (ji36 : Int) := oD
        have hy1_ := KY41.out
        have hk_ : (ji36 : Int).toNat = y298.length + 1 := (by have hw_ : (ji36 : Int) = x12_2 + 1 := (by have h00_ := h0_; rw [← hji36] at h00_ ⊢; unfold wrap64 at h00_ ⊢; omega); rw [hw_]; omega)
        refine Kd.R_delete_step (Kd.int .i64) (w0 := w) w.heap.size (by rfl) (.tmp 78) (.tmp 82) 37 3 rfl Try.underlying37 (by kernel_rfl) (g := go44) (n := y287.length) (c := co17) (k := y298.length) rfl rfl ?hA ?hm (by (with_reducible repeat (first | apply Kd.R_alloc | apply Kd.R_drewN | apply Kd.R_drew)); exact HO_6.out) ?hk bB (below_size bB) ?_
        (case hA => have ha_ := KA42.out; rw [hk_] at ha_; exact ha_)
        (case hm => have ha_ := KY42.out; omega)
        (case hk => omega)
        intro w43 ho hb hg
        clear hj_ hl_ hh_ hb_ hk_ h0_
        rw [hy1_, ← Ny306.out] at ho
        clear hy1_
        have hn_ : y287.length - 1 = y306.length := (by have := (Kd.R_reads' ho).1; omega)
        rw [hn_] at ho ⊢
        clear hn_
        have n0_ := Aside0.mk (ho)
        have n1_ := Aside0.mk (Kd.R_over' (v := (.slice (some ⟨go44, 0, none⟩) y287.length co17)) (by (with_reducible repeat (first | apply Kd.R_alloc | apply Kd.R_drewN | apply Kd.R_drew)); exact HO_7.out) (Kd.R_typed HO_6.out) (by decide) hg)
        have n2_ := Aside0.mk (Kd.R_after (v := (.slice (some ⟨go44, 0, none⟩) y287.length co17)) (v1 := .slice (some ⟨go44, 0, none⟩) y306.length co17) (ok := (fun k_ => some k_ ≠ (.slice (some ⟨go44, 0, none⟩) y287.length co17 : Value).ownBlock)) (by (with_reducible repeat (first | apply Kd.R_alloc | apply Kd.R_drewN | apply Kd.R_drew)); exact Kd.R_mono HO_18.out (fun _ hk => ⟨hk.2, hk.1⟩)) hg (.inl rfl))
        have n3_ := Aside0.mk (hb)
        clear HO_6
        clear HO_7
        clear HO_18
        clear HB
        have HO_6 := n0_
        have HO_7 := n1_
        have HO_18 := n2_
        have HB := n3_
        clear n0_ n1_ n2_ n3_
        clear ho hb hg
        refine hK.out _ _ trivial (fun hHeld => ?_)
        clear hK K
        refine norm_ (a' := ?_) ?_ ?_
        rotate_left
        ·show Act.put _ (some 83) _ = _
         simp only [Act.put, sA, sZ, sS, i64_w, i32_w]
         rfl
        refine pU 8 6 #[true, true, true, true, true, true, true, true, true] ?_
        refine done_ (done_of HT_.out (by kernel_rfl)) ?_
        try go_wp2_with (first | ((with_reducible refine gate_builtin (b := .append) (xs := #[.tmp 84, .tmp 88]) rfl ?_); at_builtin; refine Kd.R_append k64 (w0 := w) w.heap.size rfl (.tmp 84) (.tmp 88) 50 64 (.agg #[(.int .i64 0), (.int .i64 0)]) 16 rfl Try.underlying50 info64 rfl (by decide) (by omega) u7 x7_1 (⟨(rd y283 x20_1), rd y287 x12_2⟩ : S64) [.int .i64 (rd y283 x20_1), .int .i64 (rd y287 x12_2)] (fun _ => True) (fun _ => False) rfl rfl ?aP (fun _ hk => hk.elim) ?aF ?aO ?aB ?aS ?aL ?_; (case aP => exact k64_mkM _ _ _ (⟨(rd y283 x20_1), rd y287 x12_2⟩ : S64)); (case aB => exact bB); (case aF => exact (fun _ _ => trivial)); (case aO => exact (by (with_reducible repeat (first | apply Kd.R_alloc | apply Kd.R_drewN | apply Kd.R_drew)); exact HO_7.out)); (case aS => exact (below_size bB)); (case aL => have := LMc39.out; omega); intro v310 w45 ho hb hg hat; rw [← Ny309.out] at ho; have n0_ := Aside0.mk (Kd.R_over' (by (with_reducible repeat (first | apply Kd.R_alloc | apply Kd.R_drewN | apply Kd.R_drew)); exact HO_6.out) (Kd.R_typed (by (with_reducible repeat (first | apply Kd.R_alloc | apply Kd.R_drewN | apply Kd.R_drew)); exact HO_7.out)) (by decide) hg); have n1_ := Aside0.mk (Kd.R_over' (by (with_reducible repeat (first | apply Kd.R_alloc | apply Kd.R_drewN | apply Kd.R_drew)); exact HO_18.out) (Kd.R_typed (by (with_reducible repeat (first | apply Kd.R_alloc | apply Kd.R_drewN | apply Kd.R_drew)); exact HO_7.out)) (by decide) hg); have n2_ := Aside0.mk (hb); have n3_ := Aside0.mk (ho); clear HO_6; clear HO_18; clear HB; clear HO_7; have HO_6 := n0_; have HO_18 := n1_; have HB := n2_; have HO311 := n3_; clear n0_ n1_ n2_ n3_; clear ho hb hg hat))
        go_roundg k2
        case measure => have := HK1.out; have := HK2.out; omega
        case rel => exact ⟨(y306), (y309), (wrap64 ((wrap64 (x8_1 + ((rd_T59 l0 (rd y283 x20_1)).f0))) - ((rd_T59 l0 (rd y287 x12_2)).f0))), (wrap64 (x20_1 + 1)), sD, sD, H', ⟨by have := HK1.out; have := HK2.out; omega⟩, ⟨kR⟩, ⟨kR⟩, ⟨by (with_reducible repeat (first | apply Kd.R_alloc | apply Kd.R_drewN | apply Kd.R_drew)); exact Kd.R_mono HO_18.out (fun _ hk => hk.2)⟩, ⟨by repeat (first | (with_reducible first | exact HB.out | apply below_alloc | apply pw_below_drewN | apply below_drew1) | exact HB.out)⟩⟩
    ·rw [if_neg c15] at H
     have c15b0 : decide (((rd_T59 l0 (rd y283 x20_1)).f3) < (wrap64 (x8_1 + ((rd_T59 l0 (rd y283 x20_1)).f0)))) = false := decide_eq_false c15
     clear c15
     by_cases c46 : x7_1.length < 8796093022208; rotate_left
     ·rw [if_neg c46] at H; exact absurd H (by simp)
     rw [if_pos c46] at H
     have LMc46 := Aside0.mk c46
     clear c46
     obtain ⟨y312, hy312⟩ : ∃ y_ : List (S64), y_ = (x7_1 ++ [(⟨rd y283 x20_1, (-1)⟩ : S64)]) := ⟨_, rfl⟩
     replace H : (impl_lateRule.l0 k1 l0 y287 y312 (wrap64 (x8_1 + ((rd_T59 l0 (rd y283 x20_1)).f0))) y283 (y283.length : Int) (wrap64 (x20_1 + 1))) = some (r1, r2) := by first | (rw [hy312]; with_reducible exact H) | (have H2_ := (Option.bind_some _ _).symm.trans H; rw [hy312]; with_reducible exact H2_) | (have H2_ := (Option.bind_some _ _).symm.trans H; with_reducible exact H2_) | with_reducible exact H | (rw [hy312]; exact H) | exact H
     have Ny312 := Aside0.mk hy312
     clear hy312
     have H' := Aside0.mk H
     clear H
     have p286 : 0 ≤ (x20_1 : Int) := oD
     have q286 : x20_1 < (y283.length : Int) := oD
     obtain ⟨ad286, e286, hx286_0⟩ := Kd.at_int (Kd.R_reads' HO_18.out).2.2 x20_1 p286 q286
     cases e286
     replace p286 := eq_true p286
     replace q286 := eq_true q286
     go_wp2_with (first | ((with_reducible refine gate_builtin (b := .append) (xs := #[.tmp 24, .tmp 26]) rfl ?_); at_builtin; refine Kd.R_append (Kd.int .i64) (w0 := w) w.heap.size rfl (.tmp 24) (.tmp 26) 37 3 (.int .i64 0) 8 rfl Try.underlying37 info3 rfl (by decide) (by omega) u6 x6_1 (rd y283 x20_1) [.int .i64 (rd y283 x20_1)] (fun k_ => some k_ ≠ (.slice (some ad286) y283.length co7 : Value).ownBlock) (fun _ => False) rfl rfl ?aP (fun _ hk => hk.elim) ?aF ?aO ?aB ?aS ?aL ?_; (case aP => exact rfl); (case aB => exact bB); (case aF => exact (fun k_ hk => Kd.fresh' (Kd.R_lt (by (with_reducible repeat (first | apply Kd.R_alloc | apply Kd.R_drewN | apply Kd.R_drew)); exact HO_18.out)) k_ hk)); (case aO => exact (by (with_reducible repeat (first | apply Kd.R_alloc | apply Kd.R_drewN | apply Kd.R_drew)); exact HO_6.out)); (case aS => exact (below_size bB)); (case aL => have := LMc12.out; omega); intro v288 w47 ho hb hg hat; rw [← Ny287.out] at ho; have n0_ := Aside0.mk (Kd.R_over' (by (with_reducible repeat (first | apply Kd.R_alloc | apply Kd.R_drewN | apply Kd.R_drew)); exact HO_7.out) (Kd.R_typed (by (with_reducible repeat (first | apply Kd.R_alloc | apply Kd.R_drewN | apply Kd.R_drew)); exact HO_6.out)) (by decide) hg); have n1_ := Aside0.mk (Kd.R_after (ok := (fun _ => True)) (by (with_reducible repeat (first | apply Kd.R_alloc | apply Kd.R_drewN | apply Kd.R_drew)); exact Kd.R_mono HO_18.out (fun _ hk => ⟨trivial, hk⟩)) hg hat); have n2_ := Aside0.mk (hb); have n3_ := Aside0.mk (ho); clear HO_7; clear HO_18; clear HB; clear HO_6; have HO_7 := n0_; have HO_18 := n1_; have HB := n2_; have HO289 := n3_; clear n0_ n1_ n2_ n3_; clear ho hb hg hat; have p290 : 0 ≤ ((rd y283 x20_1) : Int) := oD; have q290 : (rd y283 x20_1) < (l0.length : Int) := oD; obtain ⟨ad290, e290, hx290_0, hx290_1, hx290_2, hx290_3⟩ := at_T59 HR0.out (rd y283 x20_1) p290 q290; cases e290; replace hx290_0 := (cB HB.out hx290_0 :); replace hx290_1 := (cB HB.out hx290_1 :); replace hx290_2 := (cB HB.out hx290_2 :); replace hx290_3 := (cB HB.out hx290_3 :); replace p290 := eq_true p290; replace q290 := eq_true q290; have p291 : 0 ≤ ((rd y283 x20_1) : Int) := oD; have q291 : (rd y283 x20_1) < (l0.length : Int) := oD; obtain ⟨ad291, e291, hx291_0, hx291_1, hx291_2, hx291_3⟩ := at_T59 HR0.out (rd y283 x20_1) p291 q291; obtain rfl : ad290 = ad291 := (by injection e291); replace hx291_0 := (cB HB.out hx291_0 :); replace hx291_1 := (cB HB.out hx291_1 :); replace hx291_2 := (cB HB.out hx291_2 :); replace hx291_3 := (cB HB.out hx291_3 :); replace p291 := eq_true p291; replace q291 := eq_true q291) | ((with_reducible refine gate_builtin (b := .append) (xs := #[.tmp 84, .tmp 88]) rfl ?_); at_builtin; refine Kd.R_append k64 (w0 := w) w.heap.size rfl (.tmp 84) (.tmp 88) 50 64 (.agg #[(.int .i64 0), (.int .i64 0)]) 16 rfl Try.underlying50 info64 rfl (by decide) (by omega) u7 x7_1 (⟨rd y283 x20_1, (-1)⟩ : S64) [.int .i64 (rd y283 x20_1), .int .i64 (-1)] (fun _ => True) (fun _ => False) rfl rfl ?aP (fun _ hk => hk.elim) ?aF ?aO ?aB ?aS ?aL ?_; (case aP => exact k64_mkM _ _ _ (⟨rd y283 x20_1, (-1)⟩ : S64)); (case aB => exact bB); (case aF => exact (fun _ _ => trivial)); (case aO => exact (by (with_reducible repeat (first | apply Kd.R_alloc | apply Kd.R_drewN | apply Kd.R_drew)); exact HO_7.out)); (case aS => exact (below_size bB)); (case aL => have := LMc46.out; omega); intro v313 w48 ho hb hg hat; rw [← Ny312.out] at ho; have n0_ := Aside0.mk (Kd.R_over' (by (with_reducible repeat (first | apply Kd.R_alloc | apply Kd.R_drewN | apply Kd.R_drew)); exact HO_18.out) (Kd.R_typed (by (with_reducible repeat (first | apply Kd.R_alloc | apply Kd.R_drewN | apply Kd.R_drew)); exact HO_7.out)) (by decide) hg); have n1_ := Aside0.mk (Kd.R_over' (by (with_reducible repeat (first | apply Kd.R_alloc | apply Kd.R_drewN | apply Kd.R_drew)); exact HO289.out) (Kd.R_typed (by (with_reducible repeat (first | apply Kd.R_alloc | apply Kd.R_drewN | apply Kd.R_drew)); exact HO_7.out)) (by decide) hg); have n2_ := Aside0.mk (hb); have n3_ := Aside0.mk (ho); clear HO_18; clear HO289; clear HB; clear HO_7; have HO_18 := n0_; have HO289 := n1_; have HB := n2_; have HO314 := n3_; clear n0_ n1_ n2_ n3_; clear ho hb hg hat))
     go_roundg k1
     case measure => have := HK1.out; omega
     case rel => exact ⟨(y287), (y312), (wrap64 (x8_1 + ((rd_T59 l0 (rd y283 x20_1)).f0))), (wrap64 (x20_1 + 1)), sD, sD, H', ⟨by have := HK1.out; omega⟩, ⟨kR⟩, ⟨kR⟩, ⟨by (with_reducible repeat (first | apply Kd.R_alloc | apply Kd.R_drewN | apply Kd.R_drew)); exact Kd.R_mono HO_18.out (fun _ hk => hk.2)⟩, ⟨by repeat (first | (with_reducible first | exact HB.out | apply below_alloc | apply pw_below_drewN | apply below_drew1) | exact HB.out)⟩⟩
   ·rw [if_neg c9] at H
    have c9b0 : decide (x20_1 < (y283.length : Int)) = false := decide_eq_false c9
    clear c9
    simp only [Option.some.injEq, Prod.mk.injEq] at H
    obtain ⟨rfl, rfl⟩ := H
    go_wp2
    go_ret2
    exact ⟨_, _, by first | rfl | (simp [errW_none, errW_some] <;> rfl) | (simp [*, errW_none, errW_some] <;> rfl), by (with_reducible repeat (first | apply Kd.R_alloc | apply Kd.R_drewN | apply Kd.R_drew)); exact Kd.R_mono HO_6.out (fun _ hk => trivial), by (with_reducible repeat (first | apply Kd.R_alloc | apply Kd.R_drewN | apply Kd.R_drew)); exact HO_7.out, bB⟩

/-! ### impl_LateSteps: function 41 -/
def impl_LateSteps.f (k : Nat) (l0 : List (S59)) : Option ((List (S64)) × Bool) := (impl_IsPlain.f k l0).bind fun t315 => (if t315 = true then ((impl_lateRule.f k l0 (l0.length : Int)).bind fun bt316 => (some (bt316.2, true))) else (some (([] : List (S64)), false)))
theorem impl_LateSteps.mono : ∀ a0 k, LeO (impl_LateSteps.f k a0) (impl_LateSteps.f (k + 1) a0) := by
 intro a0 k
 unfold impl_LateSteps.f
 repeat' first
   | (with_reducible exact impl_IsPlain.mono _ _)
   | (with_reducible exact impl_lateRule.mono _ _ _)
   | (with_reducible exact LeO.refl _)
   | (with_reducible exact LeO.none _)
   | (with_reducible refine LeO.ite ?_ ?_)
   | (with_reducible refine LeO.bind ?_ (fun _ => ?_))
   | exact impl_IsPlain.mono _ _
   | exact impl_lateRule.mono _ _ _
   | exact LeO.none _
   | refine LeO.ite ?_ ?_
   | refine LeO.bind ?_ (fun _ => ?_)
set_option maxHeartbeats 8000000 in
set_option maxRecDepth 100000 in
theorem impl_LateSteps.calls (k : Nat) (A0 : Option Addr) (c0 : Nat) (l0 : List (S59)) (r1 : List (S64)) (r2 : Bool) (w : World) (hr0 : Kd.C k59 w A0 l0.length l0) (hc0 : l0.length ≤ c0) (h : impl_LateSteps.f k l0 = some (r1, r2)) :
  Calls Try.prog 41 #[.slice A0 l0.length c0] w fun e w' => ∃ v0_ : Value, e = .returned (.tuple #[v0_, .bool r2]) ∧ Kd.R k64 64 w' w.heap.size (fun _ => True) v0_ r1 ∧ Below w.heap.size w w' := by
 have HR0 := Aside0.mk hr0
 have HC0 := Aside0.mk hc0
 clear hr0 hc0
 have HB := Aside0.mk (Below.refl w.heap.size w)
 have H : ((impl_IsPlain.f k l0).bind fun t315 => (if t315 = true then ((impl_lateRule.f k l0 (l0.length : Int)).bind fun bt316 => (some (bt316.2, true))) else (some (([] : List (S64)), false)))) = some (r1, r2) := h
 clear h
 replace H := Option.bind_eq_some_iff.mp H
 obtain ⟨t315, A20, H⟩ := H
 replace H : (if t315 = true then ((impl_lateRule.f k l0 (l0.length : Int)).bind fun bt316 => (some (bt316.2, true))) else (some (([] : List (S64)), false))) = some (r1, r2) := H
 have A2 := Aside0.mk A20
 clear A20
 by_cases c3 : t315 = true
 ·subst c3
  have H1 : ((impl_lateRule.f k l0 (l0.length : Int)).bind fun bt316 => (some (bt316.2, true))) = some (r1, r2) := by rw [if_pos rfl] at H; exact H
  clear H
  have H := H1
  clear H1
  replace H := Option.bind_eq_some_iff.mp H
  obtain ⟨⟨t316, t317⟩, A40, H⟩ := H
  replace H : (some (t317, true)) = some (r1, r2) := H
  have A4 := Aside0.mk A40
  clear A40
  simp only [Option.some.injEq, Prod.mk.injEq] at H
  obtain ⟨rfl, rfl⟩ := H
  go_enter Try.func41, Try.ntmps41
  go_wp2_with (first | ((with_reducible refine gate_callee (f := 59) rfl ?_); refine goesL_ (some 7) rfl rfl Try.func59 (by kernel_rfl) rfl #[.slice A0 l0.length c0] rfl aE ?_; (with_reducible refine (impl_IsPlain.calls k _ _ l0 true _ ?side1 ?side2 A2.out).mono ?_); (case side1 => repeat (first | exact HR0.out | (with_reducible refine Kd.C_alloc ?_ _) | (with_reducible refine Kd.C_drewN ?_ _) | (with_reducible refine Kd.C_drew ?_))); (case side2 => exact HC0.out); rintro e w5 ⟨rfl, hb⟩; refine ⟨_, rfl, ?_⟩; have n0_ := Aside0.mk (below_step bB hb); clear HB; have HB := n0_; clear n0_; (try clear hb); (try clear hb2); (try clear hk); (try clear hi)) | ((with_reducible refine gate_callee (f := 88) rfl ?_); refine goesL_ (some 13) rfl rfl Try.func88 (by kernel_rfl) rfl #[.slice A0 l0.length c0, .int .i64 (l0.length : Int)] rfl aE ?_; (with_reducible refine (impl_lateRule.calls k _ _ l0 (l0.length : Int) t316 t317 _ ?side1 ?side2 A4.out).mono ?_); (case side1 => repeat (first | exact (Kd.C_below HR0.out HB.out) | (with_reducible refine Kd.C_alloc ?_ _) | (with_reducible refine Kd.C_drewN ?_ _) | (with_reducible refine Kd.C_drew ?_))); (case side2 => exact HC0.out); rintro e w6 ⟨v318, v320, rfl, ho0, ho1, hb⟩; refine ⟨_, rfl, ?_⟩; have n0_ := Aside0.mk (Kd.R_lower ho0 (below_size bB)); have n1_ := Aside0.mk (Kd.R_lower ho1 (below_size bB)); have n2_ := Aside0.mk (below_step bB hb); clear HB; have HO319 := n0_; have HO321 := n1_; have HB := n2_; clear n0_ n1_ n2_; (try clear hb); (try clear hb2); (try clear hk); (try clear hi); (try clear ho0); (try clear ho1)))
  go_ret2
  exact ⟨_, by first | rfl | (simp [errW_none, errW_some] <;> rfl) | (simp [*, errW_none, errW_some] <;> rfl), by (with_reducible repeat (first | apply Kd.R_alloc | apply Kd.R_drewN | apply Kd.R_drew)); exact HO321.out, bB⟩
 ·replace c3 := Bool.eq_false_iff.mpr c3
  subst c3
  have H1 : (some (([] : List (S64)), false)) = some (r1, r2) := by rw [if_neg (show ¬ (false = true) by decide)] at H; exact H
  clear H
  have H := H1
  clear H1
  simp only [Option.some.injEq, Prod.mk.injEq] at H
  obtain ⟨rfl, rfl⟩ := H
  go_enter Try.func41, Try.ntmps41
  go_wp2_with (first | ((with_reducible refine gate_callee (f := 59) rfl ?_); refine goesL_ (some 7) rfl rfl Try.func59 (by kernel_rfl) rfl #[.slice A0 l0.length c0] rfl aE ?_; (with_reducible refine (impl_IsPlain.calls k _ _ l0 false _ ?side1 ?side2 A2.out).mono ?_); (case side1 => repeat (first | exact HR0.out | (with_reducible refine Kd.C_alloc ?_ _) | (with_reducible refine Kd.C_drewN ?_ _) | (with_reducible refine Kd.C_drew ?_))); (case side2 => exact HC0.out); rintro e w7 ⟨rfl, hb⟩; refine ⟨_, rfl, ?_⟩; have n0_ := Aside0.mk (below_step bB hb); clear HB; have HB := n0_; clear n0_; (try clear hb); (try clear hb2); (try clear hk); (try clear hi)))
  go_ret2
  exact ⟨_, by first | rfl | (simp [errW_none, errW_some] <;> rfl) | (simp [*, errW_none, errW_some] <;> rfl), by first | exact Kd.R_nil _ _ _ _ _ | exact Kd.N_nil _ _ _ _ _ | exact Kd.V_nil _ _ _ _ _ | exact Kd.Q_nil _ _ _ _ _ | exact Kd.S_nil _ _ _ _ _, bB⟩

/-! ### laws_eqIntA2: function 89 -/
def laws_eqIntA2.l0 : Nat → Int → Int → Int → Int → Int → Option (Bool)
 | 0, _, _, _, _, _ => none
 | k + 1, x5, x323000, x323001, x324000, x324001 => if x5 < 2 then (if x5 = 0 then (if x323000 = x324000 then (laws_eqIntA2.l0 k (wrap64 (x5 + 1)) x323000 x323001 x324000 x324001) else (some false)) else (if x5 = 1 then (if x323001 = x324001 then (laws_eqIntA2.l0 k (wrap64 (x5 + 1)) x323000 x323001 x324000 x324001) else (some false)) else (none))) else (some true)
def laws_eqIntA2.f (k : Nat) (a0_0 : Int) (a0_1 : Int) (a1_0 : Int) (a1_1 : Int) : Option (Bool) := laws_eqIntA2.l0 k 0 a0_0 a0_1 a1_0 a1_1
theorem laws_eqIntA2.mono_l : ∀ k, (∀ y0 y1 y2 y3 y4, LeO (laws_eqIntA2.l0 k y0 y1 y2 y3 y4) (laws_eqIntA2.l0 (k + 1) y0 y1 y2 y3 y4))
 | 0 => fun _ _ _ _ _ r h => by simp [laws_eqIntA2.l0] at h
 | k + 1 => by
  have ih0 := laws_eqIntA2.mono_l k
  ·intro y0 y1 y2 y3 y4
   unfold laws_eqIntA2.l0
   repeat' first
   | (with_reducible exact ih0 _ _ _ _ _)
   | (with_reducible exact LeO.refl _)
   | (with_reducible exact LeO.none _)
   | (with_reducible refine LeO.ite ?_ ?_)
   | (with_reducible refine LeO.bind ?_ (fun _ => ?_))
   | exact ih0 _ _ _ _ _
   | exact LeO.none _
   | refine LeO.ite ?_ ?_
   | refine LeO.bind ?_ (fun _ => ?_)
theorem laws_eqIntA2.mono : ∀ a0 a1 a2 a3 k, LeO (laws_eqIntA2.f k a0 a1 a2 a3) (laws_eqIntA2.f (k + 1) a0 a1 a2 a3) := by
 intro a0 a1 a2 a3 k
 have ih0 := laws_eqIntA2.mono_l k
 unfold laws_eqIntA2.f
 repeat' first
   | (with_reducible exact ih0 _ _ _ _ _)
   | (with_reducible exact LeO.refl _)
   | (with_reducible exact LeO.none _)
   | (with_reducible refine LeO.ite ?_ ?_)
   | (with_reducible refine LeO.bind ?_ (fun _ => ?_))
   | exact ih0 _ _ _ _ _
   | exact LeO.none _
   | refine LeO.ite ?_ ?_
   | refine LeO.bind ?_ (fun _ => ?_)
set_option maxHeartbeats 8000000 in
set_option maxRecDepth 100000 in
theorem laws_eqIntA2.calls (k : Nat) (a0_0 : Int) (a0_1 : Int) (a1_0 : Int) (a1_1 : Int) (r : Bool) (w : World) (h : laws_eqIntA2.f k a0_0 a0_1 a1_0 a1_1 = some r) :
  Calls Try.prog 89 #[.agg #[.int .i64 a0_0, .int .i64 a0_1], .agg #[.int .i64 a1_0, .int .i64 a1_1]] w fun e w' => e = .returned (.bool r) ∧ Below w.heap.size w w' := by
 have hu64 := Try.underlying64
 have HB := Aside0.mk (Below.refl w.heap.size w)
 have H : (laws_eqIntA2.l0 k 0 a0_0 a0_1 a1_0 a1_1) = some r := h
 clear h
 have H' := Aside0.mk H
 clear H
 go_enter Try.func89, Try.ntmps89
 go_wp2_with (first | ((with_reducible refine gate_dst (N := 2) rfl ?_); refine bE 2 #[.int .i64 a0_0, .int .i64 a0_1] 64 ?_; intro gb322 hg w3 hbox hb; have n0_ := Aside0.mk (below_step bB hb); have n1_ := Aside0.mk (hbox); have n2_ := Aside0.mk ((by rw [hg]; exact (below_size bB) : w.heap.size ≤ gb322)); have n3_ := Aside0.mk ((by rw [hg]; exact (below_size bB) : w.heap.size ≤ gb322)); clear HB; have HB := n0_; have BK322 := n1_; have GW322 := n2_; have GE322 := n3_; clear n0_ n1_ n2_ n3_; clear hb hbox hg) | ((with_reducible refine gate_dst (N := 3) rfl ?_); refine bE 3 #[.int .i64 a1_0, .int .i64 a1_1] 64 ?_; intro gb323 hg w4 hbox hb; have n0_ := Aside0.mk (blk_below (g := gb322) (o := .cells #[.int .i64 a0_0, .int .i64 a0_1] 64 (0, 0)) (by (with_reducible repeat (first | refine blk_drewN ?_ _ | refine blk_drew ?_ | refine blk_alloc ?_ _)); exact BK322.out) hb); have n1_ := Aside0.mk (below_step bS hb); have n2_ := Aside0.mk (hbox); have n3_ := Aside0.mk ((by rw [hg]; exact (below_size bS) : w.heap.size ≤ gb323)); have n4_ := Aside0.mk ((by rw [hg]; exact (below_size bS) : w.heap.size ≤ gb323)); have n5_ := Aside0.mk ((by rw [hg]; exact Nat.ne_of_lt (blk_lt (g := gb322) (o := .cells #[.int .i64 a0_0, .int .i64 a0_1] 64 (0, 0)) (by (with_reducible repeat (first | refine blk_drewN ?_ _ | refine blk_drew ?_ | refine blk_alloc ?_ _)); exact BK322.out)) : gb322 ≠ gb323)); have n6_ := Aside0.mk ((by rw [hg]; exact Nat.ne_of_gt (blk_lt (g := gb322) (o := .cells #[.int .i64 a0_0, .int .i64 a0_1] 64 (0, 0)) (by (with_reducible repeat (first | refine blk_drewN ?_ _ | refine blk_drew ?_ | refine blk_alloc ?_ _)); exact BK322.out)) : gb323 ≠ gb322)); clear BK322; clear HB; have BK322 := n0_; have HB := n1_; have BK323 := n2_; have GW323 := n3_; have GE323 := n4_; have NB322_323 := n5_; have NB323_322 := n6_; clear n0_ n1_ n2_ n3_ n4_ n5_ n6_; clear hb hbox hg))
 repeat (go_quiet (first | ((with_reducible refine gate_dst (N := 2) rfl ?_); refine bE 2 #[.int .i64 a0_0, .int .i64 a0_1] 64 ?_; intro gb322 hg w3 hbox hb; have n0_ := Aside0.mk (below_step bB hb); have n1_ := Aside0.mk (hbox); have n2_ := Aside0.mk ((by rw [hg]; exact (below_size bB) : w.heap.size ≤ gb322)); have n3_ := Aside0.mk ((by rw [hg]; exact (below_size bB) : w.heap.size ≤ gb322)); clear HB; have HB := n0_; have BK322 := n1_; have GW322 := n2_; have GE322 := n3_; clear n0_ n1_ n2_ n3_; clear hb hbox hg) | ((with_reducible refine gate_dst (N := 3) rfl ?_); refine bE 3 #[.int .i64 a1_0, .int .i64 a1_1] 64 ?_; intro gb323 hg w4 hbox hb; have n0_ := Aside0.mk (blk_below (g := gb322) (o := .cells #[.int .i64 a0_0, .int .i64 a0_1] 64 (0, 0)) (by (with_reducible repeat (first | refine blk_drewN ?_ _ | refine blk_drew ?_ | refine blk_alloc ?_ _)); exact BK322.out) hb); have n1_ := Aside0.mk (below_step bS hb); have n2_ := Aside0.mk (hbox); have n3_ := Aside0.mk ((by rw [hg]; exact (below_size bS) : w.heap.size ≤ gb323)); have n4_ := Aside0.mk ((by rw [hg]; exact (below_size bS) : w.heap.size ≤ gb323)); have n5_ := Aside0.mk ((by rw [hg]; exact Nat.ne_of_lt (blk_lt (g := gb322) (o := .cells #[.int .i64 a0_0, .int .i64 a0_1] 64 (0, 0)) (by (with_reducible repeat (first | refine blk_drewN ?_ _ | refine blk_drew ?_ | refine blk_alloc ?_ _)); exact BK322.out)) : gb322 ≠ gb323)); have n6_ := Aside0.mk ((by rw [hg]; exact Nat.ne_of_gt (blk_lt (g := gb322) (o := .cells #[.int .i64 a0_0, .int .i64 a0_1] 64 (0, 0)) (by (with_reducible repeat (first | refine blk_drewN ?_ _ | refine blk_drew ?_ | refine blk_alloc ?_ _)); exact BK322.out)) : gb323 ≠ gb322)); clear BK322; clear HB; have BK322 := n0_; have HB := n1_; have BK323 := n2_; have GW323 := n3_; have GE323 := n4_; have NB322_323 := n5_; have NB323_322 := n6_; clear n0_ n1_ n2_ n3_ n4_ n5_ n6_; clear hb hbox hg)); try go_wp2_with (first | ((with_reducible refine gate_dst (N := 2) rfl ?_); refine bE 2 #[.int .i64 a0_0, .int .i64 a0_1] 64 ?_; intro gb322 hg w3 hbox hb; have n0_ := Aside0.mk (below_step bB hb); have n1_ := Aside0.mk (hbox); have n2_ := Aside0.mk ((by rw [hg]; exact (below_size bB) : w.heap.size ≤ gb322)); have n3_ := Aside0.mk ((by rw [hg]; exact (below_size bB) : w.heap.size ≤ gb322)); clear HB; have HB := n0_; have BK322 := n1_; have GW322 := n2_; have GE322 := n3_; clear n0_ n1_ n2_ n3_; clear hb hbox hg) | ((with_reducible refine gate_dst (N := 3) rfl ?_); refine bE 3 #[.int .i64 a1_0, .int .i64 a1_1] 64 ?_; intro gb323 hg w4 hbox hb; have n0_ := Aside0.mk (blk_below (g := gb322) (o := .cells #[.int .i64 a0_0, .int .i64 a0_1] 64 (0, 0)) (by (with_reducible repeat (first | refine blk_drewN ?_ _ | refine blk_drew ?_ | refine blk_alloc ?_ _)); exact BK322.out) hb); have n1_ := Aside0.mk (below_step bS hb); have n2_ := Aside0.mk (hbox); have n3_ := Aside0.mk ((by rw [hg]; exact (below_size bS) : w.heap.size ≤ gb323)); have n4_ := Aside0.mk ((by rw [hg]; exact (below_size bS) : w.heap.size ≤ gb323)); have n5_ := Aside0.mk ((by rw [hg]; exact Nat.ne_of_lt (blk_lt (g := gb322) (o := .cells #[.int .i64 a0_0, .int .i64 a0_1] 64 (0, 0)) (by (with_reducible repeat (first | refine blk_drewN ?_ _ | refine blk_drew ?_ | refine blk_alloc ?_ _)); exact BK322.out)) : gb322 ≠ gb323)); have n6_ := Aside0.mk ((by rw [hg]; exact Nat.ne_of_gt (blk_lt (g := gb322) (o := .cells #[.int .i64 a0_0, .int .i64 a0_1] 64 (0, 0)) (by (with_reducible repeat (first | refine blk_drewN ?_ _ | refine blk_drew ?_ | refine blk_alloc ?_ _)); exact BK322.out)) : gb323 ≠ gb322)); clear BK322; clear HB; have BK322 := n0_; have HB := n1_; have BK323 := n2_; have GW323 := n3_; have GE323 := n4_; have NB322_323 := n5_; have NB323_322 := n6_; clear n0_ n1_ n2_ n3_ n4_ n5_ n6_; clear hb hbox hg)))
 go_loopg [5] k (fun kq v5 w' => ∃ (x5_1 : Int), v5 = .int .i64 x5_1 ∧ Aside0 (laws_eqIntA2.l0 kq x5_1 a0_0 a0_1 a1_0 a1_1 = some r) ∧ Aside0 (kq ≤ k) ∧ Aside0 (w'.heap[gb322]? = some (.cells #[.int .i64 a0_0, .int .i64 a0_1] 64 (0, 0))) ∧ Aside0 (w'.heap[gb323]? = some (.cells #[.int .i64 a1_0, .int .i64 a1_1] 64 (0, 0))) ∧ Aside0 (Below w.heap.size w w'))
 case atStart => exact ⟨(0), sD, H', ⟨Nat.le_refl _⟩, ⟨kB⟩, ⟨kB⟩, ⟨by repeat (first | (with_reducible first | exact HB.out | apply below_alloc | apply pw_below_drewN | apply below_drew1 | refine below_set ?_ GE322.out | refine below_set ?_ GE323.out) | exact HB.out)⟩⟩
 case round =>
  clear H'
  try clear p2
  obtain ⟨x5_1, rfl, HA, HK1, BK322, BK323, HB⟩ := hrel
  cases gk with
  | zero => exact absurd HA.out (by simp [laws_eqIntA2.l0])
  | succ k1 =>
   have H := HA.out
   clear HA
   simp only [laws_eqIntA2.l0] at H
   by_cases c5 : x5_1 < 2
   ·rw [if_pos c5] at H
    have c5b0 : decide (x5_1 < 2) = true := decide_eq_true c5
    clear c5
    by_cases c6 : x5_1 = 0
    ·rw [if_pos c6] at H
     subst c6
     by_cases c7 : a0_0 = a1_0
     ·rw [if_pos c7] at H
      have c7b0 : (a0_0 == a1_0) = true := beq_iff_eq.mpr c7
      have c7b1 : (a0_0 != a1_0) = false := bne_eq_false_iff_eq.mpr c7
      clear c7
      have H' := Aside0.mk H
      clear H
      have hnb8 := NB322_323.out
      have hnc8 := NB323_322.out
      have hcz9_0 : wr.cell? ⟨gb322, 0, none⟩ = some (.int .i64 a0_0) := (blk_cell BK322.out 0).trans rfl
      have hcz9_1 : wr.cell? ⟨gb322, 1, none⟩ = some (.int .i64 a0_1) := (blk_cell BK322.out 1).trans rfl
      have hfz9_0 := blk_frozen BK322.out 0
      have hfz9_1 := blk_frozen BK322.out 1
      have hcz10_0 : wr.cell? ⟨gb323, 0, none⟩ = some (.int .i64 a1_0) := (blk_cell BK323.out 0).trans rfl
      have hcz10_1 : wr.cell? ⟨gb323, 1, none⟩ = some (.int .i64 a1_1) := (blk_cell BK323.out 1).trans rfl
      have hfz10_0 := blk_frozen BK323.out 0
      have hfz10_1 := blk_frozen BK323.out 1
      go_wp2
      repeat (go_quiet (fail); try go_wp2)
      go_roundg k1
      case measure => have := HK1.out; omega
      case rel => exact ⟨(wrap64 (0 + 1)), (by first | rfl | (simp; done) | (simp; unfold wrap64; omega) | (simp [*]; done)), H', ⟨by have := HK1.out; omega⟩, ⟨kB⟩, ⟨kB⟩, ⟨by repeat (first | (with_reducible first | exact HB.out | apply below_alloc | apply pw_below_drewN | apply below_drew1 | refine below_set ?_ GE322.out | refine below_set ?_ GE323.out) | exact HB.out)⟩⟩
     ·rw [if_neg c7] at H
      have c7b0 : (a0_0 == a1_0) = false := beq_eq_false_iff_ne.mpr c7
      have c7b1 : (a0_0 != a1_0) = true := bne_iff_ne.mpr c7
      obtain rfl := Option.some.inj H
      have hnb11 := NB322_323.out
      have hnc11 := NB323_322.out
      have hcz12_0 : wr.cell? ⟨gb322, 0, none⟩ = some (.int .i64 a0_0) := (blk_cell BK322.out 0).trans rfl
      have hcz12_1 : wr.cell? ⟨gb322, 1, none⟩ = some (.int .i64 a0_1) := (blk_cell BK322.out 1).trans rfl
      have hfz12_0 := blk_frozen BK322.out 0
      have hfz12_1 := blk_frozen BK322.out 1
      have hcz13_0 : wr.cell? ⟨gb323, 0, none⟩ = some (.int .i64 a1_0) := (blk_cell BK323.out 0).trans rfl
      have hcz13_1 : wr.cell? ⟨gb323, 1, none⟩ = some (.int .i64 a1_1) := (blk_cell BK323.out 1).trans rfl
      have hfz13_0 := blk_frozen BK323.out 0
      have hfz13_1 := blk_frozen BK323.out 1
      go_wp2
      repeat (go_quiet (fail); try go_wp2)
      go_ret
      exact ⟨rE, bS⟩
    ·rw [if_neg c6] at H
     have c6b0 : (x5_1 == 0) = false := beq_eq_false_iff_ne.mpr c6
     have c6b1 : (x5_1 != 0) = true := bne_iff_ne.mpr c6
     by_cases c14 : x5_1 = 1
     ·rw [if_pos c14] at H
      subst c14
      by_cases c15 : a0_1 = a1_1
      ·rw [if_pos c15] at H
       have c15b0 : (a0_1 == a1_1) = true := beq_iff_eq.mpr c15
       have c15b1 : (a0_1 != a1_1) = false := bne_eq_false_iff_eq.mpr c15
       clear c15
       have H' := Aside0.mk H
       clear H
       have hnb16 := NB322_323.out
       have hnc16 := NB323_322.out
       have hcz17_0 : wr.cell? ⟨gb322, 0, none⟩ = some (.int .i64 a0_0) := (blk_cell BK322.out 0).trans rfl
       have hcz17_1 : wr.cell? ⟨gb322, 1, none⟩ = some (.int .i64 a0_1) := (blk_cell BK322.out 1).trans rfl
       have hfz17_0 := blk_frozen BK322.out 0
       have hfz17_1 := blk_frozen BK322.out 1
       have hcz18_0 : wr.cell? ⟨gb323, 0, none⟩ = some (.int .i64 a1_0) := (blk_cell BK323.out 0).trans rfl
       have hcz18_1 : wr.cell? ⟨gb323, 1, none⟩ = some (.int .i64 a1_1) := (blk_cell BK323.out 1).trans rfl
       have hfz18_0 := blk_frozen BK323.out 0
       have hfz18_1 := blk_frozen BK323.out 1
       go_wp2
       repeat (go_quiet (fail); try go_wp2)
       go_roundg k1
       case measure => have := HK1.out; omega
       case rel => exact ⟨(wrap64 (1 + 1)), (by first | rfl | (simp; done) | (simp; unfold wrap64; omega) | (simp [*]; done)), H', ⟨by have := HK1.out; omega⟩, ⟨kB⟩, ⟨kB⟩, ⟨by repeat (first | (with_reducible first | exact HB.out | apply below_alloc | apply pw_below_drewN | apply below_drew1 | refine below_set ?_ GE322.out | refine below_set ?_ GE323.out) | exact HB.out)⟩⟩
      ·rw [if_neg c15] at H
       have c15b0 : (a0_1 == a1_1) = false := beq_eq_false_iff_ne.mpr c15
       have c15b1 : (a0_1 != a1_1) = true := bne_iff_ne.mpr c15
       obtain rfl := Option.some.inj H
       have hnb19 := NB322_323.out
       have hnc19 := NB323_322.out
       have hcz20_0 : wr.cell? ⟨gb322, 0, none⟩ = some (.int .i64 a0_0) := (blk_cell BK322.out 0).trans rfl
       have hcz20_1 : wr.cell? ⟨gb322, 1, none⟩ = some (.int .i64 a0_1) := (blk_cell BK322.out 1).trans rfl
       have hfz20_0 := blk_frozen BK322.out 0
       have hfz20_1 := blk_frozen BK322.out 1
       have hcz21_0 : wr.cell? ⟨gb323, 0, none⟩ = some (.int .i64 a1_0) := (blk_cell BK323.out 0).trans rfl
       have hcz21_1 : wr.cell? ⟨gb323, 1, none⟩ = some (.int .i64 a1_1) := (blk_cell BK323.out 1).trans rfl
       have hfz21_0 := blk_frozen BK323.out 0
       have hfz21_1 := blk_frozen BK323.out 1
       go_wp2
       repeat (go_quiet (fail); try go_wp2)
       go_ret
       exact ⟨rE, bS⟩
     ·rw [if_neg c14] at H
      have c14b0 : (x5_1 == 1) = false := beq_eq_false_iff_ne.mpr c14
      have c14b1 : (x5_1 != 1) = true := bne_iff_ne.mpr c14
      exact absurd H (by simp)
   ·rw [if_neg c5] at H
    have c5b0 : decide (x5_1 < 2) = false := decide_eq_false c5
    clear c5
    obtain rfl := Option.some.inj H
    go_wp2
    repeat (go_quiet (fail); try go_wp2)
    go_ret
    exact ⟨rE, bS⟩

end Go.Proofs.Ythhmembnhnghiaa.OFnExactLateSteps
