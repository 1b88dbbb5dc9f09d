/- Functions of the program as plain Lean functions, with their contracts: written by this session's program ownprint.py. Conditions: none. -/
import Derived.Test.YthhmembnhnghiaaOFnExactLeftAfterx0
import Derived.Test.YthhmembnhnghiaaOFnExactLeftAfterx9
namespace Go.Proofs.Ythhmembnhnghiaa.OFnExactLeftAfter
open Go.RowKit Go.Proofs.YthhmembnhnghiaaW.PrintWords Go.Proofs.YthhmembnhnghiaaW.PrintLast Go.Proofs.YthhmembnhnghiaaW.PrintMore
attribute [local go_sem] max2_int min2_int max_two min_two max_three min_three max_four min_four   -- for this text's walks alone
set_option linter.unusedVariables false
set_option linter.unusedSimpArgs false

/-! ### impl_lateRule: function 88 -/
mutual
def impl_lateRule.l0 : Nat → List (S59) → List Int → List (S64) → Int → List Int → Int → Int → Option (List Int × (List (S64)))
 | 0, _, _, _, _, _, _, _ => none
 | k + 1, x0, x6, x7, x8, x18, x19, x20 => if x20 < x19 then (if 0 ≤ x20 then (if x20 < (x18.length : Int) then (if x6.length < 17592186044416 then ((some (x6 ++ [rd x18 x20] : List Int)).bind fun y350 => (if 0 ≤ (rd x18 x20) then (if (rd x18 x20) < (x0.length : Int) then (if (wrap64 (x8 + ((rd_T59 x0 (rd x18 x20)).f0))) > ((rd_T59 x0 (rd x18 x20)).f3) then (impl_lateRule.l1 k x0 y350 x7 (wrap64 (x8 + ((rd_T59 x0 (rd x18 x20)).f0))) (rd x18 x20) 0 x18 x19 x20 y350 (y350.length : Int) 0) else (if x7.length < 8796093022208 then (impl_lateRule.l0 k x0 y350 (x7 ++ [(⟨rd x18 x20, (-1)⟩ : S64)]) (wrap64 (x8 + ((rd_T59 x0 (rd x18 x20)).f0))) x18 x19 (wrap64 (x20 + 1))) else (none))) else (none)) else (none))) else (none)) else (none)) else (none)) else (some (x6, x7))
def impl_lateRule.l1 : Nat → List (S59) → List Int → List (S64) → Int → Int → Int → List Int → Int → Int → List Int → Int → Int → Option (List Int × (List (S64)))
 | 0, _, _, _, _, _, _, _, _, _, _, _, _ => none
 | k + 1, x0, x6, x7, x8, x10, x12, x18, x19, x20, x42, x43, x44 => if x44 < x43 then (if 0 ≤ x44 then (if x44 < (x42.length : Int) then (if 0 ≤ (rd x42 x44) then (if (rd x42 x44) < (x0.length : Int) then (if 0 ≤ x12 then (if x12 < (x6.length : Int) then (if 0 ≤ (rd x6 x12) then (if (rd x6 x12) < (x0.length : Int) then (if ((rd_T59 x0 (rd x42 x44)).f0) > ((rd_T59 x0 (rd x6 x12)).f0) then (impl_lateRule.l1 k x0 x6 x7 x8 x10 x44 x18 x19 x20 x42 x43 (wrap64 (x44 + 1))) else (impl_lateRule.l1 k x0 x6 x7 x8 x10 x12 x18 x19 x20 x42 x43 (wrap64 (x44 + 1)))) else (none)) else (none)) else (none)) else (none)) else (none)) else (none)) else (none)) else (none)) else (if 0 ≤ x12 then (if x12 < (x6.length : Int) then (if 0 ≤ (rd x6 x12) then (if (rd x6 x12) < (x0.length : Int) then (if x12 ≤ (x6.length : Int) then (if 0 ≤ (wrap64 (x12 + 1)) then (if (wrap64 (x12 + 1)) ≤ (x6.length : Int) then (if x7.length < 8796093022208 then (impl_lateRule.l0 k x0 (x6.eraseIdx (x12 : Int).toNat) (x7 ++ [(⟨x10, rd x6 x12⟩ : S64)]) (wrap64 (x8 - ((rd_T59 x0 (rd x6 x12)).f0))) x18 x19 (wrap64 (x20 + 1))) else (none)) else (none)) else (none)) else (none)) else (none)) else (none)) else (none)) else (none))
end
def impl_lateRule.f (k : Nat) (l0 : List (S59)) (a1 : Int) : Option (List Int × (List (S64))) := (impl_ruledOrder.f k l0 4).bind fun t343 => (if 0 ≤ a1 then (if a1 ≤ (t343.length : Int) then ((some (t343.take (a1 : Int).toNat : List Int)).bind fun y346 => (impl_lateRule.l0 k l0 ([] : List Int) ([] : List (S64)) 0 y346 (y346.length : Int) 0)) else (none)) else (none))
theorem impl_lateRule.mono_l : ∀ k, (∀ y0 y1 y2 y3 y4 y5 y6, LeO (impl_lateRule.l0 k y0 y1 y2 y3 y4 y5 y6) (impl_lateRule.l0 (k + 1) y0 y1 y2 y3 y4 y5 y6)) ∧ (∀ y0 y1 y2 y3 y4 y5 y6 y7 y8 y9 y10 y11, LeO (impl_lateRule.l1 k y0 y1 y2 y3 y4 y5 y6 y7 y8 y9 y10 y11) (impl_lateRule.l1 (k + 1) y0 y1 y2 y3 y4 y5 y6 y7 y8 y9 y10 y11))
 | 0 => ⟨fun _ _ _ _ _ _ _ r h => by simp [impl_lateRule.l0] at h, fun _ _ _ _ _ _ _ _ _ _ _ _ r h => by simp [impl_lateRule.l1] at h⟩
 | k + 1 => by
  obtain ⟨ih0, ih1⟩ := impl_lateRule.mono_l k
  refine ⟨?_, ?_⟩
  ·intro y0 y1 y2 y3 y4 y5 y6
   unfold impl_lateRule.l0
   repeat' first
   | (with_reducible exact ih0 _ _ _ _ _ _ _)
   | (with_reducible exact ih1 _ _ _ _ _ _ _ _ _ _ _ _)
   | (with_reducible exact impl_ruledOrder.mono _ _ _)
   | (with_reducible exact LeO.refl _)
   | (with_reducible exact LeO.none _)
   | (with_reducible refine LeO.ite ?_ ?_)
   | (with_reducible refine LeO.bind ?_ (fun _ => ?_))
   | exact ih0 _ _ _ _ _ _ _
   | exact ih1 _ _ _ _ _ _ _ _ _ _ _ _
   | exact impl_ruledOrder.mono _ _ _
   | exact LeO.none _
   | refine LeO.ite ?_ ?_
   | refine LeO.bind ?_ (fun _ => ?_)
  ·intro y0 y1 y2 y3 y4 y5 y6 y7 y8 y9 y10 y11
   unfold impl_lateRule.l1
   repeat' first
   | (with_reducible exact ih0 _ _ _ _ _ _ _)
   | (with_reducible exact ih1 _ _ _ _ _ _ _ _ _ _ _ _)
   | (with_reducible exact impl_ruledOrder.mono _ _ _)
   | (with_reducible exact LeO.refl _)
   | (with_reducible exact LeO.none _)
   | (with_reducible refine LeO.ite ?_ ?_)
   | (with_reducible refine LeO.bind ?_ (fun _ => ?_))
   | exact ih0 _ _ _ _ _ _ _
   | exact ih1 _ _ _ _ _ _ _ _ _ _ _ _
   | exact impl_ruledOrder.mono _ _ _
   | exact LeO.none _
   | refine LeO.ite ?_ ?_
   | refine LeO.bind ?_ (fun _ => ?_)
theorem impl_lateRule.mono : ∀ a0 a1 k, LeO (impl_lateRule.f k a0 a1) (impl_lateRule.f (k + 1) a0 a1) := by
 intro a0 a1 k
 obtain ⟨ih0, ih1⟩ := impl_lateRule.mono_l k
 unfold impl_lateRule.f
 repeat' first
   | (with_reducible exact ih0 _ _ _ _ _ _ _)
   | (with_reducible exact ih1 _ _ _ _ _ _ _ _ _ _ _ _)
   | (with_reducible exact impl_ruledOrder.mono _ _ _)
   | (with_reducible exact LeO.refl _)
   | (with_reducible exact LeO.none _)
   | (with_reducible refine LeO.ite ?_ ?_)
   | (with_reducible refine LeO.bind ?_ (fun _ => ?_))
   | exact ih0 _ _ _ _ _ _ _
   | exact ih1 _ _ _ _ _ _ _ _ _ _ _ _
   | exact impl_ruledOrder.mono _ _ _
   | exact LeO.none _
   | refine LeO.ite ?_ ?_
   | refine LeO.bind ?_ (fun _ => ?_)
def impl_lateRule.T15 : Bool × List (List Nat × List Nat) := (true, [([], []), ([], []), ([0, 1], [0, 1]), ([2], [2]), ([3], [3]), ([], []), ([], []), ([], []), ([6, 7], [6, 7]), ([8], [8]), ([5, 9], [5, 9]), ([10], [10]), ([11], [11]), ([4, 12], [4, 12])])
def impl_lateRule.B15 : List Nat := [0, 0, 3, 7, 15, 0, 0, 0, 192, 448, 992, 2016, 4064, 8191]
theorem impl_lateRule.tab15 : rtab .any (opsOf Try.f88 15) = impl_lateRule.T15 := by kernel_rfl
theorem impl_lateRule.bits15 : waitsOk impl_lateRule.T15.2 impl_lateRule.B15 = true := by kernel_rfl
def impl_lateRule.T20 : Bool × List (List Nat × List Nat) := (true, [([], []), ([], []), ([0, 1], [0, 1]), ([], []), ([], []), ([4], [4]), ([3, 5], [3, 5]), ([2, 6], [2, 6]), ([7, 7, 0, 1, 2, 3, 4, 5, 6, 7], [0, 3, 7])])
def impl_lateRule.B20 : List Nat := [0, 0, 3, 0, 0, 16, 56, 127, 255]
theorem impl_lateRule.tab20 : rtab .any (opsOf Try.f88 20) = impl_lateRule.T20 := by kernel_rfl
theorem impl_lateRule.bits20 : waitsOk impl_lateRule.T20.2 impl_lateRule.B20 = true := by kernel_rfl
set_option maxHeartbeats 8000000 in
set_option maxRecDepth 100000 in
theorem impl_lateRule.calls (k : Nat) (A0 : Option Addr) (c0 : Nat) (l0 : List (S59)) (a1 : Int) (r1 : List Int) (r2 : List (S64)) (w : World) (hr0 : Kd.C k59 w A0 l0.length l0) (hc0 : l0.length ≤ c0) (h : impl_lateRule.f k l0 a1 = some (r1, r2)) :
  Calls Try.prog 88 #[.slice A0 l0.length c0, .int .i64 a1] w fun e w' => ∃ v0_ v1_ : Value, e = .returned (.tuple #[v0_, v1_]) ∧ Kd.R (Kd.int .i64) 3 w' w.heap.size (fun _ => True) v0_ r1 ∧ Kd.R k64 64 w' w.heap.size (fun _ => True) v1_ r2 ∧ Below w.heap.size w w' := by
 have hu64 := Try.underlying64
 have HR0 := Aside0.mk hr0
 have HC0 := Aside0.mk hc0
 clear hr0 hc0
 have HB := Aside0.mk (Below.refl w.heap.size w)
 have H : ((impl_ruledOrder.f k l0 4).bind fun t343 => (if 0 ≤ a1 then (if a1 ≤ (t343.length : Int) then ((some (t343.take (a1 : Int).toNat : List Int)).bind fun y346 => (impl_lateRule.l0 k l0 ([] : List Int) ([] : List (S64)) 0 y346 (y346.length : Int) 0)) else (none)) else (none))) = some (r1, r2) := h
 clear h
 replace H := Option.bind_eq_some_iff.mp H
 obtain ⟨t343, A30, H⟩ := H
 replace H : (if 0 ≤ a1 then (if a1 ≤ (t343.length : Int) then ((some (t343.take (a1 : Int).toNat : List Int)).bind fun y346 => (impl_lateRule.l0 k l0 ([] : List Int) ([] : List (S64)) 0 y346 (y346.length : Int) 0)) else (none)) else (none)) = some (r1, r2) := H
 have A3 := Aside0.mk A30
 clear A30
 by_cases c4 : 0 ≤ a1; rotate_left
 ·rw [if_neg c4] at H; exact absurd H (by simp)
 rw [if_pos c4] at H
 have c4b0 := eq_true c4
 have c4b1 : decide (0 ≤ a1) = true := decide_eq_true c4
 clear c4
 by_cases c5 : a1 ≤ (t343.length : Int); rotate_left
 ·rw [if_neg c5] at H; exact absurd H (by simp)
 rw [if_pos c5] at H
 have c5b0 := eq_true c5
 have c5b1 : decide (a1 ≤ (t343.length : Int)) = true := decide_eq_true c5
 clear c5
 obtain ⟨y346, hy346⟩ : ∃ y_ : List Int, y_ = (t343.take (a1 : Int).toNat) := ⟨_, rfl⟩
 replace H : (impl_lateRule.l0 k l0 ([] : List Int) ([] : List (S64)) 0 y346 (y346.length : Int) 0) = some (r1, r2) := by first | (rw [hy346]; with_reducible exact H) | (have H2_ := (Option.bind_some _ _).symm.trans H; rw [hy346]; with_reducible exact H2_) | (have H2_ := (Option.bind_some _ _).symm.trans H; with_reducible exact H2_) | with_reducible exact H | (rw [hy346]; exact H) | exact H
 have Ny346 := Aside0.mk hy346
 clear hy346
 have H' := Aside0.mk H
 clear H
 go_enter Try.func88, Try.ntmps88
 go_wp2_with (first | ((with_reducible refine gate_callee (f := 120) rfl ?_); refine goesL_ (some 16) rfl rfl Try.func120 (by kernel_rfl) rfl #[.slice A0 l0.length c0, .int .i64 4] rfl aE ?_; (with_reducible refine (impl_ruledOrder.calls k _ _ l0 4 t343 _ ?side1 ?side2 A3.out).mono ?_); (case side1 => repeat (first | exact HR0.out | (with_reducible refine Kd.C_alloc ?_ _) | (with_reducible refine Kd.C_drewN ?_ _) | (with_reducible refine Kd.C_drew ?_))); (case side2 => exact HC0.out); rintro e w6 ⟨v344, rfl, ho0, hb⟩; refine ⟨_, rfl, ?_⟩; have n0_ := Aside0.mk (Kd.R_lower ho0 (below_size bB)); have n1_ := Aside0.mk (below_step bB hb); clear HB; have HO345 := n0_; have HB := n1_; clear n0_ n1_; (try clear hb); (try clear hb2); (try clear hk); (try clear hi); (try clear ho0); obtain ⟨Ao7, co7, eo7⟩ := Kd.R_slice HO345.out; subst eo7; have q8 : (a1 : Int) ≤ ((t343.length : Int) : Int) := oD; obtain ⟨i08, hi08, _, hsz8, _⟩ := info_parts info3; have hcut8 := cut_to (P := Try.prog) 37 3 .i64 Try.underlying37 hi08 Ao7 t343.length co7 a1 (oD) q8 (Kd.R_reads' HO345.out).2.1; have hr8 := Kd.R_take (m := (a1 : Int).toNat) HO345.out (by omega); have hy8 : y346.length = (a1 : Int).toNat := (by rw [Ny346.out, List.length_take]; omega); rw [← Ny346.out] at hr8; rw [← hy8] at hr8 hcut8; clear hy8 hi08 hsz8 HO345; have HO348 := Aside0.mk hr8; clear hr8; replace q8 := eq_true q8))
 go_loopg [6, 7, 8, 20] k (fun kq v6 v7 v8 v20 w' => ∃ (x6_1 : List Int) (x7_1 : List (S64)) (x8_1 : Int) (x20_1 : Int), v8 = .int .i64 x8_1 ∧ v20 = .int .i64 x20_1 ∧ Aside0 (impl_lateRule.l0 kq l0 x6_1 x7_1 x8_1 y346 (y346.length : Int) x20_1 = some (r1, r2)) ∧ Aside0 (kq ≤ k) ∧ Aside0 (Kd.R (Kd.int .i64) 3 w' w.heap.size (fun k_ => some k_ ≠ ((.slice Ao7 y346.length co7) : Value).ownBlock) v6 x6_1) ∧ Aside0 (Kd.R k64 64 w' w.heap.size (fun _ => True) v7 x7_1) ∧ Aside0 (Kd.R (Kd.int .i64) 3 w' w.heap.size (fun k_ => some k_ ≠ (v6 : Value).ownBlock) (.slice Ao7 y346.length co7) y346) ∧ Aside0 (Below w.heap.size w w'))
 case atStart => exact ⟨(([] : List Int)), (([] : List (S64))), (0), (0), sD, sD, H', ⟨Nat.le_refl _⟩, ⟨by first | exact Kd.R_nil _ _ _ _ _ | exact Kd.N_nil _ _ _ _ _ | exact Kd.V_nil _ _ _ _ _ | exact Kd.Q_nil _ _ _ _ _ | exact Kd.S_nil _ _ _ _ _⟩, ⟨by first | exact Kd.R_nil _ _ _ _ _ | exact Kd.N_nil _ _ _ _ _ | exact Kd.V_nil _ _ _ _ _ | exact Kd.Q_nil _ _ _ _ _ | exact Kd.S_nil _ _ _ _ _⟩, ⟨by (with_reducible repeat (first | apply Kd.R_alloc | apply Kd.R_drewN | apply Kd.R_drew)); exact Kd.R_mono HO348.out (fun _ hk => (by simp [Value.ownBlock]))⟩, ⟨by repeat (first | (with_reducible first | exact HB.out | apply below_alloc | apply pw_below_drewN | apply below_drew1) | exact HB.out)⟩⟩
 case round =>
  clear H'
  try clear c1
  try clear p2
  try clear c4
  try clear c4b0
  try clear c4b1
  try clear c5
  try clear c5b0
  try clear c5b1
  try clear c8
  try clear q8
  try clear q8
  obtain ⟨x6_1, x7_1, x8_1, x20_1, rfl, rfl, HA, HK1, HO_6, HO_7, HO_18, HB⟩ := hrel
  cases gk with
  | zero => exact absurd HA.out (by simp [impl_lateRule.l0])
  | succ k1 =>
   have H := HA.out
   clear HA
   simp only [impl_lateRule.l0] at H
   by_cases c9 : x20_1 < (y346.length : Int)
   ·rw [if_pos c9] at H
    have c9b0 : decide (x20_1 < (y346.length : Int)) = true := decide_eq_true c9
    clear c9
    by_cases c10 : 0 ≤ x20_1; rotate_left
    ·rw [if_neg c10] at H; exact absurd H (by simp)
    rw [if_pos c10] at H
    have c10b0 : decide (0 ≤ x20_1) = true := decide_eq_true c10
    clear c10
    by_cases c11 : x20_1 < (y346.length : Int); rotate_left
    ·rw [if_neg c11] at H; exact absurd H (by simp)
    rw [if_pos c11] at H
    have c11b0 : decide (x20_1 < (y346.length : Int)) = true := decide_eq_true c11
    clear c11
    by_cases c12 : x6_1.length < 17592186044416; rotate_left
    ·rw [if_neg c12] at H; exact absurd H (by simp)
    rw [if_pos c12] at H
    have LMc12 := Aside0.mk c12
    clear c12
    obtain ⟨y350, hy350⟩ : ∃ y_ : List Int, y_ = (x6_1 ++ [rd y346 x20_1]) := ⟨_, rfl⟩
    replace H : (if 0 ≤ (rd y346 x20_1) then (if (rd y346 x20_1) < (l0.length : Int) then (if (wrap64 (x8_1 + ((rd_T59 l0 (rd y346 x20_1)).f0))) > ((rd_T59 l0 (rd y346 x20_1)).f3) then (impl_lateRule.l1 k1 l0 y350 x7_1 (wrap64 (x8_1 + ((rd_T59 l0 (rd y346 x20_1)).f0))) (rd y346 x20_1) 0 y346 (y346.length : Int) x20_1 y350 (y350.length : Int) 0) else (if x7_1.length < 8796093022208 then (impl_lateRule.l0 k1 l0 y350 (x7_1 ++ [(⟨rd y346 x20_1, (-1)⟩ : S64)]) (wrap64 (x8_1 + ((rd_T59 l0 (rd y346 x20_1)).f0))) y346 (y346.length : Int) (wrap64 (x20_1 + 1))) else (none))) else (none)) else (none)) = some (r1, r2) := by first | (rw [hy350]; with_reducible exact H) | (have H2_ := (Option.bind_some _ _).symm.trans H; rw [hy350]; with_reducible exact H2_) | (have H2_ := (Option.bind_some _ _).symm.trans H; with_reducible exact H2_) | with_reducible exact H | (rw [hy350]; exact H) | exact H
    have Ny350 := Aside0.mk hy350
    clear hy350
    by_cases c13 : 0 ≤ (rd y346 x20_1); rotate_left
    ·rw [if_neg c13] at H; exact absurd H (by simp)
    rw [if_pos c13] at H
    have c13b0 : decide (0 ≤ (rd y346 x20_1)) = true := decide_eq_true c13
    clear c13
    by_cases c14 : (rd y346 x20_1) < (l0.length : Int); rotate_left
    ·rw [if_neg c14] at H; exact absurd H (by simp)
    rw [if_pos c14] at H
    have c14b0 : decide ((rd y346 x20_1) < (l0.length : Int)) = true := decide_eq_true c14
    clear c14
    by_cases c15 : (wrap64 (x8_1 + ((rd_T59 l0 (rd y346 x20_1)).f0))) > ((rd_T59 l0 (rd y346 x20_1)).f3)
    ·rw [if_pos c15] at H
     have c15b0 : decide (((rd_T59 l0 (rd y346 x20_1)).f3) < (wrap64 (x8_1 + ((rd_T59 l0 (rd y346 x20_1)).f0)))) = true := decide_eq_true c15
     clear c15
     have H' := Aside0.mk H
     clear H
     have p349 : 0 ≤ (x20_1 : Int) := oD
     have q349 : x20_1 < (y346.length : Int) := oD
     obtain ⟨ad349, e349, hx349_0⟩ := Kd.at_int (Kd.R_reads' HO_18.out).2.2 x20_1 p349 q349
     cases e349
     replace p349 := eq_true p349
     replace q349 := eq_true q349
     go_wp2_with (first | ((with_reducible refine gate_builtin (b := .append) (xs := #[.tmp 24, .tmp 26]) rfl ?_); at_builtin; refine Kd.R_append (Kd.int .i64) (w0 := w) w.heap.size rfl (.tmp 24) (.tmp 26) 37 3 (.int .i64 0) 8 rfl Try.underlying37 info3 rfl (by decide) (by omega) u6 x6_1 (rd y346 x20_1) [.int .i64 (rd y346 x20_1)] (fun k_ => some k_ ≠ (.slice (some ad349) y346.length co7 : Value).ownBlock) (fun _ => False) rfl rfl ?aP (fun _ hk => hk.elim) ?aF ?aO ?aB ?aS ?aL ?_; (case aP => exact rfl); (case aB => exact bB); (case aF => exact (fun k_ hk => Kd.fresh' (Kd.R_lt (by (with_reducible repeat (first | apply Kd.R_alloc | apply Kd.R_drewN | apply Kd.R_drew)); exact HO_18.out)) k_ hk)); (case aO => exact (by (with_reducible repeat (first | apply Kd.R_alloc | apply Kd.R_drewN | apply Kd.R_drew)); exact HO_6.out)); (case aS => exact (below_size bB)); (case aL => have := LMc12.out; omega); intro v351 w16 ho hb hg hat; rw [← Ny350.out] at ho; have n0_ := Aside0.mk (Kd.R_over' (by (with_reducible repeat (first | apply Kd.R_alloc | apply Kd.R_drewN | apply Kd.R_drew)); exact HO_7.out) (Kd.R_typed (by (with_reducible repeat (first | apply Kd.R_alloc | apply Kd.R_drewN | apply Kd.R_drew)); exact HO_6.out)) (by decide) hg); have n1_ := Aside0.mk (Kd.R_after (ok := (fun _ => True)) (by (with_reducible repeat (first | apply Kd.R_alloc | apply Kd.R_drewN | apply Kd.R_drew)); exact Kd.R_mono HO_18.out (fun _ hk => ⟨trivial, hk⟩)) hg hat); have n2_ := Aside0.mk (hb); have n3_ := Aside0.mk (ho); clear HO_7; clear HO_18; clear HB; clear HO_6; have HO_7 := n0_; have HO_18 := n1_; have HB := n2_; have HO352 := n3_; clear n0_ n1_ n2_ n3_; clear ho hb hg hat; have p353 : 0 ≤ ((rd y346 x20_1) : Int) := oD; have q353 : (rd y346 x20_1) < (l0.length : Int) := oD; obtain ⟨ad353, e353, hx353_0, hx353_1, hx353_2, hx353_3⟩ := at_T59 HR0.out (rd y346 x20_1) p353 q353; cases e353; replace hx353_0 := (cB HB.out hx353_0 :); replace hx353_1 := (cB HB.out hx353_1 :); replace hx353_2 := (cB HB.out hx353_2 :); replace hx353_3 := (cB HB.out hx353_3 :); replace p353 := eq_true p353; replace q353 := eq_true q353; have p354 : 0 ≤ ((rd y346 x20_1) : Int) := oD; have q354 : (rd y346 x20_1) < (l0.length : Int) := oD; obtain ⟨ad354, e354, hx354_0, hx354_1, hx354_2, hx354_3⟩ := at_T59 HR0.out (rd y346 x20_1) p354 q354; obtain rfl : ad353 = ad354 := (by injection e354); replace hx354_0 := (cB HB.out hx354_0 :); replace hx354_1 := (cB HB.out hx354_1 :); replace hx354_2 := (cB HB.out hx354_2 :); replace hx354_3 := (cB HB.out hx354_3 :); replace p354 := eq_true p354; replace q354 := eq_true q354; obtain ⟨Ao17, co17, eo17⟩ := Kd.R_slice HO352.out; subst eo17))
     go_loopg [12, 44] k1 (fun kq v12 v44 w' => ∃ (x12_2 : Int) (x44_2 : Int), v12 = .int .i64 x12_2 ∧ v44 = .int .i64 x44_2 ∧ Aside0 (impl_lateRule.l1 kq l0 y350 x7_1 (wrap64 (x8_1 + ((rd_T59 l0 (rd y346 x20_1)).f0))) (rd y346 x20_1) x12_2 y346 (y346.length : Int) x20_1 y350 (y350.length : Int) x44_2 = some (r1, r2)) ∧ Aside0 (kq ≤ k1) ∧ Aside0 (Kd.R (Kd.int .i64) 3 w' w.heap.size (fun k_ => some k_ ≠ ((.slice (some ad349) y346.length co7) : Value).ownBlock) (.slice Ao17 y350.length co17) y350) ∧ Aside0 (Kd.R k64 64 w' w.heap.size (fun _ => True) u7 x7_1) ∧ Aside0 (Kd.R (Kd.int .i64) 3 w' w.heap.size (fun k_ => some k_ ≠ ((.slice Ao17 y350.length co17) : Value).ownBlock ∧ some k_ ≠ ((.slice Ao17 y350.length co17) : Value).ownBlock) (.slice (some ad349) y346.length co7) y346) ∧ Aside0 (Kd.R (Kd.int .i64) 3 w' w.heap.size (fun k_ => some k_ ≠ ((.slice (some ad349) y346.length co7) : Value).ownBlock) (.slice Ao17 y350.length co17) y350) ∧ Aside0 (Below w.heap.size w w'))
     case atStart => exact ⟨(0), (0), sD, sD, H', ⟨Nat.le_refl _⟩, ⟨kR⟩, ⟨kR⟩, ⟨by (with_reducible repeat (first | apply Kd.R_alloc | apply Kd.R_drewN | apply Kd.R_drew)); exact Kd.R_mono HO_18.out (fun _ hk => ⟨hk.2, hk.2⟩)⟩, ⟨kR⟩, ⟨by repeat (first | (with_reducible first | exact HB.out | apply below_alloc | apply pw_below_drewN | apply below_drew1) | exact HB.out)⟩⟩
     case round =>
      clear H'
      try clear c1
      try clear p2
      try clear p3
      try clear q3
      try clear hx3
      try clear c4
      try clear c4b0
      try clear c4b1
      try clear c5
      try clear c5b0
      try clear c5b1
      try clear p6
      try clear c8
      try clear q8
      try clear c9
      try clear c9b0
      try clear c10
      try clear c10b0
      try clear c11
      try clear c11b0
      try clear c12
      try clear c13
      try clear c13b0
      try clear c14
      try clear c14b0
      try clear c15
      try clear c15b0
      try clear hx349_0
      try clear hx353_0
      try clear hx353_1
      try clear hx353_2
      try clear hx353_3
      try clear hx354_0
      try clear hx354_1
      try clear hx354_2
      try clear hx354_3
      try clear p2
      try clear p349
      try clear p353
      try clear p354
      try clear q349
      try clear q353
      try clear q354
      try clear q8
      obtain ⟨x12_2, x44_2, rfl, rfl, HA, HK2, HO_6, HO_7, HO_18, HO_42, HB⟩ := hrel
      cases gk with
      | zero => exact absurd HA.out (by simp [impl_lateRule.l1])
      | succ k2 =>
       have H := HA.out
       clear HA
       simp only [impl_lateRule.l1] at H
       by_cases c18 : x44_2 < (y350.length : Int)
       ·rw [if_pos c18] at H
        have c18b0 : decide (x44_2 < (y350.length : Int)) = true := decide_eq_true c18
        clear c18
        by_cases c19 : 0 ≤ x44_2; rotate_left
        ·rw [if_neg c19] at H; exact absurd H (by simp)
        rw [if_pos c19] at H
        have c19b0 : decide (0 ≤ x44_2) = true := decide_eq_true c19
        clear c19
        by_cases c20 : x44_2 < (y350.length : Int); rotate_left
        ·rw [if_neg c20] at H; exact absurd H (by simp)
        rw [if_pos c20] at H
        have c20b0 : decide (x44_2 < (y350.length : Int)) = true := decide_eq_true c20
        clear c20
        by_cases c21 : 0 ≤ (rd y350 x44_2); rotate_left
        ·rw [if_neg c21] at H; exact absurd H (by simp)
        rw [if_pos c21] at H
        have c21b0 : decide (0 ≤ (rd y350 x44_2)) = true := decide_eq_true c21
        clear c21
        by_cases c22 : (rd y350 x44_2) < (l0.length : Int); rotate_left
        ·rw [if_neg c22] at H; exact absurd H (by simp)
        rw [if_pos c22] at H
        have c22b0 : decide ((rd y350 x44_2) < (l0.length : Int)) = true := decide_eq_true c22
        clear c22
        by_cases c23 : 0 ≤ x12_2; rotate_left
        ·rw [if_neg c23] at H; exact absurd H (by simp)
        rw [if_pos c23] at H
        have c23b0 : decide (0 ≤ x12_2) = true := decide_eq_true c23
        clear c23
        by_cases c24 : x12_2 < (y350.length : Int); rotate_left
        ·rw [if_neg c24] at H; exact absurd H (by simp)
        rw [if_pos c24] at H
        have c24b0 : decide (x12_2 < (y350.length : Int)) = true := decide_eq_true c24
        clear c24
        by_cases c25 : 0 ≤ (rd y350 x12_2); rotate_left
        ·rw [if_neg c25] at H; exact absurd H (by simp)
        rw [if_pos c25] at H
        have c25b0 : decide (0 ≤ (rd y350 x12_2)) = true := decide_eq_true c25
        clear c25
        by_cases c26 : (rd y350 x12_2) < (l0.length : Int); rotate_left
        ·rw [if_neg c26] at H; exact absurd H (by simp)
        rw [if_pos c26] at H
        have c26b0 : decide ((rd y350 x12_2) < (l0.length : Int)) = true := decide_eq_true c26
        clear c26
        by_cases c27 : ((rd_T59 l0 (rd y350 x44_2)).f0) > ((rd_T59 l0 (rd y350 x12_2)).f0)
        ·rw [if_pos c27] at H
         have c27b0 : decide (((rd_T59 l0 (rd y350 x12_2)).f0) < ((rd_T59 l0 (rd y350 x44_2)).f0)) = true := decide_eq_true c27
         clear c27
         have H' := Aside0.mk H
         clear H
         have p355 : 0 ≤ (x44_2 : Int) := oD
         have q355 : x44_2 < (y350.length : Int) := oD
         obtain ⟨ad355, e355, hx355_0⟩ := Kd.at_int (Kd.R_reads' HO_42.out).2.2 x44_2 p355 q355
         cases e355
         replace p355 := eq_true p355
         replace q355 := eq_true q355
         try go_wp2
         have n0_ := Aside0.mk (Kd.R_drew HO_6.out)
         have n1_ := Aside0.mk (Kd.R_drew HO_7.out)
         have n2_ := Aside0.mk (Kd.R_drew HO_18.out)
         have n3_ := Aside0.mk (Kd.R_drew HO_42.out)
         have n4_ := Aside0.mk (below_drew1 HB.out)
         clear HO_6
         clear HO_7
         clear HO_18
         clear HO_42
         clear HB
         have HO_6 := n0_
         have HO_7 := n1_
         have HO_18 := n2_
         have HO_42 := n3_
         have HB := n4_
         clear n0_ n1_ n2_ n3_ n4_
         have p356 : 0 ≤ ((rd y350 x44_2) : Int) := oD
         have q356 : (rd y350 x44_2) < (l0.length : Int) := oD
         obtain ⟨ad356, e356, hx356_0, hx356_1, hx356_2, hx356_3⟩ := at_T59 HR0.out (rd y350 x44_2) p356 q356
         have hw356_3 := hx356_3
         have hw356_2 := hx356_2
         have hw356_1 := hx356_1
         have hw356_0 := hx356_0
         obtain rfl : ad353 = ad356 := (by injection e356)
         replace hx356_0 := (cB HB.out hx356_0 :)
         replace hx356_1 := (cB HB.out hx356_1 :)
         replace hx356_2 := (cB HB.out hx356_2 :)
         replace hx356_3 := (cB HB.out hx356_3 :)
         replace p356 := eq_true p356
         replace q356 := eq_true q356
         have p357 : 0 ≤ (x12_2 : Int) := oD
         have q357 : x12_2 < (y350.length : Int) := oD
         obtain ⟨ad357, e357, hx357_0⟩ := Kd.at_int (Kd.R_reads' HO_6.out).2.2 x12_2 p357 q357
         obtain rfl : ad355 = ad357 := (by injection e357)
         replace p357 := eq_true p357
         replace q357 := eq_true q357
         have p358 : 0 ≤ ((rd y350 x12_2) : Int) := oD
         have q358 : (rd y350 x12_2) < (l0.length : Int) := oD
         obtain ⟨ad358, e358, hx358_0, hx358_1, hx358_2, hx358_3⟩ := at_T59 HR0.out (rd y350 x12_2) p358 q358
         have hw358_3 := hx358_3
         have hw358_2 := hx358_2
         have hw358_1 := hx358_1
         have hw358_0 := hx358_0
         obtain rfl : ad353 = ad358 := (by injection e358)
         replace hx358_0 := (cB HB.out hx358_0 :)
         replace hx358_1 := (cB HB.out hx358_1 :)
         replace hx358_2 := (cB HB.out hx358_2 :)
         replace hx358_3 := (cB HB.out hx358_3 :)
         replace p358 := eq_true p358
         replace q358 := eq_true q358
         refine start_ (n := 14) (S := fun w' => w'.cell? (ad353.add (((rd y350 x44_2)).toNat * 4)) = some (.int .i64 ((rd_T59 l0 (rd y350 x44_2)).f0)) ∧ w'.cell? ⟨(ad353.add (((rd y350 x44_2)).toNat * 4)).block, (ad353.add (((rd y350 x44_2)).toNat * 4)).off + 1, none⟩ = some (.int .i64 ((rd_T59 l0 (rd y350 x44_2)).f1)) ∧ w'.cell? ⟨(ad353.add (((rd y350 x44_2)).toNat * 4)).block, (ad353.add (((rd y350 x44_2)).toNat * 4)).off + 2, none⟩ = some (.int .i64 ((rd_T59 l0 (rd y350 x44_2)).f2)) ∧ w'.cell? ⟨(ad353.add (((rd y350 x44_2)).toNat * 4)).block, (ad353.add (((rd y350 x44_2)).toNat * 4)).off + 3, none⟩ = some (.int .i64 ((rd_T59 l0 (rd y350 x44_2)).f3)) ∧ w'.cell? (ad355.add (x12_2).toNat) = some (.int .i64 (rd y350 x12_2)) ∧ w'.cell? (ad353.add (((rd y350 x12_2)).toNat * 4)) = some (.int .i64 ((rd_T59 l0 (rd y350 x12_2)).f0)) ∧ w'.cell? ⟨(ad353.add (((rd y350 x12_2)).toNat * 4)).block, (ad353.add (((rd y350 x12_2)).toNat * 4)).off + 1, none⟩ = some (.int .i64 ((rd_T59 l0 (rd y350 x12_2)).f1)) ∧ w'.cell? ⟨(ad353.add (((rd y350 x12_2)).toNat * 4)).block, (ad353.add (((rd y350 x12_2)).toNat * 4)).off + 2, none⟩ = some (.int .i64 ((rd_T59 l0 (rd y350 x12_2)).f2)) ∧ w'.cell? ⟨(ad353.add (((rd y350 x12_2)).toNat * 4)).block, (ad353.add (((rd y350 x12_2)).toNat * 4)).off + 3, none⟩ = some (.int .i64 ((rd_T59 l0 (rd y350 x12_2)).f3))) (ds := []) (bA 14 0) (by kernel_rfl) rfl rfl ⟨((cB HB.out hw356_0 :)), ((cB HB.out hw356_1 :)), ((cB HB.out hw356_2 :)), ((cB HB.out hw356_3 :)), hx357_0, ((cB HB.out hw358_0 :)), ((cB HB.out hw358_1 :)), ((cB HB.out hw358_2 :)), ((cB HB.out hw358_3 :))⟩ (fun hHeld => ?_); refine with_tabW impl_lateRule.tab15 impl_lateRule.bits15 (fun HT_ HW_ => ?_)
         generalize wr.drew = w28 at HO_6 HO_7 HO_18 HO_42 HB hx356_0 hx356_1 hx356_2 hx356_3 hx357_0 hx358_0 hx358_1 hx358_2 hx358_3 hHeld ⊢
         refine pU 0 49 (bA 14 1) ?_
         refine pU 1 50 (bA 14 3) ?_
         refine pU 2 51 (bA 14 7) ?_
         refine pU 3 52 (bA 14 15) ?_
         refine pU 5 54 (bA 14 47) ?_
         refine pU 6 55 (bA 14 111) ?_
         refine pU 7 56 (bA 14 239) ?_
         refine pU 8 57 (bA 14 495) ?_
         refine tU 4 53 (bA 14 511) ?_
         refine tU 9 58 (bA 14 1023) ?_
         refine pU 10 59 (bA 14 2047) ?_
         refine pU 11 60 (bA 14 4095) ?_
         refine tU 12 61 (bA 14 8191) ?_
         refine pU 13 62 (bA 14 16383) ?_
         refine done_ (done_of HT_.out (by kernel_rfl)) ?_
         try go_wp2
         go_roundg k2
         case measure => have := HK1.out; have := HK2.out; omega
         case rel => exact ⟨(x44_2), (wrap64 (x44_2 + 1)), sD, sD, H', ⟨by have := HK1.out; have := HK2.out; omega⟩, ⟨kR⟩, ⟨kR⟩, ⟨kR⟩, ⟨kR⟩, ⟨by repeat (first | (with_reducible first | exact HB.out | apply below_alloc | apply pw_below_drewN | apply below_drew1) | exact HB.out)⟩⟩
        ·rw [if_neg c27] at H
         have c27b0 : decide (((rd_T59 l0 (rd y350 x12_2)).f0) < ((rd_T59 l0 (rd y350 x44_2)).f0)) = false := decide_eq_false c27
         clear c27
         have H' := Aside0.mk H
         clear H
         have p355 : 0 ≤ (x44_2 : Int) := oD
         have q355 : x44_2 < (y350.length : Int) := oD
         obtain ⟨ad355, e355, hx355_0⟩ := Kd.at_int (Kd.R_reads' HO_42.out).2.2 x44_2 p355 q355
         cases e355
         replace p355 := eq_true p355
         replace q355 := eq_true q355
         try go_wp2
         have n0_ := Aside0.mk (Kd.R_drew HO_6.out)
         have n1_ := Aside0.mk (Kd.R_drew HO_7.out)
         have n2_ := Aside0.mk (Kd.R_drew HO_18.out)
         have n3_ := Aside0.mk (Kd.R_drew HO_42.out)
         have n4_ := Aside0.mk (below_drew1 HB.out)
         clear HO_6
         clear HO_7
         clear HO_18
         clear HO_42
         clear HB
         have HO_6 := n0_
         have HO_7 := n1_
         have HO_18 := n2_
         have HO_42 := n3_
         have HB := n4_
         clear n0_ n1_ n2_ n3_ n4_
         have p356 : 0 ≤ ((rd y350 x44_2) : Int) := oD
         have q356 : (rd y350 x44_2) < (l0.length : Int) := oD
         obtain ⟨ad356, e356, hx356_0, hx356_1, hx356_2, hx356_3⟩ := at_T59 HR0.out (rd y350 x44_2) p356 q356
         have hw356_3 := hx356_3
         have hw356_2 := hx356_2
         have hw356_1 := hx356_1
         have hw356_0 := hx356_0
         obtain rfl : ad353 = ad356 := (by injection e356)
         replace hx356_0 := (cB HB.out hx356_0 :)
         replace hx356_1 := (cB HB.out hx356_1 :)
         replace hx356_2 := (cB HB.out hx356_2 :)
         replace hx356_3 := (cB HB.out hx356_3 :)
         replace p356 := eq_true p356
         replace q356 := eq_true q356
         have p357 : 0 ≤ (x12_2 : Int) := oD
         have q357 : x12_2 < (y350.length : Int) := oD
         obtain ⟨ad357, e357, hx357_0⟩ := Kd.at_int (Kd.R_reads' HO_6.out).2.2 x12_2 p357 q357
         obtain rfl : ad355 = ad357 := (by injection e357)
         replace p357 := eq_true p357
         replace q357 := eq_true q357
         have p358 : 0 ≤ ((rd y350 x12_2) : Int) := oD
         have q358 : (rd y350 x12_2) < (l0.length : Int) := oD
         obtain ⟨ad358, e358, hx358_0, hx358_1, hx358_2, hx358_3⟩ := at_T59 HR0.out (rd y350 x12_2) p358 q358
         have hw358_3 := hx358_3
         have hw358_2 := hx358_2
         have hw358_1 := hx358_1
         have hw358_0 := hx358_0
         obtain rfl : ad353 = ad358 := (by injection e358)
         replace hx358_0 := (cB HB.out hx358_0 :)
         replace hx358_1 := (cB HB.out hx358_1 :)
         replace hx358_2 := (cB HB.out hx358_2 :)
         replace hx358_3 := (cB HB.out hx358_3 :)
         replace p358 := eq_true p358
         replace q358 := eq_true q358
         refine start_ (n := 14) (S := fun w' => w'.cell? (ad353.add (((rd y350 x44_2)).toNat * 4)) = some (.int .i64 ((rd_T59 l0 (rd y350 x44_2)).f0)) ∧ w'.cell? ⟨(ad353.add (((rd y350 x44_2)).toNat * 4)).block, (ad353.add (((rd y350 x44_2)).toNat * 4)).off + 1, none⟩ = some (.int .i64 ((rd_T59 l0 (rd y350 x44_2)).f1)) ∧ w'.cell? ⟨(ad353.add (((rd y350 x44_2)).toNat * 4)).block, (ad353.add (((rd y350 x44_2)).toNat * 4)).off + 2, none⟩ = some (.int .i64 ((rd_T59 l0 (rd y350 x44_2)).f2)) ∧ w'.cell? ⟨(ad353.add (((rd y350 x44_2)).toNat * 4)).block, (ad353.add (((rd y350 x44_2)).toNat * 4)).off + 3, none⟩ = some (.int .i64 ((rd_T59 l0 (rd y350 x44_2)).f3)) ∧ w'.cell? (ad355.add (x12_2).toNat) = some (.int .i64 (rd y350 x12_2)) ∧ w'.cell? (ad353.add (((rd y350 x12_2)).toNat * 4)) = some (.int .i64 ((rd_T59 l0 (rd y350 x12_2)).f0)) ∧ w'.cell? ⟨(ad353.add (((rd y350 x12_2)).toNat * 4)).block, (ad353.add (((rd y350 x12_2)).toNat * 4)).off + 1, none⟩ = some (.int .i64 ((rd_T59 l0 (rd y350 x12_2)).f1)) ∧ w'.cell? ⟨(ad353.add (((rd y350 x12_2)).toNat * 4)).block, (ad353.add (((rd y350 x12_2)).toNat * 4)).off + 2, none⟩ = some (.int .i64 ((rd_T59 l0 (rd y350 x12_2)).f2)) ∧ w'.cell? ⟨(ad353.add (((rd y350 x12_2)).toNat * 4)).block, (ad353.add (((rd y350 x12_2)).toNat * 4)).off + 3, none⟩ = some (.int .i64 ((rd_T59 l0 (rd y350 x12_2)).f3))) (ds := []) (bA 14 0) (by kernel_rfl) rfl rfl ⟨((cB HB.out hw356_0 :)), ((cB HB.out hw356_1 :)), ((cB HB.out hw356_2 :)), ((cB HB.out hw356_3 :)), hx357_0, ((cB HB.out hw358_0 :)), ((cB HB.out hw358_1 :)), ((cB HB.out hw358_2 :)), ((cB HB.out hw358_3 :))⟩ (fun hHeld => ?_); refine with_tabW impl_lateRule.tab15 impl_lateRule.bits15 (fun HT_ HW_ => ?_)
         generalize wr.drew = w29 at HO_6 HO_7 HO_18 HO_42 HB hx356_0 hx356_1 hx356_2 hx356_3 hx357_0 hx358_0 hx358_1 hx358_2 hx358_3 hHeld ⊢
         refine pU 0 49 (bA 14 1) ?_
         refine pU 1 50 (bA 14 3) ?_
         refine pU 2 51 (bA 14 7) ?_
         refine pU 3 52 (bA 14 15) ?_
         refine pU 5 54 (bA 14 47) ?_
         refine pU 6 55 (bA 14 111) ?_
         refine pU 7 56 (bA 14 239) ?_
         refine pU 8 57 (bA 14 495) ?_
         refine tU 4 53 (bA 14 511) ?_
         refine tU 9 58 (bA 14 1023) ?_
         refine pU 10 59 (bA 14 2047) ?_
         refine pU 11 60 (bA 14 4095) ?_
         refine tU 12 61 (bA 14 8191) ?_
         refine pU 13 62 (bA 14 16383) ?_
         refine done_ (done_of HT_.out (by kernel_rfl)) ?_
         try go_wp2
         go_roundg k2
         case measure => have := HK1.out; have := HK2.out; omega
         case rel => exact ⟨(x12_2), (wrap64 (x44_2 + 1)), sD, sD, H', ⟨by have := HK1.out; have := HK2.out; omega⟩, ⟨kR⟩, ⟨kR⟩, ⟨kR⟩, ⟨kR⟩, ⟨by repeat (first | (with_reducible first | exact HB.out | apply below_alloc | apply pw_below_drewN | apply below_drew1) | exact HB.out)⟩⟩
       ·rw [if_neg c18] at H
        have c18b0 : decide (x44_2 < (y350.length : Int)) = false := decide_eq_false c18
        clear c18
        by_cases c30 : 0 ≤ x12_2; rotate_left
        ·rw [if_neg c30] at H; exact absurd H (by simp)
        rw [if_pos c30] at H
        have c30b0 : decide (0 ≤ x12_2) = true := decide_eq_true c30
        clear c30
        by_cases c31 : x12_2 < (y350.length : Int); rotate_left
        ·rw [if_neg c31] at H; exact absurd H (by simp)
        rw [if_pos c31] at H
        have c31b0 : decide (x12_2 < (y350.length : Int)) = true := decide_eq_true c31
        clear c31
        by_cases c32 : 0 ≤ (rd y350 x12_2); rotate_left
        ·rw [if_neg c32] at H; exact absurd H (by simp)
        rw [if_pos c32] at H
        have c32b0 : decide (0 ≤ (rd y350 x12_2)) = true := decide_eq_true c32
        clear c32
        by_cases c33 : (rd y350 x12_2) < (l0.length : Int); rotate_left
        ·rw [if_neg c33] at H; exact absurd H (by simp)
        rw [if_pos c33] at H
        have c33b0 : decide ((rd y350 x12_2) < (l0.length : Int)) = true := decide_eq_true c33
        clear c33
        have c34b0 := eq_true (oD : 0 ≤ x12_2)
        by_cases c35 : x12_2 ≤ (y350.length : Int); rotate_left
        ·rw [if_neg c35] at H; exact absurd H (by simp)
        rw [if_pos c35] at H
        have c35b0 := eq_true c35
        have c35b1 : decide (x12_2 ≤ (y350.length : Int)) = true := decide_eq_true c35
        clear c35
        obtain ⟨y361, hy361⟩ : ∃ y_ : List Int, y_ = (y350.take (x12_2 : Int).toNat) := ⟨_, rfl⟩
        replace H : (if 0 ≤ (wrap64 (x12_2 + 1)) then (if (wrap64 (x12_2 + 1)) ≤ (y350.length : Int) then (if x7_1.length < 8796093022208 then (impl_lateRule.l0 k2 l0 (y350.eraseIdx (x12_2 : Int).toNat) (x7_1 ++ [(⟨(rd y346 x20_1), rd y350 x12_2⟩ : S64)]) (wrap64 ((wrap64 (x8_1 + ((rd_T59 l0 (rd y346 x20_1)).f0))) - ((rd_T59 l0 (rd y350 x12_2)).f0))) y346 (y346.length : Int) (wrap64 (x20_1 + 1))) else (none)) else (none)) else (none)) = some (r1, r2) := by first | (rw [hy361]; with_reducible exact H) | (have H2_ := (Option.bind_some _ _).symm.trans H; rw [hy361]; with_reducible exact H2_) | (have H2_ := (Option.bind_some _ _).symm.trans H; with_reducible exact H2_) | with_reducible exact H | (rw [hy361]; exact H) | exact H
        have Ny361 := Aside0.mk hy361
        clear hy361
        obtain ⟨ji36, hji36⟩ : ∃ j_ : Int, (wrap64 (x12_2 + 1)) = j_ := ⟨_, rfl⟩
        replace H : (if 0 ≤ (ji36) then (if (ji36) ≤ (y350.length : Int) then (if x7_1.length < 8796093022208 then (impl_lateRule.l0 k2 l0 (y350.eraseIdx (x12_2 : Int).toNat) (x7_1 ++ [(⟨(rd y346 x20_1), rd y350 x12_2⟩ : S64)]) (wrap64 ((wrap64 (x8_1 + ((rd_T59 l0 (rd y346 x20_1)).f0))) - ((rd_T59 l0 (rd y350 x12_2)).f0))) y346 (y346.length : Int) (wrap64 (x20_1 + 1))) else (none)) else (none)) else (none)) = some (r1, r2) := by first | (rw [hji36] at H; exact H) | (simp only [hji36] at H ⊢; exact H)
        have hji36w : (IntKind.i64.wrap (x12_2 + 1)) = ji36 := (i64_w _).trans hji36
        by_cases c37 : 0 ≤ (ji36); rotate_left
        ·rw [if_neg c37] at H; exact absurd H (by simp)
        rw [if_pos c37] at H
        have c37b0 := eq_true c37
        have c37b1 : decide (0 ≤ (ji36)) = true := decide_eq_true c37
        clear c37
        by_cases c38 : (ji36) ≤ (y350.length : Int); rotate_left
        ·rw [if_neg c38] at H; exact absurd H (by simp)
        rw [if_pos c38] at H
        have c38b0 := eq_true c38
        have c38b1 : decide ((ji36) ≤ (y350.length : Int)) = true := decide_eq_true c38
        clear c38
        obtain ⟨y365, hy365⟩ : ∃ y_ : List Int, y_ = (y350.drop ((ji36) : Int).toNat) := ⟨_, rfl⟩
        replace H : (if x7_1.length < 8796093022208 then (impl_lateRule.l0 k2 l0 (y350.eraseIdx (x12_2 : Int).toNat) (x7_1 ++ [(⟨(rd y346 x20_1), rd y350 x12_2⟩ : S64)]) (wrap64 ((wrap64 (x8_1 + ((rd_T59 l0 (rd y346 x20_1)).f0))) - ((rd_T59 l0 (rd y350 x12_2)).f0))) y346 (y346.length : Int) (wrap64 (x20_1 + 1))) else (none)) = some (r1, r2) := by first | (rw [hy365]; with_reducible exact H) | (have H2_ := (Option.bind_some _ _).symm.trans H; rw [hy365]; with_reducible exact H2_) | (have H2_ := (Option.bind_some _ _).symm.trans H; with_reducible exact H2_) | with_reducible exact H | (rw [hy365]; exact H) | exact H
        have Ny365 := Aside0.mk hy365
        clear hy365
        obtain ⟨y369, hy369⟩ : ∃ y_ : List Int, y_ = (y350.eraseIdx (x12_2 : Int).toNat) := ⟨_, rfl⟩
        replace H : (if x7_1.length < 8796093022208 then (impl_lateRule.l0 k2 l0 y369 (x7_1 ++ [(⟨(rd y346 x20_1), rd y350 x12_2⟩ : S64)]) (wrap64 ((wrap64 (x8_1 + ((rd_T59 l0 (rd y346 x20_1)).f0))) - ((rd_T59 l0 (rd y350 x12_2)).f0))) y346 (y346.length : Int) (wrap64 (x20_1 + 1))) else (none)) = some (r1, r2) := by first | (rw [hy369]; with_reducible exact H) | (have H2_ := (Option.bind_some _ _).symm.trans H; rw [hy369]; with_reducible exact H2_) | (have H2_ := (Option.bind_some _ _).symm.trans H; with_reducible exact H2_) | with_reducible exact H | (rw [hy369]; exact H) | exact H
        have Ny369 := Aside0.mk hy369
        clear hy369
        by_cases c39 : x7_1.length < 8796093022208; rotate_left
        ·rw [if_neg c39] at H; exact absurd H (by simp)
        rw [if_pos c39] at H
        have LMc39 := Aside0.mk c39
        clear c39
        obtain ⟨y372, hy372⟩ : ∃ y_ : List (S64), y_ = (x7_1 ++ [(⟨(rd y346 x20_1), rd y350 x12_2⟩ : S64)]) := ⟨_, rfl⟩
        replace H : (impl_lateRule.l0 k2 l0 y369 y372 (wrap64 ((wrap64 (x8_1 + ((rd_T59 l0 (rd y346 x20_1)).f0))) - ((rd_T59 l0 (rd y350 x12_2)).f0))) y346 (y346.length : Int) (wrap64 (x20_1 + 1))) = some (r1, r2) := by first | (rw [hy372]; with_reducible exact H) | (have H2_ := (Option.bind_some _ _).symm.trans H; rw [hy372]; with_reducible exact H2_) | (have H2_ := (Option.bind_some _ _).symm.trans H; with_reducible exact H2_) | with_reducible exact H | (rw [hy372]; exact H) | exact H
        have Ny372 := Aside0.mk hy372
        clear hy372
        have H' := Aside0.mk H
        clear H
        have p359 : 0 ≤ (x12_2 : Int) := oD
        have q359 : x12_2 < (y350.length : Int) := oD
        obtain ⟨ad359, e359, hx359_0⟩ := Kd.at_int (Kd.R_reads' HO_6.out).2.2 x12_2 p359 q359
        cases e359
        replace p359 := eq_true p359
        replace q359 := eq_true q359
        have p360 : 0 ≤ ((rd y350 x12_2) : Int) := oD
        have q360 : (rd y350 x12_2) < (l0.length : Int) := oD
        obtain ⟨ad360, e360, hx360_0, hx360_1, hx360_2, hx360_3⟩ := at_T59 HR0.out (rd y350 x12_2) p360 q360
        obtain rfl : ad353 = ad360 := (by injection e360)
        replace hx360_0 := (cB HB.out hx360_0 :)
        replace hx360_1 := (cB HB.out hx360_1 :)
        replace hx360_2 := (cB HB.out hx360_2 :)
        replace hx360_3 := (cB HB.out hx360_3 :)
        replace p360 := eq_true p360
        replace q360 := eq_true q360
        try go_wp2
        have n0_ := Aside0.mk (Kd.R_drew HO_6.out)
        have n1_ := Aside0.mk (Kd.R_drew HO_7.out)
        have n2_ := Aside0.mk (Kd.R_drew HO_18.out)
        have n3_ := Aside0.mk (Kd.R_drew HO_42.out)
        have n4_ := Aside0.mk (below_drew1 HB.out)
        clear HO_6
        clear HO_7
        clear HO_18
        clear HO_42
        clear HB
        have HO_6 := n0_
        have HO_7 := n1_
        have HO_18 := n2_
        have HO_42 := n3_
        have HB := n4_
        clear n0_ n1_ n2_ n3_ n4_
        have q41 : (x12_2 : Int) ≤ ((y350.length : Int) : Int) := oD
        obtain ⟨i041, hi041, _, hsz41, _⟩ := info_parts info3
        have hroom41 : y350.length ≤ co17 := (Kd.R_reads' HO_6.out).2.1
        have hC41 : Kd.C (Kd.int .i64) _ (some ad359) y350.length y350 := (Kd.R_reads' HO_6.out).2.2
        have hcut41 := cut_to (P := Try.prog) 37 3 .i64 Try.underlying37 hi041 (some ad359) y350.length co17 x12_2 (oD) q41 hroom41
        have hr41 := Kd.C_take (m := (x12_2 : Int).toNat) hC41 (by omega)
        have hy41 : y361.length = (x12_2 : Int).toNat := (by rw [Ny361.out, List.length_take]; omega)
        rw [← Ny361.out] at hr41
        rw [← hy41] at hcut41
        have HR364 := Aside0.mk hr41
        have HC364 := Aside0.mk (show y361.length ≤ co17 from by omega)
        clear hr41 hC41 hroom41 hi041 hsz41
        have KY41 := Aside0.mk hy41
        clear hy41
        have KL41 := Aside0.mk (show (x12_2 : Int).toNat ≤ y350.length from by omega)
        replace q41 := eq_true q41
        have q42 : ((ji36) : Int) ≤ ((y350.length : Int) : Int) := oD
        obtain ⟨i042, hi042, _, hsz42, _⟩ := info_parts info3
        have hroom42 : y350.length ≤ co17 := (Kd.R_reads' HO_6.out).2.1
        have hC42 : Kd.C (Kd.int .i64) _ (some ad359) y350.length y350 := (Kd.R_reads' HO_6.out).2.2
        have q042 : (0 : Int) ≤ ((ji36) : Int) := oD
        have hcut42 := cut_from (P := Try.prog) 37 3 .i64 Try.underlying37 hi042 1 hsz42 (some ad359) y350.length co17 (ji36) q042 q42
        have hr42 := Kd.C_drop (m := ((ji36) : Int).toNat) (c := co17) hC42 (by omega) hroom42
        obtain ⟨A42, hA42⟩ : ∃ A1, A1 = (if co17 = ((ji36) : Int).toNat then (some ad359) else ((some ad359) : Option Addr).map (·.add (((ji36) : Int).toNat * 1))) := ⟨_, rfl⟩
        obtain ⟨c42, hc42⟩ : ∃ c1, c1 = co17 - ((ji36) : Int).toNat := ⟨_, rfl⟩
        have hy42 : y365.length = y350.length - ((ji36) : Int).toNat := (by rw [Ny365.out, List.length_drop] <;> omega)
        rw [show (y350).drop ((ji36) : Int).toNat = y365 from Ny365.out.symm] at hr42
        replace hr42 : Kd.C (Kd.int .i64) _ A42 y365.length y365 := (by rw [hA42]; exact hr42)
        rw [← hy42, ← hA42, ← hc42] at hcut42
        have HR368 := Aside0.mk hr42
        have HC368 := Aside0.mk (show y365.length ≤ c42 from by rw [hy42, hc42]; exact Nat.sub_le_sub_right hroom42 _)
        clear hr42 hC42 hroom42 hi042 hsz42 hc42
        have KY42 := Aside0.mk hy42
        have KA42 := Aside0.mk hA42
        clear hy42 hA42
        have KL42 := Aside0.mk (show ((ji36) : Int).toNat ≤ y350.length from by omega)
        replace q42 := eq_true q42
        obtain ⟨go44, co44, eo44, gb44, gl44, cl44, HG44⟩ := Kd.R_form HO_6.out (by have hj_ : 0 ≤ (x12_2 : Int) := oD; have hl_ : (ji36 : Int) ≤ (y350.length : Int) := oD; have hh_ : (x12_2 : Int) ≤ (y350.length : Int) := oD; rw [← hji36] at hl_; unfold wrap64 at hl_; omega)
        (first | cases eo44 | (injection eo44 with ea_ en_ ec_; (first | subst ea_ | (injection ea_ with ea_; subst ea_)); subst ec_; clear en_))
        have GB44 := Aside0.mk gb44
        have GG44 := Aside0.mk HG44
        clear gb44 gl44 HG44
        (first | simp only [add_plain] at hx359_0 | skip)
        refine start_ (n := 9) (S := fun w' => True) (ds := []) #[false, false, false, false, false, false, false, false, false] (by kernel_rfl) rfl rfl trivial (fun hHeld => ?_); refine with_tabW impl_lateRule.tab20 impl_lateRule.bits20 (fun HT_ HW_ => ?_)
        generalize wr.drew = w40 at HO_6 HO_7 HO_18 HO_42 HB GG44 HR364 HR368 hx359_0 hHeld ⊢
        refine pU 0 76 #[true, false, false, false, false, false, false, false, false] ?_
        refine pU 1 77 #[true, true, false, false, false, false, false, false, false] ?_
        refine pU 2 78 #[true, true, true, false, false, false, false, false, false] ?_
        refine pU 3 79 #[true, true, true, true, false, false, false, false, false] ?_
        refine pU 4 80 #[true, true, true, true, true, false, false, false, false] ?_
        refine pU 5 81 #[true, true, true, true, true, true, false, false, false] ?_
        refine pU 6 82 #[true, true, true, true, true, true, true, false, false] ?_
        refine one_ (i := 7) (N := some 83) #[true, true, true, true, true, true, true, true, false] rfl rfl (one_of HT_.out (by kernel_rfl)) (by decide) (fun K hK => ?_)
        have hj_ : 0 ≤ (x12_2 : Int) := oD
        have hl_ : (ji36 : Int) ≤ (y350.length : Int) := oD
        have hh_ : (x12_2 : Int) ≤ (y350.length : Int) := oD
        have hb_ := (Kd.R_reads' HO_6.out).2.2.2.1
        have h0_ : (0 : Int) ≤ (ji36 : Int) := oD
        have hy1_ := KY41.out
        have hk_ : (ji36 : Int).toNat = y361.length + 1 := (by have hw_ : (ji36 : Int) = x12_2 + 1 := (by have h00_ := h0_; rw [← hji36] at h00_ ⊢; unfold wrap64 at h00_ ⊢; omega); rw [hw_]; omega)
        refine Kd.R_delete_step (Kd.int .i64) (w0 := w) w.heap.size (by rfl) (.tmp 78) (.tmp 82) 37 3 rfl Try.underlying37 (by kernel_rfl) (g := go44) (n := y350.length) (c := co17) (k := y361.length) rfl rfl ?hA ?hm (by (with_reducible repeat (first | apply Kd.R_alloc | apply Kd.R_drewN | apply Kd.R_drew)); exact HO_6.out) ?hk bB (below_size bB) ?_
        (case hA => have ha_ := KA42.out; rw [hk_] at ha_; exact ha_)
        (case hm => have ha_ := KY42.out; omega)
        (case hk => omega)
        intro w43 ho hb hg
        clear hj_ hl_ hh_ hb_ hk_ h0_
        rw [hy1_, ← Ny369.out] at ho
        clear hy1_
        have hn_ : y350.length - 1 = y369.length := (by have := (Kd.R_reads' ho).1; omega)
        rw [hn_] at ho ⊢
        clear hn_
        have n0_ := Aside0.mk (ho)
        have n1_ := Aside0.mk (Kd.R_over' (v := (.slice (some ⟨go44, 0, none⟩) y350.length co17)) (by (with_reducible repeat (first | apply Kd.R_alloc | apply Kd.R_drewN | apply Kd.R_drew)); exact HO_7.out) (Kd.R_typed HO_6.out) (by decide) hg)
        have n2_ := Aside0.mk (Kd.R_after (v := (.slice (some ⟨go44, 0, none⟩) y350.length co17)) (v1 := .slice (some ⟨go44, 0, none⟩) y369.length co17) (ok := (fun k_ => some k_ ≠ (.slice (some ⟨go44, 0, none⟩) y350.length co17 : Value).ownBlock)) (by (with_reducible repeat (first | apply Kd.R_alloc | apply Kd.R_drewN | apply Kd.R_drew)); exact Kd.R_mono HO_18.out (fun _ hk => ⟨hk.2, hk.1⟩)) hg (.inl rfl))
        have n3_ := Aside0.mk (hb)
        clear HO_6
        clear HO_7
        clear HO_18
        clear HB
        have HO_6 := n0_
        have HO_7 := n1_
        have HO_18 := n2_
        have HB := n3_
        clear n0_ n1_ n2_ n3_
        clear ho hb hg
        refine hK.out _ _ trivial (fun hHeld => ?_)
        clear hK K
        refine norm_ (a' := ?_) ?_ ?_
        rotate_left
        ·show Act.put _ (some 83) _ = _
         simp only [Act.put, sA, sZ, sS, i64_w, i32_w]
         rfl
        refine pU 8 6 #[true, true, true, true, true, true, true, true, true] ?_
        refine done_ (done_of HT_.out (by kernel_rfl)) ?_
        try go_wp2_with (first | ((with_reducible refine gate_builtin (b := .append) (xs := #[.tmp 84, .tmp 88]) rfl ?_); at_builtin; refine Kd.R_append k64 (w0 := w) w.heap.size rfl (.tmp 84) (.tmp 88) 50 64 (.agg #[(.int .i64 0), (.int .i64 0)]) 16 rfl Try.underlying50 info64 rfl (by decide) (by omega) u7 x7_1 (⟨(rd y346 x20_1), rd y350 x12_2⟩ : S64) [.int .i64 (rd y346 x20_1), .int .i64 (rd y350 x12_2)] (fun _ => True) (fun _ => False) rfl rfl ?aP (fun _ hk => hk.elim) ?aF ?aO ?aB ?aS ?aL ?_; (case aP => exact k64_mkM _ _ _ (⟨(rd y346 x20_1), rd y350 x12_2⟩ : S64)); (case aB => exact bB); (case aF => exact (fun _ _ => trivial)); (case aO => exact (by (with_reducible repeat (first | apply Kd.R_alloc | apply Kd.R_drewN | apply Kd.R_drew)); exact HO_7.out)); (case aS => exact (below_size bB)); (case aL => have := LMc39.out; omega); intro v373 w45 ho hb hg hat; rw [← Ny372.out] at ho; have n0_ := Aside0.mk (Kd.R_over' (by (with_reducible repeat (first | apply Kd.R_alloc | apply Kd.R_drewN | apply Kd.R_drew)); exact HO_6.out) (Kd.R_typed (by (with_reducible repeat (first | apply Kd.R_alloc | apply Kd.R_drewN | apply Kd.R_drew)); exact HO_7.out)) (by decide) hg); have n1_ := Aside0.mk (Kd.R_over' (by (with_reducible repeat (first | apply Kd.R_alloc | apply Kd.R_drewN | apply Kd.R_drew)); exact HO_18.out) (Kd.R_typed (by (with_reducible repeat (first | apply Kd.R_alloc | apply Kd.R_drewN | apply Kd.R_drew)); exact HO_7.out)) (by decide) hg); have n2_ := Aside0.mk (hb); have n3_ := Aside0.mk (ho); clear HO_6; clear HO_18; clear HB; clear HO_7; have HO_6 := n0_; have HO_18 := n1_; have HB := n2_; have HO374 := n3_; clear n0_ n1_ n2_ n3_; clear ho hb hg hat))
        go_roundg k2
        case measure => have := HK1.out; have := HK2.out; omega
        case rel => exact ⟨(y369), (y372), (wrap64 ((wrap64 (x8_1 + ((rd_T59 l0 (rd y346 x20_1)).f0))) - ((rd_T59 l0 (rd y350 x12_2)).f0))), (wrap64 (x20_1 + 1)), sD, sD, H', ⟨by have := HK1.out; have := HK2.out; omega⟩, ⟨kR⟩, ⟨kR⟩, ⟨by (with_reducible repeat (first | apply Kd.R_alloc | apply Kd.R_drewN | apply Kd.R_drew)); exact Kd.R_mono HO_18.out (fun _ hk => hk.2)⟩, ⟨by repeat (first | (with_reducible first | exact HB.out | apply below_alloc | apply pw_below_drewN | apply below_drew1) | exact HB.out)⟩⟩
    ·rw [if_neg c15] at H
     have c15b0 : decide (((rd_T59 l0 (rd y346 x20_1)).f3) < (wrap64 (x8_1 + ((rd_T59 l0 (rd y346 x20_1)).f0)))) = false := decide_eq_false c15
     clear c15
     by_cases c46 : x7_1.length < 8796093022208; rotate_left
     ·rw [if_neg c46] at H; exact absurd H (by simp)
     rw [if_pos c46] at H
     have LMc46 := Aside0.mk c46
     clear c46
     obtain ⟨y375, hy375⟩ : ∃ y_ : List (S64), y_ = (x7_1 ++ [(⟨rd y346 x20_1, (-1)⟩ : S64)]) := ⟨_, rfl⟩
     replace H : (impl_lateRule.l0 k1 l0 y350 y375 (wrap64 (x8_1 + ((rd_T59 l0 (rd y346 x20_1)).f0))) y346 (y346.length : Int) (wrap64 (x20_1 + 1))) = some (r1, r2) := by first | (rw [hy375]; with_reducible exact H) | (have H2_ := (Option.bind_some _ _).symm.trans H; rw [hy375]; with_reducible exact H2_) | (have H2_ := (Option.bind_some _ _).symm.trans H; with_reducible exact H2_) | with_reducible exact H | (rw [hy375]; exact H) | exact H
     have Ny375 := Aside0.mk hy375
     clear hy375
     have H' := Aside0.mk H
     clear H
     have p349 : 0 ≤ (x20_1 : Int) := oD
     have q349 : x20_1 < (y346.length : Int) := oD
     obtain ⟨ad349, e349, hx349_0⟩ := Kd.at_int (Kd.R_reads' HO_18.out).2.2 x20_1 p349 q349
     cases e349
     replace p349 := eq_true p349
     replace q349 := eq_true q349
     go_wp2_with (first | ((with_reducible refine gate_builtin (b := .append) (xs := #[.tmp 24, .tmp 26]) rfl ?_); at_builtin; refine Kd.R_append (Kd.int .i64) (w0 := w) w.heap.size rfl (.tmp 24) (.tmp 26) 37 3 (.int .i64 0) 8 rfl Try.underlying37 info3 rfl (by decide) (by omega) u6 x6_1 (rd y346 x20_1) [.int .i64 (rd y346 x20_1)] (fun k_ => some k_ ≠ (.slice (some ad349) y346.length co7 : Value).ownBlock) (fun _ => False) rfl rfl ?aP (fun _ hk => hk.elim) ?aF ?aO ?aB ?aS ?aL ?_; (case aP => exact rfl); (case aB => exact bB); (case aF => exact (fun k_ hk => Kd.fresh' (Kd.R_lt (by (with_reducible repeat (first | apply Kd.R_alloc | apply Kd.R_drewN | apply Kd.R_drew)); exact HO_18.out)) k_ hk)); (case aO => exact (by (with_reducible repeat (first | apply Kd.R_alloc | apply Kd.R_drewN | apply Kd.R_drew)); exact HO_6.out)); (case aS => exact (below_size bB)); (case aL => have := LMc12.out; omega); intro v351 w47 ho hb hg hat; rw [← Ny350.out] at ho; have n0_ := Aside0.mk (Kd.R_over' (by (with_reducible repeat (first | apply Kd.R_alloc | apply Kd.R_drewN | apply Kd.R_drew)); exact HO_7.out) (Kd.R_typed (by (with_reducible repeat (first | apply Kd.R_alloc | apply Kd.R_drewN | apply Kd.R_drew)); exact HO_6.out)) (by decide) hg); have n1_ := Aside0.mk (Kd.R_after (ok := (fun _ => True)) (by (with_reducible repeat (first | apply Kd.R_alloc | apply Kd.R_drewN | apply Kd.R_drew)); exact Kd.R_mono HO_18.out (fun _ hk => ⟨trivial, hk⟩)) hg hat); have n2_ := Aside0.mk (hb); have n3_ := Aside0.mk (ho); clear HO_7; clear HO_18; clear HB; clear HO_6; have HO_7 := n0_; have HO_18 := n1_; have HB := n2_; have HO352 := n3_; clear n0_ n1_ n2_ n3_; clear ho hb hg hat; have p353 : 0 ≤ ((rd y346 x20_1) : Int) := oD; have q353 : (rd y346 x20_1) < (l0.length : Int) := oD; obtain ⟨ad353, e353, hx353_0, hx353_1, hx353_2, hx353_3⟩ := at_T59 HR0.out (rd y346 x20_1) p353 q353; cases e353; replace hx353_0 := (cB HB.out hx353_0 :); replace hx353_1 := (cB HB.out hx353_1 :); replace hx353_2 := (cB HB.out hx353_2 :); replace hx353_3 := (cB HB.out hx353_3 :); replace p353 := eq_true p353; replace q353 := eq_true q353; have p354 : 0 ≤ ((rd y346 x20_1) : Int) := oD; have q354 : (rd y346 x20_1) < (l0.length : Int) := oD; obtain ⟨ad354, e354, hx354_0, hx354_1, hx354_2, hx354_3⟩ := at_T59 HR0.out (rd y346 x20_1) p354 q354; obtain rfl : ad353 = ad354 := (by injection e354); replace hx354_0 := (cB HB.out hx354_0 :); replace hx354_1 := (cB HB.out hx354_1 :); replace hx354_2 := (cB HB.out hx354_2 :); replace hx354_3 := (cB HB.out hx354_3 :); replace p354 := eq_true p354; replace q354 := eq_true q354) | ((with_reducible refine gate_builtin (b := .append) (xs := #[.tmp 84, .tmp 88]) rfl ?_); at_builtin; refine Kd.R_append k64 (w0 := w) w.heap.size rfl (.tmp 84) (.tmp 88) 50 64 (.agg #[(.int .i64 0), (.int .i64 0)]) 16 rfl Try.underlying50 info64 rfl (by decide) (by omega) u7 x7_1 (⟨rd y346 x20_1, (-1)⟩ : S64) [.int .i64 (rd y346 x20_1), .int .i64 (-1)] (fun _ => True) (fun _ => False) rfl rfl ?aP (fun _ hk => hk.elim) ?aF ?aO ?aB ?aS ?aL ?_; (case aP => exact k64_mkM _ _ _ (⟨rd y346 x20_1, (-1)⟩ : S64)); (case aB => exact bB); (case aF => exact (fun _ _ => trivial)); (case aO => exact (by (with_reducible repeat (first | apply Kd.R_alloc | apply Kd.R_drewN | apply Kd.R_drew)); exact HO_7.out)); (case aS => exact (below_size bB)); (case aL => have := LMc46.out; omega); intro v376 w48 ho hb hg hat; rw [← Ny375.out] at ho; have n0_ := Aside0.mk (Kd.R_over' (by (with_reducible repeat (first | apply Kd.R_alloc | apply Kd.R_drewN | apply Kd.R_drew)); exact HO_18.out) (Kd.R_typed (by (with_reducible repeat (first | apply Kd.R_alloc | apply Kd.R_drewN | apply Kd.R_drew)); exact HO_7.out)) (by decide) hg); have n1_ := Aside0.mk (Kd.R_over' (by (with_reducible repeat (first | apply Kd.R_alloc | apply Kd.R_drewN | apply Kd.R_drew)); exact HO352.out) (Kd.R_typed (by (with_reducible repeat (first | apply Kd.R_alloc | apply Kd.R_drewN | apply Kd.R_drew)); exact HO_7.out)) (by decide) hg); have n2_ := Aside0.mk (hb); have n3_ := Aside0.mk (ho); clear HO_18; clear HO352; clear HB; clear HO_7; have HO_18 := n0_; have HO352 := n1_; have HB := n2_; have HO377 := n3_; clear n0_ n1_ n2_ n3_; clear ho hb hg hat))
     go_roundg k1
     case measure => have := HK1.out; omega
     case rel => exact ⟨(y350), (y375), (wrap64 (x8_1 + ((rd_T59 l0 (rd y346 x20_1)).f0))), (wrap64 (x20_1 + 1)), sD, sD, H', ⟨by have := HK1.out; omega⟩, ⟨kR⟩, ⟨kR⟩, ⟨by (with_reducible repeat (first | apply Kd.R_alloc | apply Kd.R_drewN | apply Kd.R_drew)); exact Kd.R_mono HO_18.out (fun _ hk => hk.2)⟩, ⟨by repeat (first | (with_reducible first | exact HB.out | apply below_alloc | apply pw_below_drewN | apply below_drew1) | exact HB.out)⟩⟩
   ·rw [if_neg c9] at H
    have c9b0 : decide (x20_1 < (y346.length : Int)) = false := decide_eq_false c9
    clear c9
    simp only [Option.some.injEq, Prod.mk.injEq] at H
    obtain ⟨rfl, rfl⟩ := H
    go_wp2
    go_ret2
    exact ⟨_, _, by first | rfl | (simp [errW_none, errW_some] <;> rfl) | (simp [*, errW_none, errW_some] <;> rfl), by (with_reducible repeat (first | apply Kd.R_alloc | apply Kd.R_drewN | apply Kd.R_drew)); exact Kd.R_mono HO_6.out (fun _ hk => trivial), by (with_reducible repeat (first | apply Kd.R_alloc | apply Kd.R_drewN | apply Kd.R_drew)); exact HO_7.out, bB⟩

/-! ### impl_ascending_1: function 140 -/
def impl_ascending_1.f (a0 : Int) (a1 : Int) : Option (Bool) := some (decide (a0 < a1))
set_option maxHeartbeats 8000000 in
set_option maxRecDepth 100000 in
theorem impl_ascending_1.calls (a0 : Int) (a1 : Int) (r : Bool) (w : World) (h : impl_ascending_1.f a0 a1 = some r) :
  Calls Try.prog 140 #[.int .i64 a0, .int .i64 a1] w fun e w' => e = .returned (.bool r) ∧ Drawn0 w w' := by
 have H : (some (decide (a0 < a1))) = some r := h
 clear h
 obtain rfl := Option.some.inj H
 go_enter Try.func140, Try.ntmps140
 go_wp2
 go_ret
 exact ⟨by first | rfl | (simp; done) | (simp [*]; done), by repeat (first | exact Drawn0.refl _ | apply Drawn0.step)⟩

end Go.Proofs.Ythhmembnhnghiaa.OFnExactLeftAfter
