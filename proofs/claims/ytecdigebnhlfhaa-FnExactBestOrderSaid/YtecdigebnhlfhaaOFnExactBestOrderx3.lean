/- Functions of the program as plain Lean functions, with their contracts: written by this session's program ownprint.py. Conditions: none. -/
import Derived.Test.YtecdigebnhlfhaaOFnExactBestOrderx0
import Derived.Test.YtecdigebnhlfhaaOFnExactBestOrderx2
namespace Go.Proofs.Ytecdigebnhlfhaa.OFnExactBestOrder
open Go.RowKit Go.Proofs.YtecdigebnhlfhaaW.PrintWords Go.Proofs.YtecdigebnhlfhaaW.PrintLast Go.Proofs.YtecdigebnhlfhaaW.PrintMore
attribute [local go_sem] max2_int min2_int max_two min_two max_three min_three max_four min_four   -- for this text's walks alone
set_option linter.unusedVariables false
set_option linter.unusedSimpArgs false

/-! ### spec_l2Of: function 155 -/
def spec_l2Of.l0 : Nat → List (S79) → List Int → Int → Int → Int → Option (Int)
 | 0, _, _, _, _, _ => none
 | k + 1, x0, x1, x2, x7, x8 => if x8 < (x0.length : Int) then ((spec_l2Greatest.f x2).bind fun t143 => (if t143 = true then (if 0 ≤ x8 then (if x8 < (x1.length : Int) then (if x2 = 4 then (if x8 = 0 then (spec_l2Of.l0 k x0 x1 x2 (wrap64 ((rd x1 x8) - ((rd_T79 x0 x8).f3))) (wrap64 (x8 + 1))) else (if (wrap64 ((rd x1 x8) - ((rd_T79 x0 x8).f3))) > x7 then (spec_l2Of.l0 k x0 x1 x2 (wrap64 ((rd x1 x8) - ((rd_T79 x0 x8).f3))) (wrap64 (x8 + 1))) else (spec_l2Of.l0 k x0 x1 x2 x7 (wrap64 (x8 + 1))))) else (if x8 = 0 then (spec_l2Of.l0 k x0 x1 x2 (rd x1 x8) (wrap64 (x8 + 1))) else (if (rd x1 x8) > x7 then (spec_l2Of.l0 k x0 x1 x2 (rd x1 x8) (wrap64 (x8 + 1))) else (spec_l2Of.l0 k x0 x1 x2 x7 (wrap64 (x8 + 1)))))) else (none)) else (none)) else (if 0 ≤ x8 then (if x8 < (x1.length : Int) then ((spec_l2Cost.f ((rd_T79 x0 x8).f0) ((rd_T79 x0 x8).f1) ((rd_T79 x0 x8).f2) ((rd_T79 x0 x8).f3) (rd x1 x8) x2).bind fun t146 => (spec_l2Of.l0 k x0 x1 x2 (wrap64 (x7 + t146)) (wrap64 (x8 + 1)))) else (none)) else (none)))) else (some x7)
def spec_l2Of.f (k : Nat) (l0 : List (S79)) (l1 : List Int) (a2 : Int) : Option (Int) := spec_l2Of.l0 k l0 l1 a2 0 0
theorem spec_l2Of.mono_l : ∀ k, (∀ y0 y1 y2 y3 y4, LeO (spec_l2Of.l0 k y0 y1 y2 y3 y4) (spec_l2Of.l0 (k + 1) y0 y1 y2 y3 y4))
 | 0 => fun _ _ _ _ _ r h => by simp [spec_l2Of.l0] at h
 | k + 1 => by
  have ih0 := spec_l2Of.mono_l k
  ·intro y0 y1 y2 y3 y4
   unfold spec_l2Of.l0
   repeat' first
   | (with_reducible exact ih0 _ _ _ _ _)
   | (with_reducible exact LeO.refl _)
   | (with_reducible exact LeO.none _)
   | (with_reducible refine LeO.ite ?_ ?_)
   | (with_reducible refine LeO.bind ?_ (fun _ => ?_))
   | exact ih0 _ _ _ _ _
   | exact LeO.none _
   | refine LeO.ite ?_ ?_
   | refine LeO.bind ?_ (fun _ => ?_)
theorem spec_l2Of.mono : ∀ a0 a1 a2 k, LeO (spec_l2Of.f k a0 a1 a2) (spec_l2Of.f (k + 1) a0 a1 a2) := by
 intro a0 a1 a2 k
 have ih0 := spec_l2Of.mono_l k
 unfold spec_l2Of.f
 repeat' first
   | (with_reducible exact ih0 _ _ _ _ _)
   | (with_reducible exact LeO.refl _)
   | (with_reducible exact LeO.none _)
   | (with_reducible refine LeO.ite ?_ ?_)
   | (with_reducible refine LeO.bind ?_ (fun _ => ?_))
   | exact ih0 _ _ _ _ _
   | exact LeO.none _
   | refine LeO.ite ?_ ?_
   | refine LeO.bind ?_ (fun _ => ?_)
def spec_l2Of.T6 : Bool × List (List Nat × List Nat) := (true, [([], []), ([], []), ([], []), ([1, 2], [1, 2]), ([3], [3]), ([], []), ([], []), ([5, 6], [5, 6]), ([7], [7]), ([], []), ([4, 8, 9], [4, 8, 9]), ([0, 10], [0, 10]), ([11, 10, 0, 1, 2, 3, 4, 5, 6, 7, 8, 9, 10, 11], [0, 11])])
def spec_l2Of.B6 : List Nat := [0, 0, 0, 6, 14, 0, 0, 96, 224, 0, 1022, 2047, 4095]
theorem spec_l2Of.tab6 : rtab .any (opsOf Try.f155 6) = spec_l2Of.T6 := by kernel_rfl
theorem spec_l2Of.bits6 : waitsOk spec_l2Of.T6.2 spec_l2Of.B6 = true := by kernel_rfl
set_option maxHeartbeats 8000000 in
set_option maxRecDepth 100000 in
theorem spec_l2Of.calls (k : Nat) (A0 : Option Addr) (c0 : Nat) (l0 : List (S79)) (A1 : Option Addr) (c1 : Nat) (l1 : List Int) (a2 : Int) (r : Int) (w : World) (hr0 : Kd.C k79 w A0 l0.length l0) (hc0 : l0.length ≤ c0) (hr1 : Kd.C (Kd.int .i64) w A1 l1.length l1) (hc1 : l1.length ≤ c1) (h : spec_l2Of.f k l0 l1 a2 = some r) :
  Calls Try.prog 155 #[.slice A0 l0.length c0, .slice A1 l1.length c1, .int .i64 a2] w fun e w' => e = .returned (.int .i64 r) ∧ Below w.heap.size w w' := by
 have hu79 := Try.underlying79
 have HR0 := Aside0.mk hr0
 have HC0 := Aside0.mk hc0
 clear hr0 hc0
 have HR1 := Aside0.mk hr1
 have HC1 := Aside0.mk hc1
 clear hr1 hc1
 have HB := Aside0.mk (Below.refl w.heap.size w)
 have H : (spec_l2Of.l0 k l0 l1 a2 0 0) = some r := h
 clear h
 have H' := Aside0.mk H
 clear H
 go_enter Try.func155, Try.ntmps155
 go_wp2
 go_loopg [7, 8] k (fun kq v7 v8 w' => ∃ (x7_1 : Int) (x8_1 : Int), v7 = .int .i64 x7_1 ∧ v8 = .int .i64 x8_1 ∧ Aside0 (spec_l2Of.l0 kq l0 l1 a2 x7_1 x8_1 = some r) ∧ Aside0 (kq ≤ k) ∧ Aside0 (Below w.heap.size w w'))
 case atStart => exact ⟨(0), (0), sD, sD, H', ⟨Nat.le_refl _⟩, ⟨by repeat (first | (with_reducible first | exact HB.out | apply below_alloc | apply pw_below_drewN | apply below_drew1) | exact HB.out)⟩⟩
 case round =>
  clear H'
  try clear c1
  try clear p2
  obtain ⟨x7_1, x8_1, rfl, rfl, HA, HK1, HB⟩ := hrel
  cases gk with
  | zero => exact absurd HA.out (by simp [spec_l2Of.l0])
  | succ k1 =>
   have H := HA.out
   clear HA
   simp only [spec_l2Of.l0] at H
   by_cases c4 : x8_1 < (l0.length : Int)
   ·rw [if_pos c4] at H
    have c4b0 : decide (x8_1 < (l0.length : Int)) = true := decide_eq_true c4
    clear c4
    replace H := Option.bind_eq_some_iff.mp H
    obtain ⟨t143, A50, H⟩ := H
    replace H : (if t143 = true then (if 0 ≤ x8_1 then (if x8_1 < (l1.length : Int) then (if a2 = 4 then (if x8_1 = 0 then (spec_l2Of.l0 k1 l0 l1 a2 (wrap64 ((rd l1 x8_1) - ((rd_T79 l0 x8_1).f3))) (wrap64 (x8_1 + 1))) else (if (wrap64 ((rd l1 x8_1) - ((rd_T79 l0 x8_1).f3))) > x7_1 then (spec_l2Of.l0 k1 l0 l1 a2 (wrap64 ((rd l1 x8_1) - ((rd_T79 l0 x8_1).f3))) (wrap64 (x8_1 + 1))) else (spec_l2Of.l0 k1 l0 l1 a2 x7_1 (wrap64 (x8_1 + 1))))) else (if x8_1 = 0 then (spec_l2Of.l0 k1 l0 l1 a2 (rd l1 x8_1) (wrap64 (x8_1 + 1))) else (if (rd l1 x8_1) > x7_1 then (spec_l2Of.l0 k1 l0 l1 a2 (rd l1 x8_1) (wrap64 (x8_1 + 1))) else (spec_l2Of.l0 k1 l0 l1 a2 x7_1 (wrap64 (x8_1 + 1)))))) else (none)) else (none)) else (if 0 ≤ x8_1 then (if x8_1 < (l1.length : Int) then ((spec_l2Cost.f ((rd_T79 l0 x8_1).f0) ((rd_T79 l0 x8_1).f1) ((rd_T79 l0 x8_1).f2) ((rd_T79 l0 x8_1).f3) (rd l1 x8_1) a2).bind fun t146 => (spec_l2Of.l0 k1 l0 l1 a2 (wrap64 (x7_1 + t146)) (wrap64 (x8_1 + 1)))) else (none)) else (none))) = some r := H
    have A5 := Aside0.mk A50
    clear A50
    by_cases c6 : t143 = true
    ·subst c6
     have H1 : (if 0 ≤ x8_1 then (if x8_1 < (l1.length : Int) then (if a2 = 4 then (if x8_1 = 0 then (spec_l2Of.l0 k1 l0 l1 a2 (wrap64 ((rd l1 x8_1) - ((rd_T79 l0 x8_1).f3))) (wrap64 (x8_1 + 1))) else (if (wrap64 ((rd l1 x8_1) - ((rd_T79 l0 x8_1).f3))) > x7_1 then (spec_l2Of.l0 k1 l0 l1 a2 (wrap64 ((rd l1 x8_1) - ((rd_T79 l0 x8_1).f3))) (wrap64 (x8_1 + 1))) else (spec_l2Of.l0 k1 l0 l1 a2 x7_1 (wrap64 (x8_1 + 1))))) else (if x8_1 = 0 then (spec_l2Of.l0 k1 l0 l1 a2 (rd l1 x8_1) (wrap64 (x8_1 + 1))) else (if (rd l1 x8_1) > x7_1 then (spec_l2Of.l0 k1 l0 l1 a2 (rd l1 x8_1) (wrap64 (x8_1 + 1))) else (spec_l2Of.l0 k1 l0 l1 a2 x7_1 (wrap64 (x8_1 + 1)))))) else (none)) else (none)) = some r := by rw [if_pos rfl] at H; exact H
     clear H
     have H := H1
     clear H1
     by_cases c7 : 0 ≤ x8_1; rotate_left
     ·rw [if_neg c7] at H; exact absurd H (by simp)
     rw [if_pos c7] at H
     have c7b0 : decide (0 ≤ x8_1) = true := decide_eq_true c7
     clear c7
     by_cases c8 : x8_1 < (l1.length : Int); rotate_left
     ·rw [if_neg c8] at H; exact absurd H (by simp)
     rw [if_pos c8] at H
     have c8b0 : decide (x8_1 < (l1.length : Int)) = true := decide_eq_true c8
     clear c8
     by_cases c9 : a2 = 4
     ·rw [if_pos c9] at H
      have c9b0 : (a2 == 4) = true := beq_iff_eq.mpr c9
      have c9b1 : (a2 != 4) = false := bne_eq_false_iff_eq.mpr c9
      clear c9
      by_cases c10 : x8_1 = 0
      ·rw [if_pos c10] at H
       have c10b0 : (x8_1 == 0) = true := beq_iff_eq.mpr c10
       have c10b1 : (x8_1 != 0) = false := bne_eq_false_iff_eq.mpr c10
       clear c10
       have H' := Aside0.mk H
       clear H
       go_wp2_with (first | ((with_reducible refine gate_callee (f := 157) rfl ?_); refine goesL_ (some 17) rfl rfl Try.func157 (by kernel_rfl) rfl #[.int .i64 a2] rfl aE ?_; (with_reducible refine (spec_l2Greatest.calls a2 true _ A5.out).mono ?_); rintro e w' ⟨rfl, ⟨nd, rfl⟩⟩; refine ⟨_, rfl, ?_⟩; have p147 : 0 ≤ (x8_1 : Int) := oD; have q147 : x8_1 < (l1.length : Int) := oD; obtain ⟨ad147, e147, hx147_0⟩ := Kd.at_int HR1.out x8_1 p147 q147; cases e147; replace hx147_0 := (cB HB.out hx147_0 :); replace p147 := eq_true p147; replace q147 := eq_true q147; have p148 : 0 ≤ (x8_1 : Int) := oD; have q148 : x8_1 < (l0.length : Int) := oD; obtain ⟨ad148, e148, hx148_0, hx148_1, hx148_2, hx148_3⟩ := at_T79 HR0.out x8_1 p148 q148; cases e148; replace hx148_0 := (cB HB.out hx148_0 :); replace hx148_1 := (cB HB.out hx148_1 :); replace hx148_2 := (cB HB.out hx148_2 :); replace hx148_3 := (cB HB.out hx148_3 :); replace p148 := eq_true p148; replace q148 := eq_true q148))
       go_roundg k1
       case measure => have := HK1.out; omega
       case rel => exact ⟨(wrap64 ((rd l1 x8_1) - ((rd_T79 l0 x8_1).f3))), (wrap64 (x8_1 + 1)), sD, sD, H', ⟨by have := HK1.out; omega⟩, ⟨by repeat (first | (with_reducible first | exact HB.out | apply below_alloc | apply pw_below_drewN | apply below_drew1) | exact HB.out)⟩⟩
      ·rw [if_neg c10] at H
       have c10b0 : (x8_1 == 0) = false := beq_eq_false_iff_ne.mpr c10
       have c10b1 : (x8_1 != 0) = true := bne_iff_ne.mpr c10
       by_cases c11 : (wrap64 ((rd l1 x8_1) - ((rd_T79 l0 x8_1).f3))) > x7_1
       ·rw [if_pos c11] at H
        have c11b0 : decide (x7_1 < (wrap64 ((rd l1 x8_1) - ((rd_T79 l0 x8_1).f3)))) = true := decide_eq_true c11
        clear c11
        have H' := Aside0.mk H
        clear H
        go_wp2_with (first | ((with_reducible refine gate_callee (f := 157) rfl ?_); refine goesL_ (some 17) rfl rfl Try.func157 (by kernel_rfl) rfl #[.int .i64 a2] rfl aE ?_; (with_reducible refine (spec_l2Greatest.calls a2 true _ A5.out).mono ?_); rintro e w' ⟨rfl, ⟨nd, rfl⟩⟩; refine ⟨_, rfl, ?_⟩; have p147 : 0 ≤ (x8_1 : Int) := oD; have q147 : x8_1 < (l1.length : Int) := oD; obtain ⟨ad147, e147, hx147_0⟩ := Kd.at_int HR1.out x8_1 p147 q147; cases e147; replace hx147_0 := (cB HB.out hx147_0 :); replace p147 := eq_true p147; replace q147 := eq_true q147; have p148 : 0 ≤ (x8_1 : Int) := oD; have q148 : x8_1 < (l0.length : Int) := oD; obtain ⟨ad148, e148, hx148_0, hx148_1, hx148_2, hx148_3⟩ := at_T79 HR0.out x8_1 p148 q148; cases e148; replace hx148_0 := (cB HB.out hx148_0 :); replace hx148_1 := (cB HB.out hx148_1 :); replace hx148_2 := (cB HB.out hx148_2 :); replace hx148_3 := (cB HB.out hx148_3 :); replace p148 := eq_true p148; replace q148 := eq_true q148))
        go_roundg k1
        case measure => have := HK1.out; omega
        case rel => exact ⟨(wrap64 ((rd l1 x8_1) - ((rd_T79 l0 x8_1).f3))), (wrap64 (x8_1 + 1)), sD, sD, H', ⟨by have := HK1.out; omega⟩, ⟨by repeat (first | (with_reducible first | exact HB.out | apply below_alloc | apply pw_below_drewN | apply below_drew1) | exact HB.out)⟩⟩
       ·rw [if_neg c11] at H
        have c11b0 : decide (x7_1 < (wrap64 ((rd l1 x8_1) - ((rd_T79 l0 x8_1).f3)))) = false := decide_eq_false c11
        clear c11
        have H' := Aside0.mk H
        clear H
        go_wp2_with (first | ((with_reducible refine gate_callee (f := 157) rfl ?_); refine goesL_ (some 17) rfl rfl Try.func157 (by kernel_rfl) rfl #[.int .i64 a2] rfl aE ?_; (with_reducible refine (spec_l2Greatest.calls a2 true _ A5.out).mono ?_); rintro e w' ⟨rfl, ⟨nd, rfl⟩⟩; refine ⟨_, rfl, ?_⟩; have p147 : 0 ≤ (x8_1 : Int) := oD; have q147 : x8_1 < (l1.length : Int) := oD; obtain ⟨ad147, e147, hx147_0⟩ := Kd.at_int HR1.out x8_1 p147 q147; cases e147; replace hx147_0 := (cB HB.out hx147_0 :); replace p147 := eq_true p147; replace q147 := eq_true q147; have p148 : 0 ≤ (x8_1 : Int) := oD; have q148 : x8_1 < (l0.length : Int) := oD; obtain ⟨ad148, e148, hx148_0, hx148_1, hx148_2, hx148_3⟩ := at_T79 HR0.out x8_1 p148 q148; cases e148; replace hx148_0 := (cB HB.out hx148_0 :); replace hx148_1 := (cB HB.out hx148_1 :); replace hx148_2 := (cB HB.out hx148_2 :); replace hx148_3 := (cB HB.out hx148_3 :); replace p148 := eq_true p148; replace q148 := eq_true q148))
        go_roundg k1
        case measure => have := HK1.out; omega
        case rel => exact ⟨(x7_1), (wrap64 (x8_1 + 1)), sD, sD, H', ⟨by have := HK1.out; omega⟩, ⟨by repeat (first | (with_reducible first | exact HB.out | apply below_alloc | apply pw_below_drewN | apply below_drew1) | exact HB.out)⟩⟩
     ·rw [if_neg c9] at H
      have c9b0 : (a2 == 4) = false := beq_eq_false_iff_ne.mpr c9
      have c9b1 : (a2 != 4) = true := bne_iff_ne.mpr c9
      by_cases c12 : x8_1 = 0
      ·rw [if_pos c12] at H
       have c12b0 : (x8_1 == 0) = true := beq_iff_eq.mpr c12
       have c12b1 : (x8_1 != 0) = false := bne_eq_false_iff_eq.mpr c12
       clear c12
       have H' := Aside0.mk H
       clear H
       go_wp2_with (first | ((with_reducible refine gate_callee (f := 157) rfl ?_); refine goesL_ (some 17) rfl rfl Try.func157 (by kernel_rfl) rfl #[.int .i64 a2] rfl aE ?_; (with_reducible refine (spec_l2Greatest.calls a2 true _ A5.out).mono ?_); rintro e w' ⟨rfl, ⟨nd, rfl⟩⟩; refine ⟨_, rfl, ?_⟩; have p147 : 0 ≤ (x8_1 : Int) := oD; have q147 : x8_1 < (l1.length : Int) := oD; obtain ⟨ad147, e147, hx147_0⟩ := Kd.at_int HR1.out x8_1 p147 q147; cases e147; replace hx147_0 := (cB HB.out hx147_0 :); replace p147 := eq_true p147; replace q147 := eq_true q147))
       go_roundg k1
       case measure => have := HK1.out; omega
       case rel => exact ⟨(rd l1 x8_1), (wrap64 (x8_1 + 1)), sD, sD, H', ⟨by have := HK1.out; omega⟩, ⟨by repeat (first | (with_reducible first | exact HB.out | apply below_alloc | apply pw_below_drewN | apply below_drew1) | exact HB.out)⟩⟩
      ·rw [if_neg c12] at H
       have c12b0 : (x8_1 == 0) = false := beq_eq_false_iff_ne.mpr c12
       have c12b1 : (x8_1 != 0) = true := bne_iff_ne.mpr c12
       by_cases c13 : (rd l1 x8_1) > x7_1
       ·rw [if_pos c13] at H
        have c13b0 : decide (x7_1 < (rd l1 x8_1)) = true := decide_eq_true c13
        clear c13
        have H' := Aside0.mk H
        clear H
        go_wp2_with (first | ((with_reducible refine gate_callee (f := 157) rfl ?_); refine goesL_ (some 17) rfl rfl Try.func157 (by kernel_rfl) rfl #[.int .i64 a2] rfl aE ?_; (with_reducible refine (spec_l2Greatest.calls a2 true _ A5.out).mono ?_); rintro e w' ⟨rfl, ⟨nd, rfl⟩⟩; refine ⟨_, rfl, ?_⟩; have p147 : 0 ≤ (x8_1 : Int) := oD; have q147 : x8_1 < (l1.length : Int) := oD; obtain ⟨ad147, e147, hx147_0⟩ := Kd.at_int HR1.out x8_1 p147 q147; cases e147; replace hx147_0 := (cB HB.out hx147_0 :); replace p147 := eq_true p147; replace q147 := eq_true q147))
        go_roundg k1
        case measure => have := HK1.out; omega
        case rel => exact ⟨(rd l1 x8_1), (wrap64 (x8_1 + 1)), sD, sD, H', ⟨by have := HK1.out; omega⟩, ⟨by repeat (first | (with_reducible first | exact HB.out | apply below_alloc | apply pw_below_drewN | apply below_drew1) | exact HB.out)⟩⟩
       ·rw [if_neg c13] at H
        have c13b0 : decide (x7_1 < (rd l1 x8_1)) = false := decide_eq_false c13
        clear c13
        have H' := Aside0.mk H
        clear H
        go_wp2_with (first | ((with_reducible refine gate_callee (f := 157) rfl ?_); refine goesL_ (some 17) rfl rfl Try.func157 (by kernel_rfl) rfl #[.int .i64 a2] rfl aE ?_; (with_reducible refine (spec_l2Greatest.calls a2 true _ A5.out).mono ?_); rintro e w' ⟨rfl, ⟨nd, rfl⟩⟩; refine ⟨_, rfl, ?_⟩; have p147 : 0 ≤ (x8_1 : Int) := oD; have q147 : x8_1 < (l1.length : Int) := oD; obtain ⟨ad147, e147, hx147_0⟩ := Kd.at_int HR1.out x8_1 p147 q147; cases e147; replace hx147_0 := (cB HB.out hx147_0 :); replace p147 := eq_true p147; replace q147 := eq_true q147))
        go_roundg k1
        case measure => have := HK1.out; omega
        case rel => exact ⟨(x7_1), (wrap64 (x8_1 + 1)), sD, sD, H', ⟨by have := HK1.out; omega⟩, ⟨by repeat (first | (with_reducible first | exact HB.out | apply below_alloc | apply pw_below_drewN | apply below_drew1) | exact HB.out)⟩⟩
    ·replace c6 := Bool.eq_false_iff.mpr c6
     subst c6
     have H1 : (if 0 ≤ x8_1 then (if x8_1 < (l1.length : Int) then ((spec_l2Cost.f ((rd_T79 l0 x8_1).f0) ((rd_T79 l0 x8_1).f1) ((rd_T79 l0 x8_1).f2) ((rd_T79 l0 x8_1).f3) (rd l1 x8_1) a2).bind fun t146 => (spec_l2Of.l0 k1 l0 l1 a2 (wrap64 (x7_1 + t146)) (wrap64 (x8_1 + 1)))) else (none)) else (none)) = some r := by rw [if_neg (show ¬ (false = true) by decide)] at H; exact H
     clear H
     have H := H1
     clear H1
     by_cases c14 : 0 ≤ x8_1; rotate_left
     ·rw [if_neg c14] at H; exact absurd H (by simp)
     rw [if_pos c14] at H
     have c14b0 : decide (0 ≤ x8_1) = true := decide_eq_true c14
     clear c14
     by_cases c15 : x8_1 < (l1.length : Int); rotate_left
     ·rw [if_neg c15] at H; exact absurd H (by simp)
     rw [if_pos c15] at H
     have c15b0 : decide (x8_1 < (l1.length : Int)) = true := decide_eq_true c15
     clear c15
     replace H := Option.bind_eq_some_iff.mp H
     obtain ⟨t146, A160, H⟩ := H
     replace H : (spec_l2Of.l0 k1 l0 l1 a2 (wrap64 (x7_1 + t146)) (wrap64 (x8_1 + 1))) = some r := H
     have A16 := Aside0.mk A160
     clear A160
     have H' := Aside0.mk H
     clear H
     try go_wp2_with (first | ((with_reducible refine gate_callee (f := 157) rfl ?_); refine goesL_ (some 17) rfl rfl Try.func157 (by kernel_rfl) rfl #[.int .i64 a2] rfl aE ?_; (with_reducible refine (spec_l2Greatest.calls a2 false _ A5.out).mono ?_); rintro e w' ⟨rfl, ⟨nd, rfl⟩⟩; refine ⟨_, rfl, ?_⟩))
     (try (rw [drewN_self wr]; generalize hq_ : World.drewN wr _ = wr; have n0_ : Aside0 (Below w.heap.size w wr) := ⟨by rw [← hq_]; exact bB⟩; clear HB hq_; have HB := n0_; clear n0_))
     have n0_ := Aside0.mk (below_drew1 HB.out)
     clear HB
     have HB := n0_
     clear n0_
     have p144 : 0 ≤ (x8_1 : Int) := oD
     have q144 : x8_1 < (l0.length : Int) := oD
     obtain ⟨ad144, e144, hx144_0, hx144_1, hx144_2, hx144_3⟩ := at_T79 HR0.out x8_1 p144 q144
     have hw144_3 := hx144_3
     have hw144_2 := hx144_2
     have hw144_1 := hx144_1
     have hw144_0 := hx144_0
     cases e144
     replace hx144_0 := (cB HB.out hx144_0 :)
     replace hx144_1 := (cB HB.out hx144_1 :)
     replace hx144_2 := (cB HB.out hx144_2 :)
     replace hx144_3 := (cB HB.out hx144_3 :)
     replace p144 := eq_true p144
     replace q144 := eq_true q144
     have p145 : 0 ≤ (x8_1 : Int) := oD
     have q145 : x8_1 < (l1.length : Int) := oD
     obtain ⟨ad145, e145, hx145_0⟩ := Kd.at_int HR1.out x8_1 p145 q145
     have hw145_0 := hx145_0
     cases e145
     replace hx145_0 := (cB HB.out hx145_0 :)
     replace p145 := eq_true p145
     replace q145 := eq_true q145
     refine start_ (n := 13) (S := fun w' => w'.cell? (ad144.add ((x8_1).toNat * 4)) = some (.int .i64 ((rd_T79 l0 x8_1).f0)) ∧ w'.cell? ⟨(ad144.add ((x8_1).toNat * 4)).block, (ad144.add ((x8_1).toNat * 4)).off + 1, none⟩ = some (.int .i64 ((rd_T79 l0 x8_1).f1)) ∧ w'.cell? ⟨(ad144.add ((x8_1).toNat * 4)).block, (ad144.add ((x8_1).toNat * 4)).off + 2, none⟩ = some (.int .i64 ((rd_T79 l0 x8_1).f2)) ∧ w'.cell? ⟨(ad144.add ((x8_1).toNat * 4)).block, (ad144.add ((x8_1).toNat * 4)).off + 3, none⟩ = some (.int .i64 ((rd_T79 l0 x8_1).f3)) ∧ w'.cell? (ad145.add (x8_1).toNat) = some (.int .i64 (rd l1 x8_1))) (ds := []) (bA 13 0) (by kernel_rfl) rfl rfl ⟨((cB HB.out hw144_0 :)), ((cB HB.out hw144_1 :)), ((cB HB.out hw144_2 :)), ((cB HB.out hw144_3 :)), ((cB HB.out hw145_0 :))⟩ (fun hHeld => ?_); refine with_tabW spec_l2Of.tab6 spec_l2Of.bits6 (fun HT_ HW_ => ?_)
     generalize wr.drew = w17 at HB hx144_0 hx144_1 hx144_2 hx144_3 hx145_0 hHeld ⊢
     refine pU 0 19 (bA 13 1) ?_
     refine pU 1 20 (bA 13 3) ?_
     refine pU 2 21 (bA 13 7) ?_
     refine pU 3 22 (bA 13 15) ?_
     refine pU 5 24 (bA 13 47) ?_
     refine pU 6 25 (bA 13 111) ?_
     refine pU 7 26 (bA 13 239) ?_
     refine pU 9 28 (bA 13 751) ?_
     refine tU 4 23 (bA 13 767) ?_
     refine tU 8 27 (bA 13 1023) ?_
     refine one_ (i := 10) (N := some 29) (bA 13 2047) rfl rfl (one_of HT_.out (by kernel_rfl)) (by decide) (fun K hK => ?_)
     refine goes_ Try.func158 (by kernel_rfl) rfl #[.agg #[.int .i64 ((rd_T79 l0 x8_1).f0), .int .i64 ((rd_T79 l0 x8_1).f1), .int .i64 ((rd_T79 l0 x8_1).f2), .int .i64 ((rd_T79 l0 x8_1).f3)], .int .i64 (rd l1 x8_1), .int .i64 a2] (by rfl) rfl rfl aE ?_
     with_reducible refine (spec_l2Cost.calls ((rd_T79 l0 x8_1).f0) ((rd_T79 l0 x8_1).f1) ((rd_T79 l0 x8_1).f2) ((rd_T79 l0 x8_1).f3) (rd l1 x8_1) a2 t146 _ A16.out).mono ?_
     rintro e w18 ⟨rfl, hb⟩
     refine ⟨_, rfl, ?_⟩
     have n0_ := Aside0.mk (below_step bB hb)
     clear HB
     have HB := n0_
     clear n0_
     (try clear hb)
     (try clear hb2)
     (try clear hk)
     (try clear hi)
     refine hK.out _ _ ⟨((cB HB.out hw144_0 :)), ((cB HB.out hw144_1 :)), ((cB HB.out hw144_2 :)), ((cB HB.out hw144_3 :)), ((cB HB.out hw145_0 :))⟩ (fun hHeld => ?_)
     clear hK K
     refine norm_ (a' := ?_) ?_ ?_
     rotate_left
     ·show Act.put _ (some 29) _ = _
      simp only [Act.put, sA, sZ, sS, i64_w, i32_w]
      rfl
     refine pU 11 30 (bA 13 4095) ?_
     refine pU 12 7 (bA 13 8191) ?_
     refine done_ (done_of HT_.out (by kernel_rfl)) ?_
     try go_wp2
     go_roundg k1
     case measure => have := HK1.out; omega
     case rel => exact ⟨(wrap64 (x7_1 + t146)), (wrap64 (x8_1 + 1)), sD, sD, H', ⟨by have := HK1.out; omega⟩, ⟨by repeat (first | (with_reducible first | exact HB.out | apply below_alloc | apply pw_below_drewN | apply below_drew1) | exact HB.out)⟩⟩
   ·rw [if_neg c4] at H
    have c4b0 : decide (x8_1 < (l0.length : Int)) = false := decide_eq_false c4
    clear c4
    obtain rfl := Option.some.inj H
    go_wp2
    go_ret
    exact ⟨rE, bB⟩

/-! ### spec_l2Starts: function 159 -/
def spec_l2Starts.l0 : Nat → List (S79) → List Int → List Int → Int → Int → Option (List Int)
 | 0, _, _, _, _, _ => none
 | k + 1, x0, x1, x5, x6, x7 => if x7 < (x1.length : Int) then (if 0 ≤ x7 then (if 0 ≤ (rd x1 x7) then (if (rd x1 x7) < (x0.length : Int) then ((spec_l1Most.f x6 ((rd_T79 x0 (rd x1 x7)).f2)).bind fun t155 => (if (rd x1 x7) < (x5.length : Int) then ((some (x5.set ((rd x1 x7) : Int).toNat t155 : List Int)).bind fun y156 => (spec_l2Starts.l0 k x0 x1 y156 (wrap64 ((rd y156 (rd x1 x7)) + ((rd_T79 x0 (rd x1 x7)).f0))) (wrap64 (x7 + 1)))) else (none))) else (none)) else (none)) else (none)) else (some x5)
def spec_l2Starts.f (k : Nat) (l0 : List (S79)) (l1 : List Int) : Option (List Int) := if 0 ≤ (l0.length : Int) then (if ((l0.length : Int) : Int).toNat ≤ 35184372088832 then (spec_l2Starts.l0 k l0 l1 (List.replicate ((l0.length : Int) : Int).toNat 0) 0 0) else (none)) else (none)
theorem spec_l2Starts.mono_l : ∀ k, (∀ y0 y1 y2 y3 y4, LeO (spec_l2Starts.l0 k y0 y1 y2 y3 y4) (spec_l2Starts.l0 (k + 1) y0 y1 y2 y3 y4))
 | 0 => fun _ _ _ _ _ r h => by simp [spec_l2Starts.l0] at h
 | k + 1 => by
  have ih0 := spec_l2Starts.mono_l k
  ·intro y0 y1 y2 y3 y4
   unfold spec_l2Starts.l0
   repeat' first
   | (with_reducible exact ih0 _ _ _ _ _)
   | (with_reducible exact LeO.refl _)
   | (with_reducible exact LeO.none _)
   | (with_reducible refine LeO.ite ?_ ?_)
   | (with_reducible refine LeO.bind ?_ (fun _ => ?_))
   | exact ih0 _ _ _ _ _
   | exact LeO.none _
   | refine LeO.ite ?_ ?_
   | refine LeO.bind ?_ (fun _ => ?_)
theorem spec_l2Starts.mono : ∀ a0 a1 k, LeO (spec_l2Starts.f k a0 a1) (spec_l2Starts.f (k + 1) a0 a1) := by
 intro a0 a1 k
 have ih0 := spec_l2Starts.mono_l k
 unfold spec_l2Starts.f
 repeat' first
   | (with_reducible exact ih0 _ _ _ _ _)
   | (with_reducible exact LeO.refl _)
   | (with_reducible exact LeO.none _)
   | (with_reducible refine LeO.ite ?_ ?_)
   | (with_reducible refine LeO.bind ?_ (fun _ => ?_))
   | exact ih0 _ _ _ _ _
   | exact LeO.none _
   | refine LeO.ite ?_ ?_
   | refine LeO.bind ?_ (fun _ => ?_)
def spec_l2Starts.T5 : Bool × List (List Nat × List Nat) := (true, [([], []), ([], []), ([], []), ([1, 2], [1, 2]), ([3], [3]), ([], []), ([], []), ([], []), ([], []), ([7, 8], [7, 8]), ([9], [9]), ([6, 10], [6, 10]), ([11], [11]), ([12], [12]), ([5, 13], [5, 13]), ([0, 4, 0, 1, 2, 3, 4, 5, 6, 7, 8, 9, 10, 11, 12, 13, 14], [0, 4]), ([15, 14, 14, 0, 1, 2, 3, 4, 5, 6, 7, 8, 9, 10, 11, 12, 13, 14], [14, 15])])
def spec_l2Starts.B5 : List Nat := [0, 0, 0, 6, 14, 0, 0, 0, 0, 384, 896, 1984, 4032, 8128, 16352, 32767, 65535]
theorem spec_l2Starts.tab5 : rtab .any (opsOf Try.f159 5) = spec_l2Starts.T5 := by kernel_rfl
theorem spec_l2Starts.bits5 : waitsOk spec_l2Starts.T5.2 spec_l2Starts.B5 = true := by kernel_rfl
def spec_l2Starts.T6 : Bool × List (List Nat × List Nat) := (true, [([], []), ([], []), ([], []), ([1, 2], [1, 2]), ([3], [3]), ([0, 4], [0, 4]), ([5], [5]), ([], []), ([], []), ([], []), ([8, 9], [8, 9]), ([10], [10]), ([7, 11], [7, 11]), ([12], [12]), ([13], [13]), ([6, 14], [6, 14]), ([15, 0, 1, 2, 3, 4, 5, 6, 7, 8, 9, 10, 11, 12, 13, 14, 15], [15])])
def spec_l2Starts.B6 : List Nat := [0, 0, 0, 6, 14, 31, 63, 0, 0, 0, 768, 1792, 3968, 8064, 16256, 32767, 65535]
theorem spec_l2Starts.tab6 : rtab .any (opsOf Try.f159 6) = spec_l2Starts.T6 := by kernel_rfl
theorem spec_l2Starts.bits6 : waitsOk spec_l2Starts.T6.2 spec_l2Starts.B6 = true := by kernel_rfl
set_option maxHeartbeats 8000000 in
set_option maxRecDepth 100000 in
theorem spec_l2Starts.calls (k : Nat) (A0 : Option Addr) (c0 : Nat) (l0 : List (S79)) (A1 : Option Addr) (c1 : Nat) (l1 : List Int) (r : List Int) (w : World) (hr0 : Kd.C k79 w A0 l0.length l0) (hc0 : l0.length ≤ c0) (hr1 : Kd.C (Kd.int .i64) w A1 l1.length l1) (hc1 : l1.length ≤ c1) (h : spec_l2Starts.f k l0 l1 = some r) :
  Calls Try.prog 159 #[.slice A0 l0.length c0, .slice A1 l1.length c1] w fun e w' => ∃ v0_ : Value, e = .returned (v0_) ∧ Kd.R (Kd.int .i64) 3 w' w.heap.size (fun _ => True) v0_ r ∧ Below w.heap.size w w' := by
 have HR0 := Aside0.mk hr0
 have HC0 := Aside0.mk hc0
 clear hr0 hc0
 have HR1 := Aside0.mk hr1
 have HC1 := Aside0.mk hc1
 clear hr1 hc1
 have HB := Aside0.mk (Below.refl w.heap.size w)
 have H : (if 0 ≤ (l0.length : Int) then (if ((l0.length : Int) : Int).toNat ≤ 35184372088832 then (spec_l2Starts.l0 k l0 l1 (List.replicate ((l0.length : Int) : Int).toNat 0) 0 0) else (none)) else (none)) = some r := h
 clear h
 by_cases c3 : 0 ≤ (l0.length : Int); rotate_left
 ·rw [if_neg c3] at H; exact absurd H (by simp)
 rw [if_pos c3] at H
 have c3b0 := eq_true c3
 have c3b1 : decide (0 ≤ (l0.length : Int)) = true := decide_eq_true c3
 clear c3
 by_cases c4 : ((l0.length : Int) : Int).toNat ≤ 35184372088832; rotate_left
 ·rw [if_neg c4] at H; exact absurd H (by simp)
 rw [if_pos c4] at H
 have c4b0 := eq_true c4
 have c4b1 : decide (((l0.length : Int) : Int).toNat ≤ 35184372088832) = true := decide_eq_true c4
 clear c4
 obtain ⟨y149, hy149⟩ : ∃ y_ : List Int, y_ = (List.replicate ((l0.length : Int) : Int).toNat 0) := ⟨_, rfl⟩
 replace H : (spec_l2Starts.l0 k l0 l1 y149 0 0) = some r := by first | (rw [hy149]; with_reducible exact H) | (have H2_ := (Option.bind_some _ _).symm.trans H; rw [hy149]; with_reducible exact H2_) | (have H2_ := (Option.bind_some _ _).symm.trans H; with_reducible exact H2_) | with_reducible exact H | (rw [hy149]; exact H) | exact H
 have Ny149 := Aside0.mk hy149
 clear hy149
 have H' := Aside0.mk H
 clear H
 go_enter Try.func159, Try.ntmps159
 go_wp2_with (first | ((with_reducible refine gate_dst (N := 10) rfl ?_); refine Kd.R_make (Kd.int .i64) _ 3 rfl (N := 10) rfl 34 _ _ rfl (l0.length : Int) rfl rfl Try.underlying34 (.int .i64 0) 8 info3 rfl (by decide) (by omega) 0 (ok := fun _ => True) (okp := fun _ => True) rfl (fun _ hk => hk) trivial (oD) (Nat.le_trans (Nat.mul_le_mul_right _ (oD : (l0.length : Int).toNat ≤ 35184372088832)) (by omega)) (Below.refl _ _) (Nat.le_refl _) ?_; intro v150 w5 ho6 hb hg_ hnew_; clear hg_ hnew_; (first | rw [← Ny149.out] at ho6 | (simp only [Int.reduceToNat] at ho6; rw [← Ny149.out] at ho6)); have n0_ := Aside0.mk (Kd.R_lower ho6 (below_size bB)); have n1_ := Aside0.mk (below_step bB hb); clear HB; have HO151 := n0_; have HB := n1_; clear n0_ n1_; clear hb ho6))
 go_loopg [6, 7] k (fun kq v6 v7 w' => ∃ (x5_1 : List Int) (x6_1 : Int) (x7_1 : Int), v6 = .int .i64 x6_1 ∧ v7 = .int .i64 x7_1 ∧ Aside0 (spec_l2Starts.l0 kq l0 l1 x5_1 x6_1 x7_1 = some r) ∧ Aside0 (kq ≤ k) ∧ Aside0 (Kd.R (Kd.int .i64) 3 w' w.heap.size (fun _ => True) v150 x5_1) ∧ Aside0 (Below w.heap.size w w'))
 case atStart => exact ⟨(y149), (0), (0), sD, sD, H', ⟨Nat.le_refl _⟩, ⟨kR⟩, ⟨by repeat (first | (with_reducible first | exact HB.out | apply below_alloc | apply pw_below_drewN | apply below_drew1) | exact HB.out)⟩⟩
 case round =>
  clear H'
  try clear c1
  try clear p2
  try clear c3
  try clear c3b0
  try clear c3b1
  try clear c4
  try clear c4b0
  try clear c4b1
  obtain ⟨x5_1, x6_1, x7_1, rfl, rfl, HA, HK1, HO_5, HB⟩ := hrel
  cases gk with
  | zero => exact absurd HA.out (by simp [spec_l2Starts.l0])
  | succ k1 =>
   have H := HA.out
   clear HA
   simp only [spec_l2Starts.l0] at H
   by_cases c7 : x7_1 < (l1.length : Int)
   ·rw [if_pos c7] at H
    have c7b0 : decide (x7_1 < (l1.length : Int)) = true := decide_eq_true c7
    clear c7
    by_cases c8 : 0 ≤ x7_1; rotate_left
    ·rw [if_neg c8] at H; exact absurd H (by simp)
    rw [if_pos c8] at H
    have c8b0 : decide (0 ≤ x7_1) = true := decide_eq_true c8
    clear c8
    by_cases c9 : 0 ≤ (rd l1 x7_1); rotate_left
    ·rw [if_neg c9] at H; exact absurd H (by simp)
    rw [if_pos c9] at H
    have c9b0 : decide (0 ≤ (rd l1 x7_1)) = true := decide_eq_true c9
    clear c9
    by_cases c10 : (rd l1 x7_1) < (l0.length : Int); rotate_left
    ·rw [if_neg c10] at H; exact absurd H (by simp)
    rw [if_pos c10] at H
    have c10b0 : decide ((rd l1 x7_1) < (l0.length : Int)) = true := decide_eq_true c10
    clear c10
    replace H := Option.bind_eq_some_iff.mp H
    obtain ⟨t155, A110, H⟩ := H
    replace H : (if (rd l1 x7_1) < (x5_1.length : Int) then ((some (x5_1.set ((rd l1 x7_1) : Int).toNat t155 : List Int)).bind fun y156 => (spec_l2Starts.l0 k1 l0 l1 y156 (wrap64 ((rd y156 (rd l1 x7_1)) + ((rd_T79 l0 (rd l1 x7_1)).f0))) (wrap64 (x7_1 + 1)))) else (none)) = some r := H
    have A11 := Aside0.mk A110
    clear A110
    by_cases c12 : (rd l1 x7_1) < (x5_1.length : Int); rotate_left
    ·rw [if_neg c12] at H; exact absurd H (by simp)
    rw [if_pos c12] at H
    have c12b0 : decide ((rd l1 x7_1) < (x5_1.length : Int)) = true := decide_eq_true c12
    clear c12
    obtain ⟨y156, hy156⟩ : ∃ y_ : List Int, y_ = (x5_1.set ((rd l1 x7_1) : Int).toNat t155) := ⟨_, rfl⟩
    replace H : (spec_l2Starts.l0 k1 l0 l1 y156 (wrap64 ((rd y156 (rd l1 x7_1)) + ((rd_T79 l0 (rd l1 x7_1)).f0))) (wrap64 (x7_1 + 1))) = some r := by first | (rw [hy156]; with_reducible exact H) | (have H2_ := (Option.bind_some _ _).symm.trans H; rw [hy156]; with_reducible exact H2_) | (have H2_ := (Option.bind_some _ _).symm.trans H; with_reducible exact H2_) | with_reducible exact H | (rw [hy156]; exact H) | exact H
    have Ny156 := Aside0.mk hy156
    clear hy156
    have H' := Aside0.mk H
    clear H
    try go_wp2
    have n0_ := Aside0.mk (Kd.R_drew HO_5.out)
    have n1_ := Aside0.mk (below_drew1 HB.out)
    clear HO_5
    clear HB
    have HO_5 := n0_
    have HB := n1_
    clear n0_ n1_
    have p152 : 0 ≤ (x7_1 : Int) := oD
    have q152 : x7_1 < (l1.length : Int) := oD
    obtain ⟨ad152, e152, hx152_0⟩ := Kd.at_int HR1.out x7_1 p152 q152
    have hw152_0 := hx152_0
    cases e152
    replace hx152_0 := (cB HB.out hx152_0 :)
    replace p152 := eq_true p152
    replace q152 := eq_true q152
    have p153 : 0 ≤ (x7_1 : Int) := oD
    have q153 : x7_1 < (l1.length : Int) := oD
    obtain ⟨ad153, e153, hx153_0⟩ := Kd.at_int HR1.out x7_1 p153 q153
    have hw153_0 := hx153_0
    obtain rfl : ad152 = ad153 := (by injection e153)
    replace hx153_0 := (cB HB.out hx153_0 :)
    replace p153 := eq_true p153
    replace q153 := eq_true q153
    have p154 : 0 ≤ ((rd l1 x7_1) : Int) := oD
    have q154 : (rd l1 x7_1) < (l0.length : Int) := oD
    obtain ⟨ad154, e154, hx154_0, hx154_1, hx154_2, hx154_3⟩ := at_T79 HR0.out (rd l1 x7_1) p154 q154
    have hw154_3 := hx154_3
    have hw154_2 := hx154_2
    have hw154_1 := hx154_1
    have hw154_0 := hx154_0
    cases e154
    replace hx154_0 := (cB HB.out hx154_0 :)
    replace hx154_1 := (cB HB.out hx154_1 :)
    replace hx154_2 := (cB HB.out hx154_2 :)
    replace hx154_3 := (cB HB.out hx154_3 :)
    replace p154 := eq_true p154
    replace q154 := eq_true q154
    refine start_ (n := 17) (S := fun w' => w'.cell? (ad152.add (x7_1).toNat) = some (.int .i64 (rd l1 x7_1)) ∧ w'.cell? (ad152.add (x7_1).toNat) = some (.int .i64 (rd l1 x7_1)) ∧ w'.cell? (ad154.add (((rd l1 x7_1)).toNat * 4)) = some (.int .i64 ((rd_T79 l0 (rd l1 x7_1)).f0)) ∧ w'.cell? ⟨(ad154.add (((rd l1 x7_1)).toNat * 4)).block, (ad154.add (((rd l1 x7_1)).toNat * 4)).off + 1, none⟩ = some (.int .i64 ((rd_T79 l0 (rd l1 x7_1)).f1)) ∧ w'.cell? ⟨(ad154.add (((rd l1 x7_1)).toNat * 4)).block, (ad154.add (((rd l1 x7_1)).toNat * 4)).off + 2, none⟩ = some (.int .i64 ((rd_T79 l0 (rd l1 x7_1)).f2)) ∧ w'.cell? ⟨(ad154.add (((rd l1 x7_1)).toNat * 4)).block, (ad154.add (((rd l1 x7_1)).toNat * 4)).off + 3, none⟩ = some (.int .i64 ((rd_T79 l0 (rd l1 x7_1)).f3))) (ds := [16]) (bA 17 0) (by kernel_rfl) rfl rfl ⟨((cB HB.out hw152_0 :)), ((cB HB.out hw153_0 :)), ((cB HB.out hw154_0 :)), ((cB HB.out hw154_1 :)), ((cB HB.out hw154_2 :)), ((cB HB.out hw154_3 :))⟩ (fun hHeld => ?_); refine with_tabW spec_l2Starts.tab5 spec_l2Starts.bits5 (fun HT_ HW_ => ?_)
    generalize wr.drew = w14 at HO_5 HB hx152_0 hx153_0 hx154_0 hx154_1 hx154_2 hx154_3 hHeld ⊢
    refine pU 0 17 (bA 17 1) ?_
    refine pU 1 18 (bA 17 3) ?_
    refine pU 2 19 (bA 17 7) ?_
    refine pU 3 20 (bA 17 15) ?_
    refine pU 5 22 (bA 17 47) ?_
    refine pU 6 23 (bA 17 111) ?_
    refine pU 7 24 (bA 17 239) ?_
    refine pU 8 25 (bA 17 495) ?_
    refine pU 9 26 (bA 17 1007) ?_
    refine tU 4 21 (bA 17 1023) ?_
    refine tU 10 27 (bA 17 2047) ?_
    refine pU 11 28 (bA 17 4095) ?_
    refine pU 12 29 (bA 17 8191) ?_
    refine tU 13 30 (bA 17 16383) ?_
    refine one_ (i := 14) (N := some 31) (bA 17 32767) rfl rfl (one_of HT_.out (by kernel_rfl)) (by decide) (fun K hK => ?_)
    refine goes_ Try.func117 (by kernel_rfl) rfl #[.int .i64 x6_1, .int .i64 ((rd_T79 l0 (rd l1 x7_1)).f2)] (by rfl) rfl rfl aE ?_
    with_reducible refine (spec_l1Most.calls x6_1 ((rd_T79 l0 (rd l1 x7_1)).f2) t155 _ A11.out).mono ?_
    rintro e w' ⟨rfl, ⟨nd, rfl⟩⟩
    refine ⟨_, rfl, ?_⟩
    have p13 : 0 ≤ ((rd l1 x7_1) : Int) := oD
    have q13 : ((rd l1 x7_1) : Int) < ((x5_1.length : Int) : Int) := oD
    obtain ⟨go13, co13, eo13, gb13, gl13, cl13, HG13⟩ := Kd.R_form HO_5.out (by omega)
    (first | cases eo13 | (injection eo13 with ea_ en_ ec_; (first | subst ea_ | (injection ea_ with ea_; subst ea_)); subst ec_; clear en_))
    have GB13 := Aside0.mk gb13
    have GG13 := Aside0.mk HG13
    clear gb13 gl13 HG13
    obtain ⟨hx13_0, hf13_0⟩ := Kd.R_celln 0 HO_5.out ((rd l1 x7_1) : Int) p13 q13
    replace p13 := eq_true p13
    replace q13 := eq_true q13
    have HP15 := Kd.R_putn (Kd.R_drewN HO_5.out nd) ((rd l1 x7_1) : Int) t155
    rw [← Ny156.out] at HP15
    have HQ15 := Aside0.mk HP15
    clear HP15
    refine hK.out _ _ ⟨((cB HB.out hw152_0 :)), ((cB HB.out hw153_0 :)), ((cB HB.out hw154_0 :)), ((cB HB.out hw154_1 :)), ((cB HB.out hw154_2 :)), ((cB HB.out hw154_3 :))⟩ (fun hHeld => ?_)
    clear hK K
    refine norm_ (a' := ?_) ?_ ?_
    rotate_left
    ·show Act.put _ (some 31) _ = _
     simp only [Act.put, sA, sZ, sS, i64_w, i32_w]
     rfl
    refine pU 15 32 (bA 17 65535) ?_
    refine last_ (i := 16) (N := none) (bA 17 131071) rfl rfl (one_of HT_.out (by kernel_rfl)) (by decide) (fun K hK => ?_)
    refine skip_ (w1 := ?_) (by rfl) rfl ?_ ?_
    rotate_left
    ·go_simp
     rfl
    refine hK.out _ _ ?_
    clear hK K
    refine done_ (done_of HT_.out (by kernel_rfl)) ?_
    try go_wp2
    have n0_ : Aside0 (Kd.R (Kd.int .i64) 3 ((w14.drewN nd).setCell ⟨go13, ((rd l1 x7_1) : Int).toNat, none⟩ (.int .i64 t155)) w.heap.size (fun _ => True) (.slice (some ⟨go13, 0, none⟩) x5_1.length co13) y156) := ⟨by (with_reducible repeat (first | apply Kd.R_alloc | apply Kd.R_drewN | apply Kd.R_drew)); exact HQ15.out⟩
    have n1_ : Aside0 (Below w.heap.size w ((w14.drewN nd).setCell ⟨go13, ((rd l1 x7_1) : Int).toNat, none⟩ (.int .i64 t155))) := ⟨by repeat (first | (with_reducible first | exact HB.out | apply below_alloc | apply pw_below_drewN | apply below_drew1 | refine below_set ?_ GB13.out) | exact HB.out)⟩
    (try clear HO_5)
    (try clear HB)
    generalize ((w14.drewN nd).setCell ⟨go13, ((rd l1 x7_1) : Int).toNat, none⟩ (.int .i64 t155)) = w16 at n0_ n1_ ⊢
    have HO_5 := n0_
    have HB := n1_
    clear n0_ n1_
    (try (rw [drewN_self w16]; generalize hq_ : World.drewN w16 _ = w16; have n0_ : Aside0 (Kd.R (Kd.int .i64) 3 w16 w.heap.size (fun _ => True) (.slice (some ⟨go13, 0, none⟩) x5_1.length co13) y156) := ⟨by rw [← hq_]; exact (by (with_reducible repeat (first | apply Kd.R_alloc | apply Kd.R_drewN | apply Kd.R_drew)); exact HO_5.out)⟩; have n1_ : Aside0 (Below w.heap.size w w16) := ⟨by rw [← hq_]; exact bB⟩; clear HO_5 HB hq_; have HO_5 := n0_; have HB := n1_; clear n0_ n1_))
    have n0_ := Aside0.mk (Kd.R_drew HO_5.out)
    have n1_ := Aside0.mk (below_drew1 HB.out)
    clear HO_5
    clear HB
    have HO_5 := n0_
    have HB := n1_
    clear n0_ n1_
    have p157 : 0 ≤ (x7_1 : Int) := oD
    have q157 : x7_1 < (l1.length : Int) := oD
    obtain ⟨ad157, e157, hx157_0⟩ := Kd.at_int HR1.out x7_1 p157 q157
    have hw157_0 := hx157_0
    obtain rfl : ad152 = ad157 := (by injection e157)
    replace hx157_0 := (cB HB.out hx157_0 :)
    replace p157 := eq_true p157
    replace q157 := eq_true q157
    have p158 : 0 ≤ ((rd l1 x7_1) : Int) := oD
    have q158 : (rd l1 x7_1) < (y156.length : Int) := (by have h_ : ((rd l1 x7_1) : Int) < ((x5_1.length : Int) : Int) := oD; first | (have e_ := (Kd.R_reads' HO_5.out).1; omega) | simpa only [Ny156.out, List.length_set] using h_)
    have ql158 : (((rd l1 x7_1) : Int) < ((x5_1.length : Int) : Int)) = True := eq_true (oD)
    obtain ⟨ad158, e158, hx158_0⟩ := Kd.at_int (Kd.R_reads' HO_5.out).2.2 (rd l1 x7_1) p158 q158
    obtain rfl : (⟨go13, 0, none⟩ : Addr) = ad158 := (by injection e158)
    (first | simp only [add_plain] at hx158_0 | simp only [add_at] at hx158_0 | simp only [Addr.add, Nat.zero_add] at hx158_0 | skip)
    replace p158 := eq_true p158
    replace q158 := eq_true q158
    have p159 : 0 ≤ (x7_1 : Int) := oD
    have q159 : x7_1 < (l1.length : Int) := oD
    obtain ⟨ad159, e159, hx159_0⟩ := Kd.at_int HR1.out x7_1 p159 q159
    have hw159_0 := hx159_0
    obtain rfl : ad152 = ad159 := (by injection e159)
    replace hx159_0 := (cB HB.out hx159_0 :)
    replace p159 := eq_true p159
    replace q159 := eq_true q159
    have p160 : 0 ≤ ((rd l1 x7_1) : Int) := oD
    have q160 : (rd l1 x7_1) < (l0.length : Int) := oD
    obtain ⟨ad160, e160, hx160_0, hx160_1, hx160_2, hx160_3⟩ := at_T79 HR0.out (rd l1 x7_1) p160 q160
    have hw160_3 := hx160_3
    have hw160_2 := hx160_2
    have hw160_1 := hx160_1
    have hw160_0 := hx160_0
    obtain rfl : ad154 = ad160 := (by injection e160)
    replace hx160_0 := (cB HB.out hx160_0 :)
    replace hx160_1 := (cB HB.out hx160_1 :)
    replace hx160_2 := (cB HB.out hx160_2 :)
    replace hx160_3 := (cB HB.out hx160_3 :)
    replace p160 := eq_true p160
    replace q160 := eq_true q160
    refine start_ (n := 17) (S := fun w' => w'.cell? (ad152.add (x7_1).toNat) = some (.int .i64 (rd l1 x7_1)) ∧ w'.cell? ⟨go13, ((rd l1 x7_1)).toNat, none⟩ = some (.int .i64 (rd y156 (rd l1 x7_1))) ∧ w'.cell? (ad152.add (x7_1).toNat) = some (.int .i64 (rd l1 x7_1)) ∧ w'.cell? (ad154.add (((rd l1 x7_1)).toNat * 4)) = some (.int .i64 ((rd_T79 l0 (rd l1 x7_1)).f0)) ∧ w'.cell? ⟨(ad154.add (((rd l1 x7_1)).toNat * 4)).block, (ad154.add (((rd l1 x7_1)).toNat * 4)).off + 1, none⟩ = some (.int .i64 ((rd_T79 l0 (rd l1 x7_1)).f1)) ∧ w'.cell? ⟨(ad154.add (((rd l1 x7_1)).toNat * 4)).block, (ad154.add (((rd l1 x7_1)).toNat * 4)).off + 2, none⟩ = some (.int .i64 ((rd_T79 l0 (rd l1 x7_1)).f2)) ∧ w'.cell? ⟨(ad154.add (((rd l1 x7_1)).toNat * 4)).block, (ad154.add (((rd l1 x7_1)).toNat * 4)).off + 3, none⟩ = some (.int .i64 ((rd_T79 l0 (rd l1 x7_1)).f3))) (ds := []) (bA 17 0) (by kernel_rfl) rfl rfl ⟨((cB HB.out hw157_0 :)), hx158_0, ((cB HB.out hw159_0 :)), ((cB HB.out hw160_0 :)), ((cB HB.out hw160_1 :)), ((cB HB.out hw160_2 :)), ((cB HB.out hw160_3 :))⟩ (fun hHeld => ?_); refine with_tabW spec_l2Starts.tab6 spec_l2Starts.bits6 (fun HT_ HW_ => ?_)
    generalize w16.drew = w17 at HO_5 HB HQ15 hx157_0 hx158_0 hx159_0 hx160_0 hx160_1 hx160_2 hx160_3 hHeld ⊢
    refine pU 0 33 (bA 17 1) ?_
    refine pU 1 34 (bA 17 3) ?_
    refine pU 2 35 (bA 17 7) ?_
    refine pU 3 36 (bA 17 15) ?_
    refine pU 7 40 (bA 17 143) ?_
    refine pU 8 41 (bA 17 399) ?_
    refine pU 9 42 (bA 17 911) ?_
    refine pU 10 43 (bA 17 1935) ?_
    refine tU 4 37 (bA 17 1951) ?_
    refine pU 5 38 (bA 17 1983) ?_
    refine tU 6 39 (bA 17 2047) ?_
    refine tU 11 44 (bA 17 4095) ?_
    refine pU 12 45 (bA 17 8191) ?_
    refine pU 13 46 (bA 17 16383) ?_
    refine tU 14 47 (bA 17 32767) ?_
    refine pU 15 48 (bA 17 65535) ?_
    refine pU 16 6 (bA 17 131071) ?_
    refine done_ (done_of HT_.out (by kernel_rfl)) ?_
    try go_wp2
    go_roundg k1
    case measure => have := HK1.out; omega
    case rel => exact ⟨(y156), (wrap64 ((rd y156 (rd l1 x7_1)) + ((rd_T79 l0 (rd l1 x7_1)).f0))), (wrap64 (x7_1 + 1)), sD, sD, H', ⟨by have := HK1.out; omega⟩, ⟨kR⟩, ⟨by repeat (first | (with_reducible first | exact HB.out | apply below_alloc | apply pw_below_drewN | apply below_drew1) | exact HB.out)⟩⟩
   ·rw [if_neg c7] at H
    have c7b0 : decide (x7_1 < (l1.length : Int)) = false := decide_eq_false c7
    clear c7
    obtain rfl := Option.some.inj H
    go_wp2
    go_ret
    exact ⟨_, by first | rfl | (simp [errW_none, errW_some] <;> rfl) | (simp [*, errW_none, errW_some] <;> rfl), by (with_reducible repeat (first | apply Kd.R_alloc | apply Kd.R_drewN | apply Kd.R_drew)); exact HO_5.out, bB⟩

/-! ### spec_l2Ends: function 156 -/
def spec_l2Ends.l0 : Nat → List (S79) → List Int → Int → Option (List Int)
 | 0, _, _, _ => none
 | k + 1, x0, x5, x6 => if x6 < (x0.length : Int) then (if 0 ≤ x6 then (if x6 < (x5.length : Int) then (spec_l2Ends.l0 k x0 (x5.set (x6 : Int).toNat (wrap64 ((rd x5 x6) + ((rd_T79 x0 x6).f0)))) (wrap64 (x6 + 1))) else (none)) else (none)) else (some x5)
def spec_l2Ends.f (k : Nat) (l0 : List (S79)) (l1 : List Int) : Option (List Int) := (spec_l2Starts.f k l0 l1).bind fun t161 => (spec_l2Ends.l0 k l0 t161 0)
theorem spec_l2Ends.mono_l : ∀ k, (∀ y0 y1 y2, LeO (spec_l2Ends.l0 k y0 y1 y2) (spec_l2Ends.l0 (k + 1) y0 y1 y2))
 | 0 => fun _ _ _ r h => by simp [spec_l2Ends.l0] at h
 | k + 1 => by
  have ih0 := spec_l2Ends.mono_l k
  ·intro y0 y1 y2
   unfold spec_l2Ends.l0
   repeat' first
   | (with_reducible exact ih0 _ _ _)
   | (with_reducible exact spec_l2Starts.mono _ _ _)
   | (with_reducible exact LeO.refl _)
   | (with_reducible exact LeO.none _)
   | (with_reducible refine LeO.ite ?_ ?_)
   | (with_reducible refine LeO.bind ?_ (fun _ => ?_))
   | exact ih0 _ _ _
   | exact spec_l2Starts.mono _ _ _
   | exact LeO.none _
   | refine LeO.ite ?_ ?_
   | refine LeO.bind ?_ (fun _ => ?_)
theorem spec_l2Ends.mono : ∀ a0 a1 k, LeO (spec_l2Ends.f k a0 a1) (spec_l2Ends.f (k + 1) a0 a1) := by
 intro a0 a1 k
 have ih0 := spec_l2Ends.mono_l k
 unfold spec_l2Ends.f
 repeat' first
   | (with_reducible exact ih0 _ _ _)
   | (with_reducible exact spec_l2Starts.mono _ _ _)
   | (with_reducible exact LeO.refl _)
   | (with_reducible exact LeO.none _)
   | (with_reducible refine LeO.ite ?_ ?_)
   | (with_reducible refine LeO.bind ?_ (fun _ => ?_))
   | exact ih0 _ _ _
   | exact spec_l2Starts.mono _ _ _
   | exact LeO.none _
   | refine LeO.ite ?_ ?_
   | refine LeO.bind ?_ (fun _ => ?_)
def spec_l2Ends.T5 : Bool × List (List Nat × List Nat) := (true, [([], []), ([], []), ([], []), ([], []), ([2, 3], [2, 3]), ([4], [4]), ([], []), ([], []), ([6, 7], [6, 7]), ([8], [8]), ([9], [9]), ([5, 10], [5, 10]), ([0, 1, 0, 1, 2, 3, 4, 5, 6, 7, 8, 9, 10, 11], [0, 1]), ([12, 11, 0, 1, 2, 3, 4, 5, 6, 7, 8, 9, 10, 11], [11, 12])])
def spec_l2Ends.B5 : List Nat := [0, 0, 0, 0, 12, 28, 0, 0, 192, 448, 960, 2044, 4095, 8191]
theorem spec_l2Ends.tab5 : rtab .any (opsOf Try.f156 5) = spec_l2Ends.T5 := by kernel_rfl
theorem spec_l2Ends.bits5 : waitsOk spec_l2Ends.T5.2 spec_l2Ends.B5 = true := by kernel_rfl
set_option maxHeartbeats 8000000 in
set_option maxRecDepth 100000 in
theorem spec_l2Ends.calls (k : Nat) (A0 : Option Addr) (c0 : Nat) (l0 : List (S79)) (A1 : Option Addr) (c1 : Nat) (l1 : List Int) (r : List Int) (w : World) (hr0 : Kd.C k79 w A0 l0.length l0) (hc0 : l0.length ≤ c0) (hr1 : Kd.C (Kd.int .i64) w A1 l1.length l1) (hc1 : l1.length ≤ c1) (h : spec_l2Ends.f k l0 l1 = some r) :
  Calls Try.prog 156 #[.slice A0 l0.length c0, .slice A1 l1.length c1] w fun e w' => ∃ v0_ : Value, e = .returned (v0_) ∧ Kd.R (Kd.int .i64) 3 w' w.heap.size (fun _ => True) v0_ r ∧ Below w.heap.size w w' := by
 have HR0 := Aside0.mk hr0
 have HC0 := Aside0.mk hc0
 clear hr0 hc0
 have HR1 := Aside0.mk hr1
 have HC1 := Aside0.mk hc1
 clear hr1 hc1
 have HB := Aside0.mk (Below.refl w.heap.size w)
 have H : ((spec_l2Starts.f k l0 l1).bind fun t161 => (spec_l2Ends.l0 k l0 t161 0)) = some r := h
 clear h
 replace H := Option.bind_eq_some_iff.mp H
 obtain ⟨t161, A30, H⟩ := H
 replace H : (spec_l2Ends.l0 k l0 t161 0) = some r := H
 have A3 := Aside0.mk A30
 clear A30
 have H' := Aside0.mk H
 clear H
 go_enter Try.func156, Try.ntmps156
 go_wp2_with (first | ((with_reducible refine gate_callee (f := 159) rfl ?_); refine goesL_ (some 9) rfl rfl Try.func159 (by kernel_rfl) rfl #[.slice A0 l0.length c0, .slice A1 l1.length c1] rfl aE ?_; (with_reducible refine (spec_l2Starts.calls k _ _ l0 _ _ l1 t161 _ ?side1 ?side2 ?side3 ?side4 A3.out).mono ?_); (case side1 => repeat (first | exact HR0.out | (with_reducible refine Kd.C_alloc ?_ _) | (with_reducible refine Kd.C_drewN ?_ _) | (with_reducible refine Kd.C_drew ?_))); (case side2 => exact HC0.out); (case side3 => repeat (first | exact HR1.out | (with_reducible refine Kd.C_alloc ?_ _) | (with_reducible refine Kd.C_drewN ?_ _) | (with_reducible refine Kd.C_drew ?_))); (case side4 => exact HC1.out); rintro e w4 ⟨v162, rfl, ho0, hb⟩; refine ⟨_, rfl, ?_⟩; have n0_ := Aside0.mk (Kd.R_lower ho0 (below_size bB)); have n1_ := Aside0.mk (below_step bB hb); clear HB; have HO163 := n0_; have HB := n1_; clear n0_ n1_; (try clear hb); (try clear hb2); (try clear hk); (try clear hi); (try clear ho0)))
 go_loopg [6] k (fun kq v6 w' => ∃ (x5_1 : List Int) (x6_1 : Int), v6 = .int .i64 x6_1 ∧ Aside0 (spec_l2Ends.l0 kq l0 x5_1 x6_1 = some r) ∧ Aside0 (kq ≤ k) ∧ Aside0 (Kd.R (Kd.int .i64) 3 w' w.heap.size (fun _ => True) v162 x5_1) ∧ Aside0 (Below w.heap.size w w'))
 case atStart => exact ⟨(t161), (0), sD, H', ⟨Nat.le_refl _⟩, ⟨kR⟩, ⟨by repeat (first | (with_reducible first | exact HB.out | apply below_alloc | apply pw_below_drewN | apply below_drew1) | exact HB.out)⟩⟩
 case round =>
  clear H'
  try clear c1
  try clear p2
  obtain ⟨x5_1, x6_1, rfl, HA, HK1, HO_5, HB⟩ := hrel
  cases gk with
  | zero => exact absurd HA.out (by simp [spec_l2Ends.l0])
  | succ k1 =>
   have H := HA.out
   clear HA
   simp only [spec_l2Ends.l0] at H
   by_cases c5 : x6_1 < (l0.length : Int)
   ·rw [if_pos c5] at H
    have c5b0 : decide (x6_1 < (l0.length : Int)) = true := decide_eq_true c5
    clear c5
    by_cases c6 : 0 ≤ x6_1; rotate_left
    ·rw [if_neg c6] at H; exact absurd H (by simp)
    rw [if_pos c6] at H
    have c6b0 : decide (0 ≤ x6_1) = true := decide_eq_true c6
    clear c6
    by_cases c7 : x6_1 < (x5_1.length : Int); rotate_left
    ·rw [if_neg c7] at H; exact absurd H (by simp)
    rw [if_pos c7] at H
    have c7b0 : decide (x6_1 < (x5_1.length : Int)) = true := decide_eq_true c7
    clear c7
    obtain ⟨y166, hy166⟩ : ∃ y_ : List Int, y_ = (x5_1.set (x6_1 : Int).toNat (wrap64 ((rd x5_1 x6_1) + ((rd_T79 l0 x6_1).f0)))) := ⟨_, rfl⟩
    replace H : (spec_l2Ends.l0 k1 l0 y166 (wrap64 (x6_1 + 1))) = some r := by first | (rw [hy166]; with_reducible exact H) | (have H2_ := (Option.bind_some _ _).symm.trans H; rw [hy166]; with_reducible exact H2_) | (have H2_ := (Option.bind_some _ _).symm.trans H; with_reducible exact H2_) | with_reducible exact H | (rw [hy166]; exact H) | exact H
    have Ny166 := Aside0.mk hy166
    clear hy166
    have H' := Aside0.mk H
    clear H
    try go_wp2
    have n0_ := Aside0.mk (Kd.R_drew HO_5.out)
    have n1_ := Aside0.mk (below_drew1 HB.out)
    clear HO_5
    clear HB
    have HO_5 := n0_
    have HB := n1_
    clear n0_ n1_
    obtain ⟨Ao10, co10, eo10⟩ := Kd.R_slice HO_5.out
    (first | subst eo10 | (injection eo10 with f1_ f2_ f3_; have f4_ := f1_.symm; have f5_ := f3_.symm; clear f1_ f2_ f3_; subst f4_; subst f5_))
    have p164 : 0 ≤ (x6_1 : Int) := oD
    have q164 : x6_1 < (x5_1.length : Int) := oD
    obtain ⟨ad164, e164, hx164_0⟩ := Kd.at_int (Kd.R_reads' HO_5.out).2.2 x6_1 p164 q164
    cases e164
    replace p164 := eq_true p164
    replace q164 := eq_true q164
    have p165 : 0 ≤ (x6_1 : Int) := oD
    have q165 : x6_1 < (l0.length : Int) := oD
    obtain ⟨ad165, e165, hx165_0, hx165_1, hx165_2, hx165_3⟩ := at_T79 HR0.out x6_1 p165 q165
    have hw165_3 := hx165_3
    have hw165_2 := hx165_2
    have hw165_1 := hx165_1
    have hw165_0 := hx165_0
    cases e165
    replace hx165_0 := (cB HB.out hx165_0 :)
    replace hx165_1 := (cB HB.out hx165_1 :)
    replace hx165_2 := (cB HB.out hx165_2 :)
    replace hx165_3 := (cB HB.out hx165_3 :)
    replace p165 := eq_true p165
    replace q165 := eq_true q165
    have p8 : 0 ≤ (x6_1 : Int) := oD
    have q8 : (x6_1 : Int) < ((x5_1.length : Int) : Int) := oD
    obtain ⟨go8, co8, eo8, gb8, gl8, cl8, HG8⟩ := Kd.R_form HO_5.out (by omega)
    (first | cases eo8 | (injection eo8 with ea_ en_ ec_; (first | subst ea_ | (injection ea_ with ea_; subst ea_)); subst ec_; clear en_))
    have GB8 := Aside0.mk gb8
    have GG8 := Aside0.mk HG8
    clear gb8 gl8 HG8
    (first | simp only [add_plain] at hx164_0 | skip)
    obtain ⟨hx8_0, hf8_0⟩ := Kd.R_celln 0 HO_5.out (x6_1 : Int) p8 q8
    replace p8 := eq_true p8
    replace q8 := eq_true q8
    have HP11 := Kd.R_putn HO_5.out (x6_1 : Int) (wrap64 ((rd x5_1 x6_1) + ((rd_T79 l0 x6_1).f0)))
    rw [← Ny166.out] at HP11
    have HQ11 := Aside0.mk HP11
    clear HP11
    refine start_ (n := 14) (S := fun w' => w'.cell? ⟨go8, (x6_1).toNat, none⟩ = some (.int .i64 (rd x5_1 x6_1)) ∧ w'.cell? (ad165.add ((x6_1).toNat * 4)) = some (.int .i64 ((rd_T79 l0 x6_1).f0)) ∧ w'.cell? ⟨(ad165.add ((x6_1).toNat * 4)).block, (ad165.add ((x6_1).toNat * 4)).off + 1, none⟩ = some (.int .i64 ((rd_T79 l0 x6_1).f1)) ∧ w'.cell? ⟨(ad165.add ((x6_1).toNat * 4)).block, (ad165.add ((x6_1).toNat * 4)).off + 2, none⟩ = some (.int .i64 ((rd_T79 l0 x6_1).f2)) ∧ w'.cell? ⟨(ad165.add ((x6_1).toNat * 4)).block, (ad165.add ((x6_1).toNat * 4)).off + 3, none⟩ = some (.int .i64 ((rd_T79 l0 x6_1).f3))) (ds := [13]) (bA 14 0) (by kernel_rfl) rfl rfl ⟨hx164_0, ((cB HB.out hw165_0 :)), ((cB HB.out hw165_1 :)), ((cB HB.out hw165_2 :)), ((cB HB.out hw165_3 :))⟩ (fun hHeld => ?_); refine with_tabW spec_l2Ends.tab5 spec_l2Ends.bits5 (fun HT_ HW_ => ?_)
    generalize wr.drew = w9 at HO_5 HB GG8 HQ11 hf8_0 hx164_0 hx165_0 hx165_1 hx165_2 hx165_3 hx8_0 hHeld ⊢
    refine pU 0 16 (bA 14 1) ?_
    refine pU 1 17 (bA 14 3) ?_
    refine pU 2 18 (bA 14 7) ?_
    refine pU 3 19 (bA 14 15) ?_
    refine pU 4 20 (bA 14 31) ?_
    refine pU 6 22 (bA 14 95) ?_
    refine pU 7 23 (bA 14 223) ?_
    refine pU 8 24 (bA 14 479) ?_
    refine pU 9 25 (bA 14 991) ?_
    refine tU 5 21 (bA 14 1023) ?_
    refine tU 10 26 (bA 14 2047) ?_
    refine pU 11 27 (bA 14 4095) ?_
    refine pU 12 28 (bA 14 8191) ?_
    refine last_ (i := 13) (N := none) (bA 14 16383) rfl rfl (one_of HT_.out (by kernel_rfl)) (by decide) (fun K hK => ?_)
    refine skip_ (w1 := ?_) (by rfl) rfl ?_ ?_
    rotate_left
    ·go_simp
     rfl
    refine hK.out _ _ ?_
    clear hK K
    refine done_ (done_of HT_.out (by kernel_rfl)) ?_
    try go_wp2
    go_roundg k1
    case measure => have := HK1.out; omega
    case rel => exact ⟨(y166), (wrap64 (x6_1 + 1)), sD, H', ⟨by have := HK1.out; omega⟩, ⟨by (with_reducible repeat (first | apply Kd.R_alloc | apply Kd.R_drewN | apply Kd.R_drew)); exact HQ11.out⟩, ⟨by repeat (first | (with_reducible first | exact HB.out | apply below_alloc | apply pw_below_drewN | apply below_drew1 | refine below_set ?_ GB8.out) | exact HB.out)⟩⟩
   ·rw [if_neg c5] at H
    have c5b0 : decide (x6_1 < (l0.length : Int)) = false := decide_eq_false c5
    clear c5
    obtain rfl := Option.some.inj H
    go_wp2
    go_ret
    exact ⟨_, by first | rfl | (simp [errW_none, errW_some] <;> rfl) | (simp [*, errW_none, errW_some] <;> rfl), by (with_reducible repeat (first | apply Kd.R_alloc | apply Kd.R_drewN | apply Kd.R_drew)); exact HO_5.out, bB⟩

/-! ### spec_l2Value: function 153 -/
def spec_l2Value.f (k : Nat) (l0 : List (S79)) (l1 : List Int) (a2 : Int) : Option (Int) := (spec_l2Ends.f k l0 l1).bind fun t167 => ((spec_l2Of.f k l0 t167 a2).bind fun t170 => (some t170))
theorem spec_l2Value.mono : ∀ a0 a1 a2 k, LeO (spec_l2Value.f k a0 a1 a2) (spec_l2Value.f (k + 1) a0 a1 a2) := by
 intro a0 a1 a2 k
 unfold spec_l2Value.f
 repeat' first
   | (with_reducible exact spec_l2Ends.mono _ _ _)
   | (with_reducible exact spec_l2Of.mono _ _ _ _)
   | (with_reducible exact LeO.refl _)
   | (with_reducible exact LeO.none _)
   | (with_reducible refine LeO.ite ?_ ?_)
   | (with_reducible refine LeO.bind ?_ (fun _ => ?_))
   | exact spec_l2Ends.mono _ _ _
   | exact spec_l2Of.mono _ _ _ _
   | exact LeO.none _
   | refine LeO.ite ?_ ?_
   | refine LeO.bind ?_ (fun _ => ?_)
set_option maxHeartbeats 8000000 in
set_option maxRecDepth 100000 in
theorem spec_l2Value.calls (k : Nat) (A0 : Option Addr) (c0 : Nat) (l0 : List (S79)) (A1 : Option Addr) (c1 : Nat) (l1 : List Int) (a2 : Int) (r : Int) (w : World) (hr0 : Kd.C k79 w A0 l0.length l0) (hc0 : l0.length ≤ c0) (hr1 : Kd.C (Kd.int .i64) w A1 l1.length l1) (hc1 : l1.length ≤ c1) (h : spec_l2Value.f k l0 l1 a2 = some r) :
  Calls Try.prog 153 #[.slice A0 l0.length c0, .slice A1 l1.length c1, .int .i64 a2] w fun e w' => e = .returned (.int .i64 r) ∧ Below w.heap.size w w' := by
 have HR0 := Aside0.mk hr0
 have HC0 := Aside0.mk hc0
 clear hr0 hc0
 have HR1 := Aside0.mk hr1
 have HC1 := Aside0.mk hc1
 clear hr1 hc1
 have HB := Aside0.mk (Below.refl w.heap.size w)
 have H : ((spec_l2Ends.f k l0 l1).bind fun t167 => ((spec_l2Of.f k l0 t167 a2).bind fun t170 => (some t170))) = some r := h
 clear h
 replace H := Option.bind_eq_some_iff.mp H
 obtain ⟨t167, A40, H⟩ := H
 replace H : ((spec_l2Of.f k l0 t167 a2).bind fun t170 => (some t170)) = some r := H
 have A4 := Aside0.mk A40
 clear A40
 replace H := Option.bind_eq_some_iff.mp H
 obtain ⟨t170, A50, H⟩ := H
 replace H : (some t170) = some r := H
 have A5 := Aside0.mk A50
 clear A50
 obtain rfl := Option.some.inj H
 go_enter Try.func153, Try.ntmps153
 go_wp2_with (first | ((with_reducible refine gate_callee (f := 156) rfl ?_); refine goesL_ (some 10) rfl rfl Try.func156 (by kernel_rfl) rfl #[.slice A0 l0.length c0, .slice A1 l1.length c1] rfl aE ?_; (with_reducible refine (spec_l2Ends.calls k _ _ l0 _ _ l1 t167 _ ?side1 ?side2 ?side3 ?side4 A4.out).mono ?_); (case side1 => repeat (first | exact HR0.out | (with_reducible refine Kd.C_alloc ?_ _) | (with_reducible refine Kd.C_drewN ?_ _) | (with_reducible refine Kd.C_drew ?_))); (case side2 => exact HC0.out); (case side3 => repeat (first | exact HR1.out | (with_reducible refine Kd.C_alloc ?_ _) | (with_reducible refine Kd.C_drewN ?_ _) | (with_reducible refine Kd.C_drew ?_))); (case side4 => exact HC1.out); rintro e w6 ⟨v168, rfl, ho0, hb⟩; refine ⟨_, rfl, ?_⟩; have n0_ := Aside0.mk (Kd.R_lower ho0 (below_size bB)); have n1_ := Aside0.mk (below_step bB hb); clear HB; have HO169 := n0_; have HB := n1_; clear n0_ n1_; (try clear hb); (try clear hb2); (try clear hk); (try clear hi); (try clear ho0); obtain ⟨Ao7, co7, eo7⟩ := Kd.R_slice HO169.out; subst eo7) | ((with_reducible refine gate_callee (f := 155) rfl ?_); refine goesL_ (some 12) rfl rfl Try.func155 (by kernel_rfl) rfl #[.slice A0 l0.length c0, .slice Ao7 t167.length co7, .int .i64 a2] rfl aE ?_; (with_reducible refine (spec_l2Of.calls k _ _ l0 _ _ t167 a2 t170 _ ?side1 ?side2 ?side3 ?side4 A5.out).mono ?_); (case side1 => repeat (first | exact (Kd.C_below HR0.out HB.out) | (with_reducible refine Kd.C_alloc ?_ _) | (with_reducible refine Kd.C_drewN ?_ _) | (with_reducible refine Kd.C_drew ?_))); (case side2 => exact HC0.out); (case side3 => repeat (first | exact (Kd.R_reads' HO169.out).2.2 | (with_reducible refine Kd.C_alloc ?_ _) | (with_reducible refine Kd.C_drewN ?_ _) | (with_reducible refine Kd.C_drew ?_))); (case side4 => exact (Kd.R_reads' HO169.out).2.1); rintro e w8 ⟨rfl, hb⟩; refine ⟨_, rfl, ?_⟩; have n0_ := Aside0.mk (Kd.R_below (by (with_reducible repeat (first | apply Kd.R_alloc | apply Kd.R_drewN | apply Kd.R_drew)); exact HO169.out) hb); have n1_ := Aside0.mk (below_step bB hb); clear HO169; clear HB; have HO169 := n0_; have HB := n1_; clear n0_ n1_; (try clear hb); (try clear hb2); (try clear hk); (try clear hi)))
 go_ret
 exact ⟨rE, bB⟩

end Go.Proofs.Ytecdigebnhlfhaa.OFnExactBestOrder
