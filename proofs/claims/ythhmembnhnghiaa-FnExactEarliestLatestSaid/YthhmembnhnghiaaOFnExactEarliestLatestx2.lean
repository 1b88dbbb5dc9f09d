/- Functions of the program as plain Lean functions, with their contracts: written by this session's program ownprint.py. Conditions: none. -/
import Derived.Test.YthhmembnhnghiaaOFnExactEarliestLatestx0
import Derived.Test.YthhmembnhnghiaaOFnExactEarliestLatestx1
namespace Go.Proofs.Ythhmembnhnghiaa.OFnExactEarliestLatest
open Go.RowKit Go.Proofs.YthhmembnhnghiaaW.PrintWords Go.Proofs.YthhmembnhnghiaaW.PrintLast Go.Proofs.YthhmembnhnghiaaW.PrintMore
attribute [local go_sem] max2_int min2_int max_two min_two max_three min_three max_four min_four   -- for this text's walks alone
set_option linter.unusedVariables false
set_option linter.unusedSimpArgs false

/-! ### spec_l6Good: function 55 -/
def spec_l6Good.f (k : Nat) (l0 : List (S59)) : Option (Bool) := (spec_l2Good.f k l0).bind fun t126 => (if t126 = true then ((spec_l4Free.f k l0).bind fun t127 => (some t127)) else (some false))
theorem spec_l6Good.mono : ∀ a0 k, LeO (spec_l6Good.f k a0) (spec_l6Good.f (k + 1) a0) := by
 intro a0 k
 unfold spec_l6Good.f
 repeat' first
   | (with_reducible exact spec_l2Good.mono _ _)
   | (with_reducible exact spec_l4Free.mono _ _)
   | (with_reducible exact LeO.refl _)
   | (with_reducible exact LeO.none _)
   | (with_reducible refine LeO.ite ?_ ?_)
   | (with_reducible refine LeO.bind ?_ (fun _ => ?_))
   | exact spec_l2Good.mono _ _
   | exact spec_l4Free.mono _ _
   | exact LeO.none _
   | refine LeO.ite ?_ ?_
   | refine LeO.bind ?_ (fun _ => ?_)
set_option maxHeartbeats 8000000 in
set_option maxRecDepth 100000 in
theorem spec_l6Good.calls (k : Nat) (A0 : Option Addr) (c0 : Nat) (l0 : List (S59)) (r : Bool) (w : World) (hr0 : Kd.C k59 w A0 l0.length l0) (hc0 : l0.length ≤ c0) (h : spec_l6Good.f k l0 = some r) :
  Calls Try.prog 55 #[.slice A0 l0.length c0] w fun e w' => e = .returned (.bool r) ∧ Below w.heap.size w w' := by
 have HR0 := Aside0.mk hr0
 have HC0 := Aside0.mk hc0
 clear hr0 hc0
 have HB := Aside0.mk (Below.refl w.heap.size w)
 have H : ((spec_l2Good.f k l0).bind fun t126 => (if t126 = true then ((spec_l4Free.f k l0).bind fun t127 => (some t127)) else (some false))) = some r := h
 clear h
 replace H := Option.bind_eq_some_iff.mp H
 obtain ⟨t126, A20, H⟩ := H
 replace H : (if t126 = true then ((spec_l4Free.f k l0).bind fun t127 => (some t127)) else (some false)) = some r := H
 have A2 := Aside0.mk A20
 clear A20
 by_cases c3 : t126 = true
 ·subst c3
  have H1 : ((spec_l4Free.f k l0).bind fun t127 => (some t127)) = some r := by rw [if_pos rfl] at H; exact H
  clear H
  have H := H1
  clear H1
  replace H := Option.bind_eq_some_iff.mp H
  obtain ⟨t127, A40, H⟩ := H
  replace H : (some t127) = some r := H
  have A4 := Aside0.mk A40
  clear A40
  obtain rfl := Option.some.inj H
  go_enter Try.func55, Try.ntmps55
  go_wp2_with (first | ((with_reducible refine gate_callee (f := 90) rfl ?_); refine goesL_ (some 4) rfl rfl Try.func90 (by kernel_rfl) rfl #[.slice A0 l0.length c0] rfl aE ?_; (with_reducible refine (spec_l2Good.calls k _ _ l0 true _ ?side1 ?side2 A2.out).mono ?_); (case side1 => repeat (first | exact HR0.out | (with_reducible refine Kd.C_alloc ?_ _) | (with_reducible refine Kd.C_drewN ?_ _) | (with_reducible refine Kd.C_drew ?_))); (case side2 => exact HC0.out); rintro e w5 ⟨rfl, hb⟩; refine ⟨_, rfl, ?_⟩; have n0_ := Aside0.mk (below_step bB hb); clear HB; have HB := n0_; clear n0_; (try clear hb); (try clear hb2); (try clear hk); (try clear hi)) | (go_at_call 109; (with_reducible refine (spec_l4Free.calls k _ _ l0 t127 _ ?side1 ?side2 A4.out).mono ?_); (case side1 => repeat (first | exact (Kd.C_below HR0.out HB.out) | (with_reducible refine Kd.C_alloc ?_ _) | (with_reducible refine Kd.C_drewN ?_ _) | (with_reducible refine Kd.C_drew ?_))); (case side2 => exact HC0.out); rintro e w' ⟨rfl, ⟨nd, rfl⟩⟩))
  go_ret
  exact ⟨rE, bB⟩
 ·replace c3 := Bool.eq_false_iff.mpr c3
  subst c3
  have H1 : (some false) = some r := by rw [if_neg (show ¬ (false = true) by decide)] at H; exact H
  clear H
  have H := H1
  clear H1
  obtain rfl := Option.some.inj H
  go_enter Try.func55, Try.ntmps55
  go_wp2_with (first | ((with_reducible refine gate_callee (f := 90) rfl ?_); refine goesL_ (some 4) rfl rfl Try.func90 (by kernel_rfl) rfl #[.slice A0 l0.length c0] rfl aE ?_; (with_reducible refine (spec_l2Good.calls k _ _ l0 false _ ?side1 ?side2 A2.out).mono ?_); (case side1 => repeat (first | exact HR0.out | (with_reducible refine Kd.C_alloc ?_ _) | (with_reducible refine Kd.C_drewN ?_ _) | (with_reducible refine Kd.C_drew ?_))); (case side2 => exact HC0.out); rintro e w6 ⟨rfl, hb⟩; refine ⟨_, rfl, ?_⟩; have n0_ := Aside0.mk (below_step bB hb); clear HB; have HB := n0_; clear n0_; (try clear hb); (try clear hb2); (try clear hk); (try clear hi)))
  go_ret
  exact ⟨rE, bB⟩

/-! ### spec_l6Sooner: function 143 -/
def spec_l6Sooner.f (l0 : List (S59)) (a1 : Int) (a2 : Int) : Option (Bool) := if 0 ≤ a1 then (if a1 < (l0.length : Int) then (if 0 ≤ a2 then (if a2 < (l0.length : Int) then (if ((rd_T59 l0 a1).f3) = ((rd_T59 l0 a2).f3) then (if ((rd_T59 l0 a1).f0) = ((rd_T59 l0 a2).f0) then (some (decide (a1 < a2))) else (some (decide (((rd_T59 l0 a1).f0) < ((rd_T59 l0 a2).f0))))) else (some (decide (((rd_T59 l0 a1).f3) < ((rd_T59 l0 a2).f3))))) else (none)) else (none)) else (none)) else (none)
set_option maxHeartbeats 8000000 in
set_option maxRecDepth 100000 in
theorem spec_l6Sooner.calls (A0 : Option Addr) (c0 : Nat) (l0 : List (S59)) (a1 : Int) (a2 : Int) (r : Bool) (w : World) (hr0 : Kd.C k59 w A0 l0.length l0) (hc0 : l0.length ≤ c0) (h : spec_l6Sooner.f l0 a1 a2 = some r) :
  Calls Try.prog 143 #[.slice A0 l0.length c0, .int .i64 a1, .int .i64 a2] w fun e w' => e = .returned (.bool r) ∧ Drawn0 w w' := by
 have HR0 := Aside0.mk hr0
 have HC0 := Aside0.mk hc0
 clear hr0 hc0
 have H : (if 0 ≤ a1 then (if a1 < (l0.length : Int) then (if 0 ≤ a2 then (if a2 < (l0.length : Int) then (if ((rd_T59 l0 a1).f3) = ((rd_T59 l0 a2).f3) then (if ((rd_T59 l0 a1).f0) = ((rd_T59 l0 a2).f0) then (some (decide (a1 < a2))) else (some (decide (((rd_T59 l0 a1).f0) < ((rd_T59 l0 a2).f0))))) else (some (decide (((rd_T59 l0 a1).f3) < ((rd_T59 l0 a2).f3))))) else (none)) else (none)) else (none)) else (none)) = some r := h
 clear h
 by_cases c4 : 0 ≤ a1
 ·rw [if_pos c4] at H
  have c4b0 : decide (0 ≤ a1) = true := decide_eq_true c4
  clear c4
  by_cases c5 : a1 < (l0.length : Int)
  ·rw [if_pos c5] at H
   have c5b0 : decide (a1 < (l0.length : Int)) = true := decide_eq_true c5
   clear c5
   by_cases c6 : 0 ≤ a2
   ·rw [if_pos c6] at H
    have c6b0 : decide (0 ≤ a2) = true := decide_eq_true c6
    clear c6
    by_cases c7 : a2 < (l0.length : Int)
    ·rw [if_pos c7] at H
     have c7b0 : decide (a2 < (l0.length : Int)) = true := decide_eq_true c7
     clear c7
     by_cases c8 : ((rd_T59 l0 a1).f3) = ((rd_T59 l0 a2).f3)
     ·rw [if_pos c8] at H
      have c8b0 : (((rd_T59 l0 a1).f3) == ((rd_T59 l0 a2).f3)) = true := beq_iff_eq.mpr c8
      have c8b1 : (((rd_T59 l0 a1).f3) != ((rd_T59 l0 a2).f3)) = false := bne_eq_false_iff_eq.mpr c8
      clear c8
      by_cases c9 : ((rd_T59 l0 a1).f0) = ((rd_T59 l0 a2).f0)
      ·rw [if_pos c9] at H
       have c9b0 : (((rd_T59 l0 a1).f0) == ((rd_T59 l0 a2).f0)) = true := beq_iff_eq.mpr c9
       have c9b1 : (((rd_T59 l0 a1).f0) != ((rd_T59 l0 a2).f0)) = false := bne_eq_false_iff_eq.mpr c9
       clear c9
       obtain rfl := Option.some.inj H
       have p128 : 0 ≤ (a1 : Int) := oD
       have q128 : a1 < (l0.length : Int) := oD
       obtain ⟨ad128, e128, hx128_0, hx128_1, hx128_2, hx128_3⟩ := at_T59 HR0.out a1 p128 q128
       cases e128
       replace p128 := eq_true p128
       replace q128 := eq_true q128
       have p129 : 0 ≤ (a2 : Int) := oD
       have q129 : a2 < (l0.length : Int) := oD
       obtain ⟨ad129, e129, hx129_0, hx129_1, hx129_2, hx129_3⟩ := at_T59 HR0.out a2 p129 q129
       obtain rfl : ad128 = ad129 := (by injection e129)
       replace p129 := eq_true p129
       replace q129 := eq_true q129
       have p130 : 0 ≤ (a1 : Int) := oD
       have q130 : a1 < (l0.length : Int) := oD
       obtain ⟨ad130, e130, hx130_0, hx130_1, hx130_2, hx130_3⟩ := at_T59 HR0.out a1 p130 q130
       obtain rfl : ad128 = ad130 := (by injection e130)
       replace p130 := eq_true p130
       replace q130 := eq_true q130
       have p131 : 0 ≤ (a2 : Int) := oD
       have q131 : a2 < (l0.length : Int) := oD
       obtain ⟨ad131, e131, hx131_0, hx131_1, hx131_2, hx131_3⟩ := at_T59 HR0.out a2 p131 q131
       obtain rfl : ad128 = ad131 := (by injection e131)
       replace p131 := eq_true p131
       replace q131 := eq_true q131
       go_enter Try.func143, Try.ntmps143
       go_wp2
       repeat (go_quiet (fail); try go_wp2)
       go_ret
       exact ⟨by first | rfl | (simp; done) | (simp [*]; done), by repeat (first | exact Drawn0.refl _ | apply Drawn0.step)⟩
      ·rw [if_neg c9] at H
       have c9b0 : (((rd_T59 l0 a1).f0) == ((rd_T59 l0 a2).f0)) = false := beq_eq_false_iff_ne.mpr c9
       have c9b1 : (((rd_T59 l0 a1).f0) != ((rd_T59 l0 a2).f0)) = true := bne_iff_ne.mpr c9
       obtain rfl := Option.some.inj H
       have p128 : 0 ≤ (a1 : Int) := oD
       have q128 : a1 < (l0.length : Int) := oD
       obtain ⟨ad128, e128, hx128_0, hx128_1, hx128_2, hx128_3⟩ := at_T59 HR0.out a1 p128 q128
       cases e128
       replace p128 := eq_true p128
       replace q128 := eq_true q128
       have p129 : 0 ≤ (a2 : Int) := oD
       have q129 : a2 < (l0.length : Int) := oD
       obtain ⟨ad129, e129, hx129_0, hx129_1, hx129_2, hx129_3⟩ := at_T59 HR0.out a2 p129 q129
       obtain rfl : ad128 = ad129 := (by injection e129)
       replace p129 := eq_true p129
       replace q129 := eq_true q129
       have p130 : 0 ≤ (a1 : Int) := oD
       have q130 : a1 < (l0.length : Int) := oD
       obtain ⟨ad130, e130, hx130_0, hx130_1, hx130_2, hx130_3⟩ := at_T59 HR0.out a1 p130 q130
       obtain rfl : ad128 = ad130 := (by injection e130)
       replace p130 := eq_true p130
       replace q130 := eq_true q130
       have p131 : 0 ≤ (a2 : Int) := oD
       have q131 : a2 < (l0.length : Int) := oD
       obtain ⟨ad131, e131, hx131_0, hx131_1, hx131_2, hx131_3⟩ := at_T59 HR0.out a2 p131 q131
       obtain rfl : ad128 = ad131 := (by injection e131)
       replace p131 := eq_true p131
       replace q131 := eq_true q131
       have p132 : 0 ≤ (a1 : Int) := oD
       have q132 : a1 < (l0.length : Int) := oD
       obtain ⟨ad132, e132, hx132_0, hx132_1, hx132_2, hx132_3⟩ := at_T59 HR0.out a1 p132 q132
       obtain rfl : ad128 = ad132 := (by injection e132)
       replace p132 := eq_true p132
       replace q132 := eq_true q132
       have p133 : 0 ≤ (a2 : Int) := oD
       have q133 : a2 < (l0.length : Int) := oD
       obtain ⟨ad133, e133, hx133_0, hx133_1, hx133_2, hx133_3⟩ := at_T59 HR0.out a2 p133 q133
       obtain rfl : ad128 = ad133 := (by injection e133)
       replace p133 := eq_true p133
       replace q133 := eq_true q133
       go_enter Try.func143, Try.ntmps143
       go_wp2
       repeat (go_quiet (fail); try go_wp2)
       go_ret
       exact ⟨by first | rfl | (simp; done) | (simp [*]; done), by repeat (first | exact Drawn0.refl _ | apply Drawn0.step)⟩
     ·rw [if_neg c8] at H
      have c8b0 : (((rd_T59 l0 a1).f3) == ((rd_T59 l0 a2).f3)) = false := beq_eq_false_iff_ne.mpr c8
      have c8b1 : (((rd_T59 l0 a1).f3) != ((rd_T59 l0 a2).f3)) = true := bne_iff_ne.mpr c8
      obtain rfl := Option.some.inj H
      have p128 : 0 ≤ (a1 : Int) := oD
      have q128 : a1 < (l0.length : Int) := oD
      obtain ⟨ad128, e128, hx128_0, hx128_1, hx128_2, hx128_3⟩ := at_T59 HR0.out a1 p128 q128
      cases e128
      replace p128 := eq_true p128
      replace q128 := eq_true q128
      have p129 : 0 ≤ (a2 : Int) := oD
      have q129 : a2 < (l0.length : Int) := oD
      obtain ⟨ad129, e129, hx129_0, hx129_1, hx129_2, hx129_3⟩ := at_T59 HR0.out a2 p129 q129
      obtain rfl : ad128 = ad129 := (by injection e129)
      replace p129 := eq_true p129
      replace q129 := eq_true q129
      have p134 : 0 ≤ (a1 : Int) := oD
      have q134 : a1 < (l0.length : Int) := oD
      obtain ⟨ad134, e134, hx134_0, hx134_1, hx134_2, hx134_3⟩ := at_T59 HR0.out a1 p134 q134
      obtain rfl : ad128 = ad134 := (by injection e134)
      replace p134 := eq_true p134
      replace q134 := eq_true q134
      have p135 : 0 ≤ (a2 : Int) := oD
      have q135 : a2 < (l0.length : Int) := oD
      obtain ⟨ad135, e135, hx135_0, hx135_1, hx135_2, hx135_3⟩ := at_T59 HR0.out a2 p135 q135
      obtain rfl : ad128 = ad135 := (by injection e135)
      replace p135 := eq_true p135
      replace q135 := eq_true q135
      go_enter Try.func143, Try.ntmps143
      go_wp2
      repeat (go_quiet (fail); try go_wp2)
      go_ret
      exact ⟨by first | rfl | (simp; done) | (simp [*]; done), by repeat (first | exact Drawn0.refl _ | apply Drawn0.step)⟩
    ·rw [if_neg c7] at H
     exact absurd H (by simp)
   ·rw [if_neg c6] at H
    exact absurd H (by simp)
  ·rw [if_neg c5] at H
   exact absurd H (by simp)
 ·rw [if_neg c4] at H
  exact absurd H (by simp)

end Go.Proofs.Ythhmembnhnghiaa.OFnExactEarliestLatest
