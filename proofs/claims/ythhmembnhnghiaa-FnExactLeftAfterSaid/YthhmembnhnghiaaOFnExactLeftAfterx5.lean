/- Functions of the program as plain Lean functions, with their contracts: written by this session's program ownprint.py. Conditions: none. -/
import Derived.Test.YthhmembnhnghiaaOFnExactLeftAfterx0
namespace Go.Proofs.Ythhmembnhnghiaa.OFnExactLeftAfter
open Go.RowKit Go.Proofs.YthhmembnhnghiaaW.PrintWords Go.Proofs.YthhmembnhnghiaaW.PrintLast Go.Proofs.YthhmembnhnghiaaW.PrintMore
attribute [local go_sem] max2_int min2_int max_two min_two max_three min_three max_four min_four   -- for this text's walks alone
set_option linter.unusedVariables false
set_option linter.unusedSimpArgs false

/-! ### spec_l3Total: function 131 -/
def spec_l3Total.l0 : Nat → List (S59) → List Int → Int → Int → Option (Int)
 | 0, _, _, _, _ => none
 | k + 1, x0, x1, x5, x6 => if x6 < (x1.length : Int) then (if 0 ≤ x6 then (if 0 ≤ (rd x1 x6) then (if (rd x1 x6) < (x0.length : Int) then (spec_l3Total.l0 k x0 x1 (wrap64 (x5 + ((rd_T59 x0 (rd x1 x6)).f0))) (wrap64 (x6 + 1))) else (none)) else (none)) else (none)) else (some x5)
def spec_l3Total.f (k : Nat) (l0 : List (S59)) (l1 : List Int) : Option (Int) := spec_l3Total.l0 k l0 l1 0 0
theorem spec_l3Total.mono_l : ∀ k, (∀ y0 y1 y2 y3, LeO (spec_l3Total.l0 k y0 y1 y2 y3) (spec_l3Total.l0 (k + 1) y0 y1 y2 y3))
 | 0 => fun _ _ _ _ r h => by simp [spec_l3Total.l0] at h
 | k + 1 => by
  have ih0 := spec_l3Total.mono_l k
  ·intro y0 y1 y2 y3
   unfold spec_l3Total.l0
   repeat' first
   | (with_reducible exact ih0 _ _ _ _)
   | (with_reducible exact LeO.refl _)
   | (with_reducible exact LeO.none _)
   | (with_reducible refine LeO.ite ?_ ?_)
   | (with_reducible refine LeO.bind ?_ (fun _ => ?_))
   | exact ih0 _ _ _ _
   | exact LeO.none _
   | refine LeO.ite ?_ ?_
   | refine LeO.bind ?_ (fun _ => ?_)
theorem spec_l3Total.mono : ∀ a0 a1 k, LeO (spec_l3Total.f k a0 a1) (spec_l3Total.f (k + 1) a0 a1) := by
 intro a0 a1 k
 have ih0 := spec_l3Total.mono_l k
 unfold spec_l3Total.f
 repeat' first
   | (with_reducible exact ih0 _ _ _ _)
   | (with_reducible exact LeO.refl _)
   | (with_reducible exact LeO.none _)
   | (with_reducible refine LeO.ite ?_ ?_)
   | (with_reducible refine LeO.bind ?_ (fun _ => ?_))
   | exact ih0 _ _ _ _
   | exact LeO.none _
   | refine LeO.ite ?_ ?_
   | refine LeO.bind ?_ (fun _ => ?_)
set_option maxHeartbeats 8000000 in
set_option maxRecDepth 100000 in
theorem spec_l3Total.calls (k : Nat) (A0 : Option Addr) (c0 : Nat) (l0 : List (S59)) (A1 : Option Addr) (c1 : Nat) (l1 : List Int) (r : Int) (w : World) (hr0 : Kd.C k59 w A0 l0.length l0) (hc0 : l0.length ≤ c0) (hr1 : Kd.C (Kd.int .i64) w A1 l1.length l1) (hc1 : l1.length ≤ c1) (h : spec_l3Total.f k l0 l1 = some r) :
  Calls Try.prog 131 #[.slice A0 l0.length c0, .slice A1 l1.length c1] w fun e w' => e = .returned (.int .i64 r) ∧ Drawn0 w w' := by
 have HR0 := Aside0.mk hr0
 have HC0 := Aside0.mk hc0
 clear hr0 hc0
 have HR1 := Aside0.mk hr1
 have HC1 := Aside0.mk hc1
 clear hr1 hc1
 have H : (spec_l3Total.l0 k l0 l1 0 0) = some r := h
 clear h
 have H' := Aside0.mk H
 clear H
 go_enter Try.func131, Try.ntmps131
 go_wp2
 go_loopg [5, 6] k (fun kq v5 v6 w' => ∃ (x5_1 : Int) (x6_1 : Int), v5 = .int .i64 x5_1 ∧ v6 = .int .i64 x6_1 ∧ Aside0 (spec_l3Total.l0 kq l0 l1 x5_1 x6_1 = some r) ∧ Aside0 (kq ≤ k) ∧ Drawn0 w w')
 case atStart => exact ⟨(0), (0), sD, sD, H', ⟨Nat.le_refl _⟩, by repeat (first | exact Drawn0.refl _ | apply Drawn0.step)⟩
 case round =>
  clear H'
  try clear c1
  try clear p2
  obtain ⟨x5_1, x6_1, rfl, rfl, HA, HK1, ⟨m1, rfl⟩⟩ := hrel
  cases gk with
  | zero => exact absurd HA.out (by simp [spec_l3Total.l0])
  | succ k1 =>
   have H := HA.out
   clear HA
   simp only [spec_l3Total.l0] at H
   by_cases c3 : x6_1 < (l1.length : Int)
   ·rw [if_pos c3] at H
    have c3b0 : decide (x6_1 < (l1.length : Int)) = true := decide_eq_true c3
    clear c3
    by_cases c4 : 0 ≤ x6_1; rotate_left
    ·rw [if_neg c4] at H; exact absurd H (by simp)
    rw [if_pos c4] at H
    have c4b0 : decide (0 ≤ x6_1) = true := decide_eq_true c4
    clear c4
    by_cases c5 : 0 ≤ (rd l1 x6_1); rotate_left
    ·rw [if_neg c5] at H; exact absurd H (by simp)
    rw [if_pos c5] at H
    have c5b0 : decide (0 ≤ (rd l1 x6_1)) = true := decide_eq_true c5
    clear c5
    by_cases c6 : (rd l1 x6_1) < (l0.length : Int); rotate_left
    ·rw [if_neg c6] at H; exact absurd H (by simp)
    rw [if_pos c6] at H
    have c6b0 : decide ((rd l1 x6_1) < (l0.length : Int)) = true := decide_eq_true c6
    clear c6
    have H' := Aside0.mk H
    clear H
    have p199 : 0 ≤ (x6_1 : Int) := oD
    have q199 : x6_1 < (l1.length : Int) := oD
    obtain ⟨ad199, e199, hx199_0⟩ := Kd.at_int HR1.out x6_1 p199 q199
    cases e199
    replace p199 := eq_true p199
    replace q199 := eq_true q199
    have p200 : 0 ≤ ((rd l1 x6_1) : Int) := oD
    have q200 : (rd l1 x6_1) < (l0.length : Int) := oD
    obtain ⟨ad200, e200, hx200_0, hx200_1, hx200_2, hx200_3⟩ := at_T59 HR0.out (rd l1 x6_1) p200 q200
    cases e200
    replace p200 := eq_true p200
    replace q200 := eq_true q200
    go_wp2
    go_roundg k1
    case measure => have := HK1.out; omega
    case rel => exact ⟨(wrap64 (x5_1 + ((rd_T59 l0 (rd l1 x6_1)).f0))), (wrap64 (x6_1 + 1)), sD, sD, H', ⟨by have := HK1.out; omega⟩, by repeat (first | exact Drawn0.refl _ | apply Drawn0.step)⟩
   ·rw [if_neg c3] at H
    have c3b0 : decide (x6_1 < (l1.length : Int)) = false := decide_eq_false c3
    clear c3
    obtain rfl := Option.some.inj H
    go_wp2
    go_ret
    exact ⟨by first | rfl | (simp; done) | (simp [*]; done), by repeat (first | exact Drawn0.refl _ | apply Drawn0.step)⟩

/-! ### spec_l3Longest: function 132 -/
def spec_l3Longest.l0 : Nat → List (S59) → List Int → Int → Int → Option (Int)
 | 0, _, _, _, _ => none
 | k + 1, x0, x1, x5, x6 => if x6 < (x1.length : Int) then (if 0 ≤ x6 then (if 0 ≤ (rd x1 x6) then (if (rd x1 x6) < (x0.length : Int) then (if 0 ≤ x5 then (if x5 < (x1.length : Int) then (if 0 ≤ (rd x1 x5) then (if (rd x1 x5) < (x0.length : Int) then (if ((rd_T59 x0 (rd x1 x6)).f0) > ((rd_T59 x0 (rd x1 x5)).f0) then (spec_l3Longest.l0 k x0 x1 x6 (wrap64 (x6 + 1))) else (spec_l3Longest.l0 k x0 x1 x5 (wrap64 (x6 + 1)))) else (none)) else (none)) else (none)) else (none)) else (none)) else (none)) else (none)) else (some x5)
def spec_l3Longest.f (k : Nat) (l0 : List (S59)) (l1 : List Int) : Option (Int) := spec_l3Longest.l0 k l0 l1 0 1
theorem spec_l3Longest.mono_l : ∀ k, (∀ y0 y1 y2 y3, LeO (spec_l3Longest.l0 k y0 y1 y2 y3) (spec_l3Longest.l0 (k + 1) y0 y1 y2 y3))
 | 0 => fun _ _ _ _ r h => by simp [spec_l3Longest.l0] at h
 | k + 1 => by
  have ih0 := spec_l3Longest.mono_l k
  ·intro y0 y1 y2 y3
   unfold spec_l3Longest.l0
   repeat' first
   | (with_reducible exact ih0 _ _ _ _)
   | (with_reducible exact LeO.refl _)
   | (with_reducible exact LeO.none _)
   | (with_reducible refine LeO.ite ?_ ?_)
   | (with_reducible refine LeO.bind ?_ (fun _ => ?_))
   | exact ih0 _ _ _ _
   | exact LeO.none _
   | refine LeO.ite ?_ ?_
   | refine LeO.bind ?_ (fun _ => ?_)
theorem spec_l3Longest.mono : ∀ a0 a1 k, LeO (spec_l3Longest.f k a0 a1) (spec_l3Longest.f (k + 1) a0 a1) := by
 intro a0 a1 k
 have ih0 := spec_l3Longest.mono_l k
 unfold spec_l3Longest.f
 repeat' first
   | (with_reducible exact ih0 _ _ _ _)
   | (with_reducible exact LeO.refl _)
   | (with_reducible exact LeO.none _)
   | (with_reducible refine LeO.ite ?_ ?_)
   | (with_reducible refine LeO.bind ?_ (fun _ => ?_))
   | exact ih0 _ _ _ _
   | exact LeO.none _
   | refine LeO.ite ?_ ?_
   | refine LeO.bind ?_ (fun _ => ?_)
set_option maxHeartbeats 8000000 in
set_option maxRecDepth 100000 in
theorem spec_l3Longest.calls (k : Nat) (A0 : Option Addr) (c0 : Nat) (l0 : List (S59)) (A1 : Option Addr) (c1 : Nat) (l1 : List Int) (r : Int) (w : World) (hr0 : Kd.C k59 w A0 l0.length l0) (hc0 : l0.length ≤ c0) (hr1 : Kd.C (Kd.int .i64) w A1 l1.length l1) (hc1 : l1.length ≤ c1) (h : spec_l3Longest.f k l0 l1 = some r) :
  Calls Try.prog 132 #[.slice A0 l0.length c0, .slice A1 l1.length c1] w fun e w' => e = .returned (.int .i64 r) ∧ Drawn0 w w' := by
 have HR0 := Aside0.mk hr0
 have HC0 := Aside0.mk hc0
 clear hr0 hc0
 have HR1 := Aside0.mk hr1
 have HC1 := Aside0.mk hc1
 clear hr1 hc1
 have H : (spec_l3Longest.l0 k l0 l1 0 1) = some r := h
 clear h
 have H' := Aside0.mk H
 clear H
 go_enter Try.func132, Try.ntmps132
 go_wp2
 repeat (go_quiet (fail); try go_wp2)
 go_loopg [5, 6] k (fun kq v5 v6 w' => ∃ (x5_1 : Int) (x6_1 : Int), v5 = .int .i64 x5_1 ∧ v6 = .int .i64 x6_1 ∧ Aside0 (spec_l3Longest.l0 kq l0 l1 x5_1 x6_1 = some r) ∧ Aside0 (kq ≤ k) ∧ Drawn0 w w')
 case atStart => exact ⟨(0), (1), sD, sD, H', ⟨Nat.le_refl _⟩, by repeat (first | exact Drawn0.refl _ | apply Drawn0.step)⟩
 case round =>
  clear H'
  try clear c1
  try clear p2
  obtain ⟨x5_1, x6_1, rfl, rfl, HA, HK1, ⟨m1, rfl⟩⟩ := hrel
  cases gk with
  | zero => exact absurd HA.out (by simp [spec_l3Longest.l0])
  | succ k1 =>
   have H := HA.out
   clear HA
   simp only [spec_l3Longest.l0] at H
   by_cases c3 : x6_1 < (l1.length : Int)
   ·rw [if_pos c3] at H
    have c3b0 : decide (x6_1 < (l1.length : Int)) = true := decide_eq_true c3
    clear c3
    by_cases c4 : 0 ≤ x6_1; rotate_left
    ·rw [if_neg c4] at H; exact absurd H (by simp)
    rw [if_pos c4] at H
    have c4b0 : decide (0 ≤ x6_1) = true := decide_eq_true c4
    clear c4
    by_cases c5 : 0 ≤ (rd l1 x6_1); rotate_left
    ·rw [if_neg c5] at H; exact absurd H (by simp)
    rw [if_pos c5] at H
    have c5b0 : decide (0 ≤ (rd l1 x6_1)) = true := decide_eq_true c5
    clear c5
    by_cases c6 : (rd l1 x6_1) < (l0.length : Int); rotate_left
    ·rw [if_neg c6] at H; exact absurd H (by simp)
    rw [if_pos c6] at H
    have c6b0 : decide ((rd l1 x6_1) < (l0.length : Int)) = true := decide_eq_true c6
    clear c6
    by_cases c7 : 0 ≤ x5_1; rotate_left
    ·rw [if_neg c7] at H; exact absurd H (by simp)
    rw [if_pos c7] at H
    have c7b0 : decide (0 ≤ x5_1) = true := decide_eq_true c7
    clear c7
    by_cases c8 : x5_1 < (l1.length : Int); rotate_left
    ·rw [if_neg c8] at H; exact absurd H (by simp)
    rw [if_pos c8] at H
    have c8b0 : decide (x5_1 < (l1.length : Int)) = true := decide_eq_true c8
    clear c8
    by_cases c9 : 0 ≤ (rd l1 x5_1); rotate_left
    ·rw [if_neg c9] at H; exact absurd H (by simp)
    rw [if_pos c9] at H
    have c9b0 : decide (0 ≤ (rd l1 x5_1)) = true := decide_eq_true c9
    clear c9
    by_cases c10 : (rd l1 x5_1) < (l0.length : Int); rotate_left
    ·rw [if_neg c10] at H; exact absurd H (by simp)
    rw [if_pos c10] at H
    have c10b0 : decide ((rd l1 x5_1) < (l0.length : Int)) = true := decide_eq_true c10
    clear c10
    by_cases c11 : ((rd_T59 l0 (rd l1 x6_1)).f0) > ((rd_T59 l0 (rd l1 x5_1)).f0)
    ·rw [if_pos c11] at H
     have c11b0 : decide (((rd_T59 l0 (rd l1 x5_1)).f0) < ((rd_T59 l0 (rd l1 x6_1)).f0)) = true := decide_eq_true c11
     clear c11
     have H' := Aside0.mk H
     clear H
     have p201 : 0 ≤ (x6_1 : Int) := oD
     have q201 : x6_1 < (l1.length : Int) := oD
     obtain ⟨ad201, e201, hx201_0⟩ := Kd.at_int HR1.out x6_1 p201 q201
     cases e201
     replace p201 := eq_true p201
     replace q201 := eq_true q201
     have p202 : 0 ≤ ((rd l1 x6_1) : Int) := oD
     have q202 : (rd l1 x6_1) < (l0.length : Int) := oD
     obtain ⟨ad202, e202, hx202_0, hx202_1, hx202_2, hx202_3⟩ := at_T59 HR0.out (rd l1 x6_1) p202 q202
     cases e202
     replace p202 := eq_true p202
     replace q202 := eq_true q202
     have p203 : 0 ≤ (x5_1 : Int) := oD
     have q203 : x5_1 < (l1.length : Int) := oD
     obtain ⟨ad203, e203, hx203_0⟩ := Kd.at_int HR1.out x5_1 p203 q203
     obtain rfl : ad201 = ad203 := (by injection e203)
     replace p203 := eq_true p203
     replace q203 := eq_true q203
     have p204 : 0 ≤ ((rd l1 x5_1) : Int) := oD
     have q204 : (rd l1 x5_1) < (l0.length : Int) := oD
     obtain ⟨ad204, e204, hx204_0, hx204_1, hx204_2, hx204_3⟩ := at_T59 HR0.out (rd l1 x5_1) p204 q204
     obtain rfl : ad202 = ad204 := (by injection e204)
     replace p204 := eq_true p204
     replace q204 := eq_true q204
     go_wp2
     repeat (go_quiet (fail); try go_wp2)
     go_roundg k1
     case measure => have := HK1.out; omega
     case rel => exact ⟨(x6_1), (wrap64 (x6_1 + 1)), sD, sD, H', ⟨by have := HK1.out; omega⟩, by repeat (first | exact Drawn0.refl _ | apply Drawn0.step)⟩
    ·rw [if_neg c11] at H
     have c11b0 : decide (((rd_T59 l0 (rd l1 x5_1)).f0) < ((rd_T59 l0 (rd l1 x6_1)).f0)) = false := decide_eq_false c11
     clear c11
     have H' := Aside0.mk H
     clear H
     have p201 : 0 ≤ (x6_1 : Int) := oD
     have q201 : x6_1 < (l1.length : Int) := oD
     obtain ⟨ad201, e201, hx201_0⟩ := Kd.at_int HR1.out x6_1 p201 q201
     cases e201
     replace p201 := eq_true p201
     replace q201 := eq_true q201
     have p202 : 0 ≤ ((rd l1 x6_1) : Int) := oD
     have q202 : (rd l1 x6_1) < (l0.length : Int) := oD
     obtain ⟨ad202, e202, hx202_0, hx202_1, hx202_2, hx202_3⟩ := at_T59 HR0.out (rd l1 x6_1) p202 q202
     cases e202
     replace p202 := eq_true p202
     replace q202 := eq_true q202
     have p203 : 0 ≤ (x5_1 : Int) := oD
     have q203 : x5_1 < (l1.length : Int) := oD
     obtain ⟨ad203, e203, hx203_0⟩ := Kd.at_int HR1.out x5_1 p203 q203
     obtain rfl : ad201 = ad203 := (by injection e203)
     replace p203 := eq_true p203
     replace q203 := eq_true q203
     have p204 : 0 ≤ ((rd l1 x5_1) : Int) := oD
     have q204 : (rd l1 x5_1) < (l0.length : Int) := oD
     obtain ⟨ad204, e204, hx204_0, hx204_1, hx204_2, hx204_3⟩ := at_T59 HR0.out (rd l1 x5_1) p204 q204
     obtain rfl : ad202 = ad204 := (by injection e204)
     replace p204 := eq_true p204
     replace q204 := eq_true q204
     go_wp2
     repeat (go_quiet (fail); try go_wp2)
     go_roundg k1
     case measure => have := HK1.out; omega
     case rel => exact ⟨(x5_1), (wrap64 (x6_1 + 1)), sD, sD, H', ⟨by have := HK1.out; omega⟩, by repeat (first | exact Drawn0.refl _ | apply Drawn0.step)⟩
   ·rw [if_neg c3] at H
    have c3b0 : decide (x6_1 < (l1.length : Int)) = false := decide_eq_false c3
    clear c3
    obtain rfl := Option.some.inj H
    go_wp2
    repeat (go_quiet (fail); try go_wp2)
    go_ret
    exact ⟨by first | rfl | (simp; done) | (simp [*]; done), by repeat (first | exact Drawn0.refl _ | apply Drawn0.step)⟩

end Go.Proofs.Ythhmembnhnghiaa.OFnExactLeftAfter
