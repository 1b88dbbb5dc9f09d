/- Functions of the program as plain Lean functions, with their contracts: written by this session's program ownprint.py. Conditions: none. -/
import Derived.Test.YtlhppclbokkfmaaOFnExactSidneyBlocksx0
namespace Go.Proofs.Ytlhppclbokkfmaa.OFnExactSidneyBlocks
open Go.RowKit Go.Proofs.YtlhppclbokkfmaaW.PrintWords Go.Proofs.YtlhppclbokkfmaaW.PrintLast Go.Proofs.YtlhppclbokkfmaaW.PrintMore
attribute [local go_sem] max2_int min2_int max_two min_two max_three min_three max_four min_four   -- for this text's walks alone
set_option linter.unusedVariables false
set_option linter.unusedSimpArgs false

/-! ### impl_setOf: function 45 -/
def impl_setOf.l0 : Nat → Int → List Int → Int → Int → Option (Int)
 | 0, _, _, _, _ => none
 | k + 1, x3, x6, x7, x8 => if x8 < x7 then (if 0 ≤ x8 then (if x8 < (x6.length : Int) then (if 0 ≤ (rd x6 x8) then (impl_setOf.l0 k (Go.bits .or .i64 x3 (shl .i64 1 (rd x6 x8))) x6 x7 (wrap64 (x8 + 1))) else (none)) else (none)) else (none)) else (some x3)
def impl_setOf.f (k : Nat) (l0 : List Int) : Option (Int) := impl_setOf.l0 k 0 l0 (l0.length : Int) 0
theorem impl_setOf.mono_l : ∀ k, (∀ y0 y1 y2 y3, LeO (impl_setOf.l0 k y0 y1 y2 y3) (impl_setOf.l0 (k + 1) y0 y1 y2 y3))
 | 0 => fun _ _ _ _ r h => by simp [impl_setOf.l0] at h
 | k + 1 => by
  have ih0 := impl_setOf.mono_l k
  ·intro y0 y1 y2 y3
   unfold impl_setOf.l0
   repeat' first
   | (with_reducible exact ih0 _ _ _ _)
   | (with_reducible exact LeO.refl _)
   | (with_reducible exact LeO.none _)
   | (with_reducible refine LeO.ite ?_ ?_)
   | (with_reducible refine LeO.bind ?_ (fun _ => ?_))
   | exact ih0 _ _ _ _
   | exact LeO.none _
   | refine LeO.ite ?_ ?_
   | refine LeO.bind ?_ (fun _ => ?_)
theorem impl_setOf.mono : ∀ a0 k, LeO (impl_setOf.f k a0) (impl_setOf.f (k + 1) a0) := by
 intro a0 k
 have ih0 := impl_setOf.mono_l k
 unfold impl_setOf.f
 repeat' first
   | (with_reducible exact ih0 _ _ _ _)
   | (with_reducible exact LeO.refl _)
   | (with_reducible exact LeO.none _)
   | (with_reducible refine LeO.ite ?_ ?_)
   | (with_reducible refine LeO.bind ?_ (fun _ => ?_))
   | exact ih0 _ _ _ _
   | exact LeO.none _
   | refine LeO.ite ?_ ?_
   | refine LeO.bind ?_ (fun _ => ?_)
set_option maxHeartbeats 8000000 in
set_option maxRecDepth 100000 in
theorem impl_setOf.calls (k : Nat) (A0 : Option Addr) (c0 : Nat) (l0 : List Int) (r : Int) (w : World) (hr0 : Kd.C (Kd.int .i64) w A0 l0.length l0) (hc0 : l0.length ≤ c0) (h : impl_setOf.f k l0 = some r) :
  Calls Try.prog 45 #[.slice A0 l0.length c0] w fun e w' => e = .returned (.int .i64 r) ∧ Drawn0 w w' := by
 have HR0 := Aside0.mk hr0
 have HC0 := Aside0.mk hc0
 clear hr0 hc0
 have H : (impl_setOf.l0 k 0 l0 (l0.length : Int) 0) = some r := h
 clear h
 have H' := Aside0.mk H
 clear H
 go_enter Try.func45, Try.ntmps45
 go_wp2
 go_loopg [3, 8] k (fun kq v3 v8 w' => ∃ (x3_1 : Int) (x8_1 : Int), v3 = .int .i64 x3_1 ∧ v8 = .int .i64 x8_1 ∧ Aside0 (impl_setOf.l0 kq x3_1 l0 (l0.length : Int) x8_1 = some r) ∧ Aside0 (kq ≤ k) ∧ Drawn0 w w')
 case atStart => exact ⟨(0), (0), sD, sD, H', ⟨Nat.le_refl _⟩, by repeat (first | exact Drawn0.refl _ | apply Drawn0.step)⟩
 case round =>
  clear H'
  obtain ⟨x3_1, x8_1, rfl, rfl, HA, HK1, ⟨m1, rfl⟩⟩ := hrel
  cases gk with
  | zero => exact absurd HA.out (by simp [impl_setOf.l0])
  | succ k1 =>
   have H := HA.out
   clear HA
   simp only [impl_setOf.l0] at H
   by_cases c2 : x8_1 < (l0.length : Int)
   ·rw [if_pos c2] at H
    have c2b0 : decide (x8_1 < (l0.length : Int)) = true := decide_eq_true c2
    clear c2
    by_cases c3 : 0 ≤ x8_1; rotate_left
    ·rw [if_neg c3] at H; exact absurd H (by simp)
    rw [if_pos c3] at H
    have c3b0 : decide (0 ≤ x8_1) = true := decide_eq_true c3
    clear c3
    by_cases c4 : x8_1 < (l0.length : Int); rotate_left
    ·rw [if_neg c4] at H; exact absurd H (by simp)
    rw [if_pos c4] at H
    have c4b0 : decide (x8_1 < (l0.length : Int)) = true := decide_eq_true c4
    clear c4
    by_cases c5 : 0 ≤ (rd l0 x8_1); rotate_left
    ·rw [if_neg c5] at H; exact absurd H (by simp)
    rw [if_pos c5] at H
    have c5b0 := eq_true c5
    have c5b1 : decide (0 ≤ (rd l0 x8_1)) = true := decide_eq_true c5
    clear c5
    obtain ⟨ji6, hji6⟩ : ∃ j_ : Int, (shl .i64 1 (rd l0 x8_1)) = j_ := ⟨_, rfl⟩
    replace H : (impl_setOf.l0 k1 (Go.bits .or .i64 x3_1 (ji6)) l0 (l0.length : Int) (wrap64 (x8_1 + 1))) = some r := by first | (rw [hji6] at H; exact H) | (simp only [hji6] at H ⊢; exact H)
    have hji6_ : (IntKind.i64.wrap (1 * 2 ^ min (rd l0 x8_1).toNat 64)) = ji6 := hji6
    have hji6z : (rd l0 x8_1) ≤ 64 → (IntKind.i64.wrap (1 * 2 ^ (rd l0 x8_1).toNat)) = ji6 := shl_small hji6
    have hji6u : (IntKind.i64.wrap (2 ^ min (rd l0 x8_1).toNat 64)) = ji6 := by have h_ := hji6_; rw [Int.one_mul] at h_; exact h_
    have hji6v : (rd l0 x8_1) ≤ 64 → (IntKind.i64.wrap (2 ^ (rd l0 x8_1).toNat)) = ji6 := fun hle_ => by have h_ := hji6z hle_; rw [Int.one_mul] at h_; exact h_
    have hji6y : (wrap64 (1 * 2 ^ min (rd l0 x8_1).toNat 64)) = ji6 := (i64_w _).symm.trans hji6_
    have hji6x : (rd l0 x8_1) ≤ 64 → (wrap64 (1 * 2 ^ (rd l0 x8_1).toNat)) = ji6 := fun h_ => (i64_w _).symm.trans (hji6z h_)
    have H' := Aside0.mk H
    clear H
    have p298 : 0 ≤ (x8_1 : Int) := oD
    have q298 : x8_1 < (l0.length : Int) := oD
    obtain ⟨ad298, e298, hx298_0⟩ := Kd.at_int HR0.out x8_1 p298 q298
    cases e298
    replace p298 := eq_true p298
    replace q298 := eq_true q298
    go_wp2
    go_roundg k1
    case measure => have := HK1.out; omega
    case rel => exact ⟨(Go.bits .or .i64 x3_1 (ji6)), (wrap64 (x8_1 + 1)), (by first | rfl | (simp; done) | (simp only [← hji6] <;> (first | rfl | simp)) | (simp [*]; done)), sD, H', ⟨by have := HK1.out; omega⟩, by repeat (first | exact Drawn0.refl _ | apply Drawn0.step)⟩
   ·rw [if_neg c2] at H
    have c2b0 : decide (x8_1 < (l0.length : Int)) = false := decide_eq_false c2
    clear c2
    obtain rfl := Option.some.inj H
    go_wp2
    go_ret
    exact ⟨by first | rfl | (simp; done) | (simp [*]; done), by repeat (first | exact Drawn0.refl _ | apply Drawn0.step)⟩

/-! ### impl_isInitial: function 65 -/
mutual
def impl_isInitial.l0 : Nat → List (List Bool) → Int → Int → Int → Int → Option (Bool)
 | 0, _, _, _, _, _ => none
 | k + 1, x0, x1, x2, x10, x11 => if x11 < x10 then (impl_isInitial.l1 k x0 x1 x2 x11 x10 x11 (x0.length : Int) 0) else (some true)
def impl_isInitial.l1 : Nat → List (List Bool) → Int → Int → Int → Int → Int → Int → Int → Option (Bool)
 | 0, _, _, _, _, _, _, _, _ => none
 | k + 1, x0, x1, x2, x7, x10, x11, x15, x16 => if x16 < x15 then (if 0 ≤ x7 then (if (Go.bits .and .i64 (shr .i64 x1 x7) 1) = 1 then (if 0 ≤ x16 then (if (Go.bits .and .i64 (shr .i64 x2 x16) 1) = 1 then (if x16 < (x0.length : Int) then (if x7 < ((rd_L5 x0 x16).length : Int) then (if rdOf false (rd_L5 x0 x16) x7 = true then (if (Go.bits .and .i64 (shr .i64 x1 x16) 1) = 0 then (some false) else (impl_isInitial.l1 k x0 x1 x2 x7 x10 x11 x15 (wrap64 (x16 + 1)))) else (impl_isInitial.l1 k x0 x1 x2 x7 x10 x11 x15 (wrap64 (x16 + 1)))) else (none)) else (none)) else (impl_isInitial.l1 k x0 x1 x2 x7 x10 x11 x15 (wrap64 (x16 + 1)))) else (none)) else (impl_isInitial.l1 k x0 x1 x2 x7 x10 x11 x15 (wrap64 (x16 + 1)))) else (none)) else (impl_isInitial.l0 k x0 x1 x2 x10 (wrap64 (x11 + 1)))
end
def impl_isInitial.f (k : Nat) (l0 : List (List Bool)) (a1 : Int) (a2 : Int) : Option (Bool) := impl_isInitial.l0 k l0 a1 a2 (l0.length : Int) 0
theorem impl_isInitial.mono_l : ∀ k, (∀ y0 y1 y2 y3 y4, LeO (impl_isInitial.l0 k y0 y1 y2 y3 y4) (impl_isInitial.l0 (k + 1) y0 y1 y2 y3 y4)) ∧ (∀ y0 y1 y2 y3 y4 y5 y6 y7, LeO (impl_isInitial.l1 k y0 y1 y2 y3 y4 y5 y6 y7) (impl_isInitial.l1 (k + 1) y0 y1 y2 y3 y4 y5 y6 y7))
 | 0 => ⟨fun _ _ _ _ _ r h => by simp [impl_isInitial.l0] at h, fun _ _ _ _ _ _ _ _ r h => by simp [impl_isInitial.l1] at h⟩
 | k + 1 => by
  obtain ⟨ih0, ih1⟩ := impl_isInitial.mono_l k
  refine ⟨?_, ?_⟩
  ·intro y0 y1 y2 y3 y4
   unfold impl_isInitial.l0
   repeat' first
   | (with_reducible exact ih0 _ _ _ _ _)
   | (with_reducible exact ih1 _ _ _ _ _ _ _ _)
   | (with_reducible exact LeO.refl _)
   | (with_reducible exact LeO.none _)
   | (with_reducible refine LeO.ite ?_ ?_)
   | (with_reducible refine LeO.bind ?_ (fun _ => ?_))
   | exact ih0 _ _ _ _ _
   | exact ih1 _ _ _ _ _ _ _ _
   | exact LeO.none _
   | refine LeO.ite ?_ ?_
   | refine LeO.bind ?_ (fun _ => ?_)
  ·intro y0 y1 y2 y3 y4 y5 y6 y7
   unfold impl_isInitial.l1
   repeat' first
   | (with_reducible exact ih0 _ _ _ _ _)
   | (with_reducible exact ih1 _ _ _ _ _ _ _ _)
   | (with_reducible exact LeO.refl _)
   | (with_reducible exact LeO.none _)
   | (with_reducible refine LeO.ite ?_ ?_)
   | (with_reducible refine LeO.bind ?_ (fun _ => ?_))
   | exact ih0 _ _ _ _ _
   | exact ih1 _ _ _ _ _ _ _ _
   | exact LeO.none _
   | refine LeO.ite ?_ ?_
   | refine LeO.bind ?_ (fun _ => ?_)
theorem impl_isInitial.mono : ∀ a0 a1 a2 k, LeO (impl_isInitial.f k a0 a1 a2) (impl_isInitial.f (k + 1) a0 a1 a2) := by
 intro a0 a1 a2 k
 obtain ⟨ih0, ih1⟩ := impl_isInitial.mono_l k
 unfold impl_isInitial.f
 repeat' first
   | (with_reducible exact ih0 _ _ _ _ _)
   | (with_reducible exact ih1 _ _ _ _ _ _ _ _)
   | (with_reducible exact LeO.refl _)
   | (with_reducible exact LeO.none _)
   | (with_reducible refine LeO.ite ?_ ?_)
   | (with_reducible refine LeO.bind ?_ (fun _ => ?_))
   | exact ih0 _ _ _ _ _
   | exact ih1 _ _ _ _ _ _ _ _
   | exact LeO.none _
   | refine LeO.ite ?_ ?_
   | refine LeO.bind ?_ (fun _ => ?_)
set_option maxHeartbeats 8000000 in
set_option maxRecDepth 100000 in
theorem impl_isInitial.calls (k : Nat) (A0 : Option Addr) (c0 : Nat) (l0 : List (List Bool)) (a1 : Int) (a2 : Int) (r : Bool) (w : World) (hr0 : Kd.C (Kd.slice 4 Kd.bool) w A0 l0.length l0) (hc0 : l0.length ≤ c0) (h : impl_isInitial.f k l0 a1 a2 = some r) :
  Calls Try.prog 65 #[.slice A0 l0.length c0, .int .i64 a1, .int .i64 a2] w fun e w' => e = .returned (.bool r) ∧ Drawn0 w w' := by
 have HR0 := Aside0.mk hr0
 have HC0 := Aside0.mk hc0
 clear hr0 hc0
 have H : (impl_isInitial.l0 k l0 a1 a2 (l0.length : Int) 0) = some r := h
 clear h
 have H' := Aside0.mk H
 clear H
 go_enter Try.func65, Try.ntmps65
 go_wp2
 go_loopg [11] k (fun kq v11 w' => ∃ (x11_1 : Int), v11 = .int .i64 x11_1 ∧ Aside0 (impl_isInitial.l0 kq l0 a1 a2 (l0.length : Int) x11_1 = some r) ∧ Aside0 (kq ≤ k) ∧ Drawn0 w w')
 case atStart => exact ⟨(0), sD, H', ⟨Nat.le_refl _⟩, by repeat (first | exact Drawn0.refl _ | apply Drawn0.step)⟩
 case round =>
  clear H'
  try clear p2
  obtain ⟨x11_1, rfl, HA, HK1, ⟨m1, rfl⟩⟩ := hrel
  cases gk with
  | zero => exact absurd HA.out (by simp [impl_isInitial.l0])
  | succ k1 =>
   have H := HA.out
   clear HA
   simp only [impl_isInitial.l0] at H
   by_cases c4 : x11_1 < (l0.length : Int)
   ·rw [if_pos c4] at H
    have c4b0 : decide (x11_1 < (l0.length : Int)) = true := decide_eq_true c4
    clear c4
    have H' := Aside0.mk H
    clear H
    go_wp2
    go_loopg [16] k1 (fun kq v16 w' => ∃ (x16_2 : Int), v16 = .int .i64 x16_2 ∧ Aside0 (impl_isInitial.l1 kq l0 a1 a2 x11_1 (l0.length : Int) x11_1 (l0.length : Int) x16_2 = some r) ∧ Aside0 (kq ≤ k1) ∧ Drawn0 w w')
    case atStart => exact ⟨(0), sD, H', ⟨Nat.le_refl _⟩, by repeat (first | exact Drawn0.refl _ | apply Drawn0.step)⟩
    case round =>
     clear H'
     try clear p2
     try clear c4
     try clear c4b0
     try clear p2
     obtain ⟨x16_2, rfl, HA, HK2, ⟨m2, rfl⟩⟩ := hrel
     cases gk with
     | zero => exact absurd HA.out (by simp [impl_isInitial.l1])
     | succ k2 =>
      have H := HA.out
      clear HA
      simp only [impl_isInitial.l1] at H
      by_cases c5 : x16_2 < (l0.length : Int)
      ·rw [if_pos c5] at H
       have c5b0 : decide (x16_2 < (l0.length : Int)) = true := decide_eq_true c5
       clear c5
       by_cases c6 : 0 ≤ x11_1; rotate_left
       ·rw [if_neg c6] at H; exact absurd H (by simp)
       rw [if_pos c6] at H
       have c6b0 := eq_true c6
       have c6b1 : decide (0 ≤ x11_1) = true := decide_eq_true c6
       clear c6
       obtain ⟨ji7, hji7⟩ : ∃ j_ : Int, (shr .i64 a1 x11_1) = j_ := ⟨_, rfl⟩
       replace H : (if (Go.bits .and .i64 (ji7) 1) = 1 then (if 0 ≤ x16_2 then (if (Go.bits .and .i64 (shr .i64 a2 x16_2) 1) = 1 then (if x16_2 < (l0.length : Int) then (if x11_1 < ((rd_L5 l0 x16_2).length : Int) then (if rdOf false (rd_L5 l0 x16_2) x11_1 = true then (if (Go.bits .and .i64 (shr .i64 a1 x16_2) 1) = 0 then (some false) else (impl_isInitial.l1 k2 l0 a1 a2 x11_1 (l0.length : Int) x11_1 (l0.length : Int) (wrap64 (x16_2 + 1)))) else (impl_isInitial.l1 k2 l0 a1 a2 x11_1 (l0.length : Int) x11_1 (l0.length : Int) (wrap64 (x16_2 + 1)))) else (none)) else (none)) else (impl_isInitial.l1 k2 l0 a1 a2 x11_1 (l0.length : Int) x11_1 (l0.length : Int) (wrap64 (x16_2 + 1)))) else (none)) else (impl_isInitial.l1 k2 l0 a1 a2 x11_1 (l0.length : Int) x11_1 (l0.length : Int) (wrap64 (x16_2 + 1)))) = some r := by first | (rw [hji7] at H; exact H) | (simp only [hji7] at H ⊢; exact H)
       have hji7_ : (a1 / 2 ^ min x11_1.toNat 64) = ji7 := hji7
       have hji7z : x11_1 ≤ 64 → (a1 / 2 ^ x11_1.toNat) = ji7 := shr_small hji7
       by_cases c8 : (Go.bits .and .i64 (ji7) 1) = 1
       ·rw [if_pos c8] at H
        have c8b0 : ((Go.bits .and .i64 (ji7) 1) == 1) = true := beq_iff_eq.mpr c8
        have c8b1 : ((Go.bits .and .i64 (ji7) 1) != 1) = false := bne_eq_false_iff_eq.mpr c8
        clear c8
        by_cases c9 : 0 ≤ x16_2; rotate_left
        ·rw [if_neg c9] at H; exact absurd H (by simp)
        rw [if_pos c9] at H
        have c9b0 := eq_true c9
        have c9b1 : decide (0 ≤ x16_2) = true := decide_eq_true c9
        clear c9
        obtain ⟨ji10, hji10⟩ : ∃ j_ : Int, (shr .i64 a2 x16_2) = j_ := ⟨_, rfl⟩
        replace H : (if (Go.bits .and .i64 (ji10) 1) = 1 then (if x16_2 < (l0.length : Int) then (if x11_1 < ((rd_L5 l0 x16_2).length : Int) then (if rdOf false (rd_L5 l0 x16_2) x11_1 = true then (if (Go.bits .and .i64 (shr .i64 a1 x16_2) 1) = 0 then (some false) else (impl_isInitial.l1 k2 l0 a1 a2 x11_1 (l0.length : Int) x11_1 (l0.length : Int) (wrap64 (x16_2 + 1)))) else (impl_isInitial.l1 k2 l0 a1 a2 x11_1 (l0.length : Int) x11_1 (l0.length : Int) (wrap64 (x16_2 + 1)))) else (none)) else (none)) else (impl_isInitial.l1 k2 l0 a1 a2 x11_1 (l0.length : Int) x11_1 (l0.length : Int) (wrap64 (x16_2 + 1)))) = some r := by first | (rw [hji10] at H; exact H) | (simp only [hji10] at H ⊢; exact H)
        have hji10_ : (a2 / 2 ^ min x16_2.toNat 64) = ji10 := hji10
        have hji10z : x16_2 ≤ 64 → (a2 / 2 ^ x16_2.toNat) = ji10 := shr_small hji10
        by_cases c11 : (Go.bits .and .i64 (ji10) 1) = 1
        ·rw [if_pos c11] at H
         have c11b0 : ((Go.bits .and .i64 (ji10) 1) == 1) = true := beq_iff_eq.mpr c11
         have c11b1 : ((Go.bits .and .i64 (ji10) 1) != 1) = false := bne_eq_false_iff_eq.mpr c11
         clear c11
         by_cases c12 : x16_2 < (l0.length : Int); rotate_left
         ·rw [if_neg c12] at H; exact absurd H (by simp)
         rw [if_pos c12] at H
         have c12b0 : decide (x16_2 < (l0.length : Int)) = true := decide_eq_true c12
         clear c12
         by_cases c13 : x11_1 < ((rd_L5 l0 x16_2).length : Int); rotate_left
         ·rw [if_neg c13] at H; exact absurd H (by simp)
         rw [if_pos c13] at H
         have c13b0 : decide (x11_1 < ((rd_L5 l0 x16_2).length : Int)) = true := decide_eq_true c13
         clear c13
         obtain ⟨bq14, hbq14⟩ : ∃ b_ : Bool, b_ = (rdOf false (rd_L5 l0 x16_2) x11_1) := ⟨_, rfl⟩
         replace H : (if bq14 = true then (if (Go.bits .and .i64 (shr .i64 a1 x16_2) 1) = 0 then (some false) else (impl_isInitial.l1 k2 l0 a1 a2 x11_1 (l0.length : Int) x11_1 (l0.length : Int) (wrap64 (x16_2 + 1)))) else (impl_isInitial.l1 k2 l0 a1 a2 x11_1 (l0.length : Int) x11_1 (l0.length : Int) (wrap64 (x16_2 + 1)))) = some r := by rw [← hbq14] at H; exact H
         have Nbq14 := Aside0.mk hbq14
         clear hbq14
         by_cases c15 : bq14 = true
         ·subst c15
          have H1 : (if (Go.bits .and .i64 (shr .i64 a1 x16_2) 1) = 0 then (some false) else (impl_isInitial.l1 k2 l0 a1 a2 x11_1 (l0.length : Int) x11_1 (l0.length : Int) (wrap64 (x16_2 + 1)))) = some r := by rw [if_pos rfl] at H; exact H
          clear H
          have H := H1
          clear H1
          have c16b0 := eq_true (oD : 0 ≤ x16_2)
          obtain ⟨ji17, hji17⟩ : ∃ j_ : Int, (shr .i64 a1 x16_2) = j_ := ⟨_, rfl⟩
          replace H : (if (Go.bits .and .i64 (ji17) 1) = 0 then (some false) else (impl_isInitial.l1 k2 l0 a1 a2 x11_1 (l0.length : Int) x11_1 (l0.length : Int) (wrap64 (x16_2 + 1)))) = some r := by first | (rw [hji17] at H; exact H) | (simp only [hji17] at H ⊢; exact H)
          have hji17_ : (a1 / 2 ^ min x16_2.toNat 64) = ji17 := hji17
          have hji17z : x16_2 ≤ 64 → (a1 / 2 ^ x16_2.toNat) = ji17 := shr_small hji17
          by_cases c18 : (Go.bits .and .i64 (ji17) 1) = 0
          ·rw [if_pos c18] at H
           have c18b0 : ((Go.bits .and .i64 (ji17) 1) == 0) = true := beq_iff_eq.mpr c18
           have c18b1 : ((Go.bits .and .i64 (ji17) 1) != 0) = false := bne_eq_false_iff_eq.mpr c18
           clear c18
           obtain rfl := Option.some.inj H
           have p299 : 0 ≤ (x16_2 : Int) := oD
           have q299 : x16_2 < (l0.length : Int) := oD
           obtain ⟨ad299, A299_0, c299_0, e299, hx299_0, hl299_0, hi299_0⟩ := at_L5 HR0.out x16_2 p299 q299
           cases e299
           have HR299_0 := Aside0.mk hi299_0
           have HC299_0 := Aside0.mk hl299_0
           clear hi299_0 hl299_0
           replace p299 := eq_true p299
           replace q299 := eq_true q299
           have p300 : 0 ≤ (x11_1 : Int) := oD
           have q300 : x11_1 < ((rd_L5 l0 x16_2).length : Int) := oD
           obtain ⟨ad300, e300, hx300_0⟩ := Kd.at_bool HR299_0.out x11_1 p300 q300
           (try rw [← Nbq14.out] at hx300_0)
           cases e300
           replace p300 := eq_true p300
           replace q300 := eq_true q300
           go_wp2
           go_ret
           exact ⟨by first | rfl | (simp; done) | (simp only [← hji7, ← hji10, ← hji17] <;> (first | rfl | simp)) | (simp [*]; done), by repeat (first | exact Drawn0.refl _ | apply Drawn0.step)⟩
          ·rw [if_neg c18] at H
           have c18b0 : ((Go.bits .and .i64 (ji17) 1) == 0) = false := beq_eq_false_iff_ne.mpr c18
           have c18b1 : ((Go.bits .and .i64 (ji17) 1) != 0) = true := bne_iff_ne.mpr c18
           have H' := Aside0.mk H
           clear H
           have p299 : 0 ≤ (x16_2 : Int) := oD
           have q299 : x16_2 < (l0.length : Int) := oD
           obtain ⟨ad299, A299_0, c299_0, e299, hx299_0, hl299_0, hi299_0⟩ := at_L5 HR0.out x16_2 p299 q299
           cases e299
           have HR299_0 := Aside0.mk hi299_0
           have HC299_0 := Aside0.mk hl299_0
           clear hi299_0 hl299_0
           replace p299 := eq_true p299
           replace q299 := eq_true q299
           have p300 : 0 ≤ (x11_1 : Int) := oD
           have q300 : x11_1 < ((rd_L5 l0 x16_2).length : Int) := oD
           obtain ⟨ad300, e300, hx300_0⟩ := Kd.at_bool HR299_0.out x11_1 p300 q300
           (try rw [← Nbq14.out] at hx300_0)
           cases e300
           replace p300 := eq_true p300
           replace q300 := eq_true q300
           go_wp2
           go_roundg k2
           case measure => have := HK1.out; have := HK2.out; omega
           case rel => exact ⟨(wrap64 (x16_2 + 1)), sD, H', ⟨by have := HK1.out; have := HK2.out; omega⟩, by repeat (first | exact Drawn0.refl _ | apply Drawn0.step)⟩
         ·replace c15 := Bool.eq_false_iff.mpr c15
          subst c15
          have H1 : (impl_isInitial.l1 k2 l0 a1 a2 x11_1 (l0.length : Int) x11_1 (l0.length : Int) (wrap64 (x16_2 + 1))) = some r := by rw [if_neg (show ¬ (false = true) by decide)] at H; exact H
          clear H
          have H := H1
          clear H1
          have H' := Aside0.mk H
          clear H
          have p299 : 0 ≤ (x16_2 : Int) := oD
          have q299 : x16_2 < (l0.length : Int) := oD
          obtain ⟨ad299, A299_0, c299_0, e299, hx299_0, hl299_0, hi299_0⟩ := at_L5 HR0.out x16_2 p299 q299
          cases e299
          have HR299_0 := Aside0.mk hi299_0
          have HC299_0 := Aside0.mk hl299_0
          clear hi299_0 hl299_0
          replace p299 := eq_true p299
          replace q299 := eq_true q299
          have p300 : 0 ≤ (x11_1 : Int) := oD
          have q300 : x11_1 < ((rd_L5 l0 x16_2).length : Int) := oD
          obtain ⟨ad300, e300, hx300_0⟩ := Kd.at_bool HR299_0.out x11_1 p300 q300
          (try rw [← Nbq14.out] at hx300_0)
          cases e300
          replace p300 := eq_true p300
          replace q300 := eq_true q300
          go_wp2
          go_roundg k2
          case measure => have := HK1.out; have := HK2.out; omega
          case rel => exact ⟨(wrap64 (x16_2 + 1)), sD, H', ⟨by have := HK1.out; have := HK2.out; omega⟩, by repeat (first | exact Drawn0.refl _ | apply Drawn0.step)⟩
        ·rw [if_neg c11] at H
         have c11b0 : ((Go.bits .and .i64 (ji10) 1) == 1) = false := beq_eq_false_iff_ne.mpr c11
         have c11b1 : ((Go.bits .and .i64 (ji10) 1) != 1) = true := bne_iff_ne.mpr c11
         have H' := Aside0.mk H
         clear H
         go_wp2
         go_roundg k2
         case measure => have := HK1.out; have := HK2.out; omega
         case rel => exact ⟨(wrap64 (x16_2 + 1)), sD, H', ⟨by have := HK1.out; have := HK2.out; omega⟩, by repeat (first | exact Drawn0.refl _ | apply Drawn0.step)⟩
       ·rw [if_neg c8] at H
        have c8b0 : ((Go.bits .and .i64 (ji7) 1) == 1) = false := beq_eq_false_iff_ne.mpr c8
        have c8b1 : ((Go.bits .and .i64 (ji7) 1) != 1) = true := bne_iff_ne.mpr c8
        have H' := Aside0.mk H
        clear H
        go_wp2
        go_roundg k2
        case measure => have := HK1.out; have := HK2.out; omega
        case rel => exact ⟨(wrap64 (x16_2 + 1)), sD, H', ⟨by have := HK1.out; have := HK2.out; omega⟩, by repeat (first | exact Drawn0.refl _ | apply Drawn0.step)⟩
      ·rw [if_neg c5] at H
       have c5b0 : decide (x16_2 < (l0.length : Int)) = false := decide_eq_false c5
       clear c5
       have H' := Aside0.mk H
       clear H
       go_wp2
       go_roundg k2
       case measure => have := HK1.out; have := HK2.out; omega
       case rel => exact ⟨(wrap64 (x11_1 + 1)), sD, H', ⟨by have := HK1.out; have := HK2.out; omega⟩, by repeat (first | exact Drawn0.refl _ | apply Drawn0.step)⟩
   ·rw [if_neg c4] at H
    have c4b0 : decide (x11_1 < (l0.length : Int)) = false := decide_eq_false c4
    clear c4
    obtain rfl := Option.some.inj H
    go_wp2
    go_ret
    exact ⟨by first | rfl | (simp; done) | (simp [*]; done), by repeat (first | exact Drawn0.refl _ | apply Drawn0.step)⟩

/-! ### impl_listOf: function 66 -/
def impl_listOf.l0 : Nat → Int → List Int → Int → Option (List Int)
 | 0, _, _, _ => none
 | k + 1, x0, x3, x4 => if 0 ≤ x4 then (if (shr .i64 x0 x4) > 0 then (if (Go.bits .and .i64 (shr .i64 x0 x4) 1) = 1 then (if x3.length < 17592186044416 then (impl_listOf.l0 k x0 (x3 ++ [x4]) (wrap64 (x4 + 1))) else (none)) else (impl_listOf.l0 k x0 x3 (wrap64 (x4 + 1)))) else (some x3)) else (none)
def impl_listOf.f (k : Nat) (a0 : Int) : Option (List Int) := impl_listOf.l0 k a0 ([] : List Int) 0
theorem impl_listOf.mono_l : ∀ k, (∀ y0 y1 y2, LeO (impl_listOf.l0 k y0 y1 y2) (impl_listOf.l0 (k + 1) y0 y1 y2))
 | 0 => fun _ _ _ r h => by simp [impl_listOf.l0] at h
 | k + 1 => by
  have ih0 := impl_listOf.mono_l k
  ·intro y0 y1 y2
   unfold impl_listOf.l0
   repeat' first
   | (with_reducible exact ih0 _ _ _)
   | (with_reducible exact LeO.refl _)
   | (with_reducible exact LeO.none _)
   | (with_reducible refine LeO.ite ?_ ?_)
   | (with_reducible refine LeO.bind ?_ (fun _ => ?_))
   | exact ih0 _ _ _
   | exact LeO.none _
   | refine LeO.ite ?_ ?_
   | refine LeO.bind ?_ (fun _ => ?_)
theorem impl_listOf.mono : ∀ a0 k, LeO (impl_listOf.f k a0) (impl_listOf.f (k + 1) a0) := by
 intro a0 k
 have ih0 := impl_listOf.mono_l k
 unfold impl_listOf.f
 repeat' first
   | (with_reducible exact ih0 _ _ _)
   | (with_reducible exact LeO.refl _)
   | (with_reducible exact LeO.none _)
   | (with_reducible refine LeO.ite ?_ ?_)
   | (with_reducible refine LeO.bind ?_ (fun _ => ?_))
   | exact ih0 _ _ _
   | exact LeO.none _
   | refine LeO.ite ?_ ?_
   | refine LeO.bind ?_ (fun _ => ?_)
set_option maxHeartbeats 8000000 in
set_option maxRecDepth 100000 in
theorem impl_listOf.calls (k : Nat) (a0 : Int) (r : List Int) (w : World) (h : impl_listOf.f k a0 = some r) :
  Calls Try.prog 66 #[.int .i64 a0] w fun e w' => ∃ v0_ : Value, e = .returned (v0_) ∧ Kd.R (Kd.int .i64) 3 w' w.heap.size (fun _ => True) v0_ r ∧ Below w.heap.size w w' := by
 have HB := Aside0.mk (Below.refl w.heap.size w)
 have H : (impl_listOf.l0 k a0 ([] : List Int) 0) = some r := h
 clear h
 have H' := Aside0.mk H
 clear H
 go_enter Try.func66, Try.ntmps66
 go_wp2
 go_loopg [3, 4] k (fun kq v3 v4 w' => ∃ (x3_1 : List Int) (x4_1 : Int), v4 = .int .i64 x4_1 ∧ Aside0 (impl_listOf.l0 kq a0 x3_1 x4_1 = some r) ∧ Aside0 (kq ≤ k) ∧ Aside0 (Kd.R (Kd.int .i64) 3 w' w.heap.size (fun _ => True) v3 x3_1) ∧ Aside0 (Below w.heap.size w w'))
 case atStart => exact ⟨(([] : List Int)), (0), sD, H', ⟨Nat.le_refl _⟩, ⟨by first | exact Kd.R_nil _ _ _ _ _ | exact Kd.N_nil _ _ _ _ _ | exact Kd.V_nil _ _ _ _ _ | exact Kd.Q_nil _ _ _ _ _ | exact Kd.S_nil _ _ _ _ _⟩, ⟨by repeat (first | (with_reducible first | exact HB.out | apply below_alloc | apply pw_below_drewN | apply below_drew1) | exact HB.out)⟩⟩
 case round =>
  clear H'
  obtain ⟨x3_1, x4_1, rfl, HA, HK1, HO_3, HB⟩ := hrel
  cases gk with
  | zero => exact absurd HA.out (by simp [impl_listOf.l0])
  | succ k1 =>
   have H := HA.out
   clear HA
   simp only [impl_listOf.l0] at H
   by_cases c2 : 0 ≤ x4_1; rotate_left
   ·rw [if_neg c2] at H; exact absurd H (by simp)
   rw [if_pos c2] at H
   have c2b0 := eq_true c2
   have c2b1 : decide (0 ≤ x4_1) = true := decide_eq_true c2
   clear c2
   obtain ⟨ji3, hji3⟩ : ∃ j_ : Int, (shr .i64 a0 x4_1) = j_ := ⟨_, rfl⟩
   replace H : (if (ji3) > 0 then (if (Go.bits .and .i64 (ji3) 1) = 1 then (if x3_1.length < 17592186044416 then (impl_listOf.l0 k1 a0 (x3_1 ++ [x4_1]) (wrap64 (x4_1 + 1))) else (none)) else (impl_listOf.l0 k1 a0 x3_1 (wrap64 (x4_1 + 1)))) else (some x3_1)) = some r := by first | (rw [hji3] at H; exact H) | (simp only [hji3] at H ⊢; exact H)
   have hji3_ : (a0 / 2 ^ min x4_1.toNat 64) = ji3 := hji3
   have hji3z : x4_1 ≤ 64 → (a0 / 2 ^ x4_1.toNat) = ji3 := shr_small hji3
   by_cases c4 : (ji3) > 0
   ·rw [if_pos c4] at H
    have c4b0 : decide (0 < (ji3)) = true := decide_eq_true c4
    clear c4
    have c5b0 := eq_true (oD : 0 ≤ x4_1)
    by_cases c6 : (Go.bits .and .i64 (ji3) 1) = 1
    ·rw [if_pos c6] at H
     have c6b0 : ((Go.bits .and .i64 (ji3) 1) == 1) = true := beq_iff_eq.mpr c6
     have c6b1 : ((Go.bits .and .i64 (ji3) 1) != 1) = false := bne_eq_false_iff_eq.mpr c6
     clear c6
     by_cases c7 : x3_1.length < 17592186044416; rotate_left
     ·rw [if_neg c7] at H; exact absurd H (by simp)
     rw [if_pos c7] at H
     have LMc7 := Aside0.mk c7
     clear c7
     obtain ⟨y301, hy301⟩ : ∃ y_ : List Int, y_ = (x3_1 ++ [x4_1]) := ⟨_, rfl⟩
     replace H : (impl_listOf.l0 k1 a0 y301 (wrap64 (x4_1 + 1))) = some r := by first | (rw [hy301]; with_reducible exact H) | (have H2_ := (Option.bind_some _ _).symm.trans H; rw [hy301]; with_reducible exact H2_) | (have H2_ := (Option.bind_some _ _).symm.trans H; with_reducible exact H2_) | with_reducible exact H | (rw [hy301]; exact H) | exact H
     have Ny301 := Aside0.mk hy301
     clear hy301
     have H' := Aside0.mk H
     clear H
     go_wp2_with (first | ((with_reducible refine gate_builtin (b := .append) (xs := #[.tmp 16, .tmp 18]) rfl ?_); at_builtin; refine Kd.R_append (Kd.int .i64) (w0 := w) w.heap.size rfl (.tmp 16) (.tmp 18) 38 3 (.int .i64 0) 8 rfl Try.underlying38 info3 rfl (by decide) (by omega) u3 x3_1 x4_1 [.int .i64 x4_1] (fun _ => True) (fun _ => False) rfl rfl ?aP (fun _ hk => hk.elim) ?aF ?aO ?aB ?aS ?aL ?_; (case aP => exact rfl); (case aB => exact bB); (case aF => exact (fun _ _ => trivial)); (case aO => exact (by (with_reducible repeat (first | apply Kd.R_alloc | apply Kd.R_drewN | apply Kd.R_drew)); exact HO_3.out)); (case aS => exact (below_size bB)); (case aL => have := LMc7.out; omega); intro v302 w8 ho hb hg hat; rw [← Ny301.out] at ho; have n0_ := Aside0.mk (hb); have n1_ := Aside0.mk (ho); clear HB; clear HO_3; have HB := n0_; have HO303 := n1_; clear n0_ n1_; clear ho hb hg hat))
     go_roundg k1
     case measure => have := HK1.out; omega
     case rel => exact ⟨(y301), (wrap64 (x4_1 + 1)), sD, H', ⟨by have := HK1.out; omega⟩, ⟨kR⟩, ⟨by repeat (first | (with_reducible first | exact HB.out | apply below_alloc | apply pw_below_drewN | apply below_drew1) | exact HB.out)⟩⟩
    ·rw [if_neg c6] at H
     have c6b0 : ((Go.bits .and .i64 (ji3) 1) == 1) = false := beq_eq_false_iff_ne.mpr c6
     have c6b1 : ((Go.bits .and .i64 (ji3) 1) != 1) = true := bne_iff_ne.mpr c6
     have H' := Aside0.mk H
     clear H
     go_wp2
     go_roundg k1
     case measure => have := HK1.out; omega
     case rel => exact ⟨(x3_1), (wrap64 (x4_1 + 1)), sD, H', ⟨by have := HK1.out; omega⟩, ⟨kR⟩, ⟨by repeat (first | (with_reducible first | exact HB.out | apply below_alloc | apply pw_below_drewN | apply below_drew1) | exact HB.out)⟩⟩
   ·rw [if_neg c4] at H
    have c4b0 : decide (0 < (ji3)) = false := decide_eq_false c4
    clear c4
    obtain rfl := Option.some.inj H
    go_wp2
    go_ret
    exact ⟨_, by first | rfl | (simp [errW_none, errW_some] <;> rfl) | (simp only [← hji3]; first | rfl | (simp [errW_none, errW_some] <;> rfl)) | (simp [*, errW_none, errW_some] <;> rfl), by (with_reducible repeat (first | apply Kd.R_alloc | apply Kd.R_drewN | apply Kd.R_drew)); exact HO_3.out, bB⟩

/-! ### impl_compareRatios: function 67 -/
def impl_compareRatios.f (a0_0 : Int) (a0_1 : Int) (a1_0 : Int) (a1_1 : Int) : Option (Int) := some (wrap64 ((wrap64 (a0_0 * a1_1)) - (wrap64 (a1_0 * a0_1))))
set_option maxHeartbeats 8000000 in
set_option maxRecDepth 100000 in
theorem impl_compareRatios.calls (a0_0 : Int) (a0_1 : Int) (a1_0 : Int) (a1_1 : Int) (r : Int) (w : World) (h : impl_compareRatios.f a0_0 a0_1 a1_0 a1_1 = some r) :
  Calls Try.prog 67 #[.agg #[.int .i64 a0_0, .int .i64 a0_1], .agg #[.int .i64 a1_0, .int .i64 a1_1]] w fun e w' => e = .returned (.int .i64 r) ∧ Below w.heap.size w w' := by
 have hu53 := Try.underlying53
 have HB := Aside0.mk (Below.refl w.heap.size w)
 have H : (some (wrap64 ((wrap64 (a0_0 * a1_1)) - (wrap64 (a1_0 * a0_1))))) = some r := h
 clear h
 obtain rfl := Option.some.inj H
 go_enter Try.func67, Try.ntmps67
 go_wp2_with (first | ((with_reducible refine gate_dst (N := 2) rfl ?_); refine bE 2 #[.int .i64 a0_0, .int .i64 a0_1] 53 ?_; intro gb304 hg w3 hbox hb; have n0_ := Aside0.mk (below_step bB hb); have n1_ := Aside0.mk (hbox); have n2_ := Aside0.mk ((by rw [hg]; exact (below_size bB) : w.heap.size ≤ gb304)); have n3_ := Aside0.mk ((by rw [hg]; exact (below_size bB) : w.heap.size ≤ gb304)); clear HB; have HB := n0_; have BK304 := n1_; have GW304 := n2_; have GE304 := n3_; clear n0_ n1_ n2_ n3_; clear hb hbox hg) | ((with_reducible refine gate_dst (N := 3) rfl ?_); refine bE 3 #[.int .i64 a1_0, .int .i64 a1_1] 53 ?_; intro gb305 hg w4 hbox hb; have n0_ := Aside0.mk (blk_below (g := gb304) (o := .cells #[.int .i64 a0_0, .int .i64 a0_1] 53 (0, 0)) kB hb); have n1_ := Aside0.mk (below_step bS hb); have n2_ := Aside0.mk (hbox); have n3_ := Aside0.mk ((by rw [hg]; exact (below_size bS) : w.heap.size ≤ gb305)); have n4_ := Aside0.mk ((by rw [hg]; exact (below_size bS) : w.heap.size ≤ gb305)); have n5_ := Aside0.mk ((by rw [hg]; exact Nat.ne_of_lt (blk_lt (g := gb304) (o := .cells #[.int .i64 a0_0, .int .i64 a0_1] 53 (0, 0)) kB) : gb304 ≠ gb305)); have n6_ := Aside0.mk ((by rw [hg]; exact Nat.ne_of_gt (blk_lt (g := gb304) (o := .cells #[.int .i64 a0_0, .int .i64 a0_1] 53 (0, 0)) kB) : gb305 ≠ gb304)); clear BK304; clear HB; have BK304 := n0_; have HB := n1_; have BK305 := n2_; have GW305 := n3_; have GE305 := n4_; have NB304_305 := n5_; have NB305_304 := n6_; clear n0_ n1_ n2_ n3_ n4_ n5_ n6_; clear hb hbox hg; have hnb5 := NB304_305.out; have hnc5 := NB305_304.out; have hcz6_0 := (blk_cell BK304.out 0).trans (show _ = some ((.int .i64 a0_0) : Value) from rfl); have hcz6_1 := (blk_cell BK304.out 1).trans (show _ = some ((.int .i64 a0_1) : Value) from rfl); have hfz6_0 := blk_frozen BK304.out 0; have hfz6_1 := blk_frozen BK304.out 1; have hcz7_0 := (blk_cell BK305.out 0).trans (show _ = some ((.int .i64 a1_0) : Value) from rfl); have hcz7_1 := (blk_cell BK305.out 1).trans (show _ = some ((.int .i64 a1_1) : Value) from rfl); have hfz7_0 := blk_frozen BK305.out 0; have hfz7_1 := blk_frozen BK305.out 1))
 go_ret
 exact ⟨rE, bS⟩

/-! ### impl_ratioOf: function 68 -/
def impl_ratioOf.l0 : Nat → List (S50) → List Int → Int → Int → Int → Int → Option (Int × Int)
 | 0, _, _, _, _, _, _ => none
 | k + 1, x0, x8, x9, x10, x308000, x308001 => if x10 < x9 then (if 0 ≤ x10 then (if x10 < (x8.length : Int) then (if 0 ≤ (rd x8 x10) then (if (rd x8 x10) < (x0.length : Int) then (impl_ratioOf.l0 k x0 x8 x9 (wrap64 (x10 + 1)) (wrap64 (x308000 + ((rd_T50 x0 (rd x8 x10)).f1))) (wrap64 (x308001 + ((rd_T50 x0 (rd x8 x10)).f0)))) else (none)) else (none)) else (none)) else (none)) else (some (x308000, x308001))
def impl_ratioOf.f (k : Nat) (l0 : List (S50)) (l1 : List Int) : Option (Int × Int) := impl_ratioOf.l0 k l0 l1 (l1.length : Int) 0 0 0
theorem impl_ratioOf.mono_l : ∀ k, (∀ y0 y1 y2 y3 y4 y5, LeO (impl_ratioOf.l0 k y0 y1 y2 y3 y4 y5) (impl_ratioOf.l0 (k + 1) y0 y1 y2 y3 y4 y5))
 | 0 => fun _ _ _ _ _ _ r h => by simp [impl_ratioOf.l0] at h
 | k + 1 => by
  have ih0 := impl_ratioOf.mono_l k
  ·intro y0 y1 y2 y3 y4 y5
   unfold impl_ratioOf.l0
   repeat' first
   | (with_reducible exact ih0 _ _ _ _ _ _)
   | (with_reducible exact LeO.refl _)
   | (with_reducible exact LeO.none _)
   | (with_reducible refine LeO.ite ?_ ?_)
   | (with_reducible refine LeO.bind ?_ (fun _ => ?_))
   | exact ih0 _ _ _ _ _ _
   | exact LeO.none _
   | refine LeO.ite ?_ ?_
   | refine LeO.bind ?_ (fun _ => ?_)
theorem impl_ratioOf.mono : ∀ a0 a1 k, LeO (impl_ratioOf.f k a0 a1) (impl_ratioOf.f (k + 1) a0 a1) := by
 intro a0 a1 k
 have ih0 := impl_ratioOf.mono_l k
 unfold impl_ratioOf.f
 repeat' first
   | (with_reducible exact ih0 _ _ _ _ _ _)
   | (with_reducible exact LeO.refl _)
   | (with_reducible exact LeO.none _)
   | (with_reducible refine LeO.ite ?_ ?_)
   | (with_reducible refine LeO.bind ?_ (fun _ => ?_))
   | exact ih0 _ _ _ _ _ _
   | exact LeO.none _
   | refine LeO.ite ?_ ?_
   | refine LeO.bind ?_ (fun _ => ?_)
def impl_ratioOf.T5 : Bool × List (List Nat × List Nat) := (true, [([], []), ([0], [0]), ([], []), ([], []), ([2, 3], [2, 3]), ([4], [4]), ([5], [5]), ([1, 6], [1, 6]), ([0, 1, 2, 3, 4, 5, 6, 7], []), ([8, 7, 0, 1, 2, 3, 4, 5, 6, 7], [7, 8])])
def impl_ratioOf.B5 : List Nat := [0, 1, 0, 0, 12, 28, 60, 127, 255, 511]
theorem impl_ratioOf.tab5 : rtab .any (opsOf Try.f68 5) = impl_ratioOf.T5 := by kernel_rfl
theorem impl_ratioOf.bits5 : waitsOk impl_ratioOf.T5.2 impl_ratioOf.B5 = true := by kernel_rfl
def impl_ratioOf.T6 : Bool × List (List Nat × List Nat) := (true, [([], []), ([0], [0]), ([], []), ([], []), ([2, 3], [2, 3]), ([4], [4]), ([5], [5]), ([1, 6], [1, 6]), ([0, 1, 2, 3, 4, 5, 6, 7], []), ([8, 7, 0, 1, 2, 3, 4, 5, 6, 7], [7, 8])])
def impl_ratioOf.B6 : List Nat := [0, 1, 0, 0, 12, 28, 60, 127, 255, 511]
theorem impl_ratioOf.tab6 : rtab .any (opsOf Try.f68 6) = impl_ratioOf.T6 := by kernel_rfl
theorem impl_ratioOf.bits6 : waitsOk impl_ratioOf.T6.2 impl_ratioOf.B6 = true := by kernel_rfl
set_option maxHeartbeats 8000000 in
set_option maxRecDepth 100000 in
theorem impl_ratioOf.calls (k : Nat) (A0 : Option Addr) (c0 : Nat) (l0 : List (S50)) (A1 : Option Addr) (c1 : Nat) (l1 : List Int) (r1 : Int) (r2 : Int) (w : World) (hr0 : Kd.C k50 w A0 l0.length l0) (hc0 : l0.length ≤ c0) (hr1 : Kd.C (Kd.int .i64) w A1 l1.length l1) (hc1 : l1.length ≤ c1) (h : impl_ratioOf.f k l0 l1 = some (r1, r2)) :
  Calls Try.prog 68 #[.slice A0 l0.length c0, .slice A1 l1.length c1] w fun e w' => e = .returned (.agg #[.int .i64 r1, .int .i64 r2]) ∧ Below w.heap.size w w' := by
 have hu53 := Try.underlying53
 have HR0 := Aside0.mk hr0
 have HC0 := Aside0.mk hc0
 clear hr0 hc0
 have HR1 := Aside0.mk hr1
 have HC1 := Aside0.mk hc1
 clear hr1 hc1
 have HB := Aside0.mk (Below.refl w.heap.size w)
 have H : (impl_ratioOf.l0 k l0 l1 (l1.length : Int) 0 0 0) = some (r1, r2) := h
 clear h
 have H' := Aside0.mk H
 clear H
 go_enter Try.func68, Try.ntmps68
 go_wp2_with (first | ((with_reducible refine gate_dst (N := 4) rfl ?_); refine bE 4 #[.int .i64 0, .int .i64 0] 53 ?_; intro gb306 hg w3 hbox hb; have n0_ := Aside0.mk (below_step bB hb); have n1_ := Aside0.mk (hbox); have n2_ := Aside0.mk ((by rw [hg]; exact (below_size bB) : w.heap.size ≤ gb306)); have n3_ := Aside0.mk ((by rw [hg]; exact (below_size bB) : w.heap.size ≤ gb306)); clear HB; have HB := n0_; have BK306 := n1_; have GW306 := n2_; have GE306 := n3_; clear n0_ n1_ n2_ n3_; clear hb hbox hg) | ((with_reducible refine gate_dst (N := 5) rfl ?_); refine bE 5 #[.int .i64 0, .int .i64 0] 53 ?_; intro gb307 hg w4 hbox hb; have n0_ := Aside0.mk (blk_below (g := gb306) (o := .cells #[.int .i64 0, .int .i64 0] 53 (0, 0)) kB hb); have n1_ := Aside0.mk (below_step bS hb); have n2_ := Aside0.mk (hbox); have n3_ := Aside0.mk ((by rw [hg]; exact (below_size bS) : w.heap.size ≤ gb307)); have n4_ := Aside0.mk ((by rw [hg]; exact (below_size bS) : w.heap.size ≤ gb307)); have n5_ := Aside0.mk ((by rw [hg]; exact Nat.ne_of_lt (blk_lt (g := gb306) (o := .cells #[.int .i64 0, .int .i64 0] 53 (0, 0)) kB) : gb306 ≠ gb307)); have n6_ := Aside0.mk ((by rw [hg]; exact Nat.ne_of_gt (blk_lt (g := gb306) (o := .cells #[.int .i64 0, .int .i64 0] 53 (0, 0)) kB) : gb307 ≠ gb306)); clear BK306; clear HB; have BK306 := n0_; have HB := n1_; have BK307 := n2_; have GW307 := n3_; have GE307 := n4_; have NB306_307 := n5_; have NB307_306 := n6_; clear n0_ n1_ n2_ n3_ n4_ n5_ n6_; clear hb hbox hg))
 go_loopg [10] k (fun kq v10 w' => ∃ (x10_1 : Int) (x308000_1 : Int) (x308001_1 : Int), v10 = .int .i64 x10_1 ∧ Aside0 (impl_ratioOf.l0 kq l0 l1 (l1.length : Int) x10_1 x308000_1 x308001_1 = some (r1, r2)) ∧ Aside0 (kq ≤ k) ∧ Aside0 (w'.heap[gb306]? = some (.cells #[.int .i64 0, .int .i64 0] 53 (0, 0))) ∧ Aside0 (w'.heap[gb307]? = some (.cells #[.int .i64 x308000_1, .int .i64 x308001_1] 53 (0, 0))) ∧ Aside0 (Below w.heap.size w w'))
 case atStart => exact ⟨(0), (0), (0), sD, H', ⟨Nat.le_refl _⟩, ⟨kB⟩, ⟨kB⟩, ⟨by repeat (first | (with_reducible first | exact HB.out | apply below_alloc | apply pw_below_drewN | apply below_drew1 | refine below_set ?_ GE306.out | refine below_set ?_ GE307.out) | exact HB.out)⟩⟩
 case round =>
  clear H'
  try clear c1
  try clear p2
  obtain ⟨x10_1, x308000_1, x308001_1, rfl, HA, HK1, BK306, BK307, HB⟩ := hrel
  cases gk with
  | zero => exact absurd HA.out (by simp [impl_ratioOf.l0])
  | succ k1 =>
   have H := HA.out
   clear HA
   simp only [impl_ratioOf.l0] at H
   by_cases c5 : x10_1 < (l1.length : Int)
   ·rw [if_pos c5] at H
    have c5b0 : decide (x10_1 < (l1.length : Int)) = true := decide_eq_true c5
    clear c5
    by_cases c6 : 0 ≤ x10_1; rotate_left
    ·rw [if_neg c6] at H; exact absurd H (by simp)
    rw [if_pos c6] at H
    have c6b0 : decide (0 ≤ x10_1) = true := decide_eq_true c6
    clear c6
    by_cases c7 : x10_1 < (l1.length : Int); rotate_left
    ·rw [if_neg c7] at H; exact absurd H (by simp)
    rw [if_pos c7] at H
    have c7b0 : decide (x10_1 < (l1.length : Int)) = true := decide_eq_true c7
    clear c7
    by_cases c8 : 0 ≤ (rd l1 x10_1); rotate_left
    ·rw [if_neg c8] at H; exact absurd H (by simp)
    rw [if_pos c8] at H
    have c8b0 : decide (0 ≤ (rd l1 x10_1)) = true := decide_eq_true c8
    clear c8
    by_cases c9 : (rd l1 x10_1) < (l0.length : Int); rotate_left
    ·rw [if_neg c9] at H; exact absurd H (by simp)
    rw [if_pos c9] at H
    have c9b0 : decide ((rd l1 x10_1) < (l0.length : Int)) = true := decide_eq_true c9
    clear c9
    have H' := Aside0.mk H
    clear H
    have p308 : 0 ≤ (x10_1 : Int) := oD
    have q308 : x10_1 < (l1.length : Int) := oD
    obtain ⟨ad308, e308, hx308_0⟩ := Kd.at_int HR1.out x10_1 p308 q308
    cases e308
    replace hx308_0 := (cB HB.out hx308_0 :)
    replace p308 := eq_true p308
    replace q308 := eq_true q308
    try go_wp2
    have n0_ := Aside0.mk (blk_drew BK306.out)
    have n1_ := Aside0.mk (blk_drew BK307.out)
    have n2_ := Aside0.mk (below_drew1 HB.out)
    clear BK306
    clear BK307
    clear HB
    have BK306 := n0_
    have BK307 := n1_
    have HB := n2_
    clear n0_ n1_ n2_
    have p309 : 0 ≤ ((rd l1 x10_1) : Int) := oD
    have q309 : (rd l1 x10_1) < (l0.length : Int) := oD
    obtain ⟨ad309, e309, hx309_0, hx309_1, hx309_2, hx309_3⟩ := at_T50 HR0.out (rd l1 x10_1) p309 q309
    have hw309_3 := hx309_3
    have hw309_2 := hx309_2
    have hw309_1 := hx309_1
    have hw309_0 := hx309_0
    cases e309
    replace hx309_0 := (cB HB.out hx309_0 :)
    replace hx309_1 := (cB HB.out hx309_1 :)
    replace hx309_2 := (cB HB.out hx309_2 :)
    replace hx309_3 := (cB HB.out hx309_3 :)
    replace p309 := eq_true p309
    replace q309 := eq_true q309
    refine start_ (n := 10) (S := fun w' => w'.cell? ⟨gb307, 0, none⟩ = some (.int .i64 x308000_1) ∧ w'.cell? ⟨gb307, 1, none⟩ = some (.int .i64 x308001_1) ∧ w'.cell? (ad309.add (((rd l1 x10_1)).toNat * 4)) = some (.int .i64 ((rd_T50 l0 (rd l1 x10_1)).f0)) ∧ w'.cell? ⟨(ad309.add (((rd l1 x10_1)).toNat * 4)).block, (ad309.add (((rd l1 x10_1)).toNat * 4)).off + 1, none⟩ = some (.int .i64 ((rd_T50 l0 (rd l1 x10_1)).f1)) ∧ w'.cell? ⟨(ad309.add (((rd l1 x10_1)).toNat * 4)).block, (ad309.add (((rd l1 x10_1)).toNat * 4)).off + 2, none⟩ = some (.int .i64 ((rd_T50 l0 (rd l1 x10_1)).f2)) ∧ w'.cell? ⟨(ad309.add (((rd l1 x10_1)).toNat * 4)).block, (ad309.add (((rd l1 x10_1)).toNat * 4)).off + 3, none⟩ = some (.int .i64 ((rd_T50 l0 (rd l1 x10_1)).f3))) (ds := [9]) #[false, false, false, false, false, false, false, false, false, false] (by kernel_rfl) rfl rfl ⟨(blk_cell BK307.out 0).trans rfl, (blk_cell BK307.out 1).trans rfl, (cB HB.out hw309_0 :), (cB HB.out hw309_1 :), (cB HB.out hw309_2 :), (cB HB.out hw309_3 :)⟩ (fun hHeld => ?_); refine with_tabW impl_ratioOf.tab5 impl_ratioOf.bits5 (fun HT_ HW_ => ?_)
    generalize wr.drew = w10 at BK306 BK307 HB hx309_0 hx309_1 hx309_2 hx309_3 hHeld ⊢
    refine pU 0 14 #[true, false, false, false, false, false, false, false, false, false] ?_
    refine pU 2 16 #[true, false, true, false, false, false, false, false, false, false] ?_
    refine pU 3 17 #[true, false, true, true, false, false, false, false, false, false] ?_
    refine pU 4 18 #[true, false, true, true, true, false, false, false, false, false] ?_
    refine pU 5 19 #[true, false, true, true, true, true, false, false, false, false] ?_
    refine tU 1 15 #[true, true, true, true, true, true, false, false, false, false] ?_
    refine tU 6 20 #[true, true, true, true, true, true, true, false, false, false] ?_
    refine pU 7 21 #[true, true, true, true, true, true, true, true, false, false] ?_
    refine pU 8 22 #[true, true, true, true, true, true, true, true, true, false] ?_
    refine last_ (i := 9) (N := none) #[true, true, true, true, true, true, true, true, true, true] rfl rfl (one_of HT_.out (by kernel_rfl)) (by decide) (fun K hK => ?_)
    have hs11 : w10.cell? ⟨gb307, 0, none⟩ = some (.int .i64 x308000_1) := (blk_cell BK307.out 0).trans rfl
    have hfs11 := blk_frozen BK307.out 0
    have hns11_0 := NB306_307.out
    have hms11_0 := NB307_306.out
    refine skip_ (w1 := ?_) (by rfl) rfl ?_ ?_
    rotate_left
    ·go_simp
     rfl
    refine hK.out _ _ ?_
    clear hK K
    refine done_ (done_of HT_.out (by kernel_rfl)) ?_
    try go_wp2
    have n0_ : Aside0 ((w10.setCell ⟨gb307, 0, none⟩ (.int .i64 (wrap64 (x308000_1 + ((rd_T50 l0 (rd l1 x10_1)).f1))))).heap[gb306]? = some (.cells #[.int .i64 0, .int .i64 0] 53 (0, 0))) := ⟨by refine blk_far ?_ NB306_307.out _; exact BK306.out⟩
    have n1_ : Aside0 ((w10.setCell ⟨gb307, 0, none⟩ (.int .i64 (wrap64 (x308000_1 + ((rd_T50 l0 (rd l1 x10_1)).f1))))).heap[gb307]? = some (.cells #[.int .i64 (wrap64 (x308000_1 + ((rd_T50 l0 (rd l1 x10_1)).f1))), .int .i64 x308001_1] 53 (0, 0))) := ⟨by refine blk_put (cs := #[.int .i64 x308000_1, .int .i64 x308001_1]) ?_ 0 _ rfl; exact BK307.out⟩
    have n2_ : Aside0 (Below w.heap.size w (w10.setCell ⟨gb307, 0, none⟩ (.int .i64 (wrap64 (x308000_1 + ((rd_T50 l0 (rd l1 x10_1)).f1)))))) := ⟨by repeat (first | (with_reducible first | exact HB.out | apply below_alloc | apply pw_below_drewN | apply below_drew1 | refine below_set ?_ GE306.out | refine below_set ?_ GE307.out) | exact HB.out)⟩
    (try clear BK306)
    (try clear BK307)
    (try clear HB)
    generalize (w10.setCell ⟨gb307, 0, none⟩ (.int .i64 (wrap64 (x308000_1 + ((rd_T50 l0 (rd l1 x10_1)).f1))))) = w12 at n0_ n1_ n2_ ⊢
    have BK306 := n0_
    have BK307 := n1_
    have HB := n2_
    clear n0_ n1_ n2_
    have n0_ := Aside0.mk (blk_drew BK306.out)
    have n1_ := Aside0.mk (blk_drew BK307.out)
    have n2_ := Aside0.mk (below_drew1 HB.out)
    clear BK306
    clear BK307
    clear HB
    have BK306 := n0_
    have BK307 := n1_
    have HB := n2_
    clear n0_ n1_ n2_
    have p310 : 0 ≤ ((rd l1 x10_1) : Int) := oD
    have q310 : (rd l1 x10_1) < (l0.length : Int) := oD
    obtain ⟨ad310, e310, hx310_0, hx310_1, hx310_2, hx310_3⟩ := at_T50 HR0.out (rd l1 x10_1) p310 q310
    have hw310_3 := hx310_3
    have hw310_2 := hx310_2
    have hw310_1 := hx310_1
    have hw310_0 := hx310_0
    obtain rfl : ad309 = ad310 := (by injection e310)
    replace hx310_0 := (cB HB.out hx310_0 :)
    replace hx310_1 := (cB HB.out hx310_1 :)
    replace hx310_2 := (cB HB.out hx310_2 :)
    replace hx310_3 := (cB HB.out hx310_3 :)
    replace p310 := eq_true p310
    replace q310 := eq_true q310
    refine start_ (n := 10) (S := fun w' => w'.cell? ⟨gb307, 0, none⟩ = some (.int .i64 (wrap64 (x308000_1 + ((rd_T50 l0 (rd l1 x10_1)).f1)))) ∧ w'.cell? ⟨gb307, 1, none⟩ = some (.int .i64 x308001_1) ∧ w'.cell? (ad309.add (((rd l1 x10_1)).toNat * 4)) = some (.int .i64 ((rd_T50 l0 (rd l1 x10_1)).f0)) ∧ w'.cell? ⟨(ad309.add (((rd l1 x10_1)).toNat * 4)).block, (ad309.add (((rd l1 x10_1)).toNat * 4)).off + 1, none⟩ = some (.int .i64 ((rd_T50 l0 (rd l1 x10_1)).f1)) ∧ w'.cell? ⟨(ad309.add (((rd l1 x10_1)).toNat * 4)).block, (ad309.add (((rd l1 x10_1)).toNat * 4)).off + 2, none⟩ = some (.int .i64 ((rd_T50 l0 (rd l1 x10_1)).f2)) ∧ w'.cell? ⟨(ad309.add (((rd l1 x10_1)).toNat * 4)).block, (ad309.add (((rd l1 x10_1)).toNat * 4)).off + 3, none⟩ = some (.int .i64 ((rd_T50 l0 (rd l1 x10_1)).f3))) (ds := [9]) #[false, false, false, false, false, false, false, false, false, false] (by kernel_rfl) rfl rfl ⟨(blk_cell BK307.out 0).trans rfl, (blk_cell BK307.out 1).trans rfl, (cB HB.out hw310_0 :), (cB HB.out hw310_1 :), (cB HB.out hw310_2 :), (cB HB.out hw310_3 :)⟩ (fun hHeld => ?_); refine with_tabW impl_ratioOf.tab6 impl_ratioOf.bits6 (fun HT_ HW_ => ?_)
    generalize w12.drew = w13 at BK306 BK307 HB hx310_0 hx310_1 hx310_2 hx310_3 hHeld ⊢
    refine pU 0 23 #[true, false, false, false, false, false, false, false, false, false] ?_
    refine pU 2 25 #[true, false, true, false, false, false, false, false, false, false] ?_
    refine pU 3 26 #[true, false, true, true, false, false, false, false, false, false] ?_
    refine pU 4 27 #[true, false, true, true, true, false, false, false, false, false] ?_
    refine pU 5 28 #[true, false, true, true, true, true, false, false, false, false] ?_
    refine tU 1 24 #[true, true, true, true, true, true, false, false, false, false] ?_
    refine tU 6 29 #[true, true, true, true, true, true, true, false, false, false] ?_
    refine pU 7 30 #[true, true, true, true, true, true, true, true, false, false] ?_
    refine pU 8 31 #[true, true, true, true, true, true, true, true, true, false] ?_
    refine last_ (i := 9) (N := none) #[true, true, true, true, true, true, true, true, true, true] rfl rfl (one_of HT_.out (by kernel_rfl)) (by decide) (fun K hK => ?_)
    have hs14 : w13.cell? ⟨gb307, 1, none⟩ = some (.int .i64 x308001_1) := (blk_cell BK307.out 1).trans rfl
    have hfs14 := blk_frozen BK307.out 1
    have hns14_0 := NB306_307.out
    have hms14_0 := NB307_306.out
    refine skip_ (w1 := ?_) (by rfl) rfl ?_ ?_
    rotate_left
    ·go_simp
     rfl
    refine hK.out _ _ ?_
    clear hK K
    refine done_ (done_of HT_.out (by kernel_rfl)) ?_
    try go_wp2
    go_roundg k1
    case measure => have := HK1.out; omega
    case rel => exact ⟨(wrap64 (x10_1 + 1)), (wrap64 (x308000_1 + ((rd_T50 l0 (rd l1 x10_1)).f1))), (wrap64 (x308001_1 + ((rd_T50 l0 (rd l1 x10_1)).f0))), sD, H', ⟨by have := HK1.out; omega⟩, ⟨by (with_reducible repeat (first | refine blk_drewN ?_ _ | refine blk_drew ?_ | refine blk_alloc ?_ _)); refine blk_far ?_ NB306_307.out _; (with_reducible repeat (first | refine blk_drewN ?_ _ | refine blk_drew ?_ | refine blk_alloc ?_ _)); exact BK306.out⟩, ⟨by (with_reducible repeat (first | refine blk_drewN ?_ _ | refine blk_drew ?_ | refine blk_alloc ?_ _)); refine blk_put (cs := #[.int .i64 (wrap64 (x308000_1 + ((rd_T50 l0 (rd l1 x10_1)).f1))), .int .i64 x308001_1]) ?_ 1 _ rfl; (with_reducible repeat (first | refine blk_drewN ?_ _ | refine blk_drew ?_ | refine blk_alloc ?_ _)); exact BK307.out⟩, ⟨by repeat (first | (with_reducible first | exact HB.out | apply below_alloc | apply pw_below_drewN | apply below_drew1 | refine below_set ?_ GE306.out | refine below_set ?_ GE307.out) | exact HB.out)⟩⟩
   ·rw [if_neg c5] at H
    have c5b0 : decide (x10_1 < (l1.length : Int)) = false := decide_eq_false c5
    clear c5
    simp only [Option.some.injEq, Prod.mk.injEq] at H
    obtain ⟨rfl, rfl⟩ := H
    have hnb15 := NB307_306.out
    have hnc15 := NB306_307.out
    have hcz16_0 := (blk_cell BK307.out 0).trans (show _ = some ((.int .i64 x308000_1) : Value) from rfl)
    have hcz16_1 := (blk_cell BK307.out 1).trans (show _ = some ((.int .i64 x308001_1) : Value) from rfl)
    have hfz16_0 := blk_frozen BK307.out 0
    have hfz16_1 := blk_frozen BK307.out 1
    have hcz17_0 := (blk_cell BK306.out 0).trans (show _ = some ((.int .i64 0) : Value) from rfl)
    have hcz17_1 := (blk_cell BK306.out 1).trans (show _ = some ((.int .i64 0) : Value) from rfl)
    have hfz17_0 := blk_frozen BK306.out 0
    have hfz17_1 := blk_frozen BK306.out 1
    go_wp2
    refine bodyPost_ret (results_cell_row rfl _ _ gb306 53 #[.int .i64 x308000_1, .int .i64 x308001_1] (0, 0) _ rfl (by (with_reducible repeat (first | refine blk_drewN ?_ _ | refine blk_drew ?_ | refine blk_alloc ?_ _)); refine blk_put (cs := #[.int .i64 x308000_1, .int .i64 0]) ?_ 1 _ rfl; (with_reducible repeat (first | refine blk_drewN ?_ _ | refine blk_drew ?_ | refine blk_alloc ?_ _)); refine blk_put (cs := #[.int .i64 0, .int .i64 0]) ?_ 0 _ rfl; (with_reducible repeat (first | refine blk_drewN ?_ _ | refine blk_drew ?_ | refine blk_alloc ?_ _)); exact BK306.out) Try.underlying53 rfl (by kernel_rfl)) rfl ?_
    exact ⟨rE, bS⟩

end Go.Proofs.Ytlhppclbokkfmaa.OFnExactSidneyBlocks
