/- Functions of the program as plain Lean functions, with their contracts: written by this session's program ownprint.py. Conditions: none. -/
import Derived.Test.YtafhfmggehaknaaOFnExactIsSeriesParallelx0
import Derived.Test.YtafhfmggehaknaaOFnExactIsSeriesParallelx2
import Derived.Test.YtafhfmggehaknaaOFnExactIsSeriesParallelx5
namespace Go.Proofs.Ytafhfmggehaknaa.OFnExactIsSeriesParallel
open Go.RowKit Go.Proofs.YtafhfmggehaknaaW.PrintWords Go.Proofs.YtafhfmggehaknaaW.PrintLast Go.Proofs.YtafhfmggehaknaaW.PrintMore
attribute [local go_sem] max2_int min2_int max_two min_two max_three min_three max_four min_four   -- for this text's walks alone
set_option linter.unusedVariables false
set_option linter.unusedSimpArgs false

/-! ### spec_l4Parallel: function 78 -/
def spec_l4Parallel.l0 : Nat → List (List Bool) → Int → Int → Option (Bool)
 | 0, _, _, _ => none
 | k + 1, x0, x3, x4 => if x4 < (wrap64 ((wrap64 ((wrap64 (x3 * x3)) * x3)) * x3)) then (if x3 = 0 then (none) else (if 0 ≤ (Int.tmod x4 x3) then (if (Int.tmod x4 x3) < (x0.length : Int) then (if 0 ≤ (Int.tmod (wrap64 (Int.tdiv (wrap64 (Int.tdiv x4 x3)) x3)) x3) then (if (Int.tmod (wrap64 (Int.tdiv (wrap64 (Int.tdiv x4 x3)) x3)) x3) < ((rd_L3 x0 (Int.tmod x4 x3)).length : Int) then (if rdOf false (rd_L3 x0 (Int.tmod x4 x3)) (Int.tmod (wrap64 (Int.tdiv (wrap64 (Int.tdiv x4 x3)) x3)) x3) = true then (if 0 ≤ (Int.tmod (wrap64 (Int.tdiv x4 x3)) x3) then (if (Int.tmod (wrap64 (Int.tdiv x4 x3)) x3) < (x0.length : Int) then (if (Int.tmod (wrap64 (Int.tdiv (wrap64 (Int.tdiv x4 x3)) x3)) x3) < ((rd_L3 x0 (Int.tmod (wrap64 (Int.tdiv x4 x3)) x3)).length : Int) then (if rdOf false (rd_L3 x0 (Int.tmod (wrap64 (Int.tdiv x4 x3)) x3)) (Int.tmod (wrap64 (Int.tdiv (wrap64 (Int.tdiv x4 x3)) x3)) x3) = true then (if 0 ≤ (wrap64 (Int.tdiv (wrap64 (Int.tdiv (wrap64 (Int.tdiv x4 x3)) x3)) x3)) then (if (wrap64 (Int.tdiv (wrap64 (Int.tdiv (wrap64 (Int.tdiv x4 x3)) x3)) x3)) < ((rd_L3 x0 (Int.tmod (wrap64 (Int.tdiv x4 x3)) x3)).length : Int) then (if rdOf false (rd_L3 x0 (Int.tmod (wrap64 (Int.tdiv x4 x3)) x3)) (wrap64 (Int.tdiv (wrap64 (Int.tdiv (wrap64 (Int.tdiv x4 x3)) x3)) x3)) = true then ((spec_l4Apart.f x0 (Int.tmod x4 x3) (Int.tmod (wrap64 (Int.tdiv x4 x3)) x3)).bind fun t168 => (if t168 = true then ((spec_l4Apart.f x0 (Int.tmod (wrap64 (Int.tdiv (wrap64 (Int.tdiv x4 x3)) x3)) x3) (wrap64 (Int.tdiv (wrap64 (Int.tdiv (wrap64 (Int.tdiv x4 x3)) x3)) x3))).bind fun t169 => (if t169 = true then ((spec_l4Apart.f x0 (Int.tmod x4 x3) (wrap64 (Int.tdiv (wrap64 (Int.tdiv (wrap64 (Int.tdiv x4 x3)) x3)) x3))).bind fun t170 => (if t170 = true then (some false) else (spec_l4Parallel.l0 k x0 x3 (wrap64 (x4 + 1))))) else (spec_l4Parallel.l0 k x0 x3 (wrap64 (x4 + 1))))) else (spec_l4Parallel.l0 k x0 x3 (wrap64 (x4 + 1))))) else (spec_l4Parallel.l0 k x0 x3 (wrap64 (x4 + 1)))) else (none)) else (none)) else (spec_l4Parallel.l0 k x0 x3 (wrap64 (x4 + 1)))) else (none)) else (none)) else (none)) else (spec_l4Parallel.l0 k x0 x3 (wrap64 (x4 + 1)))) else (none)) else (none)) else (none)) else (none))) else (some true)
def spec_l4Parallel.f (k : Nat) (l0 : List (List Bool)) : Option (Bool) := spec_l4Parallel.l0 k l0 (l0.length : Int) 0
theorem spec_l4Parallel.mono_l : ∀ k, (∀ y0 y1 y2, LeO (spec_l4Parallel.l0 k y0 y1 y2) (spec_l4Parallel.l0 (k + 1) y0 y1 y2))
 | 0 => fun _ _ _ r h => by simp [spec_l4Parallel.l0] at h
 | k + 1 => by
  have ih0 := spec_l4Parallel.mono_l k
  ·intro y0 y1 y2
   unfold spec_l4Parallel.l0
   repeat' first
   | (with_reducible exact ih0 _ _ _)
   | (with_reducible exact LeO.refl _)
   | (with_reducible exact LeO.none _)
   | (with_reducible refine LeO.ite ?_ ?_)
   | (with_reducible refine LeO.bind ?_ (fun _ => ?_))
   | exact ih0 _ _ _
   | exact LeO.none _
   | refine LeO.ite ?_ ?_
   | refine LeO.bind ?_ (fun _ => ?_)
theorem spec_l4Parallel.mono : ∀ a0 k, LeO (spec_l4Parallel.f k a0) (spec_l4Parallel.f (k + 1) a0) := by
 intro a0 k
 have ih0 := spec_l4Parallel.mono_l k
 unfold spec_l4Parallel.f
 repeat' first
   | (with_reducible exact ih0 _ _ _)
   | (with_reducible exact LeO.refl _)
   | (with_reducible exact LeO.none _)
   | (with_reducible refine LeO.ite ?_ ?_)
   | (with_reducible refine LeO.bind ?_ (fun _ => ?_))
   | exact ih0 _ _ _
   | exact LeO.none _
   | refine LeO.ite ?_ ?_
   | refine LeO.bind ?_ (fun _ => ?_)
set_option maxHeartbeats 8000000 in
set_option maxRecDepth 100000 in
theorem spec_l4Parallel.calls (k : Nat) (A0 : Option Addr) (c0 : Nat) (l0 : List (List Bool)) (r : Bool) (w : World) (hr0 : Kd.C (Kd.slice 4 Kd.bool) w A0 l0.length l0) (hc0 : l0.length ≤ c0) (h : spec_l4Parallel.f k l0 = some r) :
  Calls Try.prog 78 #[.slice A0 l0.length c0] w fun e w' => e = .returned (.bool r) ∧ Drawn0 w w' := by
 have HR0 := Aside0.mk hr0
 have HC0 := Aside0.mk hc0
 clear hr0 hc0
 have H : (spec_l4Parallel.l0 k l0 (l0.length : Int) 0) = some r := h
 clear h
 have H' := Aside0.mk H
 clear H
 go_enter Try.func78, Try.ntmps78
 go_wp2
 repeat (go_quiet (fail); try go_wp2)
 go_loopg [4] k (fun kq v4 w' => ∃ (x4_1 : Int), v4 = .int .i64 x4_1 ∧ Aside0 (spec_l4Parallel.l0 kq l0 (l0.length : Int) x4_1 = some r) ∧ Aside0 (kq ≤ k) ∧ Drawn0 w w')
 case atStart => exact ⟨(0), sD, H', ⟨Nat.le_refl _⟩, by repeat (first | exact Drawn0.refl _ | apply Drawn0.step)⟩
 case round =>
  clear H'
  obtain ⟨x4_1, rfl, HA, HK1, ⟨m1, rfl⟩⟩ := hrel
  cases gk with
  | zero => exact absurd HA.out (by simp [spec_l4Parallel.l0])
  | succ k1 =>
   have H := HA.out
   clear HA
   simp only [spec_l4Parallel.l0] at H
   by_cases c2 : x4_1 < (wrap64 ((wrap64 ((wrap64 ((l0.length : Int) * (l0.length : Int))) * (l0.length : Int))) * (l0.length : Int)))
   ·rw [if_pos c2] at H
    have c2b0 : decide (x4_1 < (wrap64 ((wrap64 ((wrap64 ((l0.length : Int) * (l0.length : Int))) * (l0.length : Int))) * (l0.length : Int)))) = true := decide_eq_true c2
    clear c2
    by_cases c3 : (l0.length : Int) = 0
    ·rw [if_pos c3] at H; exact absurd H (by simp)
    rw [if_neg c3] at H
    have c3b0 : ((l0.length : Int) == 0) = false := beq_eq_false_iff_ne.mpr c3
    have c3b1 : ((l0.length : Int) != 0) = true := bne_iff_ne.mpr c3
    have c3b2 : ¬ (l0 = []) := fun h_ => c3 (by rw [h_]; rfl)
    obtain ⟨ji4, hji4⟩ : ∃ j_ : Int, (Int.tmod x4_1 (l0.length : Int)) = j_ := ⟨_, rfl⟩
    replace H : (if 0 ≤ (ji4) then (if (ji4) < (l0.length : Int) then (if 0 ≤ (Int.tmod (wrap64 (Int.tdiv (wrap64 (Int.tdiv x4_1 (l0.length : Int))) (l0.length : Int))) (l0.length : Int)) then (if (Int.tmod (wrap64 (Int.tdiv (wrap64 (Int.tdiv x4_1 (l0.length : Int))) (l0.length : Int))) (l0.length : Int)) < ((rd_L3 l0 (ji4)).length : Int) then (if rdOf false (rd_L3 l0 (ji4)) (Int.tmod (wrap64 (Int.tdiv (wrap64 (Int.tdiv x4_1 (l0.length : Int))) (l0.length : Int))) (l0.length : Int)) = true then (if 0 ≤ (Int.tmod (wrap64 (Int.tdiv x4_1 (l0.length : Int))) (l0.length : Int)) then (if (Int.tmod (wrap64 (Int.tdiv x4_1 (l0.length : Int))) (l0.length : Int)) < (l0.length : Int) then (if (Int.tmod (wrap64 (Int.tdiv (wrap64 (Int.tdiv x4_1 (l0.length : Int))) (l0.length : Int))) (l0.length : Int)) < ((rd_L3 l0 (Int.tmod (wrap64 (Int.tdiv x4_1 (l0.length : Int))) (l0.length : Int))).length : Int) then (if rdOf false (rd_L3 l0 (Int.tmod (wrap64 (Int.tdiv x4_1 (l0.length : Int))) (l0.length : Int))) (Int.tmod (wrap64 (Int.tdiv (wrap64 (Int.tdiv x4_1 (l0.length : Int))) (l0.length : Int))) (l0.length : Int)) = true then (if 0 ≤ (wrap64 (Int.tdiv (wrap64 (Int.tdiv (wrap64 (Int.tdiv x4_1 (l0.length : Int))) (l0.length : Int))) (l0.length : Int))) then (if (wrap64 (Int.tdiv (wrap64 (Int.tdiv (wrap64 (Int.tdiv x4_1 (l0.length : Int))) (l0.length : Int))) (l0.length : Int))) < ((rd_L3 l0 (Int.tmod (wrap64 (Int.tdiv x4_1 (l0.length : Int))) (l0.length : Int))).length : Int) then (if rdOf false (rd_L3 l0 (Int.tmod (wrap64 (Int.tdiv x4_1 (l0.length : Int))) (l0.length : Int))) (wrap64 (Int.tdiv (wrap64 (Int.tdiv (wrap64 (Int.tdiv x4_1 (l0.length : Int))) (l0.length : Int))) (l0.length : Int))) = true then ((spec_l4Apart.f l0 (ji4) (Int.tmod (wrap64 (Int.tdiv x4_1 (l0.length : Int))) (l0.length : Int))).bind fun t168 => (if t168 = true then ((spec_l4Apart.f l0 (Int.tmod (wrap64 (Int.tdiv (wrap64 (Int.tdiv x4_1 (l0.length : Int))) (l0.length : Int))) (l0.length : Int)) (wrap64 (Int.tdiv (wrap64 (Int.tdiv (wrap64 (Int.tdiv x4_1 (l0.length : Int))) (l0.length : Int))) (l0.length : Int)))).bind fun t169 => (if t169 = true then ((spec_l4Apart.f l0 (ji4) (wrap64 (Int.tdiv (wrap64 (Int.tdiv (wrap64 (Int.tdiv x4_1 (l0.length : Int))) (l0.length : Int))) (l0.length : Int)))).bind fun t170 => (if t170 = true then (some false) else (spec_l4Parallel.l0 k1 l0 (l0.length : Int) (wrap64 (x4_1 + 1))))) else (spec_l4Parallel.l0 k1 l0 (l0.length : Int) (wrap64 (x4_1 + 1))))) else (spec_l4Parallel.l0 k1 l0 (l0.length : Int) (wrap64 (x4_1 + 1))))) else (spec_l4Parallel.l0 k1 l0 (l0.length : Int) (wrap64 (x4_1 + 1)))) else (none)) else (none)) else (spec_l4Parallel.l0 k1 l0 (l0.length : Int) (wrap64 (x4_1 + 1)))) else (none)) else (none)) else (none)) else (spec_l4Parallel.l0 k1 l0 (l0.length : Int) (wrap64 (x4_1 + 1)))) else (none)) else (none)) else (none)) else (none)) = some r := by first | (rw [hji4] at H; exact H) | (simp only [hji4] at H ⊢; exact H)
    by_cases c5 : 0 ≤ (ji4); rotate_left
    ·rw [if_neg c5] at H; exact absurd H (by simp)
    rw [if_pos c5] at H
    have c5b0 : decide (0 ≤ (ji4)) = true := decide_eq_true c5
    clear c5
    by_cases c6 : (ji4) < (l0.length : Int); rotate_left
    ·rw [if_neg c6] at H; exact absurd H (by simp)
    rw [if_pos c6] at H
    have c6b0 : decide ((ji4) < (l0.length : Int)) = true := decide_eq_true c6
    clear c6
    obtain ⟨ji7, hji7⟩ : ∃ j_ : Int, (Int.tmod (wrap64 (Int.tdiv (wrap64 (Int.tdiv x4_1 (l0.length : Int))) (l0.length : Int))) (l0.length : Int)) = j_ := ⟨_, rfl⟩
    replace H : (if 0 ≤ (ji7) then (if (ji7) < ((rd_L3 l0 (ji4)).length : Int) then (if rdOf false (rd_L3 l0 (ji4)) (ji7) = true then (if 0 ≤ (Int.tmod (wrap64 (Int.tdiv x4_1 (l0.length : Int))) (l0.length : Int)) then (if (Int.tmod (wrap64 (Int.tdiv x4_1 (l0.length : Int))) (l0.length : Int)) < (l0.length : Int) then (if (ji7) < ((rd_L3 l0 (Int.tmod (wrap64 (Int.tdiv x4_1 (l0.length : Int))) (l0.length : Int))).length : Int) then (if rdOf false (rd_L3 l0 (Int.tmod (wrap64 (Int.tdiv x4_1 (l0.length : Int))) (l0.length : Int))) (ji7) = true then (if 0 ≤ (wrap64 (Int.tdiv (wrap64 (Int.tdiv (wrap64 (Int.tdiv x4_1 (l0.length : Int))) (l0.length : Int))) (l0.length : Int))) then (if (wrap64 (Int.tdiv (wrap64 (Int.tdiv (wrap64 (Int.tdiv x4_1 (l0.length : Int))) (l0.length : Int))) (l0.length : Int))) < ((rd_L3 l0 (Int.tmod (wrap64 (Int.tdiv x4_1 (l0.length : Int))) (l0.length : Int))).length : Int) then (if rdOf false (rd_L3 l0 (Int.tmod (wrap64 (Int.tdiv x4_1 (l0.length : Int))) (l0.length : Int))) (wrap64 (Int.tdiv (wrap64 (Int.tdiv (wrap64 (Int.tdiv x4_1 (l0.length : Int))) (l0.length : Int))) (l0.length : Int))) = true then ((spec_l4Apart.f l0 (ji4) (Int.tmod (wrap64 (Int.tdiv x4_1 (l0.length : Int))) (l0.length : Int))).bind fun t168 => (if t168 = true then ((spec_l4Apart.f l0 (ji7) (wrap64 (Int.tdiv (wrap64 (Int.tdiv (wrap64 (Int.tdiv x4_1 (l0.length : Int))) (l0.length : Int))) (l0.length : Int)))).bind fun t169 => (if t169 = true then ((spec_l4Apart.f l0 (ji4) (wrap64 (Int.tdiv (wrap64 (Int.tdiv (wrap64 (Int.tdiv x4_1 (l0.length : Int))) (l0.length : Int))) (l0.length : Int)))).bind fun t170 => (if t170 = true then (some false) else (spec_l4Parallel.l0 k1 l0 (l0.length : Int) (wrap64 (x4_1 + 1))))) else (spec_l4Parallel.l0 k1 l0 (l0.length : Int) (wrap64 (x4_1 + 1))))) else (spec_l4Parallel.l0 k1 l0 (l0.length : Int) (wrap64 (x4_1 + 1))))) else (spec_l4Parallel.l0 k1 l0 (l0.length : Int) (wrap64 (x4_1 + 1)))) else (none)) else (none)) else (spec_l4Parallel.l0 k1 l0 (l0.length : Int) (wrap64 (x4_1 + 1)))) else (none)) else (none)) else (none)) else (spec_l4Parallel.l0 k1 l0 (l0.length : Int) (wrap64 (x4_1 + 1)))) else (none)) else (none)) = some r := by first | (rw [hji7] at H; exact H) | (simp only [hji7] at H ⊢; exact H)
    by_cases c8 : 0 ≤ (ji7); rotate_left
    ·rw [if_neg c8] at H; exact absurd H (by simp)
    rw [if_pos c8] at H
    have c8b0 : decide (0 ≤ (ji7)) = true := decide_eq_true c8
    clear c8
    by_cases c9 : (ji7) < ((rd_L3 l0 (ji4)).length : Int); rotate_left
    ·rw [if_neg c9] at H; exact absurd H (by simp)
    rw [if_pos c9] at H
    have c9b0 : decide ((ji7) < ((rd_L3 l0 (ji4)).length : Int)) = true := decide_eq_true c9
    clear c9
    obtain ⟨bq10, hbq10⟩ : ∃ b_ : Bool, b_ = (rdOf false (rd_L3 l0 (ji4)) (ji7)) := ⟨_, rfl⟩
    replace H : (if bq10 = true then (if 0 ≤ (Int.tmod (wrap64 (Int.tdiv x4_1 (l0.length : Int))) (l0.length : Int)) then (if (Int.tmod (wrap64 (Int.tdiv x4_1 (l0.length : Int))) (l0.length : Int)) < (l0.length : Int) then (if (ji7) < ((rd_L3 l0 (Int.tmod (wrap64 (Int.tdiv x4_1 (l0.length : Int))) (l0.length : Int))).length : Int) then (if rdOf false (rd_L3 l0 (Int.tmod (wrap64 (Int.tdiv x4_1 (l0.length : Int))) (l0.length : Int))) (ji7) = true then (if 0 ≤ (wrap64 (Int.tdiv (wrap64 (Int.tdiv (wrap64 (Int.tdiv x4_1 (l0.length : Int))) (l0.length : Int))) (l0.length : Int))) then (if (wrap64 (Int.tdiv (wrap64 (Int.tdiv (wrap64 (Int.tdiv x4_1 (l0.length : Int))) (l0.length : Int))) (l0.length : Int))) < ((rd_L3 l0 (Int.tmod (wrap64 (Int.tdiv x4_1 (l0.length : Int))) (l0.length : Int))).length : Int) then (if rdOf false (rd_L3 l0 (Int.tmod (wrap64 (Int.tdiv x4_1 (l0.length : Int))) (l0.length : Int))) (wrap64 (Int.tdiv (wrap64 (Int.tdiv (wrap64 (Int.tdiv x4_1 (l0.length : Int))) (l0.length : Int))) (l0.length : Int))) = true then ((spec_l4Apart.f l0 (ji4) (Int.tmod (wrap64 (Int.tdiv x4_1 (l0.length : Int))) (l0.length : Int))).bind fun t168 => (if t168 = true then ((spec_l4Apart.f l0 (ji7) (wrap64 (Int.tdiv (wrap64 (Int.tdiv (wrap64 (Int.tdiv x4_1 (l0.length : Int))) (l0.length : Int))) (l0.length : Int)))).bind fun t169 => (if t169 = true then ((spec_l4Apart.f l0 (ji4) (wrap64 (Int.tdiv (wrap64 (Int.tdiv (wrap64 (Int.tdiv x4_1 (l0.length : Int))) (l0.length : Int))) (l0.length : Int)))).bind fun t170 => (if t170 = true then (some false) else (spec_l4Parallel.l0 k1 l0 (l0.length : Int) (wrap64 (x4_1 + 1))))) else (spec_l4Parallel.l0 k1 l0 (l0.length : Int) (wrap64 (x4_1 + 1))))) else (spec_l4Parallel.l0 k1 l0 (l0.length : Int) (wrap64 (x4_1 + 1))))) else (spec_l4Parallel.l0 k1 l0 (l0.length : Int) (wrap64 (x4_1 + 1)))) else (none)) else (none)) else (spec_l4Parallel.l0 k1 l0 (l0.length : Int) (wrap64 (x4_1 + 1)))) else (none)) else (none)) else (none)) else (spec_l4Parallel.l0 k1 l0 (l0.length : Int) (wrap64 (x4_1 + 1)))) = some r := by rw [← hbq10] at H; exact H
    have Nbq10 := Aside0.mk hbq10
    clear hbq10
    by_cases c11 : bq10 = true
    ·subst c11
     have H1 : (if 0 ≤ (Int.tmod (wrap64 (Int.tdiv x4_1 (l0.length : Int))) (l0.length : Int)) then (if (Int.tmod (wrap64 (Int.tdiv x4_1 (l0.length : Int))) (l0.length : Int)) < (l0.length : Int) then (if (ji7) < ((rd_L3 l0 (Int.tmod (wrap64 (Int.tdiv x4_1 (l0.length : Int))) (l0.length : Int))).length : Int) then (if rdOf false (rd_L3 l0 (Int.tmod (wrap64 (Int.tdiv x4_1 (l0.length : Int))) (l0.length : Int))) (ji7) = true then (if 0 ≤ (wrap64 (Int.tdiv (wrap64 (Int.tdiv (wrap64 (Int.tdiv x4_1 (l0.length : Int))) (l0.length : Int))) (l0.length : Int))) then (if (wrap64 (Int.tdiv (wrap64 (Int.tdiv (wrap64 (Int.tdiv x4_1 (l0.length : Int))) (l0.length : Int))) (l0.length : Int))) < ((rd_L3 l0 (Int.tmod (wrap64 (Int.tdiv x4_1 (l0.length : Int))) (l0.length : Int))).length : Int) then (if rdOf false (rd_L3 l0 (Int.tmod (wrap64 (Int.tdiv x4_1 (l0.length : Int))) (l0.length : Int))) (wrap64 (Int.tdiv (wrap64 (Int.tdiv (wrap64 (Int.tdiv x4_1 (l0.length : Int))) (l0.length : Int))) (l0.length : Int))) = true then ((spec_l4Apart.f l0 (ji4) (Int.tmod (wrap64 (Int.tdiv x4_1 (l0.length : Int))) (l0.length : Int))).bind fun t168 => (if t168 = true then ((spec_l4Apart.f l0 (ji7) (wrap64 (Int.tdiv (wrap64 (Int.tdiv (wrap64 (Int.tdiv x4_1 (l0.length : Int))) (l0.length : Int))) (l0.length : Int)))).bind fun t169 => (if t169 = true then ((spec_l4Apart.f l0 (ji4) (wrap64 (Int.tdiv (wrap64 (Int.tdiv (wrap64 (Int.tdiv x4_1 (l0.length : Int))) (l0.length : Int))) (l0.length : Int)))).bind fun t170 => (if t170 = true then (some false) else (spec_l4Parallel.l0 k1 l0 (l0.length : Int) (wrap64 (x4_1 + 1))))) else (spec_l4Parallel.l0 k1 l0 (l0.length : Int) (wrap64 (x4_1 + 1))))) else (spec_l4Parallel.l0 k1 l0 (l0.length : Int) (wrap64 (x4_1 + 1))))) else (spec_l4Parallel.l0 k1 l0 (l0.length : Int) (wrap64 (x4_1 + 1)))) else (none)) else (none)) else (spec_l4Parallel.l0 k1 l0 (l0.length : Int) (wrap64 (x4_1 + 1)))) else (none)) else (none)) else (none)) = some r := by rw [if_pos rfl] at H; exact H
     clear H
     have H := H1
     clear H1
     obtain ⟨ji12, hji12⟩ : ∃ j_ : Int, (Int.tmod (wrap64 (Int.tdiv x4_1 (l0.length : Int))) (l0.length : Int)) = j_ := ⟨_, rfl⟩
     replace H : (if 0 ≤ (ji12) then (if (ji12) < (l0.length : Int) then (if (ji7) < ((rd_L3 l0 (ji12)).length : Int) then (if rdOf false (rd_L3 l0 (ji12)) (ji7) = true then (if 0 ≤ (wrap64 (Int.tdiv (wrap64 (Int.tdiv (wrap64 (Int.tdiv x4_1 (l0.length : Int))) (l0.length : Int))) (l0.length : Int))) then (if (wrap64 (Int.tdiv (wrap64 (Int.tdiv (wrap64 (Int.tdiv x4_1 (l0.length : Int))) (l0.length : Int))) (l0.length : Int))) < ((rd_L3 l0 (ji12)).length : Int) then (if rdOf false (rd_L3 l0 (ji12)) (wrap64 (Int.tdiv (wrap64 (Int.tdiv (wrap64 (Int.tdiv x4_1 (l0.length : Int))) (l0.length : Int))) (l0.length : Int))) = true then ((spec_l4Apart.f l0 (ji4) (ji12)).bind fun t168 => (if t168 = true then ((spec_l4Apart.f l0 (ji7) (wrap64 (Int.tdiv (wrap64 (Int.tdiv (wrap64 (Int.tdiv x4_1 (l0.length : Int))) (l0.length : Int))) (l0.length : Int)))).bind fun t169 => (if t169 = true then ((spec_l4Apart.f l0 (ji4) (wrap64 (Int.tdiv (wrap64 (Int.tdiv (wrap64 (Int.tdiv x4_1 (l0.length : Int))) (l0.length : Int))) (l0.length : Int)))).bind fun t170 => (if t170 = true then (some false) else (spec_l4Parallel.l0 k1 l0 (l0.length : Int) (wrap64 (x4_1 + 1))))) else (spec_l4Parallel.l0 k1 l0 (l0.length : Int) (wrap64 (x4_1 + 1))))) else (spec_l4Parallel.l0 k1 l0 (l0.length : Int) (wrap64 (x4_1 + 1))))) else (spec_l4Parallel.l0 k1 l0 (l0.length : Int) (wrap64 (x4_1 + 1)))) else (none)) else (none)) else (spec_l4Parallel.l0 k1 l0 (l0.length : Int) (wrap64 (x4_1 + 1)))) else (none)) else (none)) else (none)) = some r := by first | (rw [hji12] at H; exact H) | (simp only [hji12] at H ⊢; exact H)
     by_cases c13 : 0 ≤ (ji12); rotate_left
     ·rw [if_neg c13] at H; exact absurd H (by simp)
     rw [if_pos c13] at H
     have c13b0 : decide (0 ≤ (ji12)) = true := decide_eq_true c13
     clear c13
     by_cases c14 : (ji12) < (l0.length : Int); rotate_left
     ·rw [if_neg c14] at H; exact absurd H (by simp)
     rw [if_pos c14] at H
     have c14b0 : decide ((ji12) < (l0.length : Int)) = true := decide_eq_true c14
     clear c14
     by_cases c15 : (ji7) < ((rd_L3 l0 (ji12)).length : Int); rotate_left
     ·rw [if_neg c15] at H; exact absurd H (by simp)
     rw [if_pos c15] at H
     have c15b0 : decide ((ji7) < ((rd_L3 l0 (ji12)).length : Int)) = true := decide_eq_true c15
     clear c15
     obtain ⟨bq16, hbq16⟩ : ∃ b_ : Bool, b_ = (rdOf false (rd_L3 l0 (ji12)) (ji7)) := ⟨_, rfl⟩
     replace H : (if bq16 = true then (if 0 ≤ (wrap64 (Int.tdiv (wrap64 (Int.tdiv (wrap64 (Int.tdiv x4_1 (l0.length : Int))) (l0.length : Int))) (l0.length : Int))) then (if (wrap64 (Int.tdiv (wrap64 (Int.tdiv (wrap64 (Int.tdiv x4_1 (l0.length : Int))) (l0.length : Int))) (l0.length : Int))) < ((rd_L3 l0 (ji12)).length : Int) then (if rdOf false (rd_L3 l0 (ji12)) (wrap64 (Int.tdiv (wrap64 (Int.tdiv (wrap64 (Int.tdiv x4_1 (l0.length : Int))) (l0.length : Int))) (l0.length : Int))) = true then ((spec_l4Apart.f l0 (ji4) (ji12)).bind fun t168 => (if t168 = true then ((spec_l4Apart.f l0 (ji7) (wrap64 (Int.tdiv (wrap64 (Int.tdiv (wrap64 (Int.tdiv x4_1 (l0.length : Int))) (l0.length : Int))) (l0.length : Int)))).bind fun t169 => (if t169 = true then ((spec_l4Apart.f l0 (ji4) (wrap64 (Int.tdiv (wrap64 (Int.tdiv (wrap64 (Int.tdiv x4_1 (l0.length : Int))) (l0.length : Int))) (l0.length : Int)))).bind fun t170 => (if t170 = true then (some false) else (spec_l4Parallel.l0 k1 l0 (l0.length : Int) (wrap64 (x4_1 + 1))))) else (spec_l4Parallel.l0 k1 l0 (l0.length : Int) (wrap64 (x4_1 + 1))))) else (spec_l4Parallel.l0 k1 l0 (l0.length : Int) (wrap64 (x4_1 + 1))))) else (spec_l4Parallel.l0 k1 l0 (l0.length : Int) (wrap64 (x4_1 + 1)))) else (none)) else (none)) else (spec_l4Parallel.l0 k1 l0 (l0.length : Int) (wrap64 (x4_1 + 1)))) = some r := by rw [← hbq16] at H; exact H
     have Nbq16 := Aside0.mk hbq16
     clear hbq16
     by_cases c17 : bq16 = true
     ·subst c17
      have H1 : (if 0 ≤ (wrap64 (Int.tdiv (wrap64 (Int.tdiv (wrap64 (Int.tdiv x4_1 (l0.length : Int))) (l0.length : Int))) (l0.length : Int))) then (if (wrap64 (Int.tdiv (wrap64 (Int.tdiv (wrap64 (Int.tdiv x4_1 (l0.length : Int))) (l0.length : Int))) (l0.length : Int))) < ((rd_L3 l0 (ji12)).length : Int) then (if rdOf false (rd_L3 l0 (ji12)) (wrap64 (Int.tdiv (wrap64 (Int.tdiv (wrap64 (Int.tdiv x4_1 (l0.length : Int))) (l0.length : Int))) (l0.length : Int))) = true then ((spec_l4Apart.f l0 (ji4) (ji12)).bind fun t168 => (if t168 = true then ((spec_l4Apart.f l0 (ji7) (wrap64 (Int.tdiv (wrap64 (Int.tdiv (wrap64 (Int.tdiv x4_1 (l0.length : Int))) (l0.length : Int))) (l0.length : Int)))).bind fun t169 => (if t169 = true then ((spec_l4Apart.f l0 (ji4) (wrap64 (Int.tdiv (wrap64 (Int.tdiv (wrap64 (Int.tdiv x4_1 (l0.length : Int))) (l0.length : Int))) (l0.length : Int)))).bind fun t170 => (if t170 = true then (some false) else (spec_l4Parallel.l0 k1 l0 (l0.length : Int) (wrap64 (x4_1 + 1))))) else (spec_l4Parallel.l0 k1 l0 (l0.length : Int) (wrap64 (x4_1 + 1))))) else (spec_l4Parallel.l0 k1 l0 (l0.length : Int) (wrap64 (x4_1 + 1))))) else (spec_l4Parallel.l0 k1 l0 (l0.length : Int) (wrap64 (x4_1 + 1)))) else (none)) else (none)) = some r := by rw [if_pos rfl] at H; exact H
      clear H
      have H := H1
      clear H1
      obtain ⟨ji18, hji18⟩ : ∃ j_ : Int, (wrap64 (Int.tdiv (wrap64 (Int.tdiv (wrap64 (Int.tdiv x4_1 (l0.length : Int))) (l0.length : Int))) (l0.length : Int))) = j_ := ⟨_, rfl⟩
      replace H : (if 0 ≤ (ji18) then (if (ji18) < ((rd_L3 l0 (ji12)).length : Int) then (if rdOf false (rd_L3 l0 (ji12)) (ji18) = true then ((spec_l4Apart.f l0 (ji4) (ji12)).bind fun t168 => (if t168 = true then ((spec_l4Apart.f l0 (ji7) (ji18)).bind fun t169 => (if t169 = true then ((spec_l4Apart.f l0 (ji4) (ji18)).bind fun t170 => (if t170 = true then (some false) else (spec_l4Parallel.l0 k1 l0 (l0.length : Int) (wrap64 (x4_1 + 1))))) else (spec_l4Parallel.l0 k1 l0 (l0.length : Int) (wrap64 (x4_1 + 1))))) else (spec_l4Parallel.l0 k1 l0 (l0.length : Int) (wrap64 (x4_1 + 1))))) else (spec_l4Parallel.l0 k1 l0 (l0.length : Int) (wrap64 (x4_1 + 1)))) else (none)) else (none)) = some r := by first | (rw [hji18] at H; exact H) | (simp only [hji18] at H ⊢; exact H)
      have hji18w : (IntKind.i64.wrap (Int.tdiv (wrap64 (Int.tdiv (wrap64 (Int.tdiv x4_1 (l0.length : Int))) (l0.length : Int))) (l0.length : Int))) = ji18 := (i64_w _).trans hji18
      by_cases c19 : 0 ≤ (ji18); rotate_left
      ·rw [if_neg c19] at H; exact absurd H (by simp)
      rw [if_pos c19] at H
      have c19b0 : decide (0 ≤ (ji18)) = true := decide_eq_true c19
      clear c19
      by_cases c20 : (ji18) < ((rd_L3 l0 (ji12)).length : Int); rotate_left
      ·rw [if_neg c20] at H; exact absurd H (by simp)
      rw [if_pos c20] at H
      have c20b0 : decide ((ji18) < ((rd_L3 l0 (ji12)).length : Int)) = true := decide_eq_true c20
      clear c20
      obtain ⟨bq21, hbq21⟩ : ∃ b_ : Bool, b_ = (rdOf false (rd_L3 l0 (ji12)) (ji18)) := ⟨_, rfl⟩
      replace H : (if bq21 = true then ((spec_l4Apart.f l0 (ji4) (ji12)).bind fun t168 => (if t168 = true then ((spec_l4Apart.f l0 (ji7) (ji18)).bind fun t169 => (if t169 = true then ((spec_l4Apart.f l0 (ji4) (ji18)).bind fun t170 => (if t170 = true then (some false) else (spec_l4Parallel.l0 k1 l0 (l0.length : Int) (wrap64 (x4_1 + 1))))) else (spec_l4Parallel.l0 k1 l0 (l0.length : Int) (wrap64 (x4_1 + 1))))) else (spec_l4Parallel.l0 k1 l0 (l0.length : Int) (wrap64 (x4_1 + 1))))) else (spec_l4Parallel.l0 k1 l0 (l0.length : Int) (wrap64 (x4_1 + 1)))) = some r := by rw [← hbq21] at H; exact H
      have Nbq21 := Aside0.mk hbq21
      clear hbq21
      by_cases c22 : bq21 = true
      ·subst c22
       have H1 : ((spec_l4Apart.f l0 (ji4) (ji12)).bind fun t168 => (if t168 = true then ((spec_l4Apart.f l0 (ji7) (ji18)).bind fun t169 => (if t169 = true then ((spec_l4Apart.f l0 (ji4) (ji18)).bind fun t170 => (if t170 = true then (some false) else (spec_l4Parallel.l0 k1 l0 (l0.length : Int) (wrap64 (x4_1 + 1))))) else (spec_l4Parallel.l0 k1 l0 (l0.length : Int) (wrap64 (x4_1 + 1))))) else (spec_l4Parallel.l0 k1 l0 (l0.length : Int) (wrap64 (x4_1 + 1))))) = some r := by rw [if_pos rfl] at H; exact H
       clear H
       have H := H1
       clear H1
       replace H := Option.bind_eq_some_iff.mp H
       obtain ⟨t168, A230, H⟩ := H
       replace H : (if t168 = true then ((spec_l4Apart.f l0 (ji7) (ji18)).bind fun t169 => (if t169 = true then ((spec_l4Apart.f l0 (ji4) (ji18)).bind fun t170 => (if t170 = true then (some false) else (spec_l4Parallel.l0 k1 l0 (l0.length : Int) (wrap64 (x4_1 + 1))))) else (spec_l4Parallel.l0 k1 l0 (l0.length : Int) (wrap64 (x4_1 + 1))))) else (spec_l4Parallel.l0 k1 l0 (l0.length : Int) (wrap64 (x4_1 + 1)))) = some r := H
       have A23 := Aside0.mk A230
       clear A230
       by_cases c24 : t168 = true
       ·subst c24
        have H1 : ((spec_l4Apart.f l0 (ji7) (ji18)).bind fun t169 => (if t169 = true then ((spec_l4Apart.f l0 (ji4) (ji18)).bind fun t170 => (if t170 = true then (some false) else (spec_l4Parallel.l0 k1 l0 (l0.length : Int) (wrap64 (x4_1 + 1))))) else (spec_l4Parallel.l0 k1 l0 (l0.length : Int) (wrap64 (x4_1 + 1))))) = some r := by rw [if_pos rfl] at H; exact H
        clear H
        have H := H1
        clear H1
        replace H := Option.bind_eq_some_iff.mp H
        obtain ⟨t169, A250, H⟩ := H
        replace H : (if t169 = true then ((spec_l4Apart.f l0 (ji4) (ji18)).bind fun t170 => (if t170 = true then (some false) else (spec_l4Parallel.l0 k1 l0 (l0.length : Int) (wrap64 (x4_1 + 1))))) else (spec_l4Parallel.l0 k1 l0 (l0.length : Int) (wrap64 (x4_1 + 1)))) = some r := H
        have A25 := Aside0.mk A250
        clear A250
        by_cases c26 : t169 = true
        ·subst c26
         have H1 : ((spec_l4Apart.f l0 (ji4) (ji18)).bind fun t170 => (if t170 = true then (some false) else (spec_l4Parallel.l0 k1 l0 (l0.length : Int) (wrap64 (x4_1 + 1))))) = some r := by rw [if_pos rfl] at H; exact H
         clear H
         have H := H1
         clear H1
         replace H := Option.bind_eq_some_iff.mp H
         obtain ⟨t170, A270, H⟩ := H
         replace H : (if t170 = true then (some false) else (spec_l4Parallel.l0 k1 l0 (l0.length : Int) (wrap64 (x4_1 + 1)))) = some r := H
         have A27 := Aside0.mk A270
         clear A270
         by_cases c28 : t170 = true
         ·subst c28
          have H1 : (some false) = some r := by rw [if_pos rfl] at H; exact H
          clear H
          have H := H1
          clear H1
          obtain rfl := Option.some.inj H
          have p162 : 0 ≤ ((ji4) : Int) := oD
          have q162 : (ji4) < (l0.length : Int) := oD
          obtain ⟨ad162, A162_0, c162_0, e162, hx162_0, hl162_0, hi162_0⟩ := at_L3 HR0.out (ji4) p162 q162
          cases e162
          have HR162_0 := Aside0.mk hi162_0
          have HC162_0 := Aside0.mk hl162_0
          clear hi162_0 hl162_0
          replace p162 := eq_true p162
          replace q162 := eq_true q162
          have p163 : 0 ≤ ((ji7) : Int) := oD
          have q163 : (ji7) < ((rd_L3 l0 (ji4)).length : Int) := oD
          obtain ⟨ad163, e163, hx163_0⟩ := Kd.at_bool HR162_0.out (ji7) p163 q163
          (try rw [← Nbq10.out] at hx163_0)
          (try rw [← Nbq16.out] at hx163_0)
          (try rw [← Nbq21.out] at hx163_0)
          cases e163
          replace p163 := eq_true p163
          replace q163 := eq_true q163
          have p164 : 0 ≤ ((ji12) : Int) := oD
          have q164 : (ji12) < (l0.length : Int) := oD
          obtain ⟨ad164, A164_0, c164_0, e164, hx164_0, hl164_0, hi164_0⟩ := at_L3 HR0.out (ji12) p164 q164
          obtain rfl : ad162 = ad164 := (by injection e164)
          have HR164_0 := Aside0.mk hi164_0
          have HC164_0 := Aside0.mk hl164_0
          clear hi164_0 hl164_0
          replace p164 := eq_true p164
          replace q164 := eq_true q164
          have p165 : 0 ≤ ((ji7) : Int) := oD
          have q165 : (ji7) < ((rd_L3 l0 (ji12)).length : Int) := oD
          obtain ⟨ad165, e165, hx165_0⟩ := Kd.at_bool HR164_0.out (ji7) p165 q165
          (try rw [← Nbq10.out] at hx165_0)
          (try rw [← Nbq16.out] at hx165_0)
          (try rw [← Nbq21.out] at hx165_0)
          cases e165
          replace p165 := eq_true p165
          replace q165 := eq_true q165
          have p166 : 0 ≤ ((ji12) : Int) := oD
          have q166 : (ji12) < (l0.length : Int) := oD
          obtain ⟨ad166, A166_0, c166_0, e166, hx166_0, hl166_0, hi166_0⟩ := at_L3 HR0.out (ji12) p166 q166
          obtain rfl : ad162 = ad166 := (by injection e166)
          have HR166_0 := Aside0.mk hi166_0
          have HC166_0 := Aside0.mk hl166_0
          clear hi166_0 hl166_0
          replace p166 := eq_true p166
          replace q166 := eq_true q166
          have ea_ := Option.some.inj (hx164_0.symm.trans hx166_0)
          injection ea_ with ea_ en_ ec_
          subst ea_
          subst ec_
          clear en_
          have p167 : 0 ≤ ((ji18) : Int) := oD
          have q167 : (ji18) < ((rd_L3 l0 (ji12)).length : Int) := oD
          obtain ⟨ad167, e167, hx167_0⟩ := Kd.at_bool HR166_0.out (ji18) p167 q167
          (try rw [← Nbq10.out] at hx167_0)
          (try rw [← Nbq16.out] at hx167_0)
          (try rw [← Nbq21.out] at hx167_0)
          cases e167
          replace p167 := eq_true p167
          replace q167 := eq_true q167
          go_wp2_with (first | (go_at_call 97; (with_reducible refine (spec_l4Apart.calls _ _ l0 ji4 ji12 true _ ?side1 ?side2 A23.out).mono ?_); (case side1 => repeat (first | exact HR0.out | (with_reducible refine Kd.C_alloc ?_ _) | (with_reducible refine Kd.C_drewN ?_ _) | (with_reducible refine Kd.C_drew ?_))); (case side2 => exact HC0.out); rintro e w' ⟨rfl, ⟨nd, rfl⟩⟩; (try first | exact ⟨rfl, _, World.drewN_drewN _ _ _⟩ | exact ⟨rfl, _, Eq.trans (World.drewN_drewN _ _ _) (congrArg (World.drewN _) (Nat.add_assoc _ _ _))⟩)) | (go_at_call 97; (with_reducible refine (spec_l4Apart.calls _ _ l0 ji7 ji18 true _ ?side1 ?side2 A25.out).mono ?_); (case side1 => repeat (first | exact HR0.out | (with_reducible refine Kd.C_alloc ?_ _) | (with_reducible refine Kd.C_drewN ?_ _) | (with_reducible refine Kd.C_drew ?_))); (case side2 => exact HC0.out); rintro e w' ⟨rfl, ⟨nd, rfl⟩⟩; (try first | exact ⟨rfl, _, World.drewN_drewN _ _ _⟩ | exact ⟨rfl, _, Eq.trans (World.drewN_drewN _ _ _) (congrArg (World.drewN _) (Nat.add_assoc _ _ _))⟩)) | (go_at_call 97; (with_reducible refine (spec_l4Apart.calls _ _ l0 ji4 ji18 true _ ?side1 ?side2 A27.out).mono ?_); (case side1 => repeat (first | exact HR0.out | (with_reducible refine Kd.C_alloc ?_ _) | (with_reducible refine Kd.C_drewN ?_ _) | (with_reducible refine Kd.C_drew ?_))); (case side2 => exact HC0.out); rintro e w' ⟨rfl, ⟨nd, rfl⟩⟩; (try first | exact ⟨rfl, _, World.drewN_drewN _ _ _⟩ | exact ⟨rfl, _, Eq.trans (World.drewN_drewN _ _ _) (congrArg (World.drewN _) (Nat.add_assoc _ _ _))⟩)))
          repeat (go_quiet (first | (go_at_call 97; (with_reducible refine (spec_l4Apart.calls _ _ l0 ji4 ji12 true _ ?side1 ?side2 A23.out).mono ?_); (case side1 => repeat (first | exact HR0.out | (with_reducible refine Kd.C_alloc ?_ _) | (with_reducible refine Kd.C_drewN ?_ _) | (with_reducible refine Kd.C_drew ?_))); (case side2 => exact HC0.out); rintro e w' ⟨rfl, ⟨nd, rfl⟩⟩; (try first | exact ⟨rfl, _, World.drewN_drewN _ _ _⟩ | exact ⟨rfl, _, Eq.trans (World.drewN_drewN _ _ _) (congrArg (World.drewN _) (Nat.add_assoc _ _ _))⟩)) | (go_at_call 97; (with_reducible refine (spec_l4Apart.calls _ _ l0 ji7 ji18 true _ ?side1 ?side2 A25.out).mono ?_); (case side1 => repeat (first | exact HR0.out | (with_reducible refine Kd.C_alloc ?_ _) | (with_reducible refine Kd.C_drewN ?_ _) | (with_reducible refine Kd.C_drew ?_))); (case side2 => exact HC0.out); rintro e w' ⟨rfl, ⟨nd, rfl⟩⟩; (try first | exact ⟨rfl, _, World.drewN_drewN _ _ _⟩ | exact ⟨rfl, _, Eq.trans (World.drewN_drewN _ _ _) (congrArg (World.drewN _) (Nat.add_assoc _ _ _))⟩)) | (go_at_call 97; (with_reducible refine (spec_l4Apart.calls _ _ l0 ji4 ji18 true _ ?side1 ?side2 A27.out).mono ?_); (case side1 => repeat (first | exact HR0.out | (with_reducible refine Kd.C_alloc ?_ _) | (with_reducible refine Kd.C_drewN ?_ _) | (with_reducible refine Kd.C_drew ?_))); (case side2 => exact HC0.out); rintro e w' ⟨rfl, ⟨nd, rfl⟩⟩; (try first | exact ⟨rfl, _, World.drewN_drewN _ _ _⟩ | exact ⟨rfl, _, Eq.trans (World.drewN_drewN _ _ _) (congrArg (World.drewN _) (Nat.add_assoc _ _ _))⟩))); try go_wp2_with (first | (go_at_call 97; (with_reducible refine (spec_l4Apart.calls _ _ l0 ji4 ji12 true _ ?side1 ?side2 A23.out).mono ?_); (case side1 => repeat (first | exact HR0.out | (with_reducible refine Kd.C_alloc ?_ _) | (with_reducible refine Kd.C_drewN ?_ _) | (with_reducible refine Kd.C_drew ?_))); (case side2 => exact HC0.out); rintro e w' ⟨rfl, ⟨nd, rfl⟩⟩; (try first | exact ⟨rfl, _, World.drewN_drewN _ _ _⟩ | exact ⟨rfl, _, Eq.trans (World.drewN_drewN _ _ _) (congrArg (World.drewN _) (Nat.add_assoc _ _ _))⟩)) | (go_at_call 97; (with_reducible refine (spec_l4Apart.calls _ _ l0 ji7 ji18 true _ ?side1 ?side2 A25.out).mono ?_); (case side1 => repeat (first | exact HR0.out | (with_reducible refine Kd.C_alloc ?_ _) | (with_reducible refine Kd.C_drewN ?_ _) | (with_reducible refine Kd.C_drew ?_))); (case side2 => exact HC0.out); rintro e w' ⟨rfl, ⟨nd, rfl⟩⟩; (try first | exact ⟨rfl, _, World.drewN_drewN _ _ _⟩ | exact ⟨rfl, _, Eq.trans (World.drewN_drewN _ _ _) (congrArg (World.drewN _) (Nat.add_assoc _ _ _))⟩)) | (go_at_call 97; (with_reducible refine (spec_l4Apart.calls _ _ l0 ji4 ji18 true _ ?side1 ?side2 A27.out).mono ?_); (case side1 => repeat (first | exact HR0.out | (with_reducible refine Kd.C_alloc ?_ _) | (with_reducible refine Kd.C_drewN ?_ _) | (with_reducible refine Kd.C_drew ?_))); (case side2 => exact HC0.out); rintro e w' ⟨rfl, ⟨nd, rfl⟩⟩; (try first | exact ⟨rfl, _, World.drewN_drewN _ _ _⟩ | exact ⟨rfl, _, Eq.trans (World.drewN_drewN _ _ _) (congrArg (World.drewN _) (Nat.add_assoc _ _ _))⟩))))
          go_ret
          exact ⟨by first | rfl | (simp; done) | (simp only [← hji4, ← hji7, ← hji12, ← hji18] <;> (first | rfl | simp)) | (simp [*]; done), by repeat (first | exact Drawn0.refl _ | apply Drawn0.step)⟩
         ·replace c28 := Bool.eq_false_iff.mpr c28
          subst c28
          have H1 : (spec_l4Parallel.l0 k1 l0 (l0.length : Int) (wrap64 (x4_1 + 1))) = some r := by rw [if_neg (show ¬ (false = true) by decide)] at H; exact H
          clear H
          have H := H1
          clear H1
          have H' := Aside0.mk H
          clear H
          have p162 : 0 ≤ ((ji4) : Int) := oD
          have q162 : (ji4) < (l0.length : Int) := oD
          obtain ⟨ad162, A162_0, c162_0, e162, hx162_0, hl162_0, hi162_0⟩ := at_L3 HR0.out (ji4) p162 q162
          cases e162
          have HR162_0 := Aside0.mk hi162_0
          have HC162_0 := Aside0.mk hl162_0
          clear hi162_0 hl162_0
          replace p162 := eq_true p162
          replace q162 := eq_true q162
          have p163 : 0 ≤ ((ji7) : Int) := oD
          have q163 : (ji7) < ((rd_L3 l0 (ji4)).length : Int) := oD
          obtain ⟨ad163, e163, hx163_0⟩ := Kd.at_bool HR162_0.out (ji7) p163 q163
          (try rw [← Nbq10.out] at hx163_0)
          (try rw [← Nbq16.out] at hx163_0)
          (try rw [← Nbq21.out] at hx163_0)
          cases e163
          replace p163 := eq_true p163
          replace q163 := eq_true q163
          have p164 : 0 ≤ ((ji12) : Int) := oD
          have q164 : (ji12) < (l0.length : Int) := oD
          obtain ⟨ad164, A164_0, c164_0, e164, hx164_0, hl164_0, hi164_0⟩ := at_L3 HR0.out (ji12) p164 q164
          obtain rfl : ad162 = ad164 := (by injection e164)
          have HR164_0 := Aside0.mk hi164_0
          have HC164_0 := Aside0.mk hl164_0
          clear hi164_0 hl164_0
          replace p164 := eq_true p164
          replace q164 := eq_true q164
          have p165 : 0 ≤ ((ji7) : Int) := oD
          have q165 : (ji7) < ((rd_L3 l0 (ji12)).length : Int) := oD
          obtain ⟨ad165, e165, hx165_0⟩ := Kd.at_bool HR164_0.out (ji7) p165 q165
          (try rw [← Nbq10.out] at hx165_0)
          (try rw [← Nbq16.out] at hx165_0)
          (try rw [← Nbq21.out] at hx165_0)
          cases e165
          replace p165 := eq_true p165
          replace q165 := eq_true q165
          have p166 : 0 ≤ ((ji12) : Int) := oD
          have q166 : (ji12) < (l0.length : Int) := oD
          obtain ⟨ad166, A166_0, c166_0, e166, hx166_0, hl166_0, hi166_0⟩ := at_L3 HR0.out (ji12) p166 q166
          obtain rfl : ad162 = ad166 := (by injection e166)
          have HR166_0 := Aside0.mk hi166_0
          have HC166_0 := Aside0.mk hl166_0
          clear hi166_0 hl166_0
          replace p166 := eq_true p166
          replace q166 := eq_true q166
          have ea_ := Option.some.inj (hx164_0.symm.trans hx166_0)
          injection ea_ with ea_ en_ ec_
          subst ea_
          subst ec_
          clear en_
          have p167 : 0 ≤ ((ji18) : Int) := oD
          have q167 : (ji18) < ((rd_L3 l0 (ji12)).length : Int) := oD
          obtain ⟨ad167, e167, hx167_0⟩ := Kd.at_bool HR166_0.out (ji18) p167 q167
          (try rw [← Nbq10.out] at hx167_0)
          (try rw [← Nbq16.out] at hx167_0)
          (try rw [← Nbq21.out] at hx167_0)
          cases e167
          replace p167 := eq_true p167
          replace q167 := eq_true q167
          go_wp2_with (first | (go_at_call 97; (with_reducible refine (spec_l4Apart.calls _ _ l0 ji4 ji12 true _ ?side1 ?side2 A23.out).mono ?_); (case side1 => repeat (first | exact HR0.out | (with_reducible refine Kd.C_alloc ?_ _) | (with_reducible refine Kd.C_drewN ?_ _) | (with_reducible refine Kd.C_drew ?_))); (case side2 => exact HC0.out); rintro e w' ⟨rfl, ⟨nd, rfl⟩⟩; (try first | exact ⟨rfl, _, World.drewN_drewN _ _ _⟩ | exact ⟨rfl, _, Eq.trans (World.drewN_drewN _ _ _) (congrArg (World.drewN _) (Nat.add_assoc _ _ _))⟩)) | (go_at_call 97; (with_reducible refine (spec_l4Apart.calls _ _ l0 ji7 ji18 true _ ?side1 ?side2 A25.out).mono ?_); (case side1 => repeat (first | exact HR0.out | (with_reducible refine Kd.C_alloc ?_ _) | (with_reducible refine Kd.C_drewN ?_ _) | (with_reducible refine Kd.C_drew ?_))); (case side2 => exact HC0.out); rintro e w' ⟨rfl, ⟨nd, rfl⟩⟩; (try first | exact ⟨rfl, _, World.drewN_drewN _ _ _⟩ | exact ⟨rfl, _, Eq.trans (World.drewN_drewN _ _ _) (congrArg (World.drewN _) (Nat.add_assoc _ _ _))⟩)) | (go_at_call 97; (with_reducible refine (spec_l4Apart.calls _ _ l0 ji4 ji18 false _ ?side1 ?side2 A27.out).mono ?_); (case side1 => repeat (first | exact HR0.out | (with_reducible refine Kd.C_alloc ?_ _) | (with_reducible refine Kd.C_drewN ?_ _) | (with_reducible refine Kd.C_drew ?_))); (case side2 => exact HC0.out); rintro e w' ⟨rfl, ⟨nd, rfl⟩⟩; (try first | exact ⟨rfl, _, World.drewN_drewN _ _ _⟩ | exact ⟨rfl, _, Eq.trans (World.drewN_drewN _ _ _) (congrArg (World.drewN _) (Nat.add_assoc _ _ _))⟩)))
          repeat (go_quiet (first | (go_at_call 97; (with_reducible refine (spec_l4Apart.calls _ _ l0 ji4 ji12 true _ ?side1 ?side2 A23.out).mono ?_); (case side1 => repeat (first | exact HR0.out | (with_reducible refine Kd.C_alloc ?_ _) | (with_reducible refine Kd.C_drewN ?_ _) | (with_reducible refine Kd.C_drew ?_))); (case side2 => exact HC0.out); rintro e w' ⟨rfl, ⟨nd, rfl⟩⟩; (try first | exact ⟨rfl, _, World.drewN_drewN _ _ _⟩ | exact ⟨rfl, _, Eq.trans (World.drewN_drewN _ _ _) (congrArg (World.drewN _) (Nat.add_assoc _ _ _))⟩)) | (go_at_call 97; (with_reducible refine (spec_l4Apart.calls _ _ l0 ji7 ji18 true _ ?side1 ?side2 A25.out).mono ?_); (case side1 => repeat (first | exact HR0.out | (with_reducible refine Kd.C_alloc ?_ _) | (with_reducible refine Kd.C_drewN ?_ _) | (with_reducible refine Kd.C_drew ?_))); (case side2 => exact HC0.out); rintro e w' ⟨rfl, ⟨nd, rfl⟩⟩; (try first | exact ⟨rfl, _, World.drewN_drewN _ _ _⟩ | exact ⟨rfl, _, Eq.trans (World.drewN_drewN _ _ _) (congrArg (World.drewN _) (Nat.add_assoc _ _ _))⟩)) | (go_at_call 97; (with_reducible refine (spec_l4Apart.calls _ _ l0 ji4 ji18 false _ ?side1 ?side2 A27.out).mono ?_); (case side1 => repeat (first | exact HR0.out | (with_reducible refine Kd.C_alloc ?_ _) | (with_reducible refine Kd.C_drewN ?_ _) | (with_reducible refine Kd.C_drew ?_))); (case side2 => exact HC0.out); rintro e w' ⟨rfl, ⟨nd, rfl⟩⟩; (try first | exact ⟨rfl, _, World.drewN_drewN _ _ _⟩ | exact ⟨rfl, _, Eq.trans (World.drewN_drewN _ _ _) (congrArg (World.drewN _) (Nat.add_assoc _ _ _))⟩))); try go_wp2_with (first | (go_at_call 97; (with_reducible refine (spec_l4Apart.calls _ _ l0 ji4 ji12 true _ ?side1 ?side2 A23.out).mono ?_); (case side1 => repeat (first | exact HR0.out | (with_reducible refine Kd.C_alloc ?_ _) | (with_reducible refine Kd.C_drewN ?_ _) | (with_reducible refine Kd.C_drew ?_))); (case side2 => exact HC0.out); rintro e w' ⟨rfl, ⟨nd, rfl⟩⟩; (try first | exact ⟨rfl, _, World.drewN_drewN _ _ _⟩ | exact ⟨rfl, _, Eq.trans (World.drewN_drewN _ _ _) (congrArg (World.drewN _) (Nat.add_assoc _ _ _))⟩)) | (go_at_call 97; (with_reducible refine (spec_l4Apart.calls _ _ l0 ji7 ji18 true _ ?side1 ?side2 A25.out).mono ?_); (case side1 => repeat (first | exact HR0.out | (with_reducible refine Kd.C_alloc ?_ _) | (with_reducible refine Kd.C_drewN ?_ _) | (with_reducible refine Kd.C_drew ?_))); (case side2 => exact HC0.out); rintro e w' ⟨rfl, ⟨nd, rfl⟩⟩; (try first | exact ⟨rfl, _, World.drewN_drewN _ _ _⟩ | exact ⟨rfl, _, Eq.trans (World.drewN_drewN _ _ _) (congrArg (World.drewN _) (Nat.add_assoc _ _ _))⟩)) | (go_at_call 97; (with_reducible refine (spec_l4Apart.calls _ _ l0 ji4 ji18 false _ ?side1 ?side2 A27.out).mono ?_); (case side1 => repeat (first | exact HR0.out | (with_reducible refine Kd.C_alloc ?_ _) | (with_reducible refine Kd.C_drewN ?_ _) | (with_reducible refine Kd.C_drew ?_))); (case side2 => exact HC0.out); rintro e w' ⟨rfl, ⟨nd, rfl⟩⟩; (try first | exact ⟨rfl, _, World.drewN_drewN _ _ _⟩ | exact ⟨rfl, _, Eq.trans (World.drewN_drewN _ _ _) (congrArg (World.drewN _) (Nat.add_assoc _ _ _))⟩))))
          go_roundg k1
          case measure => have := HK1.out; omega
          case rel => exact ⟨(wrap64 (x4_1 + 1)), sD, H', ⟨by have := HK1.out; omega⟩, by repeat (first | exact Drawn0.refl _ | apply Drawn0.step)⟩
        ·replace c26 := Bool.eq_false_iff.mpr c26
         subst c26
         have H1 : (spec_l4Parallel.l0 k1 l0 (l0.length : Int) (wrap64 (x4_1 + 1))) = some r := by rw [if_neg (show ¬ (false = true) by decide)] at H; exact H
         clear H
         have H := H1
         clear H1
         have H' := Aside0.mk H
         clear H
         have p162 : 0 ≤ ((ji4) : Int) := oD
         have q162 : (ji4) < (l0.length : Int) := oD
         obtain ⟨ad162, A162_0, c162_0, e162, hx162_0, hl162_0, hi162_0⟩ := at_L3 HR0.out (ji4) p162 q162
         cases e162
         have HR162_0 := Aside0.mk hi162_0
         have HC162_0 := Aside0.mk hl162_0
         clear hi162_0 hl162_0
         replace p162 := eq_true p162
         replace q162 := eq_true q162
         have p163 : 0 ≤ ((ji7) : Int) := oD
         have q163 : (ji7) < ((rd_L3 l0 (ji4)).length : Int) := oD
         obtain ⟨ad163, e163, hx163_0⟩ := Kd.at_bool HR162_0.out (ji7) p163 q163
         (try rw [← Nbq10.out] at hx163_0)
         (try rw [← Nbq16.out] at hx163_0)
         (try rw [← Nbq21.out] at hx163_0)
         cases e163
         replace p163 := eq_true p163
         replace q163 := eq_true q163
         have p164 : 0 ≤ ((ji12) : Int) := oD
         have q164 : (ji12) < (l0.length : Int) := oD
         obtain ⟨ad164, A164_0, c164_0, e164, hx164_0, hl164_0, hi164_0⟩ := at_L3 HR0.out (ji12) p164 q164
         obtain rfl : ad162 = ad164 := (by injection e164)
         have HR164_0 := Aside0.mk hi164_0
         have HC164_0 := Aside0.mk hl164_0
         clear hi164_0 hl164_0
         replace p164 := eq_true p164
         replace q164 := eq_true q164
         have p165 : 0 ≤ ((ji7) : Int) := oD
         have q165 : (ji7) < ((rd_L3 l0 (ji12)).length : Int) := oD
         obtain ⟨ad165, e165, hx165_0⟩ := Kd.at_bool HR164_0.out (ji7) p165 q165
         (try rw [← Nbq10.out] at hx165_0)
         (try rw [← Nbq16.out] at hx165_0)
         (try rw [← Nbq21.out] at hx165_0)
         cases e165
         replace p165 := eq_true p165
         replace q165 := eq_true q165
         have p166 : 0 ≤ ((ji12) : Int) := oD
         have q166 : (ji12) < (l0.length : Int) := oD
         obtain ⟨ad166, A166_0, c166_0, e166, hx166_0, hl166_0, hi166_0⟩ := at_L3 HR0.out (ji12) p166 q166
         obtain rfl : ad162 = ad166 := (by injection e166)
         have HR166_0 := Aside0.mk hi166_0
         have HC166_0 := Aside0.mk hl166_0
         clear hi166_0 hl166_0
         replace p166 := eq_true p166
         replace q166 := eq_true q166
         have ea_ := Option.some.inj (hx164_0.symm.trans hx166_0)
         injection ea_ with ea_ en_ ec_
         subst ea_
         subst ec_
         clear en_
         have p167 : 0 ≤ ((ji18) : Int) := oD
         have q167 : (ji18) < ((rd_L3 l0 (ji12)).length : Int) := oD
         obtain ⟨ad167, e167, hx167_0⟩ := Kd.at_bool HR166_0.out (ji18) p167 q167
         (try rw [← Nbq10.out] at hx167_0)
         (try rw [← Nbq16.out] at hx167_0)
         (try rw [← Nbq21.out] at hx167_0)
         cases e167
         replace p167 := eq_true p167
         replace q167 := eq_true q167
         go_wp2_with (first | (go_at_call 97; (with_reducible refine (spec_l4Apart.calls _ _ l0 ji4 ji12 true _ ?side1 ?side2 A23.out).mono ?_); (case side1 => repeat (first | exact HR0.out | (with_reducible refine Kd.C_alloc ?_ _) | (with_reducible refine Kd.C_drewN ?_ _) | (with_reducible refine Kd.C_drew ?_))); (case side2 => exact HC0.out); rintro e w' ⟨rfl, ⟨nd, rfl⟩⟩; (try first | exact ⟨rfl, _, World.drewN_drewN _ _ _⟩ | exact ⟨rfl, _, Eq.trans (World.drewN_drewN _ _ _) (congrArg (World.drewN _) (Nat.add_assoc _ _ _))⟩)) | (go_at_call 97; (with_reducible refine (spec_l4Apart.calls _ _ l0 ji7 ji18 false _ ?side1 ?side2 A25.out).mono ?_); (case side1 => repeat (first | exact HR0.out | (with_reducible refine Kd.C_alloc ?_ _) | (with_reducible refine Kd.C_drewN ?_ _) | (with_reducible refine Kd.C_drew ?_))); (case side2 => exact HC0.out); rintro e w' ⟨rfl, ⟨nd, rfl⟩⟩; (try first | exact ⟨rfl, _, World.drewN_drewN _ _ _⟩ | exact ⟨rfl, _, Eq.trans (World.drewN_drewN _ _ _) (congrArg (World.drewN _) (Nat.add_assoc _ _ _))⟩)))
         repeat (go_quiet (first | (go_at_call 97; (with_reducible refine (spec_l4Apart.calls _ _ l0 ji4 ji12 true _ ?side1 ?side2 A23.out).mono ?_); (case side1 => repeat (first | exact HR0.out | (with_reducible refine Kd.C_alloc ?_ _) | (with_reducible refine Kd.C_drewN ?_ _) | (with_reducible refine Kd.C_drew ?_))); (case side2 => exact HC0.out); rintro e w' ⟨rfl, ⟨nd, rfl⟩⟩; (try first | exact ⟨rfl, _, World.drewN_drewN _ _ _⟩ | exact ⟨rfl, _, Eq.trans (World.drewN_drewN _ _ _) (congrArg (World.drewN _) (Nat.add_assoc _ _ _))⟩)) | (go_at_call 97; (with_reducible refine (spec_l4Apart.calls _ _ l0 ji7 ji18 false _ ?side1 ?side2 A25.out).mono ?_); (case side1 => repeat (first | exact HR0.out | (with_reducible refine Kd.C_alloc ?_ _) | (with_reducible refine Kd.C_drewN ?_ _) | (with_reducible refine Kd.C_drew ?_))); (case side2 => exact HC0.out); rintro e w' ⟨rfl, ⟨nd, rfl⟩⟩; (try first | exact ⟨rfl, _, World.drewN_drewN _ _ _⟩ | exact ⟨rfl, _, Eq.trans (World.drewN_drewN _ _ _) (congrArg (World.drewN _) (Nat.add_assoc _ _ _))⟩))); try go_wp2_with (first | (go_at_call 97; (with_reducible refine (spec_l4Apart.calls _ _ l0 ji4 ji12 true _ ?side1 ?side2 A23.out).mono ?_); (case side1 => repeat (first | exact HR0.out | (with_reducible refine Kd.C_alloc ?_ _) | (with_reducible refine Kd.C_drewN ?_ _) | (with_reducible refine Kd.C_drew ?_))); (case side2 => exact HC0.out); rintro e w' ⟨rfl, ⟨nd, rfl⟩⟩; (try first | exact ⟨rfl, _, World.drewN_drewN _ _ _⟩ | exact ⟨rfl, _, Eq.trans (World.drewN_drewN _ _ _) (congrArg (World.drewN _) (Nat.add_assoc _ _ _))⟩)) | (go_at_call 97; (with_reducible refine (spec_l4Apart.calls _ _ l0 ji7 ji18 false _ ?side1 ?side2 A25.out).mono ?_); (case side1 => repeat (first | exact HR0.out | (with_reducible refine Kd.C_alloc ?_ _) | (with_reducible refine Kd.C_drewN ?_ _) | (with_reducible refine Kd.C_drew ?_))); (case side2 => exact HC0.out); rintro e w' ⟨rfl, ⟨nd, rfl⟩⟩; (try first | exact ⟨rfl, _, World.drewN_drewN _ _ _⟩ | exact ⟨rfl, _, Eq.trans (World.drewN_drewN _ _ _) (congrArg (World.drewN _) (Nat.add_assoc _ _ _))⟩))))
         go_roundg k1
         case measure => have := HK1.out; omega
         case rel => exact ⟨(wrap64 (x4_1 + 1)), sD, H', ⟨by have := HK1.out; omega⟩, by repeat (first | exact Drawn0.refl _ | apply Drawn0.step)⟩
       ·replace c24 := Bool.eq_false_iff.mpr c24
        subst c24
        have H1 : (spec_l4Parallel.l0 k1 l0 (l0.length : Int) (wrap64 (x4_1 + 1))) = some r := by rw [if_neg (show ¬ (false = true) by decide)] at H; exact H
        clear H
        have H := H1
        clear H1
        have H' := Aside0.mk H
        clear H
        have p162 : 0 ≤ ((ji4) : Int) := oD
        have q162 : (ji4) < (l0.length : Int) := oD
        obtain ⟨ad162, A162_0, c162_0, e162, hx162_0, hl162_0, hi162_0⟩ := at_L3 HR0.out (ji4) p162 q162
        cases e162
        have HR162_0 := Aside0.mk hi162_0
        have HC162_0 := Aside0.mk hl162_0
        clear hi162_0 hl162_0
        replace p162 := eq_true p162
        replace q162 := eq_true q162
        have p163 : 0 ≤ ((ji7) : Int) := oD
        have q163 : (ji7) < ((rd_L3 l0 (ji4)).length : Int) := oD
        obtain ⟨ad163, e163, hx163_0⟩ := Kd.at_bool HR162_0.out (ji7) p163 q163
        (try rw [← Nbq10.out] at hx163_0)
        (try rw [← Nbq16.out] at hx163_0)
        (try rw [← Nbq21.out] at hx163_0)
        cases e163
        replace p163 := eq_true p163
        replace q163 := eq_true q163
        have p164 : 0 ≤ ((ji12) : Int) := oD
        have q164 : (ji12) < (l0.length : Int) := oD
        obtain ⟨ad164, A164_0, c164_0, e164, hx164_0, hl164_0, hi164_0⟩ := at_L3 HR0.out (ji12) p164 q164
        obtain rfl : ad162 = ad164 := (by injection e164)
        have HR164_0 := Aside0.mk hi164_0
        have HC164_0 := Aside0.mk hl164_0
        clear hi164_0 hl164_0
        replace p164 := eq_true p164
        replace q164 := eq_true q164
        have p165 : 0 ≤ ((ji7) : Int) := oD
        have q165 : (ji7) < ((rd_L3 l0 (ji12)).length : Int) := oD
        obtain ⟨ad165, e165, hx165_0⟩ := Kd.at_bool HR164_0.out (ji7) p165 q165
        (try rw [← Nbq10.out] at hx165_0)
        (try rw [← Nbq16.out] at hx165_0)
        (try rw [← Nbq21.out] at hx165_0)
        cases e165
        replace p165 := eq_true p165
        replace q165 := eq_true q165
        have p166 : 0 ≤ ((ji12) : Int) := oD
        have q166 : (ji12) < (l0.length : Int) := oD
        obtain ⟨ad166, A166_0, c166_0, e166, hx166_0, hl166_0, hi166_0⟩ := at_L3 HR0.out (ji12) p166 q166
        obtain rfl : ad162 = ad166 := (by injection e166)
        have HR166_0 := Aside0.mk hi166_0
        have HC166_0 := Aside0.mk hl166_0
        clear hi166_0 hl166_0
        replace p166 := eq_true p166
        replace q166 := eq_true q166
        have ea_ := Option.some.inj (hx164_0.symm.trans hx166_0)
        injection ea_ with ea_ en_ ec_
        subst ea_
        subst ec_
        clear en_
        have p167 : 0 ≤ ((ji18) : Int) := oD
        have q167 : (ji18) < ((rd_L3 l0 (ji12)).length : Int) := oD
        obtain ⟨ad167, e167, hx167_0⟩ := Kd.at_bool HR166_0.out (ji18) p167 q167
        (try rw [← Nbq10.out] at hx167_0)
        (try rw [← Nbq16.out] at hx167_0)
        (try rw [← Nbq21.out] at hx167_0)
        cases e167
        replace p167 := eq_true p167
        replace q167 := eq_true q167
        go_wp2_with (first | (go_at_call 97; (with_reducible refine (spec_l4Apart.calls _ _ l0 ji4 ji12 false _ ?side1 ?side2 A23.out).mono ?_); (case side1 => repeat (first | exact HR0.out | (with_reducible refine Kd.C_alloc ?_ _) | (with_reducible refine Kd.C_drewN ?_ _) | (with_reducible refine Kd.C_drew ?_))); (case side2 => exact HC0.out); rintro e w' ⟨rfl, ⟨nd, rfl⟩⟩; (try first | exact ⟨rfl, _, World.drewN_drewN _ _ _⟩ | exact ⟨rfl, _, Eq.trans (World.drewN_drewN _ _ _) (congrArg (World.drewN _) (Nat.add_assoc _ _ _))⟩)))
        repeat (go_quiet (first | (go_at_call 97; (with_reducible refine (spec_l4Apart.calls _ _ l0 ji4 ji12 false _ ?side1 ?side2 A23.out).mono ?_); (case side1 => repeat (first | exact HR0.out | (with_reducible refine Kd.C_alloc ?_ _) | (with_reducible refine Kd.C_drewN ?_ _) | (with_reducible refine Kd.C_drew ?_))); (case side2 => exact HC0.out); rintro e w' ⟨rfl, ⟨nd, rfl⟩⟩; (try first | exact ⟨rfl, _, World.drewN_drewN _ _ _⟩ | exact ⟨rfl, _, Eq.trans (World.drewN_drewN _ _ _) (congrArg (World.drewN _) (Nat.add_assoc _ _ _))⟩))); try go_wp2_with (first | (go_at_call 97; (with_reducible refine (spec_l4Apart.calls _ _ l0 ji4 ji12 false _ ?side1 ?side2 A23.out).mono ?_); (case side1 => repeat (first | exact HR0.out | (with_reducible refine Kd.C_alloc ?_ _) | (with_reducible refine Kd.C_drewN ?_ _) | (with_reducible refine Kd.C_drew ?_))); (case side2 => exact HC0.out); rintro e w' ⟨rfl, ⟨nd, rfl⟩⟩; (try first | exact ⟨rfl, _, World.drewN_drewN _ _ _⟩ | exact ⟨rfl, _, Eq.trans (World.drewN_drewN _ _ _) (congrArg (World.drewN _) (Nat.add_assoc _ _ _))⟩))))
        go_roundg k1
        case measure => have := HK1.out; omega
        case rel => exact ⟨(wrap64 (x4_1 + 1)), sD, H', ⟨by have := HK1.out; omega⟩, by repeat (first | exact Drawn0.refl _ | apply Drawn0.step)⟩
      ·replace c22 := Bool.eq_false_iff.mpr c22
       subst c22
       have H1 : (spec_l4Parallel.l0 k1 l0 (l0.length : Int) (wrap64 (x4_1 + 1))) = some r := by rw [if_neg (show ¬ (false = true) by decide)] at H; exact H
       clear H
       have H := H1
       clear H1
       have H' := Aside0.mk H
       clear H
       have p162 : 0 ≤ ((ji4) : Int) := oD
       have q162 : (ji4) < (l0.length : Int) := oD
       obtain ⟨ad162, A162_0, c162_0, e162, hx162_0, hl162_0, hi162_0⟩ := at_L3 HR0.out (ji4) p162 q162
       cases e162
       have HR162_0 := Aside0.mk hi162_0
       have HC162_0 := Aside0.mk hl162_0
       clear hi162_0 hl162_0
       replace p162 := eq_true p162
       replace q162 := eq_true q162
       have p163 : 0 ≤ ((ji7) : Int) := oD
       have q163 : (ji7) < ((rd_L3 l0 (ji4)).length : Int) := oD
       obtain ⟨ad163, e163, hx163_0⟩ := Kd.at_bool HR162_0.out (ji7) p163 q163
       (try rw [← Nbq10.out] at hx163_0)
       (try rw [← Nbq16.out] at hx163_0)
       (try rw [← Nbq21.out] at hx163_0)
       cases e163
       replace p163 := eq_true p163
       replace q163 := eq_true q163
       have p164 : 0 ≤ ((ji12) : Int) := oD
       have q164 : (ji12) < (l0.length : Int) := oD
       obtain ⟨ad164, A164_0, c164_0, e164, hx164_0, hl164_0, hi164_0⟩ := at_L3 HR0.out (ji12) p164 q164
       obtain rfl : ad162 = ad164 := (by injection e164)
       have HR164_0 := Aside0.mk hi164_0
       have HC164_0 := Aside0.mk hl164_0
       clear hi164_0 hl164_0
       replace p164 := eq_true p164
       replace q164 := eq_true q164
       have p165 : 0 ≤ ((ji7) : Int) := oD
       have q165 : (ji7) < ((rd_L3 l0 (ji12)).length : Int) := oD
       obtain ⟨ad165, e165, hx165_0⟩ := Kd.at_bool HR164_0.out (ji7) p165 q165
       (try rw [← Nbq10.out] at hx165_0)
       (try rw [← Nbq16.out] at hx165_0)
       (try rw [← Nbq21.out] at hx165_0)
       cases e165
       replace p165 := eq_true p165
       replace q165 := eq_true q165
       have p166 : 0 ≤ ((ji12) : Int) := oD
       have q166 : (ji12) < (l0.length : Int) := oD
       obtain ⟨ad166, A166_0, c166_0, e166, hx166_0, hl166_0, hi166_0⟩ := at_L3 HR0.out (ji12) p166 q166
       obtain rfl : ad162 = ad166 := (by injection e166)
       have HR166_0 := Aside0.mk hi166_0
       have HC166_0 := Aside0.mk hl166_0
       clear hi166_0 hl166_0
       replace p166 := eq_true p166
       replace q166 := eq_true q166
       have ea_ := Option.some.inj (hx164_0.symm.trans hx166_0)
       injection ea_ with ea_ en_ ec_
       subst ea_
       subst ec_
       clear en_
       have p167 : 0 ≤ ((ji18) : Int) := oD
       have q167 : (ji18) < ((rd_L3 l0 (ji12)).length : Int) := oD
       obtain ⟨ad167, e167, hx167_0⟩ := Kd.at_bool HR166_0.out (ji18) p167 q167
       (try rw [← Nbq10.out] at hx167_0)
       (try rw [← Nbq16.out] at hx167_0)
       (try rw [← Nbq21.out] at hx167_0)
       cases e167
       replace p167 := eq_true p167
       replace q167 := eq_true q167
       go_wp2
       repeat (go_quiet (fail); try go_wp2)
       go_roundg k1
       case measure => have := HK1.out; omega
       case rel => exact ⟨(wrap64 (x4_1 + 1)), sD, H', ⟨by have := HK1.out; omega⟩, by repeat (first | exact Drawn0.refl _ | apply Drawn0.step)⟩
     ·replace c17 := Bool.eq_false_iff.mpr c17
      subst c17
      have H1 : (spec_l4Parallel.l0 k1 l0 (l0.length : Int) (wrap64 (x4_1 + 1))) = some r := by rw [if_neg (show ¬ (false = true) by decide)] at H; exact H
      clear H
      have H := H1
      clear H1
      have H' := Aside0.mk H
      clear H
      have p162 : 0 ≤ ((ji4) : Int) := oD
      have q162 : (ji4) < (l0.length : Int) := oD
      obtain ⟨ad162, A162_0, c162_0, e162, hx162_0, hl162_0, hi162_0⟩ := at_L3 HR0.out (ji4) p162 q162
      cases e162
      have HR162_0 := Aside0.mk hi162_0
      have HC162_0 := Aside0.mk hl162_0
      clear hi162_0 hl162_0
      replace p162 := eq_true p162
      replace q162 := eq_true q162
      have p163 : 0 ≤ ((ji7) : Int) := oD
      have q163 : (ji7) < ((rd_L3 l0 (ji4)).length : Int) := oD
      obtain ⟨ad163, e163, hx163_0⟩ := Kd.at_bool HR162_0.out (ji7) p163 q163
      (try rw [← Nbq10.out] at hx163_0)
      (try rw [← Nbq16.out] at hx163_0)
      cases e163
      replace p163 := eq_true p163
      replace q163 := eq_true q163
      have p164 : 0 ≤ ((ji12) : Int) := oD
      have q164 : (ji12) < (l0.length : Int) := oD
      obtain ⟨ad164, A164_0, c164_0, e164, hx164_0, hl164_0, hi164_0⟩ := at_L3 HR0.out (ji12) p164 q164
      obtain rfl : ad162 = ad164 := (by injection e164)
      have HR164_0 := Aside0.mk hi164_0
      have HC164_0 := Aside0.mk hl164_0
      clear hi164_0 hl164_0
      replace p164 := eq_true p164
      replace q164 := eq_true q164
      have p165 : 0 ≤ ((ji7) : Int) := oD
      have q165 : (ji7) < ((rd_L3 l0 (ji12)).length : Int) := oD
      obtain ⟨ad165, e165, hx165_0⟩ := Kd.at_bool HR164_0.out (ji7) p165 q165
      (try rw [← Nbq10.out] at hx165_0)
      (try rw [← Nbq16.out] at hx165_0)
      cases e165
      replace p165 := eq_true p165
      replace q165 := eq_true q165
      go_wp2
      repeat (go_quiet (fail); try go_wp2)
      go_roundg k1
      case measure => have := HK1.out; omega
      case rel => exact ⟨(wrap64 (x4_1 + 1)), sD, H', ⟨by have := HK1.out; omega⟩, by repeat (first | exact Drawn0.refl _ | apply Drawn0.step)⟩
    ·replace c11 := Bool.eq_false_iff.mpr c11
     subst c11
     have H1 : (spec_l4Parallel.l0 k1 l0 (l0.length : Int) (wrap64 (x4_1 + 1))) = some r := by rw [if_neg (show ¬ (false = true) by decide)] at H; exact H
     clear H
     have H := H1
     clear H1
     have H' := Aside0.mk H
     clear H
     have p162 : 0 ≤ ((ji4) : Int) := oD
     have q162 : (ji4) < (l0.length : Int) := oD
     obtain ⟨ad162, A162_0, c162_0, e162, hx162_0, hl162_0, hi162_0⟩ := at_L3 HR0.out (ji4) p162 q162
     cases e162
     have HR162_0 := Aside0.mk hi162_0
     have HC162_0 := Aside0.mk hl162_0
     clear hi162_0 hl162_0
     replace p162 := eq_true p162
     replace q162 := eq_true q162
     have p163 : 0 ≤ ((ji7) : Int) := oD
     have q163 : (ji7) < ((rd_L3 l0 (ji4)).length : Int) := oD
     obtain ⟨ad163, e163, hx163_0⟩ := Kd.at_bool HR162_0.out (ji7) p163 q163
     (try rw [← Nbq10.out] at hx163_0)
     cases e163
     replace p163 := eq_true p163
     replace q163 := eq_true q163
     go_wp2
     repeat (go_quiet (fail); try go_wp2)
     go_roundg k1
     case measure => have := HK1.out; omega
     case rel => exact ⟨(wrap64 (x4_1 + 1)), sD, H', ⟨by have := HK1.out; omega⟩, by repeat (first | exact Drawn0.refl _ | apply Drawn0.step)⟩
   ·rw [if_neg c2] at H
    have c2b0 : decide (x4_1 < (wrap64 ((wrap64 ((wrap64 ((l0.length : Int) * (l0.length : Int))) * (l0.length : Int))) * (l0.length : Int)))) = false := decide_eq_false c2
    clear c2
    obtain rfl := Option.some.inj H
    go_wp2
    repeat (go_quiet (fail); try go_wp2)
    go_ret
    exact ⟨by first | rfl | (simp; done) | (simp [*]; done), by repeat (first | exact Drawn0.refl _ | apply Drawn0.step)⟩

/-! ### spec_IsSeriesParallel: function 39 -/
def spec_IsSeriesParallel.f (k : Nat) (a0 : Int) (l1 : List (S63)) : Option (Bool × Bool) := (spec_l4Good.f k a0 l1).bind fun t171 => (if t171 = true then ((spec_l4Table.f k a0 l1).bind fun t172 => ((spec_l4Parallel.f k t172).bind fun t175 => (some (t175, true)))) else (some (false, false)))
theorem spec_IsSeriesParallel.mono : ∀ a0 a1 k, LeO (spec_IsSeriesParallel.f k a0 a1) (spec_IsSeriesParallel.f (k + 1) a0 a1) := by
 intro a0 a1 k
 unfold spec_IsSeriesParallel.f
 repeat' first
   | (with_reducible exact spec_l4Good.mono _ _ _)
   | (with_reducible exact spec_l4Parallel.mono _ _)
   | (with_reducible exact spec_l4Table.mono _ _ _)
   | (with_reducible exact LeO.refl _)
   | (with_reducible exact LeO.none _)
   | (with_reducible refine LeO.ite ?_ ?_)
   | (with_reducible refine LeO.bind ?_ (fun _ => ?_))
   | exact spec_l4Good.mono _ _ _
   | exact spec_l4Parallel.mono _ _
   | exact spec_l4Table.mono _ _ _
   | exact LeO.none _
   | refine LeO.ite ?_ ?_
   | refine LeO.bind ?_ (fun _ => ?_)
set_option maxHeartbeats 8000000 in
set_option maxRecDepth 100000 in
theorem spec_IsSeriesParallel.calls (k : Nat) (a0 : Int) (A1 : Option Addr) (c1 : Nat) (l1 : List (S63)) (r1 : Bool) (r2 : Bool) (w : World) (hr1 : Kd.C k63 w A1 l1.length l1) (hc1 : l1.length ≤ c1) (h : spec_IsSeriesParallel.f k a0 l1 = some (r1, r2)) :
  Calls Try.prog 39 #[.int .i64 a0, .slice A1 l1.length c1] w fun e w' => e = .returned (.tuple #[.bool r1, .bool r2]) ∧ Below w.heap.size w w' := by
 have HR1 := Aside0.mk hr1
 have HC1 := Aside0.mk hc1
 clear hr1 hc1
 have HB := Aside0.mk (Below.refl w.heap.size w)
 have H : ((spec_l4Good.f k a0 l1).bind fun t171 => (if t171 = true then ((spec_l4Table.f k a0 l1).bind fun t172 => ((spec_l4Parallel.f k t172).bind fun t175 => (some (t175, true)))) else (some (false, false)))) = some (r1, r2) := h
 clear h
 replace H := Option.bind_eq_some_iff.mp H
 obtain ⟨t171, A30, H⟩ := H
 replace H : (if t171 = true then ((spec_l4Table.f k a0 l1).bind fun t172 => ((spec_l4Parallel.f k t172).bind fun t175 => (some (t175, true)))) else (some (false, false))) = some (r1, r2) := H
 have A3 := Aside0.mk A30
 clear A30
 by_cases c4 : t171 = true
 ·subst c4
  have H1 : ((spec_l4Table.f k a0 l1).bind fun t172 => ((spec_l4Parallel.f k t172).bind fun t175 => (some (t175, true)))) = some (r1, r2) := by rw [if_pos rfl] at H; exact H
  clear H
  have H := H1
  clear H1
  replace H := Option.bind_eq_some_iff.mp H
  obtain ⟨t172, A50, H⟩ := H
  replace H : ((spec_l4Parallel.f k t172).bind fun t175 => (some (t175, true))) = some (r1, r2) := H
  have A5 := Aside0.mk A50
  clear A50
  replace H := Option.bind_eq_some_iff.mp H
  obtain ⟨t175, A60, H⟩ := H
  replace H : (some (t175, true)) = some (r1, r2) := H
  have A6 := Aside0.mk A60
  clear A60
  simp only [Option.some.injEq, Prod.mk.injEq] at H
  obtain ⟨rfl, rfl⟩ := H
  go_enter Try.func39, Try.ntmps39
  go_wp2_with (first | ((with_reducible refine gate_callee (f := 58) rfl ?_); refine goesL_ (some 8) rfl rfl Try.func58 (by kernel_rfl) rfl #[.int .i64 a0, .slice A1 l1.length c1] rfl aE ?_; (with_reducible refine (spec_l4Good.calls k a0 _ _ l1 true _ ?side1 ?side2 A3.out).mono ?_); (case side1 => repeat (first | exact HR1.out | (with_reducible refine Kd.C_alloc ?_ _) | (with_reducible refine Kd.C_drewN ?_ _) | (with_reducible refine Kd.C_drew ?_))); (case side2 => exact HC1.out); rintro e w7 ⟨rfl, hb⟩; refine ⟨_, rfl, ?_⟩; have n0_ := Aside0.mk (below_step bB hb); clear HB; have HB := n0_; clear n0_; (try clear hb); (try clear hb2); (try clear hk); (try clear hi)) | ((with_reducible refine gate_callee (f := 79) rfl ?_); refine goesL_ (some 12) rfl rfl Try.func79 (by kernel_rfl) rfl #[.int .i64 a0, .slice A1 l1.length c1] rfl aE ?_; (with_reducible refine (spec_l4Table.calls k a0 _ _ l1 t172 _ ?side1 ?side2 A5.out).mono ?_); (case side1 => repeat (first | exact (Kd.C_below HR1.out HB.out) | (with_reducible refine Kd.C_alloc ?_ _) | (with_reducible refine Kd.C_drewN ?_ _) | (with_reducible refine Kd.C_drew ?_))); (case side2 => exact HC1.out); rintro e w8 ⟨v173, rfl, ho0, hb⟩; refine ⟨_, rfl, ?_⟩; have n0_ := Aside0.mk (Kd.S_lower ho0 (below_size bB)); have n1_ := Aside0.mk (below_step bB hb); clear HB; have HO174 := n0_; have HB := n1_; clear n0_ n1_; (try clear hb); (try clear hb2); (try clear hk); (try clear hi); (try clear ho0); obtain ⟨Ao9, co9, eo9⟩ := Kd.S_slice HO174.out; subst eo9) | ((with_reducible refine gate_callee (f := 78) rfl ?_); refine goesL_ (some 13) rfl rfl Try.func78 (by kernel_rfl) rfl #[.slice Ao9 t172.length co9] rfl aE ?_; (with_reducible refine (spec_l4Parallel.calls k _ _ t172 t175 _ ?side1 ?side2 A6.out).mono ?_); (case side1 => repeat (first | exact (Kd.S_reads' HO174.out).2.2 | (with_reducible refine Kd.C_alloc ?_ _) | (with_reducible refine Kd.C_drewN ?_ _) | (with_reducible refine Kd.C_drew ?_))); (case side2 => exact (Kd.S_reads' HO174.out).2.1); rintro e w' ⟨rfl, ⟨nd, rfl⟩⟩; refine ⟨_, rfl, ?_⟩))
  go_ret2
  exact ⟨rE, bB⟩
 ·replace c4 := Bool.eq_false_iff.mpr c4
  subst c4
  have H1 : (some (false, false)) = some (r1, r2) := by rw [if_neg (show ¬ (false = true) by decide)] at H; exact H
  clear H
  have H := H1
  clear H1
  simp only [Option.some.injEq, Prod.mk.injEq] at H
  obtain ⟨rfl, rfl⟩ := H
  go_enter Try.func39, Try.ntmps39
  go_wp2_with (first | ((with_reducible refine gate_callee (f := 58) rfl ?_); refine goesL_ (some 8) rfl rfl Try.func58 (by kernel_rfl) rfl #[.int .i64 a0, .slice A1 l1.length c1] rfl aE ?_; (with_reducible refine (spec_l4Good.calls k a0 _ _ l1 false _ ?side1 ?side2 A3.out).mono ?_); (case side1 => repeat (first | exact HR1.out | (with_reducible refine Kd.C_alloc ?_ _) | (with_reducible refine Kd.C_drewN ?_ _) | (with_reducible refine Kd.C_drew ?_))); (case side2 => exact HC1.out); rintro e w10 ⟨rfl, hb⟩; refine ⟨_, rfl, ?_⟩; have n0_ := Aside0.mk (below_step bB hb); clear HB; have HB := n0_; clear n0_; (try clear hb); (try clear hb2); (try clear hk); (try clear hi)))
  go_ret2
  exact ⟨rE, bB⟩

/-! ### impl_within: function 60 -/
def impl_within.f (a0 : Int) (a1 : Int) (a2 : Int) : Option (Bool) := if a1 ≤ a0 then (some (decide (a0 ≤ a2))) else (some false)
set_option maxHeartbeats 8000000 in
set_option maxRecDepth 100000 in
theorem impl_within.calls (a0 : Int) (a1 : Int) (a2 : Int) (r : Bool) (w : World) (h : impl_within.f a0 a1 a2 = some r) :
  Calls Try.prog 60 #[.int .i64 a0, .int .i64 a1, .int .i64 a2] w fun e w' => e = .returned (.bool r) ∧ Drawn0 w w' := by
 have H : (if a1 ≤ a0 then (some (decide (a0 ≤ a2))) else (some false)) = some r := h
 clear h
 by_cases c4 : a1 ≤ a0
 ·rw [if_pos c4] at H
  have c4b0 : decide (a1 ≤ a0) = true := decide_eq_true c4
  clear c4
  obtain rfl := Option.some.inj H
  go_enter Try.func60, Try.ntmps60
  go_wp2
  go_ret
  exact ⟨by first | rfl | (simp; done) | (simp [*]; done), by repeat (first | exact Drawn0.refl _ | apply Drawn0.step)⟩
 ·rw [if_neg c4] at H
  have c4b0 : decide (a1 ≤ a0) = false := decide_eq_false c4
  clear c4
  obtain rfl := Option.some.inj H
  go_enter Try.func60, Try.ntmps60
  go_wp2
  go_ret
  exact ⟨by first | rfl | (simp; done) | (simp [*]; done), by repeat (first | exact Drawn0.refl _ | apply Drawn0.step)⟩

/-! ### impl_isNumber: function 61 -/
def impl_isNumber.f (a0 : Int) (a1 : Int) : Option (Bool) := (impl_within.f a0 0 (wrap64 (a1 - 1))).bind fun t176 => (some t176)
set_option maxHeartbeats 8000000 in
set_option maxRecDepth 100000 in
theorem impl_isNumber.calls (a0 : Int) (a1 : Int) (r : Bool) (w : World) (h : impl_isNumber.f a0 a1 = some r) :
  Calls Try.prog 61 #[.int .i64 a0, .int .i64 a1] w fun e w' => e = .returned (.bool r) ∧ Drawn0 w w' := by
 have H : ((impl_within.f a0 0 (wrap64 (a1 - 1))).bind fun t176 => (some t176)) = some r := h
 clear h
 replace H := Option.bind_eq_some_iff.mp H
 obtain ⟨t176, A30, H⟩ := H
 replace H : (some t176) = some r := H
 have A3 := Aside0.mk A30
 clear A30
 obtain rfl := Option.some.inj H
 go_enter Try.func61, Try.ntmps61
 go_wp2_with (first | ((with_reducible refine gate_callee (f := 60) rfl ?_); refine goesL_ (some 8) rfl rfl Try.func60 (by kernel_rfl) rfl #[.int .i64 a0, .int .i64 0, .int .i64 (wrap64 (a1 - 1))] rfl aE ?_; (with_reducible refine (impl_within.calls a0 0 (wrap64 (a1 - 1)) t176 _ A3.out).mono ?_); rintro e w' ⟨rfl, ⟨nd, rfl⟩⟩; refine ⟨_, rfl, ?_⟩))
 go_ret
 exact ⟨by first | rfl | (simp; done) | (simp [*]; done), by repeat (first | exact Drawn0.refl _ | apply Drawn0.step)⟩

end Go.Proofs.Ytafhfmggehaknaa.OFnExactIsSeriesParallel
