/- Functions of the program as plain Lean functions, with their contracts: written by this session's program ownprint.py. Conditions: none. -/
import Derived.Test.YtecdigebnhlfhaaOFnExactPlanLengthx0
import Derived.Test.YtecdigebnhlfhaaOFnExactPlanLengthx8
import Derived.Test.YtecdigebnhlfhaaOFnExactPlanLengthx9
namespace Go.Proofs.Ytecdigebnhlfhaa.OFnExactPlanLength
open Go.RowKit Go.Proofs.YtecdigebnhlfhaaW.PrintWords Go.Proofs.YtecdigebnhlfhaaW.PrintLast Go.Proofs.YtecdigebnhlfhaaW.PrintMore
attribute [local go_sem] max2_int min2_int max_two min_two max_three min_three max_four min_four   -- for this text's walks alone
set_option linter.unusedVariables false
set_option linter.unusedSimpArgs false

/-! ### impl_isPlan: function 83 -/
mutual
def impl_isPlan.l0 : Nat → List (S79) → Int → List (S91) → List (List Bool) → List (S91) → Int → Int → Option (Bool)
 | 0, _, _, _, _, _, _, _ => none
 | k + 1, x0, x1, x3, x9, x26, x27, x28 => if x28 < x27 then (if 0 ≤ x28 then (if x28 < (x26.length : Int) then (if ((rd_T91 x26 x28).f0) = x28 then ((impl_isNumber.f ((rd_T91 x26 x28).f1) x1).bind fun t286 => (if t286 = true then ((impl_isDate.f ((rd_T91 x26 x28).f2)).bind fun t287 => (if t287 = true then (impl_isPlan.l0 k x0 x1 x3 x9 x26 x27 (wrap64 (x28 + 1))) else (some false))) else (some false))) else (some false)) else (none)) else (none)) else (impl_isPlan.l1 k x0 x3 x9 x3 (x3.length : Int) 0)
def impl_isPlan.l1 : Nat → List (S79) → List (S91) → List (List Bool) → List (S91) → Int → Int → Option (Bool)
 | 0, _, _, _, _, _, _ => none
 | k + 1, x0, x3, x9, x51, x52, x53 => if x53 < x52 then (if 0 ≤ x53 then (if x53 < (x51.length : Int) then (impl_isPlan.l2 k x0 x3 x9 x53 x51 x52 x53 x3 (x3.length : Int) 0 ((rd_T91 x51 x53).f0) ((rd_T91 x51 x53).f1) ((rd_T91 x51 x53).f2)) else (none)) else (none)) else (some true)
def impl_isPlan.l2 : Nat → List (S79) → List (S91) → List (List Bool) → Int → List (S91) → Int → Int → List (S91) → Int → Int → Int → Int → Int → Option (Bool)
 | 0, _, _, _, _, _, _, _, _, _, _, _, _, _ => none
 | k + 1, x0, x3, x9, x12, x51, x52, x53, x58, x59, x60, x290000, x290001, x290002 => if x60 < x59 then (if 0 ≤ x60 then (if x60 < (x58.length : Int) then (if 0 ≤ x12 then (if x12 < (x0.length : Int) then (if x12 < (x9.length : Int) then (if x60 < ((rd_L7 x9 x12).length : Int) then (if rdOf false (rd_L7 x9 x12) x60 = true then (impl_isPlan.j3 k x0 x3 x9 x12 x60 (decide ((wrap64 (x290002 + ((rd_T79 x0 x12).f0))) ≤ ((rd_T91 x58 x60).f2))) x51 x52 x53 x58 x59 x60 (!(decide ((wrap64 (x290002 + ((rd_T79 x0 x12).f0))) ≤ ((rd_T91 x58 x60).f2)))) x290000 x290001 x290002 ((rd_T91 x58 x60).f0) ((rd_T91 x58 x60).f1) ((rd_T91 x58 x60).f2)) else (impl_isPlan.j3 k x0 x3 x9 x12 x60 (decide ((wrap64 (x290002 + ((rd_T79 x0 x12).f0))) ≤ ((rd_T91 x58 x60).f2))) x51 x52 x53 x58 x59 x60 false x290000 x290001 x290002 ((rd_T91 x58 x60).f0) ((rd_T91 x58 x60).f1) ((rd_T91 x58 x60).f2))) else (none)) else (none)) else (none)) else (none)) else (none)) else (none)) else (impl_isPlan.l1 k x0 x3 x9 x51 x52 (wrap64 (x53 + 1)))
def impl_isPlan.j3 : Nat → List (S79) → List (S91) → List (List Bool) → Int → Int → Bool → List (S91) → Int → Int → List (S91) → Int → Int → Bool → Int → Int → Int → Int → Int → Int → Option (Bool)
 | 0, _, _, _, _, _, _, _, _, _, _, _, _, _, _, _, _, _, _, _ => none
 | k + 1, x0, x3, x9, x12, x14, x16, x51, x52, x53, x58, x59, x60, x86, x290000, x290001, x290002, x292000, x292001, x292002 => if x86 = true then (some false) else (if x12 = x14 then (impl_isPlan.l2 k x0 x3 x9 x12 x51 x52 x53 x58 x59 (wrap64 (x60 + 1)) x290000 x290001 x290002) else (if x290001 = x292001 then (if x16 = true then (impl_isPlan.l2 k x0 x3 x9 x12 x51 x52 x53 x58 x59 (wrap64 (x60 + 1)) x290000 x290001 x290002) else (if 0 ≤ x14 then (if x14 < (x0.length : Int) then (if (wrap64 (x292002 + ((rd_T79 x0 x14).f0))) > x290002 then (some false) else (impl_isPlan.l2 k x0 x3 x9 x12 x51 x52 x53 x58 x59 (wrap64 (x60 + 1)) x290000 x290001 x290002)) else (none)) else (none))) else (impl_isPlan.l2 k x0 x3 x9 x12 x51 x52 x53 x58 x59 (wrap64 (x60 + 1)) x290000 x290001 x290002)))
end
def impl_isPlan.f (k : Nat) (l0 : List (S79)) (a1 : Int) (l2 : List (S71)) (l3 : List (S91)) : Option (Bool) := if (l3.length : Int) = (l0.length : Int) then ((impl_closure.f k (l0.length : Int) l2).bind fun t281 => (impl_isPlan.l0 k l0 a1 l3 t281 l3 (l3.length : Int) 0)) else (some false)
theorem impl_isPlan.mono_l : ∀ k, (∀ y0 y1 y2 y3 y4 y5 y6, LeO (impl_isPlan.l0 k y0 y1 y2 y3 y4 y5 y6) (impl_isPlan.l0 (k + 1) y0 y1 y2 y3 y4 y5 y6)) ∧ (∀ y0 y1 y2 y3 y4 y5, LeO (impl_isPlan.l1 k y0 y1 y2 y3 y4 y5) (impl_isPlan.l1 (k + 1) y0 y1 y2 y3 y4 y5)) ∧ (∀ y0 y1 y2 y3 y4 y5 y6 y7 y8 y9 y10 y11 y12, LeO (impl_isPlan.l2 k y0 y1 y2 y3 y4 y5 y6 y7 y8 y9 y10 y11 y12) (impl_isPlan.l2 (k + 1) y0 y1 y2 y3 y4 y5 y6 y7 y8 y9 y10 y11 y12)) ∧ (∀ y0 y1 y2 y3 y4 y5 y6 y7 y8 y9 y10 y11 y12 y13 y14 y15 y16 y17 y18, LeO (impl_isPlan.j3 k y0 y1 y2 y3 y4 y5 y6 y7 y8 y9 y10 y11 y12 y13 y14 y15 y16 y17 y18) (impl_isPlan.j3 (k + 1) y0 y1 y2 y3 y4 y5 y6 y7 y8 y9 y10 y11 y12 y13 y14 y15 y16 y17 y18))
 | 0 => ⟨fun _ _ _ _ _ _ _ r h => by simp [impl_isPlan.l0] at h, fun _ _ _ _ _ _ r h => by simp [impl_isPlan.l1] at h, fun _ _ _ _ _ _ _ _ _ _ _ _ _ r h => by simp [impl_isPlan.l2] at h, fun _ _ _ _ _ _ _ _ _ _ _ _ _ _ _ _ _ _ _ r h => by simp [impl_isPlan.j3] at h⟩
 | k + 1 => by
  obtain ⟨ih0, ih1, ih2, ih3⟩ := impl_isPlan.mono_l k
  refine ⟨?_, ?_, ?_, ?_⟩
  ·intro y0 y1 y2 y3 y4 y5 y6
   unfold impl_isPlan.l0
   repeat' first
   | (with_reducible exact ih0 _ _ _ _ _ _ _)
   | (with_reducible exact ih1 _ _ _ _ _ _)
   | (with_reducible exact ih2 _ _ _ _ _ _ _ _ _ _ _ _ _)
   | (with_reducible exact ih3 _ _ _ _ _ _ _ _ _ _ _ _ _ _ _ _ _ _ _)
   | (with_reducible exact impl_closure.mono _ _ _)
   | (with_reducible exact LeO.refl _)
   | (with_reducible exact LeO.none _)
   | (with_reducible refine LeO.ite ?_ ?_)
   | (with_reducible refine LeO.bind ?_ (fun _ => ?_))
   | exact ih0 _ _ _ _ _ _ _
   | exact ih1 _ _ _ _ _ _
   | exact ih2 _ _ _ _ _ _ _ _ _ _ _ _ _
   | exact ih3 _ _ _ _ _ _ _ _ _ _ _ _ _ _ _ _ _ _ _
   | exact impl_closure.mono _ _ _
   | exact LeO.none _
   | refine LeO.ite ?_ ?_
   | refine LeO.bind ?_ (fun _ => ?_)
  ·intro y0 y1 y2 y3 y4 y5
   unfold impl_isPlan.l1
   repeat' first
   | (with_reducible exact ih0 _ _ _ _ _ _ _)
   | (with_reducible exact ih1 _ _ _ _ _ _)
   | (with_reducible exact ih2 _ _ _ _ _ _ _ _ _ _ _ _ _)
   | (with_reducible exact ih3 _ _ _ _ _ _ _ _ _ _ _ _ _ _ _ _ _ _ _)
   | (with_reducible exact impl_closure.mono _ _ _)
   | (with_reducible exact LeO.refl _)
   | (with_reducible exact LeO.none _)
   | (with_reducible refine LeO.ite ?_ ?_)
   | (with_reducible refine LeO.bind ?_ (fun _ => ?_))
   | exact ih0 _ _ _ _ _ _ _
   | exact ih1 _ _ _ _ _ _
   | exact ih2 _ _ _ _ _ _ _ _ _ _ _ _ _
   | exact ih3 _ _ _ _ _ _ _ _ _ _ _ _ _ _ _ _ _ _ _
   | exact impl_closure.mono _ _ _
   | exact LeO.none _
   | refine LeO.ite ?_ ?_
   | refine LeO.bind ?_ (fun _ => ?_)
  ·intro y0 y1 y2 y3 y4 y5 y6 y7 y8 y9 y10 y11 y12
   unfold impl_isPlan.l2
   repeat' first
   | (with_reducible exact ih0 _ _ _ _ _ _ _)
   | (with_reducible exact ih1 _ _ _ _ _ _)
   | (with_reducible exact ih2 _ _ _ _ _ _ _ _ _ _ _ _ _)
   | (with_reducible exact ih3 _ _ _ _ _ _ _ _ _ _ _ _ _ _ _ _ _ _ _)
   | (with_reducible exact impl_closure.mono _ _ _)
   | (with_reducible exact LeO.refl _)
   | (with_reducible exact LeO.none _)
   | (with_reducible refine LeO.ite ?_ ?_)
   | (with_reducible refine LeO.bind ?_ (fun _ => ?_))
   | exact ih0 _ _ _ _ _ _ _
   | exact ih1 _ _ _ _ _ _
   | exact ih2 _ _ _ _ _ _ _ _ _ _ _ _ _
   | exact ih3 _ _ _ _ _ _ _ _ _ _ _ _ _ _ _ _ _ _ _
   | exact impl_closure.mono _ _ _
   | exact LeO.none _
   | refine LeO.ite ?_ ?_
   | refine LeO.bind ?_ (fun _ => ?_)
  ·intro y0 y1 y2 y3 y4 y5 y6 y7 y8 y9 y10 y11 y12 y13 y14 y15 y16 y17 y18
   unfold impl_isPlan.j3
   repeat' first
   | (with_reducible exact ih0 _ _ _ _ _ _ _)
   | (with_reducible exact ih1 _ _ _ _ _ _)
   | (with_reducible exact ih2 _ _ _ _ _ _ _ _ _ _ _ _ _)
   | (with_reducible exact ih3 _ _ _ _ _ _ _ _ _ _ _ _ _ _ _ _ _ _ _)
   | (with_reducible exact impl_closure.mono _ _ _)
   | (with_reducible exact LeO.refl _)
   | (with_reducible exact LeO.none _)
   | (with_reducible refine LeO.ite ?_ ?_)
   | (with_reducible refine LeO.bind ?_ (fun _ => ?_))
   | exact ih0 _ _ _ _ _ _ _
   | exact ih1 _ _ _ _ _ _
   | exact ih2 _ _ _ _ _ _ _ _ _ _ _ _ _
   | exact ih3 _ _ _ _ _ _ _ _ _ _ _ _ _ _ _ _ _ _ _
   | exact impl_closure.mono _ _ _
   | exact LeO.none _
   | refine LeO.ite ?_ ?_
   | refine LeO.bind ?_ (fun _ => ?_)
theorem impl_isPlan.mono : ∀ a0 a1 a2 a3 k, LeO (impl_isPlan.f k a0 a1 a2 a3) (impl_isPlan.f (k + 1) a0 a1 a2 a3) := by
 intro a0 a1 a2 a3 k
 obtain ⟨ih0, ih1, ih2, ih3⟩ := impl_isPlan.mono_l k
 unfold impl_isPlan.f
 repeat' first
   | (with_reducible exact ih0 _ _ _ _ _ _ _)
   | (with_reducible exact ih1 _ _ _ _ _ _)
   | (with_reducible exact ih2 _ _ _ _ _ _ _ _ _ _ _ _ _)
   | (with_reducible exact ih3 _ _ _ _ _ _ _ _ _ _ _ _ _ _ _ _ _ _ _)
   | (with_reducible exact impl_closure.mono _ _ _)
   | (with_reducible exact LeO.refl _)
   | (with_reducible exact LeO.none _)
   | (with_reducible refine LeO.ite ?_ ?_)
   | (with_reducible refine LeO.bind ?_ (fun _ => ?_))
   | exact ih0 _ _ _ _ _ _ _
   | exact ih1 _ _ _ _ _ _
   | exact ih2 _ _ _ _ _ _ _ _ _ _ _ _ _
   | exact ih3 _ _ _ _ _ _ _ _ _ _ _ _ _ _ _ _ _ _ _
   | exact impl_closure.mono _ _ _
   | exact LeO.none _
   | refine LeO.ite ?_ ?_
   | refine LeO.bind ?_ (fun _ => ?_)
set_option maxHeartbeats 8000000 in
set_option maxRecDepth 100000 in
theorem impl_isPlan.calls (k : Nat) (A0 : Option Addr) (c0 : Nat) (l0 : List (S79)) (a1 : Int) (A2 : Option Addr) (c2 : Nat) (l2 : List (S71)) (A3 : Option Addr) (c3 : Nat) (l3 : List (S91)) (r : Bool) (w : World) (hr0 : Kd.C k79 w A0 l0.length l0) (hc0 : l0.length ≤ c0) (hr2 : Kd.C k71 w A2 l2.length l2) (hc2 : l2.length ≤ c2) (hr3 : Kd.C k91 w A3 l3.length l3) (hc3 : l3.length ≤ c3) (h : impl_isPlan.f k l0 a1 l2 l3 = some r) :
  Calls Try.prog 83 #[.slice A0 l0.length c0, .int .i64 a1, .slice A2 l2.length c2, .slice A3 l3.length c3] w fun e w' => e = .returned (.bool r) ∧ Below w.heap.size w w' := by
 have hu91 := Try.underlying91
 have HR0 := Aside0.mk hr0
 have HC0 := Aside0.mk hc0
 clear hr0 hc0
 have HR2 := Aside0.mk hr2
 have HC2 := Aside0.mk hc2
 clear hr2 hc2
 have HR3 := Aside0.mk hr3
 have HC3 := Aside0.mk hc3
 clear hr3 hc3
 have HB := Aside0.mk (Below.refl w.heap.size w)
 have H : (if (l3.length : Int) = (l0.length : Int) then ((impl_closure.f k (l0.length : Int) l2).bind fun t281 => (impl_isPlan.l0 k l0 a1 l3 t281 l3 (l3.length : Int) 0)) else (some false)) = some r := h
 clear h
 by_cases c5 : (l3.length : Int) = (l0.length : Int)
 ·rw [if_pos c5] at H
  have c5b0 : ((l3.length : Int) == (l0.length : Int)) = true := beq_iff_eq.mpr c5
  have c5b1 : ((l3.length : Int) != (l0.length : Int)) = false := bne_eq_false_iff_eq.mpr c5
  have c5b2 : (l3.length == l0.length) = true := by first | simpa using c5 | (simp at c5 ⊢; omega)
  clear c5
  replace H := Option.bind_eq_some_iff.mp H
  obtain ⟨t281, A60, H⟩ := H
  replace H : (impl_isPlan.l0 k l0 a1 l3 t281 l3 (l3.length : Int) 0) = some r := H
  have A6 := Aside0.mk A60
  clear A60
  have H' := Aside0.mk H
  clear H
  go_enter Try.func83, Try.ntmps83
  go_wp2_with (first | (go_at_call 63; (with_reducible refine (impl_closure.calls k (l0.length : Int) _ _ l2 t281 _ ?side1 ?side2 A6.out).mono ?_); (case side1 => repeat (first | exact HR2.out | (with_reducible refine Kd.C_alloc ?_ _) | (with_reducible refine Kd.C_drewN ?_ _) | (with_reducible refine Kd.C_drew ?_))); (case side2 => exact HC2.out); rintro e w7 ⟨v282, rfl, ho0, hb⟩; have n0_ := Aside0.mk (Kd.S_lower ho0 (below_size bB)); have n1_ := Aside0.mk (below_step bB hb); clear HB; have HO283 := n0_; have HB := n1_; clear n0_ n1_; (try clear hb); (try clear hk); (try clear ho0)))
  repeat (go_quiet (first | (go_at_call 63; (with_reducible refine (impl_closure.calls k (l0.length : Int) _ _ l2 t281 _ ?side1 ?side2 A6.out).mono ?_); (case side1 => repeat (first | exact HR2.out | (with_reducible refine Kd.C_alloc ?_ _) | (with_reducible refine Kd.C_drewN ?_ _) | (with_reducible refine Kd.C_drew ?_))); (case side2 => exact HC2.out); rintro e w7 ⟨v282, rfl, ho0, hb⟩; have n0_ := Aside0.mk (Kd.S_lower ho0 (below_size bB)); have n1_ := Aside0.mk (below_step bB hb); clear HB; have HO283 := n0_; have HB := n1_; clear n0_ n1_; (try clear hb); (try clear hk); (try clear ho0))); try go_wp2_with (first | (go_at_call 63; (with_reducible refine (impl_closure.calls k (l0.length : Int) _ _ l2 t281 _ ?side1 ?side2 A6.out).mono ?_); (case side1 => repeat (first | exact HR2.out | (with_reducible refine Kd.C_alloc ?_ _) | (with_reducible refine Kd.C_drewN ?_ _) | (with_reducible refine Kd.C_drew ?_))); (case side2 => exact HC2.out); rintro e w7 ⟨v282, rfl, ho0, hb⟩; have n0_ := Aside0.mk (Kd.S_lower ho0 (below_size bB)); have n1_ := Aside0.mk (below_step bB hb); clear HB; have HO283 := n0_; have HB := n1_; clear n0_ n1_; (try clear hb); (try clear hk); (try clear ho0))))
  go_loopg [28] k (fun kq v28 w' => ∃ (x28_1 : Int), v28 = .int .i64 x28_1 ∧ Aside0 (impl_isPlan.l0 kq l0 a1 l3 t281 l3 (l3.length : Int) x28_1 = some r) ∧ Aside0 (kq ≤ k) ∧ Aside0 (Kd.S (Kd.slice 4 Kd.bool) 80 w' w.heap.size (fun _ => True) v282 t281) ∧ Aside0 (Below w.heap.size w w'))
  case atStart => exact ⟨(0), sD, H', ⟨Nat.le_refl _⟩, ⟨kS⟩, ⟨by repeat (first | (with_reducible first | exact HB.out | apply below_alloc | apply pw_below_drewN | apply below_drew1) | exact HB.out)⟩⟩
  case round =>
   clear H'
   try clear c2
   try clear p2
   try clear c3
   try clear c5
   try clear c5b0
   try clear c5b1
   try clear c5b2
   obtain ⟨x28_1, rfl, HA, HK1, HO_9, HB⟩ := hrel
   cases gk with
   | zero => exact absurd HA.out (by simp [impl_isPlan.l0])
   | succ k1 =>
    have H := HA.out
    clear HA
    simp only [impl_isPlan.l0] at H
    by_cases c8 : x28_1 < (l3.length : Int)
    ·rw [if_pos c8] at H
     have c8b0 : decide (x28_1 < (l3.length : Int)) = true := decide_eq_true c8
     clear c8
     by_cases c9 : 0 ≤ x28_1; rotate_left
     ·rw [if_neg c9] at H; exact absurd H (by simp)
     rw [if_pos c9] at H
     have c9b0 : decide (0 ≤ x28_1) = true := decide_eq_true c9
     clear c9
     by_cases c10 : x28_1 < (l3.length : Int); rotate_left
     ·rw [if_neg c10] at H; exact absurd H (by simp)
     rw [if_pos c10] at H
     have c10b0 : decide (x28_1 < (l3.length : Int)) = true := decide_eq_true c10
     clear c10
     by_cases c11 : ((rd_T91 l3 x28_1).f0) = x28_1
     ·rw [if_pos c11] at H
      have c11b0 : (((rd_T91 l3 x28_1).f0) == x28_1) = true := beq_iff_eq.mpr c11
      have c11b1 : (((rd_T91 l3 x28_1).f0) != x28_1) = false := bne_eq_false_iff_eq.mpr c11
      clear c11
      replace H := Option.bind_eq_some_iff.mp H
      obtain ⟨t286, A120, H⟩ := H
      replace H : (if t286 = true then ((impl_isDate.f ((rd_T91 l3 x28_1).f2)).bind fun t287 => (if t287 = true then (impl_isPlan.l0 k1 l0 a1 l3 t281 l3 (l3.length : Int) (wrap64 (x28_1 + 1))) else (some false))) else (some false)) = some r := H
      have A12 := Aside0.mk A120
      clear A120
      by_cases c13 : t286 = true
      ·subst c13
       have H1 : ((impl_isDate.f ((rd_T91 l3 x28_1).f2)).bind fun t287 => (if t287 = true then (impl_isPlan.l0 k1 l0 a1 l3 t281 l3 (l3.length : Int) (wrap64 (x28_1 + 1))) else (some false))) = some r := by rw [if_pos rfl] at H; exact H
       clear H
       have H := H1
       clear H1
       replace H := Option.bind_eq_some_iff.mp H
       obtain ⟨t287, A140, H⟩ := H
       replace H : (if t287 = true then (impl_isPlan.l0 k1 l0 a1 l3 t281 l3 (l3.length : Int) (wrap64 (x28_1 + 1))) else (some false)) = some r := H
       have A14 := Aside0.mk A140
       clear A140
       by_cases c15 : t287 = true
       ·subst c15
        have H1 : (impl_isPlan.l0 k1 l0 a1 l3 t281 l3 (l3.length : Int) (wrap64 (x28_1 + 1))) = some r := by rw [if_pos rfl] at H; exact H
        clear H
        have H := H1
        clear H1
        have H' := Aside0.mk H
        clear H
        have p284 : 0 ≤ (x28_1 : Int) := oD
        have q284 : x28_1 < (l3.length : Int) := oD
        obtain ⟨ad284, e284, hx284_0, hx284_1, hx284_2⟩ := at_T91 HR3.out x28_1 p284 q284
        cases e284
        replace hx284_0 := (cB HB.out hx284_0 :)
        replace hx284_1 := (cB HB.out hx284_1 :)
        replace hx284_2 := (cB HB.out hx284_2 :)
        replace p284 := eq_true p284
        replace q284 := eq_true q284
        go_wp2_with (first | ((with_reducible refine gate_dst (N := 11) rfl ?_); refine bE 11 #[.int .i64 0, .int .i64 0, .int .i64 0] 91 ?_; intro gb285 hg w16 hbox hb; have n0_ := Aside0.mk (Kd.S_below (by (with_reducible repeat (first | apply Kd.S_alloc | apply Kd.S_drewN | apply Kd.S_drew)); exact HO_9.out) hb); have n1_ := Aside0.mk (below_step bB hb); have n2_ := Aside0.mk (hbox); have n3_ := Aside0.mk ((by rw [hg]; exact (below_size bB) : w.heap.size ≤ gb285)); have n4_ := Aside0.mk ((by rw [hg]; exact (below_size bB) : w.heap.size ≤ gb285)); clear HO_9; clear HB; have HO_9 := n0_; have HB := n1_; have BK285 := n2_; have GW285 := n3_; have GE285 := n4_; clear n0_ n1_ n2_ n3_ n4_; clear hb hbox hg; have hcz17_0 : w16.cell? ⟨gb285, 0, none⟩ = some (.int .i64 0) := (blk_cell BK285.out 0).trans rfl; have hcz17_1 : w16.cell? ⟨gb285, 1, none⟩ = some (.int .i64 0) := (blk_cell BK285.out 1).trans rfl; have hcz17_2 : w16.cell? ⟨gb285, 2, none⟩ = some (.int .i64 0) := (blk_cell BK285.out 2).trans rfl; have hfz17_0 := blk_frozen BK285.out 0; have hfz17_1 := blk_frozen BK285.out 1; have hfz17_2 := blk_frozen BK285.out 2) | (go_at_call 108; (with_reducible refine (impl_isNumber.calls ((rd_T91 l3 x28_1).f1) a1 true _ A12.out).mono ?_); rintro e w' ⟨rfl, ⟨nd, rfl⟩⟩; (try first | exact ⟨rfl, _, World.drewN_drewN _ _ _⟩ | exact ⟨rfl, _, Eq.trans (World.drewN_drewN _ _ _) (congrArg (World.drewN _) (Nat.add_assoc _ _ _))⟩)) | (go_at_call 125; (with_reducible refine (impl_isDate.calls ((rd_T91 l3 x28_1).f2) true _ A14.out).mono ?_); rintro e w' ⟨rfl, ⟨nd, rfl⟩⟩; (try first | exact ⟨rfl, _, World.drewN_drewN _ _ _⟩ | exact ⟨rfl, _, Eq.trans (World.drewN_drewN _ _ _) (congrArg (World.drewN _) (Nat.add_assoc _ _ _))⟩)))
        repeat (go_quiet (first | ((with_reducible refine gate_dst (N := 11) rfl ?_); refine bE 11 #[.int .i64 0, .int .i64 0, .int .i64 0] 91 ?_; intro gb285 hg w16 hbox hb; have n0_ := Aside0.mk (Kd.S_below (by (with_reducible repeat (first | apply Kd.S_alloc | apply Kd.S_drewN | apply Kd.S_drew)); exact HO_9.out) hb); have n1_ := Aside0.mk (below_step bB hb); have n2_ := Aside0.mk (hbox); have n3_ := Aside0.mk ((by rw [hg]; exact (below_size bB) : w.heap.size ≤ gb285)); have n4_ := Aside0.mk ((by rw [hg]; exact (below_size bB) : w.heap.size ≤ gb285)); clear HO_9; clear HB; have HO_9 := n0_; have HB := n1_; have BK285 := n2_; have GW285 := n3_; have GE285 := n4_; clear n0_ n1_ n2_ n3_ n4_; clear hb hbox hg; have hcz17_0 : w16.cell? ⟨gb285, 0, none⟩ = some (.int .i64 0) := (blk_cell BK285.out 0).trans rfl; have hcz17_1 : w16.cell? ⟨gb285, 1, none⟩ = some (.int .i64 0) := (blk_cell BK285.out 1).trans rfl; have hcz17_2 : w16.cell? ⟨gb285, 2, none⟩ = some (.int .i64 0) := (blk_cell BK285.out 2).trans rfl; have hfz17_0 := blk_frozen BK285.out 0; have hfz17_1 := blk_frozen BK285.out 1; have hfz17_2 := blk_frozen BK285.out 2) | (go_at_call 108; (with_reducible refine (impl_isNumber.calls ((rd_T91 l3 x28_1).f1) a1 true _ A12.out).mono ?_); rintro e w' ⟨rfl, ⟨nd, rfl⟩⟩; (try first | exact ⟨rfl, _, World.drewN_drewN _ _ _⟩ | exact ⟨rfl, _, Eq.trans (World.drewN_drewN _ _ _) (congrArg (World.drewN _) (Nat.add_assoc _ _ _))⟩)) | (go_at_call 125; (with_reducible refine (impl_isDate.calls ((rd_T91 l3 x28_1).f2) true _ A14.out).mono ?_); rintro e w' ⟨rfl, ⟨nd, rfl⟩⟩; (try first | exact ⟨rfl, _, World.drewN_drewN _ _ _⟩ | exact ⟨rfl, _, Eq.trans (World.drewN_drewN _ _ _) (congrArg (World.drewN _) (Nat.add_assoc _ _ _))⟩))); try go_wp2_with (first | ((with_reducible refine gate_dst (N := 11) rfl ?_); refine bE 11 #[.int .i64 0, .int .i64 0, .int .i64 0] 91 ?_; intro gb285 hg w16 hbox hb; have n0_ := Aside0.mk (Kd.S_below (by (with_reducible repeat (first | apply Kd.S_alloc | apply Kd.S_drewN | apply Kd.S_drew)); exact HO_9.out) hb); have n1_ := Aside0.mk (below_step bB hb); have n2_ := Aside0.mk (hbox); have n3_ := Aside0.mk ((by rw [hg]; exact (below_size bB) : w.heap.size ≤ gb285)); have n4_ := Aside0.mk ((by rw [hg]; exact (below_size bB) : w.heap.size ≤ gb285)); clear HO_9; clear HB; have HO_9 := n0_; have HB := n1_; have BK285 := n2_; have GW285 := n3_; have GE285 := n4_; clear n0_ n1_ n2_ n3_ n4_; clear hb hbox hg; have hcz17_0 : w16.cell? ⟨gb285, 0, none⟩ = some (.int .i64 0) := (blk_cell BK285.out 0).trans rfl; have hcz17_1 : w16.cell? ⟨gb285, 1, none⟩ = some (.int .i64 0) := (blk_cell BK285.out 1).trans rfl; have hcz17_2 : w16.cell? ⟨gb285, 2, none⟩ = some (.int .i64 0) := (blk_cell BK285.out 2).trans rfl; have hfz17_0 := blk_frozen BK285.out 0; have hfz17_1 := blk_frozen BK285.out 1; have hfz17_2 := blk_frozen BK285.out 2) | (go_at_call 108; (with_reducible refine (impl_isNumber.calls ((rd_T91 l3 x28_1).f1) a1 true _ A12.out).mono ?_); rintro e w' ⟨rfl, ⟨nd, rfl⟩⟩; (try first | exact ⟨rfl, _, World.drewN_drewN _ _ _⟩ | exact ⟨rfl, _, Eq.trans (World.drewN_drewN _ _ _) (congrArg (World.drewN _) (Nat.add_assoc _ _ _))⟩)) | (go_at_call 125; (with_reducible refine (impl_isDate.calls ((rd_T91 l3 x28_1).f2) true _ A14.out).mono ?_); rintro e w' ⟨rfl, ⟨nd, rfl⟩⟩; (try first | exact ⟨rfl, _, World.drewN_drewN _ _ _⟩ | exact ⟨rfl, _, Eq.trans (World.drewN_drewN _ _ _) (congrArg (World.drewN _) (Nat.add_assoc _ _ _))⟩))))
        go_roundg k1
        case measure => have := HK1.out; omega
        case rel => exact ⟨(wrap64 (x28_1 + 1)), sD, H', ⟨by have := HK1.out; omega⟩, ⟨by (with_reducible repeat (first | apply Kd.S_alloc | apply Kd.S_drewN | apply Kd.S_drew)); exact Kd.S_mono (Kd.S_far (p := ⟨gb285, 2, none⟩) (Kd.S_far (p := ⟨gb285, 1, none⟩) (Kd.S_far (p := ⟨gb285, 0, none⟩) (Kd.S_types HO_9.out BK285.out (by decide)) (fun _ hk => hk.2) (.int .i64 ((rd_T91 l3 x28_1).f0))) (fun _ hk => hk.2) (.int .i64 ((rd_T91 l3 x28_1).f1))) (fun _ hk => hk.2) (.int .i64 ((rd_T91 l3 x28_1).f2))) (fun _ hk => trivial)⟩, ⟨by repeat (first | (with_reducible first | exact HB.out | apply below_alloc | apply pw_below_drewN | apply below_drew1 | refine below_set ?_ GE285.out) | exact HB.out)⟩⟩
       ·replace c15 := Bool.eq_false_iff.mpr c15
        subst c15
        have H1 : (some false) = some r := by rw [if_neg (show ¬ (false = true) by decide)] at H; exact H
        clear H
        have H := H1
        clear H1
        obtain rfl := Option.some.inj H
        have p284 : 0 ≤ (x28_1 : Int) := oD
        have q284 : x28_1 < (l3.length : Int) := oD
        obtain ⟨ad284, e284, hx284_0, hx284_1, hx284_2⟩ := at_T91 HR3.out x28_1 p284 q284
        cases e284
        replace hx284_0 := (cB HB.out hx284_0 :)
        replace hx284_1 := (cB HB.out hx284_1 :)
        replace hx284_2 := (cB HB.out hx284_2 :)
        replace p284 := eq_true p284
        replace q284 := eq_true q284
        go_wp2_with (first | ((with_reducible refine gate_dst (N := 11) rfl ?_); refine bE 11 #[.int .i64 0, .int .i64 0, .int .i64 0] 91 ?_; intro gb285 hg w18 hbox hb; have n0_ := Aside0.mk (Kd.S_below (by (with_reducible repeat (first | apply Kd.S_alloc | apply Kd.S_drewN | apply Kd.S_drew)); exact HO_9.out) hb); have n1_ := Aside0.mk (below_step bB hb); have n2_ := Aside0.mk (hbox); have n3_ := Aside0.mk ((by rw [hg]; exact (below_size bB) : w.heap.size ≤ gb285)); have n4_ := Aside0.mk ((by rw [hg]; exact (below_size bB) : w.heap.size ≤ gb285)); clear HO_9; clear HB; have HO_9 := n0_; have HB := n1_; have BK285 := n2_; have GW285 := n3_; have GE285 := n4_; clear n0_ n1_ n2_ n3_ n4_; clear hb hbox hg; have hcz19_0 : w18.cell? ⟨gb285, 0, none⟩ = some (.int .i64 0) := (blk_cell BK285.out 0).trans rfl; have hcz19_1 : w18.cell? ⟨gb285, 1, none⟩ = some (.int .i64 0) := (blk_cell BK285.out 1).trans rfl; have hcz19_2 : w18.cell? ⟨gb285, 2, none⟩ = some (.int .i64 0) := (blk_cell BK285.out 2).trans rfl; have hfz19_0 := blk_frozen BK285.out 0; have hfz19_1 := blk_frozen BK285.out 1; have hfz19_2 := blk_frozen BK285.out 2) | (go_at_call 108; (with_reducible refine (impl_isNumber.calls ((rd_T91 l3 x28_1).f1) a1 true _ A12.out).mono ?_); rintro e w' ⟨rfl, ⟨nd, rfl⟩⟩; (try first | exact ⟨rfl, _, World.drewN_drewN _ _ _⟩ | exact ⟨rfl, _, Eq.trans (World.drewN_drewN _ _ _) (congrArg (World.drewN _) (Nat.add_assoc _ _ _))⟩)) | (go_at_call 125; (with_reducible refine (impl_isDate.calls ((rd_T91 l3 x28_1).f2) false _ A14.out).mono ?_); rintro e w' ⟨rfl, ⟨nd, rfl⟩⟩; (try first | exact ⟨rfl, _, World.drewN_drewN _ _ _⟩ | exact ⟨rfl, _, Eq.trans (World.drewN_drewN _ _ _) (congrArg (World.drewN _) (Nat.add_assoc _ _ _))⟩)))
        repeat (go_quiet (first | ((with_reducible refine gate_dst (N := 11) rfl ?_); refine bE 11 #[.int .i64 0, .int .i64 0, .int .i64 0] 91 ?_; intro gb285 hg w18 hbox hb; have n0_ := Aside0.mk (Kd.S_below (by (with_reducible repeat (first | apply Kd.S_alloc | apply Kd.S_drewN | apply Kd.S_drew)); exact HO_9.out) hb); have n1_ := Aside0.mk (below_step bB hb); have n2_ := Aside0.mk (hbox); have n3_ := Aside0.mk ((by rw [hg]; exact (below_size bB) : w.heap.size ≤ gb285)); have n4_ := Aside0.mk ((by rw [hg]; exact (below_size bB) : w.heap.size ≤ gb285)); clear HO_9; clear HB; have HO_9 := n0_; have HB := n1_; have BK285 := n2_; have GW285 := n3_; have GE285 := n4_; clear n0_ n1_ n2_ n3_ n4_; clear hb hbox hg; have hcz19_0 : w18.cell? ⟨gb285, 0, none⟩ = some (.int .i64 0) := (blk_cell BK285.out 0).trans rfl; have hcz19_1 : w18.cell? ⟨gb285, 1, none⟩ = some (.int .i64 0) := (blk_cell BK285.out 1).trans rfl; have hcz19_2 : w18.cell? ⟨gb285, 2, none⟩ = some (.int .i64 0) := (blk_cell BK285.out 2).trans rfl; have hfz19_0 := blk_frozen BK285.out 0; have hfz19_1 := blk_frozen BK285.out 1; have hfz19_2 := blk_frozen BK285.out 2) | (go_at_call 108; (with_reducible refine (impl_isNumber.calls ((rd_T91 l3 x28_1).f1) a1 true _ A12.out).mono ?_); rintro e w' ⟨rfl, ⟨nd, rfl⟩⟩; (try first | exact ⟨rfl, _, World.drewN_drewN _ _ _⟩ | exact ⟨rfl, _, Eq.trans (World.drewN_drewN _ _ _) (congrArg (World.drewN _) (Nat.add_assoc _ _ _))⟩)) | (go_at_call 125; (with_reducible refine (impl_isDate.calls ((rd_T91 l3 x28_1).f2) false _ A14.out).mono ?_); rintro e w' ⟨rfl, ⟨nd, rfl⟩⟩; (try first | exact ⟨rfl, _, World.drewN_drewN _ _ _⟩ | exact ⟨rfl, _, Eq.trans (World.drewN_drewN _ _ _) (congrArg (World.drewN _) (Nat.add_assoc _ _ _))⟩))); try go_wp2_with (first | ((with_reducible refine gate_dst (N := 11) rfl ?_); refine bE 11 #[.int .i64 0, .int .i64 0, .int .i64 0] 91 ?_; intro gb285 hg w18 hbox hb; have n0_ := Aside0.mk (Kd.S_below (by (with_reducible repeat (first | apply Kd.S_alloc | apply Kd.S_drewN | apply Kd.S_drew)); exact HO_9.out) hb); have n1_ := Aside0.mk (below_step bB hb); have n2_ := Aside0.mk (hbox); have n3_ := Aside0.mk ((by rw [hg]; exact (below_size bB) : w.heap.size ≤ gb285)); have n4_ := Aside0.mk ((by rw [hg]; exact (below_size bB) : w.heap.size ≤ gb285)); clear HO_9; clear HB; have HO_9 := n0_; have HB := n1_; have BK285 := n2_; have GW285 := n3_; have GE285 := n4_; clear n0_ n1_ n2_ n3_ n4_; clear hb hbox hg; have hcz19_0 : w18.cell? ⟨gb285, 0, none⟩ = some (.int .i64 0) := (blk_cell BK285.out 0).trans rfl; have hcz19_1 : w18.cell? ⟨gb285, 1, none⟩ = some (.int .i64 0) := (blk_cell BK285.out 1).trans rfl; have hcz19_2 : w18.cell? ⟨gb285, 2, none⟩ = some (.int .i64 0) := (blk_cell BK285.out 2).trans rfl; have hfz19_0 := blk_frozen BK285.out 0; have hfz19_1 := blk_frozen BK285.out 1; have hfz19_2 := blk_frozen BK285.out 2) | (go_at_call 108; (with_reducible refine (impl_isNumber.calls ((rd_T91 l3 x28_1).f1) a1 true _ A12.out).mono ?_); rintro e w' ⟨rfl, ⟨nd, rfl⟩⟩; (try first | exact ⟨rfl, _, World.drewN_drewN _ _ _⟩ | exact ⟨rfl, _, Eq.trans (World.drewN_drewN _ _ _) (congrArg (World.drewN _) (Nat.add_assoc _ _ _))⟩)) | (go_at_call 125; (with_reducible refine (impl_isDate.calls ((rd_T91 l3 x28_1).f2) false _ A14.out).mono ?_); rintro e w' ⟨rfl, ⟨nd, rfl⟩⟩; (try first | exact ⟨rfl, _, World.drewN_drewN _ _ _⟩ | exact ⟨rfl, _, Eq.trans (World.drewN_drewN _ _ _) (congrArg (World.drewN _) (Nat.add_assoc _ _ _))⟩))))
        go_ret
        exact ⟨rE, bS⟩
      ·replace c13 := Bool.eq_false_iff.mpr c13
       subst c13
       have H1 : (some false) = some r := by rw [if_neg (show ¬ (false = true) by decide)] at H; exact H
       clear H
       have H := H1
       clear H1
       obtain rfl := Option.some.inj H
       have p284 : 0 ≤ (x28_1 : Int) := oD
       have q284 : x28_1 < (l3.length : Int) := oD
       obtain ⟨ad284, e284, hx284_0, hx284_1, hx284_2⟩ := at_T91 HR3.out x28_1 p284 q284
       cases e284
       replace hx284_0 := (cB HB.out hx284_0 :)
       replace hx284_1 := (cB HB.out hx284_1 :)
       replace hx284_2 := (cB HB.out hx284_2 :)
       replace p284 := eq_true p284
       replace q284 := eq_true q284
       go_wp2_with (first | ((with_reducible refine gate_dst (N := 11) rfl ?_); refine bE 11 #[.int .i64 0, .int .i64 0, .int .i64 0] 91 ?_; intro gb285 hg w20 hbox hb; have n0_ := Aside0.mk (Kd.S_below (by (with_reducible repeat (first | apply Kd.S_alloc | apply Kd.S_drewN | apply Kd.S_drew)); exact HO_9.out) hb); have n1_ := Aside0.mk (below_step bB hb); have n2_ := Aside0.mk (hbox); have n3_ := Aside0.mk ((by rw [hg]; exact (below_size bB) : w.heap.size ≤ gb285)); have n4_ := Aside0.mk ((by rw [hg]; exact (below_size bB) : w.heap.size ≤ gb285)); clear HO_9; clear HB; have HO_9 := n0_; have HB := n1_; have BK285 := n2_; have GW285 := n3_; have GE285 := n4_; clear n0_ n1_ n2_ n3_ n4_; clear hb hbox hg; have hcz21_0 : w20.cell? ⟨gb285, 0, none⟩ = some (.int .i64 0) := (blk_cell BK285.out 0).trans rfl; have hcz21_1 : w20.cell? ⟨gb285, 1, none⟩ = some (.int .i64 0) := (blk_cell BK285.out 1).trans rfl; have hcz21_2 : w20.cell? ⟨gb285, 2, none⟩ = some (.int .i64 0) := (blk_cell BK285.out 2).trans rfl; have hfz21_0 := blk_frozen BK285.out 0; have hfz21_1 := blk_frozen BK285.out 1; have hfz21_2 := blk_frozen BK285.out 2) | (go_at_call 108; (with_reducible refine (impl_isNumber.calls ((rd_T91 l3 x28_1).f1) a1 false _ A12.out).mono ?_); rintro e w' ⟨rfl, ⟨nd, rfl⟩⟩; (try first | exact ⟨rfl, _, World.drewN_drewN _ _ _⟩ | exact ⟨rfl, _, Eq.trans (World.drewN_drewN _ _ _) (congrArg (World.drewN _) (Nat.add_assoc _ _ _))⟩)))
       repeat (go_quiet (first | ((with_reducible refine gate_dst (N := 11) rfl ?_); refine bE 11 #[.int .i64 0, .int .i64 0, .int .i64 0] 91 ?_; intro gb285 hg w20 hbox hb; have n0_ := Aside0.mk (Kd.S_below (by (with_reducible repeat (first | apply Kd.S_alloc | apply Kd.S_drewN | apply Kd.S_drew)); exact HO_9.out) hb); have n1_ := Aside0.mk (below_step bB hb); have n2_ := Aside0.mk (hbox); have n3_ := Aside0.mk ((by rw [hg]; exact (below_size bB) : w.heap.size ≤ gb285)); have n4_ := Aside0.mk ((by rw [hg]; exact (below_size bB) : w.heap.size ≤ gb285)); clear HO_9; clear HB; have HO_9 := n0_; have HB := n1_; have BK285 := n2_; have GW285 := n3_; have GE285 := n4_; clear n0_ n1_ n2_ n3_ n4_; clear hb hbox hg; have hcz21_0 : w20.cell? ⟨gb285, 0, none⟩ = some (.int .i64 0) := (blk_cell BK285.out 0).trans rfl; have hcz21_1 : w20.cell? ⟨gb285, 1, none⟩ = some (.int .i64 0) := (blk_cell BK285.out 1).trans rfl; have hcz21_2 : w20.cell? ⟨gb285, 2, none⟩ = some (.int .i64 0) := (blk_cell BK285.out 2).trans rfl; have hfz21_0 := blk_frozen BK285.out 0; have hfz21_1 := blk_frozen BK285.out 1; have hfz21_2 := blk_frozen BK285.out 2) | (go_at_call 108; (with_reducible refine (impl_isNumber.calls ((rd_T91 l3 x28_1).f1) a1 false _ A12.out).mono ?_); rintro e w' ⟨rfl, ⟨nd, rfl⟩⟩; (try first | exact ⟨rfl, _, World.drewN_drewN _ _ _⟩ | exact ⟨rfl, _, Eq.trans (World.drewN_drewN _ _ _) (congrArg (World.drewN _) (Nat.add_assoc _ _ _))⟩))); try go_wp2_with (first | ((with_reducible refine gate_dst (N := 11) rfl ?_); refine bE 11 #[.int .i64 0, .int .i64 0, .int .i64 0] 91 ?_; intro gb285 hg w20 hbox hb; have n0_ := Aside0.mk (Kd.S_below (by (with_reducible repeat (first | apply Kd.S_alloc | apply Kd.S_drewN | apply Kd.S_drew)); exact HO_9.out) hb); have n1_ := Aside0.mk (below_step bB hb); have n2_ := Aside0.mk (hbox); have n3_ := Aside0.mk ((by rw [hg]; exact (below_size bB) : w.heap.size ≤ gb285)); have n4_ := Aside0.mk ((by rw [hg]; exact (below_size bB) : w.heap.size ≤ gb285)); clear HO_9; clear HB; have HO_9 := n0_; have HB := n1_; have BK285 := n2_; have GW285 := n3_; have GE285 := n4_; clear n0_ n1_ n2_ n3_ n4_; clear hb hbox hg; have hcz21_0 : w20.cell? ⟨gb285, 0, none⟩ = some (.int .i64 0) := (blk_cell BK285.out 0).trans rfl; have hcz21_1 : w20.cell? ⟨gb285, 1, none⟩ = some (.int .i64 0) := (blk_cell BK285.out 1).trans rfl; have hcz21_2 : w20.cell? ⟨gb285, 2, none⟩ = some (.int .i64 0) := (blk_cell BK285.out 2).trans rfl; have hfz21_0 := blk_frozen BK285.out 0; have hfz21_1 := blk_frozen BK285.out 1; have hfz21_2 := blk_frozen BK285.out 2) | (go_at_call 108; (with_reducible refine (impl_isNumber.calls ((rd_T91 l3 x28_1).f1) a1 false _ A12.out).mono ?_); rintro e w' ⟨rfl, ⟨nd, rfl⟩⟩; (try first | exact ⟨rfl, _, World.drewN_drewN _ _ _⟩ | exact ⟨rfl, _, Eq.trans (World.drewN_drewN _ _ _) (congrArg (World.drewN _) (Nat.add_assoc _ _ _))⟩))))
       go_ret
       exact ⟨rE, bS⟩
     ·rw [if_neg c11] at H
      have c11b0 : (((rd_T91 l3 x28_1).f0) == x28_1) = false := beq_eq_false_iff_ne.mpr c11
      have c11b1 : (((rd_T91 l3 x28_1).f0) != x28_1) = true := bne_iff_ne.mpr c11
      obtain rfl := Option.some.inj H
      have p284 : 0 ≤ (x28_1 : Int) := oD
      have q284 : x28_1 < (l3.length : Int) := oD
      obtain ⟨ad284, e284, hx284_0, hx284_1, hx284_2⟩ := at_T91 HR3.out x28_1 p284 q284
      cases e284
      replace hx284_0 := (cB HB.out hx284_0 :)
      replace hx284_1 := (cB HB.out hx284_1 :)
      replace hx284_2 := (cB HB.out hx284_2 :)
      replace p284 := eq_true p284
      replace q284 := eq_true q284
      go_wp2_with (first | ((with_reducible refine gate_dst (N := 11) rfl ?_); refine bE 11 #[.int .i64 0, .int .i64 0, .int .i64 0] 91 ?_; intro gb285 hg w22 hbox hb; have n0_ := Aside0.mk (Kd.S_below (by (with_reducible repeat (first | apply Kd.S_alloc | apply Kd.S_drewN | apply Kd.S_drew)); exact HO_9.out) hb); have n1_ := Aside0.mk (below_step bB hb); have n2_ := Aside0.mk (hbox); have n3_ := Aside0.mk ((by rw [hg]; exact (below_size bB) : w.heap.size ≤ gb285)); have n4_ := Aside0.mk ((by rw [hg]; exact (below_size bB) : w.heap.size ≤ gb285)); clear HO_9; clear HB; have HO_9 := n0_; have HB := n1_; have BK285 := n2_; have GW285 := n3_; have GE285 := n4_; clear n0_ n1_ n2_ n3_ n4_; clear hb hbox hg; have hcz23_0 : w22.cell? ⟨gb285, 0, none⟩ = some (.int .i64 0) := (blk_cell BK285.out 0).trans rfl; have hcz23_1 : w22.cell? ⟨gb285, 1, none⟩ = some (.int .i64 0) := (blk_cell BK285.out 1).trans rfl; have hcz23_2 : w22.cell? ⟨gb285, 2, none⟩ = some (.int .i64 0) := (blk_cell BK285.out 2).trans rfl; have hfz23_0 := blk_frozen BK285.out 0; have hfz23_1 := blk_frozen BK285.out 1; have hfz23_2 := blk_frozen BK285.out 2))
      repeat (go_quiet (first | ((with_reducible refine gate_dst (N := 11) rfl ?_); refine bE 11 #[.int .i64 0, .int .i64 0, .int .i64 0] 91 ?_; intro gb285 hg w22 hbox hb; have n0_ := Aside0.mk (Kd.S_below (by (with_reducible repeat (first | apply Kd.S_alloc | apply Kd.S_drewN | apply Kd.S_drew)); exact HO_9.out) hb); have n1_ := Aside0.mk (below_step bB hb); have n2_ := Aside0.mk (hbox); have n3_ := Aside0.mk ((by rw [hg]; exact (below_size bB) : w.heap.size ≤ gb285)); have n4_ := Aside0.mk ((by rw [hg]; exact (below_size bB) : w.heap.size ≤ gb285)); clear HO_9; clear HB; have HO_9 := n0_; have HB := n1_; have BK285 := n2_; have GW285 := n3_; have GE285 := n4_; clear n0_ n1_ n2_ n3_ n4_; clear hb hbox hg; have hcz23_0 : w22.cell? ⟨gb285, 0, none⟩ = some (.int .i64 0) := (blk_cell BK285.out 0).trans rfl; have hcz23_1 : w22.cell? ⟨gb285, 1, none⟩ = some (.int .i64 0) := (blk_cell BK285.out 1).trans rfl; have hcz23_2 : w22.cell? ⟨gb285, 2, none⟩ = some (.int .i64 0) := (blk_cell BK285.out 2).trans rfl; have hfz23_0 := blk_frozen BK285.out 0; have hfz23_1 := blk_frozen BK285.out 1; have hfz23_2 := blk_frozen BK285.out 2)); try go_wp2_with (first | ((with_reducible refine gate_dst (N := 11) rfl ?_); refine bE 11 #[.int .i64 0, .int .i64 0, .int .i64 0] 91 ?_; intro gb285 hg w22 hbox hb; have n0_ := Aside0.mk (Kd.S_below (by (with_reducible repeat (first | apply Kd.S_alloc | apply Kd.S_drewN | apply Kd.S_drew)); exact HO_9.out) hb); have n1_ := Aside0.mk (below_step bB hb); have n2_ := Aside0.mk (hbox); have n3_ := Aside0.mk ((by rw [hg]; exact (below_size bB) : w.heap.size ≤ gb285)); have n4_ := Aside0.mk ((by rw [hg]; exact (below_size bB) : w.heap.size ≤ gb285)); clear HO_9; clear HB; have HO_9 := n0_; have HB := n1_; have BK285 := n2_; have GW285 := n3_; have GE285 := n4_; clear n0_ n1_ n2_ n3_ n4_; clear hb hbox hg; have hcz23_0 : w22.cell? ⟨gb285, 0, none⟩ = some (.int .i64 0) := (blk_cell BK285.out 0).trans rfl; have hcz23_1 : w22.cell? ⟨gb285, 1, none⟩ = some (.int .i64 0) := (blk_cell BK285.out 1).trans rfl; have hcz23_2 : w22.cell? ⟨gb285, 2, none⟩ = some (.int .i64 0) := (blk_cell BK285.out 2).trans rfl; have hfz23_0 := blk_frozen BK285.out 0; have hfz23_1 := blk_frozen BK285.out 1; have hfz23_2 := blk_frozen BK285.out 2)))
      go_ret
      exact ⟨rE, bS⟩
    ·rw [if_neg c8] at H
     have c8b0 : decide (x28_1 < (l3.length : Int)) = false := decide_eq_false c8
     clear c8
     have H' := Aside0.mk H
     clear H
     go_wp2
     repeat (go_quiet (fail); try go_wp2)
     go_loopg [53] k1 (fun kq v53 w' => ∃ (x53_2 : Int), v53 = .int .i64 x53_2 ∧ Aside0 (impl_isPlan.l1 kq l0 l3 t281 l3 (l3.length : Int) x53_2 = some r) ∧ Aside0 (kq ≤ k1) ∧ Aside0 (Kd.S (Kd.slice 4 Kd.bool) 80 w' w.heap.size (fun _ => True) v282 t281) ∧ Aside0 (Below w.heap.size w w'))
     case atStart => exact ⟨(0), sD, H', ⟨Nat.le_refl _⟩, ⟨kS⟩, ⟨by repeat (first | (with_reducible first | exact HB.out | apply below_alloc | apply pw_below_drewN | apply below_drew1) | exact HB.out)⟩⟩
     case round =>
      clear H'
      try clear c1
      try clear c2
      try clear p2
      try clear q2
      try clear hx2
      try clear c3
      try clear c5
      try clear c5b0
      try clear c5b1
      try clear c5b2
      try clear p6
      try clear c8
      try clear c8b0
      try clear c9
      try clear c9b0
      try clear c10
      try clear c10b0
      try clear c11
      try clear c11b0
      try clear c11b1
      try clear c13
      try clear c15
      try clear hcz17_0
      try clear hcz17_1
      try clear hcz17_2
      try clear hcz19_0
      try clear hcz19_1
      try clear hcz19_2
      try clear hcz21_0
      try clear hcz21_1
      try clear hcz21_2
      try clear hcz23_0
      try clear hcz23_1
      try clear hcz23_2
      try clear hfz17_0
      try clear hfz17_1
      try clear hfz17_2
      try clear hfz19_0
      try clear hfz19_1
      try clear hfz19_2
      try clear hfz21_0
      try clear hfz21_1
      try clear hfz21_2
      try clear hfz23_0
      try clear hfz23_1
      try clear hfz23_2
      try clear hx284_0
      try clear hx284_1
      try clear hx284_2
      try clear p2
      try clear p284
      try clear q284
      obtain ⟨x53_2, rfl, HA, HK2, HO_9, HB⟩ := hrel
      cases gk with
      | zero => exact absurd HA.out (by simp [impl_isPlan.l1])
      | succ k2 =>
       have H := HA.out
       clear HA
       simp only [impl_isPlan.l1] at H
       by_cases c24 : x53_2 < (l3.length : Int)
       ·rw [if_pos c24] at H
        have c24b0 : decide (x53_2 < (l3.length : Int)) = true := decide_eq_true c24
        clear c24
        by_cases c25 : 0 ≤ x53_2; rotate_left
        ·rw [if_neg c25] at H; exact absurd H (by simp)
        rw [if_pos c25] at H
        have c25b0 : decide (0 ≤ x53_2) = true := decide_eq_true c25
        clear c25
        by_cases c26 : x53_2 < (l3.length : Int); rotate_left
        ·rw [if_neg c26] at H; exact absurd H (by simp)
        rw [if_pos c26] at H
        have c26b0 : decide (x53_2 < (l3.length : Int)) = true := decide_eq_true c26
        clear c26
        have H' := Aside0.mk H
        clear H
        have p288 : 0 ≤ (x53_2 : Int) := oD
        have q288 : x53_2 < (l3.length : Int) := oD
        obtain ⟨ad288, e288, hx288_0, hx288_1, hx288_2⟩ := at_T91 HR3.out x53_2 p288 q288
        cases e288
        replace hx288_0 := (cB HB.out hx288_0 :)
        replace hx288_1 := (cB HB.out hx288_1 :)
        replace hx288_2 := (cB HB.out hx288_2 :)
        replace p288 := eq_true p288
        replace q288 := eq_true q288
        go_wp2_with (first | ((with_reducible refine gate_dst (N := 13) rfl ?_); refine bE 13 #[.int .i64 0, .int .i64 0, .int .i64 0] 91 ?_; intro gb289 hg w27 hbox hb; have n0_ := Aside0.mk (Kd.S_below (by (with_reducible repeat (first | apply Kd.S_alloc | apply Kd.S_drewN | apply Kd.S_drew)); exact HO_9.out) hb); have n1_ := Aside0.mk (below_step bB hb); have n2_ := Aside0.mk (hbox); have n3_ := Aside0.mk ((by rw [hg]; exact (below_size bB) : w.heap.size ≤ gb289)); have n4_ := Aside0.mk ((by rw [hg]; exact (below_size bB) : w.heap.size ≤ gb289)); clear HO_9; clear HB; have HO_9 := n0_; have HB := n1_; have BK289 := n2_; have GW289 := n3_; have GE289 := n4_; clear n0_ n1_ n2_ n3_ n4_; clear hb hbox hg; have hcz28_0 : w27.cell? ⟨gb289, 0, none⟩ = some (.int .i64 0) := (blk_cell BK289.out 0).trans rfl; have hcz28_1 : w27.cell? ⟨gb289, 1, none⟩ = some (.int .i64 0) := (blk_cell BK289.out 1).trans rfl; have hcz28_2 : w27.cell? ⟨gb289, 2, none⟩ = some (.int .i64 0) := (blk_cell BK289.out 2).trans rfl; have hfz28_0 := blk_frozen BK289.out 0; have hfz28_1 := blk_frozen BK289.out 1; have hfz28_2 := blk_frozen BK289.out 2))
        repeat (go_quiet (first | ((with_reducible refine gate_dst (N := 13) rfl ?_); refine bE 13 #[.int .i64 0, .int .i64 0, .int .i64 0] 91 ?_; intro gb289 hg w27 hbox hb; have n0_ := Aside0.mk (Kd.S_below (by (with_reducible repeat (first | apply Kd.S_alloc | apply Kd.S_drewN | apply Kd.S_drew)); exact HO_9.out) hb); have n1_ := Aside0.mk (below_step bB hb); have n2_ := Aside0.mk (hbox); have n3_ := Aside0.mk ((by rw [hg]; exact (below_size bB) : w.heap.size ≤ gb289)); have n4_ := Aside0.mk ((by rw [hg]; exact (below_size bB) : w.heap.size ≤ gb289)); clear HO_9; clear HB; have HO_9 := n0_; have HB := n1_; have BK289 := n2_; have GW289 := n3_; have GE289 := n4_; clear n0_ n1_ n2_ n3_ n4_; clear hb hbox hg; have hcz28_0 : w27.cell? ⟨gb289, 0, none⟩ = some (.int .i64 0) := (blk_cell BK289.out 0).trans rfl; have hcz28_1 : w27.cell? ⟨gb289, 1, none⟩ = some (.int .i64 0) := (blk_cell BK289.out 1).trans rfl; have hcz28_2 : w27.cell? ⟨gb289, 2, none⟩ = some (.int .i64 0) := (blk_cell BK289.out 2).trans rfl; have hfz28_0 := blk_frozen BK289.out 0; have hfz28_1 := blk_frozen BK289.out 1; have hfz28_2 := blk_frozen BK289.out 2)); try go_wp2_with (first | ((with_reducible refine gate_dst (N := 13) rfl ?_); refine bE 13 #[.int .i64 0, .int .i64 0, .int .i64 0] 91 ?_; intro gb289 hg w27 hbox hb; have n0_ := Aside0.mk (Kd.S_below (by (with_reducible repeat (first | apply Kd.S_alloc | apply Kd.S_drewN | apply Kd.S_drew)); exact HO_9.out) hb); have n1_ := Aside0.mk (below_step bB hb); have n2_ := Aside0.mk (hbox); have n3_ := Aside0.mk ((by rw [hg]; exact (below_size bB) : w.heap.size ≤ gb289)); have n4_ := Aside0.mk ((by rw [hg]; exact (below_size bB) : w.heap.size ≤ gb289)); clear HO_9; clear HB; have HO_9 := n0_; have HB := n1_; have BK289 := n2_; have GW289 := n3_; have GE289 := n4_; clear n0_ n1_ n2_ n3_ n4_; clear hb hbox hg; have hcz28_0 : w27.cell? ⟨gb289, 0, none⟩ = some (.int .i64 0) := (blk_cell BK289.out 0).trans rfl; have hcz28_1 : w27.cell? ⟨gb289, 1, none⟩ = some (.int .i64 0) := (blk_cell BK289.out 1).trans rfl; have hcz28_2 : w27.cell? ⟨gb289, 2, none⟩ = some (.int .i64 0) := (blk_cell BK289.out 2).trans rfl; have hfz28_0 := blk_frozen BK289.out 0; have hfz28_1 := blk_frozen BK289.out 1; have hfz28_2 := blk_frozen BK289.out 2)))
        go_loopg [60] k2 (fun kq v60 w' => ∃ (x60_3 : Int), v60 = .int .i64 x60_3 ∧ Aside0 (impl_isPlan.l2 kq l0 l3 t281 x53_2 l3 (l3.length : Int) x53_2 l3 (l3.length : Int) x60_3 ((rd_T91 l3 x53_2).f0) ((rd_T91 l3 x53_2).f1) ((rd_T91 l3 x53_2).f2) = some r) ∧ Aside0 (kq ≤ k2) ∧ Aside0 (Kd.S (Kd.slice 4 Kd.bool) 80 w' w.heap.size (fun _ => True) v282 t281) ∧ Aside0 (w'.heap[gb289]? = some (.cells #[.int .i64 ((rd_T91 l3 x53_2).f0), .int .i64 ((rd_T91 l3 x53_2).f1), .int .i64 ((rd_T91 l3 x53_2).f2)] 91 (0, 0))) ∧ Aside0 (Below w.heap.size w w'))
        case atStart => exact ⟨(0), sD, H', ⟨Nat.le_refl _⟩, ⟨by (with_reducible repeat (first | apply Kd.S_alloc | apply Kd.S_drewN | apply Kd.S_drew)); exact Kd.S_mono (Kd.S_far (p := ⟨gb289, 2, none⟩) (Kd.S_far (p := ⟨gb289, 1, none⟩) (Kd.S_far (p := ⟨gb289, 0, none⟩) (Kd.S_types HO_9.out BK289.out (by decide)) (fun _ hk => hk.2) (.int .i64 ((rd_T91 l3 x53_2).f0))) (fun _ hk => hk.2) (.int .i64 ((rd_T91 l3 x53_2).f1))) (fun _ hk => hk.2) (.int .i64 ((rd_T91 l3 x53_2).f2))) (fun _ hk => trivial)⟩, ⟨by (with_reducible repeat (first | refine blk_drewN ?_ _ | refine blk_drew ?_ | refine blk_alloc ?_ _)); refine blk_put (cs := #[.int .i64 ((rd_T91 l3 x53_2).f0), .int .i64 ((rd_T91 l3 x53_2).f1), .int .i64 0]) ?_ 2 _ rfl; (with_reducible repeat (first | refine blk_drewN ?_ _ | refine blk_drew ?_ | refine blk_alloc ?_ _)); refine blk_put (cs := #[.int .i64 ((rd_T91 l3 x53_2).f0), .int .i64 0, .int .i64 0]) ?_ 1 _ rfl; (with_reducible repeat (first | refine blk_drewN ?_ _ | refine blk_drew ?_ | refine blk_alloc ?_ _)); refine blk_put (cs := #[.int .i64 0, .int .i64 0, .int .i64 0]) ?_ 0 _ rfl; (with_reducible repeat (first | refine blk_drewN ?_ _ | refine blk_drew ?_ | refine blk_alloc ?_ _)); exact BK289.out⟩, ⟨by repeat (first | (with_reducible first | exact HB.out | apply below_alloc | apply pw_below_drewN | apply below_drew1 | refine below_set ?_ GE289.out) | exact HB.out)⟩⟩
        case round =>
         clear H'
         try clear c1
         try clear c2
         try clear p2
         try clear q2
         try clear hx2
         try clear c3
         try clear c5
         try clear c5b0
         try clear c5b1
         try clear c5b2
         try clear p6
         try clear c8
         try clear c8b0
         try clear c9
         try clear c9b0
         try clear c10
         try clear c10b0
         try clear c11
         try clear c11b0
         try clear c11b1
         try clear c13
         try clear c15
         try clear c24
         try clear c24b0
         try clear c25
         try clear c25b0
         try clear c26
         try clear c26b0
         try clear p28
         try clear q28
         try clear hx28
         try clear hcz17_0
         try clear hcz17_1
         try clear hcz17_2
         try clear hcz19_0
         try clear hcz19_1
         try clear hcz19_2
         try clear hcz21_0
         try clear hcz21_1
         try clear hcz21_2
         try clear hcz23_0
         try clear hcz23_1
         try clear hcz23_2
         try clear hcz28_0
         try clear hcz28_1
         try clear hcz28_2
         try clear hfz17_0
         try clear hfz17_1
         try clear hfz17_2
         try clear hfz19_0
         try clear hfz19_1
         try clear hfz19_2
         try clear hfz21_0
         try clear hfz21_1
         try clear hfz21_2
         try clear hfz23_0
         try clear hfz23_1
         try clear hfz23_2
         try clear hfz28_0
         try clear hfz28_1
         try clear hfz28_2
         try clear hx284_0
         try clear hx284_1
         try clear hx284_2
         try clear hx288_0
         try clear hx288_1
         try clear hx288_2
         try clear p2
         try clear p284
         try clear p288
         try clear p6
         try clear q2
         try clear q284
         try clear q288
         obtain ⟨x60_3, rfl, HA, HK3, HO_9, BK289, HB⟩ := hrel
         cases gk with
         | zero => exact absurd HA.out (by simp [impl_isPlan.l2])
         | succ k3 =>
          have H := HA.out
          clear HA
          simp only [impl_isPlan.l2] at H
          by_cases c29 : x60_3 < (l3.length : Int)
          ·rw [if_pos c29] at H
           have c29b0 : decide (x60_3 < (l3.length : Int)) = true := decide_eq_true c29
           clear c29
           by_cases c30 : 0 ≤ x60_3; rotate_left
           ·rw [if_neg c30] at H; exact absurd H (by simp)
           rw [if_pos c30] at H
           have c30b0 : decide (0 ≤ x60_3) = true := decide_eq_true c30
           clear c30
           by_cases c31 : x60_3 < (l3.length : Int); rotate_left
           ·rw [if_neg c31] at H; exact absurd H (by simp)
           rw [if_pos c31] at H
           have c31b0 : decide (x60_3 < (l3.length : Int)) = true := decide_eq_true c31
           clear c31
           by_cases c32 : 0 ≤ x53_2; rotate_left
           ·rw [if_neg c32] at H; exact absurd H (by simp)
           rw [if_pos c32] at H
           have c32b0 : decide (0 ≤ x53_2) = true := decide_eq_true c32
           clear c32
           by_cases c33 : x53_2 < (l0.length : Int); rotate_left
           ·rw [if_neg c33] at H; exact absurd H (by simp)
           rw [if_pos c33] at H
           have c33b0 : decide (x53_2 < (l0.length : Int)) = true := decide_eq_true c33
           clear c33
           have HC34 := Aside0.mk H
           clear H
           have p290 : 0 ≤ (x60_3 : Int) := oD
           have q290 : x60_3 < (l3.length : Int) := oD
           obtain ⟨ad290, e290, hx290_0, hx290_1, hx290_2⟩ := at_T91 HR3.out x60_3 p290 q290
           obtain rfl : ad288 = ad290 := (by injection e290)
           replace hx290_0 := (cB HB.out hx290_0 :)
           replace hx290_1 := (cB HB.out hx290_1 :)
           replace hx290_2 := (cB HB.out hx290_2 :)
           replace p290 := eq_true p290
           replace q290 := eq_true q290
           go_upto_region 17 with (first | ((with_reducible refine gate_dst (N := 15) rfl ?_); refine bE 15 #[.int .i64 0, .int .i64 0, .int .i64 0] 91 ?_; intro gb291 hg w35 hbox hb; have n0_ := Aside0.mk (Kd.S_below (by (with_reducible repeat (first | apply Kd.S_alloc | apply Kd.S_drewN | apply Kd.S_drew)); exact HO_9.out) hb); have n1_ := Aside0.mk (blk_below (g := gb289) (o := .cells #[.int .i64 ((rd_T91 l3 x53_2).f0), .int .i64 ((rd_T91 l3 x53_2).f1), .int .i64 ((rd_T91 l3 x53_2).f2)] 91 (0, 0)) kB hb); have n2_ := Aside0.mk (below_step bS hb); have n3_ := Aside0.mk (hbox); have n4_ := Aside0.mk ((by rw [hg]; exact (below_size bS) : w.heap.size ≤ gb291)); have n5_ := Aside0.mk ((by rw [hg]; exact (below_size bS) : w.heap.size ≤ gb291)); have n6_ := Aside0.mk ((by rw [hg]; exact Nat.ne_of_lt (blk_lt (g := gb289) (o := .cells #[.int .i64 ((rd_T91 l3 x53_2).f0), .int .i64 ((rd_T91 l3 x53_2).f1), .int .i64 ((rd_T91 l3 x53_2).f2)] 91 (0, 0)) kB) : gb289 ≠ gb291)); have n7_ := Aside0.mk ((by rw [hg]; exact Nat.ne_of_gt (blk_lt (g := gb289) (o := .cells #[.int .i64 ((rd_T91 l3 x53_2).f0), .int .i64 ((rd_T91 l3 x53_2).f1), .int .i64 ((rd_T91 l3 x53_2).f2)] 91 (0, 0)) kB) : gb291 ≠ gb289)); clear HO_9; clear BK289; clear HB; have HO_9 := n0_; have BK289 := n1_; have HB := n2_; have BK291 := n3_; have GW291 := n4_; have GE291 := n5_; have NB289_291 := n6_; have NB291_289 := n7_; clear n0_ n1_ n2_ n3_ n4_ n5_ n6_ n7_; clear hb hbox hg; have hnb36 := NB291_289.out; have hnc36 := NB289_291.out; have hcz37_0 : w35.cell? ⟨gb291, 0, none⟩ = some (.int .i64 0) := (blk_cell BK291.out 0).trans rfl; have hcz37_1 : w35.cell? ⟨gb291, 1, none⟩ = some (.int .i64 0) := (blk_cell BK291.out 1).trans rfl; have hcz37_2 : w35.cell? ⟨gb291, 2, none⟩ = some (.int .i64 0) := (blk_cell BK291.out 2).trans rfl; have hfz37_0 := blk_frozen BK291.out 0; have hfz37_1 := blk_frozen BK291.out 1; have hfz37_2 := blk_frozen BK291.out 2; have hcz38_0 : w35.cell? ⟨gb289, 0, none⟩ = some (.int .i64 ((rd_T91 l3 x53_2).f0)) := (blk_cell BK289.out 0).trans rfl; have hcz38_1 : w35.cell? ⟨gb289, 1, none⟩ = some (.int .i64 ((rd_T91 l3 x53_2).f1)) := (blk_cell BK289.out 1).trans rfl; have hcz38_2 : w35.cell? ⟨gb289, 2, none⟩ = some (.int .i64 ((rd_T91 l3 x53_2).f2)) := (blk_cell BK289.out 2).trans rfl; have hfz38_0 := blk_frozen BK289.out 0; have hfz38_1 := blk_frozen BK289.out 1; have hfz38_2 := blk_frozen BK289.out 2; have p292 : 0 ≤ (x53_2 : Int) := oD; have q292 : x53_2 < (l0.length : Int) := oD; obtain ⟨ad292, e292, hx292_0, hx292_1, hx292_2, hx292_3⟩ := at_T79 HR0.out x53_2 p292 q292; cases e292; have hn292_0 : ad292.block ≠ gb291 := Nat.ne_of_lt (Nat.lt_of_lt_of_le (by have := World.block_lt_of_cell? _ _ hx292_0; first | rwa [add_block] at this | exact this) GW291.out); have hn292_1 : ad292.block ≠ gb291 := Nat.ne_of_lt (Nat.lt_of_lt_of_le (by have := World.block_lt_of_cell? _ _ hx292_0; first | rwa [add_block] at this | exact this) GW291.out); have hn292_2 : ad292.block ≠ gb291 := Nat.ne_of_lt (Nat.lt_of_lt_of_le (by have := World.block_lt_of_cell? _ _ hx292_0; first | rwa [add_block] at this | exact this) GW291.out); replace hx292_0 := (cB HB.out hx292_0 :); replace hx292_1 := (cB HB.out hx292_1 :); replace hx292_2 := (cB HB.out hx292_2 :); replace hx292_3 := (cB HB.out hx292_3 :); replace hx292_0 := (cell_far (p := ⟨gb291, 0, none⟩) (nC hn292_0) (.int .i64 ((rd_T91 l3 x60_3).f0))).trans hx292_0; replace hx292_1 := (cell_far (p := ⟨gb291, 0, none⟩) (nC hn292_0) (.int .i64 ((rd_T91 l3 x60_3).f0))).trans hx292_1; replace hx292_2 := (cell_far (p := ⟨gb291, 0, none⟩) (nC hn292_0) (.int .i64 ((rd_T91 l3 x60_3).f0))).trans hx292_2; replace hx292_3 := (cell_far (p := ⟨gb291, 0, none⟩) (nC hn292_0) (.int .i64 ((rd_T91 l3 x60_3).f0))).trans hx292_3; replace hx292_0 := (cell_far (p := ⟨gb291, 1, none⟩) (nC hn292_1) (.int .i64 ((rd_T91 l3 x60_3).f1))).trans hx292_0; replace hx292_1 := (cell_far (p := ⟨gb291, 1, none⟩) (nC hn292_1) (.int .i64 ((rd_T91 l3 x60_3).f1))).trans hx292_1; replace hx292_2 := (cell_far (p := ⟨gb291, 1, none⟩) (nC hn292_1) (.int .i64 ((rd_T91 l3 x60_3).f1))).trans hx292_2; replace hx292_3 := (cell_far (p := ⟨gb291, 1, none⟩) (nC hn292_1) (.int .i64 ((rd_T91 l3 x60_3).f1))).trans hx292_3; replace hx292_0 := (cell_far (p := ⟨gb291, 2, none⟩) (nC hn292_2) (.int .i64 ((rd_T91 l3 x60_3).f2))).trans hx292_0; replace hx292_1 := (cell_far (p := ⟨gb291, 2, none⟩) (nC hn292_2) (.int .i64 ((rd_T91 l3 x60_3).f2))).trans hx292_1; replace hx292_2 := (cell_far (p := ⟨gb291, 2, none⟩) (nC hn292_2) (.int .i64 ((rd_T91 l3 x60_3).f2))).trans hx292_2; replace hx292_3 := (cell_far (p := ⟨gb291, 2, none⟩) (nC hn292_2) (.int .i64 ((rd_T91 l3 x60_3).f2))).trans hx292_3; (try have hy292_0 := fun (n_ : Nat) => (show (((((w35.drewN n_).setCell ⟨gb291, 0, none⟩ (.int .i64 ((rd_T91 l3 x60_3).f0))).setCell ⟨gb291, 1, none⟩ (.int .i64 ((rd_T91 l3 x60_3).f1))).setCell ⟨gb291, 2, none⟩ (.int .i64 ((rd_T91 l3 x60_3).f2)))).cell? _ = some _ from hx292_0)); (try have hy292_1 := fun (n_ : Nat) => (show (((((w35.drewN n_).setCell ⟨gb291, 0, none⟩ (.int .i64 ((rd_T91 l3 x60_3).f0))).setCell ⟨gb291, 1, none⟩ (.int .i64 ((rd_T91 l3 x60_3).f1))).setCell ⟨gb291, 2, none⟩ (.int .i64 ((rd_T91 l3 x60_3).f2)))).cell? _ = some _ from hx292_1)); (try have hy292_2 := fun (n_ : Nat) => (show (((((w35.drewN n_).setCell ⟨gb291, 0, none⟩ (.int .i64 ((rd_T91 l3 x60_3).f0))).setCell ⟨gb291, 1, none⟩ (.int .i64 ((rd_T91 l3 x60_3).f1))).setCell ⟨gb291, 2, none⟩ (.int .i64 ((rd_T91 l3 x60_3).f2)))).cell? _ = some _ from hx292_2)); (try have hy292_3 := fun (n_ : Nat) => (show (((((w35.drewN n_).setCell ⟨gb291, 0, none⟩ (.int .i64 ((rd_T91 l3 x60_3).f0))).setCell ⟨gb291, 1, none⟩ (.int .i64 ((rd_T91 l3 x60_3).f1))).setCell ⟨gb291, 2, none⟩ (.int .i64 ((rd_T91 l3 x60_3).f2)))).cell? _ = some _ from hx292_3)); clear hn292_0; clear hn292_1; clear hn292_2; replace p292 := eq_true p292; replace q292 := eq_true q292))
           repeat (go_quiet (first | ((with_reducible refine gate_dst (N := 15) rfl ?_); refine bE 15 #[.int .i64 0, .int .i64 0, .int .i64 0] 91 ?_; intro gb291 hg w35 hbox hb; have n0_ := Aside0.mk (Kd.S_below (by (with_reducible repeat (first | apply Kd.S_alloc | apply Kd.S_drewN | apply Kd.S_drew)); exact HO_9.out) hb); have n1_ := Aside0.mk (blk_below (g := gb289) (o := .cells #[.int .i64 ((rd_T91 l3 x53_2).f0), .int .i64 ((rd_T91 l3 x53_2).f1), .int .i64 ((rd_T91 l3 x53_2).f2)] 91 (0, 0)) kB hb); have n2_ := Aside0.mk (below_step bS hb); have n3_ := Aside0.mk (hbox); have n4_ := Aside0.mk ((by rw [hg]; exact (below_size bS) : w.heap.size ≤ gb291)); have n5_ := Aside0.mk ((by rw [hg]; exact (below_size bS) : w.heap.size ≤ gb291)); have n6_ := Aside0.mk ((by rw [hg]; exact Nat.ne_of_lt (blk_lt (g := gb289) (o := .cells #[.int .i64 ((rd_T91 l3 x53_2).f0), .int .i64 ((rd_T91 l3 x53_2).f1), .int .i64 ((rd_T91 l3 x53_2).f2)] 91 (0, 0)) kB) : gb289 ≠ gb291)); have n7_ := Aside0.mk ((by rw [hg]; exact Nat.ne_of_gt (blk_lt (g := gb289) (o := .cells #[.int .i64 ((rd_T91 l3 x53_2).f0), .int .i64 ((rd_T91 l3 x53_2).f1), .int .i64 ((rd_T91 l3 x53_2).f2)] 91 (0, 0)) kB) : gb291 ≠ gb289)); clear HO_9; clear BK289; clear HB; have HO_9 := n0_; have BK289 := n1_; have HB := n2_; have BK291 := n3_; have GW291 := n4_; have GE291 := n5_; have NB289_291 := n6_; have NB291_289 := n7_; clear n0_ n1_ n2_ n3_ n4_ n5_ n6_ n7_; clear hb hbox hg; have hnb36 := NB291_289.out; have hnc36 := NB289_291.out; have hcz37_0 : w35.cell? ⟨gb291, 0, none⟩ = some (.int .i64 0) := (blk_cell BK291.out 0).trans rfl; have hcz37_1 : w35.cell? ⟨gb291, 1, none⟩ = some (.int .i64 0) := (blk_cell BK291.out 1).trans rfl; have hcz37_2 : w35.cell? ⟨gb291, 2, none⟩ = some (.int .i64 0) := (blk_cell BK291.out 2).trans rfl; have hfz37_0 := blk_frozen BK291.out 0; have hfz37_1 := blk_frozen BK291.out 1; have hfz37_2 := blk_frozen BK291.out 2; have hcz38_0 : w35.cell? ⟨gb289, 0, none⟩ = some (.int .i64 ((rd_T91 l3 x53_2).f0)) := (blk_cell BK289.out 0).trans rfl; have hcz38_1 : w35.cell? ⟨gb289, 1, none⟩ = some (.int .i64 ((rd_T91 l3 x53_2).f1)) := (blk_cell BK289.out 1).trans rfl; have hcz38_2 : w35.cell? ⟨gb289, 2, none⟩ = some (.int .i64 ((rd_T91 l3 x53_2).f2)) := (blk_cell BK289.out 2).trans rfl; have hfz38_0 := blk_frozen BK289.out 0; have hfz38_1 := blk_frozen BK289.out 1; have hfz38_2 := blk_frozen BK289.out 2; have p292 : 0 ≤ (x53_2 : Int) := oD; have q292 : x53_2 < (l0.length : Int) := oD; obtain ⟨ad292, e292, hx292_0, hx292_1, hx292_2, hx292_3⟩ := at_T79 HR0.out x53_2 p292 q292; cases e292; have hn292_0 : ad292.block ≠ gb291 := Nat.ne_of_lt (Nat.lt_of_lt_of_le (by have := World.block_lt_of_cell? _ _ hx292_0; first | rwa [add_block] at this | exact this) GW291.out); have hn292_1 : ad292.block ≠ gb291 := Nat.ne_of_lt (Nat.lt_of_lt_of_le (by have := World.block_lt_of_cell? _ _ hx292_0; first | rwa [add_block] at this | exact this) GW291.out); have hn292_2 : ad292.block ≠ gb291 := Nat.ne_of_lt (Nat.lt_of_lt_of_le (by have := World.block_lt_of_cell? _ _ hx292_0; first | rwa [add_block] at this | exact this) GW291.out); replace hx292_0 := (cB HB.out hx292_0 :); replace hx292_1 := (cB HB.out hx292_1 :); replace hx292_2 := (cB HB.out hx292_2 :); replace hx292_3 := (cB HB.out hx292_3 :); replace hx292_0 := (cell_far (p := ⟨gb291, 0, none⟩) (nC hn292_0) (.int .i64 ((rd_T91 l3 x60_3).f0))).trans hx292_0; replace hx292_1 := (cell_far (p := ⟨gb291, 0, none⟩) (nC hn292_0) (.int .i64 ((rd_T91 l3 x60_3).f0))).trans hx292_1; replace hx292_2 := (cell_far (p := ⟨gb291, 0, none⟩) (nC hn292_0) (.int .i64 ((rd_T91 l3 x60_3).f0))).trans hx292_2; replace hx292_3 := (cell_far (p := ⟨gb291, 0, none⟩) (nC hn292_0) (.int .i64 ((rd_T91 l3 x60_3).f0))).trans hx292_3; replace hx292_0 := (cell_far (p := ⟨gb291, 1, none⟩) (nC hn292_1) (.int .i64 ((rd_T91 l3 x60_3).f1))).trans hx292_0; replace hx292_1 := (cell_far (p := ⟨gb291, 1, none⟩) (nC hn292_1) (.int .i64 ((rd_T91 l3 x60_3).f1))).trans hx292_1; replace hx292_2 := (cell_far (p := ⟨gb291, 1, none⟩) (nC hn292_1) (.int .i64 ((rd_T91 l3 x60_3).f1))).trans hx292_2; replace hx292_3 := (cell_far (p := ⟨gb291, 1, none⟩) (nC hn292_1) (.int .i64 ((rd_T91 l3 x60_3).f1))).trans hx292_3; replace hx292_0 := (cell_far (p := ⟨gb291, 2, none⟩) (nC hn292_2) (.int .i64 ((rd_T91 l3 x60_3).f2))).trans hx292_0; replace hx292_1 := (cell_far (p := ⟨gb291, 2, none⟩) (nC hn292_2) (.int .i64 ((rd_T91 l3 x60_3).f2))).trans hx292_1; replace hx292_2 := (cell_far (p := ⟨gb291, 2, none⟩) (nC hn292_2) (.int .i64 ((rd_T91 l3 x60_3).f2))).trans hx292_2; replace hx292_3 := (cell_far (p := ⟨gb291, 2, none⟩) (nC hn292_2) (.int .i64 ((rd_T91 l3 x60_3).f2))).trans hx292_3; (try have hy292_0 := fun (n_ : Nat) => (show (((((w35.drewN n_).setCell ⟨gb291, 0, none⟩ (.int .i64 ((rd_T91 l3 x60_3).f0))).setCell ⟨gb291, 1, none⟩ (.int .i64 ((rd_T91 l3 x60_3).f1))).setCell ⟨gb291, 2, none⟩ (.int .i64 ((rd_T91 l3 x60_3).f2)))).cell? _ = some _ from hx292_0)); (try have hy292_1 := fun (n_ : Nat) => (show (((((w35.drewN n_).setCell ⟨gb291, 0, none⟩ (.int .i64 ((rd_T91 l3 x60_3).f0))).setCell ⟨gb291, 1, none⟩ (.int .i64 ((rd_T91 l3 x60_3).f1))).setCell ⟨gb291, 2, none⟩ (.int .i64 ((rd_T91 l3 x60_3).f2)))).cell? _ = some _ from hx292_1)); (try have hy292_2 := fun (n_ : Nat) => (show (((((w35.drewN n_).setCell ⟨gb291, 0, none⟩ (.int .i64 ((rd_T91 l3 x60_3).f0))).setCell ⟨gb291, 1, none⟩ (.int .i64 ((rd_T91 l3 x60_3).f1))).setCell ⟨gb291, 2, none⟩ (.int .i64 ((rd_T91 l3 x60_3).f2)))).cell? _ = some _ from hx292_2)); (try have hy292_3 := fun (n_ : Nat) => (show (((((w35.drewN n_).setCell ⟨gb291, 0, none⟩ (.int .i64 ((rd_T91 l3 x60_3).f0))).setCell ⟨gb291, 1, none⟩ (.int .i64 ((rd_T91 l3 x60_3).f1))).setCell ⟨gb291, 2, none⟩ (.int .i64 ((rd_T91 l3 x60_3).f2)))).cell? _ = some _ from hx292_3)); clear hn292_0; clear hn292_1; clear hn292_2; replace p292 := eq_true p292; replace q292 := eq_true q292)); go_upto_region 17 with (first | ((with_reducible refine gate_dst (N := 15) rfl ?_); refine bE 15 #[.int .i64 0, .int .i64 0, .int .i64 0] 91 ?_; intro gb291 hg w35 hbox hb; have n0_ := Aside0.mk (Kd.S_below (by (with_reducible repeat (first | apply Kd.S_alloc | apply Kd.S_drewN | apply Kd.S_drew)); exact HO_9.out) hb); have n1_ := Aside0.mk (blk_below (g := gb289) (o := .cells #[.int .i64 ((rd_T91 l3 x53_2).f0), .int .i64 ((rd_T91 l3 x53_2).f1), .int .i64 ((rd_T91 l3 x53_2).f2)] 91 (0, 0)) kB hb); have n2_ := Aside0.mk (below_step bS hb); have n3_ := Aside0.mk (hbox); have n4_ := Aside0.mk ((by rw [hg]; exact (below_size bS) : w.heap.size ≤ gb291)); have n5_ := Aside0.mk ((by rw [hg]; exact (below_size bS) : w.heap.size ≤ gb291)); have n6_ := Aside0.mk ((by rw [hg]; exact Nat.ne_of_lt (blk_lt (g := gb289) (o := .cells #[.int .i64 ((rd_T91 l3 x53_2).f0), .int .i64 ((rd_T91 l3 x53_2).f1), .int .i64 ((rd_T91 l3 x53_2).f2)] 91 (0, 0)) kB) : gb289 ≠ gb291)); have n7_ := Aside0.mk ((by rw [hg]; exact Nat.ne_of_gt (blk_lt (g := gb289) (o := .cells #[.int .i64 ((rd_T91 l3 x53_2).f0), .int .i64 ((rd_T91 l3 x53_2).f1), .int .i64 ((rd_T91 l3 x53_2).f2)] 91 (0, 0)) kB) : gb291 ≠ gb289)); clear HO_9; clear BK289; clear HB; have HO_9 := n0_; have BK289 := n1_; have HB := n2_; have BK291 := n3_; have GW291 := n4_; have GE291 := n5_; have NB289_291 := n6_; have NB291_289 := n7_; clear n0_ n1_ n2_ n3_ n4_ n5_ n6_ n7_; clear hb hbox hg; have hnb36 := NB291_289.out; have hnc36 := NB289_291.out; have hcz37_0 : w35.cell? ⟨gb291, 0, none⟩ = some (.int .i64 0) := (blk_cell BK291.out 0).trans rfl; have hcz37_1 : w35.cell? ⟨gb291, 1, none⟩ = some (.int .i64 0) := (blk_cell BK291.out 1).trans rfl; have hcz37_2 : w35.cell? ⟨gb291, 2, none⟩ = some (.int .i64 0) := (blk_cell BK291.out 2).trans rfl; have hfz37_0 := blk_frozen BK291.out 0; have hfz37_1 := blk_frozen BK291.out 1; have hfz37_2 := blk_frozen BK291.out 2; have hcz38_0 : w35.cell? ⟨gb289, 0, none⟩ = some (.int .i64 ((rd_T91 l3 x53_2).f0)) := (blk_cell BK289.out 0).trans rfl; have hcz38_1 : w35.cell? ⟨gb289, 1, none⟩ = some (.int .i64 ((rd_T91 l3 x53_2).f1)) := (blk_cell BK289.out 1).trans rfl; have hcz38_2 : w35.cell? ⟨gb289, 2, none⟩ = some (.int .i64 ((rd_T91 l3 x53_2).f2)) := (blk_cell BK289.out 2).trans rfl; have hfz38_0 := blk_frozen BK289.out 0; have hfz38_1 := blk_frozen BK289.out 1; have hfz38_2 := blk_frozen BK289.out 2; have p292 : 0 ≤ (x53_2 : Int) := oD; have q292 : x53_2 < (l0.length : Int) := oD; obtain ⟨ad292, e292, hx292_0, hx292_1, hx292_2, hx292_3⟩ := at_T79 HR0.out x53_2 p292 q292; cases e292; have hn292_0 : ad292.block ≠ gb291 := Nat.ne_of_lt (Nat.lt_of_lt_of_le (by have := World.block_lt_of_cell? _ _ hx292_0; first | rwa [add_block] at this | exact this) GW291.out); have hn292_1 : ad292.block ≠ gb291 := Nat.ne_of_lt (Nat.lt_of_lt_of_le (by have := World.block_lt_of_cell? _ _ hx292_0; first | rwa [add_block] at this | exact this) GW291.out); have hn292_2 : ad292.block ≠ gb291 := Nat.ne_of_lt (Nat.lt_of_lt_of_le (by have := World.block_lt_of_cell? _ _ hx292_0; first | rwa [add_block] at this | exact this) GW291.out); replace hx292_0 := (cB HB.out hx292_0 :); replace hx292_1 := (cB HB.out hx292_1 :); replace hx292_2 := (cB HB.out hx292_2 :); replace hx292_3 := (cB HB.out hx292_3 :); replace hx292_0 := (cell_far (p := ⟨gb291, 0, none⟩) (nC hn292_0) (.int .i64 ((rd_T91 l3 x60_3).f0))).trans hx292_0; replace hx292_1 := (cell_far (p := ⟨gb291, 0, none⟩) (nC hn292_0) (.int .i64 ((rd_T91 l3 x60_3).f0))).trans hx292_1; replace hx292_2 := (cell_far (p := ⟨gb291, 0, none⟩) (nC hn292_0) (.int .i64 ((rd_T91 l3 x60_3).f0))).trans hx292_2; replace hx292_3 := (cell_far (p := ⟨gb291, 0, none⟩) (nC hn292_0) (.int .i64 ((rd_T91 l3 x60_3).f0))).trans hx292_3; replace hx292_0 := (cell_far (p := ⟨gb291, 1, none⟩) (nC hn292_1) (.int .i64 ((rd_T91 l3 x60_3).f1))).trans hx292_0; replace hx292_1 := (cell_far (p := ⟨gb291, 1, none⟩) (nC hn292_1) (.int .i64 ((rd_T91 l3 x60_3).f1))).trans hx292_1; replace hx292_2 := (cell_far (p := ⟨gb291, 1, none⟩) (nC hn292_1) (.int .i64 ((rd_T91 l3 x60_3).f1))).trans hx292_2; replace hx292_3 := (cell_far (p := ⟨gb291, 1, none⟩) (nC hn292_1) (.int .i64 ((rd_T91 l3 x60_3).f1))).trans hx292_3; replace hx292_0 := (cell_far (p := ⟨gb291, 2, none⟩) (nC hn292_2) (.int .i64 ((rd_T91 l3 x60_3).f2))).trans hx292_0; replace hx292_1 := (cell_far (p := ⟨gb291, 2, none⟩) (nC hn292_2) (.int .i64 ((rd_T91 l3 x60_3).f2))).trans hx292_1; replace hx292_2 := (cell_far (p := ⟨gb291, 2, none⟩) (nC hn292_2) (.int .i64 ((rd_T91 l3 x60_3).f2))).trans hx292_2; replace hx292_3 := (cell_far (p := ⟨gb291, 2, none⟩) (nC hn292_2) (.int .i64 ((rd_T91 l3 x60_3).f2))).trans hx292_3; (try have hy292_0 := fun (n_ : Nat) => (show (((((w35.drewN n_).setCell ⟨gb291, 0, none⟩ (.int .i64 ((rd_T91 l3 x60_3).f0))).setCell ⟨gb291, 1, none⟩ (.int .i64 ((rd_T91 l3 x60_3).f1))).setCell ⟨gb291, 2, none⟩ (.int .i64 ((rd_T91 l3 x60_3).f2)))).cell? _ = some _ from hx292_0)); (try have hy292_1 := fun (n_ : Nat) => (show (((((w35.drewN n_).setCell ⟨gb291, 0, none⟩ (.int .i64 ((rd_T91 l3 x60_3).f0))).setCell ⟨gb291, 1, none⟩ (.int .i64 ((rd_T91 l3 x60_3).f1))).setCell ⟨gb291, 2, none⟩ (.int .i64 ((rd_T91 l3 x60_3).f2)))).cell? _ = some _ from hx292_1)); (try have hy292_2 := fun (n_ : Nat) => (show (((((w35.drewN n_).setCell ⟨gb291, 0, none⟩ (.int .i64 ((rd_T91 l3 x60_3).f0))).setCell ⟨gb291, 1, none⟩ (.int .i64 ((rd_T91 l3 x60_3).f1))).setCell ⟨gb291, 2, none⟩ (.int .i64 ((rd_T91 l3 x60_3).f2)))).cell? _ = some _ from hx292_2)); (try have hy292_3 := fun (n_ : Nat) => (show (((((w35.drewN n_).setCell ⟨gb291, 0, none⟩ (.int .i64 ((rd_T91 l3 x60_3).f0))).setCell ⟨gb291, 1, none⟩ (.int .i64 ((rd_T91 l3 x60_3).f1))).setCell ⟨gb291, 2, none⟩ (.int .i64 ((rd_T91 l3 x60_3).f2)))).cell? _ = some _ from hx292_3)); clear hn292_0; clear hn292_1; clear hn292_2; replace p292 := eq_true p292; replace q292 := eq_true q292)))
           (try simp only [Act.put, sA, sZ, sS])
           go_cut [86] (fun v86 wc => ∃ (kq : Nat) (x86_33 : Bool), v86 = .bool x86_33 ∧ Aside0 (impl_isPlan.j3 kq l0 l3 t281 x53_2 x60_3 (decide ((wrap64 (((rd_T91 l3 x53_2).f2) + ((rd_T79 l0 x53_2).f0))) ≤ ((rd_T91 l3 x60_3).f2))) l3 (l3.length : Int) x53_2 l3 (l3.length : Int) x60_3 x86_33 ((rd_T91 l3 x53_2).f0) ((rd_T91 l3 x53_2).f1) ((rd_T91 l3 x53_2).f2) ((rd_T91 l3 x60_3).f0) ((rd_T91 l3 x60_3).f1) ((rd_T91 l3 x60_3).f2) = some r) ∧ Aside0 (kq ≤ k3) ∧ Aside0 (Kd.S (Kd.slice 4 Kd.bool) 80 wc w.heap.size (fun _ => True) v282 t281) ∧ Aside0 (wc.heap[gb289]? = some (.cells #[.int .i64 ((rd_T91 l3 x53_2).f0), .int .i64 ((rd_T91 l3 x53_2).f1), .int .i64 ((rd_T91 l3 x53_2).f2)] 91 (0, 0))) ∧ Aside0 (wc.heap[gb291]? = some (.cells #[.int .i64 ((rd_T91 l3 x60_3).f0), .int .i64 ((rd_T91 l3 x60_3).f1), .int .i64 ((rd_T91 l3 x60_3).f2)] 91 (0, 0))) ∧ Aside0 (Below w.heap.size w wc))
           case first =>
            have H := HC34.out
            clear HC34
            by_cases c39 : x53_2 < (t281.length : Int); rotate_left
            ·rw [if_neg c39] at H; exact absurd H (by simp)
            rw [if_pos c39] at H
            have c39b0 : decide (x53_2 < (t281.length : Int)) = true := decide_eq_true c39
            clear c39
            (first | rw [c39b0] | (simp only [i64_w, i32_w]; rw [c39b0]) | skip)
            by_cases c40 : x60_3 < ((rd_L7 t281 x53_2).length : Int); rotate_left
            ·rw [if_neg c40] at H; exact absurd H (by simp)
            rw [if_pos c40] at H
            have c40b0 : decide (x60_3 < ((rd_L7 t281 x53_2).length : Int)) = true := decide_eq_true c40
            clear c40
            obtain ⟨bq41, hbq41⟩ : ∃ b_ : Bool, b_ = (rdOf false (rd_L7 t281 x53_2) x60_3) := ⟨_, rfl⟩
            replace H : (if bq41 = true then (impl_isPlan.j3 k3 l0 l3 t281 x53_2 x60_3 (decide ((wrap64 (((rd_T91 l3 x53_2).f2) + ((rd_T79 l0 x53_2).f0))) ≤ ((rd_T91 l3 x60_3).f2))) l3 (l3.length : Int) x53_2 l3 (l3.length : Int) x60_3 (!(decide ((wrap64 (((rd_T91 l3 x53_2).f2) + ((rd_T79 l0 x53_2).f0))) ≤ ((rd_T91 l3 x60_3).f2)))) ((rd_T91 l3 x53_2).f0) ((rd_T91 l3 x53_2).f1) ((rd_T91 l3 x53_2).f2) ((rd_T91 l3 x60_3).f0) ((rd_T91 l3 x60_3).f1) ((rd_T91 l3 x60_3).f2)) else (impl_isPlan.j3 k3 l0 l3 t281 x53_2 x60_3 (decide ((wrap64 (((rd_T91 l3 x53_2).f2) + ((rd_T79 l0 x53_2).f0))) ≤ ((rd_T91 l3 x60_3).f2))) l3 (l3.length : Int) x53_2 l3 (l3.length : Int) x60_3 false ((rd_T91 l3 x53_2).f0) ((rd_T91 l3 x53_2).f1) ((rd_T91 l3 x53_2).f2) ((rd_T91 l3 x60_3).f0) ((rd_T91 l3 x60_3).f1) ((rd_T91 l3 x60_3).f2))) = some r := by rw [← hbq41] at H; exact H
            have Nbq41 := Aside0.mk hbq41
            clear hbq41
            by_cases c42 : bq41 = true
            ·subst c42
             have H1 : (impl_isPlan.j3 k3 l0 l3 t281 x53_2 x60_3 (decide ((wrap64 (((rd_T91 l3 x53_2).f2) + ((rd_T79 l0 x53_2).f0))) ≤ ((rd_T91 l3 x60_3).f2))) l3 (l3.length : Int) x53_2 l3 (l3.length : Int) x60_3 (!(decide ((wrap64 (((rd_T91 l3 x53_2).f2) + ((rd_T79 l0 x53_2).f0))) ≤ ((rd_T91 l3 x60_3).f2)))) ((rd_T91 l3 x53_2).f0) ((rd_T91 l3 x53_2).f1) ((rd_T91 l3 x53_2).f2) ((rd_T91 l3 x60_3).f0) ((rd_T91 l3 x60_3).f1) ((rd_T91 l3 x60_3).f2)) = some r := by rw [if_pos rfl] at H; exact H
             clear H
             have H := H1
             clear H1
             have H' := Aside0.mk H
             clear H
             have n0_ : Aside0 (Kd.S (Kd.slice 4 Kd.bool) 80 (((w35.setCell ⟨gb291, 0, none⟩ (.int .i64 ((rd_T91 l3 x60_3).f0))).setCell ⟨gb291, 1, none⟩ (.int .i64 ((rd_T91 l3 x60_3).f1))).setCell ⟨gb291, 2, none⟩ (.int .i64 ((rd_T91 l3 x60_3).f2))) w.heap.size (fun _ => True) v282 t281) := ⟨by exact Kd.S_mono (Kd.S_far (p := ⟨gb291, 2, none⟩) (Kd.S_far (p := ⟨gb291, 1, none⟩) (Kd.S_far (p := ⟨gb291, 0, none⟩) (Kd.S_types HO_9.out BK291.out (by decide)) (fun _ hk => hk.2) (.int .i64 ((rd_T91 l3 x60_3).f0))) (fun _ hk => hk.2) (.int .i64 ((rd_T91 l3 x60_3).f1))) (fun _ hk => hk.2) (.int .i64 ((rd_T91 l3 x60_3).f2))) (fun _ hk => trivial)⟩
             have n1_ : Aside0 ((((w35.setCell ⟨gb291, 0, none⟩ (.int .i64 ((rd_T91 l3 x60_3).f0))).setCell ⟨gb291, 1, none⟩ (.int .i64 ((rd_T91 l3 x60_3).f1))).setCell ⟨gb291, 2, none⟩ (.int .i64 ((rd_T91 l3 x60_3).f2))).heap[gb289]? = some (.cells #[.int .i64 ((rd_T91 l3 x53_2).f0), .int .i64 ((rd_T91 l3 x53_2).f1), .int .i64 ((rd_T91 l3 x53_2).f2)] 91 (0, 0))) := ⟨by refine blk_far ?_ NB289_291.out _; refine blk_far ?_ NB289_291.out _; refine blk_far ?_ NB289_291.out _; exact BK289.out⟩
             have n2_ : Aside0 ((((w35.setCell ⟨gb291, 0, none⟩ (.int .i64 ((rd_T91 l3 x60_3).f0))).setCell ⟨gb291, 1, none⟩ (.int .i64 ((rd_T91 l3 x60_3).f1))).setCell ⟨gb291, 2, none⟩ (.int .i64 ((rd_T91 l3 x60_3).f2))).heap[gb291]? = some (.cells #[.int .i64 ((rd_T91 l3 x60_3).f0), .int .i64 ((rd_T91 l3 x60_3).f1), .int .i64 ((rd_T91 l3 x60_3).f2)] 91 (0, 0))) := ⟨by refine blk_put (cs := #[.int .i64 ((rd_T91 l3 x60_3).f0), .int .i64 ((rd_T91 l3 x60_3).f1), .int .i64 0]) ?_ 2 _ rfl; refine blk_put (cs := #[.int .i64 ((rd_T91 l3 x60_3).f0), .int .i64 0, .int .i64 0]) ?_ 1 _ rfl; refine blk_put (cs := #[.int .i64 0, .int .i64 0, .int .i64 0]) ?_ 0 _ rfl; exact BK291.out⟩
             have n3_ : Aside0 (Below w.heap.size w (((w35.setCell ⟨gb291, 0, none⟩ (.int .i64 ((rd_T91 l3 x60_3).f0))).setCell ⟨gb291, 1, none⟩ (.int .i64 ((rd_T91 l3 x60_3).f1))).setCell ⟨gb291, 2, none⟩ (.int .i64 ((rd_T91 l3 x60_3).f2)))) := ⟨by repeat (first | (with_reducible first | exact HB.out | apply below_alloc | apply pw_below_drewN | apply below_drew1 | refine below_set ?_ GE289.out | refine below_set ?_ GE291.out) | exact HB.out)⟩
             (try clear HO_9)
             (try clear BK289)
             (try clear BK291)
             (try clear HB)
             generalize (((w35.setCell ⟨gb291, 0, none⟩ (.int .i64 ((rd_T91 l3 x60_3).f0))).setCell ⟨gb291, 1, none⟩ (.int .i64 ((rd_T91 l3 x60_3).f1))).setCell ⟨gb291, 2, none⟩ (.int .i64 ((rd_T91 l3 x60_3).f2))) = w43 at n0_ n1_ n2_ n3_ ⊢
             have HO_9 := n0_
             have BK289 := n1_
             have BK291 := n2_
             have HB := n3_
             clear n0_ n1_ n2_ n3_
             obtain ⟨Ao44, co44, eo44⟩ := Kd.S_slice HO_9.out
             subst eo44
             have p293 : 0 ≤ (x53_2 : Int) := oD
             have q293 : x53_2 < (t281.length : Int) := oD
             obtain ⟨ad293, A293_0, c293_0, e293, hx293_0, hl293_0, hi293_0⟩ := at_L7 (Kd.S_reads' HO_9.out).2.2 x53_2 p293 q293
             cases e293
             obtain ⟨ce293, hce293, hMe293, hcc293⟩ := Kd.S_get HO_9.out [] x53_2 p293 (by first | exact q293 | exact oD | (have e_ := (Kd.S_reads' HO_9.out).1; omega))
             obtain ⟨ve293_0, rfl, ge293_0⟩ := hMe293
             have hv293_0 := hcc293 0 _ rfl
             rw [Nat.add_zero, show ((Kd.slice 4 Kd.bool)).sz = 1 from rfl, Nat.mul_one] at hv293_0
             replace hv293_0 := Option.some.inj (hv293_0.symm.trans hx293_0)
             rw [hv293_0] at ge293_0
             have HL293_0 := Aside0.mk (show Kd.R Kd.bool 4 _ _ _ _ (rd_L7 t281 x53_2) from ge293_0)
             clear hv293_0 ge293_0
             clear hcc293 hce293
             have HR293_0 := Aside0.mk hi293_0
             have HC293_0 := Aside0.mk hl293_0
             clear hi293_0 hl293_0
             replace p293 := eq_true p293
             replace q293 := eq_true q293
             have p294 : 0 ≤ (x60_3 : Int) := oD
             have q294 : x60_3 < ((rd_L7 t281 x53_2).length : Int) := oD
             obtain ⟨ad294, e294, hx294_0⟩ := Kd.at_bool (by repeat (first | (with_reducible exact HR293_0.out) | (with_reducible refine Kd.C_alloc ?_ _) | (with_reducible refine Kd.C_drewN ?_ _) | (with_reducible refine Kd.C_drew ?_) | exact HR293_0.out)) x60_3 p294 q294
             (try rw [← Nbq41.out] at hx294_0)
             cases e294
             replace p294 := eq_true p294
             replace q294 := eq_true q294
             go_wp2
             repeat (go_quiet (fail); try go_wp2)
             go_meet
             case rel => exact ⟨_, (!(decide ((wrap64 (((rd_T91 l3 x53_2).f2) + ((rd_T79 l0 x53_2).f0))) ≤ ((rd_T91 l3 x60_3).f2)))), sD, H', ⟨by have := HK1.out; have := HK2.out; have := HK3.out; first | omega | exact Nat.le_refl _⟩, ⟨kS⟩, ⟨kB⟩, ⟨kB⟩, ⟨by repeat (first | (with_reducible first | exact HB.out | apply below_alloc | apply pw_below_drewN | apply below_drew1 | refine below_set ?_ GE289.out | refine below_set ?_ GE291.out) | exact HB.out)⟩⟩
            ·replace c42 := Bool.eq_false_iff.mpr c42
             subst c42
             have H1 : (impl_isPlan.j3 k3 l0 l3 t281 x53_2 x60_3 (decide ((wrap64 (((rd_T91 l3 x53_2).f2) + ((rd_T79 l0 x53_2).f0))) ≤ ((rd_T91 l3 x60_3).f2))) l3 (l3.length : Int) x53_2 l3 (l3.length : Int) x60_3 false ((rd_T91 l3 x53_2).f0) ((rd_T91 l3 x53_2).f1) ((rd_T91 l3 x53_2).f2) ((rd_T91 l3 x60_3).f0) ((rd_T91 l3 x60_3).f1) ((rd_T91 l3 x60_3).f2)) = some r := by rw [if_neg (show ¬ (false = true) by decide)] at H; exact H
             clear H
             have H := H1
             clear H1
             have H' := Aside0.mk H
             clear H
             have n0_ : Aside0 (Kd.S (Kd.slice 4 Kd.bool) 80 (((w35.setCell ⟨gb291, 0, none⟩ (.int .i64 ((rd_T91 l3 x60_3).f0))).setCell ⟨gb291, 1, none⟩ (.int .i64 ((rd_T91 l3 x60_3).f1))).setCell ⟨gb291, 2, none⟩ (.int .i64 ((rd_T91 l3 x60_3).f2))) w.heap.size (fun _ => True) v282 t281) := ⟨by exact Kd.S_mono (Kd.S_far (p := ⟨gb291, 2, none⟩) (Kd.S_far (p := ⟨gb291, 1, none⟩) (Kd.S_far (p := ⟨gb291, 0, none⟩) (Kd.S_types HO_9.out BK291.out (by decide)) (fun _ hk => hk.2) (.int .i64 ((rd_T91 l3 x60_3).f0))) (fun _ hk => hk.2) (.int .i64 ((rd_T91 l3 x60_3).f1))) (fun _ hk => hk.2) (.int .i64 ((rd_T91 l3 x60_3).f2))) (fun _ hk => trivial)⟩
             have n1_ : Aside0 ((((w35.setCell ⟨gb291, 0, none⟩ (.int .i64 ((rd_T91 l3 x60_3).f0))).setCell ⟨gb291, 1, none⟩ (.int .i64 ((rd_T91 l3 x60_3).f1))).setCell ⟨gb291, 2, none⟩ (.int .i64 ((rd_T91 l3 x60_3).f2))).heap[gb289]? = some (.cells #[.int .i64 ((rd_T91 l3 x53_2).f0), .int .i64 ((rd_T91 l3 x53_2).f1), .int .i64 ((rd_T91 l3 x53_2).f2)] 91 (0, 0))) := ⟨by refine blk_far ?_ NB289_291.out _; refine blk_far ?_ NB289_291.out _; refine blk_far ?_ NB289_291.out _; exact BK289.out⟩
             have n2_ : Aside0 ((((w35.setCell ⟨gb291, 0, none⟩ (.int .i64 ((rd_T91 l3 x60_3).f0))).setCell ⟨gb291, 1, none⟩ (.int .i64 ((rd_T91 l3 x60_3).f1))).setCell ⟨gb291, 2, none⟩ (.int .i64 ((rd_T91 l3 x60_3).f2))).heap[gb291]? = some (.cells #[.int .i64 ((rd_T91 l3 x60_3).f0), .int .i64 ((rd_T91 l3 x60_3).f1), .int .i64 ((rd_T91 l3 x60_3).f2)] 91 (0, 0))) := ⟨by refine blk_put (cs := #[.int .i64 ((rd_T91 l3 x60_3).f0), .int .i64 ((rd_T91 l3 x60_3).f1), .int .i64 0]) ?_ 2 _ rfl; refine blk_put (cs := #[.int .i64 ((rd_T91 l3 x60_3).f0), .int .i64 0, .int .i64 0]) ?_ 1 _ rfl; refine blk_put (cs := #[.int .i64 0, .int .i64 0, .int .i64 0]) ?_ 0 _ rfl; exact BK291.out⟩
             have n3_ : Aside0 (Below w.heap.size w (((w35.setCell ⟨gb291, 0, none⟩ (.int .i64 ((rd_T91 l3 x60_3).f0))).setCell ⟨gb291, 1, none⟩ (.int .i64 ((rd_T91 l3 x60_3).f1))).setCell ⟨gb291, 2, none⟩ (.int .i64 ((rd_T91 l3 x60_3).f2)))) := ⟨by repeat (first | (with_reducible first | exact HB.out | apply below_alloc | apply pw_below_drewN | apply below_drew1 | refine below_set ?_ GE289.out | refine below_set ?_ GE291.out) | exact HB.out)⟩
             (try clear HO_9)
             (try clear BK289)
             (try clear BK291)
             (try clear HB)
             generalize (((w35.setCell ⟨gb291, 0, none⟩ (.int .i64 ((rd_T91 l3 x60_3).f0))).setCell ⟨gb291, 1, none⟩ (.int .i64 ((rd_T91 l3 x60_3).f1))).setCell ⟨gb291, 2, none⟩ (.int .i64 ((rd_T91 l3 x60_3).f2))) = w45 at n0_ n1_ n2_ n3_ ⊢
             have HO_9 := n0_
             have BK289 := n1_
             have BK291 := n2_
             have HB := n3_
             clear n0_ n1_ n2_ n3_
             obtain ⟨Ao46, co46, eo46⟩ := Kd.S_slice HO_9.out
             subst eo46
             have p293 : 0 ≤ (x53_2 : Int) := oD
             have q293 : x53_2 < (t281.length : Int) := oD
             obtain ⟨ad293, A293_0, c293_0, e293, hx293_0, hl293_0, hi293_0⟩ := at_L7 (Kd.S_reads' HO_9.out).2.2 x53_2 p293 q293
             cases e293
             obtain ⟨ce293, hce293, hMe293, hcc293⟩ := Kd.S_get HO_9.out [] x53_2 p293 (by first | exact q293 | exact oD | (have e_ := (Kd.S_reads' HO_9.out).1; omega))
             obtain ⟨ve293_0, rfl, ge293_0⟩ := hMe293
             have hv293_0 := hcc293 0 _ rfl
             rw [Nat.add_zero, show ((Kd.slice 4 Kd.bool)).sz = 1 from rfl, Nat.mul_one] at hv293_0
             replace hv293_0 := Option.some.inj (hv293_0.symm.trans hx293_0)
             rw [hv293_0] at ge293_0
             have HL293_0 := Aside0.mk (show Kd.R Kd.bool 4 _ _ _ _ (rd_L7 t281 x53_2) from ge293_0)
             clear hv293_0 ge293_0
             clear hcc293 hce293
             have HR293_0 := Aside0.mk hi293_0
             have HC293_0 := Aside0.mk hl293_0
             clear hi293_0 hl293_0
             replace p293 := eq_true p293
             replace q293 := eq_true q293
             have p294 : 0 ≤ (x60_3 : Int) := oD
             have q294 : x60_3 < ((rd_L7 t281 x53_2).length : Int) := oD
             obtain ⟨ad294, e294, hx294_0⟩ := Kd.at_bool (by repeat (first | (with_reducible exact HR293_0.out) | (with_reducible refine Kd.C_alloc ?_ _) | (with_reducible refine Kd.C_drewN ?_ _) | (with_reducible refine Kd.C_drew ?_) | exact HR293_0.out)) x60_3 p294 q294
             (try rw [← Nbq41.out] at hx294_0)
             cases e294
             replace p294 := eq_true p294
             replace q294 := eq_true q294
             go_wp2
             repeat (go_quiet (fail); try go_wp2)
             go_meet
             case rel => exact ⟨_, (false), sD, H', ⟨by have := HK1.out; have := HK2.out; have := HK3.out; first | omega | exact Nat.le_refl _⟩, ⟨kS⟩, ⟨kB⟩, ⟨kB⟩, ⟨by repeat (first | (with_reducible first | exact HB.out | apply below_alloc | apply pw_below_drewN | apply below_drew1 | refine below_set ?_ GE289.out | refine below_set ?_ GE291.out) | exact HB.out)⟩⟩
           case rest =>
            clear HC34
            try clear c1
            try clear c2
            try clear p2
            try clear q2
            try clear hx2
            try clear c3
            try clear c4
            try clear q4
            try clear c5
            try clear c5b0
            try clear c5b1
            try clear c5b2
            try clear p6
            try clear c8
            try clear c8b0
            try clear c9
            try clear c9b0
            try clear c10
            try clear c10b0
            try clear c11
            try clear c11b0
            try clear c11b1
            try clear c13
            try clear c15
            try clear c24
            try clear c24b0
            try clear c25
            try clear c25b0
            try clear c26
            try clear c26b0
            try clear p28
            try clear q28
            try clear hx28
            try clear c29
            try clear c29b0
            try clear p29
            try clear q29
            try clear hx29
            try clear c30
            try clear c30b0
            try clear c31
            try clear c31b0
            try clear c32
            try clear c32b0
            try clear c33
            try clear c33b0
            try clear c36
            try clear c39
            try clear c39b0
            try clear c40
            try clear c40b0
            try clear q41
            try clear c42
            try clear hcz17_0
            try clear hcz17_1
            try clear hcz17_2
            try clear hcz19_0
            try clear hcz19_1
            try clear hcz19_2
            try clear hcz21_0
            try clear hcz21_1
            try clear hcz21_2
            try clear hcz23_0
            try clear hcz23_1
            try clear hcz23_2
            try clear hcz28_0
            try clear hcz28_1
            try clear hcz28_2
            try clear hcz37_0
            try clear hcz37_1
            try clear hcz37_2
            try clear hcz38_0
            try clear hcz38_1
            try clear hcz38_2
            try clear hfz17_0
            try clear hfz17_1
            try clear hfz17_2
            try clear hfz19_0
            try clear hfz19_1
            try clear hfz19_2
            try clear hfz21_0
            try clear hfz21_1
            try clear hfz21_2
            try clear hfz23_0
            try clear hfz23_1
            try clear hfz23_2
            try clear hfz28_0
            try clear hfz28_1
            try clear hfz28_2
            try clear hfz37_0
            try clear hfz37_1
            try clear hfz37_2
            try clear hfz38_0
            try clear hfz38_1
            try clear hfz38_2
            try clear hx284_0
            try clear hx284_1
            try clear hx284_2
            try clear hx288_0
            try clear hx288_1
            try clear hx288_2
            try clear hx290_0
            try clear hx290_1
            try clear hx290_2
            try clear hx292_0
            try clear hx292_1
            try clear hx292_2
            try clear hx292_3
            try clear hx293_0
            try clear hx294_0
            try clear p2
            try clear p28
            try clear p284
            try clear p288
            try clear p290
            try clear p292
            try clear p293
            try clear p294
            try clear p6
            try clear q2
            try clear q28
            try clear q284
            try clear q288
            try clear q290
            try clear q292
            try clear q293
            try clear q294
            obtain ⟨kq, x86_33, rfl, HA, HJ33, HO_9, BK289, BK291, HB⟩ := hcut
            cases kq with
            | zero => exact absurd HA.out (by simp [impl_isPlan.j3])
            | succ kj33 =>
             have H := HA.out
             clear HA
             simp only [impl_isPlan.j3] at H
             by_cases c47 : x86_33 = true
             ·subst c47
              have H1 : (some false) = some r := by rw [if_pos rfl] at H; exact H
              clear H
              have H := H1
              clear H1
              obtain rfl := Option.some.inj H
              go_wp2
              repeat (go_quiet (fail); try go_wp2)
              go_ret
              exact ⟨rE, bS⟩
             ·replace c47 := Bool.eq_false_iff.mpr c47
              subst c47
              have H1 : (if x53_2 = x60_3 then (impl_isPlan.l2 kj33 l0 l3 t281 x53_2 l3 (l3.length : Int) x53_2 l3 (l3.length : Int) (wrap64 (x60_3 + 1)) ((rd_T91 l3 x53_2).f0) ((rd_T91 l3 x53_2).f1) ((rd_T91 l3 x53_2).f2)) else (if ((rd_T91 l3 x53_2).f1) = ((rd_T91 l3 x60_3).f1) then (if (decide ((wrap64 (((rd_T91 l3 x53_2).f2) + ((rd_T79 l0 x53_2).f0))) ≤ ((rd_T91 l3 x60_3).f2))) = true then (impl_isPlan.l2 kj33 l0 l3 t281 x53_2 l3 (l3.length : Int) x53_2 l3 (l3.length : Int) (wrap64 (x60_3 + 1)) ((rd_T91 l3 x53_2).f0) ((rd_T91 l3 x53_2).f1) ((rd_T91 l3 x53_2).f2)) else (if 0 ≤ x60_3 then (if x60_3 < (l0.length : Int) then (if (wrap64 (((rd_T91 l3 x60_3).f2) + ((rd_T79 l0 x60_3).f0))) > ((rd_T91 l3 x53_2).f2) then (some false) else (impl_isPlan.l2 kj33 l0 l3 t281 x53_2 l3 (l3.length : Int) x53_2 l3 (l3.length : Int) (wrap64 (x60_3 + 1)) ((rd_T91 l3 x53_2).f0) ((rd_T91 l3 x53_2).f1) ((rd_T91 l3 x53_2).f2))) else (none)) else (none))) else (impl_isPlan.l2 kj33 l0 l3 t281 x53_2 l3 (l3.length : Int) x53_2 l3 (l3.length : Int) (wrap64 (x60_3 + 1)) ((rd_T91 l3 x53_2).f0) ((rd_T91 l3 x53_2).f1) ((rd_T91 l3 x53_2).f2)))) = some r := by rw [if_neg (show ¬ (false = true) by decide)] at H; exact H
              clear H
              have H := H1
              clear H1
              by_cases c48 : x53_2 = x60_3
              ·rw [if_pos c48] at H
               have c48b0 : (x53_2 == x60_3) = true := beq_iff_eq.mpr c48
               have c48b1 : (x53_2 != x60_3) = false := bne_eq_false_iff_eq.mpr c48
               clear c48
               have H' := Aside0.mk H
               clear H
               go_wp2
               repeat (go_quiet (fail); try go_wp2)
               go_roundg kj33
               case measure => have := HK1.out; have := HK2.out; have := HK3.out; have := HJ33.out; omega
               case rel => exact ⟨(wrap64 (x60_3 + 1)), sD, H', ⟨by have := HK1.out; have := HK2.out; have := HK3.out; have := HJ33.out; omega⟩, ⟨kS⟩, ⟨kB⟩, ⟨by repeat (first | (with_reducible first | exact HB.out | apply below_alloc | apply pw_below_drewN | apply below_drew1 | refine below_set ?_ GE289.out | refine below_set ?_ GE291.out) | exact HB.out)⟩⟩
              ·rw [if_neg c48] at H
               have c48b0 : (x53_2 == x60_3) = false := beq_eq_false_iff_ne.mpr c48
               have c48b1 : (x53_2 != x60_3) = true := bne_iff_ne.mpr c48
               by_cases c49 : ((rd_T91 l3 x53_2).f1) = ((rd_T91 l3 x60_3).f1)
               ·rw [if_pos c49] at H
                have c49b0 : (((rd_T91 l3 x53_2).f1) == ((rd_T91 l3 x60_3).f1)) = true := beq_iff_eq.mpr c49
                have c49b1 : (((rd_T91 l3 x53_2).f1) != ((rd_T91 l3 x60_3).f1)) = false := bne_eq_false_iff_eq.mpr c49
                clear c49
                by_cases c50 : (decide ((wrap64 (((rd_T91 l3 x53_2).f2) + ((rd_T79 l0 x53_2).f0))) ≤ ((rd_T91 l3 x60_3).f2))) = true
                ·rw [if_pos c50] at H
                 have c50b0 : (decide ((wrap64 (((rd_T91 l3 x53_2).f2) + ((rd_T79 l0 x53_2).f0))) ≤ ((rd_T91 l3 x60_3).f2))) = true := c50
                 clear c50
                 have H' := Aside0.mk H
                 clear H
                 have hnb51 := NB289_291.out
                 have hnc51 := NB291_289.out
                 have hcz52_0 : wc.cell? ⟨gb289, 0, none⟩ = some (.int .i64 ((rd_T91 l3 x53_2).f0)) := (blk_cell BK289.out 0).trans rfl
                 have hcz52_1 : wc.cell? ⟨gb289, 1, none⟩ = some (.int .i64 ((rd_T91 l3 x53_2).f1)) := (blk_cell BK289.out 1).trans rfl
                 have hcz52_2 : wc.cell? ⟨gb289, 2, none⟩ = some (.int .i64 ((rd_T91 l3 x53_2).f2)) := (blk_cell BK289.out 2).trans rfl
                 have hfz52_0 := blk_frozen BK289.out 0
                 have hfz52_1 := blk_frozen BK289.out 1
                 have hfz52_2 := blk_frozen BK289.out 2
                 have hcz53_0 : wc.cell? ⟨gb291, 0, none⟩ = some (.int .i64 ((rd_T91 l3 x60_3).f0)) := (blk_cell BK291.out 0).trans rfl
                 have hcz53_1 : wc.cell? ⟨gb291, 1, none⟩ = some (.int .i64 ((rd_T91 l3 x60_3).f1)) := (blk_cell BK291.out 1).trans rfl
                 have hcz53_2 : wc.cell? ⟨gb291, 2, none⟩ = some (.int .i64 ((rd_T91 l3 x60_3).f2)) := (blk_cell BK291.out 2).trans rfl
                 have hfz53_0 := blk_frozen BK291.out 0
                 have hfz53_1 := blk_frozen BK291.out 1
                 have hfz53_2 := blk_frozen BK291.out 2
                 go_wp2
                 repeat (go_quiet (fail); try go_wp2)
                 go_roundg kj33
                 case measure => have := HK1.out; have := HK2.out; have := HK3.out; have := HJ33.out; omega
                 case rel => exact ⟨(wrap64 (x60_3 + 1)), sD, H', ⟨by have := HK1.out; have := HK2.out; have := HK3.out; have := HJ33.out; omega⟩, ⟨kS⟩, ⟨kB⟩, ⟨by repeat (first | (with_reducible first | exact HB.out | apply below_alloc | apply pw_below_drewN | apply below_drew1 | refine below_set ?_ GE289.out | refine below_set ?_ GE291.out) | exact HB.out)⟩⟩
                ·rw [if_neg c50] at H
                 have c50b0 : (decide ((wrap64 (((rd_T91 l3 x53_2).f2) + ((rd_T79 l0 x53_2).f0))) ≤ ((rd_T91 l3 x60_3).f2))) = false := by simpa using c50
                 clear c50
                 by_cases c54 : 0 ≤ x60_3; rotate_left
                 ·rw [if_neg c54] at H; exact absurd H (by simp)
                 rw [if_pos c54] at H
                 have c54b0 : decide (0 ≤ x60_3) = true := decide_eq_true c54
                 clear c54
                 by_cases c55 : x60_3 < (l0.length : Int); rotate_left
                 ·rw [if_neg c55] at H; exact absurd H (by simp)
                 rw [if_pos c55] at H
                 have c55b0 : decide (x60_3 < (l0.length : Int)) = true := decide_eq_true c55
                 clear c55
                 by_cases c56 : (wrap64 (((rd_T91 l3 x60_3).f2) + ((rd_T79 l0 x60_3).f0))) > ((rd_T91 l3 x53_2).f2)
                 ·rw [if_pos c56] at H
                  have c56b0 : decide (((rd_T91 l3 x53_2).f2) < (wrap64 (((rd_T91 l3 x60_3).f2) + ((rd_T79 l0 x60_3).f0)))) = true := decide_eq_true c56
                  clear c56
                  obtain rfl := Option.some.inj H
                  have hnb57 := NB289_291.out
                  have hnc57 := NB291_289.out
                  have hcz58_0 : wc.cell? ⟨gb289, 0, none⟩ = some (.int .i64 ((rd_T91 l3 x53_2).f0)) := (blk_cell BK289.out 0).trans rfl
                  have hcz58_1 : wc.cell? ⟨gb289, 1, none⟩ = some (.int .i64 ((rd_T91 l3 x53_2).f1)) := (blk_cell BK289.out 1).trans rfl
                  have hcz58_2 : wc.cell? ⟨gb289, 2, none⟩ = some (.int .i64 ((rd_T91 l3 x53_2).f2)) := (blk_cell BK289.out 2).trans rfl
                  have hfz58_0 := blk_frozen BK289.out 0
                  have hfz58_1 := blk_frozen BK289.out 1
                  have hfz58_2 := blk_frozen BK289.out 2
                  have hcz59_0 : wc.cell? ⟨gb291, 0, none⟩ = some (.int .i64 ((rd_T91 l3 x60_3).f0)) := (blk_cell BK291.out 0).trans rfl
                  have hcz59_1 : wc.cell? ⟨gb291, 1, none⟩ = some (.int .i64 ((rd_T91 l3 x60_3).f1)) := (blk_cell BK291.out 1).trans rfl
                  have hcz59_2 : wc.cell? ⟨gb291, 2, none⟩ = some (.int .i64 ((rd_T91 l3 x60_3).f2)) := (blk_cell BK291.out 2).trans rfl
                  have hfz59_0 := blk_frozen BK291.out 0
                  have hfz59_1 := blk_frozen BK291.out 1
                  have hfz59_2 := blk_frozen BK291.out 2
                  have p295 : 0 ≤ (x60_3 : Int) := oD
                  have q295 : x60_3 < (l0.length : Int) := oD
                  obtain ⟨ad295, e295, hx295_0, hx295_1, hx295_2, hx295_3⟩ := at_T79 HR0.out x60_3 p295 q295
                  obtain rfl : ad292 = ad295 := (by injection e295)
                  replace hx295_0 := (cB HB.out hx295_0 :)
                  replace hx295_1 := (cB HB.out hx295_1 :)
                  replace hx295_2 := (cB HB.out hx295_2 :)
                  replace hx295_3 := (cB HB.out hx295_3 :)
                  replace p295 := eq_true p295
                  replace q295 := eq_true q295
                  go_wp2
                  repeat (go_quiet (fail); try go_wp2)
                  go_ret
                  exact ⟨rE, bS⟩
                 ·rw [if_neg c56] at H
                  have c56b0 : decide (((rd_T91 l3 x53_2).f2) < (wrap64 (((rd_T91 l3 x60_3).f2) + ((rd_T79 l0 x60_3).f0)))) = false := decide_eq_false c56
                  clear c56
                  have H' := Aside0.mk H
                  clear H
                  have hnb60 := NB289_291.out
                  have hnc60 := NB291_289.out
                  have hcz61_0 : wc.cell? ⟨gb289, 0, none⟩ = some (.int .i64 ((rd_T91 l3 x53_2).f0)) := (blk_cell BK289.out 0).trans rfl
                  have hcz61_1 : wc.cell? ⟨gb289, 1, none⟩ = some (.int .i64 ((rd_T91 l3 x53_2).f1)) := (blk_cell BK289.out 1).trans rfl
                  have hcz61_2 : wc.cell? ⟨gb289, 2, none⟩ = some (.int .i64 ((rd_T91 l3 x53_2).f2)) := (blk_cell BK289.out 2).trans rfl
                  have hfz61_0 := blk_frozen BK289.out 0
                  have hfz61_1 := blk_frozen BK289.out 1
                  have hfz61_2 := blk_frozen BK289.out 2
                  have hcz62_0 : wc.cell? ⟨gb291, 0, none⟩ = some (.int .i64 ((rd_T91 l3 x60_3).f0)) := (blk_cell BK291.out 0).trans rfl
                  have hcz62_1 : wc.cell? ⟨gb291, 1, none⟩ = some (.int .i64 ((rd_T91 l3 x60_3).f1)) := (blk_cell BK291.out 1).trans rfl
                  have hcz62_2 : wc.cell? ⟨gb291, 2, none⟩ = some (.int .i64 ((rd_T91 l3 x60_3).f2)) := (blk_cell BK291.out 2).trans rfl
                  have hfz62_0 := blk_frozen BK291.out 0
                  have hfz62_1 := blk_frozen BK291.out 1
                  have hfz62_2 := blk_frozen BK291.out 2
                  have p295 : 0 ≤ (x60_3 : Int) := oD
                  have q295 : x60_3 < (l0.length : Int) := oD
                  obtain ⟨ad295, e295, hx295_0, hx295_1, hx295_2, hx295_3⟩ := at_T79 HR0.out x60_3 p295 q295
                  obtain rfl : ad292 = ad295 := (by injection e295)
                  replace hx295_0 := (cB HB.out hx295_0 :)
                  replace hx295_1 := (cB HB.out hx295_1 :)
                  replace hx295_2 := (cB HB.out hx295_2 :)
                  replace hx295_3 := (cB HB.out hx295_3 :)
                  replace p295 := eq_true p295
                  replace q295 := eq_true q295
                  go_wp2
                  repeat (go_quiet (fail); try go_wp2)
                  go_roundg kj33
                  case measure => have := HK1.out; have := HK2.out; have := HK3.out; have := HJ33.out; omega
                  case rel => exact ⟨(wrap64 (x60_3 + 1)), sD, H', ⟨by have := HK1.out; have := HK2.out; have := HK3.out; have := HJ33.out; omega⟩, ⟨kS⟩, ⟨kB⟩, ⟨by repeat (first | (with_reducible first | exact HB.out | apply below_alloc | apply pw_below_drewN | apply below_drew1 | refine below_set ?_ GE289.out | refine below_set ?_ GE291.out) | exact HB.out)⟩⟩
               ·rw [if_neg c49] at H
                have c49b0 : (((rd_T91 l3 x53_2).f1) == ((rd_T91 l3 x60_3).f1)) = false := beq_eq_false_iff_ne.mpr c49
                have c49b1 : (((rd_T91 l3 x53_2).f1) != ((rd_T91 l3 x60_3).f1)) = true := bne_iff_ne.mpr c49
                have H' := Aside0.mk H
                clear H
                have hnb63 := NB289_291.out
                have hnc63 := NB291_289.out
                have hcz64_0 : wc.cell? ⟨gb289, 0, none⟩ = some (.int .i64 ((rd_T91 l3 x53_2).f0)) := (blk_cell BK289.out 0).trans rfl
                have hcz64_1 : wc.cell? ⟨gb289, 1, none⟩ = some (.int .i64 ((rd_T91 l3 x53_2).f1)) := (blk_cell BK289.out 1).trans rfl
                have hcz64_2 : wc.cell? ⟨gb289, 2, none⟩ = some (.int .i64 ((rd_T91 l3 x53_2).f2)) := (blk_cell BK289.out 2).trans rfl
                have hfz64_0 := blk_frozen BK289.out 0
                have hfz64_1 := blk_frozen BK289.out 1
                have hfz64_2 := blk_frozen BK289.out 2
                have hcz65_0 : wc.cell? ⟨gb291, 0, none⟩ = some (.int .i64 ((rd_T91 l3 x60_3).f0)) := (blk_cell BK291.out 0).trans rfl
                have hcz65_1 : wc.cell? ⟨gb291, 1, none⟩ = some (.int .i64 ((rd_T91 l3 x60_3).f1)) := (blk_cell BK291.out 1).trans rfl
                have hcz65_2 : wc.cell? ⟨gb291, 2, none⟩ = some (.int .i64 ((rd_T91 l3 x60_3).f2)) := (blk_cell BK291.out 2).trans rfl
                have hfz65_0 := blk_frozen BK291.out 0
                have hfz65_1 := blk_frozen BK291.out 1
                have hfz65_2 := blk_frozen BK291.out 2
                go_wp2
                repeat (go_quiet (fail); try go_wp2)
                go_roundg kj33
                case measure => have := HK1.out; have := HK2.out; have := HK3.out; have := HJ33.out; omega
                case rel => exact ⟨(wrap64 (x60_3 + 1)), sD, H', ⟨by have := HK1.out; have := HK2.out; have := HK3.out; have := HJ33.out; omega⟩, ⟨kS⟩, ⟨kB⟩, ⟨by repeat (first | (with_reducible first | exact HB.out | apply below_alloc | apply pw_below_drewN | apply below_drew1 | refine below_set ?_ GE289.out | refine below_set ?_ GE291.out) | exact HB.out)⟩⟩
          ·rw [if_neg c29] at H
           have c29b0 : decide (x60_3 < (l3.length : Int)) = false := decide_eq_false c29
           clear c29
           have H' := Aside0.mk H
           clear H
           go_wp2
           repeat (go_quiet (fail); try go_wp2)
           go_roundg k3
           case measure => have := HK1.out; have := HK2.out; have := HK3.out; omega
           case rel => exact ⟨(wrap64 (x53_2 + 1)), sD, H', ⟨by have := HK1.out; have := HK2.out; have := HK3.out; omega⟩, ⟨kS⟩, ⟨by repeat (first | (with_reducible first | exact HB.out | apply below_alloc | apply pw_below_drewN | apply below_drew1 | refine below_set ?_ GE289.out) | exact HB.out)⟩⟩
       ·rw [if_neg c24] at H
        have c24b0 : decide (x53_2 < (l3.length : Int)) = false := decide_eq_false c24
        clear c24
        obtain rfl := Option.some.inj H
        go_wp2
        repeat (go_quiet (fail); try go_wp2)
        go_ret
        exact ⟨rE, bB⟩
 ·rw [if_neg c5] at H
  have c5b0 : ((l3.length : Int) == (l0.length : Int)) = false := beq_eq_false_iff_ne.mpr c5
  have c5b1 : ((l3.length : Int) != (l0.length : Int)) = true := bne_iff_ne.mpr c5
  have c5b2 : (l3.length == l0.length) = false := by first | simpa using c5 | (simp at c5 ⊢; omega)
  obtain rfl := Option.some.inj H
  go_enter Try.func83, Try.ntmps83
  go_wp2
  repeat (go_quiet (fail); try go_wp2)
  go_ret
  exact ⟨rE, bB⟩

end Go.Proofs.Ytecdigebnhlfhaa.OFnExactPlanLength
