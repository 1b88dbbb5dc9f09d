/- Functions of the program as plain Lean functions, with their contracts: written by this session's program ownprint.py. Conditions: none. -/
import Derived.Test.YtecdigebnhlfhaaOFnExactIsSharedx0
import Derived.Test.YtecdigebnhlfhaaOFnExactIsSharedx9
namespace Go.Proofs.Ytecdigebnhlfhaa.OFnExactIsShared
open Go.RowKit Go.Proofs.YtecdigebnhlfhaaW.PrintWords Go.Proofs.YtecdigebnhlfhaaW.PrintLast Go.Proofs.YtecdigebnhlfhaaW.PrintMore
attribute [local go_sem] max2_int min2_int max_two min_two max_three min_three max_four min_four   -- for this text's walks alone
set_option linter.unusedVariables false
set_option linter.unusedSimpArgs false

/-! ### impl_isShared: function 94 -/
mutual
def impl_isShared.l0 : Nat → List (S79) → List (List (S130)) → List Int → List (List (S130)) → Int → Int → Option (Bool)
 | 0, _, _, _, _, _, _ => none
 | k + 1, x0, x1, x5, x23, x24, x25 => if x25 < x24 then (if 0 ≤ x25 then (if x25 < (x23.length : Int) then (impl_isShared.l1 k x0 x1 x5 (rd_L9 x23 x25) x23 x24 x25 (rd_L9 x23 x25) ((rd_L9 x23 x25).length : Int) 0) else (none)) else (none)) else (impl_isShared.l2 k x1 x5 x0 (x0.length : Int) 0)
def impl_isShared.l1 : Nat → List (S79) → List (List (S130)) → List Int → List (S130) → List (List (S130)) → Int → Int → List (S130) → Int → Int → Option (Bool)
 | 0, _, _, _, _, _, _, _, _, _, _ => none
 | k + 1, x0, x1, x5, x7, x23, x24, x25, x29, x30, x31 => if x31 < x30 then (if 0 ≤ x31 then (if x31 < (x29.length : Int) then ((impl_isNumber.f ((rd_T130 x29 x31).f0) (x0.length : Int)).bind fun t279 => (if t279 = true then (if ((rd_T130 x29 x31).f1) < 0 then (some false) else (if ((rd_T130 x29 x31).f1) ≥ ((rd_T130 x29 x31).f2) then (some false) else (if ((rd_T130 x29 x31).f2) > 1000 then (some false) else (if x31 > 0 then (if 0 ≤ (wrap64 (x31 - 1)) then (if (wrap64 (x31 - 1)) < (x7.length : Int) then (if ((rd_T130 x29 x31).f1) < ((rd_T130 x7 (wrap64 (x31 - 1))).f2) then (some false) else (if 0 ≤ ((rd_T130 x29 x31).f0) then (if ((rd_T130 x29 x31).f0) < (x5.length : Int) then (impl_isShared.l1 k x0 x1 (x5.set (((rd_T130 x29 x31).f0) : Int).toNat (wrap64 ((rd x5 ((rd_T130 x29 x31).f0)) + (wrap64 (((rd_T130 x29 x31).f2) - ((rd_T130 x29 x31).f1)))))) x7 x23 x24 x25 x29 x30 (wrap64 (x31 + 1))) else (none)) else (none))) else (none)) else (none)) else (if 0 ≤ ((rd_T130 x29 x31).f0) then (if ((rd_T130 x29 x31).f0) < (x5.length : Int) then (impl_isShared.l1 k x0 x1 (x5.set (((rd_T130 x29 x31).f0) : Int).toNat (wrap64 ((rd x5 ((rd_T130 x29 x31).f0)) + (wrap64 (((rd_T130 x29 x31).f2) - ((rd_T130 x29 x31).f1)))))) x7 x23 x24 x25 x29 x30 (wrap64 (x31 + 1))) else (none)) else (none)))))) else (some false))) else (none)) else (none)) else (impl_isShared.l0 k x0 x1 x5 x23 x24 (wrap64 (x25 + 1)))
def impl_isShared.l2 : Nat → List (List (S130)) → List Int → List (S79) → Int → Int → Option (Bool)
 | 0, _, _, _, _, _ => none
 | k + 1, x1, x5, x88, x89, x90 => if x90 < x89 then (if 0 ≤ x90 then (if x90 < (x88.length : Int) then (if x90 < (x5.length : Int) then (if (rd x5 x90) = ((rd_T79 x88 x90).f0) then (impl_isShared.l2 k x1 x5 x88 x89 (wrap64 (x90 + 1))) else (some false)) else (none)) else (none)) else (none)) else (impl_isShared.l3 k x1 x1 (x1.length : Int) 0)
def impl_isShared.l3 : Nat → List (List (S130)) → List (List (S130)) → Int → Int → Option (Bool)
 | 0, _, _, _, _ => none
 | k + 1, x1, x103, x104, x105 => if x105 < x104 then (if 0 ≤ x105 then (if x105 < (x103.length : Int) then (if x105 ≤ (x1.length : Int) then ((some (x1.take (x105 : Int).toNat : List (List (S130)))).bind fun y289 => (impl_isShared.l4 k x1 (rd_L9 x103 x105) x103 x104 x105 y289 (y289.length : Int) 0)) else (none)) else (none)) else (none)) else (some true)
def impl_isShared.l4 : Nat → List (List (S130)) → List (S130) → List (List (S130)) → Int → Int → List (List (S130)) → Int → Int → Option (Bool)
 | 0, _, _, _, _, _, _, _, _ => none
 | k + 1, x1, x13, x103, x104, x105, x112, x113, x114 => if x114 < x113 then (if 0 ≤ x114 then (if x114 < (x112.length : Int) then (impl_isShared.l5 k x1 x13 (rd_L9 x112 x114) x103 x104 x105 x112 x113 x114 x13 (x13.length : Int) 0) else (none)) else (none)) else (impl_isShared.l3 k x1 x103 x104 (wrap64 (x105 + 1)))
def impl_isShared.l5 : Nat → List (List (S130)) → List (S130) → List (S130) → List (List (S130)) → Int → Int → List (List (S130)) → Int → Int → List (S130) → Int → Int → Option (Bool)
 | 0, _, _, _, _, _, _, _, _, _, _, _, _ => none
 | k + 1, x1, x13, x15, x103, x104, x105, x112, x113, x114, x118, x119, x120 => if x120 < x119 then (if 0 ≤ x120 then (if x120 < (x118.length : Int) then (impl_isShared.l6 k x1 x13 x15 x103 x104 x105 x112 x113 x114 x118 x119 x120 x15 (x15.length : Int) 0 ((rd_T130 x118 x120).f0) ((rd_T130 x118 x120).f1) ((rd_T130 x118 x120).f2)) else (none)) else (none)) else (impl_isShared.l4 k x1 x13 x103 x104 x105 x112 x113 (wrap64 (x114 + 1)))
def impl_isShared.l6 : Nat → List (List (S130)) → List (S130) → List (S130) → List (List (S130)) → Int → Int → List (List (S130)) → Int → Int → List (S130) → Int → Int → List (S130) → Int → Int → Int → Int → Int → Option (Bool)
 | 0, _, _, _, _, _, _, _, _, _, _, _, _, _, _, _, _, _, _ => none
 | k + 1, x1, x13, x15, x103, x104, x105, x112, x113, x114, x118, x119, x120, x124, x125, x126, x296000, x296001, x296002 => if x126 < x125 then (if 0 ≤ x126 then (if x126 < (x124.length : Int) then (if x296000 = ((rd_T130 x124 x126).f0) then (if x296002 > ((rd_T130 x124 x126).f1) then (if ((rd_T130 x124 x126).f2) > x296001 then (some false) else (impl_isShared.l6 k x1 x13 x15 x103 x104 x105 x112 x113 x114 x118 x119 x120 x124 x125 (wrap64 (x126 + 1)) x296000 x296001 x296002)) else (impl_isShared.l6 k x1 x13 x15 x103 x104 x105 x112 x113 x114 x118 x119 x120 x124 x125 (wrap64 (x126 + 1)) x296000 x296001 x296002)) else (impl_isShared.l6 k x1 x13 x15 x103 x104 x105 x112 x113 x114 x118 x119 x120 x124 x125 (wrap64 (x126 + 1)) x296000 x296001 x296002)) else (none)) else (none)) else (impl_isShared.l5 k x1 x13 x15 x103 x104 x105 x112 x113 x114 x118 x119 (wrap64 (x120 + 1)))
end
def impl_isShared.f (k : Nat) (l0 : List (S79)) (l1 : List (List (S130))) : Option (Bool) := if 0 ≤ (l0.length : Int) then (if ((l0.length : Int) : Int).toNat ≤ 35184372088832 then (impl_isShared.l0 k l0 l1 (List.replicate ((l0.length : Int) : Int).toNat 0) l1 (l1.length : Int) 0) else (none)) else (none)
theorem impl_isShared.mono_l : ∀ k, (∀ y0 y1 y2 y3 y4 y5, LeO (impl_isShared.l0 k y0 y1 y2 y3 y4 y5) (impl_isShared.l0 (k + 1) y0 y1 y2 y3 y4 y5)) ∧ (∀ y0 y1 y2 y3 y4 y5 y6 y7 y8 y9, LeO (impl_isShared.l1 k y0 y1 y2 y3 y4 y5 y6 y7 y8 y9) (impl_isShared.l1 (k + 1) y0 y1 y2 y3 y4 y5 y6 y7 y8 y9)) ∧ (∀ y0 y1 y2 y3 y4, LeO (impl_isShared.l2 k y0 y1 y2 y3 y4) (impl_isShared.l2 (k + 1) y0 y1 y2 y3 y4)) ∧ (∀ y0 y1 y2 y3, LeO (impl_isShared.l3 k y0 y1 y2 y3) (impl_isShared.l3 (k + 1) y0 y1 y2 y3)) ∧ (∀ y0 y1 y2 y3 y4 y5 y6 y7, LeO (impl_isShared.l4 k y0 y1 y2 y3 y4 y5 y6 y7) (impl_isShared.l4 (k + 1) y0 y1 y2 y3 y4 y5 y6 y7)) ∧ (∀ y0 y1 y2 y3 y4 y5 y6 y7 y8 y9 y10 y11, LeO (impl_isShared.l5 k y0 y1 y2 y3 y4 y5 y6 y7 y8 y9 y10 y11) (impl_isShared.l5 (k + 1) y0 y1 y2 y3 y4 y5 y6 y7 y8 y9 y10 y11)) ∧ (∀ y0 y1 y2 y3 y4 y5 y6 y7 y8 y9 y10 y11 y12 y13 y14 y15 y16 y17, LeO (impl_isShared.l6 k y0 y1 y2 y3 y4 y5 y6 y7 y8 y9 y10 y11 y12 y13 y14 y15 y16 y17) (impl_isShared.l6 (k + 1) y0 y1 y2 y3 y4 y5 y6 y7 y8 y9 y10 y11 y12 y13 y14 y15 y16 y17))
 | 0 => ⟨fun _ _ _ _ _ _ r h => by simp [impl_isShared.l0] at h, fun _ _ _ _ _ _ _ _ _ _ r h => by simp [impl_isShared.l1] at h, fun _ _ _ _ _ r h => by simp [impl_isShared.l2] at h, fun _ _ _ _ r h => by simp [impl_isShared.l3] at h, fun _ _ _ _ _ _ _ _ r h => by simp [impl_isShared.l4] at h, fun _ _ _ _ _ _ _ _ _ _ _ _ r h => by simp [impl_isShared.l5] at h, fun _ _ _ _ _ _ _ _ _ _ _ _ _ _ _ _ _ _ r h => by simp [impl_isShared.l6] at h⟩
 | k + 1 => by
  obtain ⟨ih0, ih1, ih2, ih3, ih4, ih5, ih6⟩ := impl_isShared.mono_l k
  refine ⟨?_, ?_, ?_, ?_, ?_, ?_, ?_⟩
  ·intro y0 y1 y2 y3 y4 y5
   unfold impl_isShared.l0
   repeat' first
   | (with_reducible exact ih0 _ _ _ _ _ _)
   | (with_reducible exact ih1 _ _ _ _ _ _ _ _ _ _)
   | (with_reducible exact ih2 _ _ _ _ _)
   | (with_reducible exact ih3 _ _ _ _)
   | (with_reducible exact ih4 _ _ _ _ _ _ _ _)
   | (with_reducible exact ih5 _ _ _ _ _ _ _ _ _ _ _ _)
   | (with_reducible exact ih6 _ _ _ _ _ _ _ _ _ _ _ _ _ _ _ _ _ _)
   | (with_reducible exact LeO.refl _)
   | (with_reducible exact LeO.none _)
   | (with_reducible refine LeO.ite ?_ ?_)
   | (with_reducible refine LeO.bind ?_ (fun _ => ?_))
   | exact ih0 _ _ _ _ _ _
   | exact ih1 _ _ _ _ _ _ _ _ _ _
   | exact ih2 _ _ _ _ _
   | exact ih3 _ _ _ _
   | exact ih4 _ _ _ _ _ _ _ _
   | exact ih5 _ _ _ _ _ _ _ _ _ _ _ _
   | exact ih6 _ _ _ _ _ _ _ _ _ _ _ _ _ _ _ _ _ _
   | exact LeO.none _
   | refine LeO.ite ?_ ?_
   | refine LeO.bind ?_ (fun _ => ?_)
  ·intro y0 y1 y2 y3 y4 y5 y6 y7 y8 y9
   unfold impl_isShared.l1
   repeat' first
   | (with_reducible exact ih0 _ _ _ _ _ _)
   | (with_reducible exact ih1 _ _ _ _ _ _ _ _ _ _)
   | (with_reducible exact ih2 _ _ _ _ _)
   | (with_reducible exact ih3 _ _ _ _)
   | (with_reducible exact ih4 _ _ _ _ _ _ _ _)
   | (with_reducible exact ih5 _ _ _ _ _ _ _ _ _ _ _ _)
   | (with_reducible exact ih6 _ _ _ _ _ _ _ _ _ _ _ _ _ _ _ _ _ _)
   | (with_reducible exact LeO.refl _)
   | (with_reducible exact LeO.none _)
   | (with_reducible refine LeO.ite ?_ ?_)
   | (with_reducible refine LeO.bind ?_ (fun _ => ?_))
   | exact ih0 _ _ _ _ _ _
   | exact ih1 _ _ _ _ _ _ _ _ _ _
   | exact ih2 _ _ _ _ _
   | exact ih3 _ _ _ _
   | exact ih4 _ _ _ _ _ _ _ _
   | exact ih5 _ _ _ _ _ _ _ _ _ _ _ _
   | exact ih6 _ _ _ _ _ _ _ _ _ _ _ _ _ _ _ _ _ _
   | exact LeO.none _
   | refine LeO.ite ?_ ?_
   | refine LeO.bind ?_ (fun _ => ?_)
  ·intro y0 y1 y2 y3 y4
   unfold impl_isShared.l2
   repeat' first
   | (with_reducible exact ih0 _ _ _ _ _ _)
   | (with_reducible exact ih1 _ _ _ _ _ _ _ _ _ _)
   | (with_reducible exact ih2 _ _ _ _ _)
   | (with_reducible exact ih3 _ _ _ _)
   | (with_reducible exact ih4 _ _ _ _ _ _ _ _)
   | (with_reducible exact ih5 _ _ _ _ _ _ _ _ _ _ _ _)
   | (with_reducible exact ih6 _ _ _ _ _ _ _ _ _ _ _ _ _ _ _ _ _ _)
   | (with_reducible exact LeO.refl _)
   | (with_reducible exact LeO.none _)
   | (with_reducible refine LeO.ite ?_ ?_)
   | (with_reducible refine LeO.bind ?_ (fun _ => ?_))
   | exact ih0 _ _ _ _ _ _
   | exact ih1 _ _ _ _ _ _ _ _ _ _
   | exact ih2 _ _ _ _ _
   | exact ih3 _ _ _ _
   | exact ih4 _ _ _ _ _ _ _ _
   | exact ih5 _ _ _ _ _ _ _ _ _ _ _ _
   | exact ih6 _ _ _ _ _ _ _ _ _ _ _ _ _ _ _ _ _ _
   | exact LeO.none _
   | refine LeO.ite ?_ ?_
   | refine LeO.bind ?_ (fun _ => ?_)
  ·intro y0 y1 y2 y3
   unfold impl_isShared.l3
   repeat' first
   | (with_reducible exact ih0 _ _ _ _ _ _)
   | (with_reducible exact ih1 _ _ _ _ _ _ _ _ _ _)
   | (with_reducible exact ih2 _ _ _ _ _)
   | (with_reducible exact ih3 _ _ _ _)
   | (with_reducible exact ih4 _ _ _ _ _ _ _ _)
   | (with_reducible exact ih5 _ _ _ _ _ _ _ _ _ _ _ _)
   | (with_reducible exact ih6 _ _ _ _ _ _ _ _ _ _ _ _ _ _ _ _ _ _)
   | (with_reducible exact LeO.refl _)
   | (with_reducible exact LeO.none _)
   | (with_reducible refine LeO.ite ?_ ?_)
   | (with_reducible refine LeO.bind ?_ (fun _ => ?_))
   | exact ih0 _ _ _ _ _ _
   | exact ih1 _ _ _ _ _ _ _ _ _ _
   | exact ih2 _ _ _ _ _
   | exact ih3 _ _ _ _
   | exact ih4 _ _ _ _ _ _ _ _
   | exact ih5 _ _ _ _ _ _ _ _ _ _ _ _
   | exact ih6 _ _ _ _ _ _ _ _ _ _ _ _ _ _ _ _ _ _
   | exact LeO.none _
   | refine LeO.ite ?_ ?_
   | refine LeO.bind ?_ (fun _ => ?_)
  ·intro y0 y1 y2 y3 y4 y5 y6 y7
   unfold impl_isShared.l4
   repeat' first
   | (with_reducible exact ih0 _ _ _ _ _ _)
   | (with_reducible exact ih1 _ _ _ _ _ _ _ _ _ _)
   | (with_reducible exact ih2 _ _ _ _ _)
   | (with_reducible exact ih3 _ _ _ _)
   | (with_reducible exact ih4 _ _ _ _ _ _ _ _)
   | (with_reducible exact ih5 _ _ _ _ _ _ _ _ _ _ _ _)
   | (with_reducible exact ih6 _ _ _ _ _ _ _ _ _ _ _ _ _ _ _ _ _ _)
   | (with_reducible exact LeO.refl _)
   | (with_reducible exact LeO.none _)
   | (with_reducible refine LeO.ite ?_ ?_)
   | (with_reducible refine LeO.bind ?_ (fun _ => ?_))
   | exact ih0 _ _ _ _ _ _
   | exact ih1 _ _ _ _ _ _ _ _ _ _
   | exact ih2 _ _ _ _ _
   | exact ih3 _ _ _ _
   | exact ih4 _ _ _ _ _ _ _ _
   | exact ih5 _ _ _ _ _ _ _ _ _ _ _ _
   | exact ih6 _ _ _ _ _ _ _ _ _ _ _ _ _ _ _ _ _ _
   | exact LeO.none _
   | refine LeO.ite ?_ ?_
   | refine LeO.bind ?_ (fun _ => ?_)
  ·intro y0 y1 y2 y3 y4 y5 y6 y7 y8 y9 y10 y11
   unfold impl_isShared.l5
   repeat' first
   | (with_reducible exact ih0 _ _ _ _ _ _)
   | (with_reducible exact ih1 _ _ _ _ _ _ _ _ _ _)
   | (with_reducible exact ih2 _ _ _ _ _)
   | (with_reducible exact ih3 _ _ _ _)
   | (with_reducible exact ih4 _ _ _ _ _ _ _ _)
   | (with_reducible exact ih5 _ _ _ _ _ _ _ _ _ _ _ _)
   | (with_reducible exact ih6 _ _ _ _ _ _ _ _ _ _ _ _ _ _ _ _ _ _)
   | (with_reducible exact LeO.refl _)
   | (with_reducible exact LeO.none _)
   | (with_reducible refine LeO.ite ?_ ?_)
   | (with_reducible refine LeO.bind ?_ (fun _ => ?_))
   | exact ih0 _ _ _ _ _ _
   | exact ih1 _ _ _ _ _ _ _ _ _ _
   | exact ih2 _ _ _ _ _
   | exact ih3 _ _ _ _
   | exact ih4 _ _ _ _ _ _ _ _
   | exact ih5 _ _ _ _ _ _ _ _ _ _ _ _
   | exact ih6 _ _ _ _ _ _ _ _ _ _ _ _ _ _ _ _ _ _
   | exact LeO.none _
   | refine LeO.ite ?_ ?_
   | refine LeO.bind ?_ (fun _ => ?_)
  ·intro y0 y1 y2 y3 y4 y5 y6 y7 y8 y9 y10 y11 y12 y13 y14 y15 y16 y17
   unfold impl_isShared.l6
   repeat' first
   | (with_reducible exact ih0 _ _ _ _ _ _)
   | (with_reducible exact ih1 _ _ _ _ _ _ _ _ _ _)
   | (with_reducible exact ih2 _ _ _ _ _)
   | (with_reducible exact ih3 _ _ _ _)
   | (with_reducible exact ih4 _ _ _ _ _ _ _ _)
   | (with_reducible exact ih5 _ _ _ _ _ _ _ _ _ _ _ _)
   | (with_reducible exact ih6 _ _ _ _ _ _ _ _ _ _ _ _ _ _ _ _ _ _)
   | (with_reducible exact LeO.refl _)
   | (with_reducible exact LeO.none _)
   | (with_reducible refine LeO.ite ?_ ?_)
   | (with_reducible refine LeO.bind ?_ (fun _ => ?_))
   | exact ih0 _ _ _ _ _ _
   | exact ih1 _ _ _ _ _ _ _ _ _ _
   | exact ih2 _ _ _ _ _
   | exact ih3 _ _ _ _
   | exact ih4 _ _ _ _ _ _ _ _
   | exact ih5 _ _ _ _ _ _ _ _ _ _ _ _
   | exact ih6 _ _ _ _ _ _ _ _ _ _ _ _ _ _ _ _ _ _
   | exact LeO.none _
   | refine LeO.ite ?_ ?_
   | refine LeO.bind ?_ (fun _ => ?_)
theorem impl_isShared.mono : ∀ a0 a1 k, LeO (impl_isShared.f k a0 a1) (impl_isShared.f (k + 1) a0 a1) := by
 intro a0 a1 k
 obtain ⟨ih0, ih1, ih2, ih3, ih4, ih5, ih6⟩ := impl_isShared.mono_l k
 unfold impl_isShared.f
 repeat' first
   | (with_reducible exact ih0 _ _ _ _ _ _)
   | (with_reducible exact ih1 _ _ _ _ _ _ _ _ _ _)
   | (with_reducible exact ih2 _ _ _ _ _)
   | (with_reducible exact ih3 _ _ _ _)
   | (with_reducible exact ih4 _ _ _ _ _ _ _ _)
   | (with_reducible exact ih5 _ _ _ _ _ _ _ _ _ _ _ _)
   | (with_reducible exact ih6 _ _ _ _ _ _ _ _ _ _ _ _ _ _ _ _ _ _)
   | (with_reducible exact LeO.refl _)
   | (with_reducible exact LeO.none _)
   | (with_reducible refine LeO.ite ?_ ?_)
   | (with_reducible refine LeO.bind ?_ (fun _ => ?_))
   | exact ih0 _ _ _ _ _ _
   | exact ih1 _ _ _ _ _ _ _ _ _ _
   | exact ih2 _ _ _ _ _
   | exact ih3 _ _ _ _
   | exact ih4 _ _ _ _ _ _ _ _
   | exact ih5 _ _ _ _ _ _ _ _ _ _ _ _
   | exact ih6 _ _ _ _ _ _ _ _ _ _ _ _ _ _ _ _ _ _
   | exact LeO.none _
   | refine LeO.ite ?_ ?_
   | refine LeO.bind ?_ (fun _ => ?_)
def impl_isShared.T8 : Bool × List (List Nat × List Nat) := (true, [([], []), ([0], [0]), ([], []), ([2], [2]), ([1, 3], [1, 3]), ([4], [4]), ([5, 4], [5]), ([6], [6]), ([7, 6], [6, 7]), ([8, 6], [6, 8]), ([6, 9], [6, 9]), ([10, 6], [10]), ([11], [11]), ([12, 11], [11, 12]), ([11], [11]), ([14, 11], [11, 14]), ([13, 15, 11], [11, 13, 15]), ([11, 16], [11, 16]), ([17, 11], [17]), ([18], [18]), ([19, 18], [18, 19]), ([20, 18], [18, 20]), ([18, 21], [18, 21]), ([22, 18], [22]), ([23], [23]), ([24, 23], [23, 24]), ([25, 23, 23], [23, 25]), ([26], [26]), ([27, 26], [26, 27]), ([26], [26]), ([26], [26]), ([30, 26], [26, 30]), ([29, 31, 26], [26, 29, 31]), ([32, 26], [26, 32]), ([33, 26], [26, 33]), ([28, 34, 26], [26, 28, 34]), ([26, 35, 23], [23, 26, 35]), ([23, 36], [23, 36])])
def impl_isShared.B8 : List Nat := [0, 1, 0, 4, 15, 31, 63, 127, 255, 511, 1023, 2047, 4095, 8191, 4095, 20479, 65535, 131071, 262143, 524287, 1048575, 2097151, 4194303, 8388607, 16777215, 33554431, 67108863, 134217727, 268435455, 134217727, 134217727, 1207959551, 3892314111, 8187281407, 16777215999, 34359738367, 68719476735, 137438953471]
theorem impl_isShared.tab8 : rtab .any (opsOf Try.f94 8) = impl_isShared.T8 := by kernel_rfl
theorem impl_isShared.bits8 : waitsOk impl_isShared.T8.2 impl_isShared.B8 = true := by kernel_rfl
def impl_isShared.T10 : Bool × List (List Nat × List Nat) := (true, [([], []), ([], []), ([1], [1]), ([0, 2], [0, 2]), ([3], [3]), ([], []), ([5], [5]), ([], []), ([7], [7]), ([6, 8], [6, 8]), ([4, 9], [4, 9]), ([0, 2, 0, 1, 2, 3, 4, 5, 6, 7, 8, 9, 10], [0, 2]), ([11, 10, 0, 1, 2, 3, 4, 5, 6, 7, 8, 9, 10], [10, 11])])
def impl_isShared.B10 : List Nat := [0, 0, 2, 7, 15, 0, 32, 0, 128, 480, 1023, 2047, 4095]
theorem impl_isShared.tab10 : rtab .any (opsOf Try.f94 10) = impl_isShared.T10 := by kernel_rfl
theorem impl_isShared.bits10 : waitsOk impl_isShared.T10.2 impl_isShared.B10 = true := by kernel_rfl
set_option maxHeartbeats 8000000 in
set_option maxRecDepth 100000 in
theorem impl_isShared.calls (k : Nat) (A0 : Option Addr) (c0 : Nat) (l0 : List (S79)) (A1 : Option Addr) (c1 : Nat) (l1 : List (List (S130))) (r : Bool) (w : World) (hr0 : Kd.C k79 w A0 l0.length l0) (hc0 : l0.length ≤ c0) (hr1 : Kd.C (Kd.slice 130 k130) w A1 l1.length l1) (hc1 : l1.length ≤ c1) (h : impl_isShared.f k l0 l1 = some r) :
  Calls Try.prog 94 #[.slice A0 l0.length c0, .slice A1 l1.length c1] w fun e w' => e = .returned (.bool r) ∧ Below w.heap.size w w' := by
 have hu130 := Try.underlying130
 have hu79 := Try.underlying79
 have HR0 := Aside0.mk hr0
 have HC0 := Aside0.mk hc0
 clear hr0 hc0
 have HR1 := Aside0.mk hr1
 have HC1 := Aside0.mk hc1
 clear hr1 hc1
 have HB := Aside0.mk (Below.refl w.heap.size w)
 have H : (if 0 ≤ (l0.length : Int) then (if ((l0.length : Int) : Int).toNat ≤ 35184372088832 then (impl_isShared.l0 k l0 l1 (List.replicate ((l0.length : Int) : Int).toNat 0) l1 (l1.length : Int) 0) else (none)) else (none)) = some r := h
 clear h
 by_cases c3 : 0 ≤ (l0.length : Int); rotate_left
 ·rw [if_neg c3] at H; exact absurd H (by simp)
 rw [if_pos c3] at H
 have c3b0 := eq_true c3
 have c3b1 : decide (0 ≤ (l0.length : Int)) = true := decide_eq_true c3
 clear c3
 by_cases c4 : ((l0.length : Int) : Int).toNat ≤ 35184372088832; rotate_left
 ·rw [if_neg c4] at H; exact absurd H (by simp)
 rw [if_pos c4] at H
 have c4b0 := eq_true c4
 have c4b1 : decide (((l0.length : Int) : Int).toNat ≤ 35184372088832) = true := decide_eq_true c4
 clear c4
 obtain ⟨y273, hy273⟩ : ∃ y_ : List Int, y_ = (List.replicate ((l0.length : Int) : Int).toNat 0) := ⟨_, rfl⟩
 replace H : (impl_isShared.l0 k l0 l1 y273 l1 (l1.length : Int) 0) = some r := by first | (rw [hy273]; with_reducible exact H) | (have H2_ := (Option.bind_some _ _).symm.trans H; rw [hy273]; with_reducible exact H2_) | (have H2_ := (Option.bind_some _ _).symm.trans H; with_reducible exact H2_) | with_reducible exact H | (rw [hy273]; exact H) | exact H
 have Ny273 := Aside0.mk hy273
 clear hy273
 have H' := Aside0.mk H
 clear H
 go_enter Try.func94, Try.ntmps94
 go_wp2_with (first | ((with_reducible refine gate_dst (N := 22) rfl ?_); refine Kd.R_make (Kd.int .i64) _ 3 rfl (N := 22) rfl 34 _ _ rfl (l0.length : Int) rfl rfl Try.underlying34 (.int .i64 0) 8 info3 rfl (by decide) (by omega) 0 (ok := fun _ => True) (okp := fun _ => True) rfl (fun _ hk => hk) trivial (oD) (Nat.le_trans (Nat.mul_le_mul_right _ (oD : (l0.length : Int).toNat ≤ 35184372088832)) (by omega)) (Below.refl _ _) (Nat.le_refl _) ?_; intro v274 w5 ho6 hb hg_ hnew_; clear hg_ hnew_; (first | rw [← Ny273.out] at ho6 | (simp only [Int.reduceToNat] at ho6; rw [← Ny273.out] at ho6)); have n0_ := Aside0.mk (Kd.R_lower ho6 (below_size bB)); have n1_ := Aside0.mk (below_step bB hb); clear HB; have HO275 := n0_; have HB := n1_; clear n0_ n1_; clear hb ho6))
 go_loopg [25] k (fun kq v25 w' => ∃ (x5_1 : List Int) (x25_1 : Int), v25 = .int .i64 x25_1 ∧ Aside0 (impl_isShared.l0 kq l0 l1 x5_1 l1 (l1.length : Int) x25_1 = some r) ∧ Aside0 (kq ≤ k) ∧ Aside0 (Kd.R (Kd.int .i64) 3 w' w.heap.size (fun _ => True) v274 x5_1) ∧ Aside0 (Below w.heap.size w w'))
 case atStart => exact ⟨(y273), (0), sD, H', ⟨Nat.le_refl _⟩, ⟨kR⟩, ⟨by repeat (first | (with_reducible first | exact HB.out | apply below_alloc | apply pw_below_drewN | apply below_drew1) | exact HB.out)⟩⟩
 case round =>
  clear H'
  try clear c1
  try clear p2
  try clear c3
  try clear c3b0
  try clear c3b1
  try clear c4
  try clear c4b0
  try clear c4b1
  obtain ⟨x5_1, x25_1, rfl, HA, HK1, HO_5, HB⟩ := hrel
  cases gk with
  | zero => exact absurd HA.out (by simp [impl_isShared.l0])
  | succ k1 =>
   have H := HA.out
   clear HA
   simp only [impl_isShared.l0] at H
   by_cases c7 : x25_1 < (l1.length : Int)
   ·rw [if_pos c7] at H
    have c7b0 : decide (x25_1 < (l1.length : Int)) = true := decide_eq_true c7
    clear c7
    by_cases c8 : 0 ≤ x25_1; rotate_left
    ·rw [if_neg c8] at H; exact absurd H (by simp)
    rw [if_pos c8] at H
    have c8b0 : decide (0 ≤ x25_1) = true := decide_eq_true c8
    clear c8
    by_cases c9 : x25_1 < (l1.length : Int); rotate_left
    ·rw [if_neg c9] at H; exact absurd H (by simp)
    rw [if_pos c9] at H
    have c9b0 : decide (x25_1 < (l1.length : Int)) = true := decide_eq_true c9
    clear c9
    have H' := Aside0.mk H
    clear H
    have p276 : 0 ≤ (x25_1 : Int) := oD
    have q276 : x25_1 < (l1.length : Int) := oD
    obtain ⟨ad276, A276_0, c276_0, e276, hx276_0, hl276_0, hi276_0⟩ := at_L9 HR1.out x25_1 p276 q276
    cases e276
    replace hx276_0 := (cB HB.out hx276_0 :)
    have HR276_0 := Aside0.mk hi276_0
    have HC276_0 := Aside0.mk hl276_0
    clear hi276_0 hl276_0
    replace p276 := eq_true p276
    replace q276 := eq_true q276
    go_wp2
    go_loopg [31] k1 (fun kq v31 w' => ∃ (x5_2 : List Int) (x31_2 : Int), v31 = .int .i64 x31_2 ∧ Aside0 (impl_isShared.l1 kq l0 l1 x5_2 (rd_L9 l1 x25_1) l1 (l1.length : Int) x25_1 (rd_L9 l1 x25_1) ((rd_L9 l1 x25_1).length : Int) x31_2 = some r) ∧ Aside0 (kq ≤ k1) ∧ Aside0 (Kd.R (Kd.int .i64) 3 w' w.heap.size (fun _ => True) v274 x5_2) ∧ Aside0 (Below w.heap.size w w'))
    case atStart => exact ⟨(x5_1), (0), sD, H', ⟨Nat.le_refl _⟩, ⟨kR⟩, ⟨by repeat (first | (with_reducible first | exact HB.out | apply below_alloc | apply pw_below_drewN | apply below_drew1) | exact HB.out)⟩⟩
    case round =>
     clear H'
     try clear c1
     try clear c2
     try clear p2
     try clear q2
     try clear hx2
     try clear c3
     try clear c3b0
     try clear c3b1
     try clear c4
     try clear c4b0
     try clear c4b1
     try clear c7
     try clear c7b0
     try clear c8
     try clear c8b0
     try clear c9
     try clear c9b0
     try clear hx276_0
     try clear p2
     try clear p276
     try clear q276
     obtain ⟨x5_2, x31_2, rfl, HA, HK2, HO_5, HB⟩ := hrel
     cases gk with
     | zero => exact absurd HA.out (by simp [impl_isShared.l1])
     | succ k2 =>
      have H := HA.out
      clear HA
      simp only [impl_isShared.l1] at H
      by_cases c10 : x31_2 < ((rd_L9 l1 x25_1).length : Int)
      ·rw [if_pos c10] at H
       have c10b0 : decide (x31_2 < ((rd_L9 l1 x25_1).length : Int)) = true := decide_eq_true c10
       clear c10
       by_cases c11 : 0 ≤ x31_2; rotate_left
       ·rw [if_neg c11] at H; exact absurd H (by simp)
       rw [if_pos c11] at H
       have c11b0 : decide (0 ≤ x31_2) = true := decide_eq_true c11
       clear c11
       by_cases c12 : x31_2 < ((rd_L9 l1 x25_1).length : Int); rotate_left
       ·rw [if_neg c12] at H; exact absurd H (by simp)
       rw [if_pos c12] at H
       have c12b0 : decide (x31_2 < ((rd_L9 l1 x25_1).length : Int)) = true := decide_eq_true c12
       clear c12
       replace H := Option.bind_eq_some_iff.mp H
       obtain ⟨t279, A130, H⟩ := H
       replace H : (if t279 = true then (if ((rd_T130 (rd_L9 l1 x25_1) x31_2).f1) < 0 then (some false) else (if ((rd_T130 (rd_L9 l1 x25_1) x31_2).f1) ≥ ((rd_T130 (rd_L9 l1 x25_1) x31_2).f2) then (some false) else (if ((rd_T130 (rd_L9 l1 x25_1) x31_2).f2) > 1000 then (some false) else (if x31_2 > 0 then (if 0 ≤ (wrap64 (x31_2 - 1)) then (if (wrap64 (x31_2 - 1)) < ((rd_L9 l1 x25_1).length : Int) then (if ((rd_T130 (rd_L9 l1 x25_1) x31_2).f1) < ((rd_T130 (rd_L9 l1 x25_1) (wrap64 (x31_2 - 1))).f2) then (some false) else (if 0 ≤ ((rd_T130 (rd_L9 l1 x25_1) x31_2).f0) then (if ((rd_T130 (rd_L9 l1 x25_1) x31_2).f0) < (x5_2.length : Int) then (impl_isShared.l1 k2 l0 l1 (x5_2.set (((rd_T130 (rd_L9 l1 x25_1) x31_2).f0) : Int).toNat (wrap64 ((rd x5_2 ((rd_T130 (rd_L9 l1 x25_1) x31_2).f0)) + (wrap64 (((rd_T130 (rd_L9 l1 x25_1) x31_2).f2) - ((rd_T130 (rd_L9 l1 x25_1) x31_2).f1)))))) (rd_L9 l1 x25_1) l1 (l1.length : Int) x25_1 (rd_L9 l1 x25_1) ((rd_L9 l1 x25_1).length : Int) (wrap64 (x31_2 + 1))) else (none)) else (none))) else (none)) else (none)) else (if 0 ≤ ((rd_T130 (rd_L9 l1 x25_1) x31_2).f0) then (if ((rd_T130 (rd_L9 l1 x25_1) x31_2).f0) < (x5_2.length : Int) then (impl_isShared.l1 k2 l0 l1 (x5_2.set (((rd_T130 (rd_L9 l1 x25_1) x31_2).f0) : Int).toNat (wrap64 ((rd x5_2 ((rd_T130 (rd_L9 l1 x25_1) x31_2).f0)) + (wrap64 (((rd_T130 (rd_L9 l1 x25_1) x31_2).f2) - ((rd_T130 (rd_L9 l1 x25_1) x31_2).f1)))))) (rd_L9 l1 x25_1) l1 (l1.length : Int) x25_1 (rd_L9 l1 x25_1) ((rd_L9 l1 x25_1).length : Int) (wrap64 (x31_2 + 1))) else (none)) else (none)))))) else (some false)) = some r := H
       have A13 := Aside0.mk A130
       clear A130
       by_cases c14 : t279 = true
       ·subst c14
        have H1 : (if ((rd_T130 (rd_L9 l1 x25_1) x31_2).f1) < 0 then (some false) else (if ((rd_T130 (rd_L9 l1 x25_1) x31_2).f1) ≥ ((rd_T130 (rd_L9 l1 x25_1) x31_2).f2) then (some false) else (if ((rd_T130 (rd_L9 l1 x25_1) x31_2).f2) > 1000 then (some false) else (if x31_2 > 0 then (if 0 ≤ (wrap64 (x31_2 - 1)) then (if (wrap64 (x31_2 - 1)) < ((rd_L9 l1 x25_1).length : Int) then (if ((rd_T130 (rd_L9 l1 x25_1) x31_2).f1) < ((rd_T130 (rd_L9 l1 x25_1) (wrap64 (x31_2 - 1))).f2) then (some false) else (if 0 ≤ ((rd_T130 (rd_L9 l1 x25_1) x31_2).f0) then (if ((rd_T130 (rd_L9 l1 x25_1) x31_2).f0) < (x5_2.length : Int) then (impl_isShared.l1 k2 l0 l1 (x5_2.set (((rd_T130 (rd_L9 l1 x25_1) x31_2).f0) : Int).toNat (wrap64 ((rd x5_2 ((rd_T130 (rd_L9 l1 x25_1) x31_2).f0)) + (wrap64 (((rd_T130 (rd_L9 l1 x25_1) x31_2).f2) - ((rd_T130 (rd_L9 l1 x25_1) x31_2).f1)))))) (rd_L9 l1 x25_1) l1 (l1.length : Int) x25_1 (rd_L9 l1 x25_1) ((rd_L9 l1 x25_1).length : Int) (wrap64 (x31_2 + 1))) else (none)) else (none))) else (none)) else (none)) else (if 0 ≤ ((rd_T130 (rd_L9 l1 x25_1) x31_2).f0) then (if ((rd_T130 (rd_L9 l1 x25_1) x31_2).f0) < (x5_2.length : Int) then (impl_isShared.l1 k2 l0 l1 (x5_2.set (((rd_T130 (rd_L9 l1 x25_1) x31_2).f0) : Int).toNat (wrap64 ((rd x5_2 ((rd_T130 (rd_L9 l1 x25_1) x31_2).f0)) + (wrap64 (((rd_T130 (rd_L9 l1 x25_1) x31_2).f2) - ((rd_T130 (rd_L9 l1 x25_1) x31_2).f1)))))) (rd_L9 l1 x25_1) l1 (l1.length : Int) x25_1 (rd_L9 l1 x25_1) ((rd_L9 l1 x25_1).length : Int) (wrap64 (x31_2 + 1))) else (none)) else (none)))))) = some r := by rw [if_pos rfl] at H; exact H
        clear H
        have H := H1
        clear H1
        by_cases c15 : ((rd_T130 (rd_L9 l1 x25_1) x31_2).f1) < 0
        ·rw [if_pos c15] at H
         have c15b0 : decide (((rd_T130 (rd_L9 l1 x25_1) x31_2).f1) < 0) = true := decide_eq_true c15
         clear c15
         obtain rfl := Option.some.inj H
         have p277 : 0 ≤ (x31_2 : Int) := oD
         have q277 : x31_2 < ((rd_L9 l1 x25_1).length : Int) := oD
         obtain ⟨ad277, e277, hx277_0, hx277_1, hx277_2⟩ := at_T130 HR276_0.out x31_2 p277 q277
         cases e277
         replace hx277_0 := (cB HB.out hx277_0 :)
         replace hx277_1 := (cB HB.out hx277_1 :)
         replace hx277_2 := (cB HB.out hx277_2 :)
         replace p277 := eq_true p277
         replace q277 := eq_true q277
         try go_wp2_with (first | ((with_reducible refine gate_dst (N := 9) rfl ?_); refine bE 9 #[.int .i64 0, .int .i64 0, .int .i64 0] 130 ?_; intro gb278 hg w16 hbox hb; have n0_ := Aside0.mk (Kd.R_below (by (with_reducible repeat (first | apply Kd.R_alloc | apply Kd.R_drewN | apply Kd.R_drew)); exact HO_5.out) hb); have n1_ := Aside0.mk (below_step bB hb); have n2_ := Aside0.mk (hbox); have n3_ := Aside0.mk ((by rw [hg]; exact (below_size bB) : w.heap.size ≤ gb278)); have n4_ := Aside0.mk ((by rw [hg]; exact (below_size bB) : w.heap.size ≤ gb278)); clear HO_5; clear HB; have HO_5 := n0_; have HB := n1_; have BK278 := n2_; have GW278 := n3_; have GE278 := n4_; clear n0_ n1_ n2_ n3_ n4_; clear hb hbox hg; have hcz17_0 : w16.cell? ⟨gb278, 0, none⟩ = some (.int .i64 0) := (blk_cell BK278.out 0).trans rfl; have hcz17_1 : w16.cell? ⟨gb278, 1, none⟩ = some (.int .i64 0) := (blk_cell BK278.out 1).trans rfl; have hcz17_2 : w16.cell? ⟨gb278, 2, none⟩ = some (.int .i64 0) := (blk_cell BK278.out 2).trans rfl; have hfz17_0 := blk_frozen BK278.out 0; have hfz17_1 := blk_frozen BK278.out 1; have hfz17_2 := blk_frozen BK278.out 2))
         have n0_ : Aside0 (Kd.R (Kd.int .i64) 3 (((w16.setCell ⟨gb278, 0, none⟩ (.int .i64 ((rd_T130 (rd_L9 l1 x25_1) x31_2).f0))).setCell ⟨gb278, 1, none⟩ (.int .i64 ((rd_T130 (rd_L9 l1 x25_1) x31_2).f1))).setCell ⟨gb278, 2, none⟩ (.int .i64 ((rd_T130 (rd_L9 l1 x25_1) x31_2).f2))) w.heap.size (fun _ => True) v274 x5_2) := ⟨by exact Kd.R_mono (Kd.R_far (p := ⟨gb278, 2, none⟩) (Kd.R_far (p := ⟨gb278, 1, none⟩) (Kd.R_far (p := ⟨gb278, 0, none⟩) (Kd.R_types HO_5.out BK278.out (by decide)) (fun _ hk => hk.2) (.int .i64 ((rd_T130 (rd_L9 l1 x25_1) x31_2).f0))) (fun _ hk => hk.2) (.int .i64 ((rd_T130 (rd_L9 l1 x25_1) x31_2).f1))) (fun _ hk => hk.2) (.int .i64 ((rd_T130 (rd_L9 l1 x25_1) x31_2).f2))) (fun _ hk => trivial)⟩
         have n1_ : Aside0 ((((w16.setCell ⟨gb278, 0, none⟩ (.int .i64 ((rd_T130 (rd_L9 l1 x25_1) x31_2).f0))).setCell ⟨gb278, 1, none⟩ (.int .i64 ((rd_T130 (rd_L9 l1 x25_1) x31_2).f1))).setCell ⟨gb278, 2, none⟩ (.int .i64 ((rd_T130 (rd_L9 l1 x25_1) x31_2).f2))).heap[gb278]? = some (.cells #[.int .i64 ((rd_T130 (rd_L9 l1 x25_1) x31_2).f0), .int .i64 ((rd_T130 (rd_L9 l1 x25_1) x31_2).f1), .int .i64 ((rd_T130 (rd_L9 l1 x25_1) x31_2).f2)] 130 (0, 0))) := ⟨by refine blk_put (cs := #[.int .i64 ((rd_T130 (rd_L9 l1 x25_1) x31_2).f0), .int .i64 ((rd_T130 (rd_L9 l1 x25_1) x31_2).f1), .int .i64 0]) ?_ 2 _ rfl; refine blk_put (cs := #[.int .i64 ((rd_T130 (rd_L9 l1 x25_1) x31_2).f0), .int .i64 0, .int .i64 0]) ?_ 1 _ rfl; refine blk_put (cs := #[.int .i64 0, .int .i64 0, .int .i64 0]) ?_ 0 _ rfl; exact BK278.out⟩
         have n2_ : Aside0 (Below w.heap.size w (((w16.setCell ⟨gb278, 0, none⟩ (.int .i64 ((rd_T130 (rd_L9 l1 x25_1) x31_2).f0))).setCell ⟨gb278, 1, none⟩ (.int .i64 ((rd_T130 (rd_L9 l1 x25_1) x31_2).f1))).setCell ⟨gb278, 2, none⟩ (.int .i64 ((rd_T130 (rd_L9 l1 x25_1) x31_2).f2)))) := ⟨by repeat (first | (with_reducible first | exact HB.out | apply below_alloc | apply pw_below_drewN | apply below_drew1 | refine below_set ?_ GE278.out) | exact HB.out)⟩
         (try clear HO_5)
         (try clear BK278)
         (try clear HB)
         generalize (((w16.setCell ⟨gb278, 0, none⟩ (.int .i64 ((rd_T130 (rd_L9 l1 x25_1) x31_2).f0))).setCell ⟨gb278, 1, none⟩ (.int .i64 ((rd_T130 (rd_L9 l1 x25_1) x31_2).f1))).setCell ⟨gb278, 2, none⟩ (.int .i64 ((rd_T130 (rd_L9 l1 x25_1) x31_2).f2))) = w18 at n0_ n1_ n2_ ⊢
         have HO_5 := n0_
         have BK278 := n1_
         have HB := n2_
         clear n0_ n1_ n2_
         have n0_ := Aside0.mk (Kd.R_drew HO_5.out)
         have n1_ := Aside0.mk (blk_drew BK278.out)
         have n2_ := Aside0.mk (below_drew1 HB.out)
         clear HO_5
         clear BK278
         clear HB
         have HO_5 := n0_
         have BK278 := n1_
         have HB := n2_
         clear n0_ n1_ n2_
         refine start_ (n := 38) (S := fun w' => w'.cell? ⟨gb278, 0, none⟩ = some (.int .i64 ((rd_T130 (rd_L9 l1 x25_1) x31_2).f0)) ∧ w'.cell? ⟨gb278, 1, none⟩ = some (.int .i64 ((rd_T130 (rd_L9 l1 x25_1) x31_2).f1)) ∧ w'.cell? ⟨gb278, 2, none⟩ = some (.int .i64 ((rd_T130 (rd_L9 l1 x25_1) x31_2).f2))) (ds := []) (bA 38 0) (by kernel_rfl) rfl rfl ⟨(blk_cell BK278.out 0).trans rfl, (blk_cell BK278.out 1).trans rfl, (blk_cell BK278.out 2).trans rfl⟩ (fun hHeld => ?_); refine with_tabW impl_isShared.tab8 impl_isShared.bits8 (fun HT_ HW_ => ?_)
         generalize w18.drew = w19 at HO_5 BK278 HB hHeld ⊢
         refine pU 0 36 (bA 38 1) ?_
         refine pU 2 38 (bA 38 5) ?_
         refine pU 3 39 (bA 38 13) ?_
         refine tU 1 37 (bA 38 15) ?_
         refine one_ (i := 4) (N := some 40) (bA 38 31) rfl rfl (one_of HT_.out (by kernel_rfl)) (by decide) (fun K hK => ?_)
         refine goes_ Try.func108 (by kernel_rfl) rfl #[.int .i64 ((rd_T130 (rd_L9 l1 x25_1) x31_2).f0), .int .i64 (l0.length : Int)] (by rfl) rfl rfl aE ?_
         with_reducible refine (impl_isNumber.calls ((rd_T130 (rd_L9 l1 x25_1) x31_2).f0) (l0.length : Int) true _ A13.out).mono ?_
         rintro e w' ⟨rfl, ⟨nd, rfl⟩⟩
         refine ⟨_, rfl, ?_⟩
         refine hK.out _ _ ⟨(blk_cell BK278.out 0).trans rfl, (blk_cell BK278.out 1).trans rfl, (blk_cell BK278.out 2).trans rfl⟩ (fun hHeld => ?_)
         clear hK K
         refine norm_ (a' := ?_) ?_ ?_
         rotate_left
         ·show Act.put _ (some 40) _ = _
          simp only [Act.put, sA, sZ, sS, i64_w, i32_w]
          rfl
         refine pU 5 41 (bA 38 63) ?_
         refine pU 6 42 (bA 38 127) ?_
         refine pU 7 43 (bA 38 255) ?_
         refine tU 8 44 (bA 38 511) ?_
         refine pU 9 45 (bA 38 1023) ?_
         refine pU 10 46 (bA 38 2047) ?_
         refine pU 11 47 (bA 38 4095) ?_
         refine nU 12 48 (bA 38 8191) ?_
         refine nU 13 49 (bA 38 16383) ?_
         refine nU 14 50 (bA 38 32767) ?_
         refine nU 15 51 (bA 38 65535) ?_
         refine nU 16 52 (bA 38 131071) ?_
         refine pU 17 53 (bA 38 262143) ?_
         refine pU 18 54 (bA 38 524287) ?_
         refine nU 19 55 (bA 38 1048575) ?_
         refine nU 20 56 (bA 38 2097151) ?_
         refine nU 21 57 (bA 38 4194303) ?_
         refine pU 22 58 (bA 38 8388607) ?_
         refine pU 23 59 (bA 38 16777215) ?_
         refine nU 24 60 (bA 38 33554431) ?_
         refine nU 25 61 (bA 38 67108863) ?_
         refine nU 26 62 (bA 38 134217727) ?_
         refine nU 27 63 (bA 38 268435455) ?_
         refine nU 28 64 (bA 38 536870911) ?_
         refine nU 29 65 (bA 38 1073741823) ?_
         refine nU 30 66 (bA 38 2147483647) ?_
         refine nU 31 67 (bA 38 4294967295) ?_
         refine nU 32 68 (bA 38 8589934591) ?_
         refine nU 33 69 (bA 38 17179869183) ?_
         refine nU 34 70 (bA 38 34359738367) ?_
         refine nU 35 71 (bA 38 68719476735) ?_
         refine nU 36 72 (bA 38 137438953471) ?_
         refine pU 37 73 (bA 38 274877906943) ?_
         refine done_ (done_of HT_.out (by kernel_rfl)) ?_
         try go_wp2
         go_ret
         exact ⟨rE, bS⟩
        ·rw [if_neg c15] at H
         have c15b0 : decide (((rd_T130 (rd_L9 l1 x25_1) x31_2).f1) < 0) = false := decide_eq_false c15
         clear c15
         by_cases c20 : ((rd_T130 (rd_L9 l1 x25_1) x31_2).f1) ≥ ((rd_T130 (rd_L9 l1 x25_1) x31_2).f2)
         ·rw [if_pos c20] at H
          have c20b0 : decide (((rd_T130 (rd_L9 l1 x25_1) x31_2).f2) ≤ ((rd_T130 (rd_L9 l1 x25_1) x31_2).f1)) = true := decide_eq_true c20
          clear c20
          obtain rfl := Option.some.inj H
          have p277 : 0 ≤ (x31_2 : Int) := oD
          have q277 : x31_2 < ((rd_L9 l1 x25_1).length : Int) := oD
          obtain ⟨ad277, e277, hx277_0, hx277_1, hx277_2⟩ := at_T130 HR276_0.out x31_2 p277 q277
          cases e277
          replace hx277_0 := (cB HB.out hx277_0 :)
          replace hx277_1 := (cB HB.out hx277_1 :)
          replace hx277_2 := (cB HB.out hx277_2 :)
          replace p277 := eq_true p277
          replace q277 := eq_true q277
          try go_wp2_with (first | ((with_reducible refine gate_dst (N := 9) rfl ?_); refine bE 9 #[.int .i64 0, .int .i64 0, .int .i64 0] 130 ?_; intro gb278 hg w21 hbox hb; have n0_ := Aside0.mk (Kd.R_below (by (with_reducible repeat (first | apply Kd.R_alloc | apply Kd.R_drewN | apply Kd.R_drew)); exact HO_5.out) hb); have n1_ := Aside0.mk (below_step bB hb); have n2_ := Aside0.mk (hbox); have n3_ := Aside0.mk ((by rw [hg]; exact (below_size bB) : w.heap.size ≤ gb278)); have n4_ := Aside0.mk ((by rw [hg]; exact (below_size bB) : w.heap.size ≤ gb278)); clear HO_5; clear HB; have HO_5 := n0_; have HB := n1_; have BK278 := n2_; have GW278 := n3_; have GE278 := n4_; clear n0_ n1_ n2_ n3_ n4_; clear hb hbox hg; have hcz22_0 : w21.cell? ⟨gb278, 0, none⟩ = some (.int .i64 0) := (blk_cell BK278.out 0).trans rfl; have hcz22_1 : w21.cell? ⟨gb278, 1, none⟩ = some (.int .i64 0) := (blk_cell BK278.out 1).trans rfl; have hcz22_2 : w21.cell? ⟨gb278, 2, none⟩ = some (.int .i64 0) := (blk_cell BK278.out 2).trans rfl; have hfz22_0 := blk_frozen BK278.out 0; have hfz22_1 := blk_frozen BK278.out 1; have hfz22_2 := blk_frozen BK278.out 2))
          have n0_ : Aside0 (Kd.R (Kd.int .i64) 3 (((w21.setCell ⟨gb278, 0, none⟩ (.int .i64 ((rd_T130 (rd_L9 l1 x25_1) x31_2).f0))).setCell ⟨gb278, 1, none⟩ (.int .i64 ((rd_T130 (rd_L9 l1 x25_1) x31_2).f1))).setCell ⟨gb278, 2, none⟩ (.int .i64 ((rd_T130 (rd_L9 l1 x25_1) x31_2).f2))) w.heap.size (fun _ => True) v274 x5_2) := ⟨by exact Kd.R_mono (Kd.R_far (p := ⟨gb278, 2, none⟩) (Kd.R_far (p := ⟨gb278, 1, none⟩) (Kd.R_far (p := ⟨gb278, 0, none⟩) (Kd.R_types HO_5.out BK278.out (by decide)) (fun _ hk => hk.2) (.int .i64 ((rd_T130 (rd_L9 l1 x25_1) x31_2).f0))) (fun _ hk => hk.2) (.int .i64 ((rd_T130 (rd_L9 l1 x25_1) x31_2).f1))) (fun _ hk => hk.2) (.int .i64 ((rd_T130 (rd_L9 l1 x25_1) x31_2).f2))) (fun _ hk => trivial)⟩
          have n1_ : Aside0 ((((w21.setCell ⟨gb278, 0, none⟩ (.int .i64 ((rd_T130 (rd_L9 l1 x25_1) x31_2).f0))).setCell ⟨gb278, 1, none⟩ (.int .i64 ((rd_T130 (rd_L9 l1 x25_1) x31_2).f1))).setCell ⟨gb278, 2, none⟩ (.int .i64 ((rd_T130 (rd_L9 l1 x25_1) x31_2).f2))).heap[gb278]? = some (.cells #[.int .i64 ((rd_T130 (rd_L9 l1 x25_1) x31_2).f0), .int .i64 ((rd_T130 (rd_L9 l1 x25_1) x31_2).f1), .int .i64 ((rd_T130 (rd_L9 l1 x25_1) x31_2).f2)] 130 (0, 0))) := ⟨by refine blk_put (cs := #[.int .i64 ((rd_T130 (rd_L9 l1 x25_1) x31_2).f0), .int .i64 ((rd_T130 (rd_L9 l1 x25_1) x31_2).f1), .int .i64 0]) ?_ 2 _ rfl; refine blk_put (cs := #[.int .i64 ((rd_T130 (rd_L9 l1 x25_1) x31_2).f0), .int .i64 0, .int .i64 0]) ?_ 1 _ rfl; refine blk_put (cs := #[.int .i64 0, .int .i64 0, .int .i64 0]) ?_ 0 _ rfl; exact BK278.out⟩
          have n2_ : Aside0 (Below w.heap.size w (((w21.setCell ⟨gb278, 0, none⟩ (.int .i64 ((rd_T130 (rd_L9 l1 x25_1) x31_2).f0))).setCell ⟨gb278, 1, none⟩ (.int .i64 ((rd_T130 (rd_L9 l1 x25_1) x31_2).f1))).setCell ⟨gb278, 2, none⟩ (.int .i64 ((rd_T130 (rd_L9 l1 x25_1) x31_2).f2)))) := ⟨by repeat (first | (with_reducible first | exact HB.out | apply below_alloc | apply pw_below_drewN | apply below_drew1 | refine below_set ?_ GE278.out) | exact HB.out)⟩
          (try clear HO_5)
          (try clear BK278)
          (try clear HB)
          generalize (((w21.setCell ⟨gb278, 0, none⟩ (.int .i64 ((rd_T130 (rd_L9 l1 x25_1) x31_2).f0))).setCell ⟨gb278, 1, none⟩ (.int .i64 ((rd_T130 (rd_L9 l1 x25_1) x31_2).f1))).setCell ⟨gb278, 2, none⟩ (.int .i64 ((rd_T130 (rd_L9 l1 x25_1) x31_2).f2))) = w23 at n0_ n1_ n2_ ⊢
          have HO_5 := n0_
          have BK278 := n1_
          have HB := n2_
          clear n0_ n1_ n2_
          have n0_ := Aside0.mk (Kd.R_drew HO_5.out)
          have n1_ := Aside0.mk (blk_drew BK278.out)
          have n2_ := Aside0.mk (below_drew1 HB.out)
          clear HO_5
          clear BK278
          clear HB
          have HO_5 := n0_
          have BK278 := n1_
          have HB := n2_
          clear n0_ n1_ n2_
          refine start_ (n := 38) (S := fun w' => w'.cell? ⟨gb278, 0, none⟩ = some (.int .i64 ((rd_T130 (rd_L9 l1 x25_1) x31_2).f0)) ∧ w'.cell? ⟨gb278, 1, none⟩ = some (.int .i64 ((rd_T130 (rd_L9 l1 x25_1) x31_2).f1)) ∧ w'.cell? ⟨gb278, 2, none⟩ = some (.int .i64 ((rd_T130 (rd_L9 l1 x25_1) x31_2).f2))) (ds := []) (bA 38 0) (by kernel_rfl) rfl rfl ⟨(blk_cell BK278.out 0).trans rfl, (blk_cell BK278.out 1).trans rfl, (blk_cell BK278.out 2).trans rfl⟩ (fun hHeld => ?_); refine with_tabW impl_isShared.tab8 impl_isShared.bits8 (fun HT_ HW_ => ?_)
          generalize w23.drew = w24 at HO_5 BK278 HB hHeld ⊢
          refine pU 0 36 (bA 38 1) ?_
          refine pU 2 38 (bA 38 5) ?_
          refine pU 3 39 (bA 38 13) ?_
          refine tU 1 37 (bA 38 15) ?_
          refine one_ (i := 4) (N := some 40) (bA 38 31) rfl rfl (one_of HT_.out (by kernel_rfl)) (by decide) (fun K hK => ?_)
          refine goes_ Try.func108 (by kernel_rfl) rfl #[.int .i64 ((rd_T130 (rd_L9 l1 x25_1) x31_2).f0), .int .i64 (l0.length : Int)] (by rfl) rfl rfl aE ?_
          with_reducible refine (impl_isNumber.calls ((rd_T130 (rd_L9 l1 x25_1) x31_2).f0) (l0.length : Int) true _ A13.out).mono ?_
          rintro e w' ⟨rfl, ⟨nd, rfl⟩⟩
          refine ⟨_, rfl, ?_⟩
          refine hK.out _ _ ⟨(blk_cell BK278.out 0).trans rfl, (blk_cell BK278.out 1).trans rfl, (blk_cell BK278.out 2).trans rfl⟩ (fun hHeld => ?_)
          clear hK K
          refine norm_ (a' := ?_) ?_ ?_
          rotate_left
          ·show Act.put _ (some 40) _ = _
           simp only [Act.put, sA, sZ, sS, i64_w, i32_w]
           rfl
          refine pU 5 41 (bA 38 63) ?_
          refine pU 6 42 (bA 38 127) ?_
          refine pU 7 43 (bA 38 255) ?_
          refine tU 8 44 (bA 38 511) ?_
          refine pU 9 45 (bA 38 1023) ?_
          refine pU 10 46 (bA 38 2047) ?_
          refine pU 11 47 (bA 38 4095) ?_
          refine pU 12 48 (bA 38 8191) ?_
          refine pU 14 50 (bA 38 24575) ?_
          refine tU 13 49 (bA 38 32767) ?_
          refine tU 15 51 (bA 38 65535) ?_
          refine pU 16 52 (bA 38 131071) ?_
          refine pU 17 53 (bA 38 262143) ?_
          refine pU 18 54 (bA 38 524287) ?_
          refine nU 19 55 (bA 38 1048575) ?_
          refine nU 20 56 (bA 38 2097151) ?_
          refine nU 21 57 (bA 38 4194303) ?_
          refine pU 22 58 (bA 38 8388607) ?_
          refine pU 23 59 (bA 38 16777215) ?_
          refine nU 24 60 (bA 38 33554431) ?_
          refine nU 25 61 (bA 38 67108863) ?_
          refine nU 26 62 (bA 38 134217727) ?_
          refine nU 27 63 (bA 38 268435455) ?_
          refine nU 28 64 (bA 38 536870911) ?_
          refine nU 29 65 (bA 38 1073741823) ?_
          refine nU 30 66 (bA 38 2147483647) ?_
          refine nU 31 67 (bA 38 4294967295) ?_
          refine nU 32 68 (bA 38 8589934591) ?_
          refine nU 33 69 (bA 38 17179869183) ?_
          refine nU 34 70 (bA 38 34359738367) ?_
          refine nU 35 71 (bA 38 68719476735) ?_
          refine nU 36 72 (bA 38 137438953471) ?_
          refine pU 37 73 (bA 38 274877906943) ?_
          refine done_ (done_of HT_.out (by kernel_rfl)) ?_
          try go_wp2
          go_ret
          exact ⟨rE, bS⟩
         ·rw [if_neg c20] at H
          have c20b0 : decide (((rd_T130 (rd_L9 l1 x25_1) x31_2).f2) ≤ ((rd_T130 (rd_L9 l1 x25_1) x31_2).f1)) = false := decide_eq_false c20
          clear c20
          by_cases c25 : ((rd_T130 (rd_L9 l1 x25_1) x31_2).f2) > 1000
          ·rw [if_pos c25] at H
           have c25b0 : decide (1000 < ((rd_T130 (rd_L9 l1 x25_1) x31_2).f2)) = true := decide_eq_true c25
           clear c25
           obtain rfl := Option.some.inj H
           have p277 : 0 ≤ (x31_2 : Int) := oD
           have q277 : x31_2 < ((rd_L9 l1 x25_1).length : Int) := oD
           obtain ⟨ad277, e277, hx277_0, hx277_1, hx277_2⟩ := at_T130 HR276_0.out x31_2 p277 q277
           cases e277
           replace hx277_0 := (cB HB.out hx277_0 :)
           replace hx277_1 := (cB HB.out hx277_1 :)
           replace hx277_2 := (cB HB.out hx277_2 :)
           replace p277 := eq_true p277
           replace q277 := eq_true q277
           try go_wp2_with (first | ((with_reducible refine gate_dst (N := 9) rfl ?_); refine bE 9 #[.int .i64 0, .int .i64 0, .int .i64 0] 130 ?_; intro gb278 hg w26 hbox hb; have n0_ := Aside0.mk (Kd.R_below (by (with_reducible repeat (first | apply Kd.R_alloc | apply Kd.R_drewN | apply Kd.R_drew)); exact HO_5.out) hb); have n1_ := Aside0.mk (below_step bB hb); have n2_ := Aside0.mk (hbox); have n3_ := Aside0.mk ((by rw [hg]; exact (below_size bB) : w.heap.size ≤ gb278)); have n4_ := Aside0.mk ((by rw [hg]; exact (below_size bB) : w.heap.size ≤ gb278)); clear HO_5; clear HB; have HO_5 := n0_; have HB := n1_; have BK278 := n2_; have GW278 := n3_; have GE278 := n4_; clear n0_ n1_ n2_ n3_ n4_; clear hb hbox hg; have hcz27_0 : w26.cell? ⟨gb278, 0, none⟩ = some (.int .i64 0) := (blk_cell BK278.out 0).trans rfl; have hcz27_1 : w26.cell? ⟨gb278, 1, none⟩ = some (.int .i64 0) := (blk_cell BK278.out 1).trans rfl; have hcz27_2 : w26.cell? ⟨gb278, 2, none⟩ = some (.int .i64 0) := (blk_cell BK278.out 2).trans rfl; have hfz27_0 := blk_frozen BK278.out 0; have hfz27_1 := blk_frozen BK278.out 1; have hfz27_2 := blk_frozen BK278.out 2))
           have n0_ : Aside0 (Kd.R (Kd.int .i64) 3 (((w26.setCell ⟨gb278, 0, none⟩ (.int .i64 ((rd_T130 (rd_L9 l1 x25_1) x31_2).f0))).setCell ⟨gb278, 1, none⟩ (.int .i64 ((rd_T130 (rd_L9 l1 x25_1) x31_2).f1))).setCell ⟨gb278, 2, none⟩ (.int .i64 ((rd_T130 (rd_L9 l1 x25_1) x31_2).f2))) w.heap.size (fun _ => True) v274 x5_2) := ⟨by exact Kd.R_mono (Kd.R_far (p := ⟨gb278, 2, none⟩) (Kd.R_far (p := ⟨gb278, 1, none⟩) (Kd.R_far (p := ⟨gb278, 0, none⟩) (Kd.R_types HO_5.out BK278.out (by decide)) (fun _ hk => hk.2) (.int .i64 ((rd_T130 (rd_L9 l1 x25_1) x31_2).f0))) (fun _ hk => hk.2) (.int .i64 ((rd_T130 (rd_L9 l1 x25_1) x31_2).f1))) (fun _ hk => hk.2) (.int .i64 ((rd_T130 (rd_L9 l1 x25_1) x31_2).f2))) (fun _ hk => trivial)⟩
           have n1_ : Aside0 ((((w26.setCell ⟨gb278, 0, none⟩ (.int .i64 ((rd_T130 (rd_L9 l1 x25_1) x31_2).f0))).setCell ⟨gb278, 1, none⟩ (.int .i64 ((rd_T130 (rd_L9 l1 x25_1) x31_2).f1))).setCell ⟨gb278, 2, none⟩ (.int .i64 ((rd_T130 (rd_L9 l1 x25_1) x31_2).f2))).heap[gb278]? = some (.cells #[.int .i64 ((rd_T130 (rd_L9 l1 x25_1) x31_2).f0), .int .i64 ((rd_T130 (rd_L9 l1 x25_1) x31_2).f1), .int .i64 ((rd_T130 (rd_L9 l1 x25_1) x31_2).f2)] 130 (0, 0))) := ⟨by refine blk_put (cs := #[.int .i64 ((rd_T130 (rd_L9 l1 x25_1) x31_2).f0), .int .i64 ((rd_T130 (rd_L9 l1 x25_1) x31_2).f1), .int .i64 0]) ?_ 2 _ rfl; refine blk_put (cs := #[.int .i64 ((rd_T130 (rd_L9 l1 x25_1) x31_2).f0), .int .i64 0, .int .i64 0]) ?_ 1 _ rfl; refine blk_put (cs := #[.int .i64 0, .int .i64 0, .int .i64 0]) ?_ 0 _ rfl; exact BK278.out⟩
           have n2_ : Aside0 (Below w.heap.size w (((w26.setCell ⟨gb278, 0, none⟩ (.int .i64 ((rd_T130 (rd_L9 l1 x25_1) x31_2).f0))).setCell ⟨gb278, 1, none⟩ (.int .i64 ((rd_T130 (rd_L9 l1 x25_1) x31_2).f1))).setCell ⟨gb278, 2, none⟩ (.int .i64 ((rd_T130 (rd_L9 l1 x25_1) x31_2).f2)))) := ⟨by repeat (first | (with_reducible first | exact HB.out | apply below_alloc | apply pw_below_drewN | apply below_drew1 | refine below_set ?_ GE278.out) | exact HB.out)⟩
           (try clear HO_5)
           (try clear BK278)
           (try clear HB)
           generalize (((w26.setCell ⟨gb278, 0, none⟩ (.int .i64 ((rd_T130 (rd_L9 l1 x25_1) x31_2).f0))).setCell ⟨gb278, 1, none⟩ (.int .i64 ((rd_T130 (rd_L9 l1 x25_1) x31_2).f1))).setCell ⟨gb278, 2, none⟩ (.int .i64 ((rd_T130 (rd_L9 l1 x25_1) x31_2).f2))) = w28 at n0_ n1_ n2_ ⊢
           have HO_5 := n0_
           have BK278 := n1_
           have HB := n2_
           clear n0_ n1_ n2_
           have n0_ := Aside0.mk (Kd.R_drew HO_5.out)
           have n1_ := Aside0.mk (blk_drew BK278.out)
           have n2_ := Aside0.mk (below_drew1 HB.out)
           clear HO_5
           clear BK278
           clear HB
           have HO_5 := n0_
           have BK278 := n1_
           have HB := n2_
           clear n0_ n1_ n2_
           refine start_ (n := 38) (S := fun w' => w'.cell? ⟨gb278, 0, none⟩ = some (.int .i64 ((rd_T130 (rd_L9 l1 x25_1) x31_2).f0)) ∧ w'.cell? ⟨gb278, 1, none⟩ = some (.int .i64 ((rd_T130 (rd_L9 l1 x25_1) x31_2).f1)) ∧ w'.cell? ⟨gb278, 2, none⟩ = some (.int .i64 ((rd_T130 (rd_L9 l1 x25_1) x31_2).f2))) (ds := []) (bA 38 0) (by kernel_rfl) rfl rfl ⟨(blk_cell BK278.out 0).trans rfl, (blk_cell BK278.out 1).trans rfl, (blk_cell BK278.out 2).trans rfl⟩ (fun hHeld => ?_); refine with_tabW impl_isShared.tab8 impl_isShared.bits8 (fun HT_ HW_ => ?_)
           generalize w28.drew = w29 at HO_5 BK278 HB hHeld ⊢
           refine pU 0 36 (bA 38 1) ?_
           refine pU 2 38 (bA 38 5) ?_
           refine pU 3 39 (bA 38 13) ?_
           refine tU 1 37 (bA 38 15) ?_
           refine one_ (i := 4) (N := some 40) (bA 38 31) rfl rfl (one_of HT_.out (by kernel_rfl)) (by decide) (fun K hK => ?_)
           refine goes_ Try.func108 (by kernel_rfl) rfl #[.int .i64 ((rd_T130 (rd_L9 l1 x25_1) x31_2).f0), .int .i64 (l0.length : Int)] (by rfl) rfl rfl aE ?_
           with_reducible refine (impl_isNumber.calls ((rd_T130 (rd_L9 l1 x25_1) x31_2).f0) (l0.length : Int) true _ A13.out).mono ?_
           rintro e w' ⟨rfl, ⟨nd, rfl⟩⟩
           refine ⟨_, rfl, ?_⟩
           refine hK.out _ _ ⟨(blk_cell BK278.out 0).trans rfl, (blk_cell BK278.out 1).trans rfl, (blk_cell BK278.out 2).trans rfl⟩ (fun hHeld => ?_)
           clear hK K
           refine norm_ (a' := ?_) ?_ ?_
           rotate_left
           ·show Act.put _ (some 40) _ = _
            simp only [Act.put, sA, sZ, sS, i64_w, i32_w]
            rfl
           refine pU 5 41 (bA 38 63) ?_
           refine pU 6 42 (bA 38 127) ?_
           refine pU 7 43 (bA 38 255) ?_
           refine tU 8 44 (bA 38 511) ?_
           refine pU 9 45 (bA 38 1023) ?_
           refine pU 10 46 (bA 38 2047) ?_
           refine pU 11 47 (bA 38 4095) ?_
           refine pU 12 48 (bA 38 8191) ?_
           refine pU 14 50 (bA 38 24575) ?_
           refine tU 13 49 (bA 38 32767) ?_
           refine tU 15 51 (bA 38 65535) ?_
           refine pU 16 52 (bA 38 131071) ?_
           refine pU 17 53 (bA 38 262143) ?_
           refine pU 18 54 (bA 38 524287) ?_
           refine pU 19 55 (bA 38 1048575) ?_
           refine tU 20 56 (bA 38 2097151) ?_
           refine pU 21 57 (bA 38 4194303) ?_
           refine pU 22 58 (bA 38 8388607) ?_
           refine pU 23 59 (bA 38 16777215) ?_
           refine nU 24 60 (bA 38 33554431) ?_
           refine nU 25 61 (bA 38 67108863) ?_
           refine nU 26 62 (bA 38 134217727) ?_
           refine nU 27 63 (bA 38 268435455) ?_
           refine nU 28 64 (bA 38 536870911) ?_
           refine nU 29 65 (bA 38 1073741823) ?_
           refine nU 30 66 (bA 38 2147483647) ?_
           refine nU 31 67 (bA 38 4294967295) ?_
           refine nU 32 68 (bA 38 8589934591) ?_
           refine nU 33 69 (bA 38 17179869183) ?_
           refine nU 34 70 (bA 38 34359738367) ?_
           refine nU 35 71 (bA 38 68719476735) ?_
           refine nU 36 72 (bA 38 137438953471) ?_
           refine pU 37 73 (bA 38 274877906943) ?_
           refine done_ (done_of HT_.out (by kernel_rfl)) ?_
           try go_wp2
           go_ret
           exact ⟨rE, bS⟩
          ·rw [if_neg c25] at H
           have c25b0 : decide (1000 < ((rd_T130 (rd_L9 l1 x25_1) x31_2).f2)) = false := decide_eq_false c25
           clear c25
           by_cases c30 : x31_2 > 0
           ·rw [if_pos c30] at H
            have c30b0 : decide (0 < x31_2) = true := decide_eq_true c30
            clear c30
            obtain ⟨ji31, hji31⟩ : ∃ j_ : Int, (wrap64 (x31_2 - 1)) = j_ := ⟨_, rfl⟩
            replace H : (if 0 ≤ (ji31) then (if (ji31) < ((rd_L9 l1 x25_1).length : Int) then (if ((rd_T130 (rd_L9 l1 x25_1) x31_2).f1) < ((rd_T130 (rd_L9 l1 x25_1) (ji31)).f2) then (some false) else (if 0 ≤ ((rd_T130 (rd_L9 l1 x25_1) x31_2).f0) then (if ((rd_T130 (rd_L9 l1 x25_1) x31_2).f0) < (x5_2.length : Int) then (impl_isShared.l1 k2 l0 l1 (x5_2.set (((rd_T130 (rd_L9 l1 x25_1) x31_2).f0) : Int).toNat (wrap64 ((rd x5_2 ((rd_T130 (rd_L9 l1 x25_1) x31_2).f0)) + (wrap64 (((rd_T130 (rd_L9 l1 x25_1) x31_2).f2) - ((rd_T130 (rd_L9 l1 x25_1) x31_2).f1)))))) (rd_L9 l1 x25_1) l1 (l1.length : Int) x25_1 (rd_L9 l1 x25_1) ((rd_L9 l1 x25_1).length : Int) (wrap64 (x31_2 + 1))) else (none)) else (none))) else (none)) else (none)) = some r := by first | (rw [hji31] at H; exact H) | (simp only [hji31] at H ⊢; exact H)
            (try rw [hji31] at A13)
            have hji31w : (IntKind.i64.wrap (x31_2 - 1)) = ji31 := (i64_w _).trans hji31
            by_cases c32 : 0 ≤ (ji31); rotate_left
            ·rw [if_neg c32] at H; exact absurd H (by simp)
            rw [if_pos c32] at H
            have c32b0 : decide (0 ≤ (ji31)) = true := decide_eq_true c32
            clear c32
            by_cases c33 : (ji31) < ((rd_L9 l1 x25_1).length : Int); rotate_left
            ·rw [if_neg c33] at H; exact absurd H (by simp)
            rw [if_pos c33] at H
            have c33b0 : decide ((ji31) < ((rd_L9 l1 x25_1).length : Int)) = true := decide_eq_true c33
            clear c33
            by_cases c34 : ((rd_T130 (rd_L9 l1 x25_1) x31_2).f1) < ((rd_T130 (rd_L9 l1 x25_1) (ji31)).f2)
            ·rw [if_pos c34] at H
             have c34b0 : decide (((rd_T130 (rd_L9 l1 x25_1) x31_2).f1) < ((rd_T130 (rd_L9 l1 x25_1) (ji31)).f2)) = true := decide_eq_true c34
             clear c34
             obtain rfl := Option.some.inj H
             have p277 : 0 ≤ (x31_2 : Int) := oD
             have q277 : x31_2 < ((rd_L9 l1 x25_1).length : Int) := oD
             obtain ⟨ad277, e277, hx277_0, hx277_1, hx277_2⟩ := at_T130 HR276_0.out x31_2 p277 q277
             cases e277
             replace hx277_0 := (cB HB.out hx277_0 :)
             replace hx277_1 := (cB HB.out hx277_1 :)
             replace hx277_2 := (cB HB.out hx277_2 :)
             replace p277 := eq_true p277
             replace q277 := eq_true q277
             try go_wp2_with (first | ((with_reducible refine gate_dst (N := 9) rfl ?_); refine bE 9 #[.int .i64 0, .int .i64 0, .int .i64 0] 130 ?_; intro gb278 hg w35 hbox hb; have n0_ := Aside0.mk (Kd.R_below (by (with_reducible repeat (first | apply Kd.R_alloc | apply Kd.R_drewN | apply Kd.R_drew)); exact HO_5.out) hb); have n1_ := Aside0.mk (below_step bB hb); have n2_ := Aside0.mk (hbox); have n3_ := Aside0.mk ((by rw [hg]; exact (below_size bB) : w.heap.size ≤ gb278)); have n4_ := Aside0.mk ((by rw [hg]; exact (below_size bB) : w.heap.size ≤ gb278)); clear HO_5; clear HB; have HO_5 := n0_; have HB := n1_; have BK278 := n2_; have GW278 := n3_; have GE278 := n4_; clear n0_ n1_ n2_ n3_ n4_; clear hb hbox hg; have hcz36_0 : w35.cell? ⟨gb278, 0, none⟩ = some (.int .i64 0) := (blk_cell BK278.out 0).trans rfl; have hcz36_1 : w35.cell? ⟨gb278, 1, none⟩ = some (.int .i64 0) := (blk_cell BK278.out 1).trans rfl; have hcz36_2 : w35.cell? ⟨gb278, 2, none⟩ = some (.int .i64 0) := (blk_cell BK278.out 2).trans rfl; have hfz36_0 := blk_frozen BK278.out 0; have hfz36_1 := blk_frozen BK278.out 1; have hfz36_2 := blk_frozen BK278.out 2))
             have n0_ : Aside0 (Kd.R (Kd.int .i64) 3 (((w35.setCell ⟨gb278, 0, none⟩ (.int .i64 ((rd_T130 (rd_L9 l1 x25_1) x31_2).f0))).setCell ⟨gb278, 1, none⟩ (.int .i64 ((rd_T130 (rd_L9 l1 x25_1) x31_2).f1))).setCell ⟨gb278, 2, none⟩ (.int .i64 ((rd_T130 (rd_L9 l1 x25_1) x31_2).f2))) w.heap.size (fun _ => True) v274 x5_2) := ⟨by exact Kd.R_mono (Kd.R_far (p := ⟨gb278, 2, none⟩) (Kd.R_far (p := ⟨gb278, 1, none⟩) (Kd.R_far (p := ⟨gb278, 0, none⟩) (Kd.R_types HO_5.out BK278.out (by decide)) (fun _ hk => hk.2) (.int .i64 ((rd_T130 (rd_L9 l1 x25_1) x31_2).f0))) (fun _ hk => hk.2) (.int .i64 ((rd_T130 (rd_L9 l1 x25_1) x31_2).f1))) (fun _ hk => hk.2) (.int .i64 ((rd_T130 (rd_L9 l1 x25_1) x31_2).f2))) (fun _ hk => trivial)⟩
             have n1_ : Aside0 ((((w35.setCell ⟨gb278, 0, none⟩ (.int .i64 ((rd_T130 (rd_L9 l1 x25_1) x31_2).f0))).setCell ⟨gb278, 1, none⟩ (.int .i64 ((rd_T130 (rd_L9 l1 x25_1) x31_2).f1))).setCell ⟨gb278, 2, none⟩ (.int .i64 ((rd_T130 (rd_L9 l1 x25_1) x31_2).f2))).heap[gb278]? = some (.cells #[.int .i64 ((rd_T130 (rd_L9 l1 x25_1) x31_2).f0), .int .i64 ((rd_T130 (rd_L9 l1 x25_1) x31_2).f1), .int .i64 ((rd_T130 (rd_L9 l1 x25_1) x31_2).f2)] 130 (0, 0))) := ⟨by refine blk_put (cs := #[.int .i64 ((rd_T130 (rd_L9 l1 x25_1) x31_2).f0), .int .i64 ((rd_T130 (rd_L9 l1 x25_1) x31_2).f1), .int .i64 0]) ?_ 2 _ rfl; refine blk_put (cs := #[.int .i64 ((rd_T130 (rd_L9 l1 x25_1) x31_2).f0), .int .i64 0, .int .i64 0]) ?_ 1 _ rfl; refine blk_put (cs := #[.int .i64 0, .int .i64 0, .int .i64 0]) ?_ 0 _ rfl; exact BK278.out⟩
             have n2_ : Aside0 (Below w.heap.size w (((w35.setCell ⟨gb278, 0, none⟩ (.int .i64 ((rd_T130 (rd_L9 l1 x25_1) x31_2).f0))).setCell ⟨gb278, 1, none⟩ (.int .i64 ((rd_T130 (rd_L9 l1 x25_1) x31_2).f1))).setCell ⟨gb278, 2, none⟩ (.int .i64 ((rd_T130 (rd_L9 l1 x25_1) x31_2).f2)))) := ⟨by repeat (first | (with_reducible first | exact HB.out | apply below_alloc | apply pw_below_drewN | apply below_drew1 | refine below_set ?_ GE278.out) | exact HB.out)⟩
             (try clear HO_5)
             (try clear BK278)
             (try clear HB)
             generalize (((w35.setCell ⟨gb278, 0, none⟩ (.int .i64 ((rd_T130 (rd_L9 l1 x25_1) x31_2).f0))).setCell ⟨gb278, 1, none⟩ (.int .i64 ((rd_T130 (rd_L9 l1 x25_1) x31_2).f1))).setCell ⟨gb278, 2, none⟩ (.int .i64 ((rd_T130 (rd_L9 l1 x25_1) x31_2).f2))) = w37 at n0_ n1_ n2_ ⊢
             have HO_5 := n0_
             have BK278 := n1_
             have HB := n2_
             clear n0_ n1_ n2_
             have n0_ := Aside0.mk (Kd.R_drew HO_5.out)
             have n1_ := Aside0.mk (blk_drew BK278.out)
             have n2_ := Aside0.mk (below_drew1 HB.out)
             clear HO_5
             clear BK278
             clear HB
             have HO_5 := n0_
             have BK278 := n1_
             have HB := n2_
             clear n0_ n1_ n2_
             have p280 : 0 ≤ ((ji31) : Int) := oD
             have q280 : (ji31) < ((rd_L9 l1 x25_1).length : Int) := oD
             obtain ⟨ad280, e280, hx280_0, hx280_1, hx280_2⟩ := at_T130 HR276_0.out (ji31) p280 q280
             have hw280_2 := hx280_2
             have hw280_1 := hx280_1
             have hw280_0 := hx280_0
             obtain rfl : ad277 = ad280 := (by injection e280)
             replace hx280_0 := (cB HB.out hx280_0 :)
             replace hx280_1 := (cB HB.out hx280_1 :)
             replace hx280_2 := (cB HB.out hx280_2 :)
             replace p280 := eq_true p280
             replace q280 := eq_true q280
             refine start_ (n := 38) (S := fun w' => w'.cell? ⟨gb278, 0, none⟩ = some (.int .i64 ((rd_T130 (rd_L9 l1 x25_1) x31_2).f0)) ∧ w'.cell? ⟨gb278, 1, none⟩ = some (.int .i64 ((rd_T130 (rd_L9 l1 x25_1) x31_2).f1)) ∧ w'.cell? ⟨gb278, 2, none⟩ = some (.int .i64 ((rd_T130 (rd_L9 l1 x25_1) x31_2).f2)) ∧ w'.cell? (ad277.add (((ji31)).toNat * 3)) = some (.int .i64 ((rd_T130 (rd_L9 l1 x25_1) (ji31)).f0)) ∧ w'.cell? ⟨(ad277.add (((ji31)).toNat * 3)).block, (ad277.add (((ji31)).toNat * 3)).off + 1, none⟩ = some (.int .i64 ((rd_T130 (rd_L9 l1 x25_1) (ji31)).f1)) ∧ w'.cell? ⟨(ad277.add (((ji31)).toNat * 3)).block, (ad277.add (((ji31)).toNat * 3)).off + 2, none⟩ = some (.int .i64 ((rd_T130 (rd_L9 l1 x25_1) (ji31)).f2))) (ds := []) (bA 38 0) (by kernel_rfl) rfl rfl ⟨(blk_cell BK278.out 0).trans rfl, (blk_cell BK278.out 1).trans rfl, (blk_cell BK278.out 2).trans rfl, ((cB HB.out hw280_0 :)), ((cB HB.out hw280_1 :)), ((cB HB.out hw280_2 :))⟩ (fun hHeld => ?_); refine with_tabW impl_isShared.tab8 impl_isShared.bits8 (fun HT_ HW_ => ?_)
             generalize w37.drew = w38 at HO_5 BK278 HB hx280_0 hx280_1 hx280_2 hHeld ⊢
             refine pU 0 36 (bA 38 1) ?_
             refine pU 2 38 (bA 38 5) ?_
             refine pU 3 39 (bA 38 13) ?_
             refine tU 1 37 (bA 38 15) ?_
             refine one_ (i := 4) (N := some 40) (bA 38 31) rfl rfl (one_of HT_.out (by kernel_rfl)) (by decide) (fun K hK => ?_)
             refine goes_ Try.func108 (by kernel_rfl) rfl #[.int .i64 ((rd_T130 (rd_L9 l1 x25_1) x31_2).f0), .int .i64 (l0.length : Int)] (by rfl) rfl rfl aE ?_
             with_reducible refine (impl_isNumber.calls ((rd_T130 (rd_L9 l1 x25_1) x31_2).f0) (l0.length : Int) true _ A13.out).mono ?_
             rintro e w' ⟨rfl, ⟨nd, rfl⟩⟩
             refine ⟨_, rfl, ?_⟩
             refine hK.out _ _ ⟨(blk_cell BK278.out 0).trans rfl, (blk_cell BK278.out 1).trans rfl, (blk_cell BK278.out 2).trans rfl, ((cB HB.out hw280_0 :)), ((cB HB.out hw280_1 :)), ((cB HB.out hw280_2 :))⟩ (fun hHeld => ?_)
             clear hK K
             refine norm_ (a' := ?_) ?_ ?_
             rotate_left
             ·show Act.put _ (some 40) _ = _
              simp only [Act.put, sA, sZ, sS, i64_w, i32_w]
              rfl
             refine pU 5 41 (bA 38 63) ?_
             refine pU 6 42 (bA 38 127) ?_
             refine pU 7 43 (bA 38 255) ?_
             refine tU 8 44 (bA 38 511) ?_
             refine pU 9 45 (bA 38 1023) ?_
             refine pU 10 46 (bA 38 2047) ?_
             refine pU 11 47 (bA 38 4095) ?_
             refine pU 12 48 (bA 38 8191) ?_
             refine pU 14 50 (bA 38 24575) ?_
             refine tU 13 49 (bA 38 32767) ?_
             refine tU 15 51 (bA 38 65535) ?_
             refine pU 16 52 (bA 38 131071) ?_
             refine pU 17 53 (bA 38 262143) ?_
             refine pU 18 54 (bA 38 524287) ?_
             refine pU 19 55 (bA 38 1048575) ?_
             refine tU 20 56 (bA 38 2097151) ?_
             refine pU 21 57 (bA 38 4194303) ?_
             refine pU 22 58 (bA 38 8388607) ?_
             refine pU 23 59 (bA 38 16777215) ?_
             refine pU 24 60 (bA 38 33554431) ?_
             refine pU 25 61 (bA 38 67108863) ?_
             refine pU 26 62 (bA 38 134217727) ?_
             refine pU 27 63 (bA 38 268435455) ?_
             refine pU 29 65 (bA 38 805306367) ?_
             refine pU 30 66 (bA 38 1879048191) ?_
             refine pU 31 67 (bA 38 4026531839) ?_
             refine pU 32 68 (bA 38 8321499135) ?_
             refine pU 33 69 (bA 38 16911433727) ?_
             refine tU 28 64 (bA 38 17179869183) ?_
             refine tU 34 70 (bA 38 34359738367) ?_
             refine pU 35 71 (bA 38 68719476735) ?_
             refine pU 36 72 (bA 38 137438953471) ?_
             refine pU 37 73 (bA 38 274877906943) ?_
             refine done_ (done_of HT_.out (by kernel_rfl)) ?_
             try go_wp2
             go_ret
             exact ⟨by first | rfl | (simp [errW_none, errW_some] <;> rfl) | (simp only [← hji31]; first | rfl | (simp [errW_none, errW_some] <;> rfl)) | (simp [*, errW_none, errW_some] <;> rfl), bS⟩
            ·rw [if_neg c34] at H
             have c34b0 : decide (((rd_T130 (rd_L9 l1 x25_1) x31_2).f1) < ((rd_T130 (rd_L9 l1 x25_1) (ji31)).f2)) = false := decide_eq_false c34
             clear c34
             by_cases c39 : 0 ≤ ((rd_T130 (rd_L9 l1 x25_1) x31_2).f0); rotate_left
             ·rw [if_neg c39] at H; exact absurd H (by simp)
             rw [if_pos c39] at H
             have c39b0 : decide (0 ≤ ((rd_T130 (rd_L9 l1 x25_1) x31_2).f0)) = true := decide_eq_true c39
             clear c39
             by_cases c40 : ((rd_T130 (rd_L9 l1 x25_1) x31_2).f0) < (x5_2.length : Int); rotate_left
             ·rw [if_neg c40] at H; exact absurd H (by simp)
             rw [if_pos c40] at H
             have c40b0 : decide (((rd_T130 (rd_L9 l1 x25_1) x31_2).f0) < (x5_2.length : Int)) = true := decide_eq_true c40
             clear c40
             obtain ⟨y282, hy282⟩ : ∃ y_ : List Int, y_ = (x5_2.set (((rd_T130 (rd_L9 l1 x25_1) x31_2).f0) : Int).toNat (wrap64 ((rd x5_2 ((rd_T130 (rd_L9 l1 x25_1) x31_2).f0)) + (wrap64 (((rd_T130 (rd_L9 l1 x25_1) x31_2).f2) - ((rd_T130 (rd_L9 l1 x25_1) x31_2).f1)))))) := ⟨_, rfl⟩
             replace H : (impl_isShared.l1 k2 l0 l1 y282 (rd_L9 l1 x25_1) l1 (l1.length : Int) x25_1 (rd_L9 l1 x25_1) ((rd_L9 l1 x25_1).length : Int) (wrap64 (x31_2 + 1))) = some r := by first | (rw [hy282]; with_reducible exact H) | (have H2_ := (Option.bind_some _ _).symm.trans H; rw [hy282]; with_reducible exact H2_) | (have H2_ := (Option.bind_some _ _).symm.trans H; with_reducible exact H2_) | with_reducible exact H | (rw [hy282]; exact H) | exact H
             have Ny282 := Aside0.mk hy282
             clear hy282
             have H' := Aside0.mk H
             clear H
             have p277 : 0 ≤ (x31_2 : Int) := oD
             have q277 : x31_2 < ((rd_L9 l1 x25_1).length : Int) := oD
             obtain ⟨ad277, e277, hx277_0, hx277_1, hx277_2⟩ := at_T130 HR276_0.out x31_2 p277 q277
             cases e277
             replace hx277_0 := (cB HB.out hx277_0 :)
             replace hx277_1 := (cB HB.out hx277_1 :)
             replace hx277_2 := (cB HB.out hx277_2 :)
             replace p277 := eq_true p277
             replace q277 := eq_true q277
             try go_wp2_with (first | ((with_reducible refine gate_dst (N := 9) rfl ?_); refine bE 9 #[.int .i64 0, .int .i64 0, .int .i64 0] 130 ?_; intro gb278 hg w42 hbox hb; have n0_ := Aside0.mk (Kd.R_below (by (with_reducible repeat (first | apply Kd.R_alloc | apply Kd.R_drewN | apply Kd.R_drew)); exact HO_5.out) hb); have n1_ := Aside0.mk (below_step bB hb); have n2_ := Aside0.mk (hbox); have n3_ := Aside0.mk ((by rw [hg]; exact (below_size bB) : w.heap.size ≤ gb278)); have n4_ := Aside0.mk ((by rw [hg]; exact (below_size bB) : w.heap.size ≤ gb278)); clear HO_5; clear HB; have HO_5 := n0_; have HB := n1_; have BK278 := n2_; have GW278 := n3_; have GE278 := n4_; clear n0_ n1_ n2_ n3_ n4_; clear hb hbox hg; have hcz43_0 : w42.cell? ⟨gb278, 0, none⟩ = some (.int .i64 0) := (blk_cell BK278.out 0).trans rfl; have hcz43_1 : w42.cell? ⟨gb278, 1, none⟩ = some (.int .i64 0) := (blk_cell BK278.out 1).trans rfl; have hcz43_2 : w42.cell? ⟨gb278, 2, none⟩ = some (.int .i64 0) := (blk_cell BK278.out 2).trans rfl; have hfz43_0 := blk_frozen BK278.out 0; have hfz43_1 := blk_frozen BK278.out 1; have hfz43_2 := blk_frozen BK278.out 2))
             have n0_ : Aside0 (Kd.R (Kd.int .i64) 3 (((w42.setCell ⟨gb278, 0, none⟩ (.int .i64 ((rd_T130 (rd_L9 l1 x25_1) x31_2).f0))).setCell ⟨gb278, 1, none⟩ (.int .i64 ((rd_T130 (rd_L9 l1 x25_1) x31_2).f1))).setCell ⟨gb278, 2, none⟩ (.int .i64 ((rd_T130 (rd_L9 l1 x25_1) x31_2).f2))) w.heap.size (fun _ => True) v274 x5_2) := ⟨by exact Kd.R_mono (Kd.R_far (p := ⟨gb278, 2, none⟩) (Kd.R_far (p := ⟨gb278, 1, none⟩) (Kd.R_far (p := ⟨gb278, 0, none⟩) (Kd.R_types HO_5.out BK278.out (by decide)) (fun _ hk => hk.2) (.int .i64 ((rd_T130 (rd_L9 l1 x25_1) x31_2).f0))) (fun _ hk => hk.2) (.int .i64 ((rd_T130 (rd_L9 l1 x25_1) x31_2).f1))) (fun _ hk => hk.2) (.int .i64 ((rd_T130 (rd_L9 l1 x25_1) x31_2).f2))) (fun _ hk => trivial)⟩
             have n1_ : Aside0 ((((w42.setCell ⟨gb278, 0, none⟩ (.int .i64 ((rd_T130 (rd_L9 l1 x25_1) x31_2).f0))).setCell ⟨gb278, 1, none⟩ (.int .i64 ((rd_T130 (rd_L9 l1 x25_1) x31_2).f1))).setCell ⟨gb278, 2, none⟩ (.int .i64 ((rd_T130 (rd_L9 l1 x25_1) x31_2).f2))).heap[gb278]? = some (.cells #[.int .i64 ((rd_T130 (rd_L9 l1 x25_1) x31_2).f0), .int .i64 ((rd_T130 (rd_L9 l1 x25_1) x31_2).f1), .int .i64 ((rd_T130 (rd_L9 l1 x25_1) x31_2).f2)] 130 (0, 0))) := ⟨by refine blk_put (cs := #[.int .i64 ((rd_T130 (rd_L9 l1 x25_1) x31_2).f0), .int .i64 ((rd_T130 (rd_L9 l1 x25_1) x31_2).f1), .int .i64 0]) ?_ 2 _ rfl; refine blk_put (cs := #[.int .i64 ((rd_T130 (rd_L9 l1 x25_1) x31_2).f0), .int .i64 0, .int .i64 0]) ?_ 1 _ rfl; refine blk_put (cs := #[.int .i64 0, .int .i64 0, .int .i64 0]) ?_ 0 _ rfl; exact BK278.out⟩
             have n2_ : Aside0 (Below w.heap.size w (((w42.setCell ⟨gb278, 0, none⟩ (.int .i64 ((rd_T130 (rd_L9 l1 x25_1) x31_2).f0))).setCell ⟨gb278, 1, none⟩ (.int .i64 ((rd_T130 (rd_L9 l1 x25_1) x31_2).f1))).setCell ⟨gb278, 2, none⟩ (.int .i64 ((rd_T130 (rd_L9 l1 x25_1) x31_2).f2)))) := ⟨by repeat (first | (with_reducible first | exact HB.out | apply below_alloc | apply pw_below_drewN | apply below_drew1 | refine below_set ?_ GE278.out) | exact HB.out)⟩
             (try clear HO_5)
             (try clear BK278)
             (try clear HB)
             generalize (((w42.setCell ⟨gb278, 0, none⟩ (.int .i64 ((rd_T130 (rd_L9 l1 x25_1) x31_2).f0))).setCell ⟨gb278, 1, none⟩ (.int .i64 ((rd_T130 (rd_L9 l1 x25_1) x31_2).f1))).setCell ⟨gb278, 2, none⟩ (.int .i64 ((rd_T130 (rd_L9 l1 x25_1) x31_2).f2))) = w44 at n0_ n1_ n2_ ⊢
             have HO_5 := n0_
             have BK278 := n1_
             have HB := n2_
             clear n0_ n1_ n2_
             have n0_ := Aside0.mk (Kd.R_drew HO_5.out)
             have n1_ := Aside0.mk (blk_drew BK278.out)
             have n2_ := Aside0.mk (below_drew1 HB.out)
             clear HO_5
             clear BK278
             clear HB
             have HO_5 := n0_
             have BK278 := n1_
             have HB := n2_
             clear n0_ n1_ n2_
             have p280 : 0 ≤ ((ji31) : Int) := oD
             have q280 : (ji31) < ((rd_L9 l1 x25_1).length : Int) := oD
             obtain ⟨ad280, e280, hx280_0, hx280_1, hx280_2⟩ := at_T130 HR276_0.out (ji31) p280 q280
             have hw280_2 := hx280_2
             have hw280_1 := hx280_1
             have hw280_0 := hx280_0
             obtain rfl : ad277 = ad280 := (by injection e280)
             replace hx280_0 := (cB HB.out hx280_0 :)
             replace hx280_1 := (cB HB.out hx280_1 :)
             replace hx280_2 := (cB HB.out hx280_2 :)
             replace p280 := eq_true p280
             replace q280 := eq_true q280
             refine start_ (n := 38) (S := fun w' => w'.cell? ⟨gb278, 0, none⟩ = some (.int .i64 ((rd_T130 (rd_L9 l1 x25_1) x31_2).f0)) ∧ w'.cell? ⟨gb278, 1, none⟩ = some (.int .i64 ((rd_T130 (rd_L9 l1 x25_1) x31_2).f1)) ∧ w'.cell? ⟨gb278, 2, none⟩ = some (.int .i64 ((rd_T130 (rd_L9 l1 x25_1) x31_2).f2)) ∧ w'.cell? (ad277.add (((ji31)).toNat * 3)) = some (.int .i64 ((rd_T130 (rd_L9 l1 x25_1) (ji31)).f0)) ∧ w'.cell? ⟨(ad277.add (((ji31)).toNat * 3)).block, (ad277.add (((ji31)).toNat * 3)).off + 1, none⟩ = some (.int .i64 ((rd_T130 (rd_L9 l1 x25_1) (ji31)).f1)) ∧ w'.cell? ⟨(ad277.add (((ji31)).toNat * 3)).block, (ad277.add (((ji31)).toNat * 3)).off + 2, none⟩ = some (.int .i64 ((rd_T130 (rd_L9 l1 x25_1) (ji31)).f2))) (ds := []) (bA 38 0) (by kernel_rfl) rfl rfl ⟨(blk_cell BK278.out 0).trans rfl, (blk_cell BK278.out 1).trans rfl, (blk_cell BK278.out 2).trans rfl, ((cB HB.out hw280_0 :)), ((cB HB.out hw280_1 :)), ((cB HB.out hw280_2 :))⟩ (fun hHeld => ?_); refine with_tabW impl_isShared.tab8 impl_isShared.bits8 (fun HT_ HW_ => ?_)
             generalize w44.drew = w45 at HO_5 BK278 HB hx280_0 hx280_1 hx280_2 hHeld ⊢
             refine pU 0 36 (bA 38 1) ?_
             refine pU 2 38 (bA 38 5) ?_
             refine pU 3 39 (bA 38 13) ?_
             refine tU 1 37 (bA 38 15) ?_
             refine one_ (i := 4) (N := some 40) (bA 38 31) rfl rfl (one_of HT_.out (by kernel_rfl)) (by decide) (fun K hK => ?_)
             refine goes_ Try.func108 (by kernel_rfl) rfl #[.int .i64 ((rd_T130 (rd_L9 l1 x25_1) x31_2).f0), .int .i64 (l0.length : Int)] (by rfl) rfl rfl aE ?_
             with_reducible refine (impl_isNumber.calls ((rd_T130 (rd_L9 l1 x25_1) x31_2).f0) (l0.length : Int) true _ A13.out).mono ?_
             rintro e w' ⟨rfl, ⟨nd, rfl⟩⟩
             refine ⟨_, rfl, ?_⟩
             refine hK.out _ _ ⟨(blk_cell BK278.out 0).trans rfl, (blk_cell BK278.out 1).trans rfl, (blk_cell BK278.out 2).trans rfl, ((cB HB.out hw280_0 :)), ((cB HB.out hw280_1 :)), ((cB HB.out hw280_2 :))⟩ (fun hHeld => ?_)
             clear hK K
             refine norm_ (a' := ?_) ?_ ?_
             rotate_left
             ·show Act.put _ (some 40) _ = _
              simp only [Act.put, sA, sZ, sS, i64_w, i32_w]
              rfl
             refine pU 5 41 (bA 38 63) ?_
             refine pU 6 42 (bA 38 127) ?_
             refine pU 7 43 (bA 38 255) ?_
             refine tU 8 44 (bA 38 511) ?_
             refine pU 9 45 (bA 38 1023) ?_
             refine pU 10 46 (bA 38 2047) ?_
             refine pU 11 47 (bA 38 4095) ?_
             refine pU 12 48 (bA 38 8191) ?_
             refine pU 14 50 (bA 38 24575) ?_
             refine tU 13 49 (bA 38 32767) ?_
             refine tU 15 51 (bA 38 65535) ?_
             refine pU 16 52 (bA 38 131071) ?_
             refine pU 17 53 (bA 38 262143) ?_
             refine pU 18 54 (bA 38 524287) ?_
             refine pU 19 55 (bA 38 1048575) ?_
             refine tU 20 56 (bA 38 2097151) ?_
             refine pU 21 57 (bA 38 4194303) ?_
             refine pU 22 58 (bA 38 8388607) ?_
             refine pU 23 59 (bA 38 16777215) ?_
             refine pU 24 60 (bA 38 33554431) ?_
             refine pU 25 61 (bA 38 67108863) ?_
             refine pU 26 62 (bA 38 134217727) ?_
             refine pU 27 63 (bA 38 268435455) ?_
             refine pU 29 65 (bA 38 805306367) ?_
             refine pU 30 66 (bA 38 1879048191) ?_
             refine pU 31 67 (bA 38 4026531839) ?_
             refine pU 32 68 (bA 38 8321499135) ?_
             refine pU 33 69 (bA 38 16911433727) ?_
             refine tU 28 64 (bA 38 17179869183) ?_
             refine tU 34 70 (bA 38 34359738367) ?_
             refine pU 35 71 (bA 38 68719476735) ?_
             refine pU 36 72 (bA 38 137438953471) ?_
             refine pU 37 73 (bA 38 274877906943) ?_
             refine done_ (done_of HT_.out (by kernel_rfl)) ?_
             try go_wp2
             (try (rw [drewN_self w45]; generalize hq_ : World.drewN w45 _ = w45; have n0_ : Aside0 (Kd.R (Kd.int .i64) 3 w45 w.heap.size (fun _ => True) v274 x5_2) := ⟨by rw [← hq_]; exact (by (with_reducible repeat (first | apply Kd.R_alloc | apply Kd.R_drewN | apply Kd.R_drew)); exact HO_5.out)⟩; have n1_ : Aside0 (w45.heap[gb278]? = some (.cells #[.int .i64 ((rd_T130 (rd_L9 l1 x25_1) x31_2).f0), .int .i64 ((rd_T130 (rd_L9 l1 x25_1) x31_2).f1), .int .i64 ((rd_T130 (rd_L9 l1 x25_1) x31_2).f2)] 130 (0, 0))) := ⟨by rw [← hq_]; exact (by (with_reducible repeat (first | refine blk_drewN ?_ _ | refine blk_drew ?_ | refine blk_alloc ?_ _)); exact BK278.out)⟩; have n2_ : Aside0 (Below w.heap.size w w45) := ⟨by rw [← hq_]; exact bS⟩; clear HO_5 BK278 HB hq_; have HO_5 := n0_; have BK278 := n1_; have HB := n2_; clear n0_ n1_ n2_))
             have n0_ := Aside0.mk (Kd.R_drew HO_5.out)
             have n1_ := Aside0.mk (blk_drew BK278.out)
             have n2_ := Aside0.mk (below_drew1 HB.out)
             clear HO_5
             clear BK278
             clear HB
             have HO_5 := n0_
             have BK278 := n1_
             have HB := n2_
             clear n0_ n1_ n2_
             obtain ⟨Ao47, co47, eo47⟩ := Kd.R_slice HO_5.out
             (first | subst eo47 | (injection eo47 with f1_ f2_ f3_; have f4_ := f1_.symm; have f5_ := f3_.symm; clear f1_ f2_ f3_; subst f4_; subst f5_))
             have p281 : 0 ≤ (((rd_T130 (rd_L9 l1 x25_1) x31_2).f0) : Int) := oD
             have q281 : ((rd_T130 (rd_L9 l1 x25_1) x31_2).f0) < (x5_2.length : Int) := oD
             obtain ⟨ad281, e281, hx281_0⟩ := Kd.at_int (Kd.R_reads' HO_5.out).2.2 ((rd_T130 (rd_L9 l1 x25_1) x31_2).f0) p281 q281
             cases e281
             replace p281 := eq_true p281
             replace q281 := eq_true q281
             have p41 : 0 ≤ (((rd_T130 (rd_L9 l1 x25_1) x31_2).f0) : Int) := oD
             have q41 : (((rd_T130 (rd_L9 l1 x25_1) x31_2).f0) : Int) < ((x5_2.length : Int) : Int) := oD
             obtain ⟨go41, co41, eo41, gb41, gl41, cl41, HG41⟩ := Kd.R_form HO_5.out (by omega)
             (first | cases eo41 | (injection eo41 with ea_ en_ ec_; (first | subst ea_ | (injection ea_ with ea_; subst ea_)); subst ec_; clear en_))
             have GB41 := Aside0.mk gb41
             have GG41 := Aside0.mk HG41
             clear gb41 gl41 HG41
             (first | simp only [add_plain] at hx281_0 | skip)
             obtain ⟨hx41_0, hf41_0⟩ := Kd.R_celln 0 HO_5.out (((rd_T130 (rd_L9 l1 x25_1) x31_2).f0) : Int) p41 q41
             replace p41 := eq_true p41
             replace q41 := eq_true q41
             have HP48 := Kd.R_putn HO_5.out (((rd_T130 (rd_L9 l1 x25_1) x31_2).f0) : Int) (wrap64 ((rd x5_2 ((rd_T130 (rd_L9 l1 x25_1) x31_2).f0)) + (wrap64 (((rd_T130 (rd_L9 l1 x25_1) x31_2).f2) - ((rd_T130 (rd_L9 l1 x25_1) x31_2).f1)))))
             rw [← Ny282.out] at HP48
             have HQ48 := Aside0.mk HP48
             clear HP48
             refine start_ (n := 13) (S := fun w' => w'.cell? ⟨gb278, 0, none⟩ = some (.int .i64 ((rd_T130 (rd_L9 l1 x25_1) x31_2).f0)) ∧ w'.cell? ⟨gb278, 1, none⟩ = some (.int .i64 ((rd_T130 (rd_L9 l1 x25_1) x31_2).f1)) ∧ w'.cell? ⟨gb278, 2, none⟩ = some (.int .i64 ((rd_T130 (rd_L9 l1 x25_1) x31_2).f2)) ∧ w'.cell? ⟨go41, (((rd_T130 (rd_L9 l1 x25_1) x31_2).f0)).toNat, none⟩ = some (.int .i64 (rd x5_2 ((rd_T130 (rd_L9 l1 x25_1) x31_2).f0)))) (ds := [12]) (bA 13 0) (by kernel_rfl) rfl rfl ⟨(blk_cell BK278.out 0).trans rfl, (blk_cell BK278.out 1).trans rfl, (blk_cell BK278.out 2).trans rfl, hx281_0⟩ (fun hHeld => ?_); refine with_tabW impl_isShared.tab10 impl_isShared.bits10 (fun HT_ HW_ => ?_)
             generalize w45.drew = w46 at HO_5 BK278 HB GG41 HQ48 hf41_0 hx281_0 hx41_0 hHeld ⊢
             refine pU 0 74 (bA 13 1) ?_
             refine pU 1 75 (bA 13 3) ?_
             refine pU 5 79 (bA 13 35) ?_
             refine pU 7 81 (bA 13 163) ?_
             refine tU 2 76 (bA 13 167) ?_
             refine pU 3 77 (bA 13 175) ?_
             refine tU 4 78 (bA 13 191) ?_
             refine tU 6 80 (bA 13 255) ?_
             refine tU 8 82 (bA 13 511) ?_
             refine pU 9 83 (bA 13 1023) ?_
             refine pU 10 84 (bA 13 2047) ?_
             refine pU 11 85 (bA 13 4095) ?_
             refine last_ (i := 12) (N := none) (bA 13 8191) rfl rfl (one_of HT_.out (by kernel_rfl)) (by decide) (fun K hK => ?_)
             refine skip_ (w1 := ?_) (by rfl) rfl ?_ ?_
             rotate_left
             ·go_simp
              rfl
             refine hK.out _ _ ?_
             clear hK K
             refine done_ (done_of HT_.out (by kernel_rfl)) ?_
             try go_wp2
             go_roundg k2
             case measure => have := HK1.out; have := HK2.out; omega
             case rel => exact ⟨(y282), (wrap64 (x31_2 + 1)), sD, H', ⟨by have := HK1.out; have := HK2.out; omega⟩, ⟨by (with_reducible repeat (first | apply Kd.R_alloc | apply Kd.R_drewN | apply Kd.R_drew)); exact HQ48.out⟩, ⟨by repeat (first | (with_reducible first | exact HB.out | apply below_alloc | apply pw_below_drewN | apply below_drew1 | refine below_set ?_ GB41.out | refine below_set ?_ GE278.out) | exact HB.out)⟩⟩
           ·rw [if_neg c30] at H
            have c30b0 : decide (0 < x31_2) = false := decide_eq_false c30
            clear c30
            by_cases c49 : 0 ≤ ((rd_T130 (rd_L9 l1 x25_1) x31_2).f0); rotate_left
            ·rw [if_neg c49] at H; exact absurd H (by simp)
            rw [if_pos c49] at H
            have c49b0 : decide (0 ≤ ((rd_T130 (rd_L9 l1 x25_1) x31_2).f0)) = true := decide_eq_true c49
            clear c49
            by_cases c50 : ((rd_T130 (rd_L9 l1 x25_1) x31_2).f0) < (x5_2.length : Int); rotate_left
            ·rw [if_neg c50] at H; exact absurd H (by simp)
            rw [if_pos c50] at H
            have c50b0 : decide (((rd_T130 (rd_L9 l1 x25_1) x31_2).f0) < (x5_2.length : Int)) = true := decide_eq_true c50
            clear c50
            obtain ⟨y284, hy284⟩ : ∃ y_ : List Int, y_ = (x5_2.set (((rd_T130 (rd_L9 l1 x25_1) x31_2).f0) : Int).toNat (wrap64 ((rd x5_2 ((rd_T130 (rd_L9 l1 x25_1) x31_2).f0)) + (wrap64 (((rd_T130 (rd_L9 l1 x25_1) x31_2).f2) - ((rd_T130 (rd_L9 l1 x25_1) x31_2).f1)))))) := ⟨_, rfl⟩
            replace H : (impl_isShared.l1 k2 l0 l1 y284 (rd_L9 l1 x25_1) l1 (l1.length : Int) x25_1 (rd_L9 l1 x25_1) ((rd_L9 l1 x25_1).length : Int) (wrap64 (x31_2 + 1))) = some r := by first | (rw [hy284]; with_reducible exact H) | (have H2_ := (Option.bind_some _ _).symm.trans H; rw [hy284]; with_reducible exact H2_) | (have H2_ := (Option.bind_some _ _).symm.trans H; with_reducible exact H2_) | with_reducible exact H | (rw [hy284]; exact H) | exact H
            have Ny284 := Aside0.mk hy284
            clear hy284
            have H' := Aside0.mk H
            clear H
            have p277 : 0 ≤ (x31_2 : Int) := oD
            have q277 : x31_2 < ((rd_L9 l1 x25_1).length : Int) := oD
            obtain ⟨ad277, e277, hx277_0, hx277_1, hx277_2⟩ := at_T130 HR276_0.out x31_2 p277 q277
            cases e277
            replace hx277_0 := (cB HB.out hx277_0 :)
            replace hx277_1 := (cB HB.out hx277_1 :)
            replace hx277_2 := (cB HB.out hx277_2 :)
            replace p277 := eq_true p277
            replace q277 := eq_true q277
            try go_wp2_with (first | ((with_reducible refine gate_dst (N := 9) rfl ?_); refine bE 9 #[.int .i64 0, .int .i64 0, .int .i64 0] 130 ?_; intro gb278 hg w52 hbox hb; have n0_ := Aside0.mk (Kd.R_below (by (with_reducible repeat (first | apply Kd.R_alloc | apply Kd.R_drewN | apply Kd.R_drew)); exact HO_5.out) hb); have n1_ := Aside0.mk (below_step bB hb); have n2_ := Aside0.mk (hbox); have n3_ := Aside0.mk ((by rw [hg]; exact (below_size bB) : w.heap.size ≤ gb278)); have n4_ := Aside0.mk ((by rw [hg]; exact (below_size bB) : w.heap.size ≤ gb278)); clear HO_5; clear HB; have HO_5 := n0_; have HB := n1_; have BK278 := n2_; have GW278 := n3_; have GE278 := n4_; clear n0_ n1_ n2_ n3_ n4_; clear hb hbox hg; have hcz53_0 : w52.cell? ⟨gb278, 0, none⟩ = some (.int .i64 0) := (blk_cell BK278.out 0).trans rfl; have hcz53_1 : w52.cell? ⟨gb278, 1, none⟩ = some (.int .i64 0) := (blk_cell BK278.out 1).trans rfl; have hcz53_2 : w52.cell? ⟨gb278, 2, none⟩ = some (.int .i64 0) := (blk_cell BK278.out 2).trans rfl; have hfz53_0 := blk_frozen BK278.out 0; have hfz53_1 := blk_frozen BK278.out 1; have hfz53_2 := blk_frozen BK278.out 2))
            have n0_ : Aside0 (Kd.R (Kd.int .i64) 3 (((w52.setCell ⟨gb278, 0, none⟩ (.int .i64 ((rd_T130 (rd_L9 l1 x25_1) x31_2).f0))).setCell ⟨gb278, 1, none⟩ (.int .i64 ((rd_T130 (rd_L9 l1 x25_1) x31_2).f1))).setCell ⟨gb278, 2, none⟩ (.int .i64 ((rd_T130 (rd_L9 l1 x25_1) x31_2).f2))) w.heap.size (fun _ => True) v274 x5_2) := ⟨by exact Kd.R_mono (Kd.R_far (p := ⟨gb278, 2, none⟩) (Kd.R_far (p := ⟨gb278, 1, none⟩) (Kd.R_far (p := ⟨gb278, 0, none⟩) (Kd.R_types HO_5.out BK278.out (by decide)) (fun _ hk => hk.2) (.int .i64 ((rd_T130 (rd_L9 l1 x25_1) x31_2).f0))) (fun _ hk => hk.2) (.int .i64 ((rd_T130 (rd_L9 l1 x25_1) x31_2).f1))) (fun _ hk => hk.2) (.int .i64 ((rd_T130 (rd_L9 l1 x25_1) x31_2).f2))) (fun _ hk => trivial)⟩
            have n1_ : Aside0 ((((w52.setCell ⟨gb278, 0, none⟩ (.int .i64 ((rd_T130 (rd_L9 l1 x25_1) x31_2).f0))).setCell ⟨gb278, 1, none⟩ (.int .i64 ((rd_T130 (rd_L9 l1 x25_1) x31_2).f1))).setCell ⟨gb278, 2, none⟩ (.int .i64 ((rd_T130 (rd_L9 l1 x25_1) x31_2).f2))).heap[gb278]? = some (.cells #[.int .i64 ((rd_T130 (rd_L9 l1 x25_1) x31_2).f0), .int .i64 ((rd_T130 (rd_L9 l1 x25_1) x31_2).f1), .int .i64 ((rd_T130 (rd_L9 l1 x25_1) x31_2).f2)] 130 (0, 0))) := ⟨by refine blk_put (cs := #[.int .i64 ((rd_T130 (rd_L9 l1 x25_1) x31_2).f0), .int .i64 ((rd_T130 (rd_L9 l1 x25_1) x31_2).f1), .int .i64 0]) ?_ 2 _ rfl; refine blk_put (cs := #[.int .i64 ((rd_T130 (rd_L9 l1 x25_1) x31_2).f0), .int .i64 0, .int .i64 0]) ?_ 1 _ rfl; refine blk_put (cs := #[.int .i64 0, .int .i64 0, .int .i64 0]) ?_ 0 _ rfl; exact BK278.out⟩
            have n2_ : Aside0 (Below w.heap.size w (((w52.setCell ⟨gb278, 0, none⟩ (.int .i64 ((rd_T130 (rd_L9 l1 x25_1) x31_2).f0))).setCell ⟨gb278, 1, none⟩ (.int .i64 ((rd_T130 (rd_L9 l1 x25_1) x31_2).f1))).setCell ⟨gb278, 2, none⟩ (.int .i64 ((rd_T130 (rd_L9 l1 x25_1) x31_2).f2)))) := ⟨by repeat (first | (with_reducible first | exact HB.out | apply below_alloc | apply pw_below_drewN | apply below_drew1 | refine below_set ?_ GE278.out) | exact HB.out)⟩
            (try clear HO_5)
            (try clear BK278)
            (try clear HB)
            generalize (((w52.setCell ⟨gb278, 0, none⟩ (.int .i64 ((rd_T130 (rd_L9 l1 x25_1) x31_2).f0))).setCell ⟨gb278, 1, none⟩ (.int .i64 ((rd_T130 (rd_L9 l1 x25_1) x31_2).f1))).setCell ⟨gb278, 2, none⟩ (.int .i64 ((rd_T130 (rd_L9 l1 x25_1) x31_2).f2))) = w54 at n0_ n1_ n2_ ⊢
            have HO_5 := n0_
            have BK278 := n1_
            have HB := n2_
            clear n0_ n1_ n2_
            have n0_ := Aside0.mk (Kd.R_drew HO_5.out)
            have n1_ := Aside0.mk (blk_drew BK278.out)
            have n2_ := Aside0.mk (below_drew1 HB.out)
            clear HO_5
            clear BK278
            clear HB
            have HO_5 := n0_
            have BK278 := n1_
            have HB := n2_
            clear n0_ n1_ n2_
            refine start_ (n := 38) (S := fun w' => w'.cell? ⟨gb278, 0, none⟩ = some (.int .i64 ((rd_T130 (rd_L9 l1 x25_1) x31_2).f0)) ∧ w'.cell? ⟨gb278, 1, none⟩ = some (.int .i64 ((rd_T130 (rd_L9 l1 x25_1) x31_2).f1)) ∧ w'.cell? ⟨gb278, 2, none⟩ = some (.int .i64 ((rd_T130 (rd_L9 l1 x25_1) x31_2).f2))) (ds := []) (bA 38 0) (by kernel_rfl) rfl rfl ⟨(blk_cell BK278.out 0).trans rfl, (blk_cell BK278.out 1).trans rfl, (blk_cell BK278.out 2).trans rfl⟩ (fun hHeld => ?_); refine with_tabW impl_isShared.tab8 impl_isShared.bits8 (fun HT_ HW_ => ?_)
            generalize w54.drew = w55 at HO_5 BK278 HB hHeld ⊢
            refine pU 0 36 (bA 38 1) ?_
            refine pU 2 38 (bA 38 5) ?_
            refine pU 3 39 (bA 38 13) ?_
            refine tU 1 37 (bA 38 15) ?_
            refine one_ (i := 4) (N := some 40) (bA 38 31) rfl rfl (one_of HT_.out (by kernel_rfl)) (by decide) (fun K hK => ?_)
            refine goes_ Try.func108 (by kernel_rfl) rfl #[.int .i64 ((rd_T130 (rd_L9 l1 x25_1) x31_2).f0), .int .i64 (l0.length : Int)] (by rfl) rfl rfl aE ?_
            with_reducible refine (impl_isNumber.calls ((rd_T130 (rd_L9 l1 x25_1) x31_2).f0) (l0.length : Int) true _ A13.out).mono ?_
            rintro e w' ⟨rfl, ⟨nd, rfl⟩⟩
            refine ⟨_, rfl, ?_⟩
            refine hK.out _ _ ⟨(blk_cell BK278.out 0).trans rfl, (blk_cell BK278.out 1).trans rfl, (blk_cell BK278.out 2).trans rfl⟩ (fun hHeld => ?_)
            clear hK K
            refine norm_ (a' := ?_) ?_ ?_
            rotate_left
            ·show Act.put _ (some 40) _ = _
             simp only [Act.put, sA, sZ, sS, i64_w, i32_w]
             rfl
            refine pU 5 41 (bA 38 63) ?_
            refine pU 6 42 (bA 38 127) ?_
            refine pU 7 43 (bA 38 255) ?_
            refine tU 8 44 (bA 38 511) ?_
            refine pU 9 45 (bA 38 1023) ?_
            refine pU 10 46 (bA 38 2047) ?_
            refine pU 11 47 (bA 38 4095) ?_
            refine pU 12 48 (bA 38 8191) ?_
            refine pU 14 50 (bA 38 24575) ?_
            refine tU 13 49 (bA 38 32767) ?_
            refine tU 15 51 (bA 38 65535) ?_
            refine pU 16 52 (bA 38 131071) ?_
            refine pU 17 53 (bA 38 262143) ?_
            refine pU 18 54 (bA 38 524287) ?_
            refine pU 19 55 (bA 38 1048575) ?_
            refine tU 20 56 (bA 38 2097151) ?_
            refine pU 21 57 (bA 38 4194303) ?_
            refine pU 22 58 (bA 38 8388607) ?_
            refine pU 23 59 (bA 38 16777215) ?_
            refine pU 24 60 (bA 38 33554431) ?_
            refine pU 25 61 (bA 38 67108863) ?_
            refine pU 26 62 (bA 38 134217727) ?_
            refine nU 27 63 (bA 38 268435455) ?_
            refine nU 28 64 (bA 38 536870911) ?_
            refine nU 29 65 (bA 38 1073741823) ?_
            refine nU 30 66 (bA 38 2147483647) ?_
            refine nU 31 67 (bA 38 4294967295) ?_
            refine nU 32 68 (bA 38 8589934591) ?_
            refine nU 33 69 (bA 38 17179869183) ?_
            refine nU 34 70 (bA 38 34359738367) ?_
            refine nU 35 71 (bA 38 68719476735) ?_
            refine pU 36 72 (bA 38 137438953471) ?_
            refine pU 37 73 (bA 38 274877906943) ?_
            refine done_ (done_of HT_.out (by kernel_rfl)) ?_
            try go_wp2
            (try (rw [drewN_self w55]; generalize hq_ : World.drewN w55 _ = w55; have n0_ : Aside0 (Kd.R (Kd.int .i64) 3 w55 w.heap.size (fun _ => True) v274 x5_2) := ⟨by rw [← hq_]; exact (by (with_reducible repeat (first | apply Kd.R_alloc | apply Kd.R_drewN | apply Kd.R_drew)); exact HO_5.out)⟩; have n1_ : Aside0 (w55.heap[gb278]? = some (.cells #[.int .i64 ((rd_T130 (rd_L9 l1 x25_1) x31_2).f0), .int .i64 ((rd_T130 (rd_L9 l1 x25_1) x31_2).f1), .int .i64 ((rd_T130 (rd_L9 l1 x25_1) x31_2).f2)] 130 (0, 0))) := ⟨by rw [← hq_]; exact (by (with_reducible repeat (first | refine blk_drewN ?_ _ | refine blk_drew ?_ | refine blk_alloc ?_ _)); exact BK278.out)⟩; have n2_ : Aside0 (Below w.heap.size w w55) := ⟨by rw [← hq_]; exact bS⟩; clear HO_5 BK278 HB hq_; have HO_5 := n0_; have BK278 := n1_; have HB := n2_; clear n0_ n1_ n2_))
            have n0_ := Aside0.mk (Kd.R_drew HO_5.out)
            have n1_ := Aside0.mk (blk_drew BK278.out)
            have n2_ := Aside0.mk (below_drew1 HB.out)
            clear HO_5
            clear BK278
            clear HB
            have HO_5 := n0_
            have BK278 := n1_
            have HB := n2_
            clear n0_ n1_ n2_
            obtain ⟨Ao57, co57, eo57⟩ := Kd.R_slice HO_5.out
            (first | subst eo57 | (injection eo57 with f1_ f2_ f3_; have f4_ := f1_.symm; have f5_ := f3_.symm; clear f1_ f2_ f3_; subst f4_; subst f5_))
            have p283 : 0 ≤ (((rd_T130 (rd_L9 l1 x25_1) x31_2).f0) : Int) := oD
            have q283 : ((rd_T130 (rd_L9 l1 x25_1) x31_2).f0) < (x5_2.length : Int) := oD
            obtain ⟨ad283, e283, hx283_0⟩ := Kd.at_int (Kd.R_reads' HO_5.out).2.2 ((rd_T130 (rd_L9 l1 x25_1) x31_2).f0) p283 q283
            cases e283
            replace p283 := eq_true p283
            replace q283 := eq_true q283
            have p51 : 0 ≤ (((rd_T130 (rd_L9 l1 x25_1) x31_2).f0) : Int) := oD
            have q51 : (((rd_T130 (rd_L9 l1 x25_1) x31_2).f0) : Int) < ((x5_2.length : Int) : Int) := oD
            obtain ⟨go51, co51, eo51, gb51, gl51, cl51, HG51⟩ := Kd.R_form HO_5.out (by omega)
            (first | cases eo51 | (injection eo51 with ea_ en_ ec_; (first | subst ea_ | (injection ea_ with ea_; subst ea_)); subst ec_; clear en_))
            have GB51 := Aside0.mk gb51
            have GG51 := Aside0.mk HG51
            clear gb51 gl51 HG51
            (first | simp only [add_plain] at hx283_0 | skip)
            obtain ⟨hx51_0, hf51_0⟩ := Kd.R_celln 0 HO_5.out (((rd_T130 (rd_L9 l1 x25_1) x31_2).f0) : Int) p51 q51
            replace p51 := eq_true p51
            replace q51 := eq_true q51
            have HP58 := Kd.R_putn HO_5.out (((rd_T130 (rd_L9 l1 x25_1) x31_2).f0) : Int) (wrap64 ((rd x5_2 ((rd_T130 (rd_L9 l1 x25_1) x31_2).f0)) + (wrap64 (((rd_T130 (rd_L9 l1 x25_1) x31_2).f2) - ((rd_T130 (rd_L9 l1 x25_1) x31_2).f1)))))
            rw [← Ny284.out] at HP58
            have HQ58 := Aside0.mk HP58
            clear HP58
            refine start_ (n := 13) (S := fun w' => w'.cell? ⟨gb278, 0, none⟩ = some (.int .i64 ((rd_T130 (rd_L9 l1 x25_1) x31_2).f0)) ∧ w'.cell? ⟨gb278, 1, none⟩ = some (.int .i64 ((rd_T130 (rd_L9 l1 x25_1) x31_2).f1)) ∧ w'.cell? ⟨gb278, 2, none⟩ = some (.int .i64 ((rd_T130 (rd_L9 l1 x25_1) x31_2).f2)) ∧ w'.cell? ⟨go51, (((rd_T130 (rd_L9 l1 x25_1) x31_2).f0)).toNat, none⟩ = some (.int .i64 (rd x5_2 ((rd_T130 (rd_L9 l1 x25_1) x31_2).f0)))) (ds := [12]) (bA 13 0) (by kernel_rfl) rfl rfl ⟨(blk_cell BK278.out 0).trans rfl, (blk_cell BK278.out 1).trans rfl, (blk_cell BK278.out 2).trans rfl, hx283_0⟩ (fun hHeld => ?_); refine with_tabW impl_isShared.tab10 impl_isShared.bits10 (fun HT_ HW_ => ?_)
            generalize w55.drew = w56 at HO_5 BK278 HB GG51 HQ58 hf51_0 hx283_0 hx51_0 hHeld ⊢
            refine pU 0 74 (bA 13 1) ?_
            refine pU 1 75 (bA 13 3) ?_
            refine pU 5 79 (bA 13 35) ?_
            refine pU 7 81 (bA 13 163) ?_
            refine tU 2 76 (bA 13 167) ?_
            refine pU 3 77 (bA 13 175) ?_
            refine tU 4 78 (bA 13 191) ?_
            refine tU 6 80 (bA 13 255) ?_
            refine tU 8 82 (bA 13 511) ?_
            refine pU 9 83 (bA 13 1023) ?_
            refine pU 10 84 (bA 13 2047) ?_
            refine pU 11 85 (bA 13 4095) ?_
            refine last_ (i := 12) (N := none) (bA 13 8191) rfl rfl (one_of HT_.out (by kernel_rfl)) (by decide) (fun K hK => ?_)
            refine skip_ (w1 := ?_) (by rfl) rfl ?_ ?_
            rotate_left
            ·go_simp
             rfl
            refine hK.out _ _ ?_
            clear hK K
            refine done_ (done_of HT_.out (by kernel_rfl)) ?_
            try go_wp2
            go_roundg k2
            case measure => have := HK1.out; have := HK2.out; omega
            case rel => exact ⟨(y284), (wrap64 (x31_2 + 1)), sD, H', ⟨by have := HK1.out; have := HK2.out; omega⟩, ⟨by (with_reducible repeat (first | apply Kd.R_alloc | apply Kd.R_drewN | apply Kd.R_drew)); exact HQ58.out⟩, ⟨by repeat (first | (with_reducible first | exact HB.out | apply below_alloc | apply pw_below_drewN | apply below_drew1 | refine below_set ?_ GB51.out | refine below_set ?_ GE278.out) | exact HB.out)⟩⟩
       ·replace c14 := Bool.eq_false_iff.mpr c14
        subst c14
        have H1 : (some false) = some r := by rw [if_neg (show ¬ (false = true) by decide)] at H; exact H
        clear H
        have H := H1
        clear H1
        obtain rfl := Option.some.inj H
        have p277 : 0 ≤ (x31_2 : Int) := oD
        have q277 : x31_2 < ((rd_L9 l1 x25_1).length : Int) := oD
        obtain ⟨ad277, e277, hx277_0, hx277_1, hx277_2⟩ := at_T130 HR276_0.out x31_2 p277 q277
        cases e277
        replace hx277_0 := (cB HB.out hx277_0 :)
        replace hx277_1 := (cB HB.out hx277_1 :)
        replace hx277_2 := (cB HB.out hx277_2 :)
        replace p277 := eq_true p277
        replace q277 := eq_true q277
        try go_wp2_with (first | ((with_reducible refine gate_dst (N := 9) rfl ?_); refine bE 9 #[.int .i64 0, .int .i64 0, .int .i64 0] 130 ?_; intro gb278 hg w59 hbox hb; have n0_ := Aside0.mk (Kd.R_below (by (with_reducible repeat (first | apply Kd.R_alloc | apply Kd.R_drewN | apply Kd.R_drew)); exact HO_5.out) hb); have n1_ := Aside0.mk (below_step bB hb); have n2_ := Aside0.mk (hbox); have n3_ := Aside0.mk ((by rw [hg]; exact (below_size bB) : w.heap.size ≤ gb278)); have n4_ := Aside0.mk ((by rw [hg]; exact (below_size bB) : w.heap.size ≤ gb278)); clear HO_5; clear HB; have HO_5 := n0_; have HB := n1_; have BK278 := n2_; have GW278 := n3_; have GE278 := n4_; clear n0_ n1_ n2_ n3_ n4_; clear hb hbox hg; have hcz60_0 : w59.cell? ⟨gb278, 0, none⟩ = some (.int .i64 0) := (blk_cell BK278.out 0).trans rfl; have hcz60_1 : w59.cell? ⟨gb278, 1, none⟩ = some (.int .i64 0) := (blk_cell BK278.out 1).trans rfl; have hcz60_2 : w59.cell? ⟨gb278, 2, none⟩ = some (.int .i64 0) := (blk_cell BK278.out 2).trans rfl; have hfz60_0 := blk_frozen BK278.out 0; have hfz60_1 := blk_frozen BK278.out 1; have hfz60_2 := blk_frozen BK278.out 2))
        have n0_ : Aside0 (Kd.R (Kd.int .i64) 3 (((w59.setCell ⟨gb278, 0, none⟩ (.int .i64 ((rd_T130 (rd_L9 l1 x25_1) x31_2).f0))).setCell ⟨gb278, 1, none⟩ (.int .i64 ((rd_T130 (rd_L9 l1 x25_1) x31_2).f1))).setCell ⟨gb278, 2, none⟩ (.int .i64 ((rd_T130 (rd_L9 l1 x25_1) x31_2).f2))) w.heap.size (fun _ => True) v274 x5_2) := ⟨by exact Kd.R_mono (Kd.R_far (p := ⟨gb278, 2, none⟩) (Kd.R_far (p := ⟨gb278, 1, none⟩) (Kd.R_far (p := ⟨gb278, 0, none⟩) (Kd.R_types HO_5.out BK278.out (by decide)) (fun _ hk => hk.2) (.int .i64 ((rd_T130 (rd_L9 l1 x25_1) x31_2).f0))) (fun _ hk => hk.2) (.int .i64 ((rd_T130 (rd_L9 l1 x25_1) x31_2).f1))) (fun _ hk => hk.2) (.int .i64 ((rd_T130 (rd_L9 l1 x25_1) x31_2).f2))) (fun _ hk => trivial)⟩
        have n1_ : Aside0 ((((w59.setCell ⟨gb278, 0, none⟩ (.int .i64 ((rd_T130 (rd_L9 l1 x25_1) x31_2).f0))).setCell ⟨gb278, 1, none⟩ (.int .i64 ((rd_T130 (rd_L9 l1 x25_1) x31_2).f1))).setCell ⟨gb278, 2, none⟩ (.int .i64 ((rd_T130 (rd_L9 l1 x25_1) x31_2).f2))).heap[gb278]? = some (.cells #[.int .i64 ((rd_T130 (rd_L9 l1 x25_1) x31_2).f0), .int .i64 ((rd_T130 (rd_L9 l1 x25_1) x31_2).f1), .int .i64 ((rd_T130 (rd_L9 l1 x25_1) x31_2).f2)] 130 (0, 0))) := ⟨by refine blk_put (cs := #[.int .i64 ((rd_T130 (rd_L9 l1 x25_1) x31_2).f0), .int .i64 ((rd_T130 (rd_L9 l1 x25_1) x31_2).f1), .int .i64 0]) ?_ 2 _ rfl; refine blk_put (cs := #[.int .i64 ((rd_T130 (rd_L9 l1 x25_1) x31_2).f0), .int .i64 0, .int .i64 0]) ?_ 1 _ rfl; refine blk_put (cs := #[.int .i64 0, .int .i64 0, .int .i64 0]) ?_ 0 _ rfl; exact BK278.out⟩
        have n2_ : Aside0 (Below w.heap.size w (((w59.setCell ⟨gb278, 0, none⟩ (.int .i64 ((rd_T130 (rd_L9 l1 x25_1) x31_2).f0))).setCell ⟨gb278, 1, none⟩ (.int .i64 ((rd_T130 (rd_L9 l1 x25_1) x31_2).f1))).setCell ⟨gb278, 2, none⟩ (.int .i64 ((rd_T130 (rd_L9 l1 x25_1) x31_2).f2)))) := ⟨by repeat (first | (with_reducible first | exact HB.out | apply below_alloc | apply pw_below_drewN | apply below_drew1 | refine below_set ?_ GE278.out) | exact HB.out)⟩
        (try clear HO_5)
        (try clear BK278)
        (try clear HB)
        generalize (((w59.setCell ⟨gb278, 0, none⟩ (.int .i64 ((rd_T130 (rd_L9 l1 x25_1) x31_2).f0))).setCell ⟨gb278, 1, none⟩ (.int .i64 ((rd_T130 (rd_L9 l1 x25_1) x31_2).f1))).setCell ⟨gb278, 2, none⟩ (.int .i64 ((rd_T130 (rd_L9 l1 x25_1) x31_2).f2))) = w61 at n0_ n1_ n2_ ⊢
        have HO_5 := n0_
        have BK278 := n1_
        have HB := n2_
        clear n0_ n1_ n2_
        have n0_ := Aside0.mk (Kd.R_drew HO_5.out)
        have n1_ := Aside0.mk (blk_drew BK278.out)
        have n2_ := Aside0.mk (below_drew1 HB.out)
        clear HO_5
        clear BK278
        clear HB
        have HO_5 := n0_
        have BK278 := n1_
        have HB := n2_
        clear n0_ n1_ n2_
        refine start_ (n := 38) (S := fun w' => w'.cell? ⟨gb278, 0, none⟩ = some (.int .i64 ((rd_T130 (rd_L9 l1 x25_1) x31_2).f0)) ∧ w'.cell? ⟨gb278, 1, none⟩ = some (.int .i64 ((rd_T130 (rd_L9 l1 x25_1) x31_2).f1)) ∧ w'.cell? ⟨gb278, 2, none⟩ = some (.int .i64 ((rd_T130 (rd_L9 l1 x25_1) x31_2).f2))) (ds := []) (bA 38 0) (by kernel_rfl) rfl rfl ⟨(blk_cell BK278.out 0).trans rfl, (blk_cell BK278.out 1).trans rfl, (blk_cell BK278.out 2).trans rfl⟩ (fun hHeld => ?_); refine with_tabW impl_isShared.tab8 impl_isShared.bits8 (fun HT_ HW_ => ?_)
        generalize w61.drew = w62 at HO_5 BK278 HB hHeld ⊢
        refine pU 0 36 (bA 38 1) ?_
        refine pU 2 38 (bA 38 5) ?_
        refine pU 3 39 (bA 38 13) ?_
        refine tU 1 37 (bA 38 15) ?_
        refine one_ (i := 4) (N := some 40) (bA 38 31) rfl rfl (one_of HT_.out (by kernel_rfl)) (by decide) (fun K hK => ?_)
        refine goes_ Try.func108 (by kernel_rfl) rfl #[.int .i64 ((rd_T130 (rd_L9 l1 x25_1) x31_2).f0), .int .i64 (l0.length : Int)] (by rfl) rfl rfl aE ?_
        with_reducible refine (impl_isNumber.calls ((rd_T130 (rd_L9 l1 x25_1) x31_2).f0) (l0.length : Int) false _ A13.out).mono ?_
        rintro e w' ⟨rfl, ⟨nd, rfl⟩⟩
        refine ⟨_, rfl, ?_⟩
        refine hK.out _ _ ⟨(blk_cell BK278.out 0).trans rfl, (blk_cell BK278.out 1).trans rfl, (blk_cell BK278.out 2).trans rfl⟩ (fun hHeld => ?_)
        clear hK K
        refine norm_ (a' := ?_) ?_ ?_
        rotate_left
        ·show Act.put _ (some 40) _ = _
         simp only [Act.put, sA, sZ, sS, i64_w, i32_w]
         rfl
        refine pU 5 41 (bA 38 63) ?_
        refine pU 6 42 (bA 38 127) ?_
        refine nU 7 43 (bA 38 255) ?_
        refine nU 8 44 (bA 38 511) ?_
        refine nU 9 45 (bA 38 1023) ?_
        refine pU 10 46 (bA 38 2047) ?_
        refine pU 11 47 (bA 38 4095) ?_
        refine nU 12 48 (bA 38 8191) ?_
        refine nU 13 49 (bA 38 16383) ?_
        refine nU 14 50 (bA 38 32767) ?_
        refine nU 15 51 (bA 38 65535) ?_
        refine nU 16 52 (bA 38 131071) ?_
        refine pU 17 53 (bA 38 262143) ?_
        refine pU 18 54 (bA 38 524287) ?_
        refine nU 19 55 (bA 38 1048575) ?_
        refine nU 20 56 (bA 38 2097151) ?_
        refine nU 21 57 (bA 38 4194303) ?_
        refine pU 22 58 (bA 38 8388607) ?_
        refine pU 23 59 (bA 38 16777215) ?_
        refine nU 24 60 (bA 38 33554431) ?_
        refine nU 25 61 (bA 38 67108863) ?_
        refine nU 26 62 (bA 38 134217727) ?_
        refine nU 27 63 (bA 38 268435455) ?_
        refine nU 28 64 (bA 38 536870911) ?_
        refine nU 29 65 (bA 38 1073741823) ?_
        refine nU 30 66 (bA 38 2147483647) ?_
        refine nU 31 67 (bA 38 4294967295) ?_
        refine nU 32 68 (bA 38 8589934591) ?_
        refine nU 33 69 (bA 38 17179869183) ?_
        refine nU 34 70 (bA 38 34359738367) ?_
        refine nU 35 71 (bA 38 68719476735) ?_
        refine nU 36 72 (bA 38 137438953471) ?_
        refine pU 37 73 (bA 38 274877906943) ?_
        refine done_ (done_of HT_.out (by kernel_rfl)) ?_
        try go_wp2
        go_ret
        exact ⟨rE, bS⟩
      ·rw [if_neg c10] at H
       have c10b0 : decide (x31_2 < ((rd_L9 l1 x25_1).length : Int)) = false := decide_eq_false c10
       clear c10
       have H' := Aside0.mk H
       clear H
       go_wp2
       go_roundg k2
       case measure => have := HK1.out; have := HK2.out; omega
       case rel => exact ⟨(x5_2), (wrap64 (x25_1 + 1)), sD, H', ⟨by have := HK1.out; have := HK2.out; omega⟩, ⟨kR⟩, ⟨by repeat (first | (with_reducible first | exact HB.out | apply below_alloc | apply pw_below_drewN | apply below_drew1) | exact HB.out)⟩⟩
   ·rw [if_neg c7] at H
    have c7b0 : decide (x25_1 < (l1.length : Int)) = false := decide_eq_false c7
    clear c7
    have H' := Aside0.mk H
    clear H
    go_wp2
    go_loopg [90] k1 (fun kq v90 w' => ∃ (x90_2 : Int), v90 = .int .i64 x90_2 ∧ Aside0 (impl_isShared.l2 kq l1 x5_1 l0 (l0.length : Int) x90_2 = some r) ∧ Aside0 (kq ≤ k1) ∧ Aside0 (Kd.R (Kd.int .i64) 3 w' w.heap.size (fun _ => True) v274 x5_1) ∧ Aside0 (Below w.heap.size w w'))
    case atStart => exact ⟨(0), sD, H', ⟨Nat.le_refl _⟩, ⟨kR⟩, ⟨by repeat (first | (with_reducible first | exact HB.out | apply below_alloc | apply pw_below_drewN | apply below_drew1) | exact HB.out)⟩⟩
    case round =>
     clear H'
     try clear c1
     try clear p2
     try clear q2
     try clear hx2
     try clear c4
     try clear c5
     try clear p5
     try clear q5
     try clear hx5
     try clear hf5
     try clear p6
     try clear c7
     try clear c7b0
     try clear c8
     try clear c9
     try clear c10
     try clear c10b0
     try clear c11
     try clear c12
     try clear c14
     try clear p27
     try clear q27
     try clear hx27
     try clear p28
     try clear q28
     try clear hx28
     try clear c49
     try clear c50
     try clear p51
     try clear q51
     try clear hx51
     try clear hf51
     try clear hcz60_0
     try clear hcz60_1
     try clear hcz60_2
     try clear hfz60_0
     try clear hfz60_1
     try clear hfz60_2
     try clear hx277_0
     try clear hx277_1
     try clear hx277_2
     try clear hx283_0
     try clear hx51_0
     try clear p277
     try clear p283
     try clear p51
     try clear q277
     try clear q283
     try clear q51
     obtain ⟨x90_2, rfl, HA, HK2, HO_5, HB⟩ := hrel
     cases gk with
     | zero => exact absurd HA.out (by simp [impl_isShared.l2])
     | succ k2 =>
      have H := HA.out
      clear HA
      simp only [impl_isShared.l2] at H
      by_cases c63 : x90_2 < (l0.length : Int)
      ·rw [if_pos c63] at H
       have c63b0 : decide (x90_2 < (l0.length : Int)) = true := decide_eq_true c63
       clear c63
       by_cases c64 : 0 ≤ x90_2; rotate_left
       ·rw [if_neg c64] at H; exact absurd H (by simp)
       rw [if_pos c64] at H
       have c64b0 : decide (0 ≤ x90_2) = true := decide_eq_true c64
       clear c64
       by_cases c65 : x90_2 < (l0.length : Int); rotate_left
       ·rw [if_neg c65] at H; exact absurd H (by simp)
       rw [if_pos c65] at H
       have c65b0 : decide (x90_2 < (l0.length : Int)) = true := decide_eq_true c65
       clear c65
       by_cases c66 : x90_2 < (x5_1.length : Int); rotate_left
       ·rw [if_neg c66] at H; exact absurd H (by simp)
       rw [if_pos c66] at H
       have c66b0 : decide (x90_2 < (x5_1.length : Int)) = true := decide_eq_true c66
       clear c66
       by_cases c67 : (rd x5_1 x90_2) = ((rd_T79 l0 x90_2).f0)
       ·rw [if_pos c67] at H
        have c67b0 : ((rd x5_1 x90_2) == ((rd_T79 l0 x90_2).f0)) = true := beq_iff_eq.mpr c67
        have c67b1 : ((rd x5_1 x90_2) != ((rd_T79 l0 x90_2).f0)) = false := bne_eq_false_iff_eq.mpr c67
        clear c67
        have H' := Aside0.mk H
        clear H
        have p285 : 0 ≤ (x90_2 : Int) := oD
        have q285 : x90_2 < (l0.length : Int) := oD
        obtain ⟨ad285, e285, hx285_0, hx285_1, hx285_2, hx285_3⟩ := at_T79 HR0.out x90_2 p285 q285
        cases e285
        replace hx285_0 := (cB HB.out hx285_0 :)
        replace hx285_1 := (cB HB.out hx285_1 :)
        replace hx285_2 := (cB HB.out hx285_2 :)
        replace hx285_3 := (cB HB.out hx285_3 :)
        replace p285 := eq_true p285
        replace q285 := eq_true q285
        try go_wp2_with (first | ((with_reducible refine gate_dst (N := 11) rfl ?_); refine bE 11 #[.int .i64 0, .int .i64 0, .int .i64 0, .int .i64 0] 79 ?_; intro gb286 hg w68 hbox hb; have n0_ := Aside0.mk (Kd.R_below (by (with_reducible repeat (first | apply Kd.R_alloc | apply Kd.R_drewN | apply Kd.R_drew)); exact HO_5.out) hb); have n1_ := Aside0.mk (below_step bB hb); have n2_ := Aside0.mk (hbox); have n3_ := Aside0.mk ((by rw [hg]; exact (below_size bB) : w.heap.size ≤ gb286)); have n4_ := Aside0.mk ((by rw [hg]; exact (below_size bB) : w.heap.size ≤ gb286)); clear HO_5; clear HB; have HO_5 := n0_; have HB := n1_; have BK286 := n2_; have GW286 := n3_; have GE286 := n4_; clear n0_ n1_ n2_ n3_ n4_; clear hb hbox hg; have hcz69_0 : w68.cell? ⟨gb286, 0, none⟩ = some (.int .i64 0) := (blk_cell BK286.out 0).trans rfl; have hcz69_1 : w68.cell? ⟨gb286, 1, none⟩ = some (.int .i64 0) := (blk_cell BK286.out 1).trans rfl; have hcz69_2 : w68.cell? ⟨gb286, 2, none⟩ = some (.int .i64 0) := (blk_cell BK286.out 2).trans rfl; have hcz69_3 : w68.cell? ⟨gb286, 3, none⟩ = some (.int .i64 0) := (blk_cell BK286.out 3).trans rfl; have hfz69_0 := blk_frozen BK286.out 0; have hfz69_1 := blk_frozen BK286.out 1; have hfz69_2 := blk_frozen BK286.out 2; have hfz69_3 := blk_frozen BK286.out 3))
        have n0_ : Aside0 (Kd.R (Kd.int .i64) 3 ((((w68.setCell ⟨gb286, 0, none⟩ (.int .i64 ((rd_T79 l0 x90_2).f0))).setCell ⟨gb286, 1, none⟩ (.int .i64 ((rd_T79 l0 x90_2).f1))).setCell ⟨gb286, 2, none⟩ (.int .i64 ((rd_T79 l0 x90_2).f2))).setCell ⟨gb286, 3, none⟩ (.int .i64 ((rd_T79 l0 x90_2).f3))) w.heap.size (fun _ => True) v274 x5_1) := ⟨by exact Kd.R_mono (Kd.R_far (p := ⟨gb286, 3, none⟩) (Kd.R_far (p := ⟨gb286, 2, none⟩) (Kd.R_far (p := ⟨gb286, 1, none⟩) (Kd.R_far (p := ⟨gb286, 0, none⟩) (Kd.R_types HO_5.out BK286.out (by decide)) (fun _ hk => hk.2) (.int .i64 ((rd_T79 l0 x90_2).f0))) (fun _ hk => hk.2) (.int .i64 ((rd_T79 l0 x90_2).f1))) (fun _ hk => hk.2) (.int .i64 ((rd_T79 l0 x90_2).f2))) (fun _ hk => hk.2) (.int .i64 ((rd_T79 l0 x90_2).f3))) (fun _ hk => trivial)⟩
        have n1_ : Aside0 (((((w68.setCell ⟨gb286, 0, none⟩ (.int .i64 ((rd_T79 l0 x90_2).f0))).setCell ⟨gb286, 1, none⟩ (.int .i64 ((rd_T79 l0 x90_2).f1))).setCell ⟨gb286, 2, none⟩ (.int .i64 ((rd_T79 l0 x90_2).f2))).setCell ⟨gb286, 3, none⟩ (.int .i64 ((rd_T79 l0 x90_2).f3))).heap[gb286]? = some (.cells #[.int .i64 ((rd_T79 l0 x90_2).f0), .int .i64 ((rd_T79 l0 x90_2).f1), .int .i64 ((rd_T79 l0 x90_2).f2), .int .i64 ((rd_T79 l0 x90_2).f3)] 79 (0, 0))) := ⟨by refine blk_put (cs := #[.int .i64 ((rd_T79 l0 x90_2).f0), .int .i64 ((rd_T79 l0 x90_2).f1), .int .i64 ((rd_T79 l0 x90_2).f2), .int .i64 0]) ?_ 3 _ rfl; refine blk_put (cs := #[.int .i64 ((rd_T79 l0 x90_2).f0), .int .i64 ((rd_T79 l0 x90_2).f1), .int .i64 0, .int .i64 0]) ?_ 2 _ rfl; refine blk_put (cs := #[.int .i64 ((rd_T79 l0 x90_2).f0), .int .i64 0, .int .i64 0, .int .i64 0]) ?_ 1 _ rfl; refine blk_put (cs := #[.int .i64 0, .int .i64 0, .int .i64 0, .int .i64 0]) ?_ 0 _ rfl; exact BK286.out⟩
        have n2_ : Aside0 (Below w.heap.size w ((((w68.setCell ⟨gb286, 0, none⟩ (.int .i64 ((rd_T79 l0 x90_2).f0))).setCell ⟨gb286, 1, none⟩ (.int .i64 ((rd_T79 l0 x90_2).f1))).setCell ⟨gb286, 2, none⟩ (.int .i64 ((rd_T79 l0 x90_2).f2))).setCell ⟨gb286, 3, none⟩ (.int .i64 ((rd_T79 l0 x90_2).f3)))) := ⟨by repeat (first | (with_reducible first | exact HB.out | apply below_alloc | apply pw_below_drewN | apply below_drew1 | refine below_set ?_ GE286.out) | exact HB.out)⟩
        (try clear HO_5)
        (try clear BK286)
        (try clear HB)
        generalize ((((w68.setCell ⟨gb286, 0, none⟩ (.int .i64 ((rd_T79 l0 x90_2).f0))).setCell ⟨gb286, 1, none⟩ (.int .i64 ((rd_T79 l0 x90_2).f1))).setCell ⟨gb286, 2, none⟩ (.int .i64 ((rd_T79 l0 x90_2).f2))).setCell ⟨gb286, 3, none⟩ (.int .i64 ((rd_T79 l0 x90_2).f3))) = w70 at n0_ n1_ n2_ ⊢
        have HO_5 := n0_
        have BK286 := n1_
        have HB := n2_
        clear n0_ n1_ n2_
        have n0_ := Aside0.mk (Kd.R_drew HO_5.out)
        have n1_ := Aside0.mk (blk_drew BK286.out)
        have n2_ := Aside0.mk (below_drew1 HB.out)
        clear HO_5
        clear BK286
        clear HB
        have HO_5 := n0_
        have BK286 := n1_
        have HB := n2_
        clear n0_ n1_ n2_
        obtain ⟨Ao72, co72, eo72⟩ := Kd.R_slice HO_5.out
        (first | subst eo72 | (injection eo72 with f1_ f2_ f3_; have f4_ := f1_.symm; have f5_ := f3_.symm; clear f1_ f2_ f3_; subst f4_; subst f5_))
        have p287 : 0 ≤ (x90_2 : Int) := oD
        have q287 : x90_2 < (x5_1.length : Int) := oD
        obtain ⟨ad287, e287, hx287_0⟩ := Kd.at_int (Kd.R_reads' HO_5.out).2.2 x90_2 p287 q287
        cases e287
        replace p287 := eq_true p287
        replace q287 := eq_true q287
        refine start_ (n := 7) (S := fun w' => w'.cell? ⟨gb286, 0, none⟩ = some (.int .i64 ((rd_T79 l0 x90_2).f0)) ∧ w'.cell? ⟨gb286, 1, none⟩ = some (.int .i64 ((rd_T79 l0 x90_2).f1)) ∧ w'.cell? ⟨gb286, 2, none⟩ = some (.int .i64 ((rd_T79 l0 x90_2).f2)) ∧ w'.cell? ⟨gb286, 3, none⟩ = some (.int .i64 ((rd_T79 l0 x90_2).f3)) ∧ w'.cell? (ad287.add (x90_2).toNat) = some (.int .i64 (rd x5_1 x90_2))) (ds := []) #[false, false, false, false, false, false, false] (by kernel_rfl) rfl rfl ⟨(blk_cell BK286.out 0).trans rfl, (blk_cell BK286.out 1).trans rfl, (blk_cell BK286.out 2).trans rfl, (blk_cell BK286.out 3).trans rfl, hx287_0⟩ (fun hHeld => ?_)
        generalize w70.drew = w71 at HO_5 BK286 HB hx287_0 hHeld ⊢
        refine pure_ (i := 0) (N := some 95) (v := ?_) (a' := ?_) #[true, false, false, false, false, false, false] rfl rfl (by kernel_rfl) (fun _ _ _ h => h) (Or.inl ⟨by rfl, ?_⟩) ?_ ?_
        rotate_left; (intro w'; go_simp; with_reducible rfl); rotate_left; (simp only [Act.put, sA, sZ, sS, i64_w, i32_w]; rfl)
        refine pure_ (i := 1) (N := some 96) (v := ?_) (a' := ?_) #[true, true, false, false, false, false, false] rfl rfl (by kernel_rfl) (fun _ _ _ h => h) (Or.inl ⟨by rfl, ?_⟩) ?_ ?_
        rotate_left; (intro w'; go_simp; with_reducible rfl); rotate_left; (simp only [Act.put, sA, sZ, sS, i64_w, i32_w]; rfl)
        refine pure_ (i := 2) (N := some 97) (v := ?_) (a' := ?_) #[true, true, true, false, false, false, false] rfl rfl (by kernel_rfl) (fun _ _ _ h => h) (Or.inl ⟨by rfl, ?_⟩) ?_ ?_
        rotate_left; (intro w'; go_simp; with_reducible rfl); rotate_left; (simp only [Act.put, sA, sZ, sS, i64_w, i32_w]; rfl)
        refine pure_ (i := 4) (N := some 99) (v := ?_) (a' := ?_) #[true, true, true, false, true, false, false] rfl rfl (by kernel_rfl) (fun _ _ _ h => h) (Or.inl ⟨by rfl, ?_⟩) ?_ ?_
        rotate_left; (intro w'; go_simp; with_reducible rfl); rotate_left; (simp only [Act.put, sA, sZ, sS, i64_w, i32_w]; rfl)
        refine take_ (i := 3) (N := some 98) (v := ?_) (a' := ?_) #[true, true, true, true, true, false, false] rfl rfl (by kernel_rfl) (fun _ _ _ h => h) (Or.inl ⟨by rfl, ?_⟩) hHeld ?_ ?_
        rotate_left
        ·rintro w' ⟨s0, s1, s2, s3, s4⟩
         go_simp
         with_reducible rfl
        rotate_left
        ·simp only [Act.put, sA, sZ, sS, i64_w, i32_w]
         rfl
        refine take_ (i := 5) (N := some 100) (v := ?_) (a' := ?_) #[true, true, true, true, true, true, false] rfl rfl (by kernel_rfl) (fun _ _ _ h => h) (Or.inl ⟨by rfl, ?_⟩) hHeld ?_ ?_
        rotate_left
        ·rintro w' ⟨s0, s1, s2, s3, s4⟩
         go_simp
         with_reducible rfl
        rotate_left
        ·simp only [Act.put, sA, sZ, sS, i64_w, i32_w]
         rfl
        refine pure_ (i := 6) (N := some 101) (v := ?_) (a' := ?_) #[true, true, true, true, true, true, true] rfl rfl (by kernel_rfl) (fun _ _ _ h => h) (Or.inl ⟨by rfl, ?_⟩) ?_ ?_
        rotate_left; (intro w'; go_simp; with_reducible rfl); rotate_left; (simp only [Act.put, sA, sZ, sS, i64_w, i32_w]; rfl)
        refine done_ (by kernel_rfl) ?_
        try go_wp2
        go_roundg k2
        case measure => have := HK1.out; have := HK2.out; omega
        case rel => exact ⟨(wrap64 (x90_2 + 1)), sD, H', ⟨by have := HK1.out; have := HK2.out; omega⟩, ⟨kR⟩, ⟨by repeat (first | (with_reducible first | exact HB.out | apply below_alloc | apply pw_below_drewN | apply below_drew1 | refine below_set ?_ GE286.out) | exact HB.out)⟩⟩
       ·rw [if_neg c67] at H
        have c67b0 : ((rd x5_1 x90_2) == ((rd_T79 l0 x90_2).f0)) = false := beq_eq_false_iff_ne.mpr c67
        have c67b1 : ((rd x5_1 x90_2) != ((rd_T79 l0 x90_2).f0)) = true := bne_iff_ne.mpr c67
        obtain rfl := Option.some.inj H
        have p285 : 0 ≤ (x90_2 : Int) := oD
        have q285 : x90_2 < (l0.length : Int) := oD
        obtain ⟨ad285, e285, hx285_0, hx285_1, hx285_2, hx285_3⟩ := at_T79 HR0.out x90_2 p285 q285
        cases e285
        replace hx285_0 := (cB HB.out hx285_0 :)
        replace hx285_1 := (cB HB.out hx285_1 :)
        replace hx285_2 := (cB HB.out hx285_2 :)
        replace hx285_3 := (cB HB.out hx285_3 :)
        replace p285 := eq_true p285
        replace q285 := eq_true q285
        try go_wp2_with (first | ((with_reducible refine gate_dst (N := 11) rfl ?_); refine bE 11 #[.int .i64 0, .int .i64 0, .int .i64 0, .int .i64 0] 79 ?_; intro gb286 hg w73 hbox hb; have n0_ := Aside0.mk (Kd.R_below (by (with_reducible repeat (first | apply Kd.R_alloc | apply Kd.R_drewN | apply Kd.R_drew)); exact HO_5.out) hb); have n1_ := Aside0.mk (below_step bB hb); have n2_ := Aside0.mk (hbox); have n3_ := Aside0.mk ((by rw [hg]; exact (below_size bB) : w.heap.size ≤ gb286)); have n4_ := Aside0.mk ((by rw [hg]; exact (below_size bB) : w.heap.size ≤ gb286)); clear HO_5; clear HB; have HO_5 := n0_; have HB := n1_; have BK286 := n2_; have GW286 := n3_; have GE286 := n4_; clear n0_ n1_ n2_ n3_ n4_; clear hb hbox hg; have hcz74_0 : w73.cell? ⟨gb286, 0, none⟩ = some (.int .i64 0) := (blk_cell BK286.out 0).trans rfl; have hcz74_1 : w73.cell? ⟨gb286, 1, none⟩ = some (.int .i64 0) := (blk_cell BK286.out 1).trans rfl; have hcz74_2 : w73.cell? ⟨gb286, 2, none⟩ = some (.int .i64 0) := (blk_cell BK286.out 2).trans rfl; have hcz74_3 : w73.cell? ⟨gb286, 3, none⟩ = some (.int .i64 0) := (blk_cell BK286.out 3).trans rfl; have hfz74_0 := blk_frozen BK286.out 0; have hfz74_1 := blk_frozen BK286.out 1; have hfz74_2 := blk_frozen BK286.out 2; have hfz74_3 := blk_frozen BK286.out 3))
        have n0_ : Aside0 (Kd.R (Kd.int .i64) 3 ((((w73.setCell ⟨gb286, 0, none⟩ (.int .i64 ((rd_T79 l0 x90_2).f0))).setCell ⟨gb286, 1, none⟩ (.int .i64 ((rd_T79 l0 x90_2).f1))).setCell ⟨gb286, 2, none⟩ (.int .i64 ((rd_T79 l0 x90_2).f2))).setCell ⟨gb286, 3, none⟩ (.int .i64 ((rd_T79 l0 x90_2).f3))) w.heap.size (fun _ => True) v274 x5_1) := ⟨by exact Kd.R_mono (Kd.R_far (p := ⟨gb286, 3, none⟩) (Kd.R_far (p := ⟨gb286, 2, none⟩) (Kd.R_far (p := ⟨gb286, 1, none⟩) (Kd.R_far (p := ⟨gb286, 0, none⟩) (Kd.R_types HO_5.out BK286.out (by decide)) (fun _ hk => hk.2) (.int .i64 ((rd_T79 l0 x90_2).f0))) (fun _ hk => hk.2) (.int .i64 ((rd_T79 l0 x90_2).f1))) (fun _ hk => hk.2) (.int .i64 ((rd_T79 l0 x90_2).f2))) (fun _ hk => hk.2) (.int .i64 ((rd_T79 l0 x90_2).f3))) (fun _ hk => trivial)⟩
        have n1_ : Aside0 (((((w73.setCell ⟨gb286, 0, none⟩ (.int .i64 ((rd_T79 l0 x90_2).f0))).setCell ⟨gb286, 1, none⟩ (.int .i64 ((rd_T79 l0 x90_2).f1))).setCell ⟨gb286, 2, none⟩ (.int .i64 ((rd_T79 l0 x90_2).f2))).setCell ⟨gb286, 3, none⟩ (.int .i64 ((rd_T79 l0 x90_2).f3))).heap[gb286]? = some (.cells #[.int .i64 ((rd_T79 l0 x90_2).f0), .int .i64 ((rd_T79 l0 x90_2).f1), .int .i64 ((rd_T79 l0 x90_2).f2), .int .i64 ((rd_T79 l0 x90_2).f3)] 79 (0, 0))) := ⟨by refine blk_put (cs := #[.int .i64 ((rd_T79 l0 x90_2).f0), .int .i64 ((rd_T79 l0 x90_2).f1), .int .i64 ((rd_T79 l0 x90_2).f2), .int .i64 0]) ?_ 3 _ rfl; refine blk_put (cs := #[.int .i64 ((rd_T79 l0 x90_2).f0), .int .i64 ((rd_T79 l0 x90_2).f1), .int .i64 0, .int .i64 0]) ?_ 2 _ rfl; refine blk_put (cs := #[.int .i64 ((rd_T79 l0 x90_2).f0), .int .i64 0, .int .i64 0, .int .i64 0]) ?_ 1 _ rfl; refine blk_put (cs := #[.int .i64 0, .int .i64 0, .int .i64 0, .int .i64 0]) ?_ 0 _ rfl; exact BK286.out⟩
        have n2_ : Aside0 (Below w.heap.size w ((((w73.setCell ⟨gb286, 0, none⟩ (.int .i64 ((rd_T79 l0 x90_2).f0))).setCell ⟨gb286, 1, none⟩ (.int .i64 ((rd_T79 l0 x90_2).f1))).setCell ⟨gb286, 2, none⟩ (.int .i64 ((rd_T79 l0 x90_2).f2))).setCell ⟨gb286, 3, none⟩ (.int .i64 ((rd_T79 l0 x90_2).f3)))) := ⟨by repeat (first | (with_reducible first | exact HB.out | apply below_alloc | apply pw_below_drewN | apply below_drew1 | refine below_set ?_ GE286.out) | exact HB.out)⟩
        (try clear HO_5)
        (try clear BK286)
        (try clear HB)
        generalize ((((w73.setCell ⟨gb286, 0, none⟩ (.int .i64 ((rd_T79 l0 x90_2).f0))).setCell ⟨gb286, 1, none⟩ (.int .i64 ((rd_T79 l0 x90_2).f1))).setCell ⟨gb286, 2, none⟩ (.int .i64 ((rd_T79 l0 x90_2).f2))).setCell ⟨gb286, 3, none⟩ (.int .i64 ((rd_T79 l0 x90_2).f3))) = w75 at n0_ n1_ n2_ ⊢
        have HO_5 := n0_
        have BK286 := n1_
        have HB := n2_
        clear n0_ n1_ n2_
        have n0_ := Aside0.mk (Kd.R_drew HO_5.out)
        have n1_ := Aside0.mk (blk_drew BK286.out)
        have n2_ := Aside0.mk (below_drew1 HB.out)
        clear HO_5
        clear BK286
        clear HB
        have HO_5 := n0_
        have BK286 := n1_
        have HB := n2_
        clear n0_ n1_ n2_
        obtain ⟨Ao77, co77, eo77⟩ := Kd.R_slice HO_5.out
        (first | subst eo77 | (injection eo77 with f1_ f2_ f3_; have f4_ := f1_.symm; have f5_ := f3_.symm; clear f1_ f2_ f3_; subst f4_; subst f5_))
        have p287 : 0 ≤ (x90_2 : Int) := oD
        have q287 : x90_2 < (x5_1.length : Int) := oD
        obtain ⟨ad287, e287, hx287_0⟩ := Kd.at_int (Kd.R_reads' HO_5.out).2.2 x90_2 p287 q287
        cases e287
        replace p287 := eq_true p287
        replace q287 := eq_true q287
        refine start_ (n := 7) (S := fun w' => w'.cell? ⟨gb286, 0, none⟩ = some (.int .i64 ((rd_T79 l0 x90_2).f0)) ∧ w'.cell? ⟨gb286, 1, none⟩ = some (.int .i64 ((rd_T79 l0 x90_2).f1)) ∧ w'.cell? ⟨gb286, 2, none⟩ = some (.int .i64 ((rd_T79 l0 x90_2).f2)) ∧ w'.cell? ⟨gb286, 3, none⟩ = some (.int .i64 ((rd_T79 l0 x90_2).f3)) ∧ w'.cell? (ad287.add (x90_2).toNat) = some (.int .i64 (rd x5_1 x90_2))) (ds := []) #[false, false, false, false, false, false, false] (by kernel_rfl) rfl rfl ⟨(blk_cell BK286.out 0).trans rfl, (blk_cell BK286.out 1).trans rfl, (blk_cell BK286.out 2).trans rfl, (blk_cell BK286.out 3).trans rfl, hx287_0⟩ (fun hHeld => ?_)
        generalize w75.drew = w76 at HO_5 BK286 HB hx287_0 hHeld ⊢
        refine pure_ (i := 0) (N := some 95) (v := ?_) (a' := ?_) #[true, false, false, false, false, false, false] rfl rfl (by kernel_rfl) (fun _ _ _ h => h) (Or.inl ⟨by rfl, ?_⟩) ?_ ?_
        rotate_left; (intro w'; go_simp; with_reducible rfl); rotate_left; (simp only [Act.put, sA, sZ, sS, i64_w, i32_w]; rfl)
        refine pure_ (i := 1) (N := some 96) (v := ?_) (a' := ?_) #[true, true, false, false, false, false, false] rfl rfl (by kernel_rfl) (fun _ _ _ h => h) (Or.inl ⟨by rfl, ?_⟩) ?_ ?_
        rotate_left; (intro w'; go_simp; with_reducible rfl); rotate_left; (simp only [Act.put, sA, sZ, sS, i64_w, i32_w]; rfl)
        refine pure_ (i := 2) (N := some 97) (v := ?_) (a' := ?_) #[true, true, true, false, false, false, false] rfl rfl (by kernel_rfl) (fun _ _ _ h => h) (Or.inl ⟨by rfl, ?_⟩) ?_ ?_
        rotate_left; (intro w'; go_simp; with_reducible rfl); rotate_left; (simp only [Act.put, sA, sZ, sS, i64_w, i32_w]; rfl)
        refine pure_ (i := 4) (N := some 99) (v := ?_) (a' := ?_) #[true, true, true, false, true, false, false] rfl rfl (by kernel_rfl) (fun _ _ _ h => h) (Or.inl ⟨by rfl, ?_⟩) ?_ ?_
        rotate_left; (intro w'; go_simp; with_reducible rfl); rotate_left; (simp only [Act.put, sA, sZ, sS, i64_w, i32_w]; rfl)
        refine take_ (i := 3) (N := some 98) (v := ?_) (a' := ?_) #[true, true, true, true, true, false, false] rfl rfl (by kernel_rfl) (fun _ _ _ h => h) (Or.inl ⟨by rfl, ?_⟩) hHeld ?_ ?_
        rotate_left
        ·rintro w' ⟨s0, s1, s2, s3, s4⟩
         go_simp
         with_reducible rfl
        rotate_left
        ·simp only [Act.put, sA, sZ, sS, i64_w, i32_w]
         rfl
        refine take_ (i := 5) (N := some 100) (v := ?_) (a' := ?_) #[true, true, true, true, true, true, false] rfl rfl (by kernel_rfl) (fun _ _ _ h => h) (Or.inl ⟨by rfl, ?_⟩) hHeld ?_ ?_
        rotate_left
        ·rintro w' ⟨s0, s1, s2, s3, s4⟩
         go_simp
         with_reducible rfl
        rotate_left
        ·simp only [Act.put, sA, sZ, sS, i64_w, i32_w]
         rfl
        refine pure_ (i := 6) (N := some 101) (v := ?_) (a' := ?_) #[true, true, true, true, true, true, true] rfl rfl (by kernel_rfl) (fun _ _ _ h => h) (Or.inl ⟨by rfl, ?_⟩) ?_ ?_
        rotate_left; (intro w'; go_simp; with_reducible rfl); rotate_left; (simp only [Act.put, sA, sZ, sS, i64_w, i32_w]; rfl)
        refine done_ (by kernel_rfl) ?_
        try go_wp2
        go_ret
        exact ⟨rE, bS⟩
      ·rw [if_neg c63] at H
       have c63b0 : decide (x90_2 < (l0.length : Int)) = false := decide_eq_false c63
       clear c63
       have H' := Aside0.mk H
       clear H
       go_wp2
       go_loopg [105] k2 (fun kq v105 w' => ∃ (x105_3 : Int), v105 = .int .i64 x105_3 ∧ Aside0 (impl_isShared.l3 kq l1 l1 (l1.length : Int) x105_3 = some r) ∧ Aside0 (kq ≤ k2) ∧ Aside0 (Below w.heap.size w w'))
       case atStart => exact ⟨(0), sD, H', ⟨Nat.le_refl _⟩, ⟨by repeat (first | (with_reducible first | exact HB.out | apply below_alloc | apply pw_below_drewN | apply below_drew1) | exact HB.out)⟩⟩
       case round =>
        clear H'
        try clear c1
        try clear p2
        try clear q2
        try clear hx2
        try clear c4
        try clear c5
        try clear p5
        try clear q5
        try clear hx5
        try clear hf5
        try clear c6
        try clear p6
        try clear c7
        try clear c7b0
        try clear c8
        try clear c9
        try clear c10
        try clear c10b0
        try clear c11
        try clear c12
        try clear c14
        try clear p27
        try clear q27
        try clear hx27
        try clear p28
        try clear q28
        try clear hx28
        try clear c49
        try clear c50
        try clear p51
        try clear q51
        try clear hx51
        try clear hf51
        try clear c63
        try clear c63b0
        try clear c64
        try clear c64b0
        try clear p64
        try clear c65
        try clear c65b0
        try clear c66
        try clear c66b0
        try clear c67
        try clear c67b0
        try clear c67b1
        try clear hcz60_0
        try clear hcz60_1
        try clear hcz60_2
        try clear hcz69_0
        try clear hcz69_1
        try clear hcz69_2
        try clear hcz69_3
        try clear hcz74_0
        try clear hcz74_1
        try clear hcz74_2
        try clear hcz74_3
        try clear hfz60_0
        try clear hfz60_1
        try clear hfz60_2
        try clear hfz69_0
        try clear hfz69_1
        try clear hfz69_2
        try clear hfz69_3
        try clear hfz74_0
        try clear hfz74_1
        try clear hfz74_2
        try clear hfz74_3
        try clear hx277_0
        try clear hx277_1
        try clear hx277_2
        try clear hx283_0
        try clear hx285_0
        try clear hx285_1
        try clear hx285_2
        try clear hx285_3
        try clear hx287_0
        try clear hx51_0
        try clear p2
        try clear p27
        try clear p277
        try clear p28
        try clear p283
        try clear p285
        try clear p287
        try clear p5
        try clear p51
        try clear p6
        try clear q2
        try clear q27
        try clear q277
        try clear q28
        try clear q283
        try clear q285
        try clear q287
        try clear q5
        try clear q51
        obtain ⟨x105_3, rfl, HA, HK3, HB⟩ := hrel
        cases gk with
        | zero => exact absurd HA.out (by simp [impl_isShared.l3])
        | succ k3 =>
         have H := HA.out
         clear HA
         simp only [impl_isShared.l3] at H
         by_cases c78 : x105_3 < (l1.length : Int)
         ·rw [if_pos c78] at H
          have c78b0 : decide (x105_3 < (l1.length : Int)) = true := decide_eq_true c78
          clear c78
          by_cases c79 : 0 ≤ x105_3; rotate_left
          ·rw [if_neg c79] at H; exact absurd H (by simp)
          rw [if_pos c79] at H
          have c79b0 : decide (0 ≤ x105_3) = true := decide_eq_true c79
          clear c79
          by_cases c80 : x105_3 < (l1.length : Int); rotate_left
          ·rw [if_neg c80] at H; exact absurd H (by simp)
          rw [if_pos c80] at H
          have c80b0 : decide (x105_3 < (l1.length : Int)) = true := decide_eq_true c80
          clear c80
          have c81b0 := eq_true (oD : 0 ≤ x105_3)
          by_cases c82 : x105_3 ≤ (l1.length : Int); rotate_left
          ·rw [if_neg c82] at H; exact absurd H (by simp)
          rw [if_pos c82] at H
          have c82b0 := eq_true c82
          have c82b1 : decide (x105_3 ≤ (l1.length : Int)) = true := decide_eq_true c82
          clear c82
          obtain ⟨y289, hy289⟩ : ∃ y_ : List (List (S130)), y_ = (l1.take (x105_3 : Int).toNat) := ⟨_, rfl⟩
          replace H : (impl_isShared.l4 k3 l1 (rd_L9 l1 x105_3) l1 (l1.length : Int) x105_3 y289 (y289.length : Int) 0) = some r := by first | (rw [hy289]; with_reducible exact H) | (have H2_ := (Option.bind_some _ _).symm.trans H; rw [hy289]; with_reducible exact H2_) | (have H2_ := (Option.bind_some _ _).symm.trans H; with_reducible exact H2_) | with_reducible exact H | (rw [hy289]; exact H) | exact H
          have Ny289 := Aside0.mk hy289
          clear hy289
          have H' := Aside0.mk H
          clear H
          have p288 : 0 ≤ (x105_3 : Int) := oD
          have q288 : x105_3 < (l1.length : Int) := oD
          obtain ⟨ad288, A288_0, c288_0, e288, hx288_0, hl288_0, hi288_0⟩ := at_L9 HR1.out x105_3 p288 q288
          cases e288
          replace hx288_0 := (cB HB.out hx288_0 :)
          have HR288_0 := Aside0.mk hi288_0
          have HC288_0 := Aside0.mk hl288_0
          clear hi288_0 hl288_0
          replace p288 := eq_true p288
          replace q288 := eq_true q288
          have q83 : (x105_3 : Int) ≤ ((l1.length : Int) : Int) := oD
          obtain ⟨i083, hi083, _, hsz83, _⟩ := info_parts info104
          have hroom83 : l1.length ≤ c1 := HC1.out
          have hC83 : Kd.C (Kd.slice 130 k130) _ (some ad288) l1.length l1 := HR1.out
          have hcut83 := cut_to (P := Try.prog) 61 104 .i64 Try.underlying61 hi083 (some ad288) l1.length c1 x105_3 (oD) q83 hroom83
          have hr83 := Kd.C_take (m := (x105_3 : Int).toNat) hC83 (by omega)
          have hy83 : y289.length = (x105_3 : Int).toNat := (by rw [Ny289.out, List.length_take]; omega)
          rw [← Ny289.out] at hr83
          rw [← hy83] at hcut83
          have HR292 := Aside0.mk hr83
          have HC292 := Aside0.mk (show y289.length ≤ c1 from by omega)
          clear hr83 hC83 hroom83 hi083 hsz83
          have KY83 := Aside0.mk hy83
          clear hy83
          replace q83 := eq_true q83
          go_wp2
          go_loopg [114] k3 (fun kq v114 w' => ∃ (x114_4 : Int), v114 = .int .i64 x114_4 ∧ Aside0 (impl_isShared.l4 kq l1 (rd_L9 l1 x105_3) l1 (l1.length : Int) x105_3 y289 (y289.length : Int) x114_4 = some r) ∧ Aside0 (kq ≤ k3) ∧ Aside0 (Below w.heap.size w w'))
          case atStart => exact ⟨(0), sD, H', ⟨Nat.le_refl _⟩, ⟨by repeat (first | (with_reducible first | exact HB.out | apply below_alloc | apply pw_below_drewN | apply below_drew1) | exact HB.out)⟩⟩
          case round =>
           clear H'
           try clear c1
           try clear c2
           try clear p2
           try clear q2
           try clear hx2
           try clear c4
           try clear c5
           try clear p5
           try clear q5
           try clear hx5
           try clear hf5
           try clear c6
           try clear p6
           try clear c7
           try clear c7b0
           try clear c8
           try clear q8
           try clear c9
           try clear c10
           try clear c10b0
           try clear c11
           try clear c12
           try clear c14
           try clear p27
           try clear q27
           try clear hx27
           try clear c28
           try clear p28
           try clear q28
           try clear hx28
           try clear c49
           try clear c50
           try clear p51
           try clear q51
           try clear hx51
           try clear hf51
           try clear c63
           try clear c63b0
           try clear c64
           try clear c64b0
           try clear p64
           try clear c65
           try clear c65b0
           try clear c66
           try clear c66b0
           try clear c67
           try clear c67b0
           try clear c67b1
           try clear c78
           try clear c78b0
           try clear c79
           try clear c79b0
           try clear c80
           try clear c80b0
           try clear c81
           try clear c81b0
           try clear c82
           try clear c82b0
           try clear c82b1
           try clear q83
           try clear hcz60_0
           try clear hcz60_1
           try clear hcz60_2
           try clear hcz69_0
           try clear hcz69_1
           try clear hcz69_2
           try clear hcz69_3
           try clear hcz74_0
           try clear hcz74_1
           try clear hcz74_2
           try clear hcz74_3
           try clear hfz60_0
           try clear hfz60_1
           try clear hfz60_2
           try clear hfz69_0
           try clear hfz69_1
           try clear hfz69_2
           try clear hfz69_3
           try clear hfz74_0
           try clear hfz74_1
           try clear hfz74_2
           try clear hfz74_3
           try clear hx277_0
           try clear hx277_1
           try clear hx277_2
           try clear hx283_0
           try clear hx285_0
           try clear hx285_1
           try clear hx285_2
           try clear hx285_3
           try clear hx287_0
           try clear hx288_0
           try clear hx51_0
           try clear p2
           try clear p27
           try clear p277
           try clear p28
           try clear p283
           try clear p285
           try clear p287
           try clear p288
           try clear p5
           try clear p51
           try clear p6
           try clear p64
           try clear q2
           try clear q27
           try clear q277
           try clear q28
           try clear q283
           try clear q285
           try clear q287
           try clear q288
           try clear q5
           try clear q51
           try clear q83
           obtain ⟨x114_4, rfl, HA, HK4, HB⟩ := hrel
           cases gk with
           | zero => exact absurd HA.out (by simp [impl_isShared.l4])
           | succ k4 =>
            have H := HA.out
            clear HA
            simp only [impl_isShared.l4] at H
            by_cases c84 : x114_4 < (y289.length : Int)
            ·rw [if_pos c84] at H
             have c84b0 : decide (x114_4 < (y289.length : Int)) = true := decide_eq_true c84
             clear c84
             by_cases c85 : 0 ≤ x114_4; rotate_left
             ·rw [if_neg c85] at H; exact absurd H (by simp)
             rw [if_pos c85] at H
             have c85b0 : decide (0 ≤ x114_4) = true := decide_eq_true c85
             clear c85
             by_cases c86 : x114_4 < (y289.length : Int); rotate_left
             ·rw [if_neg c86] at H; exact absurd H (by simp)
             rw [if_pos c86] at H
             have c86b0 : decide (x114_4 < (y289.length : Int)) = true := decide_eq_true c86
             clear c86
             have H' := Aside0.mk H
             clear H
             have p293 : 0 ≤ (x114_4 : Int) := oD
             have q293 : x114_4 < (y289.length : Int) := oD
             obtain ⟨ad293, A293_0, c293_0, e293, hx293_0, hl293_0, hi293_0⟩ := at_L9 HR292.out x114_4 p293 q293
             obtain rfl : ad288 = ad293 := (by injection e293)
             replace hx293_0 := (cB HB.out hx293_0 :)
             have HR293_0 := Aside0.mk hi293_0
             have HC293_0 := Aside0.mk hl293_0
             clear hi293_0 hl293_0
             replace p293 := eq_true p293
             replace q293 := eq_true q293
             go_wp2
             go_loopg [120] k4 (fun kq v120 w' => ∃ (x120_5 : Int), v120 = .int .i64 x120_5 ∧ Aside0 (impl_isShared.l5 kq l1 (rd_L9 l1 x105_3) (rd_L9 y289 x114_4) l1 (l1.length : Int) x105_3 y289 (y289.length : Int) x114_4 (rd_L9 l1 x105_3) ((rd_L9 l1 x105_3).length : Int) x120_5 = some r) ∧ Aside0 (kq ≤ k4) ∧ Aside0 (Below w.heap.size w w'))
             case atStart => exact ⟨(0), sD, H', ⟨Nat.le_refl _⟩, ⟨by repeat (first | (with_reducible first | exact HB.out | apply below_alloc | apply pw_below_drewN | apply below_drew1) | exact HB.out)⟩⟩
             case round =>
              clear H'
              try clear c1
              try clear c2
              try clear p2
              try clear q2
              try clear hx2
              try clear c4
              try clear c5
              try clear p5
              try clear q5
              try clear hx5
              try clear hf5
              try clear c6
              try clear p6
              try clear c7
              try clear c7b0
              try clear c8
              try clear q8
              try clear c9
              try clear c10
              try clear c10b0
              try clear c11
              try clear c12
              try clear c14
              try clear p27
              try clear q27
              try clear hx27
              try clear c28
              try clear p28
              try clear q28
              try clear hx28
              try clear c29
              try clear p29
              try clear q29
              try clear hx29
              try clear c49
              try clear c50
              try clear p51
              try clear q51
              try clear hx51
              try clear hf51
              try clear c63
              try clear c63b0
              try clear c64
              try clear c64b0
              try clear p64
              try clear c65
              try clear c65b0
              try clear c66
              try clear c66b0
              try clear c67
              try clear c67b0
              try clear c67b1
              try clear c78
              try clear c78b0
              try clear c79
              try clear c79b0
              try clear c80
              try clear c80b0
              try clear c81
              try clear c81b0
              try clear c82
              try clear c82b0
              try clear c82b1
              try clear q83
              try clear c84
              try clear c84b0
              try clear c85
              try clear c85b0
              try clear c86
              try clear c86b0
              try clear hcz60_0
              try clear hcz60_1
              try clear hcz60_2
              try clear hcz69_0
              try clear hcz69_1
              try clear hcz69_2
              try clear hcz69_3
              try clear hcz74_0
              try clear hcz74_1
              try clear hcz74_2
              try clear hcz74_3
              try clear hfz60_0
              try clear hfz60_1
              try clear hfz60_2
              try clear hfz69_0
              try clear hfz69_1
              try clear hfz69_2
              try clear hfz69_3
              try clear hfz74_0
              try clear hfz74_1
              try clear hfz74_2
              try clear hfz74_3
              try clear hx277_0
              try clear hx277_1
              try clear hx277_2
              try clear hx283_0
              try clear hx285_0
              try clear hx285_1
              try clear hx285_2
              try clear hx285_3
              try clear hx287_0
              try clear hx288_0
              try clear hx293_0
              try clear hx51_0
              try clear p2
              try clear p27
              try clear p277
              try clear p28
              try clear p283
              try clear p285
              try clear p287
              try clear p288
              try clear p293
              try clear p5
              try clear p51
              try clear p6
              try clear p64
              try clear q2
              try clear q27
              try clear q277
              try clear q28
              try clear q283
              try clear q285
              try clear q287
              try clear q288
              try clear q293
              try clear q5
              try clear q51
              try clear q8
              try clear q83
              obtain ⟨x120_5, rfl, HA, HK5, HB⟩ := hrel
              cases gk with
              | zero => exact absurd HA.out (by simp [impl_isShared.l5])
              | succ k5 =>
               have H := HA.out
               clear HA
               simp only [impl_isShared.l5] at H
               by_cases c87 : x120_5 < ((rd_L9 l1 x105_3).length : Int)
               ·rw [if_pos c87] at H
                have c87b0 : decide (x120_5 < ((rd_L9 l1 x105_3).length : Int)) = true := decide_eq_true c87
                clear c87
                by_cases c88 : 0 ≤ x120_5; rotate_left
                ·rw [if_neg c88] at H; exact absurd H (by simp)
                rw [if_pos c88] at H
                have c88b0 : decide (0 ≤ x120_5) = true := decide_eq_true c88
                clear c88
                by_cases c89 : x120_5 < ((rd_L9 l1 x105_3).length : Int); rotate_left
                ·rw [if_neg c89] at H; exact absurd H (by simp)
                rw [if_pos c89] at H
                have c89b0 : decide (x120_5 < ((rd_L9 l1 x105_3).length : Int)) = true := decide_eq_true c89
                clear c89
                have H' := Aside0.mk H
                clear H
                have p294 : 0 ≤ (x120_5 : Int) := oD
                have q294 : x120_5 < ((rd_L9 l1 x105_3).length : Int) := oD
                obtain ⟨ad294, e294, hx294_0, hx294_1, hx294_2⟩ := at_T130 HR288_0.out x120_5 p294 q294
                cases e294
                replace hx294_0 := (cB HB.out hx294_0 :)
                replace hx294_1 := (cB HB.out hx294_1 :)
                replace hx294_2 := (cB HB.out hx294_2 :)
                replace p294 := eq_true p294
                replace q294 := eq_true q294
                go_wp2_with (first | ((with_reducible refine gate_dst (N := 17) rfl ?_); refine bE 17 #[.int .i64 0, .int .i64 0, .int .i64 0] 130 ?_; intro gb295 hg w90 hbox hb; have n0_ := Aside0.mk (below_step bB hb); have n1_ := Aside0.mk (hbox); have n2_ := Aside0.mk ((by rw [hg]; exact (below_size bB) : w.heap.size ≤ gb295)); have n3_ := Aside0.mk ((by rw [hg]; exact (below_size bB) : w.heap.size ≤ gb295)); clear HB; have HB := n0_; have BK295 := n1_; have GW295 := n2_; have GE295 := n3_; clear n0_ n1_ n2_ n3_; clear hb hbox hg; have hcz91_0 : w90.cell? ⟨gb295, 0, none⟩ = some (.int .i64 0) := (blk_cell BK295.out 0).trans rfl; have hcz91_1 : w90.cell? ⟨gb295, 1, none⟩ = some (.int .i64 0) := (blk_cell BK295.out 1).trans rfl; have hcz91_2 : w90.cell? ⟨gb295, 2, none⟩ = some (.int .i64 0) := (blk_cell BK295.out 2).trans rfl; have hfz91_0 := blk_frozen BK295.out 0; have hfz91_1 := blk_frozen BK295.out 1; have hfz91_2 := blk_frozen BK295.out 2))
                go_loopg [126] k5 (fun kq v126 w' => ∃ (x126_6 : Int), v126 = .int .i64 x126_6 ∧ Aside0 (impl_isShared.l6 kq l1 (rd_L9 l1 x105_3) (rd_L9 y289 x114_4) l1 (l1.length : Int) x105_3 y289 (y289.length : Int) x114_4 (rd_L9 l1 x105_3) ((rd_L9 l1 x105_3).length : Int) x120_5 (rd_L9 y289 x114_4) ((rd_L9 y289 x114_4).length : Int) x126_6 ((rd_T130 (rd_L9 l1 x105_3) x120_5).f0) ((rd_T130 (rd_L9 l1 x105_3) x120_5).f1) ((rd_T130 (rd_L9 l1 x105_3) x120_5).f2) = some r) ∧ Aside0 (kq ≤ k5) ∧ Aside0 (w'.heap[gb295]? = some (.cells #[.int .i64 ((rd_T130 (rd_L9 l1 x105_3) x120_5).f0), .int .i64 ((rd_T130 (rd_L9 l1 x105_3) x120_5).f1), .int .i64 ((rd_T130 (rd_L9 l1 x105_3) x120_5).f2)] 130 (0, 0))) ∧ Aside0 (Below w.heap.size w w'))
                case atStart => exact ⟨(0), sD, H', ⟨Nat.le_refl _⟩, ⟨by (with_reducible repeat (first | refine blk_drewN ?_ _ | refine blk_drew ?_ | refine blk_alloc ?_ _)); refine blk_put (cs := #[.int .i64 ((rd_T130 (rd_L9 l1 x105_3) x120_5).f0), .int .i64 ((rd_T130 (rd_L9 l1 x105_3) x120_5).f1), .int .i64 0]) ?_ 2 _ rfl; (with_reducible repeat (first | refine blk_drewN ?_ _ | refine blk_drew ?_ | refine blk_alloc ?_ _)); refine blk_put (cs := #[.int .i64 ((rd_T130 (rd_L9 l1 x105_3) x120_5).f0), .int .i64 0, .int .i64 0]) ?_ 1 _ rfl; (with_reducible repeat (first | refine blk_drewN ?_ _ | refine blk_drew ?_ | refine blk_alloc ?_ _)); refine blk_put (cs := #[.int .i64 0, .int .i64 0, .int .i64 0]) ?_ 0 _ rfl; (with_reducible repeat (first | refine blk_drewN ?_ _ | refine blk_drew ?_ | refine blk_alloc ?_ _)); exact BK295.out⟩, ⟨by repeat (first | (with_reducible first | exact HB.out | apply below_alloc | apply pw_below_drewN | apply below_drew1 | refine below_set ?_ GE295.out) | exact HB.out)⟩⟩
                case round =>
                 clear H'
                 try clear c1
                 try clear c2
                 try clear p2
                 try clear q2
                 try clear hx2
                 try clear c4
                 try clear c5
                 try clear p5
                 try clear q5
                 try clear hx5
                 try clear hf5
                 try clear c6
                 try clear p6
                 try clear c7
                 try clear c7b0
                 try clear c8
                 try clear q8
                 try clear c9
                 try clear c10
                 try clear c10b0
                 try clear c11
                 try clear c12
                 try clear c14
                 try clear p27
                 try clear q27
                 try clear hx27
                 try clear c28
                 try clear p28
                 try clear q28
                 try clear hx28
                 try clear c29
                 try clear p29
                 try clear q29
                 try clear hx29
                 try clear c49
                 try clear c50
                 try clear p51
                 try clear q51
                 try clear hx51
                 try clear hf51
                 try clear c63
                 try clear c63b0
                 try clear c64
                 try clear c64b0
                 try clear p64
                 try clear c65
                 try clear c65b0
                 try clear c66
                 try clear c66b0
                 try clear c67
                 try clear c67b0
                 try clear c67b1
                 try clear c78
                 try clear c78b0
                 try clear c79
                 try clear c79b0
                 try clear c80
                 try clear c80b0
                 try clear c81
                 try clear c81b0
                 try clear c82
                 try clear c82b0
                 try clear c82b1
                 try clear q83
                 try clear c84
                 try clear c84b0
                 try clear c85
                 try clear c85b0
                 try clear c86
                 try clear c86b0
                 try clear c87
                 try clear c87b0
                 try clear c88
                 try clear c88b0
                 try clear c89
                 try clear c89b0
                 try clear hcz60_0
                 try clear hcz60_1
                 try clear hcz60_2
                 try clear hcz69_0
                 try clear hcz69_1
                 try clear hcz69_2
                 try clear hcz69_3
                 try clear hcz74_0
                 try clear hcz74_1
                 try clear hcz74_2
                 try clear hcz74_3
                 try clear hcz91_0
                 try clear hcz91_1
                 try clear hcz91_2
                 try clear hfz60_0
                 try clear hfz60_1
                 try clear hfz60_2
                 try clear hfz69_0
                 try clear hfz69_1
                 try clear hfz69_2
                 try clear hfz69_3
                 try clear hfz74_0
                 try clear hfz74_1
                 try clear hfz74_2
                 try clear hfz74_3
                 try clear hfz91_0
                 try clear hfz91_1
                 try clear hfz91_2
                 try clear hx277_0
                 try clear hx277_1
                 try clear hx277_2
                 try clear hx283_0
                 try clear hx285_0
                 try clear hx285_1
                 try clear hx285_2
                 try clear hx285_3
                 try clear hx287_0
                 try clear hx288_0
                 try clear hx293_0
                 try clear hx294_0
                 try clear hx294_1
                 try clear hx294_2
                 try clear hx51_0
                 try clear p2
                 try clear p27
                 try clear p277
                 try clear p28
                 try clear p283
                 try clear p285
                 try clear p287
                 try clear p288
                 try clear p29
                 try clear p293
                 try clear p294
                 try clear p5
                 try clear p51
                 try clear p6
                 try clear p64
                 try clear q2
                 try clear q27
                 try clear q277
                 try clear q28
                 try clear q283
                 try clear q285
                 try clear q287
                 try clear q288
                 try clear q29
                 try clear q293
                 try clear q294
                 try clear q5
                 try clear q51
                 try clear q8
                 try clear q83
                 obtain ⟨x126_6, rfl, HA, HK6, BK295, HB⟩ := hrel
                 cases gk with
                 | zero => exact absurd HA.out (by simp [impl_isShared.l6])
                 | succ k6 =>
                  have H := HA.out
                  clear HA
                  simp only [impl_isShared.l6] at H
                  by_cases c92 : x126_6 < ((rd_L9 y289 x114_4).length : Int)
                  ·rw [if_pos c92] at H
                   have c92b0 : decide (x126_6 < ((rd_L9 y289 x114_4).length : Int)) = true := decide_eq_true c92
                   clear c92
                   by_cases c93 : 0 ≤ x126_6; rotate_left
                   ·rw [if_neg c93] at H; exact absurd H (by simp)
                   rw [if_pos c93] at H
                   have c93b0 : decide (0 ≤ x126_6) = true := decide_eq_true c93
                   clear c93
                   by_cases c94 : x126_6 < ((rd_L9 y289 x114_4).length : Int); rotate_left
                   ·rw [if_neg c94] at H; exact absurd H (by simp)
                   rw [if_pos c94] at H
                   have c94b0 : decide (x126_6 < ((rd_L9 y289 x114_4).length : Int)) = true := decide_eq_true c94
                   clear c94
                   by_cases c95 : ((rd_T130 (rd_L9 l1 x105_3) x120_5).f0) = ((rd_T130 (rd_L9 y289 x114_4) x126_6).f0)
                   ·rw [if_pos c95] at H
                    have c95b0 : (((rd_T130 (rd_L9 l1 x105_3) x120_5).f0) == ((rd_T130 (rd_L9 y289 x114_4) x126_6).f0)) = true := beq_iff_eq.mpr c95
                    have c95b1 : (((rd_T130 (rd_L9 l1 x105_3) x120_5).f0) != ((rd_T130 (rd_L9 y289 x114_4) x126_6).f0)) = false := bne_eq_false_iff_eq.mpr c95
                    clear c95
                    by_cases c96 : ((rd_T130 (rd_L9 l1 x105_3) x120_5).f2) > ((rd_T130 (rd_L9 y289 x114_4) x126_6).f1)
                    ·rw [if_pos c96] at H
                     have c96b0 : decide (((rd_T130 (rd_L9 y289 x114_4) x126_6).f1) < ((rd_T130 (rd_L9 l1 x105_3) x120_5).f2)) = true := decide_eq_true c96
                     clear c96
                     by_cases c97 : ((rd_T130 (rd_L9 y289 x114_4) x126_6).f2) > ((rd_T130 (rd_L9 l1 x105_3) x120_5).f1)
                     ·rw [if_pos c97] at H
                      have c97b0 : decide (((rd_T130 (rd_L9 l1 x105_3) x120_5).f1) < ((rd_T130 (rd_L9 y289 x114_4) x126_6).f2)) = true := decide_eq_true c97
                      clear c97
                      obtain rfl := Option.some.inj H
                      have p296 : 0 ≤ (x126_6 : Int) := oD
                      have q296 : x126_6 < ((rd_L9 y289 x114_4).length : Int) := oD
                      obtain ⟨ad296, e296, hx296_0, hx296_1, hx296_2⟩ := at_T130 HR293_0.out x126_6 p296 q296
                      cases e296
                      replace hx296_0 := (cB HB.out hx296_0 :)
                      replace hx296_1 := (cB HB.out hx296_1 :)
                      replace hx296_2 := (cB HB.out hx296_2 :)
                      replace p296 := eq_true p296
                      replace q296 := eq_true q296
                      go_wp2_with (first | ((with_reducible refine gate_dst (N := 19) rfl ?_); refine bE 19 #[.int .i64 0, .int .i64 0, .int .i64 0] 130 ?_; intro gb297 hg w98 hbox hb; have n0_ := Aside0.mk (blk_below (g := gb295) (o := .cells #[.int .i64 ((rd_T130 (rd_L9 l1 x105_3) x120_5).f0), .int .i64 ((rd_T130 (rd_L9 l1 x105_3) x120_5).f1), .int .i64 ((rd_T130 (rd_L9 l1 x105_3) x120_5).f2)] 130 (0, 0)) (by (with_reducible repeat (first | refine blk_drewN ?_ _ | refine blk_drew ?_ | refine blk_alloc ?_ _)); exact BK295.out) hb); have n1_ := Aside0.mk (below_step bS hb); have n2_ := Aside0.mk (hbox); have n3_ := Aside0.mk ((by rw [hg]; exact (below_size bS) : w.heap.size ≤ gb297)); have n4_ := Aside0.mk ((by rw [hg]; exact (below_size bS) : w.heap.size ≤ gb297)); have n5_ := Aside0.mk ((by rw [hg]; exact Nat.ne_of_lt (blk_lt (g := gb295) (o := .cells #[.int .i64 ((rd_T130 (rd_L9 l1 x105_3) x120_5).f0), .int .i64 ((rd_T130 (rd_L9 l1 x105_3) x120_5).f1), .int .i64 ((rd_T130 (rd_L9 l1 x105_3) x120_5).f2)] 130 (0, 0)) (by (with_reducible repeat (first | refine blk_drewN ?_ _ | refine blk_drew ?_ | refine blk_alloc ?_ _)); exact BK295.out)) : gb295 ≠ gb297)); have n6_ := Aside0.mk ((by rw [hg]; exact Nat.ne_of_gt (blk_lt (g := gb295) (o := .cells #[.int .i64 ((rd_T130 (rd_L9 l1 x105_3) x120_5).f0), .int .i64 ((rd_T130 (rd_L9 l1 x105_3) x120_5).f1), .int .i64 ((rd_T130 (rd_L9 l1 x105_3) x120_5).f2)] 130 (0, 0)) (by (with_reducible repeat (first | refine blk_drewN ?_ _ | refine blk_drew ?_ | refine blk_alloc ?_ _)); exact BK295.out)) : gb297 ≠ gb295)); clear BK295; clear HB; have BK295 := n0_; have HB := n1_; have BK297 := n2_; have GW297 := n3_; have GE297 := n4_; have NB295_297 := n5_; have NB297_295 := n6_; clear n0_ n1_ n2_ n3_ n4_ n5_ n6_; clear hb hbox hg; have hnb99 := NB297_295.out; have hnc99 := NB295_297.out; have hcz100_0 : w98.cell? ⟨gb297, 0, none⟩ = some (.int .i64 0) := (blk_cell BK297.out 0).trans rfl; have hcz100_1 : w98.cell? ⟨gb297, 1, none⟩ = some (.int .i64 0) := (blk_cell BK297.out 1).trans rfl; have hcz100_2 : w98.cell? ⟨gb297, 2, none⟩ = some (.int .i64 0) := (blk_cell BK297.out 2).trans rfl; have hfz100_0 := blk_frozen BK297.out 0; have hfz100_1 := blk_frozen BK297.out 1; have hfz100_2 := blk_frozen BK297.out 2; have hcz101_0 : w98.cell? ⟨gb295, 0, none⟩ = some (.int .i64 ((rd_T130 (rd_L9 l1 x105_3) x120_5).f0)) := (blk_cell BK295.out 0).trans rfl; have hcz101_1 : w98.cell? ⟨gb295, 1, none⟩ = some (.int .i64 ((rd_T130 (rd_L9 l1 x105_3) x120_5).f1)) := (blk_cell BK295.out 1).trans rfl; have hcz101_2 : w98.cell? ⟨gb295, 2, none⟩ = some (.int .i64 ((rd_T130 (rd_L9 l1 x105_3) x120_5).f2)) := (blk_cell BK295.out 2).trans rfl; have hfz101_0 := blk_frozen BK295.out 0; have hfz101_1 := blk_frozen BK295.out 1; have hfz101_2 := blk_frozen BK295.out 2))
                      go_ret
                      exact ⟨rE, bS⟩
                     ·rw [if_neg c97] at H
                      have c97b0 : decide (((rd_T130 (rd_L9 l1 x105_3) x120_5).f1) < ((rd_T130 (rd_L9 y289 x114_4) x126_6).f2)) = false := decide_eq_false c97
                      clear c97
                      have H' := Aside0.mk H
                      clear H
                      have p296 : 0 ≤ (x126_6 : Int) := oD
                      have q296 : x126_6 < ((rd_L9 y289 x114_4).length : Int) := oD
                      obtain ⟨ad296, e296, hx296_0, hx296_1, hx296_2⟩ := at_T130 HR293_0.out x126_6 p296 q296
                      cases e296
                      replace hx296_0 := (cB HB.out hx296_0 :)
                      replace hx296_1 := (cB HB.out hx296_1 :)
                      replace hx296_2 := (cB HB.out hx296_2 :)
                      replace p296 := eq_true p296
                      replace q296 := eq_true q296
                      go_wp2_with (first | ((with_reducible refine gate_dst (N := 19) rfl ?_); refine bE 19 #[.int .i64 0, .int .i64 0, .int .i64 0] 130 ?_; intro gb297 hg w102 hbox hb; have n0_ := Aside0.mk (blk_below (g := gb295) (o := .cells #[.int .i64 ((rd_T130 (rd_L9 l1 x105_3) x120_5).f0), .int .i64 ((rd_T130 (rd_L9 l1 x105_3) x120_5).f1), .int .i64 ((rd_T130 (rd_L9 l1 x105_3) x120_5).f2)] 130 (0, 0)) (by (with_reducible repeat (first | refine blk_drewN ?_ _ | refine blk_drew ?_ | refine blk_alloc ?_ _)); exact BK295.out) hb); have n1_ := Aside0.mk (below_step bS hb); have n2_ := Aside0.mk (hbox); have n3_ := Aside0.mk ((by rw [hg]; exact (below_size bS) : w.heap.size ≤ gb297)); have n4_ := Aside0.mk ((by rw [hg]; exact (below_size bS) : w.heap.size ≤ gb297)); have n5_ := Aside0.mk ((by rw [hg]; exact Nat.ne_of_lt (blk_lt (g := gb295) (o := .cells #[.int .i64 ((rd_T130 (rd_L9 l1 x105_3) x120_5).f0), .int .i64 ((rd_T130 (rd_L9 l1 x105_3) x120_5).f1), .int .i64 ((rd_T130 (rd_L9 l1 x105_3) x120_5).f2)] 130 (0, 0)) (by (with_reducible repeat (first | refine blk_drewN ?_ _ | refine blk_drew ?_ | refine blk_alloc ?_ _)); exact BK295.out)) : gb295 ≠ gb297)); have n6_ := Aside0.mk ((by rw [hg]; exact Nat.ne_of_gt (blk_lt (g := gb295) (o := .cells #[.int .i64 ((rd_T130 (rd_L9 l1 x105_3) x120_5).f0), .int .i64 ((rd_T130 (rd_L9 l1 x105_3) x120_5).f1), .int .i64 ((rd_T130 (rd_L9 l1 x105_3) x120_5).f2)] 130 (0, 0)) (by (with_reducible repeat (first | refine blk_drewN ?_ _ | refine blk_drew ?_ | refine blk_alloc ?_ _)); exact BK295.out)) : gb297 ≠ gb295)); clear BK295; clear HB; have BK295 := n0_; have HB := n1_; have BK297 := n2_; have GW297 := n3_; have GE297 := n4_; have NB295_297 := n5_; have NB297_295 := n6_; clear n0_ n1_ n2_ n3_ n4_ n5_ n6_; clear hb hbox hg; have hnb103 := NB297_295.out; have hnc103 := NB295_297.out; have hcz104_0 : w102.cell? ⟨gb297, 0, none⟩ = some (.int .i64 0) := (blk_cell BK297.out 0).trans rfl; have hcz104_1 : w102.cell? ⟨gb297, 1, none⟩ = some (.int .i64 0) := (blk_cell BK297.out 1).trans rfl; have hcz104_2 : w102.cell? ⟨gb297, 2, none⟩ = some (.int .i64 0) := (blk_cell BK297.out 2).trans rfl; have hfz104_0 := blk_frozen BK297.out 0; have hfz104_1 := blk_frozen BK297.out 1; have hfz104_2 := blk_frozen BK297.out 2; have hcz105_0 : w102.cell? ⟨gb295, 0, none⟩ = some (.int .i64 ((rd_T130 (rd_L9 l1 x105_3) x120_5).f0)) := (blk_cell BK295.out 0).trans rfl; have hcz105_1 : w102.cell? ⟨gb295, 1, none⟩ = some (.int .i64 ((rd_T130 (rd_L9 l1 x105_3) x120_5).f1)) := (blk_cell BK295.out 1).trans rfl; have hcz105_2 : w102.cell? ⟨gb295, 2, none⟩ = some (.int .i64 ((rd_T130 (rd_L9 l1 x105_3) x120_5).f2)) := (blk_cell BK295.out 2).trans rfl; have hfz105_0 := blk_frozen BK295.out 0; have hfz105_1 := blk_frozen BK295.out 1; have hfz105_2 := blk_frozen BK295.out 2))
                      go_roundg k6
                      case measure => have := HK1.out; have := HK2.out; have := HK3.out; have := HK4.out; have := HK5.out; have := HK6.out; omega
                      case rel => exact ⟨(wrap64 (x126_6 + 1)), sD, H', ⟨by have := HK1.out; have := HK2.out; have := HK3.out; have := HK4.out; have := HK5.out; have := HK6.out; omega⟩, ⟨by (with_reducible repeat (first | refine blk_drewN ?_ _ | refine blk_drew ?_ | refine blk_alloc ?_ _)); refine blk_far ?_ NB295_297.out _; (with_reducible repeat (first | refine blk_drewN ?_ _ | refine blk_drew ?_ | refine blk_alloc ?_ _)); refine blk_far ?_ NB295_297.out _; (with_reducible repeat (first | refine blk_drewN ?_ _ | refine blk_drew ?_ | refine blk_alloc ?_ _)); refine blk_far ?_ NB295_297.out _; (with_reducible repeat (first | refine blk_drewN ?_ _ | refine blk_drew ?_ | refine blk_alloc ?_ _)); exact BK295.out⟩, ⟨by repeat (first | (with_reducible first | exact HB.out | apply below_alloc | apply pw_below_drewN | apply below_drew1 | refine below_set ?_ GE295.out | refine below_set ?_ GE297.out) | exact HB.out)⟩⟩
                    ·rw [if_neg c96] at H
                     have c96b0 : decide (((rd_T130 (rd_L9 y289 x114_4) x126_6).f1) < ((rd_T130 (rd_L9 l1 x105_3) x120_5).f2)) = false := decide_eq_false c96
                     clear c96
                     have H' := Aside0.mk H
                     clear H
                     have p296 : 0 ≤ (x126_6 : Int) := oD
                     have q296 : x126_6 < ((rd_L9 y289 x114_4).length : Int) := oD
                     obtain ⟨ad296, e296, hx296_0, hx296_1, hx296_2⟩ := at_T130 HR293_0.out x126_6 p296 q296
                     cases e296
                     replace hx296_0 := (cB HB.out hx296_0 :)
                     replace hx296_1 := (cB HB.out hx296_1 :)
                     replace hx296_2 := (cB HB.out hx296_2 :)
                     replace p296 := eq_true p296
                     replace q296 := eq_true q296
                     go_wp2_with (first | ((with_reducible refine gate_dst (N := 19) rfl ?_); refine bE 19 #[.int .i64 0, .int .i64 0, .int .i64 0] 130 ?_; intro gb297 hg w106 hbox hb; have n0_ := Aside0.mk (blk_below (g := gb295) (o := .cells #[.int .i64 ((rd_T130 (rd_L9 l1 x105_3) x120_5).f0), .int .i64 ((rd_T130 (rd_L9 l1 x105_3) x120_5).f1), .int .i64 ((rd_T130 (rd_L9 l1 x105_3) x120_5).f2)] 130 (0, 0)) (by (with_reducible repeat (first | refine blk_drewN ?_ _ | refine blk_drew ?_ | refine blk_alloc ?_ _)); exact BK295.out) hb); have n1_ := Aside0.mk (below_step bS hb); have n2_ := Aside0.mk (hbox); have n3_ := Aside0.mk ((by rw [hg]; exact (below_size bS) : w.heap.size ≤ gb297)); have n4_ := Aside0.mk ((by rw [hg]; exact (below_size bS) : w.heap.size ≤ gb297)); have n5_ := Aside0.mk ((by rw [hg]; exact Nat.ne_of_lt (blk_lt (g := gb295) (o := .cells #[.int .i64 ((rd_T130 (rd_L9 l1 x105_3) x120_5).f0), .int .i64 ((rd_T130 (rd_L9 l1 x105_3) x120_5).f1), .int .i64 ((rd_T130 (rd_L9 l1 x105_3) x120_5).f2)] 130 (0, 0)) (by (with_reducible repeat (first | refine blk_drewN ?_ _ | refine blk_drew ?_ | refine blk_alloc ?_ _)); exact BK295.out)) : gb295 ≠ gb297)); have n6_ := Aside0.mk ((by rw [hg]; exact Nat.ne_of_gt (blk_lt (g := gb295) (o := .cells #[.int .i64 ((rd_T130 (rd_L9 l1 x105_3) x120_5).f0), .int .i64 ((rd_T130 (rd_L9 l1 x105_3) x120_5).f1), .int .i64 ((rd_T130 (rd_L9 l1 x105_3) x120_5).f2)] 130 (0, 0)) (by (with_reducible repeat (first | refine blk_drewN ?_ _ | refine blk_drew ?_ | refine blk_alloc ?_ _)); exact BK295.out)) : gb297 ≠ gb295)); clear BK295; clear HB; have BK295 := n0_; have HB := n1_; have BK297 := n2_; have GW297 := n3_; have GE297 := n4_; have NB295_297 := n5_; have NB297_295 := n6_; clear n0_ n1_ n2_ n3_ n4_ n5_ n6_; clear hb hbox hg; have hnb107 := NB297_295.out; have hnc107 := NB295_297.out; have hcz108_0 : w106.cell? ⟨gb297, 0, none⟩ = some (.int .i64 0) := (blk_cell BK297.out 0).trans rfl; have hcz108_1 : w106.cell? ⟨gb297, 1, none⟩ = some (.int .i64 0) := (blk_cell BK297.out 1).trans rfl; have hcz108_2 : w106.cell? ⟨gb297, 2, none⟩ = some (.int .i64 0) := (blk_cell BK297.out 2).trans rfl; have hfz108_0 := blk_frozen BK297.out 0; have hfz108_1 := blk_frozen BK297.out 1; have hfz108_2 := blk_frozen BK297.out 2; have hcz109_0 : w106.cell? ⟨gb295, 0, none⟩ = some (.int .i64 ((rd_T130 (rd_L9 l1 x105_3) x120_5).f0)) := (blk_cell BK295.out 0).trans rfl; have hcz109_1 : w106.cell? ⟨gb295, 1, none⟩ = some (.int .i64 ((rd_T130 (rd_L9 l1 x105_3) x120_5).f1)) := (blk_cell BK295.out 1).trans rfl; have hcz109_2 : w106.cell? ⟨gb295, 2, none⟩ = some (.int .i64 ((rd_T130 (rd_L9 l1 x105_3) x120_5).f2)) := (blk_cell BK295.out 2).trans rfl; have hfz109_0 := blk_frozen BK295.out 0; have hfz109_1 := blk_frozen BK295.out 1; have hfz109_2 := blk_frozen BK295.out 2))
                     go_roundg k6
                     case measure => have := HK1.out; have := HK2.out; have := HK3.out; have := HK4.out; have := HK5.out; have := HK6.out; omega
                     case rel => exact ⟨(wrap64 (x126_6 + 1)), sD, H', ⟨by have := HK1.out; have := HK2.out; have := HK3.out; have := HK4.out; have := HK5.out; have := HK6.out; omega⟩, ⟨by (with_reducible repeat (first | refine blk_drewN ?_ _ | refine blk_drew ?_ | refine blk_alloc ?_ _)); refine blk_far ?_ NB295_297.out _; (with_reducible repeat (first | refine blk_drewN ?_ _ | refine blk_drew ?_ | refine blk_alloc ?_ _)); refine blk_far ?_ NB295_297.out _; (with_reducible repeat (first | refine blk_drewN ?_ _ | refine blk_drew ?_ | refine blk_alloc ?_ _)); refine blk_far ?_ NB295_297.out _; (with_reducible repeat (first | refine blk_drewN ?_ _ | refine blk_drew ?_ | refine blk_alloc ?_ _)); exact BK295.out⟩, ⟨by repeat (first | (with_reducible first | exact HB.out | apply below_alloc | apply pw_below_drewN | apply below_drew1 | refine below_set ?_ GE295.out | refine below_set ?_ GE297.out) | exact HB.out)⟩⟩
                   ·rw [if_neg c95] at H
                    have c95b0 : (((rd_T130 (rd_L9 l1 x105_3) x120_5).f0) == ((rd_T130 (rd_L9 y289 x114_4) x126_6).f0)) = false := beq_eq_false_iff_ne.mpr c95
                    have c95b1 : (((rd_T130 (rd_L9 l1 x105_3) x120_5).f0) != ((rd_T130 (rd_L9 y289 x114_4) x126_6).f0)) = true := bne_iff_ne.mpr c95
                    have H' := Aside0.mk H
                    clear H
                    have p296 : 0 ≤ (x126_6 : Int) := oD
                    have q296 : x126_6 < ((rd_L9 y289 x114_4).length : Int) := oD
                    obtain ⟨ad296, e296, hx296_0, hx296_1, hx296_2⟩ := at_T130 HR293_0.out x126_6 p296 q296
                    cases e296
                    replace hx296_0 := (cB HB.out hx296_0 :)
                    replace hx296_1 := (cB HB.out hx296_1 :)
                    replace hx296_2 := (cB HB.out hx296_2 :)
                    replace p296 := eq_true p296
                    replace q296 := eq_true q296
                    go_wp2_with (first | ((with_reducible refine gate_dst (N := 19) rfl ?_); refine bE 19 #[.int .i64 0, .int .i64 0, .int .i64 0] 130 ?_; intro gb297 hg w110 hbox hb; have n0_ := Aside0.mk (blk_below (g := gb295) (o := .cells #[.int .i64 ((rd_T130 (rd_L9 l1 x105_3) x120_5).f0), .int .i64 ((rd_T130 (rd_L9 l1 x105_3) x120_5).f1), .int .i64 ((rd_T130 (rd_L9 l1 x105_3) x120_5).f2)] 130 (0, 0)) (by (with_reducible repeat (first | refine blk_drewN ?_ _ | refine blk_drew ?_ | refine blk_alloc ?_ _)); exact BK295.out) hb); have n1_ := Aside0.mk (below_step bS hb); have n2_ := Aside0.mk (hbox); have n3_ := Aside0.mk ((by rw [hg]; exact (below_size bS) : w.heap.size ≤ gb297)); have n4_ := Aside0.mk ((by rw [hg]; exact (below_size bS) : w.heap.size ≤ gb297)); have n5_ := Aside0.mk ((by rw [hg]; exact Nat.ne_of_lt (blk_lt (g := gb295) (o := .cells #[.int .i64 ((rd_T130 (rd_L9 l1 x105_3) x120_5).f0), .int .i64 ((rd_T130 (rd_L9 l1 x105_3) x120_5).f1), .int .i64 ((rd_T130 (rd_L9 l1 x105_3) x120_5).f2)] 130 (0, 0)) (by (with_reducible repeat (first | refine blk_drewN ?_ _ | refine blk_drew ?_ | refine blk_alloc ?_ _)); exact BK295.out)) : gb295 ≠ gb297)); have n6_ := Aside0.mk ((by rw [hg]; exact Nat.ne_of_gt (blk_lt (g := gb295) (o := .cells #[.int .i64 ((rd_T130 (rd_L9 l1 x105_3) x120_5).f0), .int .i64 ((rd_T130 (rd_L9 l1 x105_3) x120_5).f1), .int .i64 ((rd_T130 (rd_L9 l1 x105_3) x120_5).f2)] 130 (0, 0)) (by (with_reducible repeat (first | refine blk_drewN ?_ _ | refine blk_drew ?_ | refine blk_alloc ?_ _)); exact BK295.out)) : gb297 ≠ gb295)); clear BK295; clear HB; have BK295 := n0_; have HB := n1_; have BK297 := n2_; have GW297 := n3_; have GE297 := n4_; have NB295_297 := n5_; have NB297_295 := n6_; clear n0_ n1_ n2_ n3_ n4_ n5_ n6_; clear hb hbox hg; have hnb111 := NB297_295.out; have hnc111 := NB295_297.out; have hcz112_0 : w110.cell? ⟨gb297, 0, none⟩ = some (.int .i64 0) := (blk_cell BK297.out 0).trans rfl; have hcz112_1 : w110.cell? ⟨gb297, 1, none⟩ = some (.int .i64 0) := (blk_cell BK297.out 1).trans rfl; have hcz112_2 : w110.cell? ⟨gb297, 2, none⟩ = some (.int .i64 0) := (blk_cell BK297.out 2).trans rfl; have hfz112_0 := blk_frozen BK297.out 0; have hfz112_1 := blk_frozen BK297.out 1; have hfz112_2 := blk_frozen BK297.out 2; have hcz113_0 : w110.cell? ⟨gb295, 0, none⟩ = some (.int .i64 ((rd_T130 (rd_L9 l1 x105_3) x120_5).f0)) := (blk_cell BK295.out 0).trans rfl; have hcz113_1 : w110.cell? ⟨gb295, 1, none⟩ = some (.int .i64 ((rd_T130 (rd_L9 l1 x105_3) x120_5).f1)) := (blk_cell BK295.out 1).trans rfl; have hcz113_2 : w110.cell? ⟨gb295, 2, none⟩ = some (.int .i64 ((rd_T130 (rd_L9 l1 x105_3) x120_5).f2)) := (blk_cell BK295.out 2).trans rfl; have hfz113_0 := blk_frozen BK295.out 0; have hfz113_1 := blk_frozen BK295.out 1; have hfz113_2 := blk_frozen BK295.out 2))
                    go_roundg k6
                    case measure => have := HK1.out; have := HK2.out; have := HK3.out; have := HK4.out; have := HK5.out; have := HK6.out; omega
                    case rel => exact ⟨(wrap64 (x126_6 + 1)), sD, H', ⟨by have := HK1.out; have := HK2.out; have := HK3.out; have := HK4.out; have := HK5.out; have := HK6.out; omega⟩, ⟨by (with_reducible repeat (first | refine blk_drewN ?_ _ | refine blk_drew ?_ | refine blk_alloc ?_ _)); refine blk_far ?_ NB295_297.out _; (with_reducible repeat (first | refine blk_drewN ?_ _ | refine blk_drew ?_ | refine blk_alloc ?_ _)); refine blk_far ?_ NB295_297.out _; (with_reducible repeat (first | refine blk_drewN ?_ _ | refine blk_drew ?_ | refine blk_alloc ?_ _)); refine blk_far ?_ NB295_297.out _; (with_reducible repeat (first | refine blk_drewN ?_ _ | refine blk_drew ?_ | refine blk_alloc ?_ _)); exact BK295.out⟩, ⟨by repeat (first | (with_reducible first | exact HB.out | apply below_alloc | apply pw_below_drewN | apply below_drew1 | refine below_set ?_ GE295.out | refine below_set ?_ GE297.out) | exact HB.out)⟩⟩
                  ·rw [if_neg c92] at H
                   have c92b0 : decide (x126_6 < ((rd_L9 y289 x114_4).length : Int)) = false := decide_eq_false c92
                   clear c92
                   have H' := Aside0.mk H
                   clear H
                   go_wp2
                   go_roundg k6
                   case measure => have := HK1.out; have := HK2.out; have := HK3.out; have := HK4.out; have := HK5.out; have := HK6.out; omega
                   case rel => exact ⟨(wrap64 (x120_5 + 1)), sD, H', ⟨by have := HK1.out; have := HK2.out; have := HK3.out; have := HK4.out; have := HK5.out; have := HK6.out; omega⟩, ⟨by repeat (first | (with_reducible first | exact HB.out | apply below_alloc | apply pw_below_drewN | apply below_drew1 | refine below_set ?_ GE295.out) | exact HB.out)⟩⟩
               ·rw [if_neg c87] at H
                have c87b0 : decide (x120_5 < ((rd_L9 l1 x105_3).length : Int)) = false := decide_eq_false c87
                clear c87
                have H' := Aside0.mk H
                clear H
                go_wp2
                go_roundg k5
                case measure => have := HK1.out; have := HK2.out; have := HK3.out; have := HK4.out; have := HK5.out; omega
                case rel => exact ⟨(wrap64 (x114_4 + 1)), sD, H', ⟨by have := HK1.out; have := HK2.out; have := HK3.out; have := HK4.out; have := HK5.out; omega⟩, ⟨by repeat (first | (with_reducible first | exact HB.out | apply below_alloc | apply pw_below_drewN | apply below_drew1) | exact HB.out)⟩⟩
            ·rw [if_neg c84] at H
             have c84b0 : decide (x114_4 < (y289.length : Int)) = false := decide_eq_false c84
             clear c84
             have H' := Aside0.mk H
             clear H
             go_wp2
             go_roundg k4
             case measure => have := HK1.out; have := HK2.out; have := HK3.out; have := HK4.out; omega
             case rel => exact ⟨(wrap64 (x105_3 + 1)), sD, H', ⟨by have := HK1.out; have := HK2.out; have := HK3.out; have := HK4.out; omega⟩, ⟨by repeat (first | (with_reducible first | exact HB.out | apply below_alloc | apply pw_below_drewN | apply below_drew1) | exact HB.out)⟩⟩
         ·rw [if_neg c78] at H
          have c78b0 : decide (x105_3 < (l1.length : Int)) = false := decide_eq_false c78
          clear c78
          obtain rfl := Option.some.inj H
          go_wp2
          go_ret
          exact ⟨rE, bB⟩

end Go.Proofs.Ytecdigebnhlfhaa.OFnExactIsShared
