/- Functions of the program as plain Lean functions, with their contracts: written by this session's program ownprint.py. Conditions: none. -/
import Derived.Test.YtecdigebnhlfhaaOFnExactPlanLengthx0
import Derived.Test.YtecdigebnhlfhaaOFnExactPlanLengthx3
import Derived.Test.YtecdigebnhlfhaaOFnExactPlanLengthx4
namespace Go.Proofs.Ytecdigebnhlfhaa.OFnExactPlanLength
open Go.RowKit Go.Proofs.YtecdigebnhlfhaaW.PrintWords Go.Proofs.YtecdigebnhlfhaaW.PrintLast Go.Proofs.YtecdigebnhlfhaaW.PrintMore
attribute [local go_sem] max2_int min2_int max_two min_two max_three min_three max_four min_four   -- for this text's walks alone
set_option linter.unusedVariables false
set_option linter.unusedSimpArgs false

/-! ### spec_l7Plan: function 81 -/
mutual
def spec_l7Plan.l0 : Nat → List (S79) → Int → List (S91) → List (List Bool) → Int → Option (Bool)
 | 0, _, _, _, _, _ => none
 | k + 1, x0, x1, x3, x9, x10 => if x10 < (x3.length : Int) then (if 0 ≤ x10 then (if ((rd_T91 x3 x10).f0) = x10 then ((spec_l1In.f ((rd_T91 x3 x10).f1) 0 (wrap64 (x1 - 1))).bind fun t208 => (if t208 = true then ((spec_l1In.f ((rd_T91 x3 x10).f2) 0 500).bind fun t209 => (if t209 = true then (spec_l7Plan.l0 k x0 x1 x3 x9 (wrap64 (x10 + 1))) else (some false))) else (some false))) else (some false)) else (none)) else (spec_l7Plan.l1 k x0 x3 x9 0)
def spec_l7Plan.l1 : Nat → List (S79) → List (S91) → List (List Bool) → Int → Option (Bool)
 | 0, _, _, _, _ => none
 | k + 1, x0, x3, x9, x12 => if x12 < (x3.length : Int) then (spec_l7Plan.l2 k x0 x3 x9 x12 0) else (some true)
def spec_l7Plan.l2 : Nat → List (S79) → List (S91) → List (List Bool) → Int → Int → Option (Bool)
 | 0, _, _, _, _, _ => none
 | k + 1, x0, x3, x9, x12, x13 => if x13 < (x3.length : Int) then (if 0 ≤ x12 then (if x12 < (x3.length : Int) then (if 0 ≤ x13 then (if x12 < (x0.length : Int) then (if x12 < (x9.length : Int) then (if x13 < ((rd_L7 x9 x12).length : Int) then (if rdOf false (rd_L7 x9 x12) x13 = true then (if (((rd_T91 x3 x13).f2) ≥ (wrap64 (((rd_T91 x3 x12).f2) + ((rd_T79 x0 x12).f0)))) then (if x12 < x13 then (if ((rd_T91 x3 x12).f1) = ((rd_T91 x3 x13).f1) then (spec_l7Plan.l2 k x0 x3 x9 x12 (wrap64 (x13 + 1))) else (spec_l7Plan.l2 k x0 x3 x9 x12 (wrap64 (x13 + 1)))) else (spec_l7Plan.l2 k x0 x3 x9 x12 (wrap64 (x13 + 1)))) else (some false)) else (if x12 < x13 then (if ((rd_T91 x3 x12).f1) = ((rd_T91 x3 x13).f1) then (if (((rd_T91 x3 x13).f2) ≥ (wrap64 (((rd_T91 x3 x12).f2) + ((rd_T79 x0 x12).f0)))) then (spec_l7Plan.l2 k x0 x3 x9 x12 (wrap64 (x13 + 1))) else (if x13 < (x0.length : Int) then (if ((rd_T91 x3 x12).f2) < (wrap64 (((rd_T91 x3 x13).f2) + ((rd_T79 x0 x13).f0))) then (some false) else (spec_l7Plan.l2 k x0 x3 x9 x12 (wrap64 (x13 + 1)))) else (none))) else (spec_l7Plan.l2 k x0 x3 x9 x12 (wrap64 (x13 + 1)))) else (spec_l7Plan.l2 k x0 x3 x9 x12 (wrap64 (x13 + 1))))) else (none)) else (none)) else (none)) else (none)) else (none)) else (none)) else (spec_l7Plan.l1 k x0 x3 x9 (wrap64 (x12 + 1)))
end
def spec_l7Plan.f (k : Nat) (l0 : List (S79)) (a1 : Int) (l2 : List (S71)) (l3 : List (S91)) : Option (Bool) := (spec_l4Table.f k (l0.length : Int) l2).bind fun t203 => (if (l3.length : Int) = (l0.length : Int) then (spec_l7Plan.l0 k l0 a1 l3 t203 0) else (some false))
theorem spec_l7Plan.mono_l : ∀ k, (∀ y0 y1 y2 y3 y4, LeO (spec_l7Plan.l0 k y0 y1 y2 y3 y4) (spec_l7Plan.l0 (k + 1) y0 y1 y2 y3 y4)) ∧ (∀ y0 y1 y2 y3, LeO (spec_l7Plan.l1 k y0 y1 y2 y3) (spec_l7Plan.l1 (k + 1) y0 y1 y2 y3)) ∧ (∀ y0 y1 y2 y3 y4, LeO (spec_l7Plan.l2 k y0 y1 y2 y3 y4) (spec_l7Plan.l2 (k + 1) y0 y1 y2 y3 y4))
 | 0 => ⟨fun _ _ _ _ _ r h => by simp [spec_l7Plan.l0] at h, fun _ _ _ _ r h => by simp [spec_l7Plan.l1] at h, fun _ _ _ _ _ r h => by simp [spec_l7Plan.l2] at h⟩
 | k + 1 => by
  obtain ⟨ih0, ih1, ih2⟩ := spec_l7Plan.mono_l k
  refine ⟨?_, ?_, ?_⟩
  ·intro y0 y1 y2 y3 y4
   unfold spec_l7Plan.l0
   repeat' first
   | (with_reducible exact ih0 _ _ _ _ _)
   | (with_reducible exact ih1 _ _ _ _)
   | (with_reducible exact ih2 _ _ _ _ _)
   | (with_reducible exact spec_l4Table.mono _ _ _)
   | (with_reducible exact LeO.refl _)
   | (with_reducible exact LeO.none _)
   | (with_reducible refine LeO.ite ?_ ?_)
   | (with_reducible refine LeO.bind ?_ (fun _ => ?_))
   | exact ih0 _ _ _ _ _
   | exact ih1 _ _ _ _
   | exact ih2 _ _ _ _ _
   | exact spec_l4Table.mono _ _ _
   | exact LeO.none _
   | refine LeO.ite ?_ ?_
   | refine LeO.bind ?_ (fun _ => ?_)
  ·intro y0 y1 y2 y3
   unfold spec_l7Plan.l1
   repeat' first
   | (with_reducible exact ih0 _ _ _ _ _)
   | (with_reducible exact ih1 _ _ _ _)
   | (with_reducible exact ih2 _ _ _ _ _)
   | (with_reducible exact spec_l4Table.mono _ _ _)
   | (with_reducible exact LeO.refl _)
   | (with_reducible exact LeO.none _)
   | (with_reducible refine LeO.ite ?_ ?_)
   | (with_reducible refine LeO.bind ?_ (fun _ => ?_))
   | exact ih0 _ _ _ _ _
   | exact ih1 _ _ _ _
   | exact ih2 _ _ _ _ _
   | exact spec_l4Table.mono _ _ _
   | exact LeO.none _
   | refine LeO.ite ?_ ?_
   | refine LeO.bind ?_ (fun _ => ?_)
  ·intro y0 y1 y2 y3 y4
   unfold spec_l7Plan.l2
   repeat' first
   | (with_reducible exact ih0 _ _ _ _ _)
   | (with_reducible exact ih1 _ _ _ _)
   | (with_reducible exact ih2 _ _ _ _ _)
   | (with_reducible exact spec_l4Table.mono _ _ _)
   | (with_reducible exact LeO.refl _)
   | (with_reducible exact LeO.none _)
   | (with_reducible refine LeO.ite ?_ ?_)
   | (with_reducible refine LeO.bind ?_ (fun _ => ?_))
   | exact ih0 _ _ _ _ _
   | exact ih1 _ _ _ _
   | exact ih2 _ _ _ _ _
   | exact spec_l4Table.mono _ _ _
   | exact LeO.none _
   | refine LeO.ite ?_ ?_
   | refine LeO.bind ?_ (fun _ => ?_)
theorem spec_l7Plan.mono : ∀ a0 a1 a2 a3 k, LeO (spec_l7Plan.f k a0 a1 a2 a3) (spec_l7Plan.f (k + 1) a0 a1 a2 a3) := by
 intro a0 a1 a2 a3 k
 obtain ⟨ih0, ih1, ih2⟩ := spec_l7Plan.mono_l k
 unfold spec_l7Plan.f
 repeat' first
   | (with_reducible exact ih0 _ _ _ _ _)
   | (with_reducible exact ih1 _ _ _ _)
   | (with_reducible exact ih2 _ _ _ _ _)
   | (with_reducible exact spec_l4Table.mono _ _ _)
   | (with_reducible exact LeO.refl _)
   | (with_reducible exact LeO.none _)
   | (with_reducible refine LeO.ite ?_ ?_)
   | (with_reducible refine LeO.bind ?_ (fun _ => ?_))
   | exact ih0 _ _ _ _ _
   | exact ih1 _ _ _ _
   | exact ih2 _ _ _ _ _
   | exact spec_l4Table.mono _ _ _
   | exact LeO.none _
   | refine LeO.ite ?_ ?_
   | refine LeO.bind ?_ (fun _ => ?_)
def spec_l7Plan.T16 : Bool × List (List Nat × List Nat) := (true, [([], []), ([], []), ([0, 1], [0, 1]), ([2], [2]), ([], []), ([], []), ([4, 5], [4, 5]), ([6], [6]), ([], []), ([], []), ([8, 3, 0, 1, 2, 3, 8, 9], [3, 8]), ([9, 7, 10, 0, 1, 2, 3, 4, 5, 6, 7, 8, 9, 10], [7, 9])])
def spec_l7Plan.B16 : List Nat := [0, 0, 3, 7, 0, 0, 48, 112, 0, 0, 783, 2047]
theorem spec_l7Plan.tab16 : rtab .any (opsOf Try.f81 16) = spec_l7Plan.T16 := by kernel_rfl
theorem spec_l7Plan.bits16 : waitsOk spec_l7Plan.T16.2 spec_l7Plan.B16 = true := by kernel_rfl
def spec_l7Plan.T17 : Bool × List (List Nat × List Nat) := (true, [([], []), ([0], [0]), ([], []), ([2], [2]), ([], []), ([], []), ([4, 5], [4, 5]), ([6], [6]), ([7], [7]), ([3, 8], [3, 8]), ([1, 9], [1, 9]), ([10, 0, 1, 2, 3, 4, 5, 6, 7, 8, 9, 10], [10])])
def spec_l7Plan.B17 : List Nat := [0, 1, 0, 4, 0, 0, 48, 112, 240, 508, 1023, 2047]
theorem spec_l7Plan.tab17 : rtab .any (opsOf Try.f81 17) = spec_l7Plan.T17 := by kernel_rfl
theorem spec_l7Plan.bits17 : waitsOk spec_l7Plan.T17.2 spec_l7Plan.B17 = true := by kernel_rfl
def spec_l7Plan.T18 : Bool × List (List Nat × List Nat) := (true, [([], []), ([], []), ([0, 1], [0, 1]), ([2], [2]), ([], []), ([3, 4], [3, 4]), ([5], [5]), ([6], [6]), ([7], [7]), ([8, 7], [7, 8]), ([7, 9], [7, 9]), ([10, 7], [10]), ([11], [11]), ([11], [11]), ([12, 13, 11], [11, 12, 13]), ([14, 11, 11], [11, 14]), ([15], [15]), ([16, 15], [15, 16]), ([15], [15]), ([18, 15], [15, 18]), ([17, 19, 15], [15, 17, 19]), ([15, 20, 11], [11, 15, 20]), ([21, 15, 11], [11, 21]), ([22], [22]), ([23, 22], [22, 23]), ([22, 24, 11], [11, 22, 24]), ([25, 22, 11], [11, 25]), ([26], [26]), ([27, 26], [26, 27]), ([26], [26]), ([29, 26], [26, 29]), ([26], [26]), ([26], [26]), ([31, 32, 26], [26, 31, 32]), ([33, 26], [26, 33]), ([34, 26], [26, 34]), ([30, 35, 26], [26, 30, 35]), ([28, 36, 26], [26, 28, 36]), ([26, 37, 11], [11, 26, 37]), ([11, 38], [11, 38])])
def spec_l7Plan.B18 : List Nat := [0, 0, 3, 7, 0, 31, 63, 127, 255, 511, 1023, 2047, 4095, 4095, 16383, 32767, 65535, 131071, 65535, 327679, 1048575, 2097151, 4194303, 8388607, 16777215, 33554431, 67108863, 134217727, 268435455, 134217727, 671088639, 134217727, 134217727, 6576668671, 15166603263, 32346472447, 68316823551, 137438953471, 274877906943, 549755813887]
theorem spec_l7Plan.tab18 : rtab .any (opsOf Try.f81 18) = spec_l7Plan.T18 := by kernel_rfl
theorem spec_l7Plan.bits18 : waitsOk spec_l7Plan.T18.2 spec_l7Plan.B18 = true := by kernel_rfl
set_option maxHeartbeats 8000000 in
set_option maxRecDepth 100000 in
theorem spec_l7Plan.calls (k : Nat) (A0 : Option Addr) (c0 : Nat) (l0 : List (S79)) (a1 : Int) (A2 : Option Addr) (c2 : Nat) (l2 : List (S71)) (A3 : Option Addr) (c3 : Nat) (l3 : List (S91)) (r : Bool) (w : World) (hr0 : Kd.C k79 w A0 l0.length l0) (hc0 : l0.length ≤ c0) (hr2 : Kd.C k71 w A2 l2.length l2) (hc2 : l2.length ≤ c2) (hr3 : Kd.C k91 w A3 l3.length l3) (hc3 : l3.length ≤ c3) (h : spec_l7Plan.f k l0 a1 l2 l3 = some r) :
  Calls Try.prog 81 #[.slice A0 l0.length c0, .int .i64 a1, .slice A2 l2.length c2, .slice A3 l3.length c3] w fun e w' => e = .returned (.bool r) ∧ Below w.heap.size w w' := by
 have hu91 := Try.underlying91
 have HR0 := Aside0.mk hr0
 have HC0 := Aside0.mk hc0
 clear hr0 hc0
 have HR2 := Aside0.mk hr2
 have HC2 := Aside0.mk hc2
 clear hr2 hc2
 have HR3 := Aside0.mk hr3
 have HC3 := Aside0.mk hc3
 clear hr3 hc3
 have HB := Aside0.mk (Below.refl w.heap.size w)
 have H : ((spec_l4Table.f k (l0.length : Int) l2).bind fun t203 => (if (l3.length : Int) = (l0.length : Int) then (spec_l7Plan.l0 k l0 a1 l3 t203 0) else (some false))) = some r := h
 clear h
 replace H := Option.bind_eq_some_iff.mp H
 obtain ⟨t203, A50, H⟩ := H
 replace H : (if (l3.length : Int) = (l0.length : Int) then (spec_l7Plan.l0 k l0 a1 l3 t203 0) else (some false)) = some r := H
 have A5 := Aside0.mk A50
 clear A50
 by_cases c6 : (l3.length : Int) = (l0.length : Int)
 ·rw [if_pos c6] at H
  have c6b0 : ((l3.length : Int) == (l0.length : Int)) = true := beq_iff_eq.mpr c6
  have c6b1 : ((l3.length : Int) != (l0.length : Int)) = false := bne_eq_false_iff_eq.mpr c6
  have c6b2 : (l3.length == l0.length) = true := by first | simpa using c6 | (simp at c6 ⊢; omega)
  clear c6
  have H' := Aside0.mk H
  clear H
  go_enter Try.func81, Try.ntmps81
  go_wp2_with (first | ((with_reducible refine gate_callee (f := 57) rfl ?_); refine goesL_ (some 20) rfl rfl Try.func57 (by kernel_rfl) rfl #[.int .i64 (l0.length : Int), .slice A2 l2.length c2] rfl aE ?_; (with_reducible refine (spec_l4Table.calls k (l0.length : Int) _ _ l2 t203 _ ?side1 ?side2 A5.out).mono ?_); (case side1 => repeat (first | exact HR2.out | (with_reducible refine Kd.C_alloc ?_ _) | (with_reducible refine Kd.C_drewN ?_ _) | (with_reducible refine Kd.C_drew ?_))); (case side2 => exact HC2.out); rintro e w7 ⟨v204, rfl, ho0, hb⟩; refine ⟨_, rfl, ?_⟩; have n0_ := Aside0.mk (Kd.S_lower ho0 (below_size bB)); have n1_ := Aside0.mk (below_step bB hb); clear HB; have HO205 := n0_; have HB := n1_; clear n0_ n1_; (try clear hb); (try clear hk); (try clear ho0)))
  go_loopg [10] k (fun kq v10 w' => ∃ (x10_1 : Int), v10 = .int .i64 x10_1 ∧ Aside0 (spec_l7Plan.l0 kq l0 a1 l3 t203 x10_1 = some r) ∧ Aside0 (kq ≤ k) ∧ Aside0 (Kd.S (Kd.slice 4 Kd.bool) 80 w' w.heap.size (fun _ => True) v204 t203) ∧ Aside0 (Below w.heap.size w w'))
  case atStart => exact ⟨(0), sD, H', ⟨Nat.le_refl _⟩, ⟨kS⟩, ⟨by repeat (first | (with_reducible first | exact HB.out | apply below_alloc | apply pw_below_drewN | apply below_drew1) | exact HB.out)⟩⟩
  case round =>
   clear H'
   try clear c2
   try clear p2
   try clear c3
   try clear c5
   try clear c6
   try clear c6b0
   try clear c6b1
   try clear c6b2
   obtain ⟨x10_1, rfl, HA, HK1, HO_9, HB⟩ := hrel
   cases gk with
   | zero => exact absurd HA.out (by simp [spec_l7Plan.l0])
   | succ k1 =>
    have H := HA.out
    clear HA
    simp only [spec_l7Plan.l0] at H
    by_cases c8 : x10_1 < (l3.length : Int)
    ·rw [if_pos c8] at H
     have c8b0 : decide (x10_1 < (l3.length : Int)) = true := decide_eq_true c8
     clear c8
     by_cases c9 : 0 ≤ x10_1; rotate_left
     ·rw [if_neg c9] at H; exact absurd H (by simp)
     rw [if_pos c9] at H
     have c9b0 : decide (0 ≤ x10_1) = true := decide_eq_true c9
     clear c9
     by_cases c10 : ((rd_T91 l3 x10_1).f0) = x10_1
     ·rw [if_pos c10] at H
      have c10b0 : (((rd_T91 l3 x10_1).f0) == x10_1) = true := beq_iff_eq.mpr c10
      have c10b1 : (((rd_T91 l3 x10_1).f0) != x10_1) = false := bne_eq_false_iff_eq.mpr c10
      clear c10
      replace H := Option.bind_eq_some_iff.mp H
      obtain ⟨t208, A110, H⟩ := H
      replace H : (if t208 = true then ((spec_l1In.f ((rd_T91 l3 x10_1).f2) 0 500).bind fun t209 => (if t209 = true then (spec_l7Plan.l0 k1 l0 a1 l3 t203 (wrap64 (x10_1 + 1))) else (some false))) else (some false)) = some r := H
      have A11 := Aside0.mk A110
      clear A110
      by_cases c12 : t208 = true
      ·subst c12
       have H1 : ((spec_l1In.f ((rd_T91 l3 x10_1).f2) 0 500).bind fun t209 => (if t209 = true then (spec_l7Plan.l0 k1 l0 a1 l3 t203 (wrap64 (x10_1 + 1))) else (some false))) = some r := by rw [if_pos rfl] at H; exact H
       clear H
       have H := H1
       clear H1
       replace H := Option.bind_eq_some_iff.mp H
       obtain ⟨t209, A130, H⟩ := H
       replace H : (if t209 = true then (spec_l7Plan.l0 k1 l0 a1 l3 t203 (wrap64 (x10_1 + 1))) else (some false)) = some r := H
       have A13 := Aside0.mk A130
       clear A130
       by_cases c14 : t209 = true
       ·subst c14
        have H1 : (spec_l7Plan.l0 k1 l0 a1 l3 t203 (wrap64 (x10_1 + 1))) = some r := by rw [if_pos rfl] at H; exact H
        clear H
        have H := H1
        clear H1
        have H' := Aside0.mk H
        clear H
        have p206 : 0 ≤ (x10_1 : Int) := oD
        have q206 : x10_1 < (l3.length : Int) := oD
        obtain ⟨ad206, e206, hx206_0, hx206_1, hx206_2⟩ := at_T91 HR3.out x10_1 p206 q206
        cases e206
        replace hx206_0 := (cB HB.out hx206_0 :)
        replace hx206_1 := (cB HB.out hx206_1 :)
        replace hx206_2 := (cB HB.out hx206_2 :)
        replace p206 := eq_true p206
        replace q206 := eq_true q206
        go_wp2_with (first | ((with_reducible refine gate_dst (N := 11) rfl ?_); refine bE 11 #[.int .i64 0, .int .i64 0, .int .i64 0] 91 ?_; intro gb207 hg w15 hbox hb; have n0_ := Aside0.mk (Kd.S_below (by (with_reducible repeat (first | apply Kd.S_alloc | apply Kd.S_drewN | apply Kd.S_drew)); exact HO_9.out) hb); have n1_ := Aside0.mk (below_step bB hb); have n2_ := Aside0.mk (hbox); have n3_ := Aside0.mk ((by rw [hg]; exact (below_size bB) : w.heap.size ≤ gb207)); have n4_ := Aside0.mk ((by rw [hg]; exact (below_size bB) : w.heap.size ≤ gb207)); clear HO_9; clear HB; have HO_9 := n0_; have HB := n1_; have BK207 := n2_; have GW207 := n3_; have GE207 := n4_; clear n0_ n1_ n2_ n3_ n4_; clear hb hbox hg; have hcz16_0 : w15.cell? ⟨gb207, 0, none⟩ = some (.int .i64 0) := (blk_cell BK207.out 0).trans rfl; have hcz16_1 : w15.cell? ⟨gb207, 1, none⟩ = some (.int .i64 0) := (blk_cell BK207.out 1).trans rfl; have hcz16_2 : w15.cell? ⟨gb207, 2, none⟩ = some (.int .i64 0) := (blk_cell BK207.out 2).trans rfl; have hfz16_0 := blk_frozen BK207.out 0; have hfz16_1 := blk_frozen BK207.out 1; have hfz16_2 := blk_frozen BK207.out 2) | (go_at_call 116; (with_reducible refine (spec_l1In.calls ((rd_T91 l3 x10_1).f1) 0 (wrap64 (a1 - 1)) true _ A11.out).mono ?_); rintro e w' ⟨rfl, ⟨nd, rfl⟩⟩) | (go_at_call 116; (with_reducible refine (spec_l1In.calls ((rd_T91 l3 x10_1).f2) 0 500 true _ A13.out).mono ?_); rintro e w' ⟨rfl, ⟨nd, rfl⟩⟩))
        go_roundg k1
        case measure => have := HK1.out; omega
        case rel => exact ⟨(wrap64 (x10_1 + 1)), sD, H', ⟨by have := HK1.out; omega⟩, ⟨by (with_reducible repeat (first | apply Kd.S_alloc | apply Kd.S_drewN | apply Kd.S_drew)); exact Kd.S_mono (Kd.S_far (p := ⟨gb207, 2, none⟩) (Kd.S_far (p := ⟨gb207, 1, none⟩) (Kd.S_far (p := ⟨gb207, 0, none⟩) (Kd.S_types HO_9.out BK207.out (by decide)) (fun _ hk => hk.2) (.int .i64 ((rd_T91 l3 x10_1).f0))) (fun _ hk => hk.2) (.int .i64 ((rd_T91 l3 x10_1).f1))) (fun _ hk => hk.2) (.int .i64 ((rd_T91 l3 x10_1).f2))) (fun _ hk => trivial)⟩, ⟨by repeat (first | (with_reducible first | exact HB.out | apply below_alloc | apply pw_below_drewN | apply below_drew1 | refine below_set ?_ GE207.out) | exact HB.out)⟩⟩
       ·replace c14 := Bool.eq_false_iff.mpr c14
        subst c14
        have H1 : (some false) = some r := by rw [if_neg (show ¬ (false = true) by decide)] at H; exact H
        clear H
        have H := H1
        clear H1
        obtain rfl := Option.some.inj H
        have p206 : 0 ≤ (x10_1 : Int) := oD
        have q206 : x10_1 < (l3.length : Int) := oD
        obtain ⟨ad206, e206, hx206_0, hx206_1, hx206_2⟩ := at_T91 HR3.out x10_1 p206 q206
        cases e206
        replace hx206_0 := (cB HB.out hx206_0 :)
        replace hx206_1 := (cB HB.out hx206_1 :)
        replace hx206_2 := (cB HB.out hx206_2 :)
        replace p206 := eq_true p206
        replace q206 := eq_true q206
        go_wp2_with (first | ((with_reducible refine gate_dst (N := 11) rfl ?_); refine bE 11 #[.int .i64 0, .int .i64 0, .int .i64 0] 91 ?_; intro gb207 hg w17 hbox hb; have n0_ := Aside0.mk (Kd.S_below (by (with_reducible repeat (first | apply Kd.S_alloc | apply Kd.S_drewN | apply Kd.S_drew)); exact HO_9.out) hb); have n1_ := Aside0.mk (below_step bB hb); have n2_ := Aside0.mk (hbox); have n3_ := Aside0.mk ((by rw [hg]; exact (below_size bB) : w.heap.size ≤ gb207)); have n4_ := Aside0.mk ((by rw [hg]; exact (below_size bB) : w.heap.size ≤ gb207)); clear HO_9; clear HB; have HO_9 := n0_; have HB := n1_; have BK207 := n2_; have GW207 := n3_; have GE207 := n4_; clear n0_ n1_ n2_ n3_ n4_; clear hb hbox hg; have hcz18_0 : w17.cell? ⟨gb207, 0, none⟩ = some (.int .i64 0) := (blk_cell BK207.out 0).trans rfl; have hcz18_1 : w17.cell? ⟨gb207, 1, none⟩ = some (.int .i64 0) := (blk_cell BK207.out 1).trans rfl; have hcz18_2 : w17.cell? ⟨gb207, 2, none⟩ = some (.int .i64 0) := (blk_cell BK207.out 2).trans rfl; have hfz18_0 := blk_frozen BK207.out 0; have hfz18_1 := blk_frozen BK207.out 1; have hfz18_2 := blk_frozen BK207.out 2) | (go_at_call 116; (with_reducible refine (spec_l1In.calls ((rd_T91 l3 x10_1).f1) 0 (wrap64 (a1 - 1)) true _ A11.out).mono ?_); rintro e w' ⟨rfl, ⟨nd, rfl⟩⟩) | (go_at_call 116; (with_reducible refine (spec_l1In.calls ((rd_T91 l3 x10_1).f2) 0 500 false _ A13.out).mono ?_); rintro e w' ⟨rfl, ⟨nd, rfl⟩⟩))
        go_ret
        exact ⟨rE, bS⟩
      ·replace c12 := Bool.eq_false_iff.mpr c12
       subst c12
       have H1 : (some false) = some r := by rw [if_neg (show ¬ (false = true) by decide)] at H; exact H
       clear H
       have H := H1
       clear H1
       obtain rfl := Option.some.inj H
       have p206 : 0 ≤ (x10_1 : Int) := oD
       have q206 : x10_1 < (l3.length : Int) := oD
       obtain ⟨ad206, e206, hx206_0, hx206_1, hx206_2⟩ := at_T91 HR3.out x10_1 p206 q206
       cases e206
       replace hx206_0 := (cB HB.out hx206_0 :)
       replace hx206_1 := (cB HB.out hx206_1 :)
       replace hx206_2 := (cB HB.out hx206_2 :)
       replace p206 := eq_true p206
       replace q206 := eq_true q206
       go_wp2_with (first | ((with_reducible refine gate_dst (N := 11) rfl ?_); refine bE 11 #[.int .i64 0, .int .i64 0, .int .i64 0] 91 ?_; intro gb207 hg w19 hbox hb; have n0_ := Aside0.mk (Kd.S_below (by (with_reducible repeat (first | apply Kd.S_alloc | apply Kd.S_drewN | apply Kd.S_drew)); exact HO_9.out) hb); have n1_ := Aside0.mk (below_step bB hb); have n2_ := Aside0.mk (hbox); have n3_ := Aside0.mk ((by rw [hg]; exact (below_size bB) : w.heap.size ≤ gb207)); have n4_ := Aside0.mk ((by rw [hg]; exact (below_size bB) : w.heap.size ≤ gb207)); clear HO_9; clear HB; have HO_9 := n0_; have HB := n1_; have BK207 := n2_; have GW207 := n3_; have GE207 := n4_; clear n0_ n1_ n2_ n3_ n4_; clear hb hbox hg; have hcz20_0 : w19.cell? ⟨gb207, 0, none⟩ = some (.int .i64 0) := (blk_cell BK207.out 0).trans rfl; have hcz20_1 : w19.cell? ⟨gb207, 1, none⟩ = some (.int .i64 0) := (blk_cell BK207.out 1).trans rfl; have hcz20_2 : w19.cell? ⟨gb207, 2, none⟩ = some (.int .i64 0) := (blk_cell BK207.out 2).trans rfl; have hfz20_0 := blk_frozen BK207.out 0; have hfz20_1 := blk_frozen BK207.out 1; have hfz20_2 := blk_frozen BK207.out 2) | (go_at_call 116; (with_reducible refine (spec_l1In.calls ((rd_T91 l3 x10_1).f1) 0 (wrap64 (a1 - 1)) false _ A11.out).mono ?_); rintro e w' ⟨rfl, ⟨nd, rfl⟩⟩))
       go_ret
       exact ⟨rE, bS⟩
     ·rw [if_neg c10] at H
      have c10b0 : (((rd_T91 l3 x10_1).f0) == x10_1) = false := beq_eq_false_iff_ne.mpr c10
      have c10b1 : (((rd_T91 l3 x10_1).f0) != x10_1) = true := bne_iff_ne.mpr c10
      obtain rfl := Option.some.inj H
      have p206 : 0 ≤ (x10_1 : Int) := oD
      have q206 : x10_1 < (l3.length : Int) := oD
      obtain ⟨ad206, e206, hx206_0, hx206_1, hx206_2⟩ := at_T91 HR3.out x10_1 p206 q206
      cases e206
      replace hx206_0 := (cB HB.out hx206_0 :)
      replace hx206_1 := (cB HB.out hx206_1 :)
      replace hx206_2 := (cB HB.out hx206_2 :)
      replace p206 := eq_true p206
      replace q206 := eq_true q206
      go_wp2_with (first | ((with_reducible refine gate_dst (N := 11) rfl ?_); refine bE 11 #[.int .i64 0, .int .i64 0, .int .i64 0] 91 ?_; intro gb207 hg w21 hbox hb; have n0_ := Aside0.mk (Kd.S_below (by (with_reducible repeat (first | apply Kd.S_alloc | apply Kd.S_drewN | apply Kd.S_drew)); exact HO_9.out) hb); have n1_ := Aside0.mk (below_step bB hb); have n2_ := Aside0.mk (hbox); have n3_ := Aside0.mk ((by rw [hg]; exact (below_size bB) : w.heap.size ≤ gb207)); have n4_ := Aside0.mk ((by rw [hg]; exact (below_size bB) : w.heap.size ≤ gb207)); clear HO_9; clear HB; have HO_9 := n0_; have HB := n1_; have BK207 := n2_; have GW207 := n3_; have GE207 := n4_; clear n0_ n1_ n2_ n3_ n4_; clear hb hbox hg; have hcz22_0 : w21.cell? ⟨gb207, 0, none⟩ = some (.int .i64 0) := (blk_cell BK207.out 0).trans rfl; have hcz22_1 : w21.cell? ⟨gb207, 1, none⟩ = some (.int .i64 0) := (blk_cell BK207.out 1).trans rfl; have hcz22_2 : w21.cell? ⟨gb207, 2, none⟩ = some (.int .i64 0) := (blk_cell BK207.out 2).trans rfl; have hfz22_0 := blk_frozen BK207.out 0; have hfz22_1 := blk_frozen BK207.out 1; have hfz22_2 := blk_frozen BK207.out 2))
      go_ret
      exact ⟨rE, bS⟩
    ·rw [if_neg c8] at H
     have c8b0 : decide (x10_1 < (l3.length : Int)) = false := decide_eq_false c8
     clear c8
     have H' := Aside0.mk H
     clear H
     go_wp2
     go_loopg [12] k1 (fun kq v12 w' => ∃ (x12_2 : Int), v12 = .int .i64 x12_2 ∧ Aside0 (spec_l7Plan.l1 kq l0 l3 t203 x12_2 = some r) ∧ Aside0 (kq ≤ k1) ∧ Aside0 (Kd.S (Kd.slice 4 Kd.bool) 80 w' w.heap.size (fun _ => True) v204 t203) ∧ Aside0 (Below w.heap.size w w'))
     case atStart => exact ⟨(0), sD, H', ⟨Nat.le_refl _⟩, ⟨kS⟩, ⟨by repeat (first | (with_reducible first | exact HB.out | apply below_alloc | apply pw_below_drewN | apply below_drew1) | exact HB.out)⟩⟩
     case round =>
      clear H'
      try clear c1
      try clear c2
      try clear p2
      try clear q2
      try clear hx2
      try clear c3
      try clear c5
      try clear c6
      try clear c6b0
      try clear c6b1
      try clear c6b2
      try clear p6
      try clear c8
      try clear c8b0
      try clear c9
      try clear c9b0
      try clear c10
      try clear c10b0
      try clear c10b1
      try clear c12
      try clear c14
      try clear p20
      try clear q20
      try clear hx20
      try clear hcz16_0
      try clear hcz16_1
      try clear hcz16_2
      try clear hcz18_0
      try clear hcz18_1
      try clear hcz18_2
      try clear hcz20_0
      try clear hcz20_1
      try clear hcz20_2
      try clear hcz22_0
      try clear hcz22_1
      try clear hcz22_2
      try clear hfz16_0
      try clear hfz16_1
      try clear hfz16_2
      try clear hfz18_0
      try clear hfz18_1
      try clear hfz18_2
      try clear hfz20_0
      try clear hfz20_1
      try clear hfz20_2
      try clear hfz22_0
      try clear hfz22_1
      try clear hfz22_2
      try clear hx206_0
      try clear hx206_1
      try clear hx206_2
      try clear p2
      try clear p206
      try clear q206
      obtain ⟨x12_2, rfl, HA, HK2, HO_9, HB⟩ := hrel
      cases gk with
      | zero => exact absurd HA.out (by simp [spec_l7Plan.l1])
      | succ k2 =>
       have H := HA.out
       clear HA
       simp only [spec_l7Plan.l1] at H
       by_cases c23 : x12_2 < (l3.length : Int)
       ·rw [if_pos c23] at H
        have c23b0 : decide (x12_2 < (l3.length : Int)) = true := decide_eq_true c23
        clear c23
        have H' := Aside0.mk H
        clear H
        go_wp2
        go_loopg [13] k2 (fun kq v13 w' => ∃ (x13_3 : Int), v13 = .int .i64 x13_3 ∧ Aside0 (spec_l7Plan.l2 kq l0 l3 t203 x12_2 x13_3 = some r) ∧ Aside0 (kq ≤ k2) ∧ Aside0 (Kd.S (Kd.slice 4 Kd.bool) 80 w' w.heap.size (fun _ => True) v204 t203) ∧ Aside0 (Below w.heap.size w w'))
        case atStart => exact ⟨(0), sD, H', ⟨Nat.le_refl _⟩, ⟨kS⟩, ⟨by repeat (first | (with_reducible first | exact HB.out | apply below_alloc | apply pw_below_drewN | apply below_drew1) | exact HB.out)⟩⟩
        case round =>
         clear H'
         try clear c1
         try clear c2
         try clear p2
         try clear q2
         try clear hx2
         try clear c3
         try clear c5
         try clear c6
         try clear c6b0
         try clear c6b1
         try clear c6b2
         try clear p6
         try clear c8
         try clear c8b0
         try clear c9
         try clear c9b0
         try clear c10
         try clear c10b0
         try clear c10b1
         try clear c12
         try clear c14
         try clear p20
         try clear q20
         try clear hx20
         try clear c23
         try clear c23b0
         try clear hcz16_0
         try clear hcz16_1
         try clear hcz16_2
         try clear hcz18_0
         try clear hcz18_1
         try clear hcz18_2
         try clear hcz20_0
         try clear hcz20_1
         try clear hcz20_2
         try clear hcz22_0
         try clear hcz22_1
         try clear hcz22_2
         try clear hfz16_0
         try clear hfz16_1
         try clear hfz16_2
         try clear hfz18_0
         try clear hfz18_1
         try clear hfz18_2
         try clear hfz20_0
         try clear hfz20_1
         try clear hfz20_2
         try clear hfz22_0
         try clear hfz22_1
         try clear hfz22_2
         try clear hx206_0
         try clear hx206_1
         try clear hx206_2
         try clear p2
         try clear p20
         try clear p206
         try clear p6
         try clear q2
         try clear q20
         try clear q206
         obtain ⟨x13_3, rfl, HA, HK3, HO_9, HB⟩ := hrel
         cases gk with
         | zero => exact absurd HA.out (by simp [spec_l7Plan.l2])
         | succ k3 =>
          have H := HA.out
          clear HA
          simp only [spec_l7Plan.l2] at H
          by_cases c24 : x13_3 < (l3.length : Int)
          ·rw [if_pos c24] at H
           have c24b0 : decide (x13_3 < (l3.length : Int)) = true := decide_eq_true c24
           clear c24
           by_cases c25 : 0 ≤ x12_2; rotate_left
           ·rw [if_neg c25] at H; exact absurd H (by simp)
           rw [if_pos c25] at H
           have c25b0 : decide (0 ≤ x12_2) = true := decide_eq_true c25
           clear c25
           by_cases c26 : x12_2 < (l3.length : Int); rotate_left
           ·rw [if_neg c26] at H; exact absurd H (by simp)
           rw [if_pos c26] at H
           have c26b0 : decide (x12_2 < (l3.length : Int)) = true := decide_eq_true c26
           clear c26
           by_cases c27 : 0 ≤ x13_3; rotate_left
           ·rw [if_neg c27] at H; exact absurd H (by simp)
           rw [if_pos c27] at H
           have c27b0 : decide (0 ≤ x13_3) = true := decide_eq_true c27
           clear c27
           by_cases c28 : x12_2 < (l0.length : Int); rotate_left
           ·rw [if_neg c28] at H; exact absurd H (by simp)
           rw [if_pos c28] at H
           have c28b0 : decide (x12_2 < (l0.length : Int)) = true := decide_eq_true c28
           clear c28
           by_cases c29 : x12_2 < (t203.length : Int); rotate_left
           ·rw [if_neg c29] at H; exact absurd H (by simp)
           rw [if_pos c29] at H
           have c29b0 : decide (x12_2 < (t203.length : Int)) = true := decide_eq_true c29
           clear c29
           by_cases c30 : x13_3 < ((rd_L7 t203 x12_2).length : Int); rotate_left
           ·rw [if_neg c30] at H; exact absurd H (by simp)
           rw [if_pos c30] at H
           have c30b0 : decide (x13_3 < ((rd_L7 t203 x12_2).length : Int)) = true := decide_eq_true c30
           clear c30
           obtain ⟨bq31, hbq31⟩ : ∃ b_ : Bool, b_ = (rdOf false (rd_L7 t203 x12_2) x13_3) := ⟨_, rfl⟩
           replace H : (if bq31 = true then (if (((rd_T91 l3 x13_3).f2) ≥ (wrap64 (((rd_T91 l3 x12_2).f2) + ((rd_T79 l0 x12_2).f0)))) then (if x12_2 < x13_3 then (if ((rd_T91 l3 x12_2).f1) = ((rd_T91 l3 x13_3).f1) then (spec_l7Plan.l2 k3 l0 l3 t203 x12_2 (wrap64 (x13_3 + 1))) else (spec_l7Plan.l2 k3 l0 l3 t203 x12_2 (wrap64 (x13_3 + 1)))) else (spec_l7Plan.l2 k3 l0 l3 t203 x12_2 (wrap64 (x13_3 + 1)))) else (some false)) else (if x12_2 < x13_3 then (if ((rd_T91 l3 x12_2).f1) = ((rd_T91 l3 x13_3).f1) then (if (((rd_T91 l3 x13_3).f2) ≥ (wrap64 (((rd_T91 l3 x12_2).f2) + ((rd_T79 l0 x12_2).f0)))) then (spec_l7Plan.l2 k3 l0 l3 t203 x12_2 (wrap64 (x13_3 + 1))) else (if x13_3 < (l0.length : Int) then (if ((rd_T91 l3 x12_2).f2) < (wrap64 (((rd_T91 l3 x13_3).f2) + ((rd_T79 l0 x13_3).f0))) then (some false) else (spec_l7Plan.l2 k3 l0 l3 t203 x12_2 (wrap64 (x13_3 + 1)))) else (none))) else (spec_l7Plan.l2 k3 l0 l3 t203 x12_2 (wrap64 (x13_3 + 1)))) else (spec_l7Plan.l2 k3 l0 l3 t203 x12_2 (wrap64 (x13_3 + 1))))) = some r := by rw [← hbq31] at H; exact H
           have Nbq31 := Aside0.mk hbq31
           clear hbq31
           have HH_ := Aside0.mk H
           clear H
           try go_wp2
           have n0_ := Aside0.mk (Kd.S_drew HO_9.out)
           have n1_ := Aside0.mk (below_drew1 HB.out)
           clear HO_9
           clear HB
           have HO_9 := n0_
           have HB := n1_
           clear n0_ n1_
           have p210 : 0 ≤ (x12_2 : Int) := oD
           have q210 : x12_2 < (l3.length : Int) := oD
           obtain ⟨ad210, e210, hx210_0, hx210_1, hx210_2⟩ := at_T91 HR3.out x12_2 p210 q210
           have hw210_2 := hx210_2
           have hw210_1 := hx210_1
           have hw210_0 := hx210_0
           cases e210
           replace hx210_0 := (cB HB.out hx210_0 :)
           replace hx210_1 := (cB HB.out hx210_1 :)
           replace hx210_2 := (cB HB.out hx210_2 :)
           replace p210 := eq_true p210
           replace q210 := eq_true q210
           have p211 : 0 ≤ (x13_3 : Int) := oD
           have q211 : x13_3 < (l3.length : Int) := oD
           obtain ⟨ad211, e211, hx211_0, hx211_1, hx211_2⟩ := at_T91 HR3.out x13_3 p211 q211
           have hw211_2 := hx211_2
           have hw211_1 := hx211_1
           have hw211_0 := hx211_0
           obtain rfl : ad210 = ad211 := (by injection e211)
           replace hx211_0 := (cB HB.out hx211_0 :)
           replace hx211_1 := (cB HB.out hx211_1 :)
           replace hx211_2 := (cB HB.out hx211_2 :)
           replace p211 := eq_true p211
           replace q211 := eq_true q211
           refine start_ (n := 12) (S := fun w' => w'.cell? (ad210.add ((x12_2).toNat * 3)) = some (.int .i64 ((rd_T91 l3 x12_2).f0)) ∧ w'.cell? ⟨(ad210.add ((x12_2).toNat * 3)).block, (ad210.add ((x12_2).toNat * 3)).off + 1, none⟩ = some (.int .i64 ((rd_T91 l3 x12_2).f1)) ∧ w'.cell? ⟨(ad210.add ((x12_2).toNat * 3)).block, (ad210.add ((x12_2).toNat * 3)).off + 2, none⟩ = some (.int .i64 ((rd_T91 l3 x12_2).f2)) ∧ w'.cell? (ad210.add ((x13_3).toNat * 3)) = some (.int .i64 ((rd_T91 l3 x13_3).f0)) ∧ w'.cell? ⟨(ad210.add ((x13_3).toNat * 3)).block, (ad210.add ((x13_3).toNat * 3)).off + 1, none⟩ = some (.int .i64 ((rd_T91 l3 x13_3).f1)) ∧ w'.cell? ⟨(ad210.add ((x13_3).toNat * 3)).block, (ad210.add ((x13_3).toNat * 3)).off + 2, none⟩ = some (.int .i64 ((rd_T91 l3 x13_3).f2))) (ds := []) (bA 12 0) (by kernel_rfl) rfl rfl ⟨(cB HB.out hw210_0 :), (cB HB.out hw210_1 :), (cB HB.out hw210_2 :), (cB HB.out hw211_0 :), (cB HB.out hw211_1 :), (cB HB.out hw211_2 :)⟩ (fun hHeld => ?_); refine with_tabW spec_l7Plan.tab16 spec_l7Plan.bits16 (fun HT_ HW_ => ?_)
           generalize wr.drew = w36 at HO_9 HB hx210_0 hx210_1 hx210_2 hx211_0 hx211_1 hx211_2 hHeld ⊢
           refine pU 0 66 (bA 12 1) ?_
           refine pU 1 67 (bA 12 3) ?_
           refine pU 2 68 (bA 12 7) ?_
           refine pU 4 70 (bA 12 23) ?_
           refine pU 5 71 (bA 12 55) ?_
           refine pU 6 72 (bA 12 119) ?_
           refine tU 3 69 (bA 12 127) ?_
           refine tU 7 73 (bA 12 255) ?_
           refine join_ (σ := Nat × Nat) 2 (bA 12 1023) (fun s_ => [(14, .pointer (some ⟨s_.1, 0, none⟩)), (15, .pointer (some ⟨s_.2, 0, none⟩))]) (fun s_ w' => (w'.cell? (ad210.add ((x12_2).toNat * 3)) = some (.int .i64 ((rd_T91 l3 x12_2).f0)) ∧ w'.cell? ⟨(ad210.add ((x12_2).toNat * 3)).block, (ad210.add ((x12_2).toNat * 3)).off + 1, none⟩ = some (.int .i64 ((rd_T91 l3 x12_2).f1)) ∧ w'.cell? ⟨(ad210.add ((x12_2).toNat * 3)).block, (ad210.add ((x12_2).toNat * 3)).off + 2, none⟩ = some (.int .i64 ((rd_T91 l3 x12_2).f2)) ∧ w'.cell? (ad210.add ((x13_3).toNat * 3)) = some (.int .i64 ((rd_T91 l3 x13_3).f0)) ∧ w'.cell? ⟨(ad210.add ((x13_3).toNat * 3)).block, (ad210.add ((x13_3).toNat * 3)).off + 1, none⟩ = some (.int .i64 ((rd_T91 l3 x13_3).f1)) ∧ w'.cell? ⟨(ad210.add ((x13_3).toNat * 3)).block, (ad210.add ((x13_3).toNat * 3)).off + 2, none⟩ = some (.int .i64 ((rd_T91 l3 x13_3).f2))) ∧ (Kd.S (Kd.slice 4 Kd.bool) 80 w' w.heap.size (fun _ => True) v204 t203) ∧ (w'.heap[s_.1]? = some (.cells #[.int .i64 0, .int .i64 0, .int .i64 0] 91 (0, 0))) ∧ (w'.heap[s_.2]? = some (.cells #[.int .i64 0, .int .i64 0, .int .i64 0] 91 (0, 0))) ∧ (w.heap.size ≤ s_.1) ∧ (w.heap.size ≤ s_.1) ∧ (s_.2 ≠ s_.1) ∧ (s_.1 ≠ s_.2) ∧ (w.heap.size ≤ s_.2) ∧ (w.heap.size ≤ s_.2) ∧ (Below w.heap.size w w')) ?_ ?_
           rotate_left
           ·intro hCont
            refine two_ (i := 8) (j := 9) (Ni := some 14) (Nj := some 15) (bA 12 511) (bA 12 767) rfl rfl rfl rfl (two_of HT_.out (by kernel_rfl)) (by decide) (by decide) (fun K hK => ?_) (fun K hK => ?_)
            ·skip
             refine box_step ?hg (N := 14) ?hd (cs := #[.int .i64 0, .int .i64 0, .int .i64 0]) (t := 91) ?hr ?_; (case hd => rfl); (case hg => rfl); (case hr => first | (go_simp; done) | (go_simp; rfl))
             intro gb212 hg w37 hbox hb
             have n0_ := Aside0.mk (Kd.S_below (by (with_reducible repeat (first | apply Kd.S_alloc | apply Kd.S_drewN | apply Kd.S_drew)); exact HO_9.out) hb)
             have n1_ := Aside0.mk (below_step bB hb)
             have n2_ := Aside0.mk (hbox)
             have n3_ := Aside0.mk ((by rw [hg]; exact (below_size bB) : w.heap.size ≤ gb212))
             have n4_ := Aside0.mk ((by rw [hg]; exact (below_size bB) : w.heap.size ≤ gb212))
             clear HO_9
             clear HB
             have HO_9 := n0_
             have HB := n1_
             have BK212 := n2_
             have GW212 := n3_
             have GE212 := n4_
             clear n0_ n1_ n2_ n3_ n4_
             clear hb hbox hg
             refine hK.out _ _ ⟨(cB HB.out hw210_0 :), (cB HB.out hw210_1 :), (cB HB.out hw210_2 :), (cB HB.out hw211_0 :), (cB HB.out hw211_1 :), (cB HB.out hw211_2 :)⟩ (fun hHeld => ?_)
             clear hK K
             refine norm_ (a' := ?_) ?_ ?_
             rotate_left
             ·show Act.put _ (some 14) _ = _
              simp only [Act.put, sA, sZ, sS, i64_w, i32_w]
              rfl
             refine one_ (i := 9) (N := some 15) (bA 12 1023) rfl rfl (one_of HT_.out (by kernel_rfl)) (by decide) (fun K hK => ?_)
             refine box_step ?hg (N := 15) ?hd (cs := #[.int .i64 0, .int .i64 0, .int .i64 0]) (t := 91) ?hr ?_; (case hd => rfl); (case hg => rfl); (case hr => first | (go_simp; done) | (go_simp; rfl))
             intro gb213 hg w38 hbox hb
             have n0_ := Aside0.mk (Kd.S_below (by (with_reducible repeat (first | apply Kd.S_alloc | apply Kd.S_drewN | apply Kd.S_drew)); exact HO_9.out) hb)
             have n1_ := Aside0.mk (blk_below (g := gb212) (o := .cells #[.int .i64 0, .int .i64 0, .int .i64 0] 91 (0, 0)) kB hb)
             have n2_ := Aside0.mk (below_step bS hb)
             have n3_ := Aside0.mk (hbox)
             have n4_ := Aside0.mk ((by rw [hg]; exact (below_size bS) : w.heap.size ≤ gb213))
             have n5_ := Aside0.mk ((by rw [hg]; exact (below_size bS) : w.heap.size ≤ gb213))
             have n6_ := Aside0.mk ((by rw [hg]; exact Nat.ne_of_lt (blk_lt (g := gb212) (o := .cells #[.int .i64 0, .int .i64 0, .int .i64 0] 91 (0, 0)) kB) : gb212 ≠ gb213))
             have n7_ := Aside0.mk ((by rw [hg]; exact Nat.ne_of_gt (blk_lt (g := gb212) (o := .cells #[.int .i64 0, .int .i64 0, .int .i64 0] 91 (0, 0)) kB) : gb213 ≠ gb212))
             clear HO_9
             clear BK212
             clear HB
             have HO_9 := n0_
             have BK212 := n1_
             have HB := n2_
             have BK213 := n3_
             have GW213 := n4_
             have GE213 := n5_
             have NB212_213 := n6_
             have NB213_212 := n7_
             clear n0_ n1_ n2_ n3_ n4_ n5_ n6_ n7_
             clear hb hbox hg
             refine hK.out _ _ ⟨(cB HB.out hw210_0 :), (cB HB.out hw210_1 :), (cB HB.out hw210_2 :), (cB HB.out hw211_0 :), (cB HB.out hw211_1 :), (cB HB.out hw211_2 :)⟩ (fun hHeld => ?_)
             clear hK K
             refine norm_ (a' := ?_) ?_ ?_
             rotate_left
             ·show Act.put _ (some 15) _ = _
              simp only [Act.put, sA, sZ, sS, i64_w, i32_w]
              rfl
             exact norm_ (by simp only [putAll, Act.put, sA, sZ, sS]) (hCont (gb212, gb213) _ ⟨hHeld, (by (with_reducible repeat (first | apply Kd.S_alloc | apply Kd.S_drewN | apply Kd.S_drew)); exact HO_9.out), kB, kB, GW212.out, GE212.out, NB213_212.out, NB212_213.out, GW213.out, GE213.out, bS⟩)
            ·skip
             refine box_step ?hg (N := 15) ?hd (cs := #[.int .i64 0, .int .i64 0, .int .i64 0]) (t := 91) ?hr ?_; (case hd => rfl); (case hg => rfl); (case hr => first | (go_simp; done) | (go_simp; rfl))
             intro gb213 hg w37 hbox hb
             have n0_ := Aside0.mk (Kd.S_below (by (with_reducible repeat (first | apply Kd.S_alloc | apply Kd.S_drewN | apply Kd.S_drew)); exact HO_9.out) hb)
             have n1_ := Aside0.mk (below_step bB hb)
             have n2_ := Aside0.mk (hbox)
             have n3_ := Aside0.mk ((by rw [hg]; exact (below_size bB) : w.heap.size ≤ gb213))
             have n4_ := Aside0.mk ((by rw [hg]; exact (below_size bB) : w.heap.size ≤ gb213))
             clear HO_9
             clear HB
             have HO_9 := n0_
             have HB := n1_
             have BK213 := n2_
             have GW213 := n3_
             have GE213 := n4_
             clear n0_ n1_ n2_ n3_ n4_
             clear hb hbox hg
             refine hK.out _ _ ⟨(cB HB.out hw210_0 :), (cB HB.out hw210_1 :), (cB HB.out hw210_2 :), (cB HB.out hw211_0 :), (cB HB.out hw211_1 :), (cB HB.out hw211_2 :)⟩ (fun hHeld => ?_)
             clear hK K
             refine norm_ (a' := ?_) ?_ ?_
             rotate_left
             ·show Act.put _ (some 15) _ = _
              simp only [Act.put, sA, sZ, sS, i64_w, i32_w]
              rfl
             refine one_ (i := 8) (N := some 14) (bA 12 1023) rfl rfl (one_of HT_.out (by kernel_rfl)) (by decide) (fun K hK => ?_)
             refine box_step ?hg (N := 14) ?hd (cs := #[.int .i64 0, .int .i64 0, .int .i64 0]) (t := 91) ?hr ?_; (case hd => rfl); (case hg => rfl); (case hr => first | (go_simp; done) | (go_simp; rfl))
             intro gb212 hg w38 hbox hb
             have n0_ := Aside0.mk (Kd.S_below (by (with_reducible repeat (first | apply Kd.S_alloc | apply Kd.S_drewN | apply Kd.S_drew)); exact HO_9.out) hb)
             have n1_ := Aside0.mk (blk_below (g := gb213) (o := .cells #[.int .i64 0, .int .i64 0, .int .i64 0] 91 (0, 0)) kB hb)
             have n2_ := Aside0.mk (below_step bS hb)
             have n3_ := Aside0.mk (hbox)
             have n4_ := Aside0.mk ((by rw [hg]; exact (below_size bS) : w.heap.size ≤ gb212))
             have n5_ := Aside0.mk ((by rw [hg]; exact (below_size bS) : w.heap.size ≤ gb212))
             have n6_ := Aside0.mk ((by rw [hg]; exact Nat.ne_of_lt (blk_lt (g := gb213) (o := .cells #[.int .i64 0, .int .i64 0, .int .i64 0] 91 (0, 0)) kB) : gb213 ≠ gb212))
             have n7_ := Aside0.mk ((by rw [hg]; exact Nat.ne_of_gt (blk_lt (g := gb213) (o := .cells #[.int .i64 0, .int .i64 0, .int .i64 0] 91 (0, 0)) kB) : gb212 ≠ gb213))
             clear HO_9
             clear BK213
             clear HB
             have HO_9 := n0_
             have BK213 := n1_
             have HB := n2_
             have BK212 := n3_
             have GW212 := n4_
             have GE212 := n5_
             have NB213_212 := n6_
             have NB212_213 := n7_
             clear n0_ n1_ n2_ n3_ n4_ n5_ n6_ n7_
             clear hb hbox hg
             refine hK.out _ _ ⟨(cB HB.out hw210_0 :), (cB HB.out hw210_1 :), (cB HB.out hw210_2 :), (cB HB.out hw211_0 :), (cB HB.out hw211_1 :), (cB HB.out hw211_2 :)⟩ (fun hHeld => ?_)
             clear hK K
             refine norm_ (a' := ?_) ?_ ?_
             rotate_left
             ·show Act.put _ (some 14) _ = _
              simp only [Act.put, sA, sZ, sS, i64_w, i32_w]
              rfl
             exact norm_ (by simp only [putAll, Act.put, sA, sZ, sS]) (hCont (gb212, gb213) _ ⟨hHeld, (by (with_reducible repeat (first | apply Kd.S_alloc | apply Kd.S_drewN | apply Kd.S_drew)); exact HO_9.out), kB, kB, GW212.out, GE212.out, NB213_212.out, NB212_213.out, GW213.out, GE213.out, bS⟩)
           rintro ⟨gb212, gb213⟩ w39 ⟨hS_, h0_, h1_, h2_, h3_, h4_, h5_, h6_, h7_, h8_, h9_⟩
           have n0_ : Aside0 (Kd.S (Kd.slice 4 Kd.bool) 80 w39 w.heap.size (fun _ => True) v204 t203) := ⟨h0_⟩
           have n1_ : Aside0 (w39.heap[gb212]? = some (.cells #[.int .i64 0, .int .i64 0, .int .i64 0] 91 (0, 0))) := ⟨h1_⟩
           have n2_ : Aside0 (w39.heap[gb213]? = some (.cells #[.int .i64 0, .int .i64 0, .int .i64 0] 91 (0, 0))) := ⟨h2_⟩
           have n3_ : Aside0 (w.heap.size ≤ gb212) := ⟨h3_⟩
           have n4_ : Aside0 (w.heap.size ≤ gb212) := ⟨h4_⟩
           have n5_ : Aside0 (gb213 ≠ gb212) := ⟨h5_⟩
           have n6_ : Aside0 (gb212 ≠ gb213) := ⟨h6_⟩
           have n7_ : Aside0 (w.heap.size ≤ gb213) := ⟨h7_⟩
           have n8_ : Aside0 (w.heap.size ≤ gb213) := ⟨h8_⟩
           have n9_ : Aside0 (Below w.heap.size w w39) := ⟨h9_⟩
           clear HO_9
           clear HB
           clear h0_ h1_ h2_ h3_ h4_ h5_ h6_ h7_ h8_ h9_
           have HO_9 := n0_
           have BK212 := n1_
           have BK213 := n2_
           have GW212 := n3_
           have GE212 := n4_
           have NB213_212 := n5_
           have NB212_213 := n6_
           have GW213 := n7_
           have GE213 := n8_
           have HB := n9_
           clear n0_ n1_ n2_ n3_ n4_ n5_ n6_ n7_ n8_ n9_
           have hHeld : w39.cell? (ad210.add ((x12_2).toNat * 3)) = some (.int .i64 ((rd_T91 l3 x12_2).f0)) ∧ w39.cell? ⟨(ad210.add ((x12_2).toNat * 3)).block, (ad210.add ((x12_2).toNat * 3)).off + 1, none⟩ = some (.int .i64 ((rd_T91 l3 x12_2).f1)) ∧ w39.cell? ⟨(ad210.add ((x12_2).toNat * 3)).block, (ad210.add ((x12_2).toNat * 3)).off + 2, none⟩ = some (.int .i64 ((rd_T91 l3 x12_2).f2)) ∧ w39.cell? (ad210.add ((x13_3).toNat * 3)) = some (.int .i64 ((rd_T91 l3 x13_3).f0)) ∧ w39.cell? ⟨(ad210.add ((x13_3).toNat * 3)).block, (ad210.add ((x13_3).toNat * 3)).off + 1, none⟩ = some (.int .i64 ((rd_T91 l3 x13_3).f1)) ∧ w39.cell? ⟨(ad210.add ((x13_3).toNat * 3)).block, (ad210.add ((x13_3).toNat * 3)).off + 2, none⟩ = some (.int .i64 ((rd_T91 l3 x13_3).f2)) := hS_
           refine norm_ (a' := ?_) ?_ ?_
           rotate_left
           ·simp only [putAll, Act.put, sA, sZ, sS]
            rfl
           refine one_ (i := 10) (N := none) (bA 12 2047) rfl rfl (one_of HT_.out (by kernel_rfl)) (by decide) (fun K hK => ?_)
           have hs40 : w39.cell? ⟨gb212, 0, none⟩ = some (.int .i64 0) := (blk_cell BK212.out 0).trans rfl
           have hfs40 := blk_frozen BK212.out 0
           have hns40_1 := NB213_212.out
           have hms40_1 := NB212_213.out
           have hs41 : w39.cell? ⟨gb212, 1, none⟩ = some (.int .i64 0) := (blk_cell BK212.out 1).trans rfl
           have hfs41 := blk_frozen BK212.out 1
           have hns41_1 := NB213_212.out
           have hms41_1 := NB212_213.out
           have hs42 : w39.cell? ⟨gb212, 2, none⟩ = some (.int .i64 0) := (blk_cell BK212.out 2).trans rfl
           have hfs42 := blk_frozen BK212.out 2
           have hns42_1 := NB213_212.out
           have hms42_1 := NB212_213.out
           refine skip_ (w1 := ?_) (by rfl) rfl ?_ ?_
           rotate_left
           ·go_simp
            rfl
           refine hK.out _ _ ⟨((cell_far (p := ⟨gb212, _, none⟩) (nB hw210_0 GW212.out) _).trans (((cell_far (p := ⟨gb212, _, none⟩) (nB hw210_0 GW212.out) _).trans (((cell_far (p := ⟨gb212, _, none⟩) (nB hw210_0 GW212.out) _).trans (hHeld.1)))))), ((cell_far (p := ⟨gb212, _, none⟩) (nB hw210_1 GW212.out) _).trans (((cell_far (p := ⟨gb212, _, none⟩) (nB hw210_1 GW212.out) _).trans (((cell_far (p := ⟨gb212, _, none⟩) (nB hw210_1 GW212.out) _).trans (hHeld.2.1)))))), ((cell_far (p := ⟨gb212, _, none⟩) (nB hw210_2 GW212.out) _).trans (((cell_far (p := ⟨gb212, _, none⟩) (nB hw210_2 GW212.out) _).trans (((cell_far (p := ⟨gb212, _, none⟩) (nB hw210_2 GW212.out) _).trans (hHeld.2.2.1)))))), ((cell_far (p := ⟨gb212, _, none⟩) (nB hw211_0 GW212.out) _).trans (((cell_far (p := ⟨gb212, _, none⟩) (nB hw211_0 GW212.out) _).trans (((cell_far (p := ⟨gb212, _, none⟩) (nB hw211_0 GW212.out) _).trans (hHeld.2.2.2.1)))))), ((cell_far (p := ⟨gb212, _, none⟩) (nB hw211_1 GW212.out) _).trans (((cell_far (p := ⟨gb212, _, none⟩) (nB hw211_1 GW212.out) _).trans (((cell_far (p := ⟨gb212, _, none⟩) (nB hw211_1 GW212.out) _).trans (hHeld.2.2.2.2.1)))))), ((cell_far (p := ⟨gb212, _, none⟩) (nB hw211_2 GW212.out) _).trans (((cell_far (p := ⟨gb212, _, none⟩) (nB hw211_2 GW212.out) _).trans (((cell_far (p := ⟨gb212, _, none⟩) (nB hw211_2 GW212.out) _).trans (hHeld.2.2.2.2.2))))))⟩ (fun hHeld => ?_)
           clear hK K
           refine one_ (i := 11) (N := none) (bA 12 4095) rfl rfl (one_of HT_.out (by kernel_rfl)) (by decide) (fun K hK => ?_)
           have hs43 : w39.cell? ⟨gb213, 0, none⟩ = some (.int .i64 0) := (blk_cell BK213.out 0).trans rfl
           have hfs43 := blk_frozen BK213.out 0
           have hns43_0 := NB212_213.out
           have hms43_0 := NB213_212.out
           have hs44 : w39.cell? ⟨gb213, 1, none⟩ = some (.int .i64 0) := (blk_cell BK213.out 1).trans rfl
           have hfs44 := blk_frozen BK213.out 1
           have hns44_0 := NB212_213.out
           have hms44_0 := NB213_212.out
           have hs45 : w39.cell? ⟨gb213, 2, none⟩ = some (.int .i64 0) := (blk_cell BK213.out 2).trans rfl
           have hfs45 := blk_frozen BK213.out 2
           have hns45_0 := NB212_213.out
           have hms45_0 := NB213_212.out
           refine skip_ (w1 := ?_) (by rfl) rfl ?_ ?_
           rotate_left
           ·go_simp
            rfl
           refine hK.out _ _ ⟨((cell_far (p := ⟨gb213, _, none⟩) (nB hw210_0 GW213.out) _).trans (((cell_far (p := ⟨gb213, _, none⟩) (nB hw210_0 GW213.out) _).trans (((cell_far (p := ⟨gb213, _, none⟩) (nB hw210_0 GW213.out) _).trans (hHeld.1)))))), ((cell_far (p := ⟨gb213, _, none⟩) (nB hw210_1 GW213.out) _).trans (((cell_far (p := ⟨gb213, _, none⟩) (nB hw210_1 GW213.out) _).trans (((cell_far (p := ⟨gb213, _, none⟩) (nB hw210_1 GW213.out) _).trans (hHeld.2.1)))))), ((cell_far (p := ⟨gb213, _, none⟩) (nB hw210_2 GW213.out) _).trans (((cell_far (p := ⟨gb213, _, none⟩) (nB hw210_2 GW213.out) _).trans (((cell_far (p := ⟨gb213, _, none⟩) (nB hw210_2 GW213.out) _).trans (hHeld.2.2.1)))))), ((cell_far (p := ⟨gb213, _, none⟩) (nB hw211_0 GW213.out) _).trans (((cell_far (p := ⟨gb213, _, none⟩) (nB hw211_0 GW213.out) _).trans (((cell_far (p := ⟨gb213, _, none⟩) (nB hw211_0 GW213.out) _).trans (hHeld.2.2.2.1)))))), ((cell_far (p := ⟨gb213, _, none⟩) (nB hw211_1 GW213.out) _).trans (((cell_far (p := ⟨gb213, _, none⟩) (nB hw211_1 GW213.out) _).trans (((cell_far (p := ⟨gb213, _, none⟩) (nB hw211_1 GW213.out) _).trans (hHeld.2.2.2.2.1)))))), ((cell_far (p := ⟨gb213, _, none⟩) (nB hw211_2 GW213.out) _).trans (((cell_far (p := ⟨gb213, _, none⟩) (nB hw211_2 GW213.out) _).trans (((cell_far (p := ⟨gb213, _, none⟩) (nB hw211_2 GW213.out) _).trans (hHeld.2.2.2.2.2))))))⟩ (fun hHeld => ?_)
           clear hK K
           refine done_ (done_of HT_.out (by kernel_rfl)) ?_
           have H := HH_.out
           clear HH_
           by_cases c32 : bq31 = true
           ·subst c32
            have H1 : (if (((rd_T91 l3 x13_3).f2) ≥ (wrap64 (((rd_T91 l3 x12_2).f2) + ((rd_T79 l0 x12_2).f0)))) then (if x12_2 < x13_3 then (if ((rd_T91 l3 x12_2).f1) = ((rd_T91 l3 x13_3).f1) then (spec_l7Plan.l2 k3 l0 l3 t203 x12_2 (wrap64 (x13_3 + 1))) else (spec_l7Plan.l2 k3 l0 l3 t203 x12_2 (wrap64 (x13_3 + 1)))) else (spec_l7Plan.l2 k3 l0 l3 t203 x12_2 (wrap64 (x13_3 + 1)))) else (some false)) = some r := by rw [if_pos rfl] at H; exact H
            clear H
            have H := H1
            clear H1
            have HH_ := Aside0.mk H
            clear H
            try go_wp2
            have n0_ : Aside0 (Kd.S (Kd.slice 4 Kd.bool) 80 ((((((w39.setCell ⟨gb212, 0, none⟩ (.int .i64 ((rd_T91 l3 x12_2).f0))).setCell ⟨gb212, 1, none⟩ (.int .i64 ((rd_T91 l3 x12_2).f1))).setCell ⟨gb212, 2, none⟩ (.int .i64 ((rd_T91 l3 x12_2).f2))).setCell ⟨gb213, 0, none⟩ (.int .i64 ((rd_T91 l3 x13_3).f0))).setCell ⟨gb213, 1, none⟩ (.int .i64 ((rd_T91 l3 x13_3).f1))).setCell ⟨gb213, 2, none⟩ (.int .i64 ((rd_T91 l3 x13_3).f2))) w.heap.size (fun _ => True) v204 t203) := ⟨by exact Kd.S_mono (Kd.S_far (p := ⟨gb213, 2, none⟩) (Kd.S_far (p := ⟨gb213, 1, none⟩) (Kd.S_far (p := ⟨gb213, 0, none⟩) (Kd.S_far (p := ⟨gb212, 2, none⟩) (Kd.S_far (p := ⟨gb212, 1, none⟩) (Kd.S_far (p := ⟨gb212, 0, none⟩) (Kd.S_types (Kd.S_types HO_9.out BK212.out (by decide)) BK213.out (by decide)) (fun _ hk => hk.1.2) (.int .i64 ((rd_T91 l3 x12_2).f0))) (fun _ hk => hk.1.2) (.int .i64 ((rd_T91 l3 x12_2).f1))) (fun _ hk => hk.1.2) (.int .i64 ((rd_T91 l3 x12_2).f2))) (fun _ hk => hk.2) (.int .i64 ((rd_T91 l3 x13_3).f0))) (fun _ hk => hk.2) (.int .i64 ((rd_T91 l3 x13_3).f1))) (fun _ hk => hk.2) (.int .i64 ((rd_T91 l3 x13_3).f2))) (fun _ hk => trivial)⟩
            have n1_ : Aside0 (((((((w39.setCell ⟨gb212, 0, none⟩ (.int .i64 ((rd_T91 l3 x12_2).f0))).setCell ⟨gb212, 1, none⟩ (.int .i64 ((rd_T91 l3 x12_2).f1))).setCell ⟨gb212, 2, none⟩ (.int .i64 ((rd_T91 l3 x12_2).f2))).setCell ⟨gb213, 0, none⟩ (.int .i64 ((rd_T91 l3 x13_3).f0))).setCell ⟨gb213, 1, none⟩ (.int .i64 ((rd_T91 l3 x13_3).f1))).setCell ⟨gb213, 2, none⟩ (.int .i64 ((rd_T91 l3 x13_3).f2))).heap[gb212]? = some (.cells #[.int .i64 ((rd_T91 l3 x12_2).f0), .int .i64 ((rd_T91 l3 x12_2).f1), .int .i64 ((rd_T91 l3 x12_2).f2)] 91 (0, 0))) := ⟨by refine blk_far ?_ NB212_213.out _; refine blk_far ?_ NB212_213.out _; refine blk_far ?_ NB212_213.out _; refine blk_put (cs := #[.int .i64 ((rd_T91 l3 x12_2).f0), .int .i64 ((rd_T91 l3 x12_2).f1), .int .i64 0]) ?_ 2 _ rfl; refine blk_put (cs := #[.int .i64 ((rd_T91 l3 x12_2).f0), .int .i64 0, .int .i64 0]) ?_ 1 _ rfl; refine blk_put (cs := #[.int .i64 0, .int .i64 0, .int .i64 0]) ?_ 0 _ rfl; exact BK212.out⟩
            have n2_ : Aside0 (((((((w39.setCell ⟨gb212, 0, none⟩ (.int .i64 ((rd_T91 l3 x12_2).f0))).setCell ⟨gb212, 1, none⟩ (.int .i64 ((rd_T91 l3 x12_2).f1))).setCell ⟨gb212, 2, none⟩ (.int .i64 ((rd_T91 l3 x12_2).f2))).setCell ⟨gb213, 0, none⟩ (.int .i64 ((rd_T91 l3 x13_3).f0))).setCell ⟨gb213, 1, none⟩ (.int .i64 ((rd_T91 l3 x13_3).f1))).setCell ⟨gb213, 2, none⟩ (.int .i64 ((rd_T91 l3 x13_3).f2))).heap[gb213]? = some (.cells #[.int .i64 ((rd_T91 l3 x13_3).f0), .int .i64 ((rd_T91 l3 x13_3).f1), .int .i64 ((rd_T91 l3 x13_3).f2)] 91 (0, 0))) := ⟨by refine blk_put (cs := #[.int .i64 ((rd_T91 l3 x13_3).f0), .int .i64 ((rd_T91 l3 x13_3).f1), .int .i64 0]) ?_ 2 _ rfl; refine blk_put (cs := #[.int .i64 ((rd_T91 l3 x13_3).f0), .int .i64 0, .int .i64 0]) ?_ 1 _ rfl; refine blk_put (cs := #[.int .i64 0, .int .i64 0, .int .i64 0]) ?_ 0 _ rfl; refine blk_far ?_ NB213_212.out _; refine blk_far ?_ NB213_212.out _; refine blk_far ?_ NB213_212.out _; exact BK213.out⟩
            have n3_ : Aside0 (Below w.heap.size w ((((((w39.setCell ⟨gb212, 0, none⟩ (.int .i64 ((rd_T91 l3 x12_2).f0))).setCell ⟨gb212, 1, none⟩ (.int .i64 ((rd_T91 l3 x12_2).f1))).setCell ⟨gb212, 2, none⟩ (.int .i64 ((rd_T91 l3 x12_2).f2))).setCell ⟨gb213, 0, none⟩ (.int .i64 ((rd_T91 l3 x13_3).f0))).setCell ⟨gb213, 1, none⟩ (.int .i64 ((rd_T91 l3 x13_3).f1))).setCell ⟨gb213, 2, none⟩ (.int .i64 ((rd_T91 l3 x13_3).f2)))) := ⟨by repeat (first | (with_reducible first | exact HB.out | apply below_alloc | apply pw_below_drewN | apply below_drew1 | refine below_set ?_ GE212.out | refine below_set ?_ GE213.out) | exact HB.out)⟩
            (try clear HO_9)
            (try clear BK212)
            (try clear BK213)
            (try clear HB)
            generalize ((((((w39.setCell ⟨gb212, 0, none⟩ (.int .i64 ((rd_T91 l3 x12_2).f0))).setCell ⟨gb212, 1, none⟩ (.int .i64 ((rd_T91 l3 x12_2).f1))).setCell ⟨gb212, 2, none⟩ (.int .i64 ((rd_T91 l3 x12_2).f2))).setCell ⟨gb213, 0, none⟩ (.int .i64 ((rd_T91 l3 x13_3).f0))).setCell ⟨gb213, 1, none⟩ (.int .i64 ((rd_T91 l3 x13_3).f1))).setCell ⟨gb213, 2, none⟩ (.int .i64 ((rd_T91 l3 x13_3).f2))) = w46 at n0_ n1_ n2_ n3_ ⊢
            have HO_9 := n0_
            have BK212 := n1_
            have BK213 := n2_
            have HB := n3_
            clear n0_ n1_ n2_ n3_
            have n0_ := Aside0.mk (Kd.S_drew HO_9.out)
            have n1_ := Aside0.mk (blk_drew BK212.out)
            have n2_ := Aside0.mk (blk_drew BK213.out)
            have n3_ := Aside0.mk (below_drew1 HB.out)
            clear HO_9
            clear BK212
            clear BK213
            clear HB
            have HO_9 := n0_
            have BK212 := n1_
            have BK213 := n2_
            have HB := n3_
            clear n0_ n1_ n2_ n3_
            have p214 : 0 ≤ (x12_2 : Int) := oD
            have q214 : x12_2 < (l0.length : Int) := oD
            obtain ⟨ad214, e214, hx214_0, hx214_1, hx214_2, hx214_3⟩ := at_T79 HR0.out x12_2 p214 q214
            have hw214_3 := hx214_3
            have hw214_2 := hx214_2
            have hw214_1 := hx214_1
            have hw214_0 := hx214_0
            cases e214
            replace hx214_0 := (cB HB.out hx214_0 :)
            replace hx214_1 := (cB HB.out hx214_1 :)
            replace hx214_2 := (cB HB.out hx214_2 :)
            replace hx214_3 := (cB HB.out hx214_3 :)
            replace p214 := eq_true p214
            replace q214 := eq_true q214
            refine start_ (n := 12) (S := fun w' => w'.cell? ⟨gb213, 0, none⟩ = some (.int .i64 ((rd_T91 l3 x13_3).f0)) ∧ w'.cell? ⟨gb213, 1, none⟩ = some (.int .i64 ((rd_T91 l3 x13_3).f1)) ∧ w'.cell? ⟨gb213, 2, none⟩ = some (.int .i64 ((rd_T91 l3 x13_3).f2)) ∧ w'.cell? ⟨gb212, 0, none⟩ = some (.int .i64 ((rd_T91 l3 x12_2).f0)) ∧ w'.cell? ⟨gb212, 1, none⟩ = some (.int .i64 ((rd_T91 l3 x12_2).f1)) ∧ w'.cell? ⟨gb212, 2, none⟩ = some (.int .i64 ((rd_T91 l3 x12_2).f2)) ∧ w'.cell? (ad214.add ((x12_2).toNat * 4)) = some (.int .i64 ((rd_T79 l0 x12_2).f0)) ∧ w'.cell? ⟨(ad214.add ((x12_2).toNat * 4)).block, (ad214.add ((x12_2).toNat * 4)).off + 1, none⟩ = some (.int .i64 ((rd_T79 l0 x12_2).f1)) ∧ w'.cell? ⟨(ad214.add ((x12_2).toNat * 4)).block, (ad214.add ((x12_2).toNat * 4)).off + 2, none⟩ = some (.int .i64 ((rd_T79 l0 x12_2).f2)) ∧ w'.cell? ⟨(ad214.add ((x12_2).toNat * 4)).block, (ad214.add ((x12_2).toNat * 4)).off + 3, none⟩ = some (.int .i64 ((rd_T79 l0 x12_2).f3))) (ds := []) (bA 12 0) (by kernel_rfl) rfl rfl ⟨(blk_cell BK213.out 0).trans rfl, (blk_cell BK213.out 1).trans rfl, (blk_cell BK213.out 2).trans rfl, (blk_cell BK212.out 0).trans rfl, (blk_cell BK212.out 1).trans rfl, (blk_cell BK212.out 2).trans rfl, (cB HB.out hw214_0 :), (cB HB.out hw214_1 :), (cB HB.out hw214_2 :), (cB HB.out hw214_3 :)⟩ (fun hHeld => ?_); refine with_tabW spec_l7Plan.tab17 spec_l7Plan.bits17 (fun HT_ HW_ => ?_)
            generalize w46.drew = w47 at HO_9 BK212 BK213 HB hx214_0 hx214_1 hx214_2 hx214_3 hHeld ⊢
            refine pU 0 74 (bA 12 1) ?_
            refine pU 2 76 (bA 12 5) ?_
            refine pU 4 78 (bA 12 21) ?_
            refine pU 5 79 (bA 12 53) ?_
            refine pU 6 80 (bA 12 117) ?_
            refine pU 7 81 (bA 12 245) ?_
            refine tU 1 75 (bA 12 247) ?_
            refine tU 3 77 (bA 12 255) ?_
            refine tU 8 82 (bA 12 511) ?_
            refine pU 9 83 (bA 12 1023) ?_
            refine pU 10 84 (bA 12 2047) ?_
            refine pU 11 16 (bA 12 4095) ?_
            refine done_ (done_of HT_.out (by kernel_rfl)) ?_
            have H := HH_.out
            clear HH_
            by_cases c33 : (((rd_T91 l3 x13_3).f2) ≥ (wrap64 (((rd_T91 l3 x12_2).f2) + ((rd_T79 l0 x12_2).f0))))
            ·rw [if_pos c33] at H
             have c33b0 : decide ((wrap64 (((rd_T91 l3 x12_2).f2) + ((rd_T79 l0 x12_2).f0))) ≤ ((rd_T91 l3 x13_3).f2)) = true := decide_eq_true c33
             clear c33
             have HH_ := Aside0.mk H
             clear H
             try go_wp2
             have n0_ := Aside0.mk (Kd.S_drew HO_9.out)
             have n1_ := Aside0.mk (blk_drew BK212.out)
             have n2_ := Aside0.mk (blk_drew BK213.out)
             have n3_ := Aside0.mk (below_drew1 HB.out)
             clear HO_9
             clear BK212
             clear BK213
             clear HB
             have HO_9 := n0_
             have BK212 := n1_
             have BK213 := n2_
             have HB := n3_
             clear n0_ n1_ n2_ n3_
             obtain ⟨Ao49, co49, eo49⟩ := Kd.S_slice HO_9.out
             (first | subst eo49 | (injection eo49 with f1_ f2_ f3_; have f4_ := f1_.symm; have f5_ := f3_.symm; clear f1_ f2_ f3_; subst f4_; subst f5_))
             have p215 : 0 ≤ (x12_2 : Int) := oD
             have q215 : x12_2 < (t203.length : Int) := oD
             obtain ⟨ad215, A215_0, c215_0, e215, hx215_0, hl215_0, hi215_0⟩ := at_L7 (Kd.S_reads' HO_9.out).2.2 x12_2 p215 q215
             cases e215
             obtain ⟨ce215, hce215, hMe215, hcc215⟩ := Kd.S_get HO_9.out [] x12_2 p215 (by first | exact q215 | exact oD | (have e_ := (Kd.S_reads' HO_9.out).1; omega))
             obtain ⟨ve215_0, rfl, ge215_0⟩ := hMe215
             have hv215_0 := hcc215 0 _ rfl
             rw [Nat.add_zero, show ((Kd.slice 4 Kd.bool)).sz = 1 from rfl, Nat.mul_one] at hv215_0
             replace hv215_0 := Option.some.inj (hv215_0.symm.trans hx215_0)
             rw [hv215_0] at ge215_0
             have HL215_0 := Aside0.mk (show Kd.R Kd.bool 4 _ _ _ _ (rd_L7 t203 x12_2) from ge215_0)
             clear hv215_0 ge215_0
             clear hcc215 hce215
             have HR215_0 := Aside0.mk hi215_0
             have HC215_0 := Aside0.mk hl215_0
             clear hi215_0 hl215_0
             replace p215 := eq_true p215
             replace q215 := eq_true q215
             have p216 : 0 ≤ (x13_3 : Int) := oD
             have q216 : x13_3 < ((rd_L7 t203 x12_2).length : Int) := oD
             obtain ⟨ad216, e216, hx216_0⟩ := Kd.at_bool (by repeat (first | (with_reducible exact HR215_0.out) | (with_reducible refine Kd.C_alloc ?_ _) | (with_reducible refine Kd.C_drewN ?_ _) | (with_reducible refine Kd.C_drew ?_) | exact HR215_0.out)) x13_3 p216 q216
             (try rw [← Nbq31.out] at hx216_0)
             cases e216
             replace p216 := eq_true p216
             replace q216 := eq_true q216
             have H := HH_.out
             clear HH_
             by_cases c34 : x12_2 < x13_3
             ·rw [if_pos c34] at H
              have c34b0 : decide (x12_2 < x13_3) = true := decide_eq_true c34
              clear c34
              by_cases c35 : ((rd_T91 l3 x12_2).f1) = ((rd_T91 l3 x13_3).f1)
              ·rw [if_pos c35] at H
               have c35b0 : (((rd_T91 l3 x12_2).f1) == ((rd_T91 l3 x13_3).f1)) = true := beq_iff_eq.mpr c35
               have c35b1 : (((rd_T91 l3 x12_2).f1) != ((rd_T91 l3 x13_3).f1)) = false := bne_eq_false_iff_eq.mpr c35
               clear c35
               have H' := Aside0.mk H
               clear H
               refine start_ (n := 40) (S := fun w' => w'.cell? ⟨gb212, 0, none⟩ = some (.int .i64 ((rd_T91 l3 x12_2).f0)) ∧ w'.cell? ⟨gb212, 1, none⟩ = some (.int .i64 ((rd_T91 l3 x12_2).f1)) ∧ w'.cell? ⟨gb212, 2, none⟩ = some (.int .i64 ((rd_T91 l3 x12_2).f2)) ∧ w'.cell? ⟨gb213, 0, none⟩ = some (.int .i64 ((rd_T91 l3 x13_3).f0)) ∧ w'.cell? ⟨gb213, 1, none⟩ = some (.int .i64 ((rd_T91 l3 x13_3).f1)) ∧ w'.cell? ⟨gb213, 2, none⟩ = some (.int .i64 ((rd_T91 l3 x13_3).f2)) ∧ w'.cell? (ad215.add (x12_2).toNat) = some (.slice (some ad216) (rd_L7 t203 x12_2).length c215_0) ∧ w'.cell? (ad216.add (x13_3).toNat) = some (.bool true)) (ds := []) (bA 40 0) (by kernel_rfl) rfl rfl ⟨(blk_cell BK212.out 0).trans rfl, (blk_cell BK212.out 1).trans rfl, (blk_cell BK212.out 2).trans rfl, (blk_cell BK213.out 0).trans rfl, (blk_cell BK213.out 1).trans rfl, (blk_cell BK213.out 2).trans rfl, hx215_0, hx216_0⟩ (fun hHeld => ?_); refine with_tabW spec_l7Plan.tab18 spec_l7Plan.bits18 (fun HT_ HW_ => ?_)
               generalize w47.drew = w48 at HO_9 BK212 BK213 HB HL215_0 HR215_0 hx215_0 hx216_0 hHeld ⊢
               refine pU 0 85 (bA 40 1) ?_
               refine pU 1 86 (bA 40 3) ?_
               refine pU 2 87 (bA 40 7) ?_
               refine pU 4 89 (bA 40 23) ?_
               refine tU 3 88 (bA 40 31) ?_
               refine pU 5 90 (bA 40 63) ?_
               refine tU 6 91 (bA 40 127) ?_
               refine pU 7 92 (bA 40 255) ?_
               refine pU 8 93 (bA 40 511) ?_
               refine pU 9 94 (bA 40 1023) ?_
               refine pU 10 95 (bA 40 2047) ?_
               refine pU 11 96 (bA 40 4095) ?_
               refine pU 12 97 (bA 40 8191) ?_
               refine pU 13 98 (bA 40 16383) ?_
               refine pU 14 99 (bA 40 32767) ?_
               refine pU 15 100 (bA 40 65535) ?_
               refine pU 16 101 (bA 40 131071) ?_
               refine pU 18 103 (bA 40 393215) ?_
               refine tU 17 102 (bA 40 524287) ?_
               refine tU 19 104 (bA 40 1048575) ?_
               refine pU 20 105 (bA 40 2097151) ?_
               refine pU 21 106 (bA 40 4194303) ?_
               refine pU 22 107 (bA 40 8388607) ?_
               refine pU 23 108 (bA 40 16777215) ?_
               refine pU 24 109 (bA 40 33554431) ?_
               refine pU 25 110 (bA 40 67108863) ?_
               refine pU 26 111 (bA 40 134217727) ?_
               refine nU 27 112 (bA 40 268435455) ?_
               refine nU 28 113 (bA 40 536870911) ?_
               refine nU 29 114 (bA 40 1073741823) ?_
               refine nU 30 115 (bA 40 2147483647) ?_
               refine nU 31 116 (bA 40 4294967295) ?_
               refine nU 32 117 (bA 40 8589934591) ?_
               refine nU 33 118 (bA 40 17179869183) ?_
               refine nU 34 119 (bA 40 34359738367) ?_
               refine nU 35 120 (bA 40 68719476735) ?_
               refine nU 36 121 (bA 40 137438953471) ?_
               refine nU 37 122 (bA 40 274877906943) ?_
               refine pU 38 123 (bA 40 549755813887) ?_
               refine pU 39 124 (bA 40 1099511627775) ?_
               refine done_ (done_of HT_.out (by kernel_rfl)) ?_
               try go_wp2
               go_roundg k3
               case measure => have := HK1.out; have := HK2.out; have := HK3.out; omega
               case rel => exact ⟨(wrap64 (x13_3 + 1)), sD, H', ⟨by have := HK1.out; have := HK2.out; have := HK3.out; omega⟩, ⟨kS⟩, ⟨by repeat (first | (with_reducible first | exact HB.out | apply below_alloc | apply pw_below_drewN | apply below_drew1 | refine below_set ?_ GE212.out | refine below_set ?_ GE213.out) | exact HB.out)⟩⟩
              ·rw [if_neg c35] at H
               have c35b0 : (((rd_T91 l3 x12_2).f1) == ((rd_T91 l3 x13_3).f1)) = false := beq_eq_false_iff_ne.mpr c35
               have c35b1 : (((rd_T91 l3 x12_2).f1) != ((rd_T91 l3 x13_3).f1)) = true := bne_iff_ne.mpr c35
               have H' := Aside0.mk H
               clear H
               refine start_ (n := 40) (S := fun w' => w'.cell? ⟨gb212, 0, none⟩ = some (.int .i64 ((rd_T91 l3 x12_2).f0)) ∧ w'.cell? ⟨gb212, 1, none⟩ = some (.int .i64 ((rd_T91 l3 x12_2).f1)) ∧ w'.cell? ⟨gb212, 2, none⟩ = some (.int .i64 ((rd_T91 l3 x12_2).f2)) ∧ w'.cell? ⟨gb213, 0, none⟩ = some (.int .i64 ((rd_T91 l3 x13_3).f0)) ∧ w'.cell? ⟨gb213, 1, none⟩ = some (.int .i64 ((rd_T91 l3 x13_3).f1)) ∧ w'.cell? ⟨gb213, 2, none⟩ = some (.int .i64 ((rd_T91 l3 x13_3).f2)) ∧ w'.cell? (ad215.add (x12_2).toNat) = some (.slice (some ad216) (rd_L7 t203 x12_2).length c215_0) ∧ w'.cell? (ad216.add (x13_3).toNat) = some (.bool true)) (ds := []) (bA 40 0) (by kernel_rfl) rfl rfl ⟨(blk_cell BK212.out 0).trans rfl, (blk_cell BK212.out 1).trans rfl, (blk_cell BK212.out 2).trans rfl, (blk_cell BK213.out 0).trans rfl, (blk_cell BK213.out 1).trans rfl, (blk_cell BK213.out 2).trans rfl, hx215_0, hx216_0⟩ (fun hHeld => ?_); refine with_tabW spec_l7Plan.tab18 spec_l7Plan.bits18 (fun HT_ HW_ => ?_)
               generalize w47.drew = w62 at HO_9 BK212 BK213 HB HL215_0 HR215_0 hx215_0 hx216_0 hHeld ⊢
               refine pU 0 85 (bA 40 1) ?_
               refine pU 1 86 (bA 40 3) ?_
               refine pU 2 87 (bA 40 7) ?_
               refine pU 4 89 (bA 40 23) ?_
               refine tU 3 88 (bA 40 31) ?_
               refine pU 5 90 (bA 40 63) ?_
               refine tU 6 91 (bA 40 127) ?_
               refine pU 7 92 (bA 40 255) ?_
               refine pU 8 93 (bA 40 511) ?_
               refine pU 9 94 (bA 40 1023) ?_
               refine pU 10 95 (bA 40 2047) ?_
               refine pU 11 96 (bA 40 4095) ?_
               refine pU 12 97 (bA 40 8191) ?_
               refine pU 13 98 (bA 40 16383) ?_
               refine pU 14 99 (bA 40 32767) ?_
               refine pU 15 100 (bA 40 65535) ?_
               refine pU 16 101 (bA 40 131071) ?_
               refine pU 18 103 (bA 40 393215) ?_
               refine tU 17 102 (bA 40 524287) ?_
               refine tU 19 104 (bA 40 1048575) ?_
               refine pU 20 105 (bA 40 2097151) ?_
               refine pU 21 106 (bA 40 4194303) ?_
               refine pU 22 107 (bA 40 8388607) ?_
               refine nU 23 108 (bA 40 16777215) ?_
               refine nU 24 109 (bA 40 33554431) ?_
               refine pU 25 110 (bA 40 67108863) ?_
               refine pU 26 111 (bA 40 134217727) ?_
               refine nU 27 112 (bA 40 268435455) ?_
               refine nU 28 113 (bA 40 536870911) ?_
               refine nU 29 114 (bA 40 1073741823) ?_
               refine nU 30 115 (bA 40 2147483647) ?_
               refine nU 31 116 (bA 40 4294967295) ?_
               refine nU 32 117 (bA 40 8589934591) ?_
               refine nU 33 118 (bA 40 17179869183) ?_
               refine nU 34 119 (bA 40 34359738367) ?_
               refine nU 35 120 (bA 40 68719476735) ?_
               refine nU 36 121 (bA 40 137438953471) ?_
               refine nU 37 122 (bA 40 274877906943) ?_
               refine pU 38 123 (bA 40 549755813887) ?_
               refine pU 39 124 (bA 40 1099511627775) ?_
               refine done_ (done_of HT_.out (by kernel_rfl)) ?_
               try go_wp2
               go_roundg k3
               case measure => have := HK1.out; have := HK2.out; have := HK3.out; omega
               case rel => exact ⟨(wrap64 (x13_3 + 1)), sD, H', ⟨by have := HK1.out; have := HK2.out; have := HK3.out; omega⟩, ⟨kS⟩, ⟨by repeat (first | (with_reducible first | exact HB.out | apply below_alloc | apply pw_below_drewN | apply below_drew1 | refine below_set ?_ GE212.out | refine below_set ?_ GE213.out) | exact HB.out)⟩⟩
             ·rw [if_neg c34] at H
              have c34b0 : decide (x12_2 < x13_3) = false := decide_eq_false c34
              clear c34
              have H' := Aside0.mk H
              clear H
              refine start_ (n := 40) (S := fun w' => w'.cell? (ad215.add (x12_2).toNat) = some (.slice (some ad216) (rd_L7 t203 x12_2).length c215_0) ∧ w'.cell? (ad216.add (x13_3).toNat) = some (.bool true)) (ds := []) (bA 40 0) (by kernel_rfl) rfl rfl ⟨hx215_0, hx216_0⟩ (fun hHeld => ?_); refine with_tabW spec_l7Plan.tab18 spec_l7Plan.bits18 (fun HT_ HW_ => ?_)
              generalize w47.drew = w76 at HO_9 BK212 BK213 HB HL215_0 HR215_0 hx215_0 hx216_0 hHeld ⊢
              refine pU 0 85 (bA 40 1) ?_
              refine pU 1 86 (bA 40 3) ?_
              refine pU 2 87 (bA 40 7) ?_
              refine pU 4 89 (bA 40 23) ?_
              refine tU 3 88 (bA 40 31) ?_
              refine pU 5 90 (bA 40 63) ?_
              refine tU 6 91 (bA 40 127) ?_
              refine pU 7 92 (bA 40 255) ?_
              refine pU 8 93 (bA 40 511) ?_
              refine pU 9 94 (bA 40 1023) ?_
              refine pU 10 95 (bA 40 2047) ?_
              refine pU 11 96 (bA 40 4095) ?_
              refine pU 12 97 (bA 40 8191) ?_
              refine pU 13 98 (bA 40 16383) ?_
              refine pU 14 99 (bA 40 32767) ?_
              refine pU 15 100 (bA 40 65535) ?_
              refine nU 16 101 (bA 40 131071) ?_
              refine nU 17 102 (bA 40 262143) ?_
              refine nU 18 103 (bA 40 524287) ?_
              refine nU 19 104 (bA 40 1048575) ?_
              refine nU 20 105 (bA 40 2097151) ?_
              refine pU 21 106 (bA 40 4194303) ?_
              refine pU 22 107 (bA 40 8388607) ?_
              refine nU 23 108 (bA 40 16777215) ?_
              refine nU 24 109 (bA 40 33554431) ?_
              refine pU 25 110 (bA 40 67108863) ?_
              refine pU 26 111 (bA 40 134217727) ?_
              refine nU 27 112 (bA 40 268435455) ?_
              refine nU 28 113 (bA 40 536870911) ?_
              refine nU 29 114 (bA 40 1073741823) ?_
              refine nU 30 115 (bA 40 2147483647) ?_
              refine nU 31 116 (bA 40 4294967295) ?_
              refine nU 32 117 (bA 40 8589934591) ?_
              refine nU 33 118 (bA 40 17179869183) ?_
              refine nU 34 119 (bA 40 34359738367) ?_
              refine nU 35 120 (bA 40 68719476735) ?_
              refine nU 36 121 (bA 40 137438953471) ?_
              refine nU 37 122 (bA 40 274877906943) ?_
              refine pU 38 123 (bA 40 549755813887) ?_
              refine pU 39 124 (bA 40 1099511627775) ?_
              refine done_ (done_of HT_.out (by kernel_rfl)) ?_
              try go_wp2
              go_roundg k3
              case measure => have := HK1.out; have := HK2.out; have := HK3.out; omega
              case rel => exact ⟨(wrap64 (x13_3 + 1)), sD, H', ⟨by have := HK1.out; have := HK2.out; have := HK3.out; omega⟩, ⟨kS⟩, ⟨by repeat (first | (with_reducible first | exact HB.out | apply below_alloc | apply pw_below_drewN | apply below_drew1 | refine below_set ?_ GE212.out | refine below_set ?_ GE213.out) | exact HB.out)⟩⟩
            ·rw [if_neg c33] at H
             have c33b0 : decide ((wrap64 (((rd_T91 l3 x12_2).f2) + ((rd_T79 l0 x12_2).f0))) ≤ ((rd_T91 l3 x13_3).f2)) = false := decide_eq_false c33
             clear c33
             obtain rfl := Option.some.inj H
             try go_wp2
             have n0_ := Aside0.mk (Kd.S_drew HO_9.out)
             have n1_ := Aside0.mk (blk_drew BK212.out)
             have n2_ := Aside0.mk (blk_drew BK213.out)
             have n3_ := Aside0.mk (below_drew1 HB.out)
             clear HO_9
             clear BK212
             clear BK213
             clear HB
             have HO_9 := n0_
             have BK212 := n1_
             have BK213 := n2_
             have HB := n3_
             clear n0_ n1_ n2_ n3_
             obtain ⟨Ao91, co91, eo91⟩ := Kd.S_slice HO_9.out
             (first | subst eo91 | (injection eo91 with f1_ f2_ f3_; have f4_ := f1_.symm; have f5_ := f3_.symm; clear f1_ f2_ f3_; subst f4_; subst f5_))
             have p215 : 0 ≤ (x12_2 : Int) := oD
             have q215 : x12_2 < (t203.length : Int) := oD
             obtain ⟨ad215, A215_0, c215_0, e215, hx215_0, hl215_0, hi215_0⟩ := at_L7 (Kd.S_reads' HO_9.out).2.2 x12_2 p215 q215
             cases e215
             obtain ⟨ce215, hce215, hMe215, hcc215⟩ := Kd.S_get HO_9.out [] x12_2 p215 (by first | exact q215 | exact oD | (have e_ := (Kd.S_reads' HO_9.out).1; omega))
             obtain ⟨ve215_0, rfl, ge215_0⟩ := hMe215
             have hv215_0 := hcc215 0 _ rfl
             rw [Nat.add_zero, show ((Kd.slice 4 Kd.bool)).sz = 1 from rfl, Nat.mul_one] at hv215_0
             replace hv215_0 := Option.some.inj (hv215_0.symm.trans hx215_0)
             rw [hv215_0] at ge215_0
             have HL215_0 := Aside0.mk (show Kd.R Kd.bool 4 _ _ _ _ (rd_L7 t203 x12_2) from ge215_0)
             clear hv215_0 ge215_0
             clear hcc215 hce215
             have HR215_0 := Aside0.mk hi215_0
             have HC215_0 := Aside0.mk hl215_0
             clear hi215_0 hl215_0
             replace p215 := eq_true p215
             replace q215 := eq_true q215
             have p216 : 0 ≤ (x13_3 : Int) := oD
             have q216 : x13_3 < ((rd_L7 t203 x12_2).length : Int) := oD
             obtain ⟨ad216, e216, hx216_0⟩ := Kd.at_bool (by repeat (first | (with_reducible exact HR215_0.out) | (with_reducible refine Kd.C_alloc ?_ _) | (with_reducible refine Kd.C_drewN ?_ _) | (with_reducible refine Kd.C_drew ?_) | exact HR215_0.out)) x13_3 p216 q216
             (try rw [← Nbq31.out] at hx216_0)
             cases e216
             replace p216 := eq_true p216
             replace q216 := eq_true q216
             refine start_ (n := 40) (S := fun w' => w'.cell? (ad215.add (x12_2).toNat) = some (.slice (some ad216) (rd_L7 t203 x12_2).length c215_0) ∧ w'.cell? (ad216.add (x13_3).toNat) = some (.bool true)) (ds := []) (bA 40 0) (by kernel_rfl) rfl rfl ⟨hx215_0, hx216_0⟩ (fun hHeld => ?_); refine with_tabW spec_l7Plan.tab18 spec_l7Plan.bits18 (fun HT_ HW_ => ?_)
             generalize w47.drew = w90 at HO_9 BK212 BK213 HB HL215_0 HR215_0 hx215_0 hx216_0 hHeld ⊢
             refine pU 0 85 (bA 40 1) ?_
             refine pU 1 86 (bA 40 3) ?_
             refine pU 2 87 (bA 40 7) ?_
             refine pU 4 89 (bA 40 23) ?_
             refine tU 3 88 (bA 40 31) ?_
             refine pU 5 90 (bA 40 63) ?_
             refine tU 6 91 (bA 40 127) ?_
             refine pU 7 92 (bA 40 255) ?_
             refine pU 8 93 (bA 40 511) ?_
             refine pU 9 94 (bA 40 1023) ?_
             refine pU 10 95 (bA 40 2047) ?_
             refine pU 11 96 (bA 40 4095) ?_
             refine nU 12 97 (bA 40 8191) ?_
             refine nU 13 98 (bA 40 16383) ?_
             refine nU 14 99 (bA 40 32767) ?_
             refine nU 15 100 (bA 40 65535) ?_
             refine nU 16 101 (bA 40 131071) ?_
             refine nU 17 102 (bA 40 262143) ?_
             refine nU 18 103 (bA 40 524287) ?_
             refine nU 19 104 (bA 40 1048575) ?_
             refine nU 20 105 (bA 40 2097151) ?_
             refine nU 21 106 (bA 40 4194303) ?_
             refine nU 22 107 (bA 40 8388607) ?_
             refine nU 23 108 (bA 40 16777215) ?_
             refine nU 24 109 (bA 40 33554431) ?_
             refine nU 25 110 (bA 40 67108863) ?_
             refine nU 26 111 (bA 40 134217727) ?_
             refine nU 27 112 (bA 40 268435455) ?_
             refine nU 28 113 (bA 40 536870911) ?_
             refine nU 29 114 (bA 40 1073741823) ?_
             refine nU 30 115 (bA 40 2147483647) ?_
             refine nU 31 116 (bA 40 4294967295) ?_
             refine nU 32 117 (bA 40 8589934591) ?_
             refine nU 33 118 (bA 40 17179869183) ?_
             refine nU 34 119 (bA 40 34359738367) ?_
             refine nU 35 120 (bA 40 68719476735) ?_
             refine nU 36 121 (bA 40 137438953471) ?_
             refine nU 37 122 (bA 40 274877906943) ?_
             refine nU 38 123 (bA 40 549755813887) ?_
             refine pU 39 124 (bA 40 1099511627775) ?_
             refine done_ (done_of HT_.out (by kernel_rfl)) ?_
             try go_wp2
             go_ret
             exact ⟨rE, bS⟩
           ·replace c32 := Bool.eq_false_iff.mpr c32
            subst c32
            have H1 : (if x12_2 < x13_3 then (if ((rd_T91 l3 x12_2).f1) = ((rd_T91 l3 x13_3).f1) then (if (((rd_T91 l3 x13_3).f2) ≥ (wrap64 (((rd_T91 l3 x12_2).f2) + ((rd_T79 l0 x12_2).f0)))) then (spec_l7Plan.l2 k3 l0 l3 t203 x12_2 (wrap64 (x13_3 + 1))) else (if x13_3 < (l0.length : Int) then (if ((rd_T91 l3 x12_2).f2) < (wrap64 (((rd_T91 l3 x13_3).f2) + ((rd_T79 l0 x13_3).f0))) then (some false) else (spec_l7Plan.l2 k3 l0 l3 t203 x12_2 (wrap64 (x13_3 + 1)))) else (none))) else (spec_l7Plan.l2 k3 l0 l3 t203 x12_2 (wrap64 (x13_3 + 1)))) else (spec_l7Plan.l2 k3 l0 l3 t203 x12_2 (wrap64 (x13_3 + 1)))) = some r := by rw [if_neg (show ¬ (false = true) by decide)] at H; exact H
            clear H
            have H := H1
            clear H1
            have HH_ := Aside0.mk H
            clear H
            try go_wp2
            have n0_ : Aside0 (Kd.S (Kd.slice 4 Kd.bool) 80 ((((((w39.setCell ⟨gb212, 0, none⟩ (.int .i64 ((rd_T91 l3 x12_2).f0))).setCell ⟨gb212, 1, none⟩ (.int .i64 ((rd_T91 l3 x12_2).f1))).setCell ⟨gb212, 2, none⟩ (.int .i64 ((rd_T91 l3 x12_2).f2))).setCell ⟨gb213, 0, none⟩ (.int .i64 ((rd_T91 l3 x13_3).f0))).setCell ⟨gb213, 1, none⟩ (.int .i64 ((rd_T91 l3 x13_3).f1))).setCell ⟨gb213, 2, none⟩ (.int .i64 ((rd_T91 l3 x13_3).f2))) w.heap.size (fun _ => True) v204 t203) := ⟨by exact Kd.S_mono (Kd.S_far (p := ⟨gb213, 2, none⟩) (Kd.S_far (p := ⟨gb213, 1, none⟩) (Kd.S_far (p := ⟨gb213, 0, none⟩) (Kd.S_far (p := ⟨gb212, 2, none⟩) (Kd.S_far (p := ⟨gb212, 1, none⟩) (Kd.S_far (p := ⟨gb212, 0, none⟩) (Kd.S_types (Kd.S_types HO_9.out BK212.out (by decide)) BK213.out (by decide)) (fun _ hk => hk.1.2) (.int .i64 ((rd_T91 l3 x12_2).f0))) (fun _ hk => hk.1.2) (.int .i64 ((rd_T91 l3 x12_2).f1))) (fun _ hk => hk.1.2) (.int .i64 ((rd_T91 l3 x12_2).f2))) (fun _ hk => hk.2) (.int .i64 ((rd_T91 l3 x13_3).f0))) (fun _ hk => hk.2) (.int .i64 ((rd_T91 l3 x13_3).f1))) (fun _ hk => hk.2) (.int .i64 ((rd_T91 l3 x13_3).f2))) (fun _ hk => trivial)⟩
            have n1_ : Aside0 (((((((w39.setCell ⟨gb212, 0, none⟩ (.int .i64 ((rd_T91 l3 x12_2).f0))).setCell ⟨gb212, 1, none⟩ (.int .i64 ((rd_T91 l3 x12_2).f1))).setCell ⟨gb212, 2, none⟩ (.int .i64 ((rd_T91 l3 x12_2).f2))).setCell ⟨gb213, 0, none⟩ (.int .i64 ((rd_T91 l3 x13_3).f0))).setCell ⟨gb213, 1, none⟩ (.int .i64 ((rd_T91 l3 x13_3).f1))).setCell ⟨gb213, 2, none⟩ (.int .i64 ((rd_T91 l3 x13_3).f2))).heap[gb212]? = some (.cells #[.int .i64 ((rd_T91 l3 x12_2).f0), .int .i64 ((rd_T91 l3 x12_2).f1), .int .i64 ((rd_T91 l3 x12_2).f2)] 91 (0, 0))) := ⟨by refine blk_far ?_ NB212_213.out _; refine blk_far ?_ NB212_213.out _; refine blk_far ?_ NB212_213.out _; refine blk_put (cs := #[.int .i64 ((rd_T91 l3 x12_2).f0), .int .i64 ((rd_T91 l3 x12_2).f1), .int .i64 0]) ?_ 2 _ rfl; refine blk_put (cs := #[.int .i64 ((rd_T91 l3 x12_2).f0), .int .i64 0, .int .i64 0]) ?_ 1 _ rfl; refine blk_put (cs := #[.int .i64 0, .int .i64 0, .int .i64 0]) ?_ 0 _ rfl; exact BK212.out⟩
            have n2_ : Aside0 (((((((w39.setCell ⟨gb212, 0, none⟩ (.int .i64 ((rd_T91 l3 x12_2).f0))).setCell ⟨gb212, 1, none⟩ (.int .i64 ((rd_T91 l3 x12_2).f1))).setCell ⟨gb212, 2, none⟩ (.int .i64 ((rd_T91 l3 x12_2).f2))).setCell ⟨gb213, 0, none⟩ (.int .i64 ((rd_T91 l3 x13_3).f0))).setCell ⟨gb213, 1, none⟩ (.int .i64 ((rd_T91 l3 x13_3).f1))).setCell ⟨gb213, 2, none⟩ (.int .i64 ((rd_T91 l3 x13_3).f2))).heap[gb213]? = some (.cells #[.int .i64 ((rd_T91 l3 x13_3).f0), .int .i64 ((rd_T91 l3 x13_3).f1), .int .i64 ((rd_T91 l3 x13_3).f2)] 91 (0, 0))) := ⟨by refine blk_put (cs := #[.int .i64 ((rd_T91 l3 x13_3).f0), .int .i64 ((rd_T91 l3 x13_3).f1), .int .i64 0]) ?_ 2 _ rfl; refine blk_put (cs := #[.int .i64 ((rd_T91 l3 x13_3).f0), .int .i64 0, .int .i64 0]) ?_ 1 _ rfl; refine blk_put (cs := #[.int .i64 0, .int .i64 0, .int .i64 0]) ?_ 0 _ rfl; refine blk_far ?_ NB213_212.out _; refine blk_far ?_ NB213_212.out _; refine blk_far ?_ NB213_212.out _; exact BK213.out⟩
            have n3_ : Aside0 (Below w.heap.size w ((((((w39.setCell ⟨gb212, 0, none⟩ (.int .i64 ((rd_T91 l3 x12_2).f0))).setCell ⟨gb212, 1, none⟩ (.int .i64 ((rd_T91 l3 x12_2).f1))).setCell ⟨gb212, 2, none⟩ (.int .i64 ((rd_T91 l3 x12_2).f2))).setCell ⟨gb213, 0, none⟩ (.int .i64 ((rd_T91 l3 x13_3).f0))).setCell ⟨gb213, 1, none⟩ (.int .i64 ((rd_T91 l3 x13_3).f1))).setCell ⟨gb213, 2, none⟩ (.int .i64 ((rd_T91 l3 x13_3).f2)))) := ⟨by repeat (first | (with_reducible first | exact HB.out | apply below_alloc | apply pw_below_drewN | apply below_drew1 | refine below_set ?_ GE212.out | refine below_set ?_ GE213.out) | exact HB.out)⟩
            (try clear HO_9)
            (try clear BK212)
            (try clear BK213)
            (try clear HB)
            generalize ((((((w39.setCell ⟨gb212, 0, none⟩ (.int .i64 ((rd_T91 l3 x12_2).f0))).setCell ⟨gb212, 1, none⟩ (.int .i64 ((rd_T91 l3 x12_2).f1))).setCell ⟨gb212, 2, none⟩ (.int .i64 ((rd_T91 l3 x12_2).f2))).setCell ⟨gb213, 0, none⟩ (.int .i64 ((rd_T91 l3 x13_3).f0))).setCell ⟨gb213, 1, none⟩ (.int .i64 ((rd_T91 l3 x13_3).f1))).setCell ⟨gb213, 2, none⟩ (.int .i64 ((rd_T91 l3 x13_3).f2))) = w105 at n0_ n1_ n2_ n3_ ⊢
            have HO_9 := n0_
            have BK212 := n1_
            have BK213 := n2_
            have HB := n3_
            clear n0_ n1_ n2_ n3_
            have n0_ := Aside0.mk (Kd.S_drew HO_9.out)
            have n1_ := Aside0.mk (blk_drew BK212.out)
            have n2_ := Aside0.mk (blk_drew BK213.out)
            have n3_ := Aside0.mk (below_drew1 HB.out)
            clear HO_9
            clear BK212
            clear BK213
            clear HB
            have HO_9 := n0_
            have BK212 := n1_
            have BK213 := n2_
            have HB := n3_
            clear n0_ n1_ n2_ n3_
            have p214 : 0 ≤ (x12_2 : Int) := oD
            have q214 : x12_2 < (l0.length : Int) := oD
            obtain ⟨ad214, e214, hx214_0, hx214_1, hx214_2, hx214_3⟩ := at_T79 HR0.out x12_2 p214 q214
            have hw214_3 := hx214_3
            have hw214_2 := hx214_2
            have hw214_1 := hx214_1
            have hw214_0 := hx214_0
            cases e214
            replace hx214_0 := (cB HB.out hx214_0 :)
            replace hx214_1 := (cB HB.out hx214_1 :)
            replace hx214_2 := (cB HB.out hx214_2 :)
            replace hx214_3 := (cB HB.out hx214_3 :)
            replace p214 := eq_true p214
            replace q214 := eq_true q214
            refine start_ (n := 12) (S := fun w' => w'.cell? ⟨gb213, 0, none⟩ = some (.int .i64 ((rd_T91 l3 x13_3).f0)) ∧ w'.cell? ⟨gb213, 1, none⟩ = some (.int .i64 ((rd_T91 l3 x13_3).f1)) ∧ w'.cell? ⟨gb213, 2, none⟩ = some (.int .i64 ((rd_T91 l3 x13_3).f2)) ∧ w'.cell? ⟨gb212, 0, none⟩ = some (.int .i64 ((rd_T91 l3 x12_2).f0)) ∧ w'.cell? ⟨gb212, 1, none⟩ = some (.int .i64 ((rd_T91 l3 x12_2).f1)) ∧ w'.cell? ⟨gb212, 2, none⟩ = some (.int .i64 ((rd_T91 l3 x12_2).f2)) ∧ w'.cell? (ad214.add ((x12_2).toNat * 4)) = some (.int .i64 ((rd_T79 l0 x12_2).f0)) ∧ w'.cell? ⟨(ad214.add ((x12_2).toNat * 4)).block, (ad214.add ((x12_2).toNat * 4)).off + 1, none⟩ = some (.int .i64 ((rd_T79 l0 x12_2).f1)) ∧ w'.cell? ⟨(ad214.add ((x12_2).toNat * 4)).block, (ad214.add ((x12_2).toNat * 4)).off + 2, none⟩ = some (.int .i64 ((rd_T79 l0 x12_2).f2)) ∧ w'.cell? ⟨(ad214.add ((x12_2).toNat * 4)).block, (ad214.add ((x12_2).toNat * 4)).off + 3, none⟩ = some (.int .i64 ((rd_T79 l0 x12_2).f3))) (ds := []) (bA 12 0) (by kernel_rfl) rfl rfl ⟨(blk_cell BK213.out 0).trans rfl, (blk_cell BK213.out 1).trans rfl, (blk_cell BK213.out 2).trans rfl, (blk_cell BK212.out 0).trans rfl, (blk_cell BK212.out 1).trans rfl, (blk_cell BK212.out 2).trans rfl, (cB HB.out hw214_0 :), (cB HB.out hw214_1 :), (cB HB.out hw214_2 :), (cB HB.out hw214_3 :)⟩ (fun hHeld => ?_); refine with_tabW spec_l7Plan.tab17 spec_l7Plan.bits17 (fun HT_ HW_ => ?_)
            generalize w105.drew = w106 at HO_9 BK212 BK213 HB hx214_0 hx214_1 hx214_2 hx214_3 hHeld ⊢
            refine pU 0 74 (bA 12 1) ?_
            refine pU 2 76 (bA 12 5) ?_
            refine pU 4 78 (bA 12 21) ?_
            refine pU 5 79 (bA 12 53) ?_
            refine pU 6 80 (bA 12 117) ?_
            refine pU 7 81 (bA 12 245) ?_
            refine tU 1 75 (bA 12 247) ?_
            refine tU 3 77 (bA 12 255) ?_
            refine tU 8 82 (bA 12 511) ?_
            refine pU 9 83 (bA 12 1023) ?_
            refine pU 10 84 (bA 12 2047) ?_
            refine pU 11 16 (bA 12 4095) ?_
            refine done_ (done_of HT_.out (by kernel_rfl)) ?_
            have H := HH_.out
            clear HH_
            by_cases c92 : x12_2 < x13_3
            ·rw [if_pos c92] at H
             have c92b0 : decide (x12_2 < x13_3) = true := decide_eq_true c92
             clear c92
             have HH_ := Aside0.mk H
             clear H
             try go_wp2
             have n0_ := Aside0.mk (Kd.S_drew HO_9.out)
             have n1_ := Aside0.mk (blk_drew BK212.out)
             have n2_ := Aside0.mk (blk_drew BK213.out)
             have n3_ := Aside0.mk (below_drew1 HB.out)
             clear HO_9
             clear BK212
             clear BK213
             clear HB
             have HO_9 := n0_
             have BK212 := n1_
             have BK213 := n2_
             have HB := n3_
             clear n0_ n1_ n2_ n3_
             obtain ⟨Ao108, co108, eo108⟩ := Kd.S_slice HO_9.out
             (first | subst eo108 | (injection eo108 with f1_ f2_ f3_; have f4_ := f1_.symm; have f5_ := f3_.symm; clear f1_ f2_ f3_; subst f4_; subst f5_))
             have p215 : 0 ≤ (x12_2 : Int) := oD
             have q215 : x12_2 < (t203.length : Int) := oD
             obtain ⟨ad215, A215_0, c215_0, e215, hx215_0, hl215_0, hi215_0⟩ := at_L7 (Kd.S_reads' HO_9.out).2.2 x12_2 p215 q215
             cases e215
             obtain ⟨ce215, hce215, hMe215, hcc215⟩ := Kd.S_get HO_9.out [] x12_2 p215 (by first | exact q215 | exact oD | (have e_ := (Kd.S_reads' HO_9.out).1; omega))
             obtain ⟨ve215_0, rfl, ge215_0⟩ := hMe215
             have hv215_0 := hcc215 0 _ rfl
             rw [Nat.add_zero, show ((Kd.slice 4 Kd.bool)).sz = 1 from rfl, Nat.mul_one] at hv215_0
             replace hv215_0 := Option.some.inj (hv215_0.symm.trans hx215_0)
             rw [hv215_0] at ge215_0
             have HL215_0 := Aside0.mk (show Kd.R Kd.bool 4 _ _ _ _ (rd_L7 t203 x12_2) from ge215_0)
             clear hv215_0 ge215_0
             clear hcc215 hce215
             have HR215_0 := Aside0.mk hi215_0
             have HC215_0 := Aside0.mk hl215_0
             clear hi215_0 hl215_0
             replace p215 := eq_true p215
             replace q215 := eq_true q215
             have p216 : 0 ≤ (x13_3 : Int) := oD
             have q216 : x13_3 < ((rd_L7 t203 x12_2).length : Int) := oD
             obtain ⟨ad216, e216, hx216_0⟩ := Kd.at_bool (by repeat (first | (with_reducible exact HR215_0.out) | (with_reducible refine Kd.C_alloc ?_ _) | (with_reducible refine Kd.C_drewN ?_ _) | (with_reducible refine Kd.C_drew ?_) | exact HR215_0.out)) x13_3 p216 q216
             (try rw [← Nbq31.out] at hx216_0)
             cases e216
             replace p216 := eq_true p216
             replace q216 := eq_true q216
             have H := HH_.out
             clear HH_
             by_cases c93 : ((rd_T91 l3 x12_2).f1) = ((rd_T91 l3 x13_3).f1)
             ·rw [if_pos c93] at H
              have c93b0 : (((rd_T91 l3 x12_2).f1) == ((rd_T91 l3 x13_3).f1)) = true := beq_iff_eq.mpr c93
              have c93b1 : (((rd_T91 l3 x12_2).f1) != ((rd_T91 l3 x13_3).f1)) = false := bne_eq_false_iff_eq.mpr c93
              clear c93
              by_cases c94 : (((rd_T91 l3 x13_3).f2) ≥ (wrap64 (((rd_T91 l3 x12_2).f2) + ((rd_T79 l0 x12_2).f0))))
              ·rw [if_pos c94] at H
               have c94b0 : decide ((wrap64 (((rd_T91 l3 x12_2).f2) + ((rd_T79 l0 x12_2).f0))) ≤ ((rd_T91 l3 x13_3).f2)) = true := decide_eq_true c94
               clear c94
               have H' := Aside0.mk H
               clear H
               refine start_ (n := 40) (S := fun w' => w'.cell? ⟨gb212, 0, none⟩ = some (.int .i64 ((rd_T91 l3 x12_2).f0)) ∧ w'.cell? ⟨gb212, 1, none⟩ = some (.int .i64 ((rd_T91 l3 x12_2).f1)) ∧ w'.cell? ⟨gb212, 2, none⟩ = some (.int .i64 ((rd_T91 l3 x12_2).f2)) ∧ w'.cell? ⟨gb213, 0, none⟩ = some (.int .i64 ((rd_T91 l3 x13_3).f0)) ∧ w'.cell? ⟨gb213, 1, none⟩ = some (.int .i64 ((rd_T91 l3 x13_3).f1)) ∧ w'.cell? ⟨gb213, 2, none⟩ = some (.int .i64 ((rd_T91 l3 x13_3).f2)) ∧ w'.cell? (ad215.add (x12_2).toNat) = some (.slice (some ad216) (rd_L7 t203 x12_2).length c215_0) ∧ w'.cell? (ad216.add (x13_3).toNat) = some (.bool false)) (ds := []) (bA 40 0) (by kernel_rfl) rfl rfl ⟨(blk_cell BK212.out 0).trans rfl, (blk_cell BK212.out 1).trans rfl, (blk_cell BK212.out 2).trans rfl, (blk_cell BK213.out 0).trans rfl, (blk_cell BK213.out 1).trans rfl, (blk_cell BK213.out 2).trans rfl, hx215_0, hx216_0⟩ (fun hHeld => ?_); refine with_tabW spec_l7Plan.tab18 spec_l7Plan.bits18 (fun HT_ HW_ => ?_)
               generalize w106.drew = w107 at HO_9 BK212 BK213 HB HL215_0 HR215_0 hx215_0 hx216_0 hHeld ⊢
               refine pU 0 85 (bA 40 1) ?_
               refine pU 1 86 (bA 40 3) ?_
               refine pU 2 87 (bA 40 7) ?_
               refine pU 4 89 (bA 40 23) ?_
               refine tU 3 88 (bA 40 31) ?_
               refine pU 5 90 (bA 40 63) ?_
               refine tU 6 91 (bA 40 127) ?_
               refine pU 7 92 (bA 40 255) ?_
               refine nU 8 93 (bA 40 511) ?_
               refine nU 9 94 (bA 40 1023) ?_
               refine pU 10 95 (bA 40 2047) ?_
               refine pU 11 96 (bA 40 4095) ?_
               refine pU 12 97 (bA 40 8191) ?_
               refine pU 13 98 (bA 40 16383) ?_
               refine pU 14 99 (bA 40 32767) ?_
               refine pU 15 100 (bA 40 65535) ?_
               refine pU 16 101 (bA 40 131071) ?_
               refine pU 18 103 (bA 40 393215) ?_
               refine tU 17 102 (bA 40 524287) ?_
               refine tU 19 104 (bA 40 1048575) ?_
               refine pU 20 105 (bA 40 2097151) ?_
               refine pU 21 106 (bA 40 4194303) ?_
               refine pU 22 107 (bA 40 8388607) ?_
               refine pU 23 108 (bA 40 16777215) ?_
               refine pU 24 109 (bA 40 33554431) ?_
               refine pU 25 110 (bA 40 67108863) ?_
               refine pU 26 111 (bA 40 134217727) ?_
               refine nU 27 112 (bA 40 268435455) ?_
               refine nU 28 113 (bA 40 536870911) ?_
               refine nU 29 114 (bA 40 1073741823) ?_
               refine nU 30 115 (bA 40 2147483647) ?_
               refine nU 31 116 (bA 40 4294967295) ?_
               refine nU 32 117 (bA 40 8589934591) ?_
               refine nU 33 118 (bA 40 17179869183) ?_
               refine nU 34 119 (bA 40 34359738367) ?_
               refine nU 35 120 (bA 40 68719476735) ?_
               refine nU 36 121 (bA 40 137438953471) ?_
               refine nU 37 122 (bA 40 274877906943) ?_
               refine pU 38 123 (bA 40 549755813887) ?_
               refine pU 39 124 (bA 40 1099511627775) ?_
               refine done_ (done_of HT_.out (by kernel_rfl)) ?_
               try go_wp2
               go_roundg k3
               case measure => have := HK1.out; have := HK2.out; have := HK3.out; omega
               case rel => exact ⟨(wrap64 (x13_3 + 1)), sD, H', ⟨by have := HK1.out; have := HK2.out; have := HK3.out; omega⟩, ⟨kS⟩, ⟨by repeat (first | (with_reducible first | exact HB.out | apply below_alloc | apply pw_below_drewN | apply below_drew1 | refine below_set ?_ GE212.out | refine below_set ?_ GE213.out) | exact HB.out)⟩⟩
              ·rw [if_neg c94] at H
               have c94b0 : decide ((wrap64 (((rd_T91 l3 x12_2).f2) + ((rd_T79 l0 x12_2).f0))) ≤ ((rd_T91 l3 x13_3).f2)) = false := decide_eq_false c94
               clear c94
               by_cases c109 : x13_3 < (l0.length : Int); rotate_left
               ·rw [if_neg c109] at H; exact absurd H (by simp)
               rw [if_pos c109] at H
               have c109b0 : decide (x13_3 < (l0.length : Int)) = true := decide_eq_true c109
               clear c109
               by_cases c110 : ((rd_T91 l3 x12_2).f2) < (wrap64 (((rd_T91 l3 x13_3).f2) + ((rd_T79 l0 x13_3).f0)))
               ·rw [if_pos c110] at H
                have c110b0 : decide (((rd_T91 l3 x12_2).f2) < (wrap64 (((rd_T91 l3 x13_3).f2) + ((rd_T79 l0 x13_3).f0)))) = true := decide_eq_true c110
                clear c110
                obtain rfl := Option.some.inj H
                have p217 : 0 ≤ (x13_3 : Int) := oD
                have q217 : x13_3 < (l0.length : Int) := oD
                obtain ⟨ad217, e217, hx217_0, hx217_1, hx217_2, hx217_3⟩ := at_T79 HR0.out x13_3 p217 q217
                have hw217_3 := hx217_3
                have hw217_2 := hx217_2
                have hw217_1 := hx217_1
                have hw217_0 := hx217_0
                obtain rfl : ad214 = ad217 := (by injection e217)
                replace hx217_0 := (cB HB.out hx217_0 :)
                replace hx217_1 := (cB HB.out hx217_1 :)
                replace hx217_2 := (cB HB.out hx217_2 :)
                replace hx217_3 := (cB HB.out hx217_3 :)
                replace p217 := eq_true p217
                replace q217 := eq_true q217
                refine start_ (n := 40) (S := fun w' => w'.cell? ⟨gb212, 0, none⟩ = some (.int .i64 ((rd_T91 l3 x12_2).f0)) ∧ w'.cell? ⟨gb212, 1, none⟩ = some (.int .i64 ((rd_T91 l3 x12_2).f1)) ∧ w'.cell? ⟨gb212, 2, none⟩ = some (.int .i64 ((rd_T91 l3 x12_2).f2)) ∧ w'.cell? ⟨gb213, 0, none⟩ = some (.int .i64 ((rd_T91 l3 x13_3).f0)) ∧ w'.cell? ⟨gb213, 1, none⟩ = some (.int .i64 ((rd_T91 l3 x13_3).f1)) ∧ w'.cell? ⟨gb213, 2, none⟩ = some (.int .i64 ((rd_T91 l3 x13_3).f2)) ∧ w'.cell? (ad215.add (x12_2).toNat) = some (.slice (some ad216) (rd_L7 t203 x12_2).length c215_0) ∧ w'.cell? (ad216.add (x13_3).toNat) = some (.bool false) ∧ w'.cell? (ad214.add ((x13_3).toNat * 4)) = some (.int .i64 ((rd_T79 l0 x13_3).f0)) ∧ w'.cell? ⟨(ad214.add ((x13_3).toNat * 4)).block, (ad214.add ((x13_3).toNat * 4)).off + 1, none⟩ = some (.int .i64 ((rd_T79 l0 x13_3).f1)) ∧ w'.cell? ⟨(ad214.add ((x13_3).toNat * 4)).block, (ad214.add ((x13_3).toNat * 4)).off + 2, none⟩ = some (.int .i64 ((rd_T79 l0 x13_3).f2)) ∧ w'.cell? ⟨(ad214.add ((x13_3).toNat * 4)).block, (ad214.add ((x13_3).toNat * 4)).off + 3, none⟩ = some (.int .i64 ((rd_T79 l0 x13_3).f3))) (ds := []) (bA 40 0) (by kernel_rfl) rfl rfl ⟨(blk_cell BK212.out 0).trans rfl, (blk_cell BK212.out 1).trans rfl, (blk_cell BK212.out 2).trans rfl, (blk_cell BK213.out 0).trans rfl, (blk_cell BK213.out 1).trans rfl, (blk_cell BK213.out 2).trans rfl, hx215_0, hx216_0, (cB HB.out hw217_0 :), (cB HB.out hw217_1 :), (cB HB.out hw217_2 :), (cB HB.out hw217_3 :)⟩ (fun hHeld => ?_); refine with_tabW spec_l7Plan.tab18 spec_l7Plan.bits18 (fun HT_ HW_ => ?_)
                generalize w106.drew = w123 at HO_9 BK212 BK213 HB HL215_0 HR215_0 hx215_0 hx216_0 hx217_0 hx217_1 hx217_2 hx217_3 hHeld ⊢
                refine pU 0 85 (bA 40 1) ?_
                refine pU 1 86 (bA 40 3) ?_
                refine pU 2 87 (bA 40 7) ?_
                refine pU 4 89 (bA 40 23) ?_
                refine tU 3 88 (bA 40 31) ?_
                refine pU 5 90 (bA 40 63) ?_
                refine tU 6 91 (bA 40 127) ?_
                refine pU 7 92 (bA 40 255) ?_
                refine nU 8 93 (bA 40 511) ?_
                refine nU 9 94 (bA 40 1023) ?_
                refine pU 10 95 (bA 40 2047) ?_
                refine pU 11 96 (bA 40 4095) ?_
                refine pU 12 97 (bA 40 8191) ?_
                refine pU 13 98 (bA 40 16383) ?_
                refine pU 14 99 (bA 40 32767) ?_
                refine pU 15 100 (bA 40 65535) ?_
                refine pU 16 101 (bA 40 131071) ?_
                refine pU 18 103 (bA 40 393215) ?_
                refine tU 17 102 (bA 40 524287) ?_
                refine tU 19 104 (bA 40 1048575) ?_
                refine pU 20 105 (bA 40 2097151) ?_
                refine pU 21 106 (bA 40 4194303) ?_
                refine pU 22 107 (bA 40 8388607) ?_
                refine pU 23 108 (bA 40 16777215) ?_
                refine pU 24 109 (bA 40 33554431) ?_
                refine pU 25 110 (bA 40 67108863) ?_
                refine pU 26 111 (bA 40 134217727) ?_
                refine pU 27 112 (bA 40 268435455) ?_
                refine pU 29 114 (bA 40 805306367) ?_
                refine pU 31 116 (bA 40 2952790015) ?_
                refine pU 32 117 (bA 40 7247757311) ?_
                refine pU 33 118 (bA 40 15837691903) ?_
                refine pU 34 119 (bA 40 33017561087) ?_
                refine tU 28 113 (bA 40 33285996543) ?_
                refine tU 30 115 (bA 40 34359738367) ?_
                refine tU 35 120 (bA 40 68719476735) ?_
                refine pU 36 121 (bA 40 137438953471) ?_
                refine pU 37 122 (bA 40 274877906943) ?_
                refine pU 38 123 (bA 40 549755813887) ?_
                refine pU 39 124 (bA 40 1099511627775) ?_
                refine done_ (done_of HT_.out (by kernel_rfl)) ?_
                try go_wp2
                go_ret
                exact ⟨rE, bS⟩
               ·rw [if_neg c110] at H
                have c110b0 : decide (((rd_T91 l3 x12_2).f2) < (wrap64 (((rd_T91 l3 x13_3).f2) + ((rd_T79 l0 x13_3).f0)))) = false := decide_eq_false c110
                clear c110
                have H' := Aside0.mk H
                clear H
                have p217 : 0 ≤ (x13_3 : Int) := oD
                have q217 : x13_3 < (l0.length : Int) := oD
                obtain ⟨ad217, e217, hx217_0, hx217_1, hx217_2, hx217_3⟩ := at_T79 HR0.out x13_3 p217 q217
                have hw217_3 := hx217_3
                have hw217_2 := hx217_2
                have hw217_1 := hx217_1
                have hw217_0 := hx217_0
                obtain rfl : ad214 = ad217 := (by injection e217)
                replace hx217_0 := (cB HB.out hx217_0 :)
                replace hx217_1 := (cB HB.out hx217_1 :)
                replace hx217_2 := (cB HB.out hx217_2 :)
                replace hx217_3 := (cB HB.out hx217_3 :)
                replace p217 := eq_true p217
                replace q217 := eq_true q217
                refine start_ (n := 40) (S := fun w' => w'.cell? ⟨gb212, 0, none⟩ = some (.int .i64 ((rd_T91 l3 x12_2).f0)) ∧ w'.cell? ⟨gb212, 1, none⟩ = some (.int .i64 ((rd_T91 l3 x12_2).f1)) ∧ w'.cell? ⟨gb212, 2, none⟩ = some (.int .i64 ((rd_T91 l3 x12_2).f2)) ∧ w'.cell? ⟨gb213, 0, none⟩ = some (.int .i64 ((rd_T91 l3 x13_3).f0)) ∧ w'.cell? ⟨gb213, 1, none⟩ = some (.int .i64 ((rd_T91 l3 x13_3).f1)) ∧ w'.cell? ⟨gb213, 2, none⟩ = some (.int .i64 ((rd_T91 l3 x13_3).f2)) ∧ w'.cell? (ad215.add (x12_2).toNat) = some (.slice (some ad216) (rd_L7 t203 x12_2).length c215_0) ∧ w'.cell? (ad216.add (x13_3).toNat) = some (.bool false) ∧ w'.cell? (ad214.add ((x13_3).toNat * 4)) = some (.int .i64 ((rd_T79 l0 x13_3).f0)) ∧ w'.cell? ⟨(ad214.add ((x13_3).toNat * 4)).block, (ad214.add ((x13_3).toNat * 4)).off + 1, none⟩ = some (.int .i64 ((rd_T79 l0 x13_3).f1)) ∧ w'.cell? ⟨(ad214.add ((x13_3).toNat * 4)).block, (ad214.add ((x13_3).toNat * 4)).off + 2, none⟩ = some (.int .i64 ((rd_T79 l0 x13_3).f2)) ∧ w'.cell? ⟨(ad214.add ((x13_3).toNat * 4)).block, (ad214.add ((x13_3).toNat * 4)).off + 3, none⟩ = some (.int .i64 ((rd_T79 l0 x13_3).f3))) (ds := []) (bA 40 0) (by kernel_rfl) rfl rfl ⟨(blk_cell BK212.out 0).trans rfl, (blk_cell BK212.out 1).trans rfl, (blk_cell BK212.out 2).trans rfl, (blk_cell BK213.out 0).trans rfl, (blk_cell BK213.out 1).trans rfl, (blk_cell BK213.out 2).trans rfl, hx215_0, hx216_0, (cB HB.out hw217_0 :), (cB HB.out hw217_1 :), (cB HB.out hw217_2 :), (cB HB.out hw217_3 :)⟩ (fun hHeld => ?_); refine with_tabW spec_l7Plan.tab18 spec_l7Plan.bits18 (fun HT_ HW_ => ?_)
                generalize w106.drew = w137 at HO_9 BK212 BK213 HB HL215_0 HR215_0 hx215_0 hx216_0 hx217_0 hx217_1 hx217_2 hx217_3 hHeld ⊢
                refine pU 0 85 (bA 40 1) ?_
                refine pU 1 86 (bA 40 3) ?_
                refine pU 2 87 (bA 40 7) ?_
                refine pU 4 89 (bA 40 23) ?_
                refine tU 3 88 (bA 40 31) ?_
                refine pU 5 90 (bA 40 63) ?_
                refine tU 6 91 (bA 40 127) ?_
                refine pU 7 92 (bA 40 255) ?_
                refine nU 8 93 (bA 40 511) ?_
                refine nU 9 94 (bA 40 1023) ?_
                refine pU 10 95 (bA 40 2047) ?_
                refine pU 11 96 (bA 40 4095) ?_
                refine pU 12 97 (bA 40 8191) ?_
                refine pU 13 98 (bA 40 16383) ?_
                refine pU 14 99 (bA 40 32767) ?_
                refine pU 15 100 (bA 40 65535) ?_
                refine pU 16 101 (bA 40 131071) ?_
                refine pU 18 103 (bA 40 393215) ?_
                refine tU 17 102 (bA 40 524287) ?_
                refine tU 19 104 (bA 40 1048575) ?_
                refine pU 20 105 (bA 40 2097151) ?_
                refine pU 21 106 (bA 40 4194303) ?_
                refine pU 22 107 (bA 40 8388607) ?_
                refine pU 23 108 (bA 40 16777215) ?_
                refine pU 24 109 (bA 40 33554431) ?_
                refine pU 25 110 (bA 40 67108863) ?_
                refine pU 26 111 (bA 40 134217727) ?_
                refine pU 27 112 (bA 40 268435455) ?_
                refine pU 29 114 (bA 40 805306367) ?_
                refine pU 31 116 (bA 40 2952790015) ?_
                refine pU 32 117 (bA 40 7247757311) ?_
                refine pU 33 118 (bA 40 15837691903) ?_
                refine pU 34 119 (bA 40 33017561087) ?_
                refine tU 28 113 (bA 40 33285996543) ?_
                refine tU 30 115 (bA 40 34359738367) ?_
                refine tU 35 120 (bA 40 68719476735) ?_
                refine pU 36 121 (bA 40 137438953471) ?_
                refine pU 37 122 (bA 40 274877906943) ?_
                refine pU 38 123 (bA 40 549755813887) ?_
                refine pU 39 124 (bA 40 1099511627775) ?_
                refine done_ (done_of HT_.out (by kernel_rfl)) ?_
                try go_wp2
                go_roundg k3
                case measure => have := HK1.out; have := HK2.out; have := HK3.out; omega
                case rel => exact ⟨(wrap64 (x13_3 + 1)), sD, H', ⟨by have := HK1.out; have := HK2.out; have := HK3.out; omega⟩, ⟨kS⟩, ⟨by repeat (first | (with_reducible first | exact HB.out | apply below_alloc | apply pw_below_drewN | apply below_drew1 | refine below_set ?_ GE212.out | refine below_set ?_ GE213.out) | exact HB.out)⟩⟩
             ·rw [if_neg c93] at H
              have c93b0 : (((rd_T91 l3 x12_2).f1) == ((rd_T91 l3 x13_3).f1)) = false := beq_eq_false_iff_ne.mpr c93
              have c93b1 : (((rd_T91 l3 x12_2).f1) != ((rd_T91 l3 x13_3).f1)) = true := bne_iff_ne.mpr c93
              have H' := Aside0.mk H
              clear H
              refine start_ (n := 40) (S := fun w' => w'.cell? ⟨gb212, 0, none⟩ = some (.int .i64 ((rd_T91 l3 x12_2).f0)) ∧ w'.cell? ⟨gb212, 1, none⟩ = some (.int .i64 ((rd_T91 l3 x12_2).f1)) ∧ w'.cell? ⟨gb212, 2, none⟩ = some (.int .i64 ((rd_T91 l3 x12_2).f2)) ∧ w'.cell? ⟨gb213, 0, none⟩ = some (.int .i64 ((rd_T91 l3 x13_3).f0)) ∧ w'.cell? ⟨gb213, 1, none⟩ = some (.int .i64 ((rd_T91 l3 x13_3).f1)) ∧ w'.cell? ⟨gb213, 2, none⟩ = some (.int .i64 ((rd_T91 l3 x13_3).f2)) ∧ w'.cell? (ad215.add (x12_2).toNat) = some (.slice (some ad216) (rd_L7 t203 x12_2).length c215_0) ∧ w'.cell? (ad216.add (x13_3).toNat) = some (.bool false)) (ds := []) (bA 40 0) (by kernel_rfl) rfl rfl ⟨(blk_cell BK212.out 0).trans rfl, (blk_cell BK212.out 1).trans rfl, (blk_cell BK212.out 2).trans rfl, (blk_cell BK213.out 0).trans rfl, (blk_cell BK213.out 1).trans rfl, (blk_cell BK213.out 2).trans rfl, hx215_0, hx216_0⟩ (fun hHeld => ?_); refine with_tabW spec_l7Plan.tab18 spec_l7Plan.bits18 (fun HT_ HW_ => ?_)
              generalize w106.drew = w151 at HO_9 BK212 BK213 HB HL215_0 HR215_0 hx215_0 hx216_0 hHeld ⊢
              refine pU 0 85 (bA 40 1) ?_
              refine pU 1 86 (bA 40 3) ?_
              refine pU 2 87 (bA 40 7) ?_
              refine pU 4 89 (bA 40 23) ?_
              refine tU 3 88 (bA 40 31) ?_
              refine pU 5 90 (bA 40 63) ?_
              refine tU 6 91 (bA 40 127) ?_
              refine pU 7 92 (bA 40 255) ?_
              refine nU 8 93 (bA 40 511) ?_
              refine nU 9 94 (bA 40 1023) ?_
              refine pU 10 95 (bA 40 2047) ?_
              refine pU 11 96 (bA 40 4095) ?_
              refine pU 12 97 (bA 40 8191) ?_
              refine pU 13 98 (bA 40 16383) ?_
              refine pU 14 99 (bA 40 32767) ?_
              refine pU 15 100 (bA 40 65535) ?_
              refine pU 16 101 (bA 40 131071) ?_
              refine pU 18 103 (bA 40 393215) ?_
              refine tU 17 102 (bA 40 524287) ?_
              refine tU 19 104 (bA 40 1048575) ?_
              refine pU 20 105 (bA 40 2097151) ?_
              refine pU 21 106 (bA 40 4194303) ?_
              refine pU 22 107 (bA 40 8388607) ?_
              refine nU 23 108 (bA 40 16777215) ?_
              refine nU 24 109 (bA 40 33554431) ?_
              refine pU 25 110 (bA 40 67108863) ?_
              refine pU 26 111 (bA 40 134217727) ?_
              refine nU 27 112 (bA 40 268435455) ?_
              refine nU 28 113 (bA 40 536870911) ?_
              refine nU 29 114 (bA 40 1073741823) ?_
              refine nU 30 115 (bA 40 2147483647) ?_
              refine nU 31 116 (bA 40 4294967295) ?_
              refine nU 32 117 (bA 40 8589934591) ?_
              refine nU 33 118 (bA 40 17179869183) ?_
              refine nU 34 119 (bA 40 34359738367) ?_
              refine nU 35 120 (bA 40 68719476735) ?_
              refine nU 36 121 (bA 40 137438953471) ?_
              refine nU 37 122 (bA 40 274877906943) ?_
              refine pU 38 123 (bA 40 549755813887) ?_
              refine pU 39 124 (bA 40 1099511627775) ?_
              refine done_ (done_of HT_.out (by kernel_rfl)) ?_
              try go_wp2
              go_roundg k3
              case measure => have := HK1.out; have := HK2.out; have := HK3.out; omega
              case rel => exact ⟨(wrap64 (x13_3 + 1)), sD, H', ⟨by have := HK1.out; have := HK2.out; have := HK3.out; omega⟩, ⟨kS⟩, ⟨by repeat (first | (with_reducible first | exact HB.out | apply below_alloc | apply pw_below_drewN | apply below_drew1 | refine below_set ?_ GE212.out | refine below_set ?_ GE213.out) | exact HB.out)⟩⟩
            ·rw [if_neg c92] at H
             have c92b0 : decide (x12_2 < x13_3) = false := decide_eq_false c92
             clear c92
             have H' := Aside0.mk H
             clear H
             try go_wp2
             have n0_ := Aside0.mk (Kd.S_drew HO_9.out)
             have n1_ := Aside0.mk (blk_drew BK212.out)
             have n2_ := Aside0.mk (blk_drew BK213.out)
             have n3_ := Aside0.mk (below_drew1 HB.out)
             clear HO_9
             clear BK212
             clear BK213
             clear HB
             have HO_9 := n0_
             have BK212 := n1_
             have BK213 := n2_
             have HB := n3_
             clear n0_ n1_ n2_ n3_
             obtain ⟨Ao166, co166, eo166⟩ := Kd.S_slice HO_9.out
             (first | subst eo166 | (injection eo166 with f1_ f2_ f3_; have f4_ := f1_.symm; have f5_ := f3_.symm; clear f1_ f2_ f3_; subst f4_; subst f5_))
             have p215 : 0 ≤ (x12_2 : Int) := oD
             have q215 : x12_2 < (t203.length : Int) := oD
             obtain ⟨ad215, A215_0, c215_0, e215, hx215_0, hl215_0, hi215_0⟩ := at_L7 (Kd.S_reads' HO_9.out).2.2 x12_2 p215 q215
             cases e215
             obtain ⟨ce215, hce215, hMe215, hcc215⟩ := Kd.S_get HO_9.out [] x12_2 p215 (by first | exact q215 | exact oD | (have e_ := (Kd.S_reads' HO_9.out).1; omega))
             obtain ⟨ve215_0, rfl, ge215_0⟩ := hMe215
             have hv215_0 := hcc215 0 _ rfl
             rw [Nat.add_zero, show ((Kd.slice 4 Kd.bool)).sz = 1 from rfl, Nat.mul_one] at hv215_0
             replace hv215_0 := Option.some.inj (hv215_0.symm.trans hx215_0)
             rw [hv215_0] at ge215_0
             have HL215_0 := Aside0.mk (show Kd.R Kd.bool 4 _ _ _ _ (rd_L7 t203 x12_2) from ge215_0)
             clear hv215_0 ge215_0
             clear hcc215 hce215
             have HR215_0 := Aside0.mk hi215_0
             have HC215_0 := Aside0.mk hl215_0
             clear hi215_0 hl215_0
             replace p215 := eq_true p215
             replace q215 := eq_true q215
             have p216 : 0 ≤ (x13_3 : Int) := oD
             have q216 : x13_3 < ((rd_L7 t203 x12_2).length : Int) := oD
             obtain ⟨ad216, e216, hx216_0⟩ := Kd.at_bool (by repeat (first | (with_reducible exact HR215_0.out) | (with_reducible refine Kd.C_alloc ?_ _) | (with_reducible refine Kd.C_drewN ?_ _) | (with_reducible refine Kd.C_drew ?_) | exact HR215_0.out)) x13_3 p216 q216
             (try rw [← Nbq31.out] at hx216_0)
             cases e216
             replace p216 := eq_true p216
             replace q216 := eq_true q216
             refine start_ (n := 40) (S := fun w' => w'.cell? (ad215.add (x12_2).toNat) = some (.slice (some ad216) (rd_L7 t203 x12_2).length c215_0) ∧ w'.cell? (ad216.add (x13_3).toNat) = some (.bool false)) (ds := []) (bA 40 0) (by kernel_rfl) rfl rfl ⟨hx215_0, hx216_0⟩ (fun hHeld => ?_); refine with_tabW spec_l7Plan.tab18 spec_l7Plan.bits18 (fun HT_ HW_ => ?_)
             generalize w106.drew = w165 at HO_9 BK212 BK213 HB HL215_0 HR215_0 hx215_0 hx216_0 hHeld ⊢
             refine pU 0 85 (bA 40 1) ?_
             refine pU 1 86 (bA 40 3) ?_
             refine pU 2 87 (bA 40 7) ?_
             refine pU 4 89 (bA 40 23) ?_
             refine tU 3 88 (bA 40 31) ?_
             refine pU 5 90 (bA 40 63) ?_
             refine tU 6 91 (bA 40 127) ?_
             refine pU 7 92 (bA 40 255) ?_
             refine nU 8 93 (bA 40 511) ?_
             refine nU 9 94 (bA 40 1023) ?_
             refine pU 10 95 (bA 40 2047) ?_
             refine pU 11 96 (bA 40 4095) ?_
             refine pU 12 97 (bA 40 8191) ?_
             refine pU 13 98 (bA 40 16383) ?_
             refine pU 14 99 (bA 40 32767) ?_
             refine pU 15 100 (bA 40 65535) ?_
             refine nU 16 101 (bA 40 131071) ?_
             refine nU 17 102 (bA 40 262143) ?_
             refine nU 18 103 (bA 40 524287) ?_
             refine nU 19 104 (bA 40 1048575) ?_
             refine nU 20 105 (bA 40 2097151) ?_
             refine pU 21 106 (bA 40 4194303) ?_
             refine pU 22 107 (bA 40 8388607) ?_
             refine nU 23 108 (bA 40 16777215) ?_
             refine nU 24 109 (bA 40 33554431) ?_
             refine pU 25 110 (bA 40 67108863) ?_
             refine pU 26 111 (bA 40 134217727) ?_
             refine nU 27 112 (bA 40 268435455) ?_
             refine nU 28 113 (bA 40 536870911) ?_
             refine nU 29 114 (bA 40 1073741823) ?_
             refine nU 30 115 (bA 40 2147483647) ?_
             refine nU 31 116 (bA 40 4294967295) ?_
             refine nU 32 117 (bA 40 8589934591) ?_
             refine nU 33 118 (bA 40 17179869183) ?_
             refine nU 34 119 (bA 40 34359738367) ?_
             refine nU 35 120 (bA 40 68719476735) ?_
             refine nU 36 121 (bA 40 137438953471) ?_
             refine nU 37 122 (bA 40 274877906943) ?_
             refine pU 38 123 (bA 40 549755813887) ?_
             refine pU 39 124 (bA 40 1099511627775) ?_
             refine done_ (done_of HT_.out (by kernel_rfl)) ?_
             try go_wp2
             go_roundg k3
             case measure => have := HK1.out; have := HK2.out; have := HK3.out; omega
             case rel => exact ⟨(wrap64 (x13_3 + 1)), sD, H', ⟨by have := HK1.out; have := HK2.out; have := HK3.out; omega⟩, ⟨kS⟩, ⟨by repeat (first | (with_reducible first | exact HB.out | apply below_alloc | apply pw_below_drewN | apply below_drew1 | refine below_set ?_ GE212.out | refine below_set ?_ GE213.out) | exact HB.out)⟩⟩
          ·rw [if_neg c24] at H
           have c24b0 : decide (x13_3 < (l3.length : Int)) = false := decide_eq_false c24
           clear c24
           have H' := Aside0.mk H
           clear H
           go_wp2
           go_roundg k3
           case measure => have := HK1.out; have := HK2.out; have := HK3.out; omega
           case rel => exact ⟨(wrap64 (x12_2 + 1)), sD, H', ⟨by have := HK1.out; have := HK2.out; have := HK3.out; omega⟩, ⟨kS⟩, ⟨by repeat (first | (with_reducible first | exact HB.out | apply below_alloc | apply pw_below_drewN | apply below_drew1) | exact HB.out)⟩⟩
       ·rw [if_neg c23] at H
        have c23b0 : decide (x12_2 < (l3.length : Int)) = false := decide_eq_false c23
        clear c23
        obtain rfl := Option.some.inj H
        go_wp2
        go_ret
        exact ⟨rE, bB⟩
 ·rw [if_neg c6] at H
  have c6b0 : ((l3.length : Int) == (l0.length : Int)) = false := beq_eq_false_iff_ne.mpr c6
  have c6b1 : ((l3.length : Int) != (l0.length : Int)) = true := bne_iff_ne.mpr c6
  have c6b2 : (l3.length == l0.length) = false := by first | simpa using c6 | (simp at c6 ⊢; omega)
  obtain rfl := Option.some.inj H
  go_enter Try.func81, Try.ntmps81
  go_wp2_with (first | ((with_reducible refine gate_callee (f := 57) rfl ?_); refine goesL_ (some 20) rfl rfl Try.func57 (by kernel_rfl) rfl #[.int .i64 (l0.length : Int), .slice A2 l2.length c2] rfl aE ?_; (with_reducible refine (spec_l4Table.calls k (l0.length : Int) _ _ l2 t203 _ ?side1 ?side2 A5.out).mono ?_); (case side1 => repeat (first | exact HR2.out | (with_reducible refine Kd.C_alloc ?_ _) | (with_reducible refine Kd.C_drewN ?_ _) | (with_reducible refine Kd.C_drew ?_))); (case side2 => exact HC2.out); rintro e w167 ⟨v204, rfl, ho0, hb⟩; refine ⟨_, rfl, ?_⟩; have n0_ := Aside0.mk (Kd.S_lower ho0 (below_size bB)); have n1_ := Aside0.mk (below_step bB hb); clear HB; have HO205 := n0_; have HB := n1_; clear n0_ n1_; (try clear hb); (try clear hk); (try clear ho0)))
  go_ret
  exact ⟨rE, bB⟩

end Go.Proofs.Ytecdigebnhlfhaa.OFnExactPlanLength
