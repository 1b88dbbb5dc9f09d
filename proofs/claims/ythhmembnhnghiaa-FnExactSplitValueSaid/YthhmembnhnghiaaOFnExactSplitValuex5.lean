/- Functions of the program as plain Lean functions, with their contracts: written by this session's program ownprint.py. Conditions: none. -/
import Derived.Test.YthhmembnhnghiaaOFnExactSplitValuex0
import Derived.Test.YthhmembnhnghiaaOFnExactSplitValuex4
namespace Go.Proofs.Ythhmembnhnghiaa.OFnExactSplitValue
open Go.RowKit Go.Proofs.YthhmembnhnghiaaW.PrintWords Go.Proofs.YthhmembnhnghiaaW.PrintLast Go.Proofs.YthhmembnhnghiaaW.PrintMore
attribute [local go_sem] max2_int min2_int max_two min_two max_three min_three max_four min_four   -- for this text's walks alone
set_option linter.unusedVariables false
set_option linter.unusedSimpArgs false

/-! ### impl_isSplit: function 78 -/
mutual
def impl_isSplit.l0 : Nat → List (S59) → List (S77) → List Int → List (S77) → Int → Int → Option (Bool)
 | 0, _, _, _, _, _, _ => none
 | k + 1, x0, x1, x5, x13, x14, x15 => if x15 < x14 then (if 0 ≤ x15 then (if x15 < (x13.length : Int) then ((impl_isNumber.f ((rd_T77 x13 x15).f0) (x0.length : Int)).bind fun t186 => (if t186 = true then (if 0 ≤ ((rd_T77 x13 x15).f0) then (if ((rd_T77 x13 x15).f0) < (x0.length : Int) then (if ((rd_T77 x13 x15).f1) < ((rd_T59 x0 ((rd_T77 x13 x15).f0)).f2) then (impl_isSplit.j1 k x0 x1 x5 x15 x13 x14 x15 true ((rd_T77 x13 x15).f0) ((rd_T77 x13 x15).f1) ((rd_T77 x13 x15).f2)) else (if ((rd_T77 x13 x15).f1) ≥ ((rd_T77 x13 x15).f2) then (impl_isSplit.j1 k x0 x1 x5 x15 x13 x14 x15 true ((rd_T77 x13 x15).f0) ((rd_T77 x13 x15).f1) ((rd_T77 x13 x15).f2)) else (impl_isSplit.j1 k x0 x1 x5 x15 x13 x14 x15 (decide (((rd_T77 x13 x15).f2) > 1000)) ((rd_T77 x13 x15).f0) ((rd_T77 x13 x15).f1) ((rd_T77 x13 x15).f2)))) else (none)) else (none)) else (impl_isSplit.j1 k x0 x1 x5 x15 x13 x14 x15 true ((rd_T77 x13 x15).f0) ((rd_T77 x13 x15).f1) ((rd_T77 x13 x15).f2)))) else (none)) else (none)) else (impl_isSplit.l1 k x5 x0 (x0.length : Int) 0)
def impl_isSplit.j1 : Nat → List (S59) → List (S77) → List Int → Int → List (S77) → Int → Int → Bool → Int → Int → Int → Option (Bool)
 | 0, _, _, _, _, _, _, _, _, _, _, _ => none
 | k + 1, x0, x1, x5, x6, x13, x14, x15, x48, x186000, x186001, x186002 => if x48 = true then (some false) else (if x6 > 0 then (if 0 ≤ (wrap64 (x6 - 1)) then (if (wrap64 (x6 - 1)) < (x1.length : Int) then (if x186001 < ((rd_T77 x1 (wrap64 (x6 - 1))).f2) then (some false) else (if x186001 = ((rd_T77 x1 (wrap64 (x6 - 1))).f2) then (if x186000 = ((rd_T77 x1 (wrap64 (x6 - 1))).f0) then (some false) else (if 0 ≤ x186000 then (if x186000 < (x5.length : Int) then (impl_isSplit.l0 k x0 x1 (x5.set (x186000 : Int).toNat (wrap64 ((rd x5 x186000) + (wrap64 (x186002 - x186001))))) x13 x14 (wrap64 (x15 + 1))) else (none)) else (none))) else (if 0 ≤ x186000 then (if x186000 < (x5.length : Int) then (impl_isSplit.l0 k x0 x1 (x5.set (x186000 : Int).toNat (wrap64 ((rd x5 x186000) + (wrap64 (x186002 - x186001))))) x13 x14 (wrap64 (x15 + 1))) else (none)) else (none)))) else (none)) else (none)) else (if 0 ≤ x186000 then (if x186000 < (x5.length : Int) then (impl_isSplit.l0 k x0 x1 (x5.set (x186000 : Int).toNat (wrap64 ((rd x5 x186000) + (wrap64 (x186002 - x186001))))) x13 x14 (wrap64 (x15 + 1))) else (none)) else (none)))
def impl_isSplit.l1 : Nat → List Int → List (S59) → Int → Int → Option (Bool)
 | 0, _, _, _, _ => none
 | k + 1, x5, x97, x98, x99 => if x99 < x98 then (if 0 ≤ x99 then (if x99 < (x97.length : Int) then (if x99 < (x5.length : Int) then (if (rd x5 x99) = ((rd_T59 x97 x99).f0) then (impl_isSplit.l1 k x5 x97 x98 (wrap64 (x99 + 1))) else (some false)) else (none)) else (none)) else (none)) else (some true)
end
def impl_isSplit.f (k : Nat) (l0 : List (S59)) (l1 : List (S77)) : Option (Bool) := if 0 ≤ (l0.length : Int) then (if ((l0.length : Int) : Int).toNat ≤ 35184372088832 then (impl_isSplit.l0 k l0 l1 (List.replicate ((l0.length : Int) : Int).toNat 0) l1 (l1.length : Int) 0) else (none)) else (none)
theorem impl_isSplit.mono_l : ∀ k, (∀ y0 y1 y2 y3 y4 y5, LeO (impl_isSplit.l0 k y0 y1 y2 y3 y4 y5) (impl_isSplit.l0 (k + 1) y0 y1 y2 y3 y4 y5)) ∧ (∀ y0 y1 y2 y3 y4 y5 y6 y7 y8 y9 y10, LeO (impl_isSplit.j1 k y0 y1 y2 y3 y4 y5 y6 y7 y8 y9 y10) (impl_isSplit.j1 (k + 1) y0 y1 y2 y3 y4 y5 y6 y7 y8 y9 y10)) ∧ (∀ y0 y1 y2 y3, LeO (impl_isSplit.l1 k y0 y1 y2 y3) (impl_isSplit.l1 (k + 1) y0 y1 y2 y3))
 | 0 => ⟨fun _ _ _ _ _ _ r h => by simp [impl_isSplit.l0] at h, fun _ _ _ _ _ _ _ _ _ _ _ r h => by simp [impl_isSplit.j1] at h, fun _ _ _ _ r h => by simp [impl_isSplit.l1] at h⟩
 | k + 1 => by
  obtain ⟨ih0, ih1, ih2⟩ := impl_isSplit.mono_l k
  refine ⟨?_, ?_, ?_⟩
  ·intro y0 y1 y2 y3 y4 y5
   unfold impl_isSplit.l0
   repeat' first
   | (with_reducible exact ih0 _ _ _ _ _ _)
   | (with_reducible exact ih1 _ _ _ _ _ _ _ _ _ _ _)
   | (with_reducible exact ih2 _ _ _ _)
   | (with_reducible exact LeO.refl _)
   | (with_reducible exact LeO.none _)
   | (with_reducible refine LeO.ite ?_ ?_)
   | (with_reducible refine LeO.bind ?_ (fun _ => ?_))
   | exact ih0 _ _ _ _ _ _
   | exact ih1 _ _ _ _ _ _ _ _ _ _ _
   | exact ih2 _ _ _ _
   | exact LeO.none _
   | refine LeO.ite ?_ ?_
   | refine LeO.bind ?_ (fun _ => ?_)
  ·intro y0 y1 y2 y3 y4 y5 y6 y7 y8 y9 y10
   unfold impl_isSplit.j1
   repeat' first
   | (with_reducible exact ih0 _ _ _ _ _ _)
   | (with_reducible exact ih1 _ _ _ _ _ _ _ _ _ _ _)
   | (with_reducible exact ih2 _ _ _ _)
   | (with_reducible exact LeO.refl _)
   | (with_reducible exact LeO.none _)
   | (with_reducible refine LeO.ite ?_ ?_)
   | (with_reducible refine LeO.bind ?_ (fun _ => ?_))
   | exact ih0 _ _ _ _ _ _
   | exact ih1 _ _ _ _ _ _ _ _ _ _ _
   | exact ih2 _ _ _ _
   | exact LeO.none _
   | refine LeO.ite ?_ ?_
   | refine LeO.bind ?_ (fun _ => ?_)
  ·intro y0 y1 y2 y3
   unfold impl_isSplit.l1
   repeat' first
   | (with_reducible exact ih0 _ _ _ _ _ _)
   | (with_reducible exact ih1 _ _ _ _ _ _ _ _ _ _ _)
   | (with_reducible exact ih2 _ _ _ _)
   | (with_reducible exact LeO.refl _)
   | (with_reducible exact LeO.none _)
   | (with_reducible refine LeO.ite ?_ ?_)
   | (with_reducible refine LeO.bind ?_ (fun _ => ?_))
   | exact ih0 _ _ _ _ _ _
   | exact ih1 _ _ _ _ _ _ _ _ _ _ _
   | exact ih2 _ _ _ _
   | exact LeO.none _
   | refine LeO.ite ?_ ?_
   | refine LeO.bind ?_ (fun _ => ?_)
theorem impl_isSplit.mono : ∀ a0 a1 k, LeO (impl_isSplit.f k a0 a1) (impl_isSplit.f (k + 1) a0 a1) := by
 intro a0 a1 k
 obtain ⟨ih0, ih1, ih2⟩ := impl_isSplit.mono_l k
 unfold impl_isSplit.f
 repeat' first
   | (with_reducible exact ih0 _ _ _ _ _ _)
   | (with_reducible exact ih1 _ _ _ _ _ _ _ _ _ _ _)
   | (with_reducible exact ih2 _ _ _ _)
   | (with_reducible exact LeO.refl _)
   | (with_reducible exact LeO.none _)
   | (with_reducible refine LeO.ite ?_ ?_)
   | (with_reducible refine LeO.bind ?_ (fun _ => ?_))
   | exact ih0 _ _ _ _ _ _
   | exact ih1 _ _ _ _ _ _ _ _ _ _ _
   | exact ih2 _ _ _ _
   | exact LeO.none _
   | refine LeO.ite ?_ ?_
   | refine LeO.bind ?_ (fun _ => ?_)
def impl_isSplit.T5 : Bool × List (List Nat × List Nat) := (true, [([], []), ([0], [0]), ([], []), ([2], [2]), ([1, 3], [1, 3]), ([4], [4]), ([5, 4], [5]), ([6], [6]), ([7, 6], [6, 7]), ([6], [6]), ([6], [6]), ([10, 6], [6, 10]), ([9, 11, 6], [6, 9, 11]), ([12, 6], [6, 12]), ([13, 6], [6, 13]), ([8, 14, 6], [6, 8, 14]), ([6, 15], [6, 15]), ([16, 6], [16]), ([17], [17]), ([18, 17], [17, 18]), ([17], [17]), ([20, 17], [17, 20]), ([19, 21, 17], [17, 19, 21]), ([17, 22], [17, 22]), ([23, 17], [23]), ([24], [24]), ([25, 24], [24, 25]), ([26, 24], [24, 26]), ([24, 27], [24, 27])])
def impl_isSplit.B5 : List Nat := [0, 1, 0, 4, 15, 31, 63, 127, 255, 127, 127, 1151, 3711, 7807, 15999, 32767, 65535, 131071, 262143, 524287, 262143, 1310719, 4194303, 8388607, 16777215, 33554431, 67108863, 134217727, 268435455]
theorem impl_isSplit.tab5 : rtab .any (opsOf Try.f78 5) = impl_isSplit.T5 := by kernel_rfl
theorem impl_isSplit.bits5 : waitsOk impl_isSplit.T5.2 impl_isSplit.B5 = true := by kernel_rfl
def impl_isSplit.T7 : Bool × List (List Nat × List Nat) := (true, [([], []), ([0], [0]), ([1], [1]), ([2], [2]), ([3, 2], [2, 3]), ([2], [2]), ([2], [2]), ([6, 2], [2, 6]), ([5, 7, 2], [2, 5, 7]), ([8, 2], [2, 8]), ([9, 2], [2, 9]), ([4, 10, 2], [2, 4, 10]), ([11, 2, 2], [2, 11]), ([12], [12]), ([13, 12], [12, 13]), ([12], [12]), ([12], [12]), ([16, 12], [12, 16]), ([15, 17, 12], [12, 15, 17]), ([18, 12], [12, 18]), ([19, 12], [12, 19]), ([14, 20, 12], [12, 14, 20]), ([21, 12, 12], [12, 21]), ([22], [22]), ([23, 22], [22, 23]), ([22], [22]), ([22], [22]), ([26, 22], [22, 26]), ([25, 27, 22], [22, 25, 27]), ([28, 22], [22, 28]), ([29, 22], [22, 29]), ([24, 30, 22], [22, 24, 30]), ([22, 31, 12], [12, 22, 31]), ([12, 32, 2], [2, 12, 32]), ([2, 33], [2, 33])])
def impl_isSplit.B7 : List Nat := [0, 1, 3, 7, 15, 7, 7, 71, 231, 487, 999, 2047, 4095, 8191, 16383, 8191, 8191, 73727, 237567, 499711, 1023999, 2097151, 4194303, 8388607, 16777215, 8388607, 8388607, 75497471, 243269631, 511705087, 1048575999, 2147483647, 4294967295, 8589934591, 17179869183]
theorem impl_isSplit.tab7 : rtab .any (opsOf Try.f78 7) = impl_isSplit.T7 := by kernel_rfl
theorem impl_isSplit.bits7 : waitsOk impl_isSplit.T7.2 impl_isSplit.B7 = true := by kernel_rfl
def impl_isSplit.T9 : Bool × List (List Nat × List Nat) := (true, [([], []), ([], []), ([1], [1]), ([0, 2], [0, 2]), ([3], [3]), ([], []), ([5], [5]), ([], []), ([7], [7]), ([6, 8], [6, 8]), ([4, 9], [4, 9]), ([0, 2, 0, 1, 2, 3, 4, 5, 6, 7, 8, 9, 10], [0, 2]), ([11, 10, 0, 1, 2, 3, 4, 5, 6, 7, 8, 9, 10], [10, 11])])
def impl_isSplit.B9 : List Nat := [0, 0, 2, 7, 15, 0, 32, 0, 128, 480, 1023, 2047, 4095]
theorem impl_isSplit.tab9 : rtab .any (opsOf Try.f78 9) = impl_isSplit.T9 := by kernel_rfl
theorem impl_isSplit.bits9 : waitsOk impl_isSplit.T9.2 impl_isSplit.B9 = true := by kernel_rfl
set_option maxHeartbeats 8000000 in
set_option maxRecDepth 100000 in
theorem impl_isSplit.calls (k : Nat) (A0 : Option Addr) (c0 : Nat) (l0 : List (S59)) (A1 : Option Addr) (c1 : Nat) (l1 : List (S77)) (r : Bool) (w : World) (hr0 : Kd.C k59 w A0 l0.length l0) (hc0 : l0.length ≤ c0) (hr1 : Kd.C k77 w A1 l1.length l1) (hc1 : l1.length ≤ c1) (h : impl_isSplit.f k l0 l1 = some r) :
  Calls Try.prog 78 #[.slice A0 l0.length c0, .slice A1 l1.length c1] w fun e w' => e = .returned (.bool r) ∧ Below w.heap.size w w' := by
 have hu77 := Try.underlying77
 have hu59 := Try.underlying59
 have HR0 := Aside0.mk hr0
 have HC0 := Aside0.mk hc0
 clear hr0 hc0
 have HR1 := Aside0.mk hr1
 have HC1 := Aside0.mk hc1
 clear hr1 hc1
 have HB := Aside0.mk (Below.refl w.heap.size w)
 have H : (if 0 ≤ (l0.length : Int) then (if ((l0.length : Int) : Int).toNat ≤ 35184372088832 then (impl_isSplit.l0 k l0 l1 (List.replicate ((l0.length : Int) : Int).toNat 0) l1 (l1.length : Int) 0) else (none)) else (none)) = some r := h
 clear h
 by_cases c3 : 0 ≤ (l0.length : Int)
 ·rw [if_pos c3] at H
  have c3b0 := eq_true c3
  have c3b1 : decide (0 ≤ (l0.length : Int)) = true := decide_eq_true c3
  clear c3
  by_cases c4 : ((l0.length : Int) : Int).toNat ≤ 35184372088832
  ·rw [if_pos c4] at H
   have c4b0 := eq_true c4
   have c4b1 : decide (((l0.length : Int) : Int).toNat ≤ 35184372088832) = true := decide_eq_true c4
   clear c4
   obtain ⟨y181, hy181⟩ : ∃ y_ : List Int, y_ = (List.replicate ((l0.length : Int) : Int).toNat 0) := ⟨_, rfl⟩
   replace H : (impl_isSplit.l0 k l0 l1 y181 l1 (l1.length : Int) 0) = some r := by first | (rw [hy181]; with_reducible exact H) | (have H2_ := (Option.bind_some _ _).symm.trans H; rw [hy181]; with_reducible exact H2_) | (have H2_ := (Option.bind_some _ _).symm.trans H; with_reducible exact H2_) | with_reducible exact H | (rw [hy181]; exact H) | exact H
   have Ny181 := Aside0.mk hy181
   clear hy181
   have H' := Aside0.mk H
   clear H
   go_enter Try.func78, Try.ntmps78
   go_wp2_with (first | ((with_reducible refine gate_dst (N := 12) rfl ?_); refine Kd.R_make (Kd.int .i64) _ 3 rfl (N := 12) rfl 37 _ _ rfl (l0.length : Int) rfl rfl Try.underlying37 (.int .i64 0) 8 info3 rfl (by decide) (by omega) 0 (ok := fun _ => True) (okp := fun _ => True) rfl (fun _ hk => hk) trivial (of_decide_eq_true (by first | (with_reducible assumption) | assumption)) (Nat.le_trans (Nat.mul_le_mul_right _ (of_decide_eq_true (by first | (with_reducible assumption) | assumption) : (l0.length : Int).toNat ≤ 35184372088832)) (by omega)) (Below.refl _ _) (Nat.le_refl _) ?_; intro v182 w5 ho6 hb hg_ hnew_; clear hg_ hnew_; (first | rw [← Ny181.out] at ho6 | (simp only [Int.reduceToNat] at ho6; rw [← Ny181.out] at ho6)); have n0_ := Aside0.mk (Kd.R_lower ho6 (below_size (by repeat (first | (with_reducible first | exact HB.out | apply below_alloc | apply pw_below_drewN | apply below_drew1) | exact HB.out)))); have n1_ := Aside0.mk (below_step (by repeat (first | (with_reducible first | exact HB.out | apply below_alloc | apply pw_below_drewN | apply below_drew1) | exact HB.out)) hb); clear HB; have HO183 := n0_; have HB := n1_; clear n0_ n1_; clear hb ho6))
   go_loopg [15] k (fun kq v15 w' => ∃ (x5_1 : List Int) (x15_1 : Int), v15 = .int .i64 x15_1 ∧ Aside0 (impl_isSplit.l0 kq l0 l1 x5_1 l1 (l1.length : Int) x15_1 = some r) ∧ Aside0 (kq ≤ k) ∧ Aside0 (Kd.R (Kd.int .i64) 3 w' w.heap.size (fun _ => True) v182 x5_1) ∧ Aside0 (Below w.heap.size w w'))
   case atStart => exact ⟨(y181), (0), (by first | rfl | (simp; done) | (simp [*]; done)), H', ⟨Nat.le_refl _⟩, ⟨by (with_reducible repeat (first | apply Kd.R_alloc | apply Kd.R_drewN | apply Kd.R_drew)); exact HO183.out⟩, ⟨by repeat (first | (with_reducible first | exact HB.out | apply below_alloc | apply pw_below_drewN | apply below_drew1) | exact HB.out)⟩⟩
   case round =>
    clear H'
    try clear c1
    try clear p2
    try clear c3
    try clear c3b0
    try clear c3b1
    try clear c4
    try clear c4b0
    try clear c4b1
    obtain ⟨x5_1, x15_1, rfl, HA, HK1, HO_5, HB⟩ := hrel
    cases gk with
    | zero => exact absurd HA.out (by simp [impl_isSplit.l0])
    | succ k1 =>
     have H := HA.out
     clear HA
     simp only [impl_isSplit.l0] at H
     by_cases c7 : x15_1 < (l1.length : Int)
     ·rw [if_pos c7] at H
      have c7b0 : decide (x15_1 < (l1.length : Int)) = true := decide_eq_true c7
      clear c7
      by_cases c8 : 0 ≤ x15_1
      ·rw [if_pos c8] at H
       have c8b0 : decide (0 ≤ x15_1) = true := decide_eq_true c8
       clear c8
       by_cases c9 : x15_1 < (l1.length : Int)
       ·rw [if_pos c9] at H
        have c9b0 : decide (x15_1 < (l1.length : Int)) = true := decide_eq_true c9
        clear c9
        have HC10 := Aside0.mk H
        clear H
        have p184 : 0 ≤ (x15_1 : Int) := of_decide_eq_true (by first | (with_reducible assumption) | assumption)
        have q184 : x15_1 < (l1.length : Int) := of_decide_eq_true (by first | (with_reducible assumption) | assumption)
        obtain ⟨ad184, e184, hx184_0, hx184_1, hx184_2⟩ := at_T77 HR1.out x15_1 p184 q184
        cases e184
        replace hx184_0 := (HB.out.cell (World.block_lt_of_cell? w _ hx184_0)).trans hx184_0
        replace hx184_1 := (HB.out.cell (World.block_lt_of_cell? w _ hx184_1)).trans hx184_1
        replace hx184_2 := (HB.out.cell (World.block_lt_of_cell? w _ hx184_2)).trans hx184_2
        replace p184 := eq_true p184
        replace q184 := eq_true q184
        go_upto_region 5 with (first | ((with_reducible refine gate_dst (N := 7) rfl ?_); refine box_event ?hg (N := 7) ?hd (cs := #[.int .i64 0, .int .i64 0, .int .i64 0]) (t := 77) ?hr ?_; (case hd => rfl); (case hg => rfl); (case hr => first | (go_simp; done) | (go_simp; rfl)); intro gb185 hg w11 hbox hb; have n0_ := Aside0.mk (Kd.R_below (by (with_reducible repeat (first | apply Kd.R_alloc | apply Kd.R_drewN | apply Kd.R_drew)); exact HO_5.out) hb); have n1_ := Aside0.mk (below_step (by repeat (first | (with_reducible first | exact HB.out | apply below_alloc | apply pw_below_drewN | apply below_drew1) | exact HB.out)) hb); have n2_ := Aside0.mk (hbox); have n3_ := Aside0.mk ((by rw [hg]; exact (below_size (by repeat (first | (with_reducible first | exact HB.out | apply below_alloc | apply pw_below_drewN | apply below_drew1) | exact HB.out))) : w.heap.size ≤ gb185)); have n4_ := Aside0.mk ((by rw [hg]; exact (below_size (by repeat (first | (with_reducible first | exact HB.out | apply below_alloc | apply pw_below_drewN | apply below_drew1) | exact HB.out))) : w.heap.size ≤ gb185)); clear HO_5; clear HB; have HO_5 := n0_; have HB := n1_; have BK185 := n2_; have GW185 := n3_; have GE185 := n4_; clear n0_ n1_ n2_ n3_ n4_; clear hb hbox hg; have hcz12_0 : w11.cell? ⟨gb185, 0, none⟩ = some (.int .i64 0) := (blk_cell BK185.out 0).trans rfl; have hcz12_1 : w11.cell? ⟨gb185, 1, none⟩ = some (.int .i64 0) := (blk_cell BK185.out 1).trans rfl; have hcz12_2 : w11.cell? ⟨gb185, 2, none⟩ = some (.int .i64 0) := (blk_cell BK185.out 2).trans rfl; have hfz12_0 := blk_frozen BK185.out 0; have hfz12_1 := blk_frozen BK185.out 1; have hfz12_2 := blk_frozen BK185.out 2))
        (try simp only [Act.put, sA, sZ, sS])
        go_cut [48] (fun v48 wc => ∃ (kq : Nat) (x48_9 : Bool), v48 = .bool x48_9 ∧ Aside0 (impl_isSplit.j1 kq l0 l1 x5_1 x15_1 l1 (l1.length : Int) x15_1 x48_9 ((rd_T77 l1 x15_1).f0) ((rd_T77 l1 x15_1).f1) ((rd_T77 l1 x15_1).f2) = some r) ∧ Aside0 (kq ≤ k1) ∧ Aside0 (Kd.R (Kd.int .i64) 3 wc w.heap.size (fun _ => True) v182 x5_1) ∧ Aside0 (wc.heap[gb185]? = some (.cells #[.int .i64 ((rd_T77 l1 x15_1).f0), .int .i64 ((rd_T77 l1 x15_1).f1), .int .i64 ((rd_T77 l1 x15_1).f2)] 77 (0, 0))) ∧ Aside0 (Below w.heap.size w wc))
        case first =>
         have H := HC10.out
         clear HC10
         replace H := Option.bind_eq_some_iff.mp H
         obtain ⟨t186, A130, H⟩ := H
         replace H : (if t186 = true then (if 0 ≤ ((rd_T77 l1 x15_1).f0) then (if ((rd_T77 l1 x15_1).f0) < (l0.length : Int) then (if ((rd_T77 l1 x15_1).f1) < ((rd_T59 l0 ((rd_T77 l1 x15_1).f0)).f2) then (impl_isSplit.j1 k1 l0 l1 x5_1 x15_1 l1 (l1.length : Int) x15_1 true ((rd_T77 l1 x15_1).f0) ((rd_T77 l1 x15_1).f1) ((rd_T77 l1 x15_1).f2)) else (if ((rd_T77 l1 x15_1).f1) ≥ ((rd_T77 l1 x15_1).f2) then (impl_isSplit.j1 k1 l0 l1 x5_1 x15_1 l1 (l1.length : Int) x15_1 true ((rd_T77 l1 x15_1).f0) ((rd_T77 l1 x15_1).f1) ((rd_T77 l1 x15_1).f2)) else (impl_isSplit.j1 k1 l0 l1 x5_1 x15_1 l1 (l1.length : Int) x15_1 (decide (((rd_T77 l1 x15_1).f2) > 1000)) ((rd_T77 l1 x15_1).f0) ((rd_T77 l1 x15_1).f1) ((rd_T77 l1 x15_1).f2)))) else (none)) else (none)) else (impl_isSplit.j1 k1 l0 l1 x5_1 x15_1 l1 (l1.length : Int) x15_1 true ((rd_T77 l1 x15_1).f0) ((rd_T77 l1 x15_1).f1) ((rd_T77 l1 x15_1).f2))) = some r := H
         have A13 := Aside0.mk A130
         clear A130
         by_cases c14 : t186 = true
         ·subst c14
          have H1 : (if 0 ≤ ((rd_T77 l1 x15_1).f0) then (if ((rd_T77 l1 x15_1).f0) < (l0.length : Int) then (if ((rd_T77 l1 x15_1).f1) < ((rd_T59 l0 ((rd_T77 l1 x15_1).f0)).f2) then (impl_isSplit.j1 k1 l0 l1 x5_1 x15_1 l1 (l1.length : Int) x15_1 true ((rd_T77 l1 x15_1).f0) ((rd_T77 l1 x15_1).f1) ((rd_T77 l1 x15_1).f2)) else (if ((rd_T77 l1 x15_1).f1) ≥ ((rd_T77 l1 x15_1).f2) then (impl_isSplit.j1 k1 l0 l1 x5_1 x15_1 l1 (l1.length : Int) x15_1 true ((rd_T77 l1 x15_1).f0) ((rd_T77 l1 x15_1).f1) ((rd_T77 l1 x15_1).f2)) else (impl_isSplit.j1 k1 l0 l1 x5_1 x15_1 l1 (l1.length : Int) x15_1 (decide (((rd_T77 l1 x15_1).f2) > 1000)) ((rd_T77 l1 x15_1).f0) ((rd_T77 l1 x15_1).f1) ((rd_T77 l1 x15_1).f2)))) else (none)) else (none)) = some r := by rw [if_pos rfl] at H; exact H
          clear H
          have H := H1
          clear H1
          by_cases c15 : 0 ≤ ((rd_T77 l1 x15_1).f0)
          ·rw [if_pos c15] at H
           have c15b0 : decide (0 ≤ ((rd_T77 l1 x15_1).f0)) = true := decide_eq_true c15
           clear c15
           (first | rw [c15b0] | (simp only [i64_w, i32_w]; rw [c15b0]) | skip)
           by_cases c16 : ((rd_T77 l1 x15_1).f0) < (l0.length : Int)
           ·rw [if_pos c16] at H
            have c16b0 : decide (((rd_T77 l1 x15_1).f0) < (l0.length : Int)) = true := decide_eq_true c16
            clear c16
            by_cases c17 : ((rd_T77 l1 x15_1).f1) < ((rd_T59 l0 ((rd_T77 l1 x15_1).f0)).f2)
            ·rw [if_pos c17] at H
             have c17b0 : decide (((rd_T77 l1 x15_1).f1) < ((rd_T59 l0 ((rd_T77 l1 x15_1).f0)).f2)) = true := decide_eq_true c17
             clear c17
             have H' := Aside0.mk H
             clear H
             try go_wp2
             have n0_ : Aside0 (Kd.R (Kd.int .i64) 3 (((w11.setCell ⟨gb185, 0, none⟩ (.int .i64 ((rd_T77 l1 x15_1).f0))).setCell ⟨gb185, 1, none⟩ (.int .i64 ((rd_T77 l1 x15_1).f1))).setCell ⟨gb185, 2, none⟩ (.int .i64 ((rd_T77 l1 x15_1).f2))) w.heap.size (fun _ => True) v182 x5_1) := ⟨by (with_reducible repeat (first | apply Kd.R_alloc | apply Kd.R_drewN | apply Kd.R_drew)); exact Kd.R_mono (Kd.R_far (p := ⟨gb185, 2, none⟩) (Kd.R_far (p := ⟨gb185, 1, none⟩) (Kd.R_far (p := ⟨gb185, 0, none⟩) (Kd.R_types HO_5.out BK185.out (by decide)) (fun _ hk => hk.2) (.int .i64 ((rd_T77 l1 x15_1).f0))) (fun _ hk => hk.2) (.int .i64 ((rd_T77 l1 x15_1).f1))) (fun _ hk => hk.2) (.int .i64 ((rd_T77 l1 x15_1).f2))) (fun _ hk => trivial)⟩
             have n1_ : Aside0 ((((w11.setCell ⟨gb185, 0, none⟩ (.int .i64 ((rd_T77 l1 x15_1).f0))).setCell ⟨gb185, 1, none⟩ (.int .i64 ((rd_T77 l1 x15_1).f1))).setCell ⟨gb185, 2, none⟩ (.int .i64 ((rd_T77 l1 x15_1).f2))).heap[gb185]? = some (.cells #[.int .i64 ((rd_T77 l1 x15_1).f0), .int .i64 ((rd_T77 l1 x15_1).f1), .int .i64 ((rd_T77 l1 x15_1).f2)] 77 (0, 0))) := ⟨by (with_reducible repeat (first | refine blk_drewN ?_ _ | refine blk_drew ?_ | refine blk_alloc ?_ _)); refine blk_put (cs := #[.int .i64 ((rd_T77 l1 x15_1).f0), .int .i64 ((rd_T77 l1 x15_1).f1), .int .i64 0]) ?_ 2 _ rfl; (with_reducible repeat (first | refine blk_drewN ?_ _ | refine blk_drew ?_ | refine blk_alloc ?_ _)); refine blk_put (cs := #[.int .i64 ((rd_T77 l1 x15_1).f0), .int .i64 0, .int .i64 0]) ?_ 1 _ rfl; (with_reducible repeat (first | refine blk_drewN ?_ _ | refine blk_drew ?_ | refine blk_alloc ?_ _)); refine blk_put (cs := #[.int .i64 0, .int .i64 0, .int .i64 0]) ?_ 0 _ rfl; (with_reducible repeat (first | refine blk_drewN ?_ _ | refine blk_drew ?_ | refine blk_alloc ?_ _)); exact BK185.out⟩
             have n2_ : Aside0 (Below w.heap.size w (((w11.setCell ⟨gb185, 0, none⟩ (.int .i64 ((rd_T77 l1 x15_1).f0))).setCell ⟨gb185, 1, none⟩ (.int .i64 ((rd_T77 l1 x15_1).f1))).setCell ⟨gb185, 2, none⟩ (.int .i64 ((rd_T77 l1 x15_1).f2)))) := ⟨by repeat (first | (with_reducible first | exact HB.out | apply below_alloc | apply pw_below_drewN | apply below_drew1 | refine below_set ?_ GE185.out) | exact HB.out)⟩
             (try clear HO_5)
             (try clear BK185)
             (try clear HB)
             generalize (((w11.setCell ⟨gb185, 0, none⟩ (.int .i64 ((rd_T77 l1 x15_1).f0))).setCell ⟨gb185, 1, none⟩ (.int .i64 ((rd_T77 l1 x15_1).f1))).setCell ⟨gb185, 2, none⟩ (.int .i64 ((rd_T77 l1 x15_1).f2))) = w18 at n0_ n1_ n2_ ⊢
             have HO_5 := n0_
             have BK185 := n1_
             have HB := n2_
             clear n0_ n1_ n2_
             have n0_ := Aside0.mk (Kd.R_drew HO_5.out)
             have n1_ := Aside0.mk (blk_drew BK185.out)
             have n2_ := Aside0.mk (below_drew1 HB.out)
             clear HO_5
             clear BK185
             clear HB
             have HO_5 := n0_
             have BK185 := n1_
             have HB := n2_
             clear n0_ n1_ n2_
             have p187 : 0 ≤ (((rd_T77 l1 x15_1).f0) : Int) := of_decide_eq_true (by first | (with_reducible assumption) | assumption)
             have q187 : ((rd_T77 l1 x15_1).f0) < (l0.length : Int) := of_decide_eq_true (by first | (with_reducible assumption) | assumption)
             obtain ⟨ad187, e187, hx187_0, hx187_1, hx187_2, hx187_3⟩ := at_T59 HR0.out ((rd_T77 l1 x15_1).f0) p187 q187
             have hw187_3 := hx187_3
             have hw187_2 := hx187_2
             have hw187_1 := hx187_1
             have hw187_0 := hx187_0
             cases e187
             replace hx187_0 := (HB.out.cell (World.block_lt_of_cell? w _ hx187_0)).trans hx187_0
             replace hx187_1 := (HB.out.cell (World.block_lt_of_cell? w _ hx187_1)).trans hx187_1
             replace hx187_2 := (HB.out.cell (World.block_lt_of_cell? w _ hx187_2)).trans hx187_2
             replace hx187_3 := (HB.out.cell (World.block_lt_of_cell? w _ hx187_3)).trans hx187_3
             replace p187 := eq_true p187
             replace q187 := eq_true q187
             refine start_ (n := 29) (S := fun w' => w'.cell? ⟨gb185, 0, none⟩ = some (.int .i64 ((rd_T77 l1 x15_1).f0)) ∧ w'.cell? ⟨gb185, 1, none⟩ = some (.int .i64 ((rd_T77 l1 x15_1).f1)) ∧ w'.cell? ⟨gb185, 2, none⟩ = some (.int .i64 ((rd_T77 l1 x15_1).f2)) ∧ w'.cell? (ad187.add ((((rd_T77 l1 x15_1).f0)).toNat * 4)) = some (.int .i64 ((rd_T59 l0 ((rd_T77 l1 x15_1).f0)).f0)) ∧ w'.cell? ⟨(ad187.add ((((rd_T77 l1 x15_1).f0)).toNat * 4)).block, (ad187.add ((((rd_T77 l1 x15_1).f0)).toNat * 4)).off + 1, none⟩ = some (.int .i64 ((rd_T59 l0 ((rd_T77 l1 x15_1).f0)).f1)) ∧ w'.cell? ⟨(ad187.add ((((rd_T77 l1 x15_1).f0)).toNat * 4)).block, (ad187.add ((((rd_T77 l1 x15_1).f0)).toNat * 4)).off + 2, none⟩ = some (.int .i64 ((rd_T59 l0 ((rd_T77 l1 x15_1).f0)).f2)) ∧ w'.cell? ⟨(ad187.add ((((rd_T77 l1 x15_1).f0)).toNat * 4)).block, (ad187.add ((((rd_T77 l1 x15_1).f0)).toNat * 4)).off + 3, none⟩ = some (.int .i64 ((rd_T59 l0 ((rd_T77 l1 x15_1).f0)).f3))) (ds := []) (bA 29 0) (by kernel_rfl) rfl rfl ⟨(blk_cell BK185.out 0).trans rfl, (blk_cell BK185.out 1).trans rfl, (blk_cell BK185.out 2).trans rfl, ((HB.out.cell (World.block_lt_of_cell? w _ hw187_0)).trans hw187_0), ((HB.out.cell (World.block_lt_of_cell? w _ hw187_1)).trans hw187_1), ((HB.out.cell (World.block_lt_of_cell? w _ hw187_2)).trans hw187_2), ((HB.out.cell (World.block_lt_of_cell? w _ hw187_3)).trans hw187_3)⟩ (fun hHeld => ?_); refine with_tabW impl_isSplit.tab5 impl_isSplit.bits5 (fun HT_ HW_ => ?_)
             generalize w18.drew = w19 at HO_5 BK185 HB hx187_0 hx187_1 hx187_2 hx187_3 hHeld ⊢
             refine pU 0 20 (bA 29 1) ?_
             refine pU 2 22 (bA 29 5) ?_
             refine pU 3 23 (bA 29 13) ?_
             refine tU 1 21 (bA 29 15) ?_
             refine one_ (i := 4) (N := some 24) (bA 29 31) rfl rfl (one_of HT_.out (by kernel_rfl)) (by decide) (fun K hK => ?_)
             refine goes_ Try.func126 (by kernel_rfl) rfl #[.int .i64 ((rd_T77 l1 x15_1).f0), .int .i64 (l0.length : Int)] (by rfl) rfl rfl (by (try simp only [List.map_toArray, List.map_cons, List.map_nil]); first | done | rfl | (simp only [List.length_drop, List.length_take]; rfl)) ?_
             with_reducible refine (impl_isNumber.calls ((rd_T77 l1 x15_1).f0) (l0.length : Int) true _ A13.out).mono ?_
             rintro e w' ⟨rfl, ⟨nd, rfl⟩⟩
             refine ⟨_, rfl, ?_⟩
             refine hK.out _ _ ⟨(blk_cell BK185.out 0).trans rfl, (blk_cell BK185.out 1).trans rfl, (blk_cell BK185.out 2).trans rfl, ((HB.out.cell (World.block_lt_of_cell? w _ hw187_0)).trans hw187_0), ((HB.out.cell (World.block_lt_of_cell? w _ hw187_1)).trans hw187_1), ((HB.out.cell (World.block_lt_of_cell? w _ hw187_2)).trans hw187_2), ((HB.out.cell (World.block_lt_of_cell? w _ hw187_3)).trans hw187_3)⟩ (fun hHeld => ?_)
             clear hK K
             refine norm_ (a' := ?_) ?_ ?_
             rotate_left
             ·show Act.put _ (some 24) _ = _
              simp only [Act.put, sA, sZ, sS, i64_w, i32_w]
              rfl
             refine pU 5 25 (bA 29 63) ?_
             refine pU 6 26 (bA 29 127) ?_
             refine pU 7 27 (bA 29 255) ?_
             refine pU 9 29 (bA 29 767) ?_
             refine pU 10 30 (bA 29 1791) ?_
             refine tU 8 28 (bA 29 2047) ?_
             refine tU 11 31 (bA 29 4095) ?_
             refine pU 12 32 (bA 29 8191) ?_
             refine pU 13 33 (bA 29 16383) ?_
             refine tU 14 34 (bA 29 32767) ?_
             refine pU 15 35 (bA 29 65535) ?_
             refine pU 16 36 (bA 29 131071) ?_
             refine pU 17 37 (bA 29 262143) ?_
             refine nU 18 38 (bA 29 524287) ?_
             refine nU 19 39 (bA 29 1048575) ?_
             refine nU 20 40 (bA 29 2097151) ?_
             refine nU 21 41 (bA 29 4194303) ?_
             refine nU 22 42 (bA 29 8388607) ?_
             refine pU 23 43 (bA 29 16777215) ?_
             refine pU 24 44 (bA 29 33554431) ?_
             refine nU 25 45 (bA 29 67108863) ?_
             refine nU 26 46 (bA 29 134217727) ?_
             refine nU 27 47 (bA 29 268435455) ?_
             refine pU 28 48 (bA 29 536870911) ?_
             refine done_ (done_of HT_.out (by kernel_rfl)) ?_
             try go_wp2
             go_meet
             case rel => exact ⟨_, (true), (by first | rfl | (simp; done) | (simp [*]; done)), H', ⟨by have := HK1.out; first | omega | exact Nat.le_refl _⟩, ⟨by (with_reducible repeat (first | apply Kd.R_alloc | apply Kd.R_drewN | apply Kd.R_drew)); exact HO_5.out⟩, ⟨by (with_reducible repeat (first | refine blk_drewN ?_ _ | refine blk_drew ?_ | refine blk_alloc ?_ _)); exact BK185.out⟩, ⟨by repeat (first | (with_reducible first | exact HB.out | apply below_alloc | apply pw_below_drewN | apply below_drew1 | refine below_set ?_ GE185.out) | exact HB.out)⟩⟩
            ·rw [if_neg c17] at H
             have c17b0 : decide (((rd_T77 l1 x15_1).f1) < ((rd_T59 l0 ((rd_T77 l1 x15_1).f0)).f2)) = false := decide_eq_false c17
             clear c17
             by_cases c20 : ((rd_T77 l1 x15_1).f1) ≥ ((rd_T77 l1 x15_1).f2)
             ·rw [if_pos c20] at H
              have c20b0 : decide (((rd_T77 l1 x15_1).f2) ≤ ((rd_T77 l1 x15_1).f1)) = true := decide_eq_true c20
              clear c20
              have H' := Aside0.mk H
              clear H
              try go_wp2
              have n0_ : Aside0 (Kd.R (Kd.int .i64) 3 (((w11.setCell ⟨gb185, 0, none⟩ (.int .i64 ((rd_T77 l1 x15_1).f0))).setCell ⟨gb185, 1, none⟩ (.int .i64 ((rd_T77 l1 x15_1).f1))).setCell ⟨gb185, 2, none⟩ (.int .i64 ((rd_T77 l1 x15_1).f2))) w.heap.size (fun _ => True) v182 x5_1) := ⟨by (with_reducible repeat (first | apply Kd.R_alloc | apply Kd.R_drewN | apply Kd.R_drew)); exact Kd.R_mono (Kd.R_far (p := ⟨gb185, 2, none⟩) (Kd.R_far (p := ⟨gb185, 1, none⟩) (Kd.R_far (p := ⟨gb185, 0, none⟩) (Kd.R_types HO_5.out BK185.out (by decide)) (fun _ hk => hk.2) (.int .i64 ((rd_T77 l1 x15_1).f0))) (fun _ hk => hk.2) (.int .i64 ((rd_T77 l1 x15_1).f1))) (fun _ hk => hk.2) (.int .i64 ((rd_T77 l1 x15_1).f2))) (fun _ hk => trivial)⟩
              have n1_ : Aside0 ((((w11.setCell ⟨gb185, 0, none⟩ (.int .i64 ((rd_T77 l1 x15_1).f0))).setCell ⟨gb185, 1, none⟩ (.int .i64 ((rd_T77 l1 x15_1).f1))).setCell ⟨gb185, 2, none⟩ (.int .i64 ((rd_T77 l1 x15_1).f2))).heap[gb185]? = some (.cells #[.int .i64 ((rd_T77 l1 x15_1).f0), .int .i64 ((rd_T77 l1 x15_1).f1), .int .i64 ((rd_T77 l1 x15_1).f2)] 77 (0, 0))) := ⟨by (with_reducible repeat (first | refine blk_drewN ?_ _ | refine blk_drew ?_ | refine blk_alloc ?_ _)); refine blk_put (cs := #[.int .i64 ((rd_T77 l1 x15_1).f0), .int .i64 ((rd_T77 l1 x15_1).f1), .int .i64 0]) ?_ 2 _ rfl; (with_reducible repeat (first | refine blk_drewN ?_ _ | refine blk_drew ?_ | refine blk_alloc ?_ _)); refine blk_put (cs := #[.int .i64 ((rd_T77 l1 x15_1).f0), .int .i64 0, .int .i64 0]) ?_ 1 _ rfl; (with_reducible repeat (first | refine blk_drewN ?_ _ | refine blk_drew ?_ | refine blk_alloc ?_ _)); refine blk_put (cs := #[.int .i64 0, .int .i64 0, .int .i64 0]) ?_ 0 _ rfl; (with_reducible repeat (first | refine blk_drewN ?_ _ | refine blk_drew ?_ | refine blk_alloc ?_ _)); exact BK185.out⟩
              have n2_ : Aside0 (Below w.heap.size w (((w11.setCell ⟨gb185, 0, none⟩ (.int .i64 ((rd_T77 l1 x15_1).f0))).setCell ⟨gb185, 1, none⟩ (.int .i64 ((rd_T77 l1 x15_1).f1))).setCell ⟨gb185, 2, none⟩ (.int .i64 ((rd_T77 l1 x15_1).f2)))) := ⟨by repeat (first | (with_reducible first | exact HB.out | apply below_alloc | apply pw_below_drewN | apply below_drew1 | refine below_set ?_ GE185.out) | exact HB.out)⟩
              (try clear HO_5)
              (try clear BK185)
              (try clear HB)
              generalize (((w11.setCell ⟨gb185, 0, none⟩ (.int .i64 ((rd_T77 l1 x15_1).f0))).setCell ⟨gb185, 1, none⟩ (.int .i64 ((rd_T77 l1 x15_1).f1))).setCell ⟨gb185, 2, none⟩ (.int .i64 ((rd_T77 l1 x15_1).f2))) = w21 at n0_ n1_ n2_ ⊢
              have HO_5 := n0_
              have BK185 := n1_
              have HB := n2_
              clear n0_ n1_ n2_
              have n0_ := Aside0.mk (Kd.R_drew HO_5.out)
              have n1_ := Aside0.mk (blk_drew BK185.out)
              have n2_ := Aside0.mk (below_drew1 HB.out)
              clear HO_5
              clear BK185
              clear HB
              have HO_5 := n0_
              have BK185 := n1_
              have HB := n2_
              clear n0_ n1_ n2_
              have p187 : 0 ≤ (((rd_T77 l1 x15_1).f0) : Int) := of_decide_eq_true (by first | (with_reducible assumption) | assumption)
              have q187 : ((rd_T77 l1 x15_1).f0) < (l0.length : Int) := of_decide_eq_true (by first | (with_reducible assumption) | assumption)
              obtain ⟨ad187, e187, hx187_0, hx187_1, hx187_2, hx187_3⟩ := at_T59 HR0.out ((rd_T77 l1 x15_1).f0) p187 q187
              have hw187_3 := hx187_3
              have hw187_2 := hx187_2
              have hw187_1 := hx187_1
              have hw187_0 := hx187_0
              cases e187
              replace hx187_0 := (HB.out.cell (World.block_lt_of_cell? w _ hx187_0)).trans hx187_0
              replace hx187_1 := (HB.out.cell (World.block_lt_of_cell? w _ hx187_1)).trans hx187_1
              replace hx187_2 := (HB.out.cell (World.block_lt_of_cell? w _ hx187_2)).trans hx187_2
              replace hx187_3 := (HB.out.cell (World.block_lt_of_cell? w _ hx187_3)).trans hx187_3
              replace p187 := eq_true p187
              replace q187 := eq_true q187
              refine start_ (n := 29) (S := fun w' => w'.cell? ⟨gb185, 0, none⟩ = some (.int .i64 ((rd_T77 l1 x15_1).f0)) ∧ w'.cell? ⟨gb185, 1, none⟩ = some (.int .i64 ((rd_T77 l1 x15_1).f1)) ∧ w'.cell? ⟨gb185, 2, none⟩ = some (.int .i64 ((rd_T77 l1 x15_1).f2)) ∧ w'.cell? (ad187.add ((((rd_T77 l1 x15_1).f0)).toNat * 4)) = some (.int .i64 ((rd_T59 l0 ((rd_T77 l1 x15_1).f0)).f0)) ∧ w'.cell? ⟨(ad187.add ((((rd_T77 l1 x15_1).f0)).toNat * 4)).block, (ad187.add ((((rd_T77 l1 x15_1).f0)).toNat * 4)).off + 1, none⟩ = some (.int .i64 ((rd_T59 l0 ((rd_T77 l1 x15_1).f0)).f1)) ∧ w'.cell? ⟨(ad187.add ((((rd_T77 l1 x15_1).f0)).toNat * 4)).block, (ad187.add ((((rd_T77 l1 x15_1).f0)).toNat * 4)).off + 2, none⟩ = some (.int .i64 ((rd_T59 l0 ((rd_T77 l1 x15_1).f0)).f2)) ∧ w'.cell? ⟨(ad187.add ((((rd_T77 l1 x15_1).f0)).toNat * 4)).block, (ad187.add ((((rd_T77 l1 x15_1).f0)).toNat * 4)).off + 3, none⟩ = some (.int .i64 ((rd_T59 l0 ((rd_T77 l1 x15_1).f0)).f3))) (ds := []) (bA 29 0) (by kernel_rfl) rfl rfl ⟨(blk_cell BK185.out 0).trans rfl, (blk_cell BK185.out 1).trans rfl, (blk_cell BK185.out 2).trans rfl, ((HB.out.cell (World.block_lt_of_cell? w _ hw187_0)).trans hw187_0), ((HB.out.cell (World.block_lt_of_cell? w _ hw187_1)).trans hw187_1), ((HB.out.cell (World.block_lt_of_cell? w _ hw187_2)).trans hw187_2), ((HB.out.cell (World.block_lt_of_cell? w _ hw187_3)).trans hw187_3)⟩ (fun hHeld => ?_); refine with_tabW impl_isSplit.tab5 impl_isSplit.bits5 (fun HT_ HW_ => ?_)
              generalize w21.drew = w22 at HO_5 BK185 HB hx187_0 hx187_1 hx187_2 hx187_3 hHeld ⊢
              refine pU 0 20 (bA 29 1) ?_
              refine pU 2 22 (bA 29 5) ?_
              refine pU 3 23 (bA 29 13) ?_
              refine tU 1 21 (bA 29 15) ?_
              refine one_ (i := 4) (N := some 24) (bA 29 31) rfl rfl (one_of HT_.out (by kernel_rfl)) (by decide) (fun K hK => ?_)
              refine goes_ Try.func126 (by kernel_rfl) rfl #[.int .i64 ((rd_T77 l1 x15_1).f0), .int .i64 (l0.length : Int)] (by rfl) rfl rfl (by (try simp only [List.map_toArray, List.map_cons, List.map_nil]); first | done | rfl | (simp only [List.length_drop, List.length_take]; rfl)) ?_
              with_reducible refine (impl_isNumber.calls ((rd_T77 l1 x15_1).f0) (l0.length : Int) true _ A13.out).mono ?_
              rintro e w' ⟨rfl, ⟨nd, rfl⟩⟩
              refine ⟨_, rfl, ?_⟩
              refine hK.out _ _ ⟨(blk_cell BK185.out 0).trans rfl, (blk_cell BK185.out 1).trans rfl, (blk_cell BK185.out 2).trans rfl, ((HB.out.cell (World.block_lt_of_cell? w _ hw187_0)).trans hw187_0), ((HB.out.cell (World.block_lt_of_cell? w _ hw187_1)).trans hw187_1), ((HB.out.cell (World.block_lt_of_cell? w _ hw187_2)).trans hw187_2), ((HB.out.cell (World.block_lt_of_cell? w _ hw187_3)).trans hw187_3)⟩ (fun hHeld => ?_)
              clear hK K
              refine norm_ (a' := ?_) ?_ ?_
              rotate_left
              ·show Act.put _ (some 24) _ = _
               simp only [Act.put, sA, sZ, sS, i64_w, i32_w]
               rfl
              refine pU 5 25 (bA 29 63) ?_
              refine pU 6 26 (bA 29 127) ?_
              refine pU 7 27 (bA 29 255) ?_
              refine pU 9 29 (bA 29 767) ?_
              refine pU 10 30 (bA 29 1791) ?_
              refine tU 8 28 (bA 29 2047) ?_
              refine tU 11 31 (bA 29 4095) ?_
              refine pU 12 32 (bA 29 8191) ?_
              refine pU 13 33 (bA 29 16383) ?_
              refine tU 14 34 (bA 29 32767) ?_
              refine pU 15 35 (bA 29 65535) ?_
              refine pU 16 36 (bA 29 131071) ?_
              refine pU 17 37 (bA 29 262143) ?_
              refine pU 18 38 (bA 29 524287) ?_
              refine pU 20 40 (bA 29 1572863) ?_
              refine tU 19 39 (bA 29 2097151) ?_
              refine tU 21 41 (bA 29 4194303) ?_
              refine pU 22 42 (bA 29 8388607) ?_
              refine pU 23 43 (bA 29 16777215) ?_
              refine pU 24 44 (bA 29 33554431) ?_
              refine nU 25 45 (bA 29 67108863) ?_
              refine nU 26 46 (bA 29 134217727) ?_
              refine nU 27 47 (bA 29 268435455) ?_
              refine pU 28 48 (bA 29 536870911) ?_
              refine done_ (done_of HT_.out (by kernel_rfl)) ?_
              try go_wp2
              go_meet
              case rel => exact ⟨_, (true), (by first | rfl | (simp; done) | (simp [*]; done)), H', ⟨by have := HK1.out; first | omega | exact Nat.le_refl _⟩, ⟨by (with_reducible repeat (first | apply Kd.R_alloc | apply Kd.R_drewN | apply Kd.R_drew)); exact HO_5.out⟩, ⟨by (with_reducible repeat (first | refine blk_drewN ?_ _ | refine blk_drew ?_ | refine blk_alloc ?_ _)); exact BK185.out⟩, ⟨by repeat (first | (with_reducible first | exact HB.out | apply below_alloc | apply pw_below_drewN | apply below_drew1 | refine below_set ?_ GE185.out) | exact HB.out)⟩⟩
             ·rw [if_neg c20] at H
              have c20b0 : decide (((rd_T77 l1 x15_1).f2) ≤ ((rd_T77 l1 x15_1).f1)) = false := decide_eq_false c20
              clear c20
              have H' := Aside0.mk H
              clear H
              try go_wp2
              have n0_ : Aside0 (Kd.R (Kd.int .i64) 3 (((w11.setCell ⟨gb185, 0, none⟩ (.int .i64 ((rd_T77 l1 x15_1).f0))).setCell ⟨gb185, 1, none⟩ (.int .i64 ((rd_T77 l1 x15_1).f1))).setCell ⟨gb185, 2, none⟩ (.int .i64 ((rd_T77 l1 x15_1).f2))) w.heap.size (fun _ => True) v182 x5_1) := ⟨by (with_reducible repeat (first | apply Kd.R_alloc | apply Kd.R_drewN | apply Kd.R_drew)); exact Kd.R_mono (Kd.R_far (p := ⟨gb185, 2, none⟩) (Kd.R_far (p := ⟨gb185, 1, none⟩) (Kd.R_far (p := ⟨gb185, 0, none⟩) (Kd.R_types HO_5.out BK185.out (by decide)) (fun _ hk => hk.2) (.int .i64 ((rd_T77 l1 x15_1).f0))) (fun _ hk => hk.2) (.int .i64 ((rd_T77 l1 x15_1).f1))) (fun _ hk => hk.2) (.int .i64 ((rd_T77 l1 x15_1).f2))) (fun _ hk => trivial)⟩
              have n1_ : Aside0 ((((w11.setCell ⟨gb185, 0, none⟩ (.int .i64 ((rd_T77 l1 x15_1).f0))).setCell ⟨gb185, 1, none⟩ (.int .i64 ((rd_T77 l1 x15_1).f1))).setCell ⟨gb185, 2, none⟩ (.int .i64 ((rd_T77 l1 x15_1).f2))).heap[gb185]? = some (.cells #[.int .i64 ((rd_T77 l1 x15_1).f0), .int .i64 ((rd_T77 l1 x15_1).f1), .int .i64 ((rd_T77 l1 x15_1).f2)] 77 (0, 0))) := ⟨by (with_reducible repeat (first | refine blk_drewN ?_ _ | refine blk_drew ?_ | refine blk_alloc ?_ _)); refine blk_put (cs := #[.int .i64 ((rd_T77 l1 x15_1).f0), .int .i64 ((rd_T77 l1 x15_1).f1), .int .i64 0]) ?_ 2 _ rfl; (with_reducible repeat (first | refine blk_drewN ?_ _ | refine blk_drew ?_ | refine blk_alloc ?_ _)); refine blk_put (cs := #[.int .i64 ((rd_T77 l1 x15_1).f0), .int .i64 0, .int .i64 0]) ?_ 1 _ rfl; (with_reducible repeat (first | refine blk_drewN ?_ _ | refine blk_drew ?_ | refine blk_alloc ?_ _)); refine blk_put (cs := #[.int .i64 0, .int .i64 0, .int .i64 0]) ?_ 0 _ rfl; (with_reducible repeat (first | refine blk_drewN ?_ _ | refine blk_drew ?_ | refine blk_alloc ?_ _)); exact BK185.out⟩
              have n2_ : Aside0 (Below w.heap.size w (((w11.setCell ⟨gb185, 0, none⟩ (.int .i64 ((rd_T77 l1 x15_1).f0))).setCell ⟨gb185, 1, none⟩ (.int .i64 ((rd_T77 l1 x15_1).f1))).setCell ⟨gb185, 2, none⟩ (.int .i64 ((rd_T77 l1 x15_1).f2)))) := ⟨by repeat (first | (with_reducible first | exact HB.out | apply below_alloc | apply pw_below_drewN | apply below_drew1 | refine below_set ?_ GE185.out) | exact HB.out)⟩
              (try clear HO_5)
              (try clear BK185)
              (try clear HB)
              generalize (((w11.setCell ⟨gb185, 0, none⟩ (.int .i64 ((rd_T77 l1 x15_1).f0))).setCell ⟨gb185, 1, none⟩ (.int .i64 ((rd_T77 l1 x15_1).f1))).setCell ⟨gb185, 2, none⟩ (.int .i64 ((rd_T77 l1 x15_1).f2))) = w23 at n0_ n1_ n2_ ⊢
              have HO_5 := n0_
              have BK185 := n1_
              have HB := n2_
              clear n0_ n1_ n2_
              have n0_ := Aside0.mk (Kd.R_drew HO_5.out)
              have n1_ := Aside0.mk (blk_drew BK185.out)
              have n2_ := Aside0.mk (below_drew1 HB.out)
              clear HO_5
              clear BK185
              clear HB
              have HO_5 := n0_
              have BK185 := n1_
              have HB := n2_
              clear n0_ n1_ n2_
              have p187 : 0 ≤ (((rd_T77 l1 x15_1).f0) : Int) := of_decide_eq_true (by first | (with_reducible assumption) | assumption)
              have q187 : ((rd_T77 l1 x15_1).f0) < (l0.length : Int) := of_decide_eq_true (by first | (with_reducible assumption) | assumption)
              obtain ⟨ad187, e187, hx187_0, hx187_1, hx187_2, hx187_3⟩ := at_T59 HR0.out ((rd_T77 l1 x15_1).f0) p187 q187
              have hw187_3 := hx187_3
              have hw187_2 := hx187_2
              have hw187_1 := hx187_1
              have hw187_0 := hx187_0
              cases e187
              replace hx187_0 := (HB.out.cell (World.block_lt_of_cell? w _ hx187_0)).trans hx187_0
              replace hx187_1 := (HB.out.cell (World.block_lt_of_cell? w _ hx187_1)).trans hx187_1
              replace hx187_2 := (HB.out.cell (World.block_lt_of_cell? w _ hx187_2)).trans hx187_2
              replace hx187_3 := (HB.out.cell (World.block_lt_of_cell? w _ hx187_3)).trans hx187_3
              replace p187 := eq_true p187
              replace q187 := eq_true q187
              refine start_ (n := 29) (S := fun w' => w'.cell? ⟨gb185, 0, none⟩ = some (.int .i64 ((rd_T77 l1 x15_1).f0)) ∧ w'.cell? ⟨gb185, 1, none⟩ = some (.int .i64 ((rd_T77 l1 x15_1).f1)) ∧ w'.cell? ⟨gb185, 2, none⟩ = some (.int .i64 ((rd_T77 l1 x15_1).f2)) ∧ w'.cell? (ad187.add ((((rd_T77 l1 x15_1).f0)).toNat * 4)) = some (.int .i64 ((rd_T59 l0 ((rd_T77 l1 x15_1).f0)).f0)) ∧ w'.cell? ⟨(ad187.add ((((rd_T77 l1 x15_1).f0)).toNat * 4)).block, (ad187.add ((((rd_T77 l1 x15_1).f0)).toNat * 4)).off + 1, none⟩ = some (.int .i64 ((rd_T59 l0 ((rd_T77 l1 x15_1).f0)).f1)) ∧ w'.cell? ⟨(ad187.add ((((rd_T77 l1 x15_1).f0)).toNat * 4)).block, (ad187.add ((((rd_T77 l1 x15_1).f0)).toNat * 4)).off + 2, none⟩ = some (.int .i64 ((rd_T59 l0 ((rd_T77 l1 x15_1).f0)).f2)) ∧ w'.cell? ⟨(ad187.add ((((rd_T77 l1 x15_1).f0)).toNat * 4)).block, (ad187.add ((((rd_T77 l1 x15_1).f0)).toNat * 4)).off + 3, none⟩ = some (.int .i64 ((rd_T59 l0 ((rd_T77 l1 x15_1).f0)).f3))) (ds := []) (bA 29 0) (by kernel_rfl) rfl rfl ⟨(blk_cell BK185.out 0).trans rfl, (blk_cell BK185.out 1).trans rfl, (blk_cell BK185.out 2).trans rfl, ((HB.out.cell (World.block_lt_of_cell? w _ hw187_0)).trans hw187_0), ((HB.out.cell (World.block_lt_of_cell? w _ hw187_1)).trans hw187_1), ((HB.out.cell (World.block_lt_of_cell? w _ hw187_2)).trans hw187_2), ((HB.out.cell (World.block_lt_of_cell? w _ hw187_3)).trans hw187_3)⟩ (fun hHeld => ?_); refine with_tabW impl_isSplit.tab5 impl_isSplit.bits5 (fun HT_ HW_ => ?_)
              generalize w23.drew = w24 at HO_5 BK185 HB hx187_0 hx187_1 hx187_2 hx187_3 hHeld ⊢
              refine pU 0 20 (bA 29 1) ?_
              refine pU 2 22 (bA 29 5) ?_
              refine pU 3 23 (bA 29 13) ?_
              refine tU 1 21 (bA 29 15) ?_
              refine one_ (i := 4) (N := some 24) (bA 29 31) rfl rfl (one_of HT_.out (by kernel_rfl)) (by decide) (fun K hK => ?_)
              refine goes_ Try.func126 (by kernel_rfl) rfl #[.int .i64 ((rd_T77 l1 x15_1).f0), .int .i64 (l0.length : Int)] (by rfl) rfl rfl (by (try simp only [List.map_toArray, List.map_cons, List.map_nil]); first | done | rfl | (simp only [List.length_drop, List.length_take]; rfl)) ?_
              with_reducible refine (impl_isNumber.calls ((rd_T77 l1 x15_1).f0) (l0.length : Int) true _ A13.out).mono ?_
              rintro e w' ⟨rfl, ⟨nd, rfl⟩⟩
              refine ⟨_, rfl, ?_⟩
              refine hK.out _ _ ⟨(blk_cell BK185.out 0).trans rfl, (blk_cell BK185.out 1).trans rfl, (blk_cell BK185.out 2).trans rfl, ((HB.out.cell (World.block_lt_of_cell? w _ hw187_0)).trans hw187_0), ((HB.out.cell (World.block_lt_of_cell? w _ hw187_1)).trans hw187_1), ((HB.out.cell (World.block_lt_of_cell? w _ hw187_2)).trans hw187_2), ((HB.out.cell (World.block_lt_of_cell? w _ hw187_3)).trans hw187_3)⟩ (fun hHeld => ?_)
              clear hK K
              refine norm_ (a' := ?_) ?_ ?_
              rotate_left
              ·show Act.put _ (some 24) _ = _
               simp only [Act.put, sA, sZ, sS, i64_w, i32_w]
               rfl
              refine pU 5 25 (bA 29 63) ?_
              refine pU 6 26 (bA 29 127) ?_
              refine pU 7 27 (bA 29 255) ?_
              refine pU 9 29 (bA 29 767) ?_
              refine pU 10 30 (bA 29 1791) ?_
              refine tU 8 28 (bA 29 2047) ?_
              refine tU 11 31 (bA 29 4095) ?_
              refine pU 12 32 (bA 29 8191) ?_
              refine pU 13 33 (bA 29 16383) ?_
              refine tU 14 34 (bA 29 32767) ?_
              refine pU 15 35 (bA 29 65535) ?_
              refine pU 16 36 (bA 29 131071) ?_
              refine pU 17 37 (bA 29 262143) ?_
              refine pU 18 38 (bA 29 524287) ?_
              refine pU 20 40 (bA 29 1572863) ?_
              refine tU 19 39 (bA 29 2097151) ?_
              refine tU 21 41 (bA 29 4194303) ?_
              refine pU 22 42 (bA 29 8388607) ?_
              refine pU 23 43 (bA 29 16777215) ?_
              refine pU 24 44 (bA 29 33554431) ?_
              refine pU 25 45 (bA 29 67108863) ?_
              refine tU 26 46 (bA 29 134217727) ?_
              refine pU 27 47 (bA 29 268435455) ?_
              refine pU 28 48 (bA 29 536870911) ?_
              refine done_ (done_of HT_.out (by kernel_rfl)) ?_
              try go_wp2
              go_meet
              case rel => exact ⟨_, (decide (((rd_T77 l1 x15_1).f2) > 1000)), (by first | rfl | (simp; done) | (simp [*]; done)), H', ⟨by have := HK1.out; first | omega | exact Nat.le_refl _⟩, ⟨by (with_reducible repeat (first | apply Kd.R_alloc | apply Kd.R_drewN | apply Kd.R_drew)); exact HO_5.out⟩, ⟨by (with_reducible repeat (first | refine blk_drewN ?_ _ | refine blk_drew ?_ | refine blk_alloc ?_ _)); exact BK185.out⟩, ⟨by repeat (first | (with_reducible first | exact HB.out | apply below_alloc | apply pw_below_drewN | apply below_drew1 | refine below_set ?_ GE185.out) | exact HB.out)⟩⟩
           ·rw [if_neg c16] at H
            exact absurd H (by simp)
          ·rw [if_neg c15] at H
           exact absurd H (by simp)
         ·replace c14 := Bool.eq_false_iff.mpr c14
          subst c14
          have H1 : (impl_isSplit.j1 k1 l0 l1 x5_1 x15_1 l1 (l1.length : Int) x15_1 true ((rd_T77 l1 x15_1).f0) ((rd_T77 l1 x15_1).f1) ((rd_T77 l1 x15_1).f2)) = some r := by rw [if_neg (show ¬ (false = true) by decide)] at H; exact H
          clear H
          have H := H1
          clear H1
          have H' := Aside0.mk H
          clear H
          try go_wp2
          have n0_ : Aside0 (Kd.R (Kd.int .i64) 3 (((w11.setCell ⟨gb185, 0, none⟩ (.int .i64 ((rd_T77 l1 x15_1).f0))).setCell ⟨gb185, 1, none⟩ (.int .i64 ((rd_T77 l1 x15_1).f1))).setCell ⟨gb185, 2, none⟩ (.int .i64 ((rd_T77 l1 x15_1).f2))) w.heap.size (fun _ => True) v182 x5_1) := ⟨by (with_reducible repeat (first | apply Kd.R_alloc | apply Kd.R_drewN | apply Kd.R_drew)); exact Kd.R_mono (Kd.R_far (p := ⟨gb185, 2, none⟩) (Kd.R_far (p := ⟨gb185, 1, none⟩) (Kd.R_far (p := ⟨gb185, 0, none⟩) (Kd.R_types HO_5.out BK185.out (by decide)) (fun _ hk => hk.2) (.int .i64 ((rd_T77 l1 x15_1).f0))) (fun _ hk => hk.2) (.int .i64 ((rd_T77 l1 x15_1).f1))) (fun _ hk => hk.2) (.int .i64 ((rd_T77 l1 x15_1).f2))) (fun _ hk => trivial)⟩
          have n1_ : Aside0 ((((w11.setCell ⟨gb185, 0, none⟩ (.int .i64 ((rd_T77 l1 x15_1).f0))).setCell ⟨gb185, 1, none⟩ (.int .i64 ((rd_T77 l1 x15_1).f1))).setCell ⟨gb185, 2, none⟩ (.int .i64 ((rd_T77 l1 x15_1).f2))).heap[gb185]? = some (.cells #[.int .i64 ((rd_T77 l1 x15_1).f0), .int .i64 ((rd_T77 l1 x15_1).f1), .int .i64 ((rd_T77 l1 x15_1).f2)] 77 (0, 0))) := ⟨by (with_reducible repeat (first | refine blk_drewN ?_ _ | refine blk_drew ?_ | refine blk_alloc ?_ _)); refine blk_put (cs := #[.int .i64 ((rd_T77 l1 x15_1).f0), .int .i64 ((rd_T77 l1 x15_1).f1), .int .i64 0]) ?_ 2 _ rfl; (with_reducible repeat (first | refine blk_drewN ?_ _ | refine blk_drew ?_ | refine blk_alloc ?_ _)); refine blk_put (cs := #[.int .i64 ((rd_T77 l1 x15_1).f0), .int .i64 0, .int .i64 0]) ?_ 1 _ rfl; (with_reducible repeat (first | refine blk_drewN ?_ _ | refine blk_drew ?_ | refine blk_alloc ?_ _)); refine blk_put (cs := #[.int .i64 0, .int .i64 0, .int .i64 0]) ?_ 0 _ rfl; (with_reducible repeat (first | refine blk_drewN ?_ _ | refine blk_drew ?_ | refine blk_alloc ?_ _)); exact BK185.out⟩
          have n2_ : Aside0 (Below w.heap.size w (((w11.setCell ⟨gb185, 0, none⟩ (.int .i64 ((rd_T77 l1 x15_1).f0))).setCell ⟨gb185, 1, none⟩ (.int .i64 ((rd_T77 l1 x15_1).f1))).setCell ⟨gb185, 2, none⟩ (.int .i64 ((rd_T77 l1 x15_1).f2)))) := ⟨by repeat (first | (with_reducible first | exact HB.out | apply below_alloc | apply pw_below_drewN | apply below_drew1 | refine below_set ?_ GE185.out) | exact HB.out)⟩
          (try clear HO_5)
          (try clear BK185)
          (try clear HB)
          generalize (((w11.setCell ⟨gb185, 0, none⟩ (.int .i64 ((rd_T77 l1 x15_1).f0))).setCell ⟨gb185, 1, none⟩ (.int .i64 ((rd_T77 l1 x15_1).f1))).setCell ⟨gb185, 2, none⟩ (.int .i64 ((rd_T77 l1 x15_1).f2))) = w25 at n0_ n1_ n2_ ⊢
          have HO_5 := n0_
          have BK185 := n1_
          have HB := n2_
          clear n0_ n1_ n2_
          have n0_ := Aside0.mk (Kd.R_drew HO_5.out)
          have n1_ := Aside0.mk (blk_drew BK185.out)
          have n2_ := Aside0.mk (below_drew1 HB.out)
          clear HO_5
          clear BK185
          clear HB
          have HO_5 := n0_
          have BK185 := n1_
          have HB := n2_
          clear n0_ n1_ n2_
          refine start_ (n := 29) (S := fun w' => w'.cell? ⟨gb185, 0, none⟩ = some (.int .i64 ((rd_T77 l1 x15_1).f0)) ∧ w'.cell? ⟨gb185, 1, none⟩ = some (.int .i64 ((rd_T77 l1 x15_1).f1)) ∧ w'.cell? ⟨gb185, 2, none⟩ = some (.int .i64 ((rd_T77 l1 x15_1).f2))) (ds := []) (bA 29 0) (by kernel_rfl) rfl rfl ⟨(blk_cell BK185.out 0).trans rfl, (blk_cell BK185.out 1).trans rfl, (blk_cell BK185.out 2).trans rfl⟩ (fun hHeld => ?_); refine with_tabW impl_isSplit.tab5 impl_isSplit.bits5 (fun HT_ HW_ => ?_)
          generalize w25.drew = w26 at HO_5 BK185 HB hHeld ⊢
          refine pU 0 20 (bA 29 1) ?_
          refine pU 2 22 (bA 29 5) ?_
          refine pU 3 23 (bA 29 13) ?_
          refine tU 1 21 (bA 29 15) ?_
          refine one_ (i := 4) (N := some 24) (bA 29 31) rfl rfl (one_of HT_.out (by kernel_rfl)) (by decide) (fun K hK => ?_)
          refine goes_ Try.func126 (by kernel_rfl) rfl #[.int .i64 ((rd_T77 l1 x15_1).f0), .int .i64 (l0.length : Int)] (by rfl) rfl rfl (by (try simp only [List.map_toArray, List.map_cons, List.map_nil]); first | done | rfl | (simp only [List.length_drop, List.length_take]; rfl)) ?_
          with_reducible refine (impl_isNumber.calls ((rd_T77 l1 x15_1).f0) (l0.length : Int) false _ A13.out).mono ?_
          rintro e w' ⟨rfl, ⟨nd, rfl⟩⟩
          refine ⟨_, rfl, ?_⟩
          refine hK.out _ _ ⟨(blk_cell BK185.out 0).trans rfl, (blk_cell BK185.out 1).trans rfl, (blk_cell BK185.out 2).trans rfl⟩ (fun hHeld => ?_)
          clear hK K
          refine norm_ (a' := ?_) ?_ ?_
          rotate_left
          ·show Act.put _ (some 24) _ = _
           simp only [Act.put, sA, sZ, sS, i64_w, i32_w]
           rfl
          refine pU 5 25 (bA 29 63) ?_
          refine pU 6 26 (bA 29 127) ?_
          refine nU 7 27 (bA 29 255) ?_
          refine nU 8 28 (bA 29 511) ?_
          refine nU 9 29 (bA 29 1023) ?_
          refine nU 10 30 (bA 29 2047) ?_
          refine nU 11 31 (bA 29 4095) ?_
          refine nU 12 32 (bA 29 8191) ?_
          refine nU 13 33 (bA 29 16383) ?_
          refine nU 14 34 (bA 29 32767) ?_
          refine nU 15 35 (bA 29 65535) ?_
          refine pU 16 36 (bA 29 131071) ?_
          refine pU 17 37 (bA 29 262143) ?_
          refine nU 18 38 (bA 29 524287) ?_
          refine nU 19 39 (bA 29 1048575) ?_
          refine nU 20 40 (bA 29 2097151) ?_
          refine nU 21 41 (bA 29 4194303) ?_
          refine nU 22 42 (bA 29 8388607) ?_
          refine pU 23 43 (bA 29 16777215) ?_
          refine pU 24 44 (bA 29 33554431) ?_
          refine nU 25 45 (bA 29 67108863) ?_
          refine nU 26 46 (bA 29 134217727) ?_
          refine nU 27 47 (bA 29 268435455) ?_
          refine pU 28 48 (bA 29 536870911) ?_
          refine done_ (done_of HT_.out (by kernel_rfl)) ?_
          try go_wp2
          go_meet
          case rel => exact ⟨_, (true), (by first | rfl | (simp; done) | (simp [*]; done)), H', ⟨by have := HK1.out; first | omega | exact Nat.le_refl _⟩, ⟨by (with_reducible repeat (first | apply Kd.R_alloc | apply Kd.R_drewN | apply Kd.R_drew)); exact HO_5.out⟩, ⟨by (with_reducible repeat (first | refine blk_drewN ?_ _ | refine blk_drew ?_ | refine blk_alloc ?_ _)); exact BK185.out⟩, ⟨by repeat (first | (with_reducible first | exact HB.out | apply below_alloc | apply pw_below_drewN | apply below_drew1 | refine below_set ?_ GE185.out) | exact HB.out)⟩⟩
        case rest =>
         clear HC10
         try clear c1
         try clear p1
         try clear q1
         try clear hx1
         try clear c2
         try clear p2
         try clear c12
         try clear c14
         try clear c15
         try clear c16
         try clear p18
         try clear q18
         try clear hx18
         try clear c20
         try clear c20b0
         try clear hx187_0
         try clear hx187_1
         try clear hx187_2
         try clear hx187_3
         try clear p187
         try clear q187
         obtain ⟨kq, x48_9, rfl, HA, HJ9, HO_5, BK185, HB⟩ := hcut
         cases kq with
         | zero => exact absurd HA.out (by simp [impl_isSplit.j1])
         | succ kj9 =>
          have H := HA.out
          clear HA
          simp only [impl_isSplit.j1] at H
          by_cases c27 : x48_9 = true
          ·subst c27
           have H1 : (some false) = some r := by rw [if_pos rfl] at H; exact H
           clear H
           have H := H1
           clear H1
           obtain rfl := Option.some.inj H
           go_wp2
           go_ret
           exact ⟨by first | rfl | (simp [errW_none, errW_some] <;> rfl) | (simp [*, errW_none, errW_some] <;> rfl), by repeat (first | (with_reducible first | exact HB.out | apply below_alloc | apply pw_below_drewN | apply below_drew1 | refine below_set ?_ GE185.out) | exact HB.out)⟩
          ·replace c27 := Bool.eq_false_iff.mpr c27
           subst c27
           have H1 : (if x15_1 > 0 then (if 0 ≤ (wrap64 (x15_1 - 1)) then (if (wrap64 (x15_1 - 1)) < (l1.length : Int) then (if ((rd_T77 l1 x15_1).f1) < ((rd_T77 l1 (wrap64 (x15_1 - 1))).f2) then (some false) else (if ((rd_T77 l1 x15_1).f1) = ((rd_T77 l1 (wrap64 (x15_1 - 1))).f2) then (if ((rd_T77 l1 x15_1).f0) = ((rd_T77 l1 (wrap64 (x15_1 - 1))).f0) then (some false) else (if 0 ≤ ((rd_T77 l1 x15_1).f0) then (if ((rd_T77 l1 x15_1).f0) < (x5_1.length : Int) then (impl_isSplit.l0 kj9 l0 l1 (x5_1.set (((rd_T77 l1 x15_1).f0) : Int).toNat (wrap64 ((rd x5_1 ((rd_T77 l1 x15_1).f0)) + (wrap64 (((rd_T77 l1 x15_1).f2) - ((rd_T77 l1 x15_1).f1)))))) l1 (l1.length : Int) (wrap64 (x15_1 + 1))) else (none)) else (none))) else (if 0 ≤ ((rd_T77 l1 x15_1).f0) then (if ((rd_T77 l1 x15_1).f0) < (x5_1.length : Int) then (impl_isSplit.l0 kj9 l0 l1 (x5_1.set (((rd_T77 l1 x15_1).f0) : Int).toNat (wrap64 ((rd x5_1 ((rd_T77 l1 x15_1).f0)) + (wrap64 (((rd_T77 l1 x15_1).f2) - ((rd_T77 l1 x15_1).f1)))))) l1 (l1.length : Int) (wrap64 (x15_1 + 1))) else (none)) else (none)))) else (none)) else (none)) else (if 0 ≤ ((rd_T77 l1 x15_1).f0) then (if ((rd_T77 l1 x15_1).f0) < (x5_1.length : Int) then (impl_isSplit.l0 kj9 l0 l1 (x5_1.set (((rd_T77 l1 x15_1).f0) : Int).toNat (wrap64 ((rd x5_1 ((rd_T77 l1 x15_1).f0)) + (wrap64 (((rd_T77 l1 x15_1).f2) - ((rd_T77 l1 x15_1).f1)))))) l1 (l1.length : Int) (wrap64 (x15_1 + 1))) else (none)) else (none))) = some r := by rw [if_neg (show ¬ (false = true) by decide)] at H; exact H
           clear H
           have H := H1
           clear H1
           by_cases c28 : x15_1 > 0
           ·rw [if_pos c28] at H
            have c28b0 : decide (0 < x15_1) = true := decide_eq_true c28
            clear c28
            obtain ⟨ji29, hji29⟩ : ∃ j_ : Int, (wrap64 (x15_1 - 1)) = j_ := ⟨_, rfl⟩
            replace H : (if 0 ≤ (ji29) then (if (ji29) < (l1.length : Int) then (if ((rd_T77 l1 x15_1).f1) < ((rd_T77 l1 (ji29)).f2) then (some false) else (if ((rd_T77 l1 x15_1).f1) = ((rd_T77 l1 (ji29)).f2) then (if ((rd_T77 l1 x15_1).f0) = ((rd_T77 l1 (ji29)).f0) then (some false) else (if 0 ≤ ((rd_T77 l1 x15_1).f0) then (if ((rd_T77 l1 x15_1).f0) < (x5_1.length : Int) then (impl_isSplit.l0 kj9 l0 l1 (x5_1.set (((rd_T77 l1 x15_1).f0) : Int).toNat (wrap64 ((rd x5_1 ((rd_T77 l1 x15_1).f0)) + (wrap64 (((rd_T77 l1 x15_1).f2) - ((rd_T77 l1 x15_1).f1)))))) l1 (l1.length : Int) (wrap64 (x15_1 + 1))) else (none)) else (none))) else (if 0 ≤ ((rd_T77 l1 x15_1).f0) then (if ((rd_T77 l1 x15_1).f0) < (x5_1.length : Int) then (impl_isSplit.l0 kj9 l0 l1 (x5_1.set (((rd_T77 l1 x15_1).f0) : Int).toNat (wrap64 ((rd x5_1 ((rd_T77 l1 x15_1).f0)) + (wrap64 (((rd_T77 l1 x15_1).f2) - ((rd_T77 l1 x15_1).f1)))))) l1 (l1.length : Int) (wrap64 (x15_1 + 1))) else (none)) else (none)))) else (none)) else (none)) = some r := by first | (rw [hji29] at H; exact H) | (simp only [hji29] at H ⊢; exact H)
            have hji29w : (IntKind.i64.wrap (x15_1 - 1)) = ji29 := (i64_w _).trans hji29
            by_cases c30 : 0 ≤ (ji29)
            ·rw [if_pos c30] at H
             have c30b0 : decide (0 ≤ (ji29)) = true := decide_eq_true c30
             clear c30
             by_cases c31 : (ji29) < (l1.length : Int)
             ·rw [if_pos c31] at H
              have c31b0 : decide ((ji29) < (l1.length : Int)) = true := decide_eq_true c31
              clear c31
              by_cases c32 : ((rd_T77 l1 x15_1).f1) < ((rd_T77 l1 (ji29)).f2)
              ·rw [if_pos c32] at H
               have c32b0 : decide (((rd_T77 l1 x15_1).f1) < ((rd_T77 l1 (ji29)).f2)) = true := decide_eq_true c32
               clear c32
               obtain rfl := Option.some.inj H
               try go_wp2
               have n0_ := Aside0.mk (Kd.R_drew HO_5.out)
               have n1_ := Aside0.mk (blk_drew BK185.out)
               have n2_ := Aside0.mk (below_drew1 HB.out)
               clear HO_5
               clear BK185
               clear HB
               have HO_5 := n0_
               have BK185 := n1_
               have HB := n2_
               clear n0_ n1_ n2_
               have p188 : 0 ≤ ((ji29) : Int) := of_decide_eq_true (by first | (with_reducible assumption) | assumption)
               have q188 : (ji29) < (l1.length : Int) := of_decide_eq_true (by first | (with_reducible assumption) | assumption)
               obtain ⟨ad188, e188, hx188_0, hx188_1, hx188_2⟩ := at_T77 HR1.out (ji29) p188 q188
               have hw188_2 := hx188_2
               have hw188_1 := hx188_1
               have hw188_0 := hx188_0
               obtain rfl : ad184 = ad188 := (by injection e188)
               replace hx188_0 := (HB.out.cell (World.block_lt_of_cell? w _ hx188_0)).trans hx188_0
               replace hx188_1 := (HB.out.cell (World.block_lt_of_cell? w _ hx188_1)).trans hx188_1
               replace hx188_2 := (HB.out.cell (World.block_lt_of_cell? w _ hx188_2)).trans hx188_2
               replace p188 := eq_true p188
               replace q188 := eq_true q188
               refine start_ (n := 35) (S := fun w' => w'.cell? ⟨gb185, 0, none⟩ = some (.int .i64 ((rd_T77 l1 x15_1).f0)) ∧ w'.cell? ⟨gb185, 1, none⟩ = some (.int .i64 ((rd_T77 l1 x15_1).f1)) ∧ w'.cell? ⟨gb185, 2, none⟩ = some (.int .i64 ((rd_T77 l1 x15_1).f2)) ∧ w'.cell? (ad184.add (((ji29)).toNat * 3)) = some (.int .i64 ((rd_T77 l1 (ji29)).f0)) ∧ w'.cell? ⟨(ad184.add (((ji29)).toNat * 3)).block, (ad184.add (((ji29)).toNat * 3)).off + 1, none⟩ = some (.int .i64 ((rd_T77 l1 (ji29)).f1)) ∧ w'.cell? ⟨(ad184.add (((ji29)).toNat * 3)).block, (ad184.add (((ji29)).toNat * 3)).off + 2, none⟩ = some (.int .i64 ((rd_T77 l1 (ji29)).f2))) (ds := []) (bA 35 0) (by kernel_rfl) rfl rfl ⟨(blk_cell BK185.out 0).trans rfl, (blk_cell BK185.out 1).trans rfl, (blk_cell BK185.out 2).trans rfl, ((HB.out.cell (World.block_lt_of_cell? w _ hw188_0)).trans hw188_0), ((HB.out.cell (World.block_lt_of_cell? w _ hw188_1)).trans hw188_1), ((HB.out.cell (World.block_lt_of_cell? w _ hw188_2)).trans hw188_2)⟩ (fun hHeld => ?_); refine with_tabW impl_isSplit.tab7 impl_isSplit.bits7 (fun HT_ HW_ => ?_)
               generalize wc.drew = w33 at HO_5 BK185 HB hx188_0 hx188_1 hx188_2 hHeld ⊢
               refine pU 0 49 (bA 35 1) ?_
               refine pU 1 50 (bA 35 3) ?_
               refine pU 2 51 (bA 35 7) ?_
               refine pU 3 52 (bA 35 15) ?_
               refine pU 5 54 (bA 35 47) ?_
               refine pU 6 55 (bA 35 111) ?_
               refine pU 7 56 (bA 35 239) ?_
               refine pU 8 57 (bA 35 495) ?_
               refine pU 9 58 (bA 35 1007) ?_
               refine tU 4 53 (bA 35 1023) ?_
               refine tU 10 59 (bA 35 2047) ?_
               refine pU 11 60 (bA 35 4095) ?_
               refine pU 12 61 (bA 35 8191) ?_
               refine nU 13 62 (bA 35 16383) ?_
               refine nU 14 63 (bA 35 32767) ?_
               refine nU 15 64 (bA 35 65535) ?_
               refine nU 16 65 (bA 35 131071) ?_
               refine nU 17 66 (bA 35 262143) ?_
               refine nU 18 67 (bA 35 524287) ?_
               refine nU 19 68 (bA 35 1048575) ?_
               refine nU 20 69 (bA 35 2097151) ?_
               refine nU 21 70 (bA 35 4194303) ?_
               refine nU 22 71 (bA 35 8388607) ?_
               refine nU 23 72 (bA 35 16777215) ?_
               refine nU 24 73 (bA 35 33554431) ?_
               refine nU 25 74 (bA 35 67108863) ?_
               refine nU 26 75 (bA 35 134217727) ?_
               refine nU 27 76 (bA 35 268435455) ?_
               refine nU 28 77 (bA 35 536870911) ?_
               refine nU 29 78 (bA 35 1073741823) ?_
               refine nU 30 79 (bA 35 2147483647) ?_
               refine nU 31 80 (bA 35 4294967295) ?_
               refine nU 32 81 (bA 35 8589934591) ?_
               refine pU 33 82 (bA 35 17179869183) ?_
               refine pU 34 83 (bA 35 34359738367) ?_
               refine done_ (done_of HT_.out (by kernel_rfl)) ?_
               try go_wp2
               go_ret
               exact ⟨by first | rfl | (simp [errW_none, errW_some] <;> rfl) | (simp only [← hji29]; first | rfl | (simp [errW_none, errW_some] <;> rfl)) | (simp [*, errW_none, errW_some] <;> rfl), by repeat (first | (with_reducible first | exact HB.out | apply below_alloc | apply pw_below_drewN | apply below_drew1 | refine below_set ?_ GE185.out) | exact HB.out)⟩
              ·rw [if_neg c32] at H
               have c32b0 : decide (((rd_T77 l1 x15_1).f1) < ((rd_T77 l1 (ji29)).f2)) = false := decide_eq_false c32
               clear c32
               by_cases c34 : ((rd_T77 l1 x15_1).f1) = ((rd_T77 l1 (ji29)).f2)
               ·rw [if_pos c34] at H
                have c34b0 : (((rd_T77 l1 x15_1).f1) == ((rd_T77 l1 (ji29)).f2)) = true := beq_iff_eq.mpr c34
                have c34b1 : (((rd_T77 l1 x15_1).f1) != ((rd_T77 l1 (ji29)).f2)) = false := bne_eq_false_iff_eq.mpr c34
                clear c34
                by_cases c35 : ((rd_T77 l1 x15_1).f0) = ((rd_T77 l1 (ji29)).f0)
                ·rw [if_pos c35] at H
                 have c35b0 : (((rd_T77 l1 x15_1).f0) == ((rd_T77 l1 (ji29)).f0)) = true := beq_iff_eq.mpr c35
                 have c35b1 : (((rd_T77 l1 x15_1).f0) != ((rd_T77 l1 (ji29)).f0)) = false := bne_eq_false_iff_eq.mpr c35
                 clear c35
                 obtain rfl := Option.some.inj H
                 try go_wp2
                 have n0_ := Aside0.mk (Kd.R_drew HO_5.out)
                 have n1_ := Aside0.mk (blk_drew BK185.out)
                 have n2_ := Aside0.mk (below_drew1 HB.out)
                 clear HO_5
                 clear BK185
                 clear HB
                 have HO_5 := n0_
                 have BK185 := n1_
                 have HB := n2_
                 clear n0_ n1_ n2_
                 have p188 : 0 ≤ ((ji29) : Int) := of_decide_eq_true (by first | (with_reducible assumption) | assumption)
                 have q188 : (ji29) < (l1.length : Int) := of_decide_eq_true (by first | (with_reducible assumption) | assumption)
                 obtain ⟨ad188, e188, hx188_0, hx188_1, hx188_2⟩ := at_T77 HR1.out (ji29) p188 q188
                 have hw188_2 := hx188_2
                 have hw188_1 := hx188_1
                 have hw188_0 := hx188_0
                 obtain rfl : ad184 = ad188 := (by injection e188)
                 replace hx188_0 := (HB.out.cell (World.block_lt_of_cell? w _ hx188_0)).trans hx188_0
                 replace hx188_1 := (HB.out.cell (World.block_lt_of_cell? w _ hx188_1)).trans hx188_1
                 replace hx188_2 := (HB.out.cell (World.block_lt_of_cell? w _ hx188_2)).trans hx188_2
                 replace p188 := eq_true p188
                 replace q188 := eq_true q188
                 have p189 : 0 ≤ ((ji29) : Int) := of_decide_eq_true (by first | (with_reducible assumption) | assumption)
                 have q189 : (ji29) < (l1.length : Int) := of_decide_eq_true (by first | (with_reducible assumption) | assumption)
                 obtain ⟨ad189, e189, hx189_0, hx189_1, hx189_2⟩ := at_T77 HR1.out (ji29) p189 q189
                 have hw189_2 := hx189_2
                 have hw189_1 := hx189_1
                 have hw189_0 := hx189_0
                 obtain rfl : ad184 = ad189 := (by injection e189)
                 replace hx189_0 := (HB.out.cell (World.block_lt_of_cell? w _ hx189_0)).trans hx189_0
                 replace hx189_1 := (HB.out.cell (World.block_lt_of_cell? w _ hx189_1)).trans hx189_1
                 replace hx189_2 := (HB.out.cell (World.block_lt_of_cell? w _ hx189_2)).trans hx189_2
                 replace p189 := eq_true p189
                 replace q189 := eq_true q189
                 have p190 : 0 ≤ ((ji29) : Int) := of_decide_eq_true (by first | (with_reducible assumption) | assumption)
                 have q190 : (ji29) < (l1.length : Int) := of_decide_eq_true (by first | (with_reducible assumption) | assumption)
                 obtain ⟨ad190, e190, hx190_0, hx190_1, hx190_2⟩ := at_T77 HR1.out (ji29) p190 q190
                 have hw190_2 := hx190_2
                 have hw190_1 := hx190_1
                 have hw190_0 := hx190_0
                 obtain rfl : ad184 = ad190 := (by injection e190)
                 replace hx190_0 := (HB.out.cell (World.block_lt_of_cell? w _ hx190_0)).trans hx190_0
                 replace hx190_1 := (HB.out.cell (World.block_lt_of_cell? w _ hx190_1)).trans hx190_1
                 replace hx190_2 := (HB.out.cell (World.block_lt_of_cell? w _ hx190_2)).trans hx190_2
                 replace p190 := eq_true p190
                 replace q190 := eq_true q190
                 refine start_ (n := 35) (S := fun w' => w'.cell? ⟨gb185, 0, none⟩ = some (.int .i64 ((rd_T77 l1 x15_1).f0)) ∧ w'.cell? ⟨gb185, 1, none⟩ = some (.int .i64 ((rd_T77 l1 x15_1).f1)) ∧ w'.cell? ⟨gb185, 2, none⟩ = some (.int .i64 ((rd_T77 l1 x15_1).f2)) ∧ w'.cell? (ad184.add (((ji29)).toNat * 3)) = some (.int .i64 ((rd_T77 l1 (ji29)).f0)) ∧ w'.cell? ⟨(ad184.add (((ji29)).toNat * 3)).block, (ad184.add (((ji29)).toNat * 3)).off + 1, none⟩ = some (.int .i64 ((rd_T77 l1 (ji29)).f1)) ∧ w'.cell? ⟨(ad184.add (((ji29)).toNat * 3)).block, (ad184.add (((ji29)).toNat * 3)).off + 2, none⟩ = some (.int .i64 ((rd_T77 l1 (ji29)).f2)) ∧ w'.cell? (ad184.add (((ji29)).toNat * 3)) = some (.int .i64 ((rd_T77 l1 (ji29)).f0)) ∧ w'.cell? ⟨(ad184.add (((ji29)).toNat * 3)).block, (ad184.add (((ji29)).toNat * 3)).off + 1, none⟩ = some (.int .i64 ((rd_T77 l1 (ji29)).f1)) ∧ w'.cell? ⟨(ad184.add (((ji29)).toNat * 3)).block, (ad184.add (((ji29)).toNat * 3)).off + 2, none⟩ = some (.int .i64 ((rd_T77 l1 (ji29)).f2)) ∧ w'.cell? (ad184.add (((ji29)).toNat * 3)) = some (.int .i64 ((rd_T77 l1 (ji29)).f0)) ∧ w'.cell? ⟨(ad184.add (((ji29)).toNat * 3)).block, (ad184.add (((ji29)).toNat * 3)).off + 1, none⟩ = some (.int .i64 ((rd_T77 l1 (ji29)).f1)) ∧ w'.cell? ⟨(ad184.add (((ji29)).toNat * 3)).block, (ad184.add (((ji29)).toNat * 3)).off + 2, none⟩ = some (.int .i64 ((rd_T77 l1 (ji29)).f2))) (ds := []) (bA 35 0) (by kernel_rfl) rfl rfl ⟨(blk_cell BK185.out 0).trans rfl, (blk_cell BK185.out 1).trans rfl, (blk_cell BK185.out 2).trans rfl, ((HB.out.cell (World.block_lt_of_cell? w _ hw188_0)).trans hw188_0), ((HB.out.cell (World.block_lt_of_cell? w _ hw188_1)).trans hw188_1), ((HB.out.cell (World.block_lt_of_cell? w _ hw188_2)).trans hw188_2), ((HB.out.cell (World.block_lt_of_cell? w _ hw189_0)).trans hw189_0), ((HB.out.cell (World.block_lt_of_cell? w _ hw189_1)).trans hw189_1), ((HB.out.cell (World.block_lt_of_cell? w _ hw189_2)).trans hw189_2), ((HB.out.cell (World.block_lt_of_cell? w _ hw190_0)).trans hw190_0), ((HB.out.cell (World.block_lt_of_cell? w _ hw190_1)).trans hw190_1), ((HB.out.cell (World.block_lt_of_cell? w _ hw190_2)).trans hw190_2)⟩ (fun hHeld => ?_); refine with_tabW impl_isSplit.tab7 impl_isSplit.bits7 (fun HT_ HW_ => ?_)
                 generalize wc.drew = w36 at HO_5 BK185 HB hx188_0 hx188_1 hx188_2 hx189_0 hx189_1 hx189_2 hx190_0 hx190_1 hx190_2 hHeld ⊢
                 refine pU 0 49 (bA 35 1) ?_
                 refine pU 1 50 (bA 35 3) ?_
                 refine pU 2 51 (bA 35 7) ?_
                 refine pU 3 52 (bA 35 15) ?_
                 refine pU 5 54 (bA 35 47) ?_
                 refine pU 6 55 (bA 35 111) ?_
                 refine pU 7 56 (bA 35 239) ?_
                 refine pU 8 57 (bA 35 495) ?_
                 refine pU 9 58 (bA 35 1007) ?_
                 refine tU 4 53 (bA 35 1023) ?_
                 refine tU 10 59 (bA 35 2047) ?_
                 refine pU 11 60 (bA 35 4095) ?_
                 refine pU 12 61 (bA 35 8191) ?_
                 refine pU 13 62 (bA 35 16383) ?_
                 refine pU 15 64 (bA 35 49151) ?_
                 refine pU 16 65 (bA 35 114687) ?_
                 refine pU 17 66 (bA 35 245759) ?_
                 refine pU 18 67 (bA 35 507903) ?_
                 refine pU 19 68 (bA 35 1032191) ?_
                 refine tU 14 63 (bA 35 1048575) ?_
                 refine tU 20 69 (bA 35 2097151) ?_
                 refine pU 21 70 (bA 35 4194303) ?_
                 refine pU 22 71 (bA 35 8388607) ?_
                 refine pU 23 72 (bA 35 16777215) ?_
                 refine pU 25 74 (bA 35 50331647) ?_
                 refine pU 26 75 (bA 35 117440511) ?_
                 refine pU 27 76 (bA 35 251658239) ?_
                 refine pU 28 77 (bA 35 520093695) ?_
                 refine pU 29 78 (bA 35 1056964607) ?_
                 refine tU 24 73 (bA 35 1073741823) ?_
                 refine tU 30 79 (bA 35 2147483647) ?_
                 refine pU 31 80 (bA 35 4294967295) ?_
                 refine pU 32 81 (bA 35 8589934591) ?_
                 refine pU 33 82 (bA 35 17179869183) ?_
                 refine pU 34 83 (bA 35 34359738367) ?_
                 refine done_ (done_of HT_.out (by kernel_rfl)) ?_
                 try go_wp2
                 go_ret
                 exact ⟨by first | rfl | (simp [errW_none, errW_some] <;> rfl) | (simp only [← hji29]; first | rfl | (simp [errW_none, errW_some] <;> rfl)) | (simp [*, errW_none, errW_some] <;> rfl), by repeat (first | (with_reducible first | exact HB.out | apply below_alloc | apply pw_below_drewN | apply below_drew1 | refine below_set ?_ GE185.out) | exact HB.out)⟩
                ·rw [if_neg c35] at H
                 have c35b0 : (((rd_T77 l1 x15_1).f0) == ((rd_T77 l1 (ji29)).f0)) = false := beq_eq_false_iff_ne.mpr c35
                 have c35b1 : (((rd_T77 l1 x15_1).f0) != ((rd_T77 l1 (ji29)).f0)) = true := bne_iff_ne.mpr c35
                 by_cases c37 : 0 ≤ ((rd_T77 l1 x15_1).f0)
                 ·rw [if_pos c37] at H
                  have c37b0 : decide (0 ≤ ((rd_T77 l1 x15_1).f0)) = true := decide_eq_true c37
                  clear c37
                  by_cases c38 : ((rd_T77 l1 x15_1).f0) < (x5_1.length : Int)
                  ·rw [if_pos c38] at H
                   have c38b0 : decide (((rd_T77 l1 x15_1).f0) < (x5_1.length : Int)) = true := decide_eq_true c38
                   clear c38
                   obtain ⟨y192, hy192⟩ : ∃ y_ : List Int, y_ = (x5_1.set (((rd_T77 l1 x15_1).f0) : Int).toNat (wrap64 ((rd x5_1 ((rd_T77 l1 x15_1).f0)) + (wrap64 (((rd_T77 l1 x15_1).f2) - ((rd_T77 l1 x15_1).f1)))))) := ⟨_, rfl⟩
                   replace H : (impl_isSplit.l0 kj9 l0 l1 y192 l1 (l1.length : Int) (wrap64 (x15_1 + 1))) = some r := by first | (rw [hy192]; with_reducible exact H) | (have H2_ := (Option.bind_some _ _).symm.trans H; rw [hy192]; with_reducible exact H2_) | (have H2_ := (Option.bind_some _ _).symm.trans H; with_reducible exact H2_) | with_reducible exact H | (rw [hy192]; exact H) | exact H
                   have Ny192 := Aside0.mk hy192
                   clear hy192
                   have H' := Aside0.mk H
                   clear H
                   try go_wp2
                   have n0_ := Aside0.mk (Kd.R_drew HO_5.out)
                   have n1_ := Aside0.mk (blk_drew BK185.out)
                   have n2_ := Aside0.mk (below_drew1 HB.out)
                   clear HO_5
                   clear BK185
                   clear HB
                   have HO_5 := n0_
                   have BK185 := n1_
                   have HB := n2_
                   clear n0_ n1_ n2_
                   have p188 : 0 ≤ ((ji29) : Int) := of_decide_eq_true (by first | (with_reducible assumption) | assumption)
                   have q188 : (ji29) < (l1.length : Int) := of_decide_eq_true (by first | (with_reducible assumption) | assumption)
                   obtain ⟨ad188, e188, hx188_0, hx188_1, hx188_2⟩ := at_T77 HR1.out (ji29) p188 q188
                   have hw188_2 := hx188_2
                   have hw188_1 := hx188_1
                   have hw188_0 := hx188_0
                   obtain rfl : ad184 = ad188 := (by injection e188)
                   replace hx188_0 := (HB.out.cell (World.block_lt_of_cell? w _ hx188_0)).trans hx188_0
                   replace hx188_1 := (HB.out.cell (World.block_lt_of_cell? w _ hx188_1)).trans hx188_1
                   replace hx188_2 := (HB.out.cell (World.block_lt_of_cell? w _ hx188_2)).trans hx188_2
                   replace p188 := eq_true p188
                   replace q188 := eq_true q188
                   have p189 : 0 ≤ ((ji29) : Int) := of_decide_eq_true (by first | (with_reducible assumption) | assumption)
                   have q189 : (ji29) < (l1.length : Int) := of_decide_eq_true (by first | (with_reducible assumption) | assumption)
                   obtain ⟨ad189, e189, hx189_0, hx189_1, hx189_2⟩ := at_T77 HR1.out (ji29) p189 q189
                   have hw189_2 := hx189_2
                   have hw189_1 := hx189_1
                   have hw189_0 := hx189_0
                   obtain rfl : ad184 = ad189 := (by injection e189)
                   replace hx189_0 := (HB.out.cell (World.block_lt_of_cell? w _ hx189_0)).trans hx189_0
                   replace hx189_1 := (HB.out.cell (World.block_lt_of_cell? w _ hx189_1)).trans hx189_1
                   replace hx189_2 := (HB.out.cell (World.block_lt_of_cell? w _ hx189_2)).trans hx189_2
                   replace p189 := eq_true p189
                   replace q189 := eq_true q189
                   have p190 : 0 ≤ ((ji29) : Int) := of_decide_eq_true (by first | (with_reducible assumption) | assumption)
                   have q190 : (ji29) < (l1.length : Int) := of_decide_eq_true (by first | (with_reducible assumption) | assumption)
                   obtain ⟨ad190, e190, hx190_0, hx190_1, hx190_2⟩ := at_T77 HR1.out (ji29) p190 q190
                   have hw190_2 := hx190_2
                   have hw190_1 := hx190_1
                   have hw190_0 := hx190_0
                   obtain rfl : ad184 = ad190 := (by injection e190)
                   replace hx190_0 := (HB.out.cell (World.block_lt_of_cell? w _ hx190_0)).trans hx190_0
                   replace hx190_1 := (HB.out.cell (World.block_lt_of_cell? w _ hx190_1)).trans hx190_1
                   replace hx190_2 := (HB.out.cell (World.block_lt_of_cell? w _ hx190_2)).trans hx190_2
                   replace p190 := eq_true p190
                   replace q190 := eq_true q190
                   refine start_ (n := 35) (S := fun w' => w'.cell? ⟨gb185, 0, none⟩ = some (.int .i64 ((rd_T77 l1 x15_1).f0)) ∧ w'.cell? ⟨gb185, 1, none⟩ = some (.int .i64 ((rd_T77 l1 x15_1).f1)) ∧ w'.cell? ⟨gb185, 2, none⟩ = some (.int .i64 ((rd_T77 l1 x15_1).f2)) ∧ w'.cell? (ad184.add (((ji29)).toNat * 3)) = some (.int .i64 ((rd_T77 l1 (ji29)).f0)) ∧ w'.cell? ⟨(ad184.add (((ji29)).toNat * 3)).block, (ad184.add (((ji29)).toNat * 3)).off + 1, none⟩ = some (.int .i64 ((rd_T77 l1 (ji29)).f1)) ∧ w'.cell? ⟨(ad184.add (((ji29)).toNat * 3)).block, (ad184.add (((ji29)).toNat * 3)).off + 2, none⟩ = some (.int .i64 ((rd_T77 l1 (ji29)).f2)) ∧ w'.cell? (ad184.add (((ji29)).toNat * 3)) = some (.int .i64 ((rd_T77 l1 (ji29)).f0)) ∧ w'.cell? ⟨(ad184.add (((ji29)).toNat * 3)).block, (ad184.add (((ji29)).toNat * 3)).off + 1, none⟩ = some (.int .i64 ((rd_T77 l1 (ji29)).f1)) ∧ w'.cell? ⟨(ad184.add (((ji29)).toNat * 3)).block, (ad184.add (((ji29)).toNat * 3)).off + 2, none⟩ = some (.int .i64 ((rd_T77 l1 (ji29)).f2)) ∧ w'.cell? (ad184.add (((ji29)).toNat * 3)) = some (.int .i64 ((rd_T77 l1 (ji29)).f0)) ∧ w'.cell? ⟨(ad184.add (((ji29)).toNat * 3)).block, (ad184.add (((ji29)).toNat * 3)).off + 1, none⟩ = some (.int .i64 ((rd_T77 l1 (ji29)).f1)) ∧ w'.cell? ⟨(ad184.add (((ji29)).toNat * 3)).block, (ad184.add (((ji29)).toNat * 3)).off + 2, none⟩ = some (.int .i64 ((rd_T77 l1 (ji29)).f2))) (ds := []) (bA 35 0) (by kernel_rfl) rfl rfl ⟨(blk_cell BK185.out 0).trans rfl, (blk_cell BK185.out 1).trans rfl, (blk_cell BK185.out 2).trans rfl, ((HB.out.cell (World.block_lt_of_cell? w _ hw188_0)).trans hw188_0), ((HB.out.cell (World.block_lt_of_cell? w _ hw188_1)).trans hw188_1), ((HB.out.cell (World.block_lt_of_cell? w _ hw188_2)).trans hw188_2), ((HB.out.cell (World.block_lt_of_cell? w _ hw189_0)).trans hw189_0), ((HB.out.cell (World.block_lt_of_cell? w _ hw189_1)).trans hw189_1), ((HB.out.cell (World.block_lt_of_cell? w _ hw189_2)).trans hw189_2), ((HB.out.cell (World.block_lt_of_cell? w _ hw190_0)).trans hw190_0), ((HB.out.cell (World.block_lt_of_cell? w _ hw190_1)).trans hw190_1), ((HB.out.cell (World.block_lt_of_cell? w _ hw190_2)).trans hw190_2)⟩ (fun hHeld => ?_); refine with_tabW impl_isSplit.tab7 impl_isSplit.bits7 (fun HT_ HW_ => ?_)
                   generalize wc.drew = w40 at HO_5 BK185 HB hx188_0 hx188_1 hx188_2 hx189_0 hx189_1 hx189_2 hx190_0 hx190_1 hx190_2 hHeld ⊢
                   refine pU 0 49 (bA 35 1) ?_
                   refine pU 1 50 (bA 35 3) ?_
                   refine pU 2 51 (bA 35 7) ?_
                   refine pU 3 52 (bA 35 15) ?_
                   refine pU 5 54 (bA 35 47) ?_
                   refine pU 6 55 (bA 35 111) ?_
                   refine pU 7 56 (bA 35 239) ?_
                   refine pU 8 57 (bA 35 495) ?_
                   refine pU 9 58 (bA 35 1007) ?_
                   refine tU 4 53 (bA 35 1023) ?_
                   refine tU 10 59 (bA 35 2047) ?_
                   refine pU 11 60 (bA 35 4095) ?_
                   refine pU 12 61 (bA 35 8191) ?_
                   refine pU 13 62 (bA 35 16383) ?_
                   refine pU 15 64 (bA 35 49151) ?_
                   refine pU 16 65 (bA 35 114687) ?_
                   refine pU 17 66 (bA 35 245759) ?_
                   refine pU 18 67 (bA 35 507903) ?_
                   refine pU 19 68 (bA 35 1032191) ?_
                   refine tU 14 63 (bA 35 1048575) ?_
                   refine tU 20 69 (bA 35 2097151) ?_
                   refine pU 21 70 (bA 35 4194303) ?_
                   refine pU 22 71 (bA 35 8388607) ?_
                   refine pU 23 72 (bA 35 16777215) ?_
                   refine pU 25 74 (bA 35 50331647) ?_
                   refine pU 26 75 (bA 35 117440511) ?_
                   refine pU 27 76 (bA 35 251658239) ?_
                   refine pU 28 77 (bA 35 520093695) ?_
                   refine pU 29 78 (bA 35 1056964607) ?_
                   refine tU 24 73 (bA 35 1073741823) ?_
                   refine tU 30 79 (bA 35 2147483647) ?_
                   refine pU 31 80 (bA 35 4294967295) ?_
                   refine pU 32 81 (bA 35 8589934591) ?_
                   refine pU 33 82 (bA 35 17179869183) ?_
                   refine pU 34 83 (bA 35 34359738367) ?_
                   refine done_ (done_of HT_.out (by kernel_rfl)) ?_
                   try go_wp2
                   have n0_ := Aside0.mk (Kd.R_drew HO_5.out)
                   have n1_ := Aside0.mk (blk_drew BK185.out)
                   have n2_ := Aside0.mk (below_drew1 HB.out)
                   clear HO_5
                   clear BK185
                   clear HB
                   have HO_5 := n0_
                   have BK185 := n1_
                   have HB := n2_
                   clear n0_ n1_ n2_
                   obtain ⟨Ao42, co42, eo42⟩ := Kd.R_slice HO_5.out
                   (first | subst eo42 | (injection eo42 with f1_ f2_ f3_; have f4_ := f1_.symm; have f5_ := f3_.symm; clear f1_ f2_ f3_; subst f4_; subst f5_))
                   have p191 : 0 ≤ (((rd_T77 l1 x15_1).f0) : Int) := of_decide_eq_true (by first | (with_reducible assumption) | assumption)
                   have q191 : ((rd_T77 l1 x15_1).f0) < (x5_1.length : Int) := of_decide_eq_true (by first | (with_reducible assumption) | assumption)
                   obtain ⟨ad191, e191, hx191_0⟩ := Kd.at_int (Kd.R_reads' HO_5.out).2.2 ((rd_T77 l1 x15_1).f0) p191 q191
                   cases e191
                   replace p191 := eq_true p191
                   replace q191 := eq_true q191
                   have p39 : 0 ≤ (((rd_T77 l1 x15_1).f0) : Int) := of_decide_eq_true (by first | (with_reducible assumption) | assumption)
                   have q39 : (((rd_T77 l1 x15_1).f0) : Int) < ((x5_1.length : Int) : Int) := of_decide_eq_true (by first | (with_reducible assumption) | assumption)
                   obtain ⟨go39, co39, eo39, gb39, gl39, cl39, HG39⟩ := Kd.R_form HO_5.out (by omega)
                   (first | cases eo39 | (injection eo39 with ea_ en_ ec_; (first | subst ea_ | (injection ea_ with ea_; subst ea_)); subst ec_; clear en_))
                   have GB39 := Aside0.mk gb39
                   have GG39 := Aside0.mk HG39
                   clear gb39 gl39 HG39
                   (first | simp only [add_plain] at hx191_0 | skip)
                   obtain ⟨hx39_0, hf39_0⟩ := Kd.R_celln 0 HO_5.out (((rd_T77 l1 x15_1).f0) : Int) p39 q39
                   replace p39 := eq_true p39
                   replace q39 := eq_true q39
                   have HP43 := Kd.R_putn HO_5.out (((rd_T77 l1 x15_1).f0) : Int) (wrap64 ((rd x5_1 ((rd_T77 l1 x15_1).f0)) + (wrap64 (((rd_T77 l1 x15_1).f2) - ((rd_T77 l1 x15_1).f1)))))
                   rw [← Ny192.out] at HP43
                   have HQ43 := Aside0.mk HP43
                   clear HP43
                   refine start_ (n := 13) (S := fun w' => w'.cell? ⟨gb185, 0, none⟩ = some (.int .i64 ((rd_T77 l1 x15_1).f0)) ∧ w'.cell? ⟨gb185, 1, none⟩ = some (.int .i64 ((rd_T77 l1 x15_1).f1)) ∧ w'.cell? ⟨gb185, 2, none⟩ = some (.int .i64 ((rd_T77 l1 x15_1).f2)) ∧ w'.cell? ⟨go39, (((rd_T77 l1 x15_1).f0)).toNat, none⟩ = some (.int .i64 (rd x5_1 ((rd_T77 l1 x15_1).f0)))) (ds := [12]) (bA 13 0) (by kernel_rfl) rfl rfl ⟨(blk_cell BK185.out 0).trans rfl, (blk_cell BK185.out 1).trans rfl, (blk_cell BK185.out 2).trans rfl, hx191_0⟩ (fun hHeld => ?_); refine with_tabW impl_isSplit.tab9 impl_isSplit.bits9 (fun HT_ HW_ => ?_)
                   generalize w40.drew = w41 at HO_5 BK185 HB GG39 HQ43 hf39_0 hx191_0 hx39_0 hHeld ⊢
                   refine pU 0 84 (bA 13 1) ?_
                   refine pU 1 85 (bA 13 3) ?_
                   refine pU 5 89 (bA 13 35) ?_
                   refine pU 7 91 (bA 13 163) ?_
                   refine tU 2 86 (bA 13 167) ?_
                   refine pU 3 87 (bA 13 175) ?_
                   refine tU 4 88 (bA 13 191) ?_
                   refine tU 6 90 (bA 13 255) ?_
                   refine tU 8 92 (bA 13 511) ?_
                   refine pU 9 93 (bA 13 1023) ?_
                   refine pU 10 94 (bA 13 2047) ?_
                   refine pU 11 95 (bA 13 4095) ?_
                   refine last_ (i := 12) (N := none) (bA 13 8191) rfl rfl (one_of HT_.out (by kernel_rfl)) (by decide) (fun K hK => ?_)
                   refine skip_ (w1 := ?_) (by rfl) rfl ?_ ?_
                   rotate_left
                   ·go_simp
                    rfl
                   refine hK.out _ _ ?_
                   clear hK K
                   refine done_ (done_of HT_.out (by kernel_rfl)) ?_
                   try go_wp2
                   go_roundg kj9
                   case measure => have := HK1.out; have := HJ9.out; omega
                   case rel => exact ⟨(y192), (wrap64 (x15_1 + 1)), (by first | rfl | (simp; done) | (simp [*]; done)), H', ⟨by have := HK1.out; have := HJ9.out; omega⟩, ⟨by (with_reducible repeat (first | apply Kd.R_alloc | apply Kd.R_drewN | apply Kd.R_drew)); exact HQ43.out⟩, ⟨by repeat (first | (with_reducible first | exact HB.out | apply below_alloc | apply pw_below_drewN | apply below_drew1 | refine below_set ?_ GB39.out | refine below_set ?_ GE185.out) | exact HB.out)⟩⟩
                  ·rw [if_neg c38] at H
                   exact absurd H (by simp)
                 ·rw [if_neg c37] at H
                  exact absurd H (by simp)
               ·rw [if_neg c34] at H
                have c34b0 : (((rd_T77 l1 x15_1).f1) == ((rd_T77 l1 (ji29)).f2)) = false := beq_eq_false_iff_ne.mpr c34
                have c34b1 : (((rd_T77 l1 x15_1).f1) != ((rd_T77 l1 (ji29)).f2)) = true := bne_iff_ne.mpr c34
                by_cases c44 : 0 ≤ ((rd_T77 l1 x15_1).f0)
                ·rw [if_pos c44] at H
                 have c44b0 : decide (0 ≤ ((rd_T77 l1 x15_1).f0)) = true := decide_eq_true c44
                 clear c44
                 by_cases c45 : ((rd_T77 l1 x15_1).f0) < (x5_1.length : Int)
                 ·rw [if_pos c45] at H
                  have c45b0 : decide (((rd_T77 l1 x15_1).f0) < (x5_1.length : Int)) = true := decide_eq_true c45
                  clear c45
                  obtain ⟨y194, hy194⟩ : ∃ y_ : List Int, y_ = (x5_1.set (((rd_T77 l1 x15_1).f0) : Int).toNat (wrap64 ((rd x5_1 ((rd_T77 l1 x15_1).f0)) + (wrap64 (((rd_T77 l1 x15_1).f2) - ((rd_T77 l1 x15_1).f1)))))) := ⟨_, rfl⟩
                  replace H : (impl_isSplit.l0 kj9 l0 l1 y194 l1 (l1.length : Int) (wrap64 (x15_1 + 1))) = some r := by first | (rw [hy194]; with_reducible exact H) | (have H2_ := (Option.bind_some _ _).symm.trans H; rw [hy194]; with_reducible exact H2_) | (have H2_ := (Option.bind_some _ _).symm.trans H; with_reducible exact H2_) | with_reducible exact H | (rw [hy194]; exact H) | exact H
                  have Ny194 := Aside0.mk hy194
                  clear hy194
                  have H' := Aside0.mk H
                  clear H
                  try go_wp2
                  have n0_ := Aside0.mk (Kd.R_drew HO_5.out)
                  have n1_ := Aside0.mk (blk_drew BK185.out)
                  have n2_ := Aside0.mk (below_drew1 HB.out)
                  clear HO_5
                  clear BK185
                  clear HB
                  have HO_5 := n0_
                  have BK185 := n1_
                  have HB := n2_
                  clear n0_ n1_ n2_
                  have p188 : 0 ≤ ((ji29) : Int) := of_decide_eq_true (by first | (with_reducible assumption) | assumption)
                  have q188 : (ji29) < (l1.length : Int) := of_decide_eq_true (by first | (with_reducible assumption) | assumption)
                  obtain ⟨ad188, e188, hx188_0, hx188_1, hx188_2⟩ := at_T77 HR1.out (ji29) p188 q188
                  have hw188_2 := hx188_2
                  have hw188_1 := hx188_1
                  have hw188_0 := hx188_0
                  obtain rfl : ad184 = ad188 := (by injection e188)
                  replace hx188_0 := (HB.out.cell (World.block_lt_of_cell? w _ hx188_0)).trans hx188_0
                  replace hx188_1 := (HB.out.cell (World.block_lt_of_cell? w _ hx188_1)).trans hx188_1
                  replace hx188_2 := (HB.out.cell (World.block_lt_of_cell? w _ hx188_2)).trans hx188_2
                  replace p188 := eq_true p188
                  replace q188 := eq_true q188
                  have p189 : 0 ≤ ((ji29) : Int) := of_decide_eq_true (by first | (with_reducible assumption) | assumption)
                  have q189 : (ji29) < (l1.length : Int) := of_decide_eq_true (by first | (with_reducible assumption) | assumption)
                  obtain ⟨ad189, e189, hx189_0, hx189_1, hx189_2⟩ := at_T77 HR1.out (ji29) p189 q189
                  have hw189_2 := hx189_2
                  have hw189_1 := hx189_1
                  have hw189_0 := hx189_0
                  obtain rfl : ad184 = ad189 := (by injection e189)
                  replace hx189_0 := (HB.out.cell (World.block_lt_of_cell? w _ hx189_0)).trans hx189_0
                  replace hx189_1 := (HB.out.cell (World.block_lt_of_cell? w _ hx189_1)).trans hx189_1
                  replace hx189_2 := (HB.out.cell (World.block_lt_of_cell? w _ hx189_2)).trans hx189_2
                  replace p189 := eq_true p189
                  replace q189 := eq_true q189
                  refine start_ (n := 35) (S := fun w' => w'.cell? ⟨gb185, 0, none⟩ = some (.int .i64 ((rd_T77 l1 x15_1).f0)) ∧ w'.cell? ⟨gb185, 1, none⟩ = some (.int .i64 ((rd_T77 l1 x15_1).f1)) ∧ w'.cell? ⟨gb185, 2, none⟩ = some (.int .i64 ((rd_T77 l1 x15_1).f2)) ∧ w'.cell? (ad184.add (((ji29)).toNat * 3)) = some (.int .i64 ((rd_T77 l1 (ji29)).f0)) ∧ w'.cell? ⟨(ad184.add (((ji29)).toNat * 3)).block, (ad184.add (((ji29)).toNat * 3)).off + 1, none⟩ = some (.int .i64 ((rd_T77 l1 (ji29)).f1)) ∧ w'.cell? ⟨(ad184.add (((ji29)).toNat * 3)).block, (ad184.add (((ji29)).toNat * 3)).off + 2, none⟩ = some (.int .i64 ((rd_T77 l1 (ji29)).f2)) ∧ w'.cell? (ad184.add (((ji29)).toNat * 3)) = some (.int .i64 ((rd_T77 l1 (ji29)).f0)) ∧ w'.cell? ⟨(ad184.add (((ji29)).toNat * 3)).block, (ad184.add (((ji29)).toNat * 3)).off + 1, none⟩ = some (.int .i64 ((rd_T77 l1 (ji29)).f1)) ∧ w'.cell? ⟨(ad184.add (((ji29)).toNat * 3)).block, (ad184.add (((ji29)).toNat * 3)).off + 2, none⟩ = some (.int .i64 ((rd_T77 l1 (ji29)).f2))) (ds := []) (bA 35 0) (by kernel_rfl) rfl rfl ⟨(blk_cell BK185.out 0).trans rfl, (blk_cell BK185.out 1).trans rfl, (blk_cell BK185.out 2).trans rfl, ((HB.out.cell (World.block_lt_of_cell? w _ hw188_0)).trans hw188_0), ((HB.out.cell (World.block_lt_of_cell? w _ hw188_1)).trans hw188_1), ((HB.out.cell (World.block_lt_of_cell? w _ hw188_2)).trans hw188_2), ((HB.out.cell (World.block_lt_of_cell? w _ hw189_0)).trans hw189_0), ((HB.out.cell (World.block_lt_of_cell? w _ hw189_1)).trans hw189_1), ((HB.out.cell (World.block_lt_of_cell? w _ hw189_2)).trans hw189_2)⟩ (fun hHeld => ?_); refine with_tabW impl_isSplit.tab7 impl_isSplit.bits7 (fun HT_ HW_ => ?_)
                  generalize wc.drew = w47 at HO_5 BK185 HB hx188_0 hx188_1 hx188_2 hx189_0 hx189_1 hx189_2 hHeld ⊢
                  refine pU 0 49 (bA 35 1) ?_
                  refine pU 1 50 (bA 35 3) ?_
                  refine pU 2 51 (bA 35 7) ?_
                  refine pU 3 52 (bA 35 15) ?_
                  refine pU 5 54 (bA 35 47) ?_
                  refine pU 6 55 (bA 35 111) ?_
                  refine pU 7 56 (bA 35 239) ?_
                  refine pU 8 57 (bA 35 495) ?_
                  refine pU 9 58 (bA 35 1007) ?_
                  refine tU 4 53 (bA 35 1023) ?_
                  refine tU 10 59 (bA 35 2047) ?_
                  refine pU 11 60 (bA 35 4095) ?_
                  refine pU 12 61 (bA 35 8191) ?_
                  refine pU 13 62 (bA 35 16383) ?_
                  refine pU 15 64 (bA 35 49151) ?_
                  refine pU 16 65 (bA 35 114687) ?_
                  refine pU 17 66 (bA 35 245759) ?_
                  refine pU 18 67 (bA 35 507903) ?_
                  refine pU 19 68 (bA 35 1032191) ?_
                  refine tU 14 63 (bA 35 1048575) ?_
                  refine tU 20 69 (bA 35 2097151) ?_
                  refine pU 21 70 (bA 35 4194303) ?_
                  refine pU 22 71 (bA 35 8388607) ?_
                  refine nU 23 72 (bA 35 16777215) ?_
                  refine nU 24 73 (bA 35 33554431) ?_
                  refine nU 25 74 (bA 35 67108863) ?_
                  refine nU 26 75 (bA 35 134217727) ?_
                  refine nU 27 76 (bA 35 268435455) ?_
                  refine nU 28 77 (bA 35 536870911) ?_
                  refine nU 29 78 (bA 35 1073741823) ?_
                  refine nU 30 79 (bA 35 2147483647) ?_
                  refine nU 31 80 (bA 35 4294967295) ?_
                  refine pU 32 81 (bA 35 8589934591) ?_
                  refine pU 33 82 (bA 35 17179869183) ?_
                  refine pU 34 83 (bA 35 34359738367) ?_
                  refine done_ (done_of HT_.out (by kernel_rfl)) ?_
                  try go_wp2
                  have n0_ := Aside0.mk (Kd.R_drew HO_5.out)
                  have n1_ := Aside0.mk (blk_drew BK185.out)
                  have n2_ := Aside0.mk (below_drew1 HB.out)
                  clear HO_5
                  clear BK185
                  clear HB
                  have HO_5 := n0_
                  have BK185 := n1_
                  have HB := n2_
                  clear n0_ n1_ n2_
                  obtain ⟨Ao49, co49, eo49⟩ := Kd.R_slice HO_5.out
                  (first | subst eo49 | (injection eo49 with f1_ f2_ f3_; have f4_ := f1_.symm; have f5_ := f3_.symm; clear f1_ f2_ f3_; subst f4_; subst f5_))
                  have p193 : 0 ≤ (((rd_T77 l1 x15_1).f0) : Int) := of_decide_eq_true (by first | (with_reducible assumption) | assumption)
                  have q193 : ((rd_T77 l1 x15_1).f0) < (x5_1.length : Int) := of_decide_eq_true (by first | (with_reducible assumption) | assumption)
                  obtain ⟨ad193, e193, hx193_0⟩ := Kd.at_int (Kd.R_reads' HO_5.out).2.2 ((rd_T77 l1 x15_1).f0) p193 q193
                  cases e193
                  replace p193 := eq_true p193
                  replace q193 := eq_true q193
                  have p46 : 0 ≤ (((rd_T77 l1 x15_1).f0) : Int) := of_decide_eq_true (by first | (with_reducible assumption) | assumption)
                  have q46 : (((rd_T77 l1 x15_1).f0) : Int) < ((x5_1.length : Int) : Int) := of_decide_eq_true (by first | (with_reducible assumption) | assumption)
                  obtain ⟨go46, co46, eo46, gb46, gl46, cl46, HG46⟩ := Kd.R_form HO_5.out (by omega)
                  (first | cases eo46 | (injection eo46 with ea_ en_ ec_; (first | subst ea_ | (injection ea_ with ea_; subst ea_)); subst ec_; clear en_))
                  have GB46 := Aside0.mk gb46
                  have GG46 := Aside0.mk HG46
                  clear gb46 gl46 HG46
                  (first | simp only [add_plain] at hx193_0 | skip)
                  obtain ⟨hx46_0, hf46_0⟩ := Kd.R_celln 0 HO_5.out (((rd_T77 l1 x15_1).f0) : Int) p46 q46
                  replace p46 := eq_true p46
                  replace q46 := eq_true q46
                  have HP50 := Kd.R_putn HO_5.out (((rd_T77 l1 x15_1).f0) : Int) (wrap64 ((rd x5_1 ((rd_T77 l1 x15_1).f0)) + (wrap64 (((rd_T77 l1 x15_1).f2) - ((rd_T77 l1 x15_1).f1)))))
                  rw [← Ny194.out] at HP50
                  have HQ50 := Aside0.mk HP50
                  clear HP50
                  refine start_ (n := 13) (S := fun w' => w'.cell? ⟨gb185, 0, none⟩ = some (.int .i64 ((rd_T77 l1 x15_1).f0)) ∧ w'.cell? ⟨gb185, 1, none⟩ = some (.int .i64 ((rd_T77 l1 x15_1).f1)) ∧ w'.cell? ⟨gb185, 2, none⟩ = some (.int .i64 ((rd_T77 l1 x15_1).f2)) ∧ w'.cell? ⟨go46, (((rd_T77 l1 x15_1).f0)).toNat, none⟩ = some (.int .i64 (rd x5_1 ((rd_T77 l1 x15_1).f0)))) (ds := [12]) (bA 13 0) (by kernel_rfl) rfl rfl ⟨(blk_cell BK185.out 0).trans rfl, (blk_cell BK185.out 1).trans rfl, (blk_cell BK185.out 2).trans rfl, hx193_0⟩ (fun hHeld => ?_); refine with_tabW impl_isSplit.tab9 impl_isSplit.bits9 (fun HT_ HW_ => ?_)
                  generalize w47.drew = w48 at HO_5 BK185 HB GG46 HQ50 hf46_0 hx193_0 hx46_0 hHeld ⊢
                  refine pU 0 84 (bA 13 1) ?_
                  refine pU 1 85 (bA 13 3) ?_
                  refine pU 5 89 (bA 13 35) ?_
                  refine pU 7 91 (bA 13 163) ?_
                  refine tU 2 86 (bA 13 167) ?_
                  refine pU 3 87 (bA 13 175) ?_
                  refine tU 4 88 (bA 13 191) ?_
                  refine tU 6 90 (bA 13 255) ?_
                  refine tU 8 92 (bA 13 511) ?_
                  refine pU 9 93 (bA 13 1023) ?_
                  refine pU 10 94 (bA 13 2047) ?_
                  refine pU 11 95 (bA 13 4095) ?_
                  refine last_ (i := 12) (N := none) (bA 13 8191) rfl rfl (one_of HT_.out (by kernel_rfl)) (by decide) (fun K hK => ?_)
                  refine skip_ (w1 := ?_) (by rfl) rfl ?_ ?_
                  rotate_left
                  ·go_simp
                   rfl
                  refine hK.out _ _ ?_
                  clear hK K
                  refine done_ (done_of HT_.out (by kernel_rfl)) ?_
                  try go_wp2
                  go_roundg kj9
                  case measure => have := HK1.out; have := HJ9.out; omega
                  case rel => exact ⟨(y194), (wrap64 (x15_1 + 1)), (by first | rfl | (simp; done) | (simp [*]; done)), H', ⟨by have := HK1.out; have := HJ9.out; omega⟩, ⟨by (with_reducible repeat (first | apply Kd.R_alloc | apply Kd.R_drewN | apply Kd.R_drew)); exact HQ50.out⟩, ⟨by repeat (first | (with_reducible first | exact HB.out | apply below_alloc | apply pw_below_drewN | apply below_drew1 | refine below_set ?_ GB46.out | refine below_set ?_ GE185.out) | exact HB.out)⟩⟩
                 ·rw [if_neg c45] at H
                  exact absurd H (by simp)
                ·rw [if_neg c44] at H
                 exact absurd H (by simp)
             ·rw [if_neg c31] at H
              exact absurd H (by simp)
            ·rw [if_neg c30] at H
             exact absurd H (by simp)
           ·rw [if_neg c28] at H
            have c28b0 : decide (0 < x15_1) = false := decide_eq_false c28
            clear c28
            by_cases c51 : 0 ≤ ((rd_T77 l1 x15_1).f0)
            ·rw [if_pos c51] at H
             have c51b0 : decide (0 ≤ ((rd_T77 l1 x15_1).f0)) = true := decide_eq_true c51
             clear c51
             by_cases c52 : ((rd_T77 l1 x15_1).f0) < (x5_1.length : Int)
             ·rw [if_pos c52] at H
              have c52b0 : decide (((rd_T77 l1 x15_1).f0) < (x5_1.length : Int)) = true := decide_eq_true c52
              clear c52
              obtain ⟨y196, hy196⟩ : ∃ y_ : List Int, y_ = (x5_1.set (((rd_T77 l1 x15_1).f0) : Int).toNat (wrap64 ((rd x5_1 ((rd_T77 l1 x15_1).f0)) + (wrap64 (((rd_T77 l1 x15_1).f2) - ((rd_T77 l1 x15_1).f1)))))) := ⟨_, rfl⟩
              replace H : (impl_isSplit.l0 kj9 l0 l1 y196 l1 (l1.length : Int) (wrap64 (x15_1 + 1))) = some r := by first | (rw [hy196]; with_reducible exact H) | (have H2_ := (Option.bind_some _ _).symm.trans H; rw [hy196]; with_reducible exact H2_) | (have H2_ := (Option.bind_some _ _).symm.trans H; with_reducible exact H2_) | with_reducible exact H | (rw [hy196]; exact H) | exact H
              have Ny196 := Aside0.mk hy196
              clear hy196
              have H' := Aside0.mk H
              clear H
              try go_wp2
              have n0_ := Aside0.mk (Kd.R_drew HO_5.out)
              have n1_ := Aside0.mk (blk_drew BK185.out)
              have n2_ := Aside0.mk (below_drew1 HB.out)
              clear HO_5
              clear BK185
              clear HB
              have HO_5 := n0_
              have BK185 := n1_
              have HB := n2_
              clear n0_ n1_ n2_
              refine start_ (n := 35) (S := fun w' => True) (ds := []) (bA 35 0) (by kernel_rfl) rfl rfl trivial (fun hHeld => ?_); refine with_tabW impl_isSplit.tab7 impl_isSplit.bits7 (fun HT_ HW_ => ?_)
              generalize wc.drew = w54 at HO_5 BK185 HB hHeld ⊢
              refine pU 0 49 (bA 35 1) ?_
              refine pU 1 50 (bA 35 3) ?_
              refine pU 2 51 (bA 35 7) ?_
              refine nU 3 52 (bA 35 15) ?_
              refine nU 4 53 (bA 35 31) ?_
              refine nU 5 54 (bA 35 63) ?_
              refine nU 6 55 (bA 35 127) ?_
              refine nU 7 56 (bA 35 255) ?_
              refine nU 8 57 (bA 35 511) ?_
              refine nU 9 58 (bA 35 1023) ?_
              refine nU 10 59 (bA 35 2047) ?_
              refine nU 11 60 (bA 35 4095) ?_
              refine nU 12 61 (bA 35 8191) ?_
              refine nU 13 62 (bA 35 16383) ?_
              refine nU 14 63 (bA 35 32767) ?_
              refine nU 15 64 (bA 35 65535) ?_
              refine nU 16 65 (bA 35 131071) ?_
              refine nU 17 66 (bA 35 262143) ?_
              refine nU 18 67 (bA 35 524287) ?_
              refine nU 19 68 (bA 35 1048575) ?_
              refine nU 20 69 (bA 35 2097151) ?_
              refine nU 21 70 (bA 35 4194303) ?_
              refine nU 22 71 (bA 35 8388607) ?_
              refine nU 23 72 (bA 35 16777215) ?_
              refine nU 24 73 (bA 35 33554431) ?_
              refine nU 25 74 (bA 35 67108863) ?_
              refine nU 26 75 (bA 35 134217727) ?_
              refine nU 27 76 (bA 35 268435455) ?_
              refine nU 28 77 (bA 35 536870911) ?_
              refine nU 29 78 (bA 35 1073741823) ?_
              refine nU 30 79 (bA 35 2147483647) ?_
              refine nU 31 80 (bA 35 4294967295) ?_
              refine nU 32 81 (bA 35 8589934591) ?_
              refine nU 33 82 (bA 35 17179869183) ?_
              refine pU 34 83 (bA 35 34359738367) ?_
              refine done_ (done_of HT_.out (by kernel_rfl)) ?_
              try go_wp2
              have n0_ := Aside0.mk (Kd.R_drew HO_5.out)
              have n1_ := Aside0.mk (blk_drew BK185.out)
              have n2_ := Aside0.mk (below_drew1 HB.out)
              clear HO_5
              clear BK185
              clear HB
              have HO_5 := n0_
              have BK185 := n1_
              have HB := n2_
              clear n0_ n1_ n2_
              obtain ⟨Ao56, co56, eo56⟩ := Kd.R_slice HO_5.out
              (first | subst eo56 | (injection eo56 with f1_ f2_ f3_; have f4_ := f1_.symm; have f5_ := f3_.symm; clear f1_ f2_ f3_; subst f4_; subst f5_))
              have p195 : 0 ≤ (((rd_T77 l1 x15_1).f0) : Int) := of_decide_eq_true (by first | (with_reducible assumption) | assumption)
              have q195 : ((rd_T77 l1 x15_1).f0) < (x5_1.length : Int) := of_decide_eq_true (by first | (with_reducible assumption) | assumption)
              obtain ⟨ad195, e195, hx195_0⟩ := Kd.at_int (Kd.R_reads' HO_5.out).2.2 ((rd_T77 l1 x15_1).f0) p195 q195
              cases e195
              replace p195 := eq_true p195
              replace q195 := eq_true q195
              have p53 : 0 ≤ (((rd_T77 l1 x15_1).f0) : Int) := of_decide_eq_true (by first | (with_reducible assumption) | assumption)
              have q53 : (((rd_T77 l1 x15_1).f0) : Int) < ((x5_1.length : Int) : Int) := of_decide_eq_true (by first | (with_reducible assumption) | assumption)
              obtain ⟨go53, co53, eo53, gb53, gl53, cl53, HG53⟩ := Kd.R_form HO_5.out (by omega)
              (first | cases eo53 | (injection eo53 with ea_ en_ ec_; (first | subst ea_ | (injection ea_ with ea_; subst ea_)); subst ec_; clear en_))
              have GB53 := Aside0.mk gb53
              have GG53 := Aside0.mk HG53
              clear gb53 gl53 HG53
              (first | simp only [add_plain] at hx195_0 | skip)
              obtain ⟨hx53_0, hf53_0⟩ := Kd.R_celln 0 HO_5.out (((rd_T77 l1 x15_1).f0) : Int) p53 q53
              replace p53 := eq_true p53
              replace q53 := eq_true q53
              have HP57 := Kd.R_putn HO_5.out (((rd_T77 l1 x15_1).f0) : Int) (wrap64 ((rd x5_1 ((rd_T77 l1 x15_1).f0)) + (wrap64 (((rd_T77 l1 x15_1).f2) - ((rd_T77 l1 x15_1).f1)))))
              rw [← Ny196.out] at HP57
              have HQ57 := Aside0.mk HP57
              clear HP57
              refine start_ (n := 13) (S := fun w' => w'.cell? ⟨gb185, 0, none⟩ = some (.int .i64 ((rd_T77 l1 x15_1).f0)) ∧ w'.cell? ⟨gb185, 1, none⟩ = some (.int .i64 ((rd_T77 l1 x15_1).f1)) ∧ w'.cell? ⟨gb185, 2, none⟩ = some (.int .i64 ((rd_T77 l1 x15_1).f2)) ∧ w'.cell? ⟨go53, (((rd_T77 l1 x15_1).f0)).toNat, none⟩ = some (.int .i64 (rd x5_1 ((rd_T77 l1 x15_1).f0)))) (ds := [12]) (bA 13 0) (by kernel_rfl) rfl rfl ⟨(blk_cell BK185.out 0).trans rfl, (blk_cell BK185.out 1).trans rfl, (blk_cell BK185.out 2).trans rfl, hx195_0⟩ (fun hHeld => ?_); refine with_tabW impl_isSplit.tab9 impl_isSplit.bits9 (fun HT_ HW_ => ?_)
              generalize w54.drew = w55 at HO_5 BK185 HB GG53 HQ57 hf53_0 hx195_0 hx53_0 hHeld ⊢
              refine pU 0 84 (bA 13 1) ?_
              refine pU 1 85 (bA 13 3) ?_
              refine pU 5 89 (bA 13 35) ?_
              refine pU 7 91 (bA 13 163) ?_
              refine tU 2 86 (bA 13 167) ?_
              refine pU 3 87 (bA 13 175) ?_
              refine tU 4 88 (bA 13 191) ?_
              refine tU 6 90 (bA 13 255) ?_
              refine tU 8 92 (bA 13 511) ?_
              refine pU 9 93 (bA 13 1023) ?_
              refine pU 10 94 (bA 13 2047) ?_
              refine pU 11 95 (bA 13 4095) ?_
              refine last_ (i := 12) (N := none) (bA 13 8191) rfl rfl (one_of HT_.out (by kernel_rfl)) (by decide) (fun K hK => ?_)
              refine skip_ (w1 := ?_) (by rfl) rfl ?_ ?_
              rotate_left
              ·go_simp
               rfl
              refine hK.out _ _ ?_
              clear hK K
              refine done_ (done_of HT_.out (by kernel_rfl)) ?_
              try go_wp2
              go_roundg kj9
              case measure => have := HK1.out; have := HJ9.out; omega
              case rel => exact ⟨(y196), (wrap64 (x15_1 + 1)), (by first | rfl | (simp; done) | (simp [*]; done)), H', ⟨by have := HK1.out; have := HJ9.out; omega⟩, ⟨by (with_reducible repeat (first | apply Kd.R_alloc | apply Kd.R_drewN | apply Kd.R_drew)); exact HQ57.out⟩, ⟨by repeat (first | (with_reducible first | exact HB.out | apply below_alloc | apply pw_below_drewN | apply below_drew1 | refine below_set ?_ GB53.out | refine below_set ?_ GE185.out) | exact HB.out)⟩⟩
             ·rw [if_neg c52] at H
              exact absurd H (by simp)
            ·rw [if_neg c51] at H
             exact absurd H (by simp)
       ·rw [if_neg c9] at H
        exact absurd H (by simp)
      ·rw [if_neg c8] at H
       exact absurd H (by simp)
     ·rw [if_neg c7] at H
      have c7b0 : decide (x15_1 < (l1.length : Int)) = false := decide_eq_false c7
      clear c7
      have H' := Aside0.mk H
      clear H
      go_wp2
      go_loopg [99] k1 (fun kq v99 w' => ∃ (x99_2 : Int), v99 = .int .i64 x99_2 ∧ Aside0 (impl_isSplit.l1 kq x5_1 l0 (l0.length : Int) x99_2 = some r) ∧ Aside0 (kq ≤ k1) ∧ Aside0 (Kd.R (Kd.int .i64) 3 w' w.heap.size (fun _ => True) v182 x5_1) ∧ Aside0 (Below w.heap.size w w'))
      case atStart => exact ⟨(0), (by first | rfl | (simp; done) | (simp [*]; done)), H', ⟨Nat.le_refl _⟩, ⟨by (with_reducible repeat (first | apply Kd.R_alloc | apply Kd.R_drewN | apply Kd.R_drew)); exact HO_5.out⟩, ⟨by repeat (first | (with_reducible first | exact HB.out | apply below_alloc | apply pw_below_drewN | apply below_drew1) | exact HB.out)⟩⟩
      case round =>
       clear H'
       try clear p1
       try clear q1
       try clear hx1
       try clear c2
       try clear p2
       try clear c3
       try clear c4
       try clear p4
       try clear q4
       try clear hx4
       try clear hf4
       try clear c5
       try clear p5
       try clear q5
       try clear hx5
       try clear hf5
       try clear p6
       try clear c7
       try clear c7b0
       try clear c8
       try clear c9
       try clear p19
       try clear q19
       try clear hx19
       try clear c28
       try clear c28b0
       try clear c30
       try clear c31
       try clear c44
       try clear c45
       try clear p46
       try clear q46
       try clear hx46
       try clear hf46
       try clear c51
       try clear c51b0
       try clear c52
       try clear c52b0
       try clear p53
       try clear q53
       try clear hx53
       try clear hf53
       try clear hx193_0
       try clear hx195_0
       try clear hx46_0
       try clear hx53_0
       try clear p193
       try clear p195
       try clear p46
       try clear p53
       try clear q193
       try clear q195
       try clear q46
       try clear q53
       obtain ⟨x99_2, rfl, HA, HK2, HO_5, HB⟩ := hrel
       cases gk with
       | zero => exact absurd HA.out (by simp [impl_isSplit.l1])
       | succ k2 =>
        have H := HA.out
        clear HA
        simp only [impl_isSplit.l1] at H
        by_cases c58 : x99_2 < (l0.length : Int)
        ·rw [if_pos c58] at H
         have c58b0 : decide (x99_2 < (l0.length : Int)) = true := decide_eq_true c58
         clear c58
         by_cases c59 : 0 ≤ x99_2
         ·rw [if_pos c59] at H
          have c59b0 : decide (0 ≤ x99_2) = true := decide_eq_true c59
          clear c59
          by_cases c60 : x99_2 < (l0.length : Int)
          ·rw [if_pos c60] at H
           have c60b0 : decide (x99_2 < (l0.length : Int)) = true := decide_eq_true c60
           clear c60
           by_cases c61 : x99_2 < (x5_1.length : Int)
           ·rw [if_pos c61] at H
            have c61b0 : decide (x99_2 < (x5_1.length : Int)) = true := decide_eq_true c61
            clear c61
            by_cases c62 : (rd x5_1 x99_2) = ((rd_T59 l0 x99_2).f0)
            ·rw [if_pos c62] at H
             have c62b0 : ((rd x5_1 x99_2) == ((rd_T59 l0 x99_2).f0)) = true := beq_iff_eq.mpr c62
             have c62b1 : ((rd x5_1 x99_2) != ((rd_T59 l0 x99_2).f0)) = false := bne_eq_false_iff_eq.mpr c62
             clear c62
             have H' := Aside0.mk H
             clear H
             have p197 : 0 ≤ (x99_2 : Int) := of_decide_eq_true (by first | (with_reducible assumption) | assumption)
             have q197 : x99_2 < (l0.length : Int) := of_decide_eq_true (by first | (with_reducible assumption) | assumption)
             obtain ⟨ad197, e197, hx197_0, hx197_1, hx197_2, hx197_3⟩ := at_T59 HR0.out x99_2 p197 q197
             cases e197
             replace hx197_0 := (HB.out.cell (World.block_lt_of_cell? w _ hx197_0)).trans hx197_0
             replace hx197_1 := (HB.out.cell (World.block_lt_of_cell? w _ hx197_1)).trans hx197_1
             replace hx197_2 := (HB.out.cell (World.block_lt_of_cell? w _ hx197_2)).trans hx197_2
             replace hx197_3 := (HB.out.cell (World.block_lt_of_cell? w _ hx197_3)).trans hx197_3
             replace p197 := eq_true p197
             replace q197 := eq_true q197
             try go_wp2_with (first | ((with_reducible refine gate_dst (N := 9) rfl ?_); refine box_event ?hg (N := 9) ?hd (cs := #[.int .i64 0, .int .i64 0, .int .i64 0, .int .i64 0]) (t := 59) ?hr ?_; (case hd => rfl); (case hg => rfl); (case hr => first | (go_simp; done) | (go_simp; rfl)); intro gb198 hg w63 hbox hb; have n0_ := Aside0.mk (Kd.R_below (by (with_reducible repeat (first | apply Kd.R_alloc | apply Kd.R_drewN | apply Kd.R_drew)); exact HO_5.out) hb); have n1_ := Aside0.mk (below_step (by repeat (first | (with_reducible first | exact HB.out | apply below_alloc | apply pw_below_drewN | apply below_drew1) | exact HB.out)) hb); have n2_ := Aside0.mk (hbox); have n3_ := Aside0.mk ((by rw [hg]; exact (below_size (by repeat (first | (with_reducible first | exact HB.out | apply below_alloc | apply pw_below_drewN | apply below_drew1) | exact HB.out))) : w.heap.size ≤ gb198)); have n4_ := Aside0.mk ((by rw [hg]; exact (below_size (by repeat (first | (with_reducible first | exact HB.out | apply below_alloc | apply pw_below_drewN | apply below_drew1) | exact HB.out))) : w.heap.size ≤ gb198)); clear HO_5; clear HB; have HO_5 := n0_; have HB := n1_; have BK198 := n2_; have GW198 := n3_; have GE198 := n4_; clear n0_ n1_ n2_ n3_ n4_; clear hb hbox hg; have hcz64_0 : w63.cell? ⟨gb198, 0, none⟩ = some (.int .i64 0) := (blk_cell BK198.out 0).trans rfl; have hcz64_1 : w63.cell? ⟨gb198, 1, none⟩ = some (.int .i64 0) := (blk_cell BK198.out 1).trans rfl; have hcz64_2 : w63.cell? ⟨gb198, 2, none⟩ = some (.int .i64 0) := (blk_cell BK198.out 2).trans rfl; have hcz64_3 : w63.cell? ⟨gb198, 3, none⟩ = some (.int .i64 0) := (blk_cell BK198.out 3).trans rfl; have hfz64_0 := blk_frozen BK198.out 0; have hfz64_1 := blk_frozen BK198.out 1; have hfz64_2 := blk_frozen BK198.out 2; have hfz64_3 := blk_frozen BK198.out 3))
             have n0_ : Aside0 (Kd.R (Kd.int .i64) 3 ((((w63.setCell ⟨gb198, 0, none⟩ (.int .i64 ((rd_T59 l0 x99_2).f0))).setCell ⟨gb198, 1, none⟩ (.int .i64 ((rd_T59 l0 x99_2).f1))).setCell ⟨gb198, 2, none⟩ (.int .i64 ((rd_T59 l0 x99_2).f2))).setCell ⟨gb198, 3, none⟩ (.int .i64 ((rd_T59 l0 x99_2).f3))) w.heap.size (fun _ => True) v182 x5_1) := ⟨by (with_reducible repeat (first | apply Kd.R_alloc | apply Kd.R_drewN | apply Kd.R_drew)); exact Kd.R_mono (Kd.R_far (p := ⟨gb198, 3, none⟩) (Kd.R_far (p := ⟨gb198, 2, none⟩) (Kd.R_far (p := ⟨gb198, 1, none⟩) (Kd.R_far (p := ⟨gb198, 0, none⟩) (Kd.R_types HO_5.out BK198.out (by decide)) (fun _ hk => hk.2) (.int .i64 ((rd_T59 l0 x99_2).f0))) (fun _ hk => hk.2) (.int .i64 ((rd_T59 l0 x99_2).f1))) (fun _ hk => hk.2) (.int .i64 ((rd_T59 l0 x99_2).f2))) (fun _ hk => hk.2) (.int .i64 ((rd_T59 l0 x99_2).f3))) (fun _ hk => trivial)⟩
             have n1_ : Aside0 (((((w63.setCell ⟨gb198, 0, none⟩ (.int .i64 ((rd_T59 l0 x99_2).f0))).setCell ⟨gb198, 1, none⟩ (.int .i64 ((rd_T59 l0 x99_2).f1))).setCell ⟨gb198, 2, none⟩ (.int .i64 ((rd_T59 l0 x99_2).f2))).setCell ⟨gb198, 3, none⟩ (.int .i64 ((rd_T59 l0 x99_2).f3))).heap[gb198]? = some (.cells #[.int .i64 ((rd_T59 l0 x99_2).f0), .int .i64 ((rd_T59 l0 x99_2).f1), .int .i64 ((rd_T59 l0 x99_2).f2), .int .i64 ((rd_T59 l0 x99_2).f3)] 59 (0, 0))) := ⟨by (with_reducible repeat (first | refine blk_drewN ?_ _ | refine blk_drew ?_ | refine blk_alloc ?_ _)); refine blk_put (cs := #[.int .i64 ((rd_T59 l0 x99_2).f0), .int .i64 ((rd_T59 l0 x99_2).f1), .int .i64 ((rd_T59 l0 x99_2).f2), .int .i64 0]) ?_ 3 _ rfl; (with_reducible repeat (first | refine blk_drewN ?_ _ | refine blk_drew ?_ | refine blk_alloc ?_ _)); refine blk_put (cs := #[.int .i64 ((rd_T59 l0 x99_2).f0), .int .i64 ((rd_T59 l0 x99_2).f1), .int .i64 0, .int .i64 0]) ?_ 2 _ rfl; (with_reducible repeat (first | refine blk_drewN ?_ _ | refine blk_drew ?_ | refine blk_alloc ?_ _)); refine blk_put (cs := #[.int .i64 ((rd_T59 l0 x99_2).f0), .int .i64 0, .int .i64 0, .int .i64 0]) ?_ 1 _ rfl; (with_reducible repeat (first | refine blk_drewN ?_ _ | refine blk_drew ?_ | refine blk_alloc ?_ _)); refine blk_put (cs := #[.int .i64 0, .int .i64 0, .int .i64 0, .int .i64 0]) ?_ 0 _ rfl; (with_reducible repeat (first | refine blk_drewN ?_ _ | refine blk_drew ?_ | refine blk_alloc ?_ _)); exact BK198.out⟩
             have n2_ : Aside0 (Below w.heap.size w ((((w63.setCell ⟨gb198, 0, none⟩ (.int .i64 ((rd_T59 l0 x99_2).f0))).setCell ⟨gb198, 1, none⟩ (.int .i64 ((rd_T59 l0 x99_2).f1))).setCell ⟨gb198, 2, none⟩ (.int .i64 ((rd_T59 l0 x99_2).f2))).setCell ⟨gb198, 3, none⟩ (.int .i64 ((rd_T59 l0 x99_2).f3)))) := ⟨by repeat (first | (with_reducible first | exact HB.out | apply below_alloc | apply pw_below_drewN | apply below_drew1 | refine below_set ?_ GE198.out) | exact HB.out)⟩
             (try clear HO_5)
             (try clear BK198)
             (try clear HB)
             generalize ((((w63.setCell ⟨gb198, 0, none⟩ (.int .i64 ((rd_T59 l0 x99_2).f0))).setCell ⟨gb198, 1, none⟩ (.int .i64 ((rd_T59 l0 x99_2).f1))).setCell ⟨gb198, 2, none⟩ (.int .i64 ((rd_T59 l0 x99_2).f2))).setCell ⟨gb198, 3, none⟩ (.int .i64 ((rd_T59 l0 x99_2).f3))) = w65 at n0_ n1_ n2_ ⊢
             have HO_5 := n0_
             have BK198 := n1_
             have HB := n2_
             clear n0_ n1_ n2_
             have n0_ := Aside0.mk (Kd.R_drew HO_5.out)
             have n1_ := Aside0.mk (blk_drew BK198.out)
             have n2_ := Aside0.mk (below_drew1 HB.out)
             clear HO_5
             clear BK198
             clear HB
             have HO_5 := n0_
             have BK198 := n1_
             have HB := n2_
             clear n0_ n1_ n2_
             obtain ⟨Ao67, co67, eo67⟩ := Kd.R_slice HO_5.out
             (first | subst eo67 | (injection eo67 with f1_ f2_ f3_; have f4_ := f1_.symm; have f5_ := f3_.symm; clear f1_ f2_ f3_; subst f4_; subst f5_))
             have p199 : 0 ≤ (x99_2 : Int) := of_decide_eq_true (by first | (with_reducible assumption) | assumption)
             have q199 : x99_2 < (x5_1.length : Int) := of_decide_eq_true (by first | (with_reducible assumption) | assumption)
             obtain ⟨ad199, e199, hx199_0⟩ := Kd.at_int (Kd.R_reads' HO_5.out).2.2 x99_2 p199 q199
             cases e199
             replace p199 := eq_true p199
             replace q199 := eq_true q199
             refine start_ (n := 7) (S := fun w' => w'.cell? ⟨gb198, 0, none⟩ = some (.int .i64 ((rd_T59 l0 x99_2).f0)) ∧ w'.cell? ⟨gb198, 1, none⟩ = some (.int .i64 ((rd_T59 l0 x99_2).f1)) ∧ w'.cell? ⟨gb198, 2, none⟩ = some (.int .i64 ((rd_T59 l0 x99_2).f2)) ∧ w'.cell? ⟨gb198, 3, none⟩ = some (.int .i64 ((rd_T59 l0 x99_2).f3)) ∧ w'.cell? (ad199.add (x99_2).toNat) = some (.int .i64 (rd x5_1 x99_2))) (ds := []) #[false, false, false, false, false, false, false] (by kernel_rfl) rfl rfl ⟨(blk_cell BK198.out 0).trans rfl, (blk_cell BK198.out 1).trans rfl, (blk_cell BK198.out 2).trans rfl, (blk_cell BK198.out 3).trans rfl, hx199_0⟩ (fun hHeld => ?_)
             generalize w65.drew = w66 at HO_5 BK198 HB hx199_0 hHeld ⊢
             refine pure_ (i := 0) (N := some 104) (v := ?_) (a' := ?_) #[true, false, false, false, false, false, false] rfl rfl (by kernel_rfl) (fun _ _ _ h => h) (Or.inl ⟨by rfl, ?_⟩) ?_ ?_
             rotate_left; (intro w'; go_simp; with_reducible rfl); rotate_left; (simp only [Act.put, sA, sZ, sS, i64_w, i32_w]; rfl)
             refine pure_ (i := 1) (N := some 105) (v := ?_) (a' := ?_) #[true, true, false, false, false, false, false] rfl rfl (by kernel_rfl) (fun _ _ _ h => h) (Or.inl ⟨by rfl, ?_⟩) ?_ ?_
             rotate_left; (intro w'; go_simp; with_reducible rfl); rotate_left; (simp only [Act.put, sA, sZ, sS, i64_w, i32_w]; rfl)
             refine pure_ (i := 2) (N := some 106) (v := ?_) (a' := ?_) #[true, true, true, false, false, false, false] rfl rfl (by kernel_rfl) (fun _ _ _ h => h) (Or.inl ⟨by rfl, ?_⟩) ?_ ?_
             rotate_left; (intro w'; go_simp; with_reducible rfl); rotate_left; (simp only [Act.put, sA, sZ, sS, i64_w, i32_w]; rfl)
             refine pure_ (i := 4) (N := some 108) (v := ?_) (a' := ?_) #[true, true, true, false, true, false, false] rfl rfl (by kernel_rfl) (fun _ _ _ h => h) (Or.inl ⟨by rfl, ?_⟩) ?_ ?_
             rotate_left; (intro w'; go_simp; with_reducible rfl); rotate_left; (simp only [Act.put, sA, sZ, sS, i64_w, i32_w]; rfl)
             refine take_ (i := 3) (N := some 107) (v := ?_) (a' := ?_) #[true, true, true, true, true, false, false] rfl rfl (by kernel_rfl) (fun _ _ _ h => h) (Or.inl ⟨by rfl, ?_⟩) hHeld ?_ ?_
             rotate_left
             ·rintro w' ⟨s0, s1, s2, s3, s4⟩
              go_simp
              with_reducible rfl
             rotate_left
             ·simp only [Act.put, sA, sZ, sS, i64_w, i32_w]
              rfl
             refine take_ (i := 5) (N := some 109) (v := ?_) (a' := ?_) #[true, true, true, true, true, true, false] rfl rfl (by kernel_rfl) (fun _ _ _ h => h) (Or.inl ⟨by rfl, ?_⟩) hHeld ?_ ?_
             rotate_left
             ·rintro w' ⟨s0, s1, s2, s3, s4⟩
              go_simp
              with_reducible rfl
             rotate_left
             ·simp only [Act.put, sA, sZ, sS, i64_w, i32_w]
              rfl
             refine pure_ (i := 6) (N := some 110) (v := ?_) (a' := ?_) #[true, true, true, true, true, true, true] rfl rfl (by kernel_rfl) (fun _ _ _ h => h) (Or.inl ⟨by rfl, ?_⟩) ?_ ?_
             rotate_left; (intro w'; go_simp; with_reducible rfl); rotate_left; (simp only [Act.put, sA, sZ, sS, i64_w, i32_w]; rfl)
             refine done_ (by kernel_rfl) ?_
             try go_wp2
             go_roundg k2
             case measure => have := HK1.out; have := HK2.out; omega
             case rel => exact ⟨(wrap64 (x99_2 + 1)), (by first | rfl | (simp; done) | (simp [*]; done)), H', ⟨by have := HK1.out; have := HK2.out; omega⟩, ⟨by (with_reducible repeat (first | apply Kd.R_alloc | apply Kd.R_drewN | apply Kd.R_drew)); exact HO_5.out⟩, ⟨by repeat (first | (with_reducible first | exact HB.out | apply below_alloc | apply pw_below_drewN | apply below_drew1 | refine below_set ?_ GE198.out) | exact HB.out)⟩⟩
            ·rw [if_neg c62] at H
             have c62b0 : ((rd x5_1 x99_2) == ((rd_T59 l0 x99_2).f0)) = false := beq_eq_false_iff_ne.mpr c62
             have c62b1 : ((rd x5_1 x99_2) != ((rd_T59 l0 x99_2).f0)) = true := bne_iff_ne.mpr c62
             obtain rfl := Option.some.inj H
             have p197 : 0 ≤ (x99_2 : Int) := of_decide_eq_true (by first | (with_reducible assumption) | assumption)
             have q197 : x99_2 < (l0.length : Int) := of_decide_eq_true (by first | (with_reducible assumption) | assumption)
             obtain ⟨ad197, e197, hx197_0, hx197_1, hx197_2, hx197_3⟩ := at_T59 HR0.out x99_2 p197 q197
             cases e197
             replace hx197_0 := (HB.out.cell (World.block_lt_of_cell? w _ hx197_0)).trans hx197_0
             replace hx197_1 := (HB.out.cell (World.block_lt_of_cell? w _ hx197_1)).trans hx197_1
             replace hx197_2 := (HB.out.cell (World.block_lt_of_cell? w _ hx197_2)).trans hx197_2
             replace hx197_3 := (HB.out.cell (World.block_lt_of_cell? w _ hx197_3)).trans hx197_3
             replace p197 := eq_true p197
             replace q197 := eq_true q197
             try go_wp2_with (first | ((with_reducible refine gate_dst (N := 9) rfl ?_); refine box_event ?hg (N := 9) ?hd (cs := #[.int .i64 0, .int .i64 0, .int .i64 0, .int .i64 0]) (t := 59) ?hr ?_; (case hd => rfl); (case hg => rfl); (case hr => first | (go_simp; done) | (go_simp; rfl)); intro gb198 hg w68 hbox hb; have n0_ := Aside0.mk (Kd.R_below (by (with_reducible repeat (first | apply Kd.R_alloc | apply Kd.R_drewN | apply Kd.R_drew)); exact HO_5.out) hb); have n1_ := Aside0.mk (below_step (by repeat (first | (with_reducible first | exact HB.out | apply below_alloc | apply pw_below_drewN | apply below_drew1) | exact HB.out)) hb); have n2_ := Aside0.mk (hbox); have n3_ := Aside0.mk ((by rw [hg]; exact (below_size (by repeat (first | (with_reducible first | exact HB.out | apply below_alloc | apply pw_below_drewN | apply below_drew1) | exact HB.out))) : w.heap.size ≤ gb198)); have n4_ := Aside0.mk ((by rw [hg]; exact (below_size (by repeat (first | (with_reducible first | exact HB.out | apply below_alloc | apply pw_below_drewN | apply below_drew1) | exact HB.out))) : w.heap.size ≤ gb198)); clear HO_5; clear HB; have HO_5 := n0_; have HB := n1_; have BK198 := n2_; have GW198 := n3_; have GE198 := n4_; clear n0_ n1_ n2_ n3_ n4_; clear hb hbox hg; have hcz69_0 : w68.cell? ⟨gb198, 0, none⟩ = some (.int .i64 0) := (blk_cell BK198.out 0).trans rfl; have hcz69_1 : w68.cell? ⟨gb198, 1, none⟩ = some (.int .i64 0) := (blk_cell BK198.out 1).trans rfl; have hcz69_2 : w68.cell? ⟨gb198, 2, none⟩ = some (.int .i64 0) := (blk_cell BK198.out 2).trans rfl; have hcz69_3 : w68.cell? ⟨gb198, 3, none⟩ = some (.int .i64 0) := (blk_cell BK198.out 3).trans rfl; have hfz69_0 := blk_frozen BK198.out 0; have hfz69_1 := blk_frozen BK198.out 1; have hfz69_2 := blk_frozen BK198.out 2; have hfz69_3 := blk_frozen BK198.out 3))
             have n0_ : Aside0 (Kd.R (Kd.int .i64) 3 ((((w68.setCell ⟨gb198, 0, none⟩ (.int .i64 ((rd_T59 l0 x99_2).f0))).setCell ⟨gb198, 1, none⟩ (.int .i64 ((rd_T59 l0 x99_2).f1))).setCell ⟨gb198, 2, none⟩ (.int .i64 ((rd_T59 l0 x99_2).f2))).setCell ⟨gb198, 3, none⟩ (.int .i64 ((rd_T59 l0 x99_2).f3))) w.heap.size (fun _ => True) v182 x5_1) := ⟨by (with_reducible repeat (first | apply Kd.R_alloc | apply Kd.R_drewN | apply Kd.R_drew)); exact Kd.R_mono (Kd.R_far (p := ⟨gb198, 3, none⟩) (Kd.R_far (p := ⟨gb198, 2, none⟩) (Kd.R_far (p := ⟨gb198, 1, none⟩) (Kd.R_far (p := ⟨gb198, 0, none⟩) (Kd.R_types HO_5.out BK198.out (by decide)) (fun _ hk => hk.2) (.int .i64 ((rd_T59 l0 x99_2).f0))) (fun _ hk => hk.2) (.int .i64 ((rd_T59 l0 x99_2).f1))) (fun _ hk => hk.2) (.int .i64 ((rd_T59 l0 x99_2).f2))) (fun _ hk => hk.2) (.int .i64 ((rd_T59 l0 x99_2).f3))) (fun _ hk => trivial)⟩
             have n1_ : Aside0 (((((w68.setCell ⟨gb198, 0, none⟩ (.int .i64 ((rd_T59 l0 x99_2).f0))).setCell ⟨gb198, 1, none⟩ (.int .i64 ((rd_T59 l0 x99_2).f1))).setCell ⟨gb198, 2, none⟩ (.int .i64 ((rd_T59 l0 x99_2).f2))).setCell ⟨gb198, 3, none⟩ (.int .i64 ((rd_T59 l0 x99_2).f3))).heap[gb198]? = some (.cells #[.int .i64 ((rd_T59 l0 x99_2).f0), .int .i64 ((rd_T59 l0 x99_2).f1), .int .i64 ((rd_T59 l0 x99_2).f2), .int .i64 ((rd_T59 l0 x99_2).f3)] 59 (0, 0))) := ⟨by (with_reducible repeat (first | refine blk_drewN ?_ _ | refine blk_drew ?_ | refine blk_alloc ?_ _)); refine blk_put (cs := #[.int .i64 ((rd_T59 l0 x99_2).f0), .int .i64 ((rd_T59 l0 x99_2).f1), .int .i64 ((rd_T59 l0 x99_2).f2), .int .i64 0]) ?_ 3 _ rfl; (with_reducible repeat (first | refine blk_drewN ?_ _ | refine blk_drew ?_ | refine blk_alloc ?_ _)); refine blk_put (cs := #[.int .i64 ((rd_T59 l0 x99_2).f0), .int .i64 ((rd_T59 l0 x99_2).f1), .int .i64 0, .int .i64 0]) ?_ 2 _ rfl; (with_reducible repeat (first | refine blk_drewN ?_ _ | refine blk_drew ?_ | refine blk_alloc ?_ _)); refine blk_put (cs := #[.int .i64 ((rd_T59 l0 x99_2).f0), .int .i64 0, .int .i64 0, .int .i64 0]) ?_ 1 _ rfl; (with_reducible repeat (first | refine blk_drewN ?_ _ | refine blk_drew ?_ | refine blk_alloc ?_ _)); refine blk_put (cs := #[.int .i64 0, .int .i64 0, .int .i64 0, .int .i64 0]) ?_ 0 _ rfl; (with_reducible repeat (first | refine blk_drewN ?_ _ | refine blk_drew ?_ | refine blk_alloc ?_ _)); exact BK198.out⟩
             have n2_ : Aside0 (Below w.heap.size w ((((w68.setCell ⟨gb198, 0, none⟩ (.int .i64 ((rd_T59 l0 x99_2).f0))).setCell ⟨gb198, 1, none⟩ (.int .i64 ((rd_T59 l0 x99_2).f1))).setCell ⟨gb198, 2, none⟩ (.int .i64 ((rd_T59 l0 x99_2).f2))).setCell ⟨gb198, 3, none⟩ (.int .i64 ((rd_T59 l0 x99_2).f3)))) := ⟨by repeat (first | (with_reducible first | exact HB.out | apply below_alloc | apply pw_below_drewN | apply below_drew1 | refine below_set ?_ GE198.out) | exact HB.out)⟩
             (try clear HO_5)
             (try clear BK198)
             (try clear HB)
             generalize ((((w68.setCell ⟨gb198, 0, none⟩ (.int .i64 ((rd_T59 l0 x99_2).f0))).setCell ⟨gb198, 1, none⟩ (.int .i64 ((rd_T59 l0 x99_2).f1))).setCell ⟨gb198, 2, none⟩ (.int .i64 ((rd_T59 l0 x99_2).f2))).setCell ⟨gb198, 3, none⟩ (.int .i64 ((rd_T59 l0 x99_2).f3))) = w70 at n0_ n1_ n2_ ⊢
             have HO_5 := n0_
             have BK198 := n1_
             have HB := n2_
             clear n0_ n1_ n2_
             have n0_ := Aside0.mk (Kd.R_drew HO_5.out)
             have n1_ := Aside0.mk (blk_drew BK198.out)
             have n2_ := Aside0.mk (below_drew1 HB.out)
             clear HO_5
             clear BK198
             clear HB
             have HO_5 := n0_
             have BK198 := n1_
             have HB := n2_
             clear n0_ n1_ n2_
             obtain ⟨Ao72, co72, eo72⟩ := Kd.R_slice HO_5.out
             (first | subst eo72 | (injection eo72 with f1_ f2_ f3_; have f4_ := f1_.symm; have f5_ := f3_.symm; clear f1_ f2_ f3_; subst f4_; subst f5_))
             have p199 : 0 ≤ (x99_2 : Int) := of_decide_eq_true (by first | (with_reducible assumption) | assumption)
             have q199 : x99_2 < (x5_1.length : Int) := of_decide_eq_true (by first | (with_reducible assumption) | assumption)
             obtain ⟨ad199, e199, hx199_0⟩ := Kd.at_int (Kd.R_reads' HO_5.out).2.2 x99_2 p199 q199
             cases e199
             replace p199 := eq_true p199
             replace q199 := eq_true q199
             refine start_ (n := 7) (S := fun w' => w'.cell? ⟨gb198, 0, none⟩ = some (.int .i64 ((rd_T59 l0 x99_2).f0)) ∧ w'.cell? ⟨gb198, 1, none⟩ = some (.int .i64 ((rd_T59 l0 x99_2).f1)) ∧ w'.cell? ⟨gb198, 2, none⟩ = some (.int .i64 ((rd_T59 l0 x99_2).f2)) ∧ w'.cell? ⟨gb198, 3, none⟩ = some (.int .i64 ((rd_T59 l0 x99_2).f3)) ∧ w'.cell? (ad199.add (x99_2).toNat) = some (.int .i64 (rd x5_1 x99_2))) (ds := []) #[false, false, false, false, false, false, false] (by kernel_rfl) rfl rfl ⟨(blk_cell BK198.out 0).trans rfl, (blk_cell BK198.out 1).trans rfl, (blk_cell BK198.out 2).trans rfl, (blk_cell BK198.out 3).trans rfl, hx199_0⟩ (fun hHeld => ?_)
             generalize w70.drew = w71 at HO_5 BK198 HB hx199_0 hHeld ⊢
             refine pure_ (i := 0) (N := some 104) (v := ?_) (a' := ?_) #[true, false, false, false, false, false, false] rfl rfl (by kernel_rfl) (fun _ _ _ h => h) (Or.inl ⟨by rfl, ?_⟩) ?_ ?_
             rotate_left; (intro w'; go_simp; with_reducible rfl); rotate_left; (simp only [Act.put, sA, sZ, sS, i64_w, i32_w]; rfl)
             refine pure_ (i := 1) (N := some 105) (v := ?_) (a' := ?_) #[true, true, false, false, false, false, false] rfl rfl (by kernel_rfl) (fun _ _ _ h => h) (Or.inl ⟨by rfl, ?_⟩) ?_ ?_
             rotate_left; (intro w'; go_simp; with_reducible rfl); rotate_left; (simp only [Act.put, sA, sZ, sS, i64_w, i32_w]; rfl)
             refine pure_ (i := 2) (N := some 106) (v := ?_) (a' := ?_) #[true, true, true, false, false, false, false] rfl rfl (by kernel_rfl) (fun _ _ _ h => h) (Or.inl ⟨by rfl, ?_⟩) ?_ ?_
             rotate_left; (intro w'; go_simp; with_reducible rfl); rotate_left; (simp only [Act.put, sA, sZ, sS, i64_w, i32_w]; rfl)
             refine pure_ (i := 4) (N := some 108) (v := ?_) (a' := ?_) #[true, true, true, false, true, false, false] rfl rfl (by kernel_rfl) (fun _ _ _ h => h) (Or.inl ⟨by rfl, ?_⟩) ?_ ?_
             rotate_left; (intro w'; go_simp; with_reducible rfl); rotate_left; (simp only [Act.put, sA, sZ, sS, i64_w, i32_w]; rfl)
             refine take_ (i := 3) (N := some 107) (v := ?_) (a' := ?_) #[true, true, true, true, true, false, false] rfl rfl (by kernel_rfl) (fun _ _ _ h => h) (Or.inl ⟨by rfl, ?_⟩) hHeld ?_ ?_
             rotate_left
             ·rintro w' ⟨s0, s1, s2, s3, s4⟩
              go_simp
              with_reducible rfl
             rotate_left
             ·simp only [Act.put, sA, sZ, sS, i64_w, i32_w]
              rfl
             refine take_ (i := 5) (N := some 109) (v := ?_) (a' := ?_) #[true, true, true, true, true, true, false] rfl rfl (by kernel_rfl) (fun _ _ _ h => h) (Or.inl ⟨by rfl, ?_⟩) hHeld ?_ ?_
             rotate_left
             ·rintro w' ⟨s0, s1, s2, s3, s4⟩
              go_simp
              with_reducible rfl
             rotate_left
             ·simp only [Act.put, sA, sZ, sS, i64_w, i32_w]
              rfl
             refine pure_ (i := 6) (N := some 110) (v := ?_) (a' := ?_) #[true, true, true, true, true, true, true] rfl rfl (by kernel_rfl) (fun _ _ _ h => h) (Or.inl ⟨by rfl, ?_⟩) ?_ ?_
             rotate_left; (intro w'; go_simp; with_reducible rfl); rotate_left; (simp only [Act.put, sA, sZ, sS, i64_w, i32_w]; rfl)
             refine done_ (by kernel_rfl) ?_
             try go_wp2
             go_ret
             exact ⟨by first | rfl | (simp [errW_none, errW_some] <;> rfl) | (simp [*, errW_none, errW_some] <;> rfl), by repeat (first | (with_reducible first | exact HB.out | apply below_alloc | apply pw_below_drewN | apply below_drew1 | refine below_set ?_ GE198.out) | exact HB.out)⟩
           ·rw [if_neg c61] at H
            exact absurd H (by simp)
          ·rw [if_neg c60] at H
           exact absurd H (by simp)
         ·rw [if_neg c59] at H
          exact absurd H (by simp)
        ·rw [if_neg c58] at H
         have c58b0 : decide (x99_2 < (l0.length : Int)) = false := decide_eq_false c58
         clear c58
         obtain rfl := Option.some.inj H
         go_wp2
         go_ret
         exact ⟨by first | rfl | (simp [errW_none, errW_some] <;> rfl) | (simp [*, errW_none, errW_some] <;> rfl), by repeat (first | (with_reducible first | exact HB.out | apply below_alloc | apply pw_below_drewN | apply below_drew1) | exact HB.out)⟩
  ·rw [if_neg c4] at H
   exact absurd H (by simp)
 ·rw [if_neg c3] at H
  exact absurd H (by simp)

end Go.Proofs.Ythhmembnhnghiaa.OFnExactSplitValue
