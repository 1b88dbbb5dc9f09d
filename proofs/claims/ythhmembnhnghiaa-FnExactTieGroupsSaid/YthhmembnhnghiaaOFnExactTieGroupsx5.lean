/- Functions of the program as plain Lean functions, with their contracts: written by this session's program ownprint.py. Conditions: none. -/
import Derived.Test.YthhmembnhnghiaaOFnExactTieGroupsx0
import Derived.Test.YthhmembnhnghiaaOFnExactTieGroupsx2
import Derived.Test.YthhmembnhnghiaaOFnExactTieGroupsx3
import Derived.Test.YthhmembnhnghiaaOFnExactTieGroupsx4
namespace Go.Proofs.Ythhmembnhnghiaa.OFnExactTieGroups
open Go.RowKit Go.Proofs.YthhmembnhnghiaaW.PrintWords Go.Proofs.YthhmembnhnghiaaW.PrintLast Go.Proofs.YthhmembnhnghiaaW.PrintMore
attribute [local go_sem] max2_int min2_int max_two min_two max_three min_three max_four min_four   -- for this text's walks alone
set_option linter.unusedVariables false
set_option linter.unusedSimpArgs false

/-! ### spec_l3Groups: function 65 -/
def spec_l3Groups.l0 : Nat → List (S59) → Int → List (List Int) → List Int → Int → Option ((List (List Int)))
 | 0, _, _, _, _, _ => none
 | k + 1, x0, x1, x5, x6, x7 => if x7 < (x6.length : Int) then (if (wrap64 ((x5.length : Int) - 1)) ≥ 0 then (if 0 ≤ (wrap64 ((x5.length : Int) - 1)) then (if (wrap64 ((x5.length : Int) - 1)) < (x5.length : Int) then (if 0 < ((rd_L3 x5 (wrap64 ((x5.length : Int) - 1))).length : Int) then (if 0 ≤ x7 then ((spec_l3Gap.f x0 x1 (rd (rd_L3 x5 (wrap64 ((x5.length : Int) - 1))) 0) (rd x6 x7)).bind fun t193 => (if t193 = 0 then (if (rd_L3 x5 (wrap64 ((x5.length : Int) - 1))).length < 17592186044416 then (spec_l3Groups.l0 k x0 x1 (x5.set ((wrap64 ((x5.length : Int) - 1)) : Int).toNat ((rd_L3 x5 (wrap64 ((x5.length : Int) - 1))) ++ [rd x6 x7])) x6 (wrap64 (x7 + 1))) else (none)) else (if x5.length < 5864062014805 then (spec_l3Groups.l0 k x0 x1 (x5 ++ [(([rd x6 x7] : List Int))]) x6 (wrap64 (x7 + 1))) else (none)))) else (none)) else (none)) else (none)) else (none)) else (if 0 ≤ x7 then (if x5.length < 5864062014805 then (spec_l3Groups.l0 k x0 x1 (x5 ++ [(([rd x6 x7] : List Int))]) x6 (wrap64 (x7 + 1))) else (none)) else (none))) else (some x5)
def spec_l3Groups.f (k : Nat) (l0 : List (S59)) (a1 : Int) : Option ((List (List Int))) := (spec_l3Order.f k l0 a1).bind fun t187 => (spec_l3Groups.l0 k l0 a1 (([] : List (List Int))) t187 0)
theorem spec_l3Groups.mono_l : ∀ k, (∀ y0 y1 y2 y3 y4, LeO (spec_l3Groups.l0 k y0 y1 y2 y3 y4) (spec_l3Groups.l0 (k + 1) y0 y1 y2 y3 y4))
 | 0 => fun _ _ _ _ _ r h => by simp [spec_l3Groups.l0] at h
 | k + 1 => by
  have ih0 := spec_l3Groups.mono_l k
  ·intro y0 y1 y2 y3 y4
   unfold spec_l3Groups.l0
   repeat' first
   | (with_reducible exact ih0 _ _ _ _ _)
   | (with_reducible exact spec_l3Order.mono _ _ _)
   | (with_reducible exact LeO.refl _)
   | (with_reducible exact LeO.none _)
   | (with_reducible refine LeO.ite ?_ ?_)
   | (with_reducible refine LeO.bind ?_ (fun _ => ?_))
   | exact ih0 _ _ _ _ _
   | exact spec_l3Order.mono _ _ _
   | exact LeO.none _
   | refine LeO.ite ?_ ?_
   | refine LeO.bind ?_ (fun _ => ?_)
theorem spec_l3Groups.mono : ∀ a0 a1 k, LeO (spec_l3Groups.f k a0 a1) (spec_l3Groups.f (k + 1) a0 a1) := by
 intro a0 a1 k
 have ih0 := spec_l3Groups.mono_l k
 unfold spec_l3Groups.f
 repeat' first
   | (with_reducible exact ih0 _ _ _ _ _)
   | (with_reducible exact spec_l3Order.mono _ _ _)
   | (with_reducible exact LeO.refl _)
   | (with_reducible exact LeO.none _)
   | (with_reducible refine LeO.ite ?_ ?_)
   | (with_reducible refine LeO.bind ?_ (fun _ => ?_))
   | exact ih0 _ _ _ _ _
   | exact spec_l3Order.mono _ _ _
   | exact LeO.none _
   | refine LeO.ite ?_ ?_
   | refine LeO.bind ?_ (fun _ => ?_)
def spec_l3Groups.T7 : Bool × List (List Nat × List Nat) := (true, [([], []), ([0], [0]), ([1], [1]), ([2], [2]), ([2], [2]), ([2], [2]), ([2], [2]), ([5, 6, 2], [2, 5, 6]), ([7, 2], [2, 7]), ([8, 2], [2, 8]), ([9, 2], [2, 9]), ([2], [2]), ([2], [2]), ([11, 12, 2], [2, 11, 12]), ([13, 2], [2, 13]), ([3, 4, 10, 14, 2, 2], [2, 3, 4, 10, 14]), ([15, 2], [2, 15]), ([2, 16], [2, 16])])
def spec_l3Groups.B7 : List Nat := [0, 1, 3, 7, 7, 7, 7, 103, 231, 487, 999, 7, 7, 6151, 14343, 32767, 65535, 131071]
theorem spec_l3Groups.tab7 : rtab .any (opsOf Try.f65 7) = spec_l3Groups.T7 := by kernel_rfl
theorem spec_l3Groups.bits7 : waitsOk spec_l3Groups.T7.2 spec_l3Groups.B7 = true := by kernel_rfl
def spec_l3Groups.T8 : Bool × List (List Nat × List Nat) := (true, [([], []), ([], []), ([], []), ([], []), ([2, 3], [2, 3]), ([4], [4]), ([], []), ([], []), ([6, 7], [6, 7]), ([8], [8]), ([9], [9]), ([5, 10], [5, 10]), ([0, 1, 0, 1, 2, 3, 4, 5, 6, 7, 8, 9, 10, 11], [0, 1]), ([12, 11, 11, 0, 1, 2, 3, 4, 5, 6, 7, 8, 9, 10, 11], [11, 12])])
def spec_l3Groups.B8 : List Nat := [0, 0, 0, 0, 12, 28, 0, 0, 192, 448, 960, 2044, 4095, 8191]
theorem spec_l3Groups.tab8 : rtab .any (opsOf Try.f65 8) = spec_l3Groups.T8 := by kernel_rfl
theorem spec_l3Groups.bits8 : waitsOk spec_l3Groups.T8.2 spec_l3Groups.B8 = true := by kernel_rfl
set_option maxHeartbeats 8000000 in
set_option maxRecDepth 100000 in
theorem spec_l3Groups.calls (k : Nat) (A0 : Option Addr) (c0 : Nat) (l0 : List (S59)) (a1 : Int) (r : List (List Int)) (w : World) (hr0 : Kd.C k59 w A0 l0.length l0) (hc0 : l0.length ≤ c0) (h : spec_l3Groups.f k l0 a1 = some r) :
  Calls Try.prog 65 #[.slice A0 l0.length c0, .int .i64 a1] w fun e w' => ∃ v0_ : Value, e = .returned (v0_) ∧ Kd.S (Kd.slice 3 (Kd.int .i64)) 37 w' w.heap.size (fun _ => True) v0_ r ∧ Below w.heap.size w w' := by
 have HR0 := Aside0.mk hr0
 have HC0 := Aside0.mk hc0
 clear hr0 hc0
 have HB := Aside0.mk (Below.refl w.heap.size w)
 have H : ((spec_l3Order.f k l0 a1).bind fun t187 => (spec_l3Groups.l0 k l0 a1 (([] : List (List Int))) t187 0)) = some r := h
 clear h
 obtain ⟨y184, hy184⟩ : ∃ y_ : List (List Int), y_ = (([] : List (List Int))) := ⟨_, rfl⟩
 replace H : ((spec_l3Order.f k l0 a1).bind fun t187 => (spec_l3Groups.l0 k l0 a1 y184 t187 0)) = some r := by first | (rw [hy184]; with_reducible exact H) | (have H2_ := (Option.bind_some _ _).symm.trans H; rw [hy184]; with_reducible exact H2_) | (have H2_ := (Option.bind_some _ _).symm.trans H; with_reducible exact H2_) | with_reducible exact H | (rw [hy184]; exact H) | exact H
 have Ny184 := Aside0.mk hy184
 clear hy184
 replace H := Option.bind_eq_some_iff.mp H
 obtain ⟨t187, A30, H⟩ := H
 replace H : (spec_l3Groups.l0 k l0 a1 y184 t187 0) = some r := H
 have A3 := Aside0.mk A30
 clear A30
 have H' := Aside0.mk H
 clear H
 go_enter Try.func65, Try.ntmps65
 go_wp2_with (first | ((with_reducible refine gate_dst (N := 9) rfl ?_); refine Kd.S_lit (Kd.slice 3 (Kd.int .i64)) _ 37 ?hg (N := 9) ?hd (xs := ([] : List (List Int))) (inner := []) (ok := fun _ => True) (okp := fun _ => True) ?hr ?hp (fun _ hk => hk) trivial (Below.refl _ _) (Nat.le_refl _) (by simp) ?_; (case hd => rfl); (case hg => rfl); (case hr => first | (go_simp; done) | (go_simp; rfl)); (case hp => exact (Reps.none _ _)); intro v185 w4 ho5 hb hg_ hnew_; clear hg_ hnew_; (first | rw [← Ny184.out] at ho5 | (simp only [Int.reduceToNat] at ho5; rw [← Ny184.out] at ho5)); have n0_ := Aside0.mk (Kd.S_lower ho5 (below_size bB)); have n1_ := Aside0.mk (below_step bB hb); clear HB; have HO186 := n0_; have HB := n1_; clear n0_ n1_; clear hb ho5) | ((with_reducible refine gate_callee (f := 118) rfl ?_); refine goesL_ (some 12) rfl rfl Try.func118 (by kernel_rfl) rfl #[.slice A0 l0.length c0, .int .i64 a1] rfl aE ?_; (with_reducible refine (spec_l3Order.calls k _ _ l0 a1 t187 _ ?side1 ?side2 A3.out).mono ?_); (case side1 => repeat (first | exact (Kd.C_below HR0.out HB.out) | (with_reducible refine Kd.C_alloc ?_ _) | (with_reducible refine Kd.C_drewN ?_ _) | (with_reducible refine Kd.C_drew ?_))); (case side2 => exact HC0.out); rintro e w6 ⟨v188, rfl, ho0, hb⟩; refine ⟨_, rfl, ?_⟩; have n0_ := Aside0.mk (Kd.S_elder' (by (with_reducible repeat (first | apply Kd.S_alloc | apply Kd.S_drewN | apply Kd.S_drew)); exact HO186.out) (Kd.R_base ho0) hb); have n1_ := Aside0.mk (Kd.R_lower ho0 (below_size bB)); have n2_ := Aside0.mk (below_step bB hb); clear HO186; clear HB; have HO186 := n0_; have HO189 := n1_; have HB := n2_; clear n0_ n1_ n2_; (try clear hb); (try clear hk); (try clear ho0)))
 go_loopg [5, 7] k (fun kq v5 v7 w' => ∃ (x5_1 : List (List Int)) (x7_1 : Int), v7 = .int .i64 x7_1 ∧ Aside0 (spec_l3Groups.l0 kq l0 a1 x5_1 t187 x7_1 = some r) ∧ Aside0 (kq ≤ k) ∧ Aside0 (Kd.S (Kd.slice 3 (Kd.int .i64)) 37 w' w.heap.size (fun k_ => some k_ ≠ (v188 : Value).ownBlock) v5 x5_1) ∧ Aside0 (Kd.R (Kd.int .i64) 3 w' w.heap.size (fun _ => True) v188 t187) ∧ Aside0 (Below w.heap.size w w'))
 case atStart => exact ⟨(y184), (0), sD, H', ⟨Nat.le_refl _⟩, ⟨by (with_reducible repeat (first | apply Kd.S_alloc | apply Kd.S_drewN | apply Kd.S_drew)); exact Kd.S_mono HO186.out (fun _ hk => hk.2)⟩, ⟨kR⟩, ⟨by repeat (first | (with_reducible first | exact HB.out | apply below_alloc | apply pw_below_drewN | apply below_drew1) | exact HB.out)⟩⟩
 case round =>
  clear H'
  try clear c1
  try clear p2
  try clear c6
  obtain ⟨x5_1, x7_1, rfl, HA, HK1, HO_5, HO_6, HB⟩ := hrel
  cases gk with
  | zero => exact absurd HA.out (by simp [spec_l3Groups.l0])
  | succ k1 =>
   have H := HA.out
   clear HA
   simp only [spec_l3Groups.l0] at H
   by_cases c7 : x7_1 < (t187.length : Int)
   ·rw [if_pos c7] at H
    have c7b0 : decide (x7_1 < (t187.length : Int)) = true := decide_eq_true c7
    clear c7
    by_cases c8 : (wrap64 ((x5_1.length : Int) - 1)) ≥ 0
    ·rw [if_pos c8] at H
     have c8b0 : decide (0 ≤ (wrap64 ((x5_1.length : Int) - 1))) = true := decide_eq_true c8
     clear c8
     obtain ⟨ji9, hji9⟩ : ∃ j_ : Int, (wrap64 ((x5_1.length : Int) - 1)) = j_ := ⟨_, rfl⟩
     replace H : (if 0 ≤ (ji9) then (if (ji9) < (x5_1.length : Int) then (if 0 < ((rd_L3 x5_1 (ji9)).length : Int) then (if 0 ≤ x7_1 then ((spec_l3Gap.f l0 a1 (rd (rd_L3 x5_1 (ji9)) 0) (rd t187 x7_1)).bind fun t193 => (if t193 = 0 then (if (rd_L3 x5_1 (ji9)).length < 17592186044416 then (spec_l3Groups.l0 k1 l0 a1 (x5_1.set ((ji9) : Int).toNat ((rd_L3 x5_1 (ji9)) ++ [rd t187 x7_1])) t187 (wrap64 (x7_1 + 1))) else (none)) else (if x5_1.length < 5864062014805 then (spec_l3Groups.l0 k1 l0 a1 (x5_1 ++ [(([rd t187 x7_1] : List Int))]) t187 (wrap64 (x7_1 + 1))) else (none)))) else (none)) else (none)) else (none)) else (none)) = some r := by first | (rw [hji9] at H; exact H) | (simp only [hji9] at H ⊢; exact H)
     (try rw [hji9] at c8b0)
     have hji9w : (IntKind.i64.wrap ((x5_1.length : Int) - 1)) = ji9 := (i64_w _).trans hji9
     by_cases c10 : 0 ≤ (ji9); rotate_left
     ·rw [if_neg c10] at H; exact absurd H (by simp)
     rw [if_pos c10] at H
     have c10b0 : decide (0 ≤ (ji9)) = true := decide_eq_true c10
     clear c10
     by_cases c11 : (ji9) < (x5_1.length : Int); rotate_left
     ·rw [if_neg c11] at H; exact absurd H (by simp)
     rw [if_pos c11] at H
     have c11b0 : decide ((ji9) < (x5_1.length : Int)) = true := decide_eq_true c11
     clear c11
     by_cases c12 : 0 < ((rd_L3 x5_1 (ji9)).length : Int); rotate_left
     ·rw [if_neg c12] at H; exact absurd H (by simp)
     rw [if_pos c12] at H
     have c12b0 : decide (0 < ((rd_L3 x5_1 (ji9)).length : Int)) = true := decide_eq_true c12
     have c12b1 : decide (0 < (rd_L3 x5_1 (ji9)).length) = true := decide_eq_true (by omega)
     clear c12
     by_cases c13 : 0 ≤ x7_1; rotate_left
     ·rw [if_neg c13] at H; exact absurd H (by simp)
     rw [if_pos c13] at H
     have c13b0 : decide (0 ≤ x7_1) = true := decide_eq_true c13
     clear c13
     replace H := Option.bind_eq_some_iff.mp H
     obtain ⟨t193, A140, H⟩ := H
     replace H : (if t193 = 0 then (if (rd_L3 x5_1 (ji9)).length < 17592186044416 then (spec_l3Groups.l0 k1 l0 a1 (x5_1.set ((ji9) : Int).toNat ((rd_L3 x5_1 (ji9)) ++ [rd t187 x7_1])) t187 (wrap64 (x7_1 + 1))) else (none)) else (if x5_1.length < 5864062014805 then (spec_l3Groups.l0 k1 l0 a1 (x5_1 ++ [(([rd t187 x7_1] : List Int))]) t187 (wrap64 (x7_1 + 1))) else (none))) = some r := H
     have A14 := Aside0.mk A140
     clear A140
     by_cases c15 : t193 = 0
     ·rw [if_pos c15] at H
      have c15b0 : (t193 == 0) = true := beq_iff_eq.mpr c15
      have c15b1 : (t193 != 0) = false := bne_eq_false_iff_eq.mpr c15
      clear c15
      by_cases c16 : (rd_L3 x5_1 (ji9)).length < 17592186044416; rotate_left
      ·rw [if_neg c16] at H; exact absurd H (by simp)
      rw [if_pos c16] at H
      have LMc16 := Aside0.mk c16
      clear c16
      obtain ⟨y196, hy196⟩ : ∃ y_ : List Int, y_ = ((rd_L3 x5_1 (ji9)) ++ [rd t187 x7_1]) := ⟨_, rfl⟩
      replace H : (spec_l3Groups.l0 k1 l0 a1 (x5_1.set ((ji9) : Int).toNat y196) t187 (wrap64 (x7_1 + 1))) = some r := by first | (rw [hy196]; with_reducible exact H) | (have H2_ := (Option.bind_some _ _).symm.trans H; rw [hy196]; with_reducible exact H2_) | (have H2_ := (Option.bind_some _ _).symm.trans H; with_reducible exact H2_) | with_reducible exact H | (rw [hy196]; exact H) | exact H
      have Ny196 := Aside0.mk hy196
      clear hy196
      obtain ⟨y199, hy199⟩ : ∃ y_ : List (List Int), y_ = (x5_1.set ((ji9) : Int).toNat y196) := ⟨_, rfl⟩
      replace H : (spec_l3Groups.l0 k1 l0 a1 y199 t187 (wrap64 (x7_1 + 1))) = some r := by first | (rw [hy199]; with_reducible exact H) | (have H2_ := (Option.bind_some _ _).symm.trans H; rw [hy199]; with_reducible exact H2_) | (have H2_ := (Option.bind_some _ _).symm.trans H; with_reducible exact H2_) | with_reducible exact H | (rw [hy199]; exact H) | exact H
      have Ny199 := Aside0.mk hy199
      clear hy199
      have H' := Aside0.mk H
      clear H
      obtain ⟨Ao18, co18, eo18⟩ := Kd.R_slice HO_6.out
      subst eo18
      obtain ⟨Ao19, co19, eo19⟩ := Kd.S_slice HO_5.out
      subst eo19
      try go_wp2
      have n0_ := Aside0.mk (Kd.S_drew HO_5.out)
      have n1_ := Aside0.mk (Kd.R_drew HO_6.out)
      have n2_ := Aside0.mk (below_drew1 HB.out)
      clear HO_5
      clear HO_6
      clear HB
      have HO_5 := n0_
      have HO_6 := n1_
      have HB := n2_
      clear n0_ n1_ n2_
      have p190 : 0 ≤ ((ji9) : Int) := oD
      have q190 : (ji9) < (x5_1.length : Int) := oD
      obtain ⟨ad190, A190_0, c190_0, e190, hx190_0, hl190_0, hi190_0⟩ := at_L3 (Kd.S_reads' HO_5.out).2.2 (ji9) p190 q190
      cases e190
      obtain ⟨ce190, hce190, hMe190, hcc190⟩ := Kd.S_get HO_5.out [] (ji9) p190 (by first | exact q190 | exact oD | (have e_ := (Kd.S_reads' HO_5.out).1; omega))
      obtain ⟨ve190_0, rfl, ge190_0⟩ := hMe190
      have hv190_0 := hcc190 0 _ rfl
      rw [Nat.add_zero, show ((Kd.slice 3 (Kd.int .i64))).sz = 1 from rfl, Nat.mul_one] at hv190_0
      replace hv190_0 := Option.some.inj (hv190_0.symm.trans hx190_0)
      rw [hv190_0] at ge190_0
      have HL190_0 := Aside0.mk (show Kd.R (Kd.int .i64) 3 _ _ _ _ (rd_L3 x5_1 (ji9)) from ge190_0)
      clear hv190_0 ge190_0
      have HX190_0 := Aside0.mk hx190_0
      clear hcc190 hce190
      have HR190_0 := Aside0.mk hi190_0
      have HC190_0 := Aside0.mk hl190_0
      clear hi190_0 hl190_0
      replace p190 := eq_true p190
      replace q190 := eq_true q190
      have p191 : 0 ≤ (0 : Int) := (by omega)
      have q191 : 0 < ((rd_L3 x5_1 (ji9)).length : Int) := oD
      obtain ⟨ad191, e191, hx191_0⟩ := Kd.at_int (by repeat (first | (with_reducible exact HR190_0.out) | (with_reducible refine Kd.C_alloc ?_ _) | (with_reducible refine Kd.C_drewN ?_ _) | (with_reducible refine Kd.C_drew ?_) | exact HR190_0.out)) 0 p191 q191
      cases e191
      have qi191 : (0 < (rd_L3 x5_1 (ji9)).length) = True := eq_true (by omega)
      (try rw [show ((0 : Int)).toNat = 0 from rfl] at hx191_0)
      (try rw [Addr.add_zero'] at hx191_0)
      replace p191 := eq_true p191
      replace q191 := eq_true q191
      have p192 : 0 ≤ (x7_1 : Int) := oD
      have q192 : x7_1 < (t187.length : Int) := oD
      obtain ⟨ad192, e192, hx192_0⟩ := Kd.at_int (Kd.R_reads' HO_6.out).2.2 x7_1 p192 q192
      cases e192
      replace p192 := eq_true p192
      replace q192 := eq_true q192
      refine start_ (n := 18) (S := fun w' => w'.cell? (ad190.add ((ji9)).toNat) = some (.slice (some ad191) (rd_L3 x5_1 (ji9)).length c190_0) ∧ w'.cell? ad191 = some (.int .i64 (rd (rd_L3 x5_1 (ji9)) 0)) ∧ w'.cell? (ad192.add (x7_1).toNat) = some (.int .i64 (rd t187 x7_1))) (ds := []) (bA 18 0) (by kernel_rfl) rfl rfl ⟨hx190_0, hx191_0, hx192_0⟩ (fun hHeld => ?_); refine with_tabW spec_l3Groups.tab7 spec_l3Groups.bits7 (fun HT_ HW_ => ?_)
      generalize wr.drew = w20 at HO_5 HO_6 HB HL190_0 HR190_0 HX190_0 hx190_0 hx191_0 hx192_0 hHeld ⊢
      refine pU 0 22 (bA 18 1) ?_
      refine pU 1 23 (bA 18 3) ?_
      refine pU 2 24 (bA 18 7) ?_
      refine pU 3 25 (bA 18 15) ?_
      refine pU 4 26 (bA 18 31) ?_
      refine pU 5 27 (bA 18 63) ?_
      refine pU 6 28 (bA 18 127) ?_
      refine pU 7 29 (bA 18 255) ?_
      refine pU 11 33 (bA 18 2303) ?_
      refine pU 12 34 (bA 18 6399) ?_
      refine pU 13 35 (bA 18 14591) ?_
      refine tU 8 30 (bA 18 14847) ?_
      refine pU 9 31 (bA 18 15359) ?_
      refine tU 10 32 (bA 18 16383) ?_
      refine tU 14 36 (bA 18 32767) ?_
      refine one_ (i := 15) (N := some 37) (bA 18 65535) rfl rfl (one_of HT_.out (by kernel_rfl)) (by decide) (fun K hK => ?_)
      refine goes_ Try.func119 (by kernel_rfl) rfl #[.slice A0 l0.length c0, .int .i64 a1, .int .i64 (rd (rd_L3 x5_1 (ji9)) 0), .int .i64 (rd t187 x7_1)] (by rfl) rfl rfl (by (try simp only [List.map_toArray, List.map_cons, List.map_nil]); first | done | (simp only [hji9]; rfl) | rfl | (simp only [List.length_drop, List.length_take]; rfl)) ?_
      with_reducible refine (spec_l3Gap.calls _ _ l0 a1 (rd (rd_L3 x5_1 (ji9)) 0) (rd t187 x7_1) t193 _ ?side1 ?side2 A14.out).mono ?_
      (case side1 => repeat (first | exact (Kd.C_below HR0.out HB.out) | (with_reducible refine Kd.C_alloc ?_ _) | (with_reducible refine Kd.C_drewN ?_ _) | (with_reducible refine Kd.C_drew ?_)))
      (case side2 => exact HC0.out)
      rintro e w21 ⟨rfl, hb⟩
      have HS0_ := (hb.cell (World.block_lt_of_cell? _ _ (hHeld.1))).trans (hHeld.1)
      have HS1_ := (hb.cell (World.block_lt_of_cell? _ _ (hHeld.2.1))).trans (hHeld.2.1)
      have HS2_ := (hb.cell (World.block_lt_of_cell? _ _ (hHeld.2.2))).trans (hHeld.2.2)
      refine ⟨_, rfl, ?_⟩
      have n0_ := Aside0.mk (Kd.S_below (by (with_reducible repeat (first | apply Kd.S_alloc | apply Kd.S_drewN | apply Kd.S_drew)); exact HO_5.out) hb)
      have n1_ := Aside0.mk (Kd.R_below (by (with_reducible repeat (first | apply Kd.R_alloc | apply Kd.R_drewN | apply Kd.R_drew)); exact HO_6.out) hb)
      have n2_ := Aside0.mk (Kd.R_below (by (with_reducible repeat (first | apply Kd.R_alloc | apply Kd.R_drewN | apply Kd.R_drew)); exact HL190_0.out) hb)
      have n3_ := Aside0.mk (Kd.C_below (by repeat (first | (with_reducible exact HR190_0.out) | (with_reducible refine Kd.C_alloc ?_ _) | (with_reducible refine Kd.C_drewN ?_ _) | (with_reducible refine Kd.C_drew ?_) | exact HR190_0.out)) hb)
      have n4_ := Aside0.mk (pw_cell_below hb HX190_0.out)
      have n5_ := Aside0.mk (below_step bB hb)
      clear HO_5
      clear HO_6
      clear HL190_0
      clear HR190_0
      clear HX190_0
      clear HB
      have HO_5 := n0_
      have HO_6 := n1_
      have HL190_0 := n2_
      have HR190_0 := n3_
      have HX190_0 := n4_
      have HB := n5_
      clear n0_ n1_ n2_ n3_ n4_ n5_
      (try clear hb)
      (try clear hk)
      refine hK.out _ _ ⟨HS0_, HS1_, HS2_⟩ (fun hHeld => ?_)
      clear hK K
      refine norm_ (a' := ?_) ?_ ?_
      rotate_left
      ·show Act.put _ (some 37) _ = _
       simp only [Act.put, sA, sZ, sS, i64_w, i32_w]
       rfl
      refine pU 16 38 (bA 18 131071) ?_
      refine pU 17 39 (bA 18 262143) ?_
      refine done_ (done_of HT_.out (by kernel_rfl)) ?_
      try go_wp2
      have n0_ := Aside0.mk (Kd.S_drew HO_5.out)
      have n1_ := Aside0.mk (Kd.R_drew HO_6.out)
      have n2_ := Aside0.mk (Kd.R_drew HL190_0.out)
      have n3_ := Aside0.mk (Kd.C_drew HR190_0.out)
      have n4_ := Aside0.mk (below_drew1 HB.out)
      clear HO_5
      clear HO_6
      clear HL190_0
      clear HR190_0
      clear HB
      have HO_5 := n0_
      have HO_6 := n1_
      have HL190_0 := n2_
      have HR190_0 := n3_
      have HB := n4_
      clear n0_ n1_ n2_ n3_ n4_
      have p194 : 0 ≤ ((ji9) : Int) := oD
      have q194 : (ji9) < (x5_1.length : Int) := oD
      obtain ⟨ad194, A194_0, c194_0, e194, hx194_0, hl194_0, hi194_0⟩ := at_L3 (Kd.S_reads' HO_5.out).2.2 (ji9) p194 q194
      obtain rfl : ad190 = ad194 := (by injection e194)
      obtain ⟨ce194, hce194, hMe194, hcc194⟩ := Kd.S_get HO_5.out [] (ji9) p194 (by first | exact q194 | exact oD | (have e_ := (Kd.S_reads' HO_5.out).1; omega))
      obtain ⟨ve194_0, rfl, ge194_0⟩ := hMe194
      have hv194_0 := hcc194 0 _ rfl
      rw [Nat.add_zero, show ((Kd.slice 3 (Kd.int .i64))).sz = 1 from rfl, Nat.mul_one] at hv194_0
      replace hv194_0 := Option.some.inj (hv194_0.symm.trans hx194_0)
      rw [hv194_0] at ge194_0
      have HL194_0 := Aside0.mk (show Kd.R (Kd.int .i64) 3 _ _ _ _ (rd_L3 x5_1 (ji9)) from ge194_0)
      clear hv194_0 ge194_0
      have HX194_0 := Aside0.mk hx194_0
      clear hcc194 hce194
      have HR194_0 := Aside0.mk hi194_0
      have HC194_0 := Aside0.mk hl194_0
      clear hi194_0 hl194_0
      replace p194 := eq_true p194
      replace q194 := eq_true q194
      have p195 : 0 ≤ (x7_1 : Int) := oD
      have q195 : x7_1 < (t187.length : Int) := oD
      obtain ⟨ad195, e195, hx195_0⟩ := Kd.at_int (Kd.R_reads' HO_6.out).2.2 x7_1 p195 q195
      obtain rfl : ad192 = ad195 := (by injection e195)
      replace p195 := eq_true p195
      replace q195 := eq_true q195
      obtain ⟨go23, co23, eo23, gb23, gl23, cl23, HG23⟩ := Kd.S_form HO_5.out (by have h_ : ((ji9) : Int) < ((x5_1.length : Int) : Int) := oD; have h2_ : 0 ≤ ((ji9) : Int) := (oD); omega)
      (first | cases eo23 | (injection eo23 with ea_ en_ ec_; (first | subst ea_ | (injection ea_ with ea_; subst ea_)); subst ec_; clear en_))
      have GB23 := Aside0.mk gb23
      have GG23 := Aside0.mk HG23
      clear gb23 gl23 HG23
      (first | simp only [add_plain] at hx190_0 | skip)
      (first | simp only [add_plain] at hx194_0 | skip)
      obtain ⟨oki23, ce23, hcl23, hM23, hcc23, _, _, hH23⟩ := Kd.S_elem HO_5.out [] ((ji9) : Int) (oD) (by have h_ : ((ji9) : Int) < ((x5_1.length : Int) : Int) := oD; first | exact h_ | (have e_ := (Kd.S_reads' HO_5.out).1; omega) | simpa using h_)
      obtain ⟨ve23_0, rfl, ge23_0⟩ := hM23
      have hv23 := hcc23 0 _ rfl
      have hX23 := HX194_0.out
      (try simp only [add_plain] at hX23)
      (try simp only [Nat.add_zero] at hv23)
      (try rw [show ((Kd.slice 3 (Kd.int .i64))).sz = 1 from rfl, Nat.mul_one] at hv23)
      replace hv23 := Option.some.inj (hv23.symm.trans hX23)
      subst hv23
      clear hX23 hcc23 hcl23
      have UU23 := Aside0.mk (show Kd.R (Kd.int .i64) 3 _ w.heap.size oki23 (.slice A194_0 (rd_L3 x5_1 (ji9)).length c194_0) (rd_L3 x5_1 (ji9)) from ge23_0)
      have HH23 := Aside0.mk hH23
      have HN23 := Aside0.mk (Kd.S_reads' HO_5.out).1
      clear hH23 ge23_0
      refine start_ (n := 14) (S := fun w' => w'.cell? ⟨go23, ((ji9)).toNat, none⟩ = some (.slice A194_0 (rd_L3 x5_1 (ji9)).length c194_0) ∧ w'.cell? (ad192.add (x7_1).toNat) = some (.int .i64 (rd t187 x7_1))) (ds := [11, 13]) (bA 14 0) (by kernel_rfl) rfl rfl ⟨hx194_0, hx195_0⟩ (fun hHeld => ?_); refine with_tabW spec_l3Groups.tab8 spec_l3Groups.bits8 (fun HT_ HW_ => ?_)
      generalize w21.drew = w22 at HO_5 HO_6 HL190_0 HR190_0 HB GG23 HH23 HL194_0 HR194_0 HX194_0 UU23 hx190_0 hx194_0 hx195_0 hHeld ⊢
      refine pU 0 40 (bA 14 1) ?_
      refine pU 1 41 (bA 14 3) ?_
      refine pU 2 42 (bA 14 7) ?_
      refine pU 3 43 (bA 14 15) ?_
      refine pU 4 44 (bA 14 31) ?_
      refine pU 6 46 (bA 14 95) ?_
      refine pU 7 47 (bA 14 223) ?_
      refine pU 8 48 (bA 14 479) ?_
      refine tU 5 45 (bA 14 511) ?_
      refine tU 9 49 (bA 14 1023) ?_
      refine one_ (i := 10) (N := some 50) (bA 14 2047) rfl rfl (one_of HT_.out (by kernel_rfl)) (by decide) (fun K hK => ?_)
      refine value_ (w1 := ?_) (v := ?_) (by rfl) rfl ?_ ?_
      rotate_left 2
      ·go_simp
       constructor
       ·rfl
       ·rfl
      refine hK.out _ _ ⟨(World.cell?_alloc_lt _ _ _ (World.block_lt_of_cell? _ _ (hHeld.1))).trans (hHeld.1), (World.cell?_alloc_lt _ _ _ (World.block_lt_of_cell? _ _ (hHeld.2))).trans (hHeld.2)⟩ (fun hHeld => ?_)
      clear hK K
      refine norm_ (a' := ?_) ?_ ?_
      rotate_left
      ·show Act.put _ (some 50) _ = _
       simp only [Act.put, sA, sZ, sS, i64_w, i32_w]
       rfl
      refine last_ (i := 11) (N := some 51) (bA 14 4095) rfl rfl (one_of HT_.out (by kernel_rfl)) (by decide) (fun K hK => ?_)
      refine Kd.R_append_step (Kd.int .i64) (w0 := w) w.heap.size (by rfl) (.tmp 45) (.tmp 50) 37 3 (.int .i64 0) 8 rfl Try.underlying37 info3 rfl (by decide) (by omega) (.slice A194_0 (rd_L3 x5_1 (ji9)).length c194_0) (rd_L3 x5_1 (ji9)) (rd t187 x7_1) [.int .i64 (rd t187 x7_1)] (fun k_ => oki23 k_ ∨ ((fun k_ => some k_ ≠ (.slice (some ad192) t187.length co18 : Value).ownBlock)) k_ ∧ w22.heap.size ≤ k_) (fun _ => False) rfl rfl ?aP (fun _ hk => hk.elim) ?aF ?aO ?aB ?aS ?aL ?_
      (case aP => exact rfl)
      (case aB => exact bB)
      (case aF => exact (fun k_ hk => .inr ⟨Kd.fresh' (Kd.R_lt (by (with_reducible repeat (first | apply Kd.R_alloc | apply Kd.R_drewN | apply Kd.R_drew)); exact HO_6.out)) k_ hk, hk⟩))
      (case aO => exact (by (with_reducible repeat (first | apply Kd.R_alloc | apply Kd.R_drewN | apply Kd.R_drew)); exact Kd.R_mono UU23.out (fun _ hk => .inl hk)))
      (case aS => exact (below_size bB))
      (case aL => have := LMc16.out; omega)
      intro v197 w24 ho hb hg hat
      rw [← Ny196.out] at ho
      have n0_ := Aside0.mk (Kd.R_grown2 (by (with_reducible repeat (first | apply Kd.R_alloc | apply Kd.R_drewN | apply Kd.R_drew)); exact HO_6.out) rfl hg (fun k_ e_ => (HL194_0.out.1 k_ e_).1))
      have n1_ := Aside0.mk (hb)
      have n2_ := Aside0.mk (Kd.H_grown (Kd.H_widen (by repeat (first | exact HH23.out | refine Kd.H_alloc ?_ _ | refine Kd.H_drewN ?_ _ | refine Kd.H_drew ?_))) hg (fun k_ e_ => .inl (UU23.out.1 k_ e_)))
      have n3_ := Aside0.mk (ho)
      clear HO_6
      clear HB
      clear HH23
      clear HO_5
      clear UU23
      clear HL190_0
      clear HL194_0
      have HO_6 := n0_
      have HB := n1_
      have HH23 := n2_
      have HO198 := n3_
      clear n0_ n1_ n2_ n3_
      clear ho hb hg hat
      have p17 : 0 ≤ ((ji9) : Int) := oD
      have q17 : ((ji9) : Int) < ((x5_1.length : Int) : Int) := oD
      replace p17 := eq_true p17
      replace q17 := eq_true q17
      obtain ⟨Ao27, co27, eo27⟩ := Kd.R_slice HO198.out
      (first | subst eo27 | (injection eo27 with f1_ f2_ f3_; have f4_ := f1_.symm; have f5_ := f3_.symm; clear f1_ f2_ f3_; subst f4_; subst f5_))
      obtain ⟨_, _, hraw25, _, _, hcc25, _⟩ := Kd.H_raw HH23.out (oD) (by have h_ : ((ji9) : Int) < ((x5_1.length : Int) : Int) := oD; first | exact h_ | (have e_ := (HN23.out); omega) | simpa using h_)
      obtain ⟨_, hfr25⟩ := Kd.H_at HH23.out (oD) (by have h_ : ((ji9) : Int) < ((x5_1.length : Int) : Int) := oD; first | exact h_ | (have e_ := (HN23.out); omega) | simpa using h_)
      have hx25_0 := hcc25 0 _ rfl
      have hf25_0 := hfr25 0
      (try simp only [Nat.add_zero] at hx25_0 hf25_0)
      (try rw [show ((Kd.slice 3 (Kd.int .i64))).sz = 1 from rfl, Nat.mul_one] at hx25_0)
      (try rw [show ((Kd.slice 3 (Kd.int .i64))).sz = 1 from rfl, Nat.mul_one] at hf25_0)
      have HP25 := Kd.S_seg0 HH23.out (oD) (by have h_ : ((ji9) : Int) < ((x5_1.length : Int) : Int) := oD; first | exact h_ | (have e_ := (HN23.out); omega) | simpa using h_) (seg := [.slice Ao27 y196.length co27]) (j := 0) (show 1 ≤ 1 from by decide) (x' := y196) (Kd.M_row HO198.out) (fun _ hk => hk)
      (try simp only [show ((Kd.slice 3 (Kd.int .i64))).sz = 1 from rfl, Nat.mul_one, Nat.add_zero] at HP25)
      clear hcc25 hfr25
      have HS25 := HP25.1
      rw [← Ny199.out] at HS25
      have HQ25 := Aside0.mk HS25
      obtain ⟨_, hgg25⟩ := Kd.R_typed hraw25 go23 rfl
      have GG25_ := Aside0.mk hgg25
      clear HP25 HS25 hgg25
      refine hK.out _ _ ?_
      clear hK K
      refine norm_ (a' := ?_) ?_ ?_
      rotate_left
      ·show Act.put _ (some 51) _ = _
       simp only [Act.put, sA, sZ, sS, i64_w, i32_w]
       rfl
      refine pU 12 52 (bA 14 8191) ?_
      refine last_ (i := 13) (N := none) (bA 14 16383) rfl rfl (one_of HT_.out (by kernel_rfl)) (by decide) (fun K hK => ?_)
      refine skip_ (w1 := ?_) (by rfl) rfl ?_ ?_
      rotate_left
      ·go_simp
       rfl
      refine hK.out _ _ ?_
      clear hK K
      refine done_ (done_of HT_.out (by kernel_rfl)) ?_
      try go_wp2
      go_roundg k1
      case measure => have := HK1.out; omega
      case rel => exact ⟨(y199), (wrap64 (x7_1 + 1)), sD, H', ⟨by have := HK1.out; omega⟩, ⟨by (with_reducible repeat (first | apply Kd.S_alloc | apply Kd.S_drewN | apply Kd.S_drew)); exact HQ25.out⟩, ⟨by (with_reducible repeat (first | apply Kd.R_alloc | apply Kd.R_drewN | apply Kd.R_drew)); exact Kd.R_mono (Kd.R_far (p := ⟨go23, ((ji9) : Int).toNat, none⟩) (Kd.R_types HO_6.out GG25_.out (by decide)) (fun _ hk => hk.2) (.slice Ao27 y196.length co27)) (fun _ hk => trivial)⟩, ⟨by repeat (first | (with_reducible first | exact HB.out | apply below_alloc | apply pw_below_drewN | apply below_drew1 | refine below_set ?_ GB23.out) | exact HB.out)⟩⟩
     ·rw [if_neg c15] at H
      have c15b0 : (t193 == 0) = false := beq_eq_false_iff_ne.mpr c15
      have c15b1 : (t193 != 0) = true := bne_iff_ne.mpr c15
      obtain ⟨y201, hy201⟩ : ∃ y_ : List Int, y_ = (([rd t187 x7_1] : List Int)) := ⟨_, rfl⟩
      replace H : (if x5_1.length < 5864062014805 then (spec_l3Groups.l0 k1 l0 a1 (x5_1 ++ [y201]) t187 (wrap64 (x7_1 + 1))) else (none)) = some r := by first | (rw [hy201]; with_reducible exact H) | (have H2_ := (Option.bind_some _ _).symm.trans H; rw [hy201]; with_reducible exact H2_) | (have H2_ := (Option.bind_some _ _).symm.trans H; with_reducible exact H2_) | with_reducible exact H | (rw [hy201]; exact H) | exact H
      have Ny201 := Aside0.mk hy201
      clear hy201
      by_cases c28 : x5_1.length < 5864062014805; rotate_left
      ·rw [if_neg c28] at H; exact absurd H (by simp)
      rw [if_pos c28] at H
      have LMc28 := Aside0.mk c28
      clear c28
      obtain ⟨y204, hy204⟩ : ∃ y_ : List (List Int), y_ = (x5_1 ++ [y201]) := ⟨_, rfl⟩
      replace H : (spec_l3Groups.l0 k1 l0 a1 y204 t187 (wrap64 (x7_1 + 1))) = some r := by first | (rw [hy204]; with_reducible exact H) | (have H2_ := (Option.bind_some _ _).symm.trans H; rw [hy204]; with_reducible exact H2_) | (have H2_ := (Option.bind_some _ _).symm.trans H; with_reducible exact H2_) | with_reducible exact H | (rw [hy204]; exact H) | exact H
      have Ny204 := Aside0.mk hy204
      clear hy204
      have H' := Aside0.mk H
      clear H
      obtain ⟨Ao29, co29, eo29⟩ := Kd.R_slice HO_6.out
      subst eo29
      obtain ⟨Ao30, co30, eo30⟩ := Kd.S_slice HO_5.out
      subst eo30
      try go_wp2
      have n0_ := Aside0.mk (Kd.S_drew HO_5.out)
      have n1_ := Aside0.mk (Kd.R_drew HO_6.out)
      have n2_ := Aside0.mk (below_drew1 HB.out)
      clear HO_5
      clear HO_6
      clear HB
      have HO_5 := n0_
      have HO_6 := n1_
      have HB := n2_
      clear n0_ n1_ n2_
      have p190 : 0 ≤ ((ji9) : Int) := oD
      have q190 : (ji9) < (x5_1.length : Int) := oD
      obtain ⟨ad190, A190_0, c190_0, e190, hx190_0, hl190_0, hi190_0⟩ := at_L3 (Kd.S_reads' HO_5.out).2.2 (ji9) p190 q190
      cases e190
      obtain ⟨ce190, hce190, hMe190, hcc190⟩ := Kd.S_get HO_5.out [] (ji9) p190 (by first | exact q190 | exact oD | (have e_ := (Kd.S_reads' HO_5.out).1; omega))
      obtain ⟨ve190_0, rfl, ge190_0⟩ := hMe190
      have hv190_0 := hcc190 0 _ rfl
      rw [Nat.add_zero, show ((Kd.slice 3 (Kd.int .i64))).sz = 1 from rfl, Nat.mul_one] at hv190_0
      replace hv190_0 := Option.some.inj (hv190_0.symm.trans hx190_0)
      rw [hv190_0] at ge190_0
      have HL190_0 := Aside0.mk (show Kd.R (Kd.int .i64) 3 _ _ _ _ (rd_L3 x5_1 (ji9)) from ge190_0)
      clear hv190_0 ge190_0
      have HX190_0 := Aside0.mk hx190_0
      clear hcc190 hce190
      have HR190_0 := Aside0.mk hi190_0
      have HC190_0 := Aside0.mk hl190_0
      clear hi190_0 hl190_0
      replace p190 := eq_true p190
      replace q190 := eq_true q190
      have p191 : 0 ≤ (0 : Int) := (by omega)
      have q191 : 0 < ((rd_L3 x5_1 (ji9)).length : Int) := oD
      obtain ⟨ad191, e191, hx191_0⟩ := Kd.at_int (by repeat (first | (with_reducible exact HR190_0.out) | (with_reducible refine Kd.C_alloc ?_ _) | (with_reducible refine Kd.C_drewN ?_ _) | (with_reducible refine Kd.C_drew ?_) | exact HR190_0.out)) 0 p191 q191
      cases e191
      have qi191 : (0 < (rd_L3 x5_1 (ji9)).length) = True := eq_true (by omega)
      (try rw [show ((0 : Int)).toNat = 0 from rfl] at hx191_0)
      (try rw [Addr.add_zero'] at hx191_0)
      replace p191 := eq_true p191
      replace q191 := eq_true q191
      have p192 : 0 ≤ (x7_1 : Int) := oD
      have q192 : x7_1 < (t187.length : Int) := oD
      obtain ⟨ad192, e192, hx192_0⟩ := Kd.at_int (Kd.R_reads' HO_6.out).2.2 x7_1 p192 q192
      cases e192
      replace p192 := eq_true p192
      replace q192 := eq_true q192
      refine start_ (n := 18) (S := fun w' => w'.cell? (ad190.add ((ji9)).toNat) = some (.slice (some ad191) (rd_L3 x5_1 (ji9)).length c190_0) ∧ w'.cell? ad191 = some (.int .i64 (rd (rd_L3 x5_1 (ji9)) 0)) ∧ w'.cell? (ad192.add (x7_1).toNat) = some (.int .i64 (rd t187 x7_1))) (ds := []) (bA 18 0) (by kernel_rfl) rfl rfl ⟨hx190_0, hx191_0, hx192_0⟩ (fun hHeld => ?_); refine with_tabW spec_l3Groups.tab7 spec_l3Groups.bits7 (fun HT_ HW_ => ?_)
      generalize wr.drew = w31 at HO_5 HO_6 HB HL190_0 HR190_0 HX190_0 hx190_0 hx191_0 hx192_0 hHeld ⊢
      refine pU 0 22 (bA 18 1) ?_
      refine pU 1 23 (bA 18 3) ?_
      refine pU 2 24 (bA 18 7) ?_
      refine pU 3 25 (bA 18 15) ?_
      refine pU 4 26 (bA 18 31) ?_
      refine pU 5 27 (bA 18 63) ?_
      refine pU 6 28 (bA 18 127) ?_
      refine pU 7 29 (bA 18 255) ?_
      refine pU 11 33 (bA 18 2303) ?_
      refine pU 12 34 (bA 18 6399) ?_
      refine pU 13 35 (bA 18 14591) ?_
      refine tU 8 30 (bA 18 14847) ?_
      refine pU 9 31 (bA 18 15359) ?_
      refine tU 10 32 (bA 18 16383) ?_
      refine tU 14 36 (bA 18 32767) ?_
      refine one_ (i := 15) (N := some 37) (bA 18 65535) rfl rfl (one_of HT_.out (by kernel_rfl)) (by decide) (fun K hK => ?_)
      refine goes_ Try.func119 (by kernel_rfl) rfl #[.slice A0 l0.length c0, .int .i64 a1, .int .i64 (rd (rd_L3 x5_1 (ji9)) 0), .int .i64 (rd t187 x7_1)] (by rfl) rfl rfl (by (try simp only [List.map_toArray, List.map_cons, List.map_nil]); first | done | (simp only [hji9]; rfl) | rfl | (simp only [List.length_drop, List.length_take]; rfl)) ?_
      with_reducible refine (spec_l3Gap.calls _ _ l0 a1 (rd (rd_L3 x5_1 (ji9)) 0) (rd t187 x7_1) t193 _ ?side1 ?side2 A14.out).mono ?_
      (case side1 => repeat (first | exact (Kd.C_below HR0.out HB.out) | (with_reducible refine Kd.C_alloc ?_ _) | (with_reducible refine Kd.C_drewN ?_ _) | (with_reducible refine Kd.C_drew ?_)))
      (case side2 => exact HC0.out)
      rintro e w32 ⟨rfl, hb⟩
      have HS0_ := (hb.cell (World.block_lt_of_cell? _ _ (hHeld.1))).trans (hHeld.1)
      have HS1_ := (hb.cell (World.block_lt_of_cell? _ _ (hHeld.2.1))).trans (hHeld.2.1)
      have HS2_ := (hb.cell (World.block_lt_of_cell? _ _ (hHeld.2.2))).trans (hHeld.2.2)
      refine ⟨_, rfl, ?_⟩
      have n0_ := Aside0.mk (Kd.S_below (by (with_reducible repeat (first | apply Kd.S_alloc | apply Kd.S_drewN | apply Kd.S_drew)); exact HO_5.out) hb)
      have n1_ := Aside0.mk (Kd.R_below (by (with_reducible repeat (first | apply Kd.R_alloc | apply Kd.R_drewN | apply Kd.R_drew)); exact HO_6.out) hb)
      have n2_ := Aside0.mk (Kd.R_below (by (with_reducible repeat (first | apply Kd.R_alloc | apply Kd.R_drewN | apply Kd.R_drew)); exact HL190_0.out) hb)
      have n3_ := Aside0.mk (Kd.C_below (by repeat (first | (with_reducible exact HR190_0.out) | (with_reducible refine Kd.C_alloc ?_ _) | (with_reducible refine Kd.C_drewN ?_ _) | (with_reducible refine Kd.C_drew ?_) | exact HR190_0.out)) hb)
      have n4_ := Aside0.mk (pw_cell_below hb HX190_0.out)
      have n5_ := Aside0.mk (below_step bB hb)
      clear HO_5
      clear HO_6
      clear HL190_0
      clear HR190_0
      clear HX190_0
      clear HB
      have HO_5 := n0_
      have HO_6 := n1_
      have HL190_0 := n2_
      have HR190_0 := n3_
      have HX190_0 := n4_
      have HB := n5_
      clear n0_ n1_ n2_ n3_ n4_ n5_
      (try clear hb)
      (try clear hk)
      refine hK.out _ _ ⟨HS0_, HS1_, HS2_⟩ (fun hHeld => ?_)
      clear hK K
      refine norm_ (a' := ?_) ?_ ?_
      rotate_left
      ·show Act.put _ (some 37) _ = _
       simp only [Act.put, sA, sZ, sS, i64_w, i32_w]
       rfl
      refine pU 16 38 (bA 18 131071) ?_
      refine pU 17 39 (bA 18 262143) ?_
      refine done_ (done_of HT_.out (by kernel_rfl)) ?_
      have p200 : 0 ≤ (x7_1 : Int) := oD
      have q200 : x7_1 < (t187.length : Int) := oD
      obtain ⟨ad200, e200, hx200_0⟩ := Kd.at_int (Kd.R_reads' HO_6.out).2.2 x7_1 p200 q200
      obtain rfl : ad192 = ad200 := (by injection e200)
      replace p200 := eq_true p200
      replace q200 := eq_true q200
      try go_wp2_with (first | ((with_reducible refine gate_dst (N := 58) rfl ?_); refine Kd.R_lit (Kd.int .i64) _ 3 ?hg (N := 58) ?hd (xs := ([rd t187 x7_1] : List Int)) (inner := [.int .i64 (rd t187 x7_1)]) (ok := fun _ => True) (okp := fun _ => True) ?hr ?hp (fun _ hk => hk) trivial (Below.refl _ _) (Nat.le_refl _) (by simp) ?_; (case hd => rfl); (case hg => rfl); (case hr => first | (go_simp; done) | (go_simp; rfl)); (case hp => exact (Reps.one (show Kd.M (Kd.int .i64) _ _ _ (rd t187 x7_1) [.int .i64 (rd t187 x7_1)] from rfl) (Reps.none _ _))); intro v202 w33 ho34 hb hg_ hnew_; clear hg_ hnew_; (first | rw [← Ny201.out] at ho34 | (simp only [Int.reduceToNat] at ho34; rw [← Ny201.out] at ho34)); have n0_ := Aside0.mk (Kd.S_elder' (by (with_reducible repeat (first | apply Kd.S_alloc | apply Kd.S_drewN | apply Kd.S_drew)); exact HO_5.out) (Kd.R_base ho34) hb); have n1_ := Aside0.mk (Kd.R_elder' (by (with_reducible repeat (first | apply Kd.R_alloc | apply Kd.R_drewN | apply Kd.R_drew)); exact HO_6.out) (Kd.R_base ho34) hb); have n2_ := Aside0.mk (Kd.R_elder' (by (with_reducible repeat (first | apply Kd.R_alloc | apply Kd.R_drewN | apply Kd.R_drew)); exact HL190_0.out) (Kd.R_base ho34) hb); have n3_ := Aside0.mk (Kd.R_lower (Kd.R_new' (Kd.R_new' ho34 (Kd.R_lt (by (with_reducible repeat (first | apply Kd.R_alloc | apply Kd.R_drewN | apply Kd.R_drew)); exact HO_6.out))) (Kd.R_lt (by (with_reducible repeat (first | apply Kd.R_alloc | apply Kd.R_drewN | apply Kd.R_drew)); exact HL190_0.out))) (below_size bB)); have n4_ := Aside0.mk (Kd.C_below (by repeat (first | (with_reducible exact HR190_0.out) | (with_reducible refine Kd.C_alloc ?_ _) | (with_reducible refine Kd.C_drewN ?_ _) | (with_reducible refine Kd.C_drew ?_) | exact HR190_0.out)) hb); have n5_ := Aside0.mk (pw_cell_below hb HX190_0.out); have n6_ := Aside0.mk (below_step bB hb); clear HO_5; clear HO_6; clear HL190_0; clear HR190_0; clear HX190_0; clear HB; have HO_5 := n0_; have HO_6 := n1_; have HL190_0 := n2_; have HO203 := n3_; have HR190_0 := n4_; have HX190_0 := n5_; have HB := n6_; clear n0_ n1_ n2_ n3_ n4_ n5_ n6_; clear hb ho34; obtain ⟨Ao36, co36, eo36⟩ := Kd.R_slice HO203.out; subst eo36) | ((with_reducible refine gate_builtin (b := .append) (xs := #[.tmp 53, .tmp 59]) rfl ?_); at_builtin; refine Kd.S_append (Kd.slice 3 (Kd.int .i64)) (w0 := w) w.heap.size rfl (.tmp 53) (.tmp 59) 30 37 (.slice none 0 0) 24 rfl Try.underlying30 info37 rfl (by decide) (by omega) (.slice (some ad190) x5_1.length co30) x5_1 y201 [.slice Ao36 y201.length co36] (fun k_ => some k_ ≠ (.slice (some ad192) t187.length co29 : Value).ownBlock) (fun k_ => some k_ = (.slice Ao36 y201.length co36 : Value).ownBlock) rfl rfl ?aP (fun k_ hk_ => ((Kd.R_mono (ok' := fun k_ => ((fun k_ => some k_ ≠ (.slice (some ad192) t187.length co29 : Value).ownBlock)) k_ ∧ some k_ ≠ (.slice (some ad190) x5_1.length co30 : Value).ownBlock) (Kd.R_apart' (HO203.out) (Kd.S_typed HO_5.out) (by decide)) (fun k_ hk => ⟨hk.1.1.2, hk.2⟩))).1 k_ hk_.symm) ?aF ?aO ?aB ?aS ?aL ?_; (case aP => exact Kd.M_row (Kd.R_mono (Kd.R_tight rfl (Kd.R_mono (ok' := fun k_ => ((fun k_ => some k_ ≠ (.slice (some ad192) t187.length co29 : Value).ownBlock)) k_ ∧ some k_ ≠ (.slice (some ad190) x5_1.length co30 : Value).ownBlock) (Kd.R_apart' (HO203.out) (Kd.S_typed HO_5.out) (by decide)) (fun k_ hk => ⟨hk.1.1.2, hk.2⟩))) (fun _ h_ => h_))); (case aB => exact bB); (case aF => exact (fun k_ hk => Kd.fresh' (Kd.R_lt (by (with_reducible repeat (first | apply Kd.R_alloc | apply Kd.R_drewN | apply Kd.R_drew)); exact HO_6.out)) k_ hk)); (case aO => exact (by (with_reducible repeat (first | apply Kd.S_alloc | apply Kd.S_drewN | apply Kd.S_drew)); exact Kd.S_mono HO_5.out (fun k_ hk => ⟨hk.1, fun e_ => hk.2 e_⟩))); (case aS => exact (below_size bB)); (case aL => have := LMc28.out; omega); intro v205 w35 ho hb hg hat; rw [← Ny204.out] at ho; have n0_ := Aside0.mk (Kd.R_over' (by (with_reducible repeat (first | apply Kd.R_alloc | apply Kd.R_drewN | apply Kd.R_drew)); exact HO_6.out) (Kd.S_typed (by (with_reducible repeat (first | apply Kd.S_alloc | apply Kd.S_drewN | apply Kd.S_drew)); exact HO_5.out)) (by decide) hg); have n1_ := Aside0.mk (Kd.R_after (ok := (fun k_ => some k_ ≠ (.slice (some ad192) t187.length co29 : Value).ownBlock ∧ some k_ ≠ (.slice Ao36 y201.length co36 : Value).ownBlock)) (by (with_reducible repeat (first | apply Kd.R_alloc | apply Kd.R_drewN | apply Kd.R_drew)); exact Kd.R_mono HL190_0.out (fun _ hk => ⟨⟨hk.1.1, hk.2⟩, hk.1.2⟩)) hg hat); have n2_ := Aside0.mk (hb); have n3_ := Aside0.mk (ho); clear HO_6; clear HL190_0; clear HB; clear HO_5; clear HO203; have HO_6 := n0_; have HL190_0 := n1_; have HB := n2_; have HO206 := n3_; clear n0_ n1_ n2_ n3_; clear ho hb hg hat))
      go_roundg k1
      case measure => have := HK1.out; omega
      case rel => exact ⟨(y204), (wrap64 (x7_1 + 1)), sD, H', ⟨by have := HK1.out; omega⟩, ⟨kS⟩, ⟨by (with_reducible repeat (first | apply Kd.R_alloc | apply Kd.R_drewN | apply Kd.R_drew)); exact Kd.R_mono HO_6.out (fun _ hk => trivial)⟩, ⟨by repeat (first | (with_reducible first | exact HB.out | apply below_alloc | apply pw_below_drewN | apply below_drew1) | exact HB.out)⟩⟩
    ·rw [if_neg c8] at H
     have c8b0 : decide (0 ≤ (wrap64 ((x5_1.length : Int) - 1))) = false := decide_eq_false c8
     clear c8
     by_cases c37 : 0 ≤ x7_1; rotate_left
     ·rw [if_neg c37] at H; exact absurd H (by simp)
     rw [if_pos c37] at H
     have c37b0 : decide (0 ≤ x7_1) = true := decide_eq_true c37
     clear c37
     obtain ⟨y208, hy208⟩ : ∃ y_ : List Int, y_ = (([rd t187 x7_1] : List Int)) := ⟨_, rfl⟩
     replace H : (if x5_1.length < 5864062014805 then (spec_l3Groups.l0 k1 l0 a1 (x5_1 ++ [y208]) t187 (wrap64 (x7_1 + 1))) else (none)) = some r := by first | (rw [hy208]; with_reducible exact H) | (have H2_ := (Option.bind_some _ _).symm.trans H; rw [hy208]; with_reducible exact H2_) | (have H2_ := (Option.bind_some _ _).symm.trans H; with_reducible exact H2_) | with_reducible exact H | (rw [hy208]; exact H) | exact H
     have Ny208 := Aside0.mk hy208
     clear hy208
     by_cases c38 : x5_1.length < 5864062014805; rotate_left
     ·rw [if_neg c38] at H; exact absurd H (by simp)
     rw [if_pos c38] at H
     have LMc38 := Aside0.mk c38
     clear c38
     obtain ⟨y211, hy211⟩ : ∃ y_ : List (List Int), y_ = (x5_1 ++ [y208]) := ⟨_, rfl⟩
     replace H : (spec_l3Groups.l0 k1 l0 a1 y211 t187 (wrap64 (x7_1 + 1))) = some r := by first | (rw [hy211]; with_reducible exact H) | (have H2_ := (Option.bind_some _ _).symm.trans H; rw [hy211]; with_reducible exact H2_) | (have H2_ := (Option.bind_some _ _).symm.trans H; with_reducible exact H2_) | with_reducible exact H | (rw [hy211]; exact H) | exact H
     have Ny211 := Aside0.mk hy211
     clear hy211
     have H' := Aside0.mk H
     clear H
     obtain ⟨Ao39, co39, eo39⟩ := Kd.R_slice HO_6.out
     subst eo39
     obtain ⟨Ao40, co40, eo40⟩ := Kd.S_slice HO_5.out
     subst eo40
     try go_wp2
     have n0_ := Aside0.mk (Kd.S_drew HO_5.out)
     have n1_ := Aside0.mk (Kd.R_drew HO_6.out)
     have n2_ := Aside0.mk (below_drew1 HB.out)
     clear HO_5
     clear HO_6
     clear HB
     have HO_5 := n0_
     have HO_6 := n1_
     have HB := n2_
     clear n0_ n1_ n2_
     refine start_ (n := 18) (S := fun w' => True) (ds := []) (bA 18 0) (by kernel_rfl) rfl rfl trivial (fun hHeld => ?_); refine with_tabW spec_l3Groups.tab7 spec_l3Groups.bits7 (fun HT_ HW_ => ?_)
     generalize wr.drew = w41 at HO_5 HO_6 HB hHeld ⊢
     refine pU 0 22 (bA 18 1) ?_
     refine pU 1 23 (bA 18 3) ?_
     refine pU 2 24 (bA 18 7) ?_
     refine nU 3 25 (bA 18 15) ?_
     refine nU 4 26 (bA 18 31) ?_
     refine nU 5 27 (bA 18 63) ?_
     refine nU 6 28 (bA 18 127) ?_
     refine nU 7 29 (bA 18 255) ?_
     refine nU 8 30 (bA 18 511) ?_
     refine nU 9 31 (bA 18 1023) ?_
     refine nU 10 32 (bA 18 2047) ?_
     refine nU 11 33 (bA 18 4095) ?_
     refine nU 12 34 (bA 18 8191) ?_
     refine nU 13 35 (bA 18 16383) ?_
     refine nU 14 36 (bA 18 32767) ?_
     refine nU 15 37 (bA 18 65535) ?_
     refine nU 16 38 (bA 18 131071) ?_
     refine pU 17 39 (bA 18 262143) ?_
     refine done_ (done_of HT_.out (by kernel_rfl)) ?_
     have p207 : 0 ≤ (x7_1 : Int) := oD
     have q207 : x7_1 < (t187.length : Int) := oD
     obtain ⟨ad207, e207, hx207_0⟩ := Kd.at_int (Kd.R_reads' HO_6.out).2.2 x7_1 p207 q207
     cases e207
     replace p207 := eq_true p207
     replace q207 := eq_true q207
     try go_wp2_with (first | ((with_reducible refine gate_dst (N := 58) rfl ?_); refine Kd.R_lit (Kd.int .i64) _ 3 ?hg (N := 58) ?hd (xs := ([rd t187 x7_1] : List Int)) (inner := [.int .i64 (rd t187 x7_1)]) (ok := fun _ => True) (okp := fun _ => True) ?hr ?hp (fun _ hk => hk) trivial (Below.refl _ _) (Nat.le_refl _) (by simp) ?_; (case hd => rfl); (case hg => rfl); (case hr => first | (go_simp; done) | (go_simp; rfl)); (case hp => exact (Reps.one (show Kd.M (Kd.int .i64) _ _ _ (rd t187 x7_1) [.int .i64 (rd t187 x7_1)] from rfl) (Reps.none _ _))); intro v209 w42 ho43 hb hg_ hnew_; clear hg_ hnew_; (first | rw [← Ny208.out] at ho43 | (simp only [Int.reduceToNat] at ho43; rw [← Ny208.out] at ho43)); have n0_ := Aside0.mk (Kd.S_elder' (by (with_reducible repeat (first | apply Kd.S_alloc | apply Kd.S_drewN | apply Kd.S_drew)); exact HO_5.out) (Kd.R_base ho43) hb); have n1_ := Aside0.mk (Kd.R_elder' (by (with_reducible repeat (first | apply Kd.R_alloc | apply Kd.R_drewN | apply Kd.R_drew)); exact HO_6.out) (Kd.R_base ho43) hb); have n2_ := Aside0.mk (Kd.R_lower (Kd.R_new' ho43 (Kd.R_lt (by (with_reducible repeat (first | apply Kd.R_alloc | apply Kd.R_drewN | apply Kd.R_drew)); exact HO_6.out))) (below_size bB)); have n3_ := Aside0.mk (below_step bB hb); clear HO_5; clear HO_6; clear HB; have HO_5 := n0_; have HO_6 := n1_; have HO210 := n2_; have HB := n3_; clear n0_ n1_ n2_ n3_; clear hb ho43; obtain ⟨Ao45, co45, eo45⟩ := Kd.R_slice HO210.out; subst eo45) | ((with_reducible refine gate_builtin (b := .append) (xs := #[.tmp 53, .tmp 59]) rfl ?_); at_builtin; refine Kd.S_append (Kd.slice 3 (Kd.int .i64)) (w0 := w) w.heap.size rfl (.tmp 53) (.tmp 59) 30 37 (.slice none 0 0) 24 rfl Try.underlying30 info37 rfl (by decide) (by omega) (.slice Ao40 x5_1.length co40) x5_1 y208 [.slice Ao45 y208.length co45] (fun k_ => some k_ ≠ (.slice (some ad207) t187.length co39 : Value).ownBlock) (fun k_ => some k_ = (.slice Ao45 y208.length co45 : Value).ownBlock) rfl rfl ?aP (fun k_ hk_ => ((Kd.R_mono (ok' := fun k_ => ((fun k_ => some k_ ≠ (.slice (some ad207) t187.length co39 : Value).ownBlock)) k_ ∧ some k_ ≠ (.slice Ao40 x5_1.length co40 : Value).ownBlock) (Kd.R_apart' (HO210.out) (Kd.S_typed HO_5.out) (by decide)) (fun k_ hk => ⟨hk.1.2, hk.2⟩))).1 k_ hk_.symm) ?aF ?aO ?aB ?aS ?aL ?_; (case aP => exact Kd.M_row (Kd.R_mono (Kd.R_tight rfl (Kd.R_mono (ok' := fun k_ => ((fun k_ => some k_ ≠ (.slice (some ad207) t187.length co39 : Value).ownBlock)) k_ ∧ some k_ ≠ (.slice Ao40 x5_1.length co40 : Value).ownBlock) (Kd.R_apart' (HO210.out) (Kd.S_typed HO_5.out) (by decide)) (fun k_ hk => ⟨hk.1.2, hk.2⟩))) (fun _ h_ => h_))); (case aB => exact bB); (case aF => exact (fun k_ hk => Kd.fresh' (Kd.R_lt (by (with_reducible repeat (first | apply Kd.R_alloc | apply Kd.R_drewN | apply Kd.R_drew)); exact HO_6.out)) k_ hk)); (case aO => exact (by (with_reducible repeat (first | apply Kd.S_alloc | apply Kd.S_drewN | apply Kd.S_drew)); exact Kd.S_mono HO_5.out (fun k_ hk => ⟨hk.1, fun e_ => hk.2 e_⟩))); (case aS => exact (below_size bB)); (case aL => have := LMc38.out; omega); intro v212 w44 ho hb hg hat; rw [← Ny211.out] at ho; have n0_ := Aside0.mk (Kd.R_over' (by (with_reducible repeat (first | apply Kd.R_alloc | apply Kd.R_drewN | apply Kd.R_drew)); exact HO_6.out) (Kd.S_typed (by (with_reducible repeat (first | apply Kd.S_alloc | apply Kd.S_drewN | apply Kd.S_drew)); exact HO_5.out)) (by decide) hg); have n1_ := Aside0.mk (hb); have n2_ := Aside0.mk (ho); clear HO_6; clear HB; clear HO_5; clear HO210; have HO_6 := n0_; have HB := n1_; have HO213 := n2_; clear n0_ n1_ n2_; clear ho hb hg hat))
     go_roundg k1
     case measure => have := HK1.out; omega
     case rel => exact ⟨(y211), (wrap64 (x7_1 + 1)), sD, H', ⟨by have := HK1.out; omega⟩, ⟨kS⟩, ⟨by (with_reducible repeat (first | apply Kd.R_alloc | apply Kd.R_drewN | apply Kd.R_drew)); exact Kd.R_mono HO_6.out (fun _ hk => trivial)⟩, ⟨by repeat (first | (with_reducible first | exact HB.out | apply below_alloc | apply pw_below_drewN | apply below_drew1) | exact HB.out)⟩⟩
   ·rw [if_neg c7] at H
    have c7b0 : decide (x7_1 < (t187.length : Int)) = false := decide_eq_false c7
    clear c7
    obtain rfl := Option.some.inj H
    obtain ⟨Ao46, co46, eo46⟩ := Kd.R_slice HO_6.out
    subst eo46
    go_wp2
    go_ret
    exact ⟨_, by first | rfl | (simp [errW_none, errW_some] <;> rfl) | (simp [*, errW_none, errW_some] <;> rfl), by (with_reducible repeat (first | apply Kd.S_alloc | apply Kd.S_drewN | apply Kd.S_drew)); exact Kd.S_mono HO_5.out (fun _ hk => trivial), bB⟩

/-! ### spec_TieGroups: function 20 -/
def spec_TieGroups.f (k : Nat) (l0 : List (S59)) (a1 : Int) : Option ((List (List Int)) × Bool) := (spec_l3Ruled.f k l0 a1).bind fun t214 => (if t214 = true then ((spec_l3Groups.f k l0 a1).bind fun t215 => (some (t215, true))) else (some ((([] : List (List Int))), false)))
theorem spec_TieGroups.mono : ∀ a0 a1 k, LeO (spec_TieGroups.f k a0 a1) (spec_TieGroups.f (k + 1) a0 a1) := by
 intro a0 a1 k
 unfold spec_TieGroups.f
 repeat' first
   | (with_reducible exact spec_l3Groups.mono _ _ _)
   | (with_reducible exact spec_l3Ruled.mono _ _ _)
   | (with_reducible exact LeO.refl _)
   | (with_reducible exact LeO.none _)
   | (with_reducible refine LeO.ite ?_ ?_)
   | (with_reducible refine LeO.bind ?_ (fun _ => ?_))
   | exact spec_l3Groups.mono _ _ _
   | exact spec_l3Ruled.mono _ _ _
   | exact LeO.none _
   | refine LeO.ite ?_ ?_
   | refine LeO.bind ?_ (fun _ => ?_)
set_option maxHeartbeats 8000000 in
set_option maxRecDepth 100000 in
theorem spec_TieGroups.calls (k : Nat) (A0 : Option Addr) (c0 : Nat) (l0 : List (S59)) (a1 : Int) (r1 : List (List Int)) (r2 : Bool) (w : World) (hr0 : Kd.C k59 w A0 l0.length l0) (hc0 : l0.length ≤ c0) (h : spec_TieGroups.f k l0 a1 = some (r1, r2)) :
  Calls Try.prog 20 #[.slice A0 l0.length c0, .int .i64 a1] w fun e w' => ∃ v0_ : Value, e = .returned (.tuple #[v0_, .bool r2]) ∧ Kd.S (Kd.slice 3 (Kd.int .i64)) 37 w' w.heap.size (fun _ => True) v0_ r1 ∧ Below w.heap.size w w' := by
 have HR0 := Aside0.mk hr0
 have HC0 := Aside0.mk hc0
 clear hr0 hc0
 have HB := Aside0.mk (Below.refl w.heap.size w)
 have H : ((spec_l3Ruled.f k l0 a1).bind fun t214 => (if t214 = true then ((spec_l3Groups.f k l0 a1).bind fun t215 => (some (t215, true))) else (some ((([] : List (List Int))), false)))) = some (r1, r2) := h
 clear h
 replace H := Option.bind_eq_some_iff.mp H
 obtain ⟨t214, A30, H⟩ := H
 replace H : (if t214 = true then ((spec_l3Groups.f k l0 a1).bind fun t215 => (some (t215, true))) else (some ((([] : List (List Int))), false))) = some (r1, r2) := H
 have A3 := Aside0.mk A30
 clear A30
 by_cases c4 : t214 = true
 ·subst c4
  have H1 : ((spec_l3Groups.f k l0 a1).bind fun t215 => (some (t215, true))) = some (r1, r2) := by rw [if_pos rfl] at H; exact H
  clear H
  have H := H1
  clear H1
  replace H := Option.bind_eq_some_iff.mp H
  obtain ⟨t215, A50, H⟩ := H
  replace H : (some (t215, true)) = some (r1, r2) := H
  have A5 := Aside0.mk A50
  clear A50
  simp only [Option.some.injEq, Prod.mk.injEq] at H
  obtain ⟨rfl, rfl⟩ := H
  go_enter Try.func20, Try.ntmps20
  go_wp2_with (first | ((with_reducible refine gate_callee (f := 64) rfl ?_); refine goesL_ (some 8) rfl rfl Try.func64 (by kernel_rfl) rfl #[.slice A0 l0.length c0, .int .i64 a1] rfl aE ?_; (with_reducible refine (spec_l3Ruled.calls k _ _ l0 a1 true _ ?side1 ?side2 A3.out).mono ?_); (case side1 => repeat (first | exact HR0.out | (with_reducible refine Kd.C_alloc ?_ _) | (with_reducible refine Kd.C_drewN ?_ _) | (with_reducible refine Kd.C_drew ?_))); (case side2 => exact HC0.out); rintro e w6 ⟨rfl, hb⟩; refine ⟨_, rfl, ?_⟩; have n0_ := Aside0.mk (below_step bB hb); clear HB; have HB := n0_; clear n0_; (try clear hb); (try clear hk)) | ((with_reducible refine gate_callee (f := 65) rfl ?_); refine goesL_ (some 13) rfl rfl Try.func65 (by kernel_rfl) rfl #[.slice A0 l0.length c0, .int .i64 a1] rfl aE ?_; (with_reducible refine (spec_l3Groups.calls k _ _ l0 a1 t215 _ ?side1 ?side2 A5.out).mono ?_); (case side1 => repeat (first | exact (Kd.C_below HR0.out HB.out) | (with_reducible refine Kd.C_alloc ?_ _) | (with_reducible refine Kd.C_drewN ?_ _) | (with_reducible refine Kd.C_drew ?_))); (case side2 => exact HC0.out); rintro e w7 ⟨v216, rfl, ho0, hb⟩; refine ⟨_, rfl, ?_⟩; have n0_ := Aside0.mk (Kd.S_lower ho0 (below_size bB)); have n1_ := Aside0.mk (below_step bB hb); clear HB; have HO217 := n0_; have HB := n1_; clear n0_ n1_; (try clear hb); (try clear hk); (try clear ho0)))
  go_ret2
  exact ⟨_, by first | rfl | (simp [errW_none, errW_some] <;> rfl) | (simp [*, errW_none, errW_some] <;> rfl), by (with_reducible repeat (first | apply Kd.S_alloc | apply Kd.S_drewN | apply Kd.S_drew)); exact HO217.out, bB⟩
 ·replace c4 := Bool.eq_false_iff.mpr c4
  subst c4
  have H1 : (some ((([] : List (List Int))), false)) = some (r1, r2) := by rw [if_neg (show ¬ (false = true) by decide)] at H; exact H
  clear H
  have H := H1
  clear H1
  obtain ⟨y218, hy218⟩ : ∃ y_ : List (List Int), y_ = (([] : List (List Int))) := ⟨_, rfl⟩
  replace H : (some (y218, false)) = some (r1, r2) := by first | (rw [hy218]; with_reducible exact H) | (have H2_ := (Option.bind_some _ _).symm.trans H; rw [hy218]; with_reducible exact H2_) | (have H2_ := (Option.bind_some _ _).symm.trans H; with_reducible exact H2_) | with_reducible exact H | (rw [hy218]; exact H) | exact H
  have Ny218 := Aside0.mk hy218
  clear hy218
  simp only [Option.some.injEq, Prod.mk.injEq] at H
  obtain ⟨rfl, rfl⟩ := H
  go_enter Try.func20, Try.ntmps20
  go_wp2_with (first | ((with_reducible refine gate_callee (f := 64) rfl ?_); refine goesL_ (some 8) rfl rfl Try.func64 (by kernel_rfl) rfl #[.slice A0 l0.length c0, .int .i64 a1] rfl aE ?_; (with_reducible refine (spec_l3Ruled.calls k _ _ l0 a1 false _ ?side1 ?side2 A3.out).mono ?_); (case side1 => repeat (first | exact HR0.out | (with_reducible refine Kd.C_alloc ?_ _) | (with_reducible refine Kd.C_drewN ?_ _) | (with_reducible refine Kd.C_drew ?_))); (case side2 => exact HC0.out); rintro e w8 ⟨rfl, hb⟩; refine ⟨_, rfl, ?_⟩; have n0_ := Aside0.mk (below_step bB hb); clear HB; have HB := n0_; clear n0_; (try clear hb); (try clear hk)) | ((with_reducible refine gate_dst (N := 10) rfl ?_); refine Kd.S_lit (Kd.slice 3 (Kd.int .i64)) _ 37 ?hg (N := 10) ?hd (xs := ([] : List (List Int))) (inner := []) (ok := fun _ => True) (okp := fun _ => True) ?hr ?hp (fun _ hk => hk) trivial (Below.refl _ _) (Nat.le_refl _) (by simp) ?_; (case hd => rfl); (case hg => rfl); (case hr => first | (go_simp; done) | (go_simp; rfl)); (case hp => exact (Reps.none _ _)); intro v219 w9 ho10 hb hg_ hnew_; clear hg_ hnew_; (first | rw [← Ny218.out] at ho10 | (simp only [Int.reduceToNat] at ho10; rw [← Ny218.out] at ho10)); have n0_ := Aside0.mk (Kd.S_lower ho10 (below_size bB)); have n1_ := Aside0.mk (below_step bB hb); clear HB; have HO220 := n0_; have HB := n1_; clear n0_ n1_; clear hb ho10))
  go_ret2
  exact ⟨_, by first | rfl | (simp [errW_none, errW_some] <;> rfl) | (simp [*, errW_none, errW_some] <;> rfl), by (with_reducible repeat (first | apply Kd.S_alloc | apply Kd.S_drewN | apply Kd.S_drew)); exact HO220.out, bB⟩

/-! ### impl_within: function 102 -/
def impl_within.f (a0 : Int) (a1 : Int) (a2 : Int) : Option (Bool) := if a1 ≤ a0 then (some (decide (a0 ≤ a2))) else (some false)
set_option maxHeartbeats 8000000 in
set_option maxRecDepth 100000 in
theorem impl_within.calls (a0 : Int) (a1 : Int) (a2 : Int) (r : Bool) (w : World) (h : impl_within.f a0 a1 a2 = some r) :
  Calls Try.prog 102 #[.int .i64 a0, .int .i64 a1, .int .i64 a2] w fun e w' => e = .returned (.bool r) ∧ Drawn0 w w' := by
 have H : (if a1 ≤ a0 then (some (decide (a0 ≤ a2))) else (some false)) = some r := h
 clear h
 by_cases c4 : a1 ≤ a0
 ·rw [if_pos c4] at H
  have c4b0 : decide (a1 ≤ a0) = true := decide_eq_true c4
  clear c4
  obtain rfl := Option.some.inj H
  go_enter Try.func102, Try.ntmps102
  go_wp2
  go_ret
  exact ⟨by first | rfl | (simp; done) | (simp [*]; done), by repeat (first | exact Drawn0.refl _ | apply Drawn0.step)⟩
 ·rw [if_neg c4] at H
  have c4b0 : decide (a1 ≤ a0) = false := decide_eq_false c4
  clear c4
  obtain rfl := Option.some.inj H
  go_enter Try.func102, Try.ntmps102
  go_wp2
  go_ret
  exact ⟨by first | rfl | (simp; done) | (simp [*]; done), by repeat (first | exact Drawn0.refl _ | apply Drawn0.step)⟩

/-! ### impl_isDate: function 125 -/
def impl_isDate.f (a0 : Int) : Option (Bool) := (impl_within.f a0 0 500).bind fun t221 => (some t221)
set_option maxHeartbeats 8000000 in
set_option maxRecDepth 100000 in
theorem impl_isDate.calls (a0 : Int) (r : Bool) (w : World) (h : impl_isDate.f a0 = some r) :
  Calls Try.prog 125 #[.int .i64 a0] w fun e w' => e = .returned (.bool r) ∧ Drawn0 w w' := by
 have H : ((impl_within.f a0 0 500).bind fun t221 => (some t221)) = some r := h
 clear h
 replace H := Option.bind_eq_some_iff.mp H
 obtain ⟨t221, A20, H⟩ := H
 replace H : (some t221) = some r := H
 have A2 := Aside0.mk A20
 clear A20
 obtain rfl := Option.some.inj H
 go_enter Try.func125, Try.ntmps125
 go_wp2_with (first | ((with_reducible refine gate_callee (f := 102) rfl ?_); refine goesL_ (some 4) rfl rfl Try.func102 (by kernel_rfl) rfl #[.int .i64 a0, .int .i64 0, .int .i64 500] rfl aE ?_; (with_reducible refine (impl_within.calls a0 0 500 t221 _ A2.out).mono ?_); rintro e w' ⟨rfl, ⟨nd, rfl⟩⟩; refine ⟨_, rfl, ?_⟩))
 go_ret
 exact ⟨by first | rfl | (simp; done) | (simp [*]; done), by repeat (first | exact Drawn0.refl _ | apply Drawn0.step)⟩

end Go.Proofs.Ythhmembnhnghiaa.OFnExactTieGroups
