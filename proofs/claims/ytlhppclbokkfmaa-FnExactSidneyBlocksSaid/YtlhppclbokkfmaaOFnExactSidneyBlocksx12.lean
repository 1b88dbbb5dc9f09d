/- Functions of the program as plain Lean functions, with their contracts: written by this session's program ownprint.py. Conditions: none. -/
import Derived.Test.YtlhppclbokkfmaaOFnExactSidneyBlocksx0
import Derived.Test.YtlhppclbokkfmaaOFnExactSidneyBlocksx11
namespace Go.Proofs.Ytlhppclbokkfmaa.OFnExactSidneyBlocks
open Go.RowKit Go.Proofs.YtlhppclbokkfmaaW.PrintWords Go.Proofs.YtlhppclbokkfmaaW.PrintLast Go.Proofs.YtlhppclbokkfmaaW.PrintMore
attribute [local go_sem] max2_int min2_int max_two min_two max_three min_three max_four min_four   -- for this text's walks alone
set_option linter.unusedVariables false
set_option linter.unusedSimpArgs false

/-! ### laws_eqJobS: function 13 -/
def laws_eqJobS.l0 : Nat → List (S50) → List (S50) → Int → Option (Bool)
 | 0, _, _, _ => none
 | k + 1, x0, x1, x5 => if x5 < (x0.length : Int) then (if 0 ≤ x5 then (if x5 < (x1.length : Int) then ((laws_eqJob.f ((rd_T50 x0 x5).f0) ((rd_T50 x0 x5).f1) ((rd_T50 x0 x5).f2) ((rd_T50 x0 x5).f3) ((rd_T50 x1 x5).f0) ((rd_T50 x1 x5).f1) ((rd_T50 x1 x5).f2) ((rd_T50 x1 x5).f3)).bind fun t340 => (if t340 = true then (laws_eqJobS.l0 k x0 x1 (wrap64 (x5 + 1))) else (some false))) else (none)) else (none)) else (some true)
def laws_eqJobS.f (k : Nat) (l0 : List (S50)) (l1 : List (S50)) : Option (Bool) := if (l0.length : Int) = (l1.length : Int) then (laws_eqJobS.l0 k l0 l1 0) else (some false)
theorem laws_eqJobS.mono_l : ∀ k, (∀ y0 y1 y2, LeO (laws_eqJobS.l0 k y0 y1 y2) (laws_eqJobS.l0 (k + 1) y0 y1 y2))
 | 0 => fun _ _ _ r h => by simp [laws_eqJobS.l0] at h
 | k + 1 => by
  have ih0 := laws_eqJobS.mono_l k
  ·intro y0 y1 y2
   unfold laws_eqJobS.l0
   repeat' first
   | (with_reducible exact ih0 _ _ _)
   | (with_reducible exact LeO.refl _)
   | (with_reducible exact LeO.none _)
   | (with_reducible refine LeO.ite ?_ ?_)
   | (with_reducible refine LeO.bind ?_ (fun _ => ?_))
   | exact ih0 _ _ _
   | exact LeO.none _
   | refine LeO.ite ?_ ?_
   | refine LeO.bind ?_ (fun _ => ?_)
theorem laws_eqJobS.mono : ∀ a0 a1 k, LeO (laws_eqJobS.f k a0 a1) (laws_eqJobS.f (k + 1) a0 a1) := by
 intro a0 a1 k
 have ih0 := laws_eqJobS.mono_l k
 unfold laws_eqJobS.f
 repeat' first
   | (with_reducible exact ih0 _ _ _)
   | (with_reducible exact LeO.refl _)
   | (with_reducible exact LeO.none _)
   | (with_reducible refine LeO.ite ?_ ?_)
   | (with_reducible refine LeO.bind ?_ (fun _ => ?_))
   | exact ih0 _ _ _
   | exact LeO.none _
   | refine LeO.ite ?_ ?_
   | refine LeO.bind ?_ (fun _ => ?_)
def laws_eqJobS.T6 : Bool × List (List Nat × List Nat) := (true, [([], []), ([], []), ([0, 1], [0, 1]), ([2], [2]), ([], []), ([], []), ([4, 5], [4, 5]), ([6], [6]), ([3, 7], [3, 7]), ([8], [8])])
def laws_eqJobS.B6 : List Nat := [0, 0, 3, 7, 0, 0, 48, 112, 255, 511]
theorem laws_eqJobS.tab6 : rtab .any (opsOf Try.f13 6) = laws_eqJobS.T6 := by kernel_rfl
theorem laws_eqJobS.bits6 : waitsOk laws_eqJobS.T6.2 laws_eqJobS.B6 = true := by kernel_rfl
set_option maxHeartbeats 8000000 in
set_option maxRecDepth 100000 in
theorem laws_eqJobS.calls (k : Nat) (A0 : Option Addr) (c0 : Nat) (l0 : List (S50)) (A1 : Option Addr) (c1 : Nat) (l1 : List (S50)) (r : Bool) (w : World) (hr0 : Kd.C k50 w A0 l0.length l0) (hc0 : l0.length ≤ c0) (hr1 : Kd.C k50 w A1 l1.length l1) (hc1 : l1.length ≤ c1) (h : laws_eqJobS.f k l0 l1 = some r) :
  Calls Try.prog 13 #[.slice A0 l0.length c0, .slice A1 l1.length c1] w fun e w' => e = .returned (.bool r) ∧ Below w.heap.size w w' := by
 have hu50 := Try.underlying50
 have HR0 := Aside0.mk hr0
 have HC0 := Aside0.mk hc0
 clear hr0 hc0
 have HR1 := Aside0.mk hr1
 have HC1 := Aside0.mk hc1
 clear hr1 hc1
 have HB := Aside0.mk (Below.refl w.heap.size w)
 have H : (if (l0.length : Int) = (l1.length : Int) then (laws_eqJobS.l0 k l0 l1 0) else (some false)) = some r := h
 clear h
 by_cases c3 : (l0.length : Int) = (l1.length : Int)
 ·rw [if_pos c3] at H
  have c3b0 : ((l0.length : Int) == (l1.length : Int)) = true := beq_iff_eq.mpr c3
  have c3b1 : ((l0.length : Int) != (l1.length : Int)) = false := bne_eq_false_iff_eq.mpr c3
  have c3b2 : (l0.length == l1.length) = true := by first | simpa using c3 | (simp at c3 ⊢; omega)
  clear c3
  have H' := Aside0.mk H
  clear H
  go_enter Try.func13, Try.ntmps13
  go_wp2
  go_loopg [5] k (fun kq v5 w' => ∃ (x5_1 : Int), v5 = .int .i64 x5_1 ∧ Aside0 (laws_eqJobS.l0 kq l0 l1 x5_1 = some r) ∧ Aside0 (kq ≤ k) ∧ Aside0 (Below w.heap.size w w'))
  case atStart => exact ⟨(0), sD, H', ⟨Nat.le_refl _⟩, ⟨by repeat (first | (with_reducible first | exact HB.out | apply below_alloc | apply pw_below_drewN | apply below_drew1) | exact HB.out)⟩⟩
  case round =>
   clear H'
   try clear c1
   try clear p2
   try clear c3
   try clear c3b0
   try clear c3b1
   try clear c3b2
   obtain ⟨x5_1, rfl, HA, HK1, HB⟩ := hrel
   cases gk with
   | zero => exact absurd HA.out (by simp [laws_eqJobS.l0])
   | succ k1 =>
    have H := HA.out
    clear HA
    simp only [laws_eqJobS.l0] at H
    by_cases c4 : x5_1 < (l0.length : Int)
    ·rw [if_pos c4] at H
     have c4b0 : decide (x5_1 < (l0.length : Int)) = true := decide_eq_true c4
     clear c4
     by_cases c5 : 0 ≤ x5_1; rotate_left
     ·rw [if_neg c5] at H; exact absurd H (by simp)
     rw [if_pos c5] at H
     have c5b0 : decide (0 ≤ x5_1) = true := decide_eq_true c5
     clear c5
     by_cases c6 : x5_1 < (l1.length : Int); rotate_left
     ·rw [if_neg c6] at H; exact absurd H (by simp)
     rw [if_pos c6] at H
     have c6b0 : decide (x5_1 < (l1.length : Int)) = true := decide_eq_true c6
     clear c6
     replace H := Option.bind_eq_some_iff.mp H
     obtain ⟨t340, A70, H⟩ := H
     replace H : (if t340 = true then (laws_eqJobS.l0 k1 l0 l1 (wrap64 (x5_1 + 1))) else (some false)) = some r := H
     have A7 := Aside0.mk A70
     clear A70
     by_cases c8 : t340 = true
     ·subst c8
      have H1 : (laws_eqJobS.l0 k1 l0 l1 (wrap64 (x5_1 + 1))) = some r := by rw [if_pos rfl] at H; exact H
      clear H
      have H := H1
      clear H1
      have H' := Aside0.mk H
      clear H
      try go_wp2
      have n0_ := Aside0.mk (below_drew1 HB.out)
      clear HB
      have HB := n0_
      clear n0_
      have p338 : 0 ≤ (x5_1 : Int) := oD
      have q338 : x5_1 < (l0.length : Int) := oD
      obtain ⟨ad338, e338, hx338_0, hx338_1, hx338_2, hx338_3⟩ := at_T50 HR0.out x5_1 p338 q338
      have hw338_3 := hx338_3
      have hw338_2 := hx338_2
      have hw338_1 := hx338_1
      have hw338_0 := hx338_0
      cases e338
      replace hx338_0 := (cB HB.out hx338_0 :)
      replace hx338_1 := (cB HB.out hx338_1 :)
      replace hx338_2 := (cB HB.out hx338_2 :)
      replace hx338_3 := (cB HB.out hx338_3 :)
      replace p338 := eq_true p338
      replace q338 := eq_true q338
      have p339 : 0 ≤ (x5_1 : Int) := oD
      have q339 : x5_1 < (l1.length : Int) := oD
      obtain ⟨ad339, e339, hx339_0, hx339_1, hx339_2, hx339_3⟩ := at_T50 HR1.out x5_1 p339 q339
      have hw339_3 := hx339_3
      have hw339_2 := hx339_2
      have hw339_1 := hx339_1
      have hw339_0 := hx339_0
      cases e339
      replace hx339_0 := (cB HB.out hx339_0 :)
      replace hx339_1 := (cB HB.out hx339_1 :)
      replace hx339_2 := (cB HB.out hx339_2 :)
      replace hx339_3 := (cB HB.out hx339_3 :)
      replace p339 := eq_true p339
      replace q339 := eq_true q339
      refine start_ (n := 10) (S := fun w' => w'.cell? (ad338.add ((x5_1).toNat * 4)) = some (.int .i64 ((rd_T50 l0 x5_1).f0)) ∧ w'.cell? ⟨(ad338.add ((x5_1).toNat * 4)).block, (ad338.add ((x5_1).toNat * 4)).off + 1, none⟩ = some (.int .i64 ((rd_T50 l0 x5_1).f1)) ∧ w'.cell? ⟨(ad338.add ((x5_1).toNat * 4)).block, (ad338.add ((x5_1).toNat * 4)).off + 2, none⟩ = some (.int .i64 ((rd_T50 l0 x5_1).f2)) ∧ w'.cell? ⟨(ad338.add ((x5_1).toNat * 4)).block, (ad338.add ((x5_1).toNat * 4)).off + 3, none⟩ = some (.int .i64 ((rd_T50 l0 x5_1).f3)) ∧ w'.cell? (ad339.add ((x5_1).toNat * 4)) = some (.int .i64 ((rd_T50 l1 x5_1).f0)) ∧ w'.cell? ⟨(ad339.add ((x5_1).toNat * 4)).block, (ad339.add ((x5_1).toNat * 4)).off + 1, none⟩ = some (.int .i64 ((rd_T50 l1 x5_1).f1)) ∧ w'.cell? ⟨(ad339.add ((x5_1).toNat * 4)).block, (ad339.add ((x5_1).toNat * 4)).off + 2, none⟩ = some (.int .i64 ((rd_T50 l1 x5_1).f2)) ∧ w'.cell? ⟨(ad339.add ((x5_1).toNat * 4)).block, (ad339.add ((x5_1).toNat * 4)).off + 3, none⟩ = some (.int .i64 ((rd_T50 l1 x5_1).f3))) (ds := []) #[false, false, false, false, false, false, false, false, false, false] (by kernel_rfl) rfl rfl ⟨(cB HB.out hw338_0 :), (cB HB.out hw338_1 :), (cB HB.out hw338_2 :), (cB HB.out hw338_3 :), (cB HB.out hw339_0 :), (cB HB.out hw339_1 :), (cB HB.out hw339_2 :), (cB HB.out hw339_3 :)⟩ (fun hHeld => ?_); refine with_tabW laws_eqJobS.tab6 laws_eqJobS.bits6 (fun HT_ HW_ => ?_)
      generalize wr.drew = w9 at HB hx338_0 hx338_1 hx338_2 hx338_3 hx339_0 hx339_1 hx339_2 hx339_3 hHeld ⊢
      refine pU 0 17 #[true, false, false, false, false, false, false, false, false, false] ?_
      refine pU 1 18 #[true, true, false, false, false, false, false, false, false, false] ?_
      refine pU 2 19 #[true, true, true, false, false, false, false, false, false, false] ?_
      refine pU 4 21 #[true, true, true, false, true, false, false, false, false, false] ?_
      refine pU 5 22 #[true, true, true, false, true, true, false, false, false, false] ?_
      refine pU 6 23 #[true, true, true, false, true, true, true, false, false, false] ?_
      refine tU 3 20 #[true, true, true, true, true, true, true, false, false, false] ?_
      refine tU 7 24 #[true, true, true, true, true, true, true, true, false, false] ?_
      refine one_ (i := 8) (N := some 25) #[true, true, true, true, true, true, true, true, true, false] rfl rfl (one_of HT_.out (by kernel_rfl)) (by decide) (fun K hK => ?_)
      refine goes_ Try.func32 (by kernel_rfl) rfl #[.agg #[.int .i64 ((rd_T50 l0 x5_1).f0), .int .i64 ((rd_T50 l0 x5_1).f1), .int .i64 ((rd_T50 l0 x5_1).f2), .int .i64 ((rd_T50 l0 x5_1).f3)], .agg #[.int .i64 ((rd_T50 l1 x5_1).f0), .int .i64 ((rd_T50 l1 x5_1).f1), .int .i64 ((rd_T50 l1 x5_1).f2), .int .i64 ((rd_T50 l1 x5_1).f3)]] (by rfl) rfl rfl aE ?_
      with_reducible refine (laws_eqJob.calls ((rd_T50 l0 x5_1).f0) ((rd_T50 l0 x5_1).f1) ((rd_T50 l0 x5_1).f2) ((rd_T50 l0 x5_1).f3) ((rd_T50 l1 x5_1).f0) ((rd_T50 l1 x5_1).f1) ((rd_T50 l1 x5_1).f2) ((rd_T50 l1 x5_1).f3) true _ A7.out).mono ?_
      rintro e w10 ⟨rfl, hb⟩
      refine ⟨_, rfl, ?_⟩
      have n0_ := Aside0.mk (below_step bB hb)
      clear HB
      have HB := n0_
      clear n0_
      (try clear hb)
      refine hK.out _ _ ⟨(cB HB.out hw338_0 :), (cB HB.out hw338_1 :), (cB HB.out hw338_2 :), (cB HB.out hw338_3 :), (cB HB.out hw339_0 :), (cB HB.out hw339_1 :), (cB HB.out hw339_2 :), (cB HB.out hw339_3 :)⟩ (fun hHeld => ?_)
      clear hK K
      refine norm_ (a' := ?_) ?_ ?_
      rotate_left
      ·show Act.put _ (some 25) _ = _
       simp only [Act.put, sA, sZ, sS, i64_w, i32_w]
       rfl
      refine pU 9 26 #[true, true, true, true, true, true, true, true, true, true] ?_
      refine done_ (done_of HT_.out (by kernel_rfl)) ?_
      try go_wp2
      go_roundg k1
      case measure => have := HK1.out; omega
      case rel => exact ⟨(wrap64 (x5_1 + 1)), sD, H', ⟨by have := HK1.out; omega⟩, ⟨by repeat (first | (with_reducible first | exact HB.out | apply below_alloc | apply pw_below_drewN | apply below_drew1) | exact HB.out)⟩⟩
     ·replace c8 := Bool.eq_false_iff.mpr c8
      subst c8
      have H1 : (some false) = some r := by rw [if_neg (show ¬ (false = true) by decide)] at H; exact H
      clear H
      have H := H1
      clear H1
      obtain rfl := Option.some.inj H
      try go_wp2
      have n0_ := Aside0.mk (below_drew1 HB.out)
      clear HB
      have HB := n0_
      clear n0_
      have p338 : 0 ≤ (x5_1 : Int) := oD
      have q338 : x5_1 < (l0.length : Int) := oD
      obtain ⟨ad338, e338, hx338_0, hx338_1, hx338_2, hx338_3⟩ := at_T50 HR0.out x5_1 p338 q338
      have hw338_3 := hx338_3
      have hw338_2 := hx338_2
      have hw338_1 := hx338_1
      have hw338_0 := hx338_0
      cases e338
      replace hx338_0 := (cB HB.out hx338_0 :)
      replace hx338_1 := (cB HB.out hx338_1 :)
      replace hx338_2 := (cB HB.out hx338_2 :)
      replace hx338_3 := (cB HB.out hx338_3 :)
      replace p338 := eq_true p338
      replace q338 := eq_true q338
      have p339 : 0 ≤ (x5_1 : Int) := oD
      have q339 : x5_1 < (l1.length : Int) := oD
      obtain ⟨ad339, e339, hx339_0, hx339_1, hx339_2, hx339_3⟩ := at_T50 HR1.out x5_1 p339 q339
      have hw339_3 := hx339_3
      have hw339_2 := hx339_2
      have hw339_1 := hx339_1
      have hw339_0 := hx339_0
      cases e339
      replace hx339_0 := (cB HB.out hx339_0 :)
      replace hx339_1 := (cB HB.out hx339_1 :)
      replace hx339_2 := (cB HB.out hx339_2 :)
      replace hx339_3 := (cB HB.out hx339_3 :)
      replace p339 := eq_true p339
      replace q339 := eq_true q339
      refine start_ (n := 10) (S := fun w' => w'.cell? (ad338.add ((x5_1).toNat * 4)) = some (.int .i64 ((rd_T50 l0 x5_1).f0)) ∧ w'.cell? ⟨(ad338.add ((x5_1).toNat * 4)).block, (ad338.add ((x5_1).toNat * 4)).off + 1, none⟩ = some (.int .i64 ((rd_T50 l0 x5_1).f1)) ∧ w'.cell? ⟨(ad338.add ((x5_1).toNat * 4)).block, (ad338.add ((x5_1).toNat * 4)).off + 2, none⟩ = some (.int .i64 ((rd_T50 l0 x5_1).f2)) ∧ w'.cell? ⟨(ad338.add ((x5_1).toNat * 4)).block, (ad338.add ((x5_1).toNat * 4)).off + 3, none⟩ = some (.int .i64 ((rd_T50 l0 x5_1).f3)) ∧ w'.cell? (ad339.add ((x5_1).toNat * 4)) = some (.int .i64 ((rd_T50 l1 x5_1).f0)) ∧ w'.cell? ⟨(ad339.add ((x5_1).toNat * 4)).block, (ad339.add ((x5_1).toNat * 4)).off + 1, none⟩ = some (.int .i64 ((rd_T50 l1 x5_1).f1)) ∧ w'.cell? ⟨(ad339.add ((x5_1).toNat * 4)).block, (ad339.add ((x5_1).toNat * 4)).off + 2, none⟩ = some (.int .i64 ((rd_T50 l1 x5_1).f2)) ∧ w'.cell? ⟨(ad339.add ((x5_1).toNat * 4)).block, (ad339.add ((x5_1).toNat * 4)).off + 3, none⟩ = some (.int .i64 ((rd_T50 l1 x5_1).f3))) (ds := []) #[false, false, false, false, false, false, false, false, false, false] (by kernel_rfl) rfl rfl ⟨(cB HB.out hw338_0 :), (cB HB.out hw338_1 :), (cB HB.out hw338_2 :), (cB HB.out hw338_3 :), (cB HB.out hw339_0 :), (cB HB.out hw339_1 :), (cB HB.out hw339_2 :), (cB HB.out hw339_3 :)⟩ (fun hHeld => ?_); refine with_tabW laws_eqJobS.tab6 laws_eqJobS.bits6 (fun HT_ HW_ => ?_)
      generalize wr.drew = w11 at HB hx338_0 hx338_1 hx338_2 hx338_3 hx339_0 hx339_1 hx339_2 hx339_3 hHeld ⊢
      refine pU 0 17 #[true, false, false, false, false, false, false, false, false, false] ?_
      refine pU 1 18 #[true, true, false, false, false, false, false, false, false, false] ?_
      refine pU 2 19 #[true, true, true, false, false, false, false, false, false, false] ?_
      refine pU 4 21 #[true, true, true, false, true, false, false, false, false, false] ?_
      refine pU 5 22 #[true, true, true, false, true, true, false, false, false, false] ?_
      refine pU 6 23 #[true, true, true, false, true, true, true, false, false, false] ?_
      refine tU 3 20 #[true, true, true, true, true, true, true, false, false, false] ?_
      refine tU 7 24 #[true, true, true, true, true, true, true, true, false, false] ?_
      refine one_ (i := 8) (N := some 25) #[true, true, true, true, true, true, true, true, true, false] rfl rfl (one_of HT_.out (by kernel_rfl)) (by decide) (fun K hK => ?_)
      refine goes_ Try.func32 (by kernel_rfl) rfl #[.agg #[.int .i64 ((rd_T50 l0 x5_1).f0), .int .i64 ((rd_T50 l0 x5_1).f1), .int .i64 ((rd_T50 l0 x5_1).f2), .int .i64 ((rd_T50 l0 x5_1).f3)], .agg #[.int .i64 ((rd_T50 l1 x5_1).f0), .int .i64 ((rd_T50 l1 x5_1).f1), .int .i64 ((rd_T50 l1 x5_1).f2), .int .i64 ((rd_T50 l1 x5_1).f3)]] (by rfl) rfl rfl aE ?_
      with_reducible refine (laws_eqJob.calls ((rd_T50 l0 x5_1).f0) ((rd_T50 l0 x5_1).f1) ((rd_T50 l0 x5_1).f2) ((rd_T50 l0 x5_1).f3) ((rd_T50 l1 x5_1).f0) ((rd_T50 l1 x5_1).f1) ((rd_T50 l1 x5_1).f2) ((rd_T50 l1 x5_1).f3) false _ A7.out).mono ?_
      rintro e w12 ⟨rfl, hb⟩
      refine ⟨_, rfl, ?_⟩
      have n0_ := Aside0.mk (below_step bB hb)
      clear HB
      have HB := n0_
      clear n0_
      (try clear hb)
      refine hK.out _ _ ⟨(cB HB.out hw338_0 :), (cB HB.out hw338_1 :), (cB HB.out hw338_2 :), (cB HB.out hw338_3 :), (cB HB.out hw339_0 :), (cB HB.out hw339_1 :), (cB HB.out hw339_2 :), (cB HB.out hw339_3 :)⟩ (fun hHeld => ?_)
      clear hK K
      refine norm_ (a' := ?_) ?_ ?_
      rotate_left
      ·show Act.put _ (some 25) _ = _
       simp only [Act.put, sA, sZ, sS, i64_w, i32_w]
       rfl
      refine pU 9 26 #[true, true, true, true, true, true, true, true, true, true] ?_
      refine done_ (done_of HT_.out (by kernel_rfl)) ?_
      try go_wp2
      go_ret
      exact ⟨rE, bB⟩
    ·rw [if_neg c4] at H
     have c4b0 : decide (x5_1 < (l0.length : Int)) = false := decide_eq_false c4
     clear c4
     obtain rfl := Option.some.inj H
     go_wp2
     go_ret
     exact ⟨rE, bB⟩
 ·rw [if_neg c3] at H
  have c3b0 : ((l0.length : Int) == (l1.length : Int)) = false := beq_eq_false_iff_ne.mpr c3
  have c3b1 : ((l0.length : Int) != (l1.length : Int)) = true := bne_iff_ne.mpr c3
  have c3b2 : (l0.length == l1.length) = false := by first | simpa using c3 | (simp at c3 ⊢; omega)
  obtain rfl := Option.some.inj H
  go_enter Try.func13, Try.ntmps13
  go_wp2
  go_ret
  exact ⟨rE, bB⟩

/-! ### laws_eqIntA2: function 33 -/
def laws_eqIntA2.l0 : Nat → Int → Int → Int → Int → Int → Option (Bool)
 | 0, _, _, _, _, _ => none
 | k + 1, x5, x342000, x342001, x343000, x343001 => if x5 < 2 then (if x5 = 0 then (if x342000 = x343000 then (laws_eqIntA2.l0 k (wrap64 (x5 + 1)) x342000 x342001 x343000 x343001) else (some false)) else (if x5 = 1 then (if x342001 = x343001 then (laws_eqIntA2.l0 k (wrap64 (x5 + 1)) x342000 x342001 x343000 x343001) else (some false)) else (none))) else (some true)
def laws_eqIntA2.f (k : Nat) (a0_0 : Int) (a0_1 : Int) (a1_0 : Int) (a1_1 : Int) : Option (Bool) := laws_eqIntA2.l0 k 0 a0_0 a0_1 a1_0 a1_1
theorem laws_eqIntA2.mono_l : ∀ k, (∀ y0 y1 y2 y3 y4, LeO (laws_eqIntA2.l0 k y0 y1 y2 y3 y4) (laws_eqIntA2.l0 (k + 1) y0 y1 y2 y3 y4))
 | 0 => fun _ _ _ _ _ r h => by simp [laws_eqIntA2.l0] at h
 | k + 1 => by
  have ih0 := laws_eqIntA2.mono_l k
  ·intro y0 y1 y2 y3 y4
   unfold laws_eqIntA2.l0
   repeat' first
   | (with_reducible exact ih0 _ _ _ _ _)
   | (with_reducible exact LeO.refl _)
   | (with_reducible exact LeO.none _)
   | (with_reducible refine LeO.ite ?_ ?_)
   | (with_reducible refine LeO.bind ?_ (fun _ => ?_))
   | exact ih0 _ _ _ _ _
   | exact LeO.none _
   | refine LeO.ite ?_ ?_
   | refine LeO.bind ?_ (fun _ => ?_)
theorem laws_eqIntA2.mono : ∀ a0 a1 a2 a3 k, LeO (laws_eqIntA2.f k a0 a1 a2 a3) (laws_eqIntA2.f (k + 1) a0 a1 a2 a3) := by
 intro a0 a1 a2 a3 k
 have ih0 := laws_eqIntA2.mono_l k
 unfold laws_eqIntA2.f
 repeat' first
   | (with_reducible exact ih0 _ _ _ _ _)
   | (with_reducible exact LeO.refl _)
   | (with_reducible exact LeO.none _)
   | (with_reducible refine LeO.ite ?_ ?_)
   | (with_reducible refine LeO.bind ?_ (fun _ => ?_))
   | exact ih0 _ _ _ _ _
   | exact LeO.none _
   | refine LeO.ite ?_ ?_
   | refine LeO.bind ?_ (fun _ => ?_)
set_option maxHeartbeats 8000000 in
set_option maxRecDepth 100000 in
theorem laws_eqIntA2.calls (k : Nat) (a0_0 : Int) (a0_1 : Int) (a1_0 : Int) (a1_1 : Int) (r : Bool) (w : World) (h : laws_eqIntA2.f k a0_0 a0_1 a1_0 a1_1 = some r) :
  Calls Try.prog 33 #[.agg #[.int .i64 a0_0, .int .i64 a0_1], .agg #[.int .i64 a1_0, .int .i64 a1_1]] w fun e w' => e = .returned (.bool r) ∧ Below w.heap.size w w' := by
 have hu53 := Try.underlying53
 have HB := Aside0.mk (Below.refl w.heap.size w)
 have H : (laws_eqIntA2.l0 k 0 a0_0 a0_1 a1_0 a1_1) = some r := h
 clear h
 have H' := Aside0.mk H
 clear H
 go_enter Try.func33, Try.ntmps33
 go_wp2_with (first | ((with_reducible refine gate_dst (N := 2) rfl ?_); refine bE 2 #[.int .i64 a0_0, .int .i64 a0_1] 53 ?_; intro gb341 hg w3 hbox hb; have n0_ := Aside0.mk (below_step bB hb); have n1_ := Aside0.mk (hbox); have n2_ := Aside0.mk ((by rw [hg]; exact (below_size bB) : w.heap.size ≤ gb341)); have n3_ := Aside0.mk ((by rw [hg]; exact (below_size bB) : w.heap.size ≤ gb341)); clear HB; have HB := n0_; have BK341 := n1_; have GW341 := n2_; have GE341 := n3_; clear n0_ n1_ n2_ n3_; clear hb hbox hg) | ((with_reducible refine gate_dst (N := 3) rfl ?_); refine bE 3 #[.int .i64 a1_0, .int .i64 a1_1] 53 ?_; intro gb342 hg w4 hbox hb; have n0_ := Aside0.mk (blk_below (g := gb341) (o := .cells #[.int .i64 a0_0, .int .i64 a0_1] 53 (0, 0)) kB hb); have n1_ := Aside0.mk (below_step bS hb); have n2_ := Aside0.mk (hbox); have n3_ := Aside0.mk ((by rw [hg]; exact (below_size bS) : w.heap.size ≤ gb342)); have n4_ := Aside0.mk ((by rw [hg]; exact (below_size bS) : w.heap.size ≤ gb342)); have n5_ := Aside0.mk ((by rw [hg]; exact Nat.ne_of_lt (blk_lt (g := gb341) (o := .cells #[.int .i64 a0_0, .int .i64 a0_1] 53 (0, 0)) kB) : gb341 ≠ gb342)); have n6_ := Aside0.mk ((by rw [hg]; exact Nat.ne_of_gt (blk_lt (g := gb341) (o := .cells #[.int .i64 a0_0, .int .i64 a0_1] 53 (0, 0)) kB) : gb342 ≠ gb341)); clear BK341; clear HB; have BK341 := n0_; have HB := n1_; have BK342 := n2_; have GW342 := n3_; have GE342 := n4_; have NB341_342 := n5_; have NB342_341 := n6_; clear n0_ n1_ n2_ n3_ n4_ n5_ n6_; clear hb hbox hg))
 repeat (go_quiet (first | ((with_reducible refine gate_dst (N := 2) rfl ?_); refine bE 2 #[.int .i64 a0_0, .int .i64 a0_1] 53 ?_; intro gb341 hg w3 hbox hb; have n0_ := Aside0.mk (below_step bB hb); have n1_ := Aside0.mk (hbox); have n2_ := Aside0.mk ((by rw [hg]; exact (below_size bB) : w.heap.size ≤ gb341)); have n3_ := Aside0.mk ((by rw [hg]; exact (below_size bB) : w.heap.size ≤ gb341)); clear HB; have HB := n0_; have BK341 := n1_; have GW341 := n2_; have GE341 := n3_; clear n0_ n1_ n2_ n3_; clear hb hbox hg) | ((with_reducible refine gate_dst (N := 3) rfl ?_); refine bE 3 #[.int .i64 a1_0, .int .i64 a1_1] 53 ?_; intro gb342 hg w4 hbox hb; have n0_ := Aside0.mk (blk_below (g := gb341) (o := .cells #[.int .i64 a0_0, .int .i64 a0_1] 53 (0, 0)) kB hb); have n1_ := Aside0.mk (below_step bS hb); have n2_ := Aside0.mk (hbox); have n3_ := Aside0.mk ((by rw [hg]; exact (below_size bS) : w.heap.size ≤ gb342)); have n4_ := Aside0.mk ((by rw [hg]; exact (below_size bS) : w.heap.size ≤ gb342)); have n5_ := Aside0.mk ((by rw [hg]; exact Nat.ne_of_lt (blk_lt (g := gb341) (o := .cells #[.int .i64 a0_0, .int .i64 a0_1] 53 (0, 0)) kB) : gb341 ≠ gb342)); have n6_ := Aside0.mk ((by rw [hg]; exact Nat.ne_of_gt (blk_lt (g := gb341) (o := .cells #[.int .i64 a0_0, .int .i64 a0_1] 53 (0, 0)) kB) : gb342 ≠ gb341)); clear BK341; clear HB; have BK341 := n0_; have HB := n1_; have BK342 := n2_; have GW342 := n3_; have GE342 := n4_; have NB341_342 := n5_; have NB342_341 := n6_; clear n0_ n1_ n2_ n3_ n4_ n5_ n6_; clear hb hbox hg)); try go_wp2_with (first | ((with_reducible refine gate_dst (N := 2) rfl ?_); refine bE 2 #[.int .i64 a0_0, .int .i64 a0_1] 53 ?_; intro gb341 hg w3 hbox hb; have n0_ := Aside0.mk (below_step bB hb); have n1_ := Aside0.mk (hbox); have n2_ := Aside0.mk ((by rw [hg]; exact (below_size bB) : w.heap.size ≤ gb341)); have n3_ := Aside0.mk ((by rw [hg]; exact (below_size bB) : w.heap.size ≤ gb341)); clear HB; have HB := n0_; have BK341 := n1_; have GW341 := n2_; have GE341 := n3_; clear n0_ n1_ n2_ n3_; clear hb hbox hg) | ((with_reducible refine gate_dst (N := 3) rfl ?_); refine bE 3 #[.int .i64 a1_0, .int .i64 a1_1] 53 ?_; intro gb342 hg w4 hbox hb; have n0_ := Aside0.mk (blk_below (g := gb341) (o := .cells #[.int .i64 a0_0, .int .i64 a0_1] 53 (0, 0)) kB hb); have n1_ := Aside0.mk (below_step bS hb); have n2_ := Aside0.mk (hbox); have n3_ := Aside0.mk ((by rw [hg]; exact (below_size bS) : w.heap.size ≤ gb342)); have n4_ := Aside0.mk ((by rw [hg]; exact (below_size bS) : w.heap.size ≤ gb342)); have n5_ := Aside0.mk ((by rw [hg]; exact Nat.ne_of_lt (blk_lt (g := gb341) (o := .cells #[.int .i64 a0_0, .int .i64 a0_1] 53 (0, 0)) kB) : gb341 ≠ gb342)); have n6_ := Aside0.mk ((by rw [hg]; exact Nat.ne_of_gt (blk_lt (g := gb341) (o := .cells #[.int .i64 a0_0, .int .i64 a0_1] 53 (0, 0)) kB) : gb342 ≠ gb341)); clear BK341; clear HB; have BK341 := n0_; have HB := n1_; have BK342 := n2_; have GW342 := n3_; have GE342 := n4_; have NB341_342 := n5_; have NB342_341 := n6_; clear n0_ n1_ n2_ n3_ n4_ n5_ n6_; clear hb hbox hg)))
 go_loopg [5] k (fun kq v5 w' => ∃ (x5_1 : Int), v5 = .int .i64 x5_1 ∧ Aside0 (laws_eqIntA2.l0 kq x5_1 a0_0 a0_1 a1_0 a1_1 = some r) ∧ Aside0 (kq ≤ k) ∧ Aside0 (w'.heap[gb341]? = some (.cells #[.int .i64 a0_0, .int .i64 a0_1] 53 (0, 0))) ∧ Aside0 (w'.heap[gb342]? = some (.cells #[.int .i64 a1_0, .int .i64 a1_1] 53 (0, 0))) ∧ Aside0 (Below w.heap.size w w'))
 case atStart => exact ⟨(0), sD, H', ⟨Nat.le_refl _⟩, ⟨kB⟩, ⟨kB⟩, ⟨by repeat (first | (with_reducible first | exact HB.out | apply below_alloc | apply pw_below_drewN | apply below_drew1 | refine below_set ?_ GE341.out | refine below_set ?_ GE342.out) | exact HB.out)⟩⟩
 case round =>
  clear H'
  try clear p2
  try clear c3
  obtain ⟨x5_1, rfl, HA, HK1, BK341, BK342, HB⟩ := hrel
  cases gk with
  | zero => exact absurd HA.out (by simp [laws_eqIntA2.l0])
  | succ k1 =>
   have H := HA.out
   clear HA
   simp only [laws_eqIntA2.l0] at H
   by_cases c5 : x5_1 < 2
   ·rw [if_pos c5] at H
    have c5b0 : decide (x5_1 < 2) = true := decide_eq_true c5
    clear c5
    by_cases c6 : x5_1 = 0
    ·rw [if_pos c6] at H
     subst c6
     by_cases c7 : a0_0 = a1_0
     ·rw [if_pos c7] at H
      have c7b0 : (a0_0 == a1_0) = true := beq_iff_eq.mpr c7
      have c7b1 : (a0_0 != a1_0) = false := bne_eq_false_iff_eq.mpr c7
      clear c7
      have H' := Aside0.mk H
      clear H
      have hnb8 := NB341_342.out
      have hnc8 := NB342_341.out
      have hcz9_0 := (blk_cell BK341.out 0).trans (show _ = some ((.int .i64 a0_0) : Value) from rfl)
      have hcz9_1 := (blk_cell BK341.out 1).trans (show _ = some ((.int .i64 a0_1) : Value) from rfl)
      have hfz9_0 := blk_frozen BK341.out 0
      have hfz9_1 := blk_frozen BK341.out 1
      have hcz10_0 := (blk_cell BK342.out 0).trans (show _ = some ((.int .i64 a1_0) : Value) from rfl)
      have hcz10_1 := (blk_cell BK342.out 1).trans (show _ = some ((.int .i64 a1_1) : Value) from rfl)
      have hfz10_0 := blk_frozen BK342.out 0
      have hfz10_1 := blk_frozen BK342.out 1
      go_wp2
      repeat (go_quiet (fail); try go_wp2)
      go_roundg k1
      case measure => have := HK1.out; omega
      case rel => exact ⟨(wrap64 (0 + 1)), (by first | rfl | (simp; done) | (simp; unfold wrap64; omega) | (simp [*]; done)), H', ⟨by have := HK1.out; omega⟩, ⟨kB⟩, ⟨kB⟩, ⟨by repeat (first | (with_reducible first | exact HB.out | apply below_alloc | apply pw_below_drewN | apply below_drew1 | refine below_set ?_ GE341.out | refine below_set ?_ GE342.out) | exact HB.out)⟩⟩
     ·rw [if_neg c7] at H
      have c7b0 : (a0_0 == a1_0) = false := beq_eq_false_iff_ne.mpr c7
      have c7b1 : (a0_0 != a1_0) = true := bne_iff_ne.mpr c7
      obtain rfl := Option.some.inj H
      have hnb11 := NB341_342.out
      have hnc11 := NB342_341.out
      have hcz12_0 := (blk_cell BK341.out 0).trans (show _ = some ((.int .i64 a0_0) : Value) from rfl)
      have hcz12_1 := (blk_cell BK341.out 1).trans (show _ = some ((.int .i64 a0_1) : Value) from rfl)
      have hfz12_0 := blk_frozen BK341.out 0
      have hfz12_1 := blk_frozen BK341.out 1
      have hcz13_0 := (blk_cell BK342.out 0).trans (show _ = some ((.int .i64 a1_0) : Value) from rfl)
      have hcz13_1 := (blk_cell BK342.out 1).trans (show _ = some ((.int .i64 a1_1) : Value) from rfl)
      have hfz13_0 := blk_frozen BK342.out 0
      have hfz13_1 := blk_frozen BK342.out 1
      go_wp2
      repeat (go_quiet (fail); try go_wp2)
      go_ret
      exact ⟨rE, bS⟩
    ·rw [if_neg c6] at H
     have c6b0 : (x5_1 == 0) = false := beq_eq_false_iff_ne.mpr c6
     have c6b1 : (x5_1 != 0) = true := bne_iff_ne.mpr c6
     by_cases c14 : x5_1 = 1
     ·rw [if_pos c14] at H
      subst c14
      by_cases c15 : a0_1 = a1_1
      ·rw [if_pos c15] at H
       have c15b0 : (a0_1 == a1_1) = true := beq_iff_eq.mpr c15
       have c15b1 : (a0_1 != a1_1) = false := bne_eq_false_iff_eq.mpr c15
       clear c15
       have H' := Aside0.mk H
       clear H
       have hnb16 := NB341_342.out
       have hnc16 := NB342_341.out
       have hcz17_0 := (blk_cell BK341.out 0).trans (show _ = some ((.int .i64 a0_0) : Value) from rfl)
       have hcz17_1 := (blk_cell BK341.out 1).trans (show _ = some ((.int .i64 a0_1) : Value) from rfl)
       have hfz17_0 := blk_frozen BK341.out 0
       have hfz17_1 := blk_frozen BK341.out 1
       have hcz18_0 := (blk_cell BK342.out 0).trans (show _ = some ((.int .i64 a1_0) : Value) from rfl)
       have hcz18_1 := (blk_cell BK342.out 1).trans (show _ = some ((.int .i64 a1_1) : Value) from rfl)
       have hfz18_0 := blk_frozen BK342.out 0
       have hfz18_1 := blk_frozen BK342.out 1
       go_wp2
       repeat (go_quiet (fail); try go_wp2)
       go_roundg k1
       case measure => have := HK1.out; omega
       case rel => exact ⟨(wrap64 (1 + 1)), (by first | rfl | (simp; done) | (simp; unfold wrap64; omega) | (simp [*]; done)), H', ⟨by have := HK1.out; omega⟩, ⟨kB⟩, ⟨kB⟩, ⟨by repeat (first | (with_reducible first | exact HB.out | apply below_alloc | apply pw_below_drewN | apply below_drew1 | refine below_set ?_ GE341.out | refine below_set ?_ GE342.out) | exact HB.out)⟩⟩
      ·rw [if_neg c15] at H
       have c15b0 : (a0_1 == a1_1) = false := beq_eq_false_iff_ne.mpr c15
       have c15b1 : (a0_1 != a1_1) = true := bne_iff_ne.mpr c15
       obtain rfl := Option.some.inj H
       have hnb19 := NB341_342.out
       have hnc19 := NB342_341.out
       have hcz20_0 := (blk_cell BK341.out 0).trans (show _ = some ((.int .i64 a0_0) : Value) from rfl)
       have hcz20_1 := (blk_cell BK341.out 1).trans (show _ = some ((.int .i64 a0_1) : Value) from rfl)
       have hfz20_0 := blk_frozen BK341.out 0
       have hfz20_1 := blk_frozen BK341.out 1
       have hcz21_0 := (blk_cell BK342.out 0).trans (show _ = some ((.int .i64 a1_0) : Value) from rfl)
       have hcz21_1 := (blk_cell BK342.out 1).trans (show _ = some ((.int .i64 a1_1) : Value) from rfl)
       have hfz21_0 := blk_frozen BK342.out 0
       have hfz21_1 := blk_frozen BK342.out 1
       go_wp2
       repeat (go_quiet (fail); try go_wp2)
       go_ret
       exact ⟨rE, bS⟩
     ·rw [if_neg c14] at H
      have c14b0 : (x5_1 == 1) = false := beq_eq_false_iff_ne.mpr c14
      have c14b1 : (x5_1 != 1) = true := bne_iff_ne.mpr c14
      exact absurd H (by simp)
   ·rw [if_neg c5] at H
    have c5b0 : decide (x5_1 < 2) = false := decide_eq_false c5
    clear c5
    obtain rfl := Option.some.inj H
    go_wp2
    repeat (go_quiet (fail); try go_wp2)
    go_ret
    exact ⟨rE, bS⟩

/-! ### laws_eqIntA2S: function 14 -/
def laws_eqIntA2S.l0 : Nat → List (S53) → List (S53) → Int → Option (Bool)
 | 0, _, _, _ => none
 | k + 1, x0, x1, x5 => if x5 < (x0.length : Int) then (if 0 ≤ x5 then (if x5 < (x1.length : Int) then ((laws_eqIntA2.f k ((rd_T53 x0 x5).f0) ((rd_T53 x0 x5).f1) ((rd_T53 x1 x5).f0) ((rd_T53 x1 x5).f1)).bind fun t345 => (if t345 = true then (laws_eqIntA2S.l0 k x0 x1 (wrap64 (x5 + 1))) else (some false))) else (none)) else (none)) else (some true)
def laws_eqIntA2S.f (k : Nat) (l0 : List (S53)) (l1 : List (S53)) : Option (Bool) := if (l0.length : Int) = (l1.length : Int) then (laws_eqIntA2S.l0 k l0 l1 0) else (some false)
theorem laws_eqIntA2S.mono_l : ∀ k, (∀ y0 y1 y2, LeO (laws_eqIntA2S.l0 k y0 y1 y2) (laws_eqIntA2S.l0 (k + 1) y0 y1 y2))
 | 0 => fun _ _ _ r h => by simp [laws_eqIntA2S.l0] at h
 | k + 1 => by
  have ih0 := laws_eqIntA2S.mono_l k
  ·intro y0 y1 y2
   unfold laws_eqIntA2S.l0
   repeat' first
   | (with_reducible exact ih0 _ _ _)
   | (with_reducible exact laws_eqIntA2.mono _ _ _ _ _)
   | (with_reducible exact LeO.refl _)
   | (with_reducible exact LeO.none _)
   | (with_reducible refine LeO.ite ?_ ?_)
   | (with_reducible refine LeO.bind ?_ (fun _ => ?_))
   | exact ih0 _ _ _
   | exact laws_eqIntA2.mono _ _ _ _ _
   | exact LeO.none _
   | refine LeO.ite ?_ ?_
   | refine LeO.bind ?_ (fun _ => ?_)
theorem laws_eqIntA2S.mono : ∀ a0 a1 k, LeO (laws_eqIntA2S.f k a0 a1) (laws_eqIntA2S.f (k + 1) a0 a1) := by
 intro a0 a1 k
 have ih0 := laws_eqIntA2S.mono_l k
 unfold laws_eqIntA2S.f
 repeat' first
   | (with_reducible exact ih0 _ _ _)
   | (with_reducible exact laws_eqIntA2.mono _ _ _ _ _)
   | (with_reducible exact LeO.refl _)
   | (with_reducible exact LeO.none _)
   | (with_reducible refine LeO.ite ?_ ?_)
   | (with_reducible refine LeO.bind ?_ (fun _ => ?_))
   | exact ih0 _ _ _
   | exact laws_eqIntA2.mono _ _ _ _ _
   | exact LeO.none _
   | refine LeO.ite ?_ ?_
   | refine LeO.bind ?_ (fun _ => ?_)
def laws_eqIntA2S.T6 : Bool × List (List Nat × List Nat) := (true, [([], []), ([], []), ([0, 1], [0, 1]), ([2], [2]), ([], []), ([], []), ([4, 5], [4, 5]), ([6], [6]), ([3, 7], [3, 7]), ([8], [8])])
def laws_eqIntA2S.B6 : List Nat := [0, 0, 3, 7, 0, 0, 48, 112, 255, 511]
theorem laws_eqIntA2S.tab6 : rtab .any (opsOf Try.f14 6) = laws_eqIntA2S.T6 := by kernel_rfl
theorem laws_eqIntA2S.bits6 : waitsOk laws_eqIntA2S.T6.2 laws_eqIntA2S.B6 = true := by kernel_rfl
set_option maxHeartbeats 8000000 in
set_option maxRecDepth 100000 in
theorem laws_eqIntA2S.calls (k : Nat) (A0 : Option Addr) (c0 : Nat) (l0 : List (S53)) (A1 : Option Addr) (c1 : Nat) (l1 : List (S53)) (r : Bool) (w : World) (hr0 : Kd.C k53 w A0 l0.length l0) (hc0 : l0.length ≤ c0) (hr1 : Kd.C k53 w A1 l1.length l1) (hc1 : l1.length ≤ c1) (h : laws_eqIntA2S.f k l0 l1 = some r) :
  Calls Try.prog 14 #[.slice A0 l0.length c0, .slice A1 l1.length c1] w fun e w' => e = .returned (.bool r) ∧ Below w.heap.size w w' := by
 have hu53 := Try.underlying53
 have HR0 := Aside0.mk hr0
 have HC0 := Aside0.mk hc0
 clear hr0 hc0
 have HR1 := Aside0.mk hr1
 have HC1 := Aside0.mk hc1
 clear hr1 hc1
 have HB := Aside0.mk (Below.refl w.heap.size w)
 have H : (if (l0.length : Int) = (l1.length : Int) then (laws_eqIntA2S.l0 k l0 l1 0) else (some false)) = some r := h
 clear h
 by_cases c3 : (l0.length : Int) = (l1.length : Int)
 ·rw [if_pos c3] at H
  have c3b0 : ((l0.length : Int) == (l1.length : Int)) = true := beq_iff_eq.mpr c3
  have c3b1 : ((l0.length : Int) != (l1.length : Int)) = false := bne_eq_false_iff_eq.mpr c3
  have c3b2 : (l0.length == l1.length) = true := by first | simpa using c3 | (simp at c3 ⊢; omega)
  clear c3
  have H' := Aside0.mk H
  clear H
  go_enter Try.func14, Try.ntmps14
  go_wp2
  go_loopg [5] k (fun kq v5 w' => ∃ (x5_1 : Int), v5 = .int .i64 x5_1 ∧ Aside0 (laws_eqIntA2S.l0 kq l0 l1 x5_1 = some r) ∧ Aside0 (kq ≤ k) ∧ Aside0 (Below w.heap.size w w'))
  case atStart => exact ⟨(0), sD, H', ⟨Nat.le_refl _⟩, ⟨by repeat (first | (with_reducible first | exact HB.out | apply below_alloc | apply pw_below_drewN | apply below_drew1) | exact HB.out)⟩⟩
  case round =>
   clear H'
   try clear c1
   try clear p2
   try clear c3
   try clear c3b0
   try clear c3b1
   try clear c3b2
   obtain ⟨x5_1, rfl, HA, HK1, HB⟩ := hrel
   cases gk with
   | zero => exact absurd HA.out (by simp [laws_eqIntA2S.l0])
   | succ k1 =>
    have H := HA.out
    clear HA
    simp only [laws_eqIntA2S.l0] at H
    by_cases c4 : x5_1 < (l0.length : Int)
    ·rw [if_pos c4] at H
     have c4b0 : decide (x5_1 < (l0.length : Int)) = true := decide_eq_true c4
     clear c4
     by_cases c5 : 0 ≤ x5_1; rotate_left
     ·rw [if_neg c5] at H; exact absurd H (by simp)
     rw [if_pos c5] at H
     have c5b0 : decide (0 ≤ x5_1) = true := decide_eq_true c5
     clear c5
     by_cases c6 : x5_1 < (l1.length : Int); rotate_left
     ·rw [if_neg c6] at H; exact absurd H (by simp)
     rw [if_pos c6] at H
     have c6b0 : decide (x5_1 < (l1.length : Int)) = true := decide_eq_true c6
     clear c6
     replace H := Option.bind_eq_some_iff.mp H
     obtain ⟨t345, A70, H⟩ := H
     replace H : (if t345 = true then (laws_eqIntA2S.l0 k1 l0 l1 (wrap64 (x5_1 + 1))) else (some false)) = some r := H
     have A7 := Aside0.mk A70
     clear A70
     by_cases c8 : t345 = true
     ·subst c8
      have H1 : (laws_eqIntA2S.l0 k1 l0 l1 (wrap64 (x5_1 + 1))) = some r := by rw [if_pos rfl] at H; exact H
      clear H
      have H := H1
      clear H1
      have H' := Aside0.mk H
      clear H
      try go_wp2
      have n0_ := Aside0.mk (below_drew1 HB.out)
      clear HB
      have HB := n0_
      clear n0_
      have p343 : 0 ≤ (x5_1 : Int) := oD
      have q343 : x5_1 < (l0.length : Int) := oD
      obtain ⟨ad343, e343, hx343_0, hx343_1⟩ := at_T53 HR0.out x5_1 p343 q343
      have hw343_1 := hx343_1
      have hw343_0 := hx343_0
      cases e343
      replace hx343_0 := (cB HB.out hx343_0 :)
      replace hx343_1 := (cB HB.out hx343_1 :)
      replace p343 := eq_true p343
      replace q343 := eq_true q343
      have p344 : 0 ≤ (x5_1 : Int) := oD
      have q344 : x5_1 < (l1.length : Int) := oD
      obtain ⟨ad344, e344, hx344_0, hx344_1⟩ := at_T53 HR1.out x5_1 p344 q344
      have hw344_1 := hx344_1
      have hw344_0 := hx344_0
      cases e344
      replace hx344_0 := (cB HB.out hx344_0 :)
      replace hx344_1 := (cB HB.out hx344_1 :)
      replace p344 := eq_true p344
      replace q344 := eq_true q344
      refine start_ (n := 10) (S := fun w' => w'.cell? (ad343.add ((x5_1).toNat * 2)) = some (.int .i64 ((rd_T53 l0 x5_1).f0)) ∧ w'.cell? ⟨(ad343.add ((x5_1).toNat * 2)).block, (ad343.add ((x5_1).toNat * 2)).off + 1, none⟩ = some (.int .i64 ((rd_T53 l0 x5_1).f1)) ∧ w'.cell? (ad344.add ((x5_1).toNat * 2)) = some (.int .i64 ((rd_T53 l1 x5_1).f0)) ∧ w'.cell? ⟨(ad344.add ((x5_1).toNat * 2)).block, (ad344.add ((x5_1).toNat * 2)).off + 1, none⟩ = some (.int .i64 ((rd_T53 l1 x5_1).f1))) (ds := []) #[false, false, false, false, false, false, false, false, false, false] (by kernel_rfl) rfl rfl ⟨(cB HB.out hw343_0 :), (cB HB.out hw343_1 :), (cB HB.out hw344_0 :), (cB HB.out hw344_1 :)⟩ (fun hHeld => ?_); refine with_tabW laws_eqIntA2S.tab6 laws_eqIntA2S.bits6 (fun HT_ HW_ => ?_)
      generalize wr.drew = w9 at HB hx343_0 hx343_1 hx344_0 hx344_1 hHeld ⊢
      refine pU 0 17 #[true, false, false, false, false, false, false, false, false, false] ?_
      refine pU 1 18 #[true, true, false, false, false, false, false, false, false, false] ?_
      refine pU 2 19 #[true, true, true, false, false, false, false, false, false, false] ?_
      refine pU 4 21 #[true, true, true, false, true, false, false, false, false, false] ?_
      refine pU 5 22 #[true, true, true, false, true, true, false, false, false, false] ?_
      refine pU 6 23 #[true, true, true, false, true, true, true, false, false, false] ?_
      refine tU 3 20 #[true, true, true, true, true, true, true, false, false, false] ?_
      refine tU 7 24 #[true, true, true, true, true, true, true, true, false, false] ?_
      refine one_ (i := 8) (N := some 25) #[true, true, true, true, true, true, true, true, true, false] rfl rfl (one_of HT_.out (by kernel_rfl)) (by decide) (fun K hK => ?_)
      refine goes_ Try.func33 (by kernel_rfl) rfl #[.agg #[.int .i64 ((rd_T53 l0 x5_1).f0), .int .i64 ((rd_T53 l0 x5_1).f1)], .agg #[.int .i64 ((rd_T53 l1 x5_1).f0), .int .i64 ((rd_T53 l1 x5_1).f1)]] (by rfl) rfl rfl aE ?_
      with_reducible refine (laws_eqIntA2.calls k1 ((rd_T53 l0 x5_1).f0) ((rd_T53 l0 x5_1).f1) ((rd_T53 l1 x5_1).f0) ((rd_T53 l1 x5_1).f1) true _ A7.out).mono ?_
      rintro e w10 ⟨rfl, hb⟩
      refine ⟨_, rfl, ?_⟩
      have n0_ := Aside0.mk (below_step bB hb)
      clear HB
      have HB := n0_
      clear n0_
      (try clear hb)
      refine hK.out _ _ ⟨(cB HB.out hw343_0 :), (cB HB.out hw343_1 :), (cB HB.out hw344_0 :), (cB HB.out hw344_1 :)⟩ (fun hHeld => ?_)
      clear hK K
      refine norm_ (a' := ?_) ?_ ?_
      rotate_left
      ·show Act.put _ (some 25) _ = _
       simp only [Act.put, sA, sZ, sS, i64_w, i32_w]
       rfl
      refine pU 9 26 #[true, true, true, true, true, true, true, true, true, true] ?_
      refine done_ (done_of HT_.out (by kernel_rfl)) ?_
      try go_wp2
      go_roundg k1
      case measure => have := HK1.out; omega
      case rel => exact ⟨(wrap64 (x5_1 + 1)), sD, H', ⟨by have := HK1.out; omega⟩, ⟨by repeat (first | (with_reducible first | exact HB.out | apply below_alloc | apply pw_below_drewN | apply below_drew1) | exact HB.out)⟩⟩
     ·replace c8 := Bool.eq_false_iff.mpr c8
      subst c8
      have H1 : (some false) = some r := by rw [if_neg (show ¬ (false = true) by decide)] at H; exact H
      clear H
      have H := H1
      clear H1
      obtain rfl := Option.some.inj H
      try go_wp2
      have n0_ := Aside0.mk (below_drew1 HB.out)
      clear HB
      have HB := n0_
      clear n0_
      have p343 : 0 ≤ (x5_1 : Int) := oD
      have q343 : x5_1 < (l0.length : Int) := oD
      obtain ⟨ad343, e343, hx343_0, hx343_1⟩ := at_T53 HR0.out x5_1 p343 q343
      have hw343_1 := hx343_1
      have hw343_0 := hx343_0
      cases e343
      replace hx343_0 := (cB HB.out hx343_0 :)
      replace hx343_1 := (cB HB.out hx343_1 :)
      replace p343 := eq_true p343
      replace q343 := eq_true q343
      have p344 : 0 ≤ (x5_1 : Int) := oD
      have q344 : x5_1 < (l1.length : Int) := oD
      obtain ⟨ad344, e344, hx344_0, hx344_1⟩ := at_T53 HR1.out x5_1 p344 q344
      have hw344_1 := hx344_1
      have hw344_0 := hx344_0
      cases e344
      replace hx344_0 := (cB HB.out hx344_0 :)
      replace hx344_1 := (cB HB.out hx344_1 :)
      replace p344 := eq_true p344
      replace q344 := eq_true q344
      refine start_ (n := 10) (S := fun w' => w'.cell? (ad343.add ((x5_1).toNat * 2)) = some (.int .i64 ((rd_T53 l0 x5_1).f0)) ∧ w'.cell? ⟨(ad343.add ((x5_1).toNat * 2)).block, (ad343.add ((x5_1).toNat * 2)).off + 1, none⟩ = some (.int .i64 ((rd_T53 l0 x5_1).f1)) ∧ w'.cell? (ad344.add ((x5_1).toNat * 2)) = some (.int .i64 ((rd_T53 l1 x5_1).f0)) ∧ w'.cell? ⟨(ad344.add ((x5_1).toNat * 2)).block, (ad344.add ((x5_1).toNat * 2)).off + 1, none⟩ = some (.int .i64 ((rd_T53 l1 x5_1).f1))) (ds := []) #[false, false, false, false, false, false, false, false, false, false] (by kernel_rfl) rfl rfl ⟨(cB HB.out hw343_0 :), (cB HB.out hw343_1 :), (cB HB.out hw344_0 :), (cB HB.out hw344_1 :)⟩ (fun hHeld => ?_); refine with_tabW laws_eqIntA2S.tab6 laws_eqIntA2S.bits6 (fun HT_ HW_ => ?_)
      generalize wr.drew = w11 at HB hx343_0 hx343_1 hx344_0 hx344_1 hHeld ⊢
      refine pU 0 17 #[true, false, false, false, false, false, false, false, false, false] ?_
      refine pU 1 18 #[true, true, false, false, false, false, false, false, false, false] ?_
      refine pU 2 19 #[true, true, true, false, false, false, false, false, false, false] ?_
      refine pU 4 21 #[true, true, true, false, true, false, false, false, false, false] ?_
      refine pU 5 22 #[true, true, true, false, true, true, false, false, false, false] ?_
      refine pU 6 23 #[true, true, true, false, true, true, true, false, false, false] ?_
      refine tU 3 20 #[true, true, true, true, true, true, true, false, false, false] ?_
      refine tU 7 24 #[true, true, true, true, true, true, true, true, false, false] ?_
      refine one_ (i := 8) (N := some 25) #[true, true, true, true, true, true, true, true, true, false] rfl rfl (one_of HT_.out (by kernel_rfl)) (by decide) (fun K hK => ?_)
      refine goes_ Try.func33 (by kernel_rfl) rfl #[.agg #[.int .i64 ((rd_T53 l0 x5_1).f0), .int .i64 ((rd_T53 l0 x5_1).f1)], .agg #[.int .i64 ((rd_T53 l1 x5_1).f0), .int .i64 ((rd_T53 l1 x5_1).f1)]] (by rfl) rfl rfl aE ?_
      with_reducible refine (laws_eqIntA2.calls k1 ((rd_T53 l0 x5_1).f0) ((rd_T53 l0 x5_1).f1) ((rd_T53 l1 x5_1).f0) ((rd_T53 l1 x5_1).f1) false _ A7.out).mono ?_
      rintro e w12 ⟨rfl, hb⟩
      refine ⟨_, rfl, ?_⟩
      have n0_ := Aside0.mk (below_step bB hb)
      clear HB
      have HB := n0_
      clear n0_
      (try clear hb)
      refine hK.out _ _ ⟨(cB HB.out hw343_0 :), (cB HB.out hw343_1 :), (cB HB.out hw344_0 :), (cB HB.out hw344_1 :)⟩ (fun hHeld => ?_)
      clear hK K
      refine norm_ (a' := ?_) ?_ ?_
      rotate_left
      ·show Act.put _ (some 25) _ = _
       simp only [Act.put, sA, sZ, sS, i64_w, i32_w]
       rfl
      refine pU 9 26 #[true, true, true, true, true, true, true, true, true, true] ?_
      refine done_ (done_of HT_.out (by kernel_rfl)) ?_
      try go_wp2
      go_ret
      exact ⟨rE, bB⟩
    ·rw [if_neg c4] at H
     have c4b0 : decide (x5_1 < (l0.length : Int)) = false := decide_eq_false c4
     clear c4
     obtain rfl := Option.some.inj H
     go_wp2
     go_ret
     exact ⟨rE, bB⟩
 ·rw [if_neg c3] at H
  have c3b0 : ((l0.length : Int) == (l1.length : Int)) = false := beq_eq_false_iff_ne.mpr c3
  have c3b1 : ((l0.length : Int) != (l1.length : Int)) = true := bne_iff_ne.mpr c3
  have c3b2 : (l0.length == l1.length) = false := by first | simpa using c3 | (simp at c3 ⊢; omega)
  obtain rfl := Option.some.inj H
  go_enter Try.func14, Try.ntmps14
  go_wp2
  go_ret
  exact ⟨rE, bB⟩

/-! ### laws_markJobS: function 15 -/
def laws_markJobS.l0 : Nat → List (S50) → Int → Int → Option (Int × (List (S50)))
 | 0, _, _, _ => none
 | k + 1, x0, x1, x5 => if x5 < (x0.length : Int) then (if 0 ≤ x5 then ((some (x0.set (x5 : Int).toNat (⟨x1, (rd_T50 x0 x5).f1, (rd_T50 x0 x5).f2, (rd_T50 x0 x5).f3⟩ : S50) : List (S50))).bind fun y346 => ((some (y346.set (x5 : Int).toNat (⟨(rd_T50 y346 x5).f0, wrap64 (x1 + 1), (rd_T50 y346 x5).f2, (rd_T50 y346 x5).f3⟩ : S50) : List (S50))).bind fun y347 => ((some (y347.set (x5 : Int).toNat (⟨(rd_T50 y347 x5).f0, (rd_T50 y347 x5).f1, wrap64 ((wrap64 (x1 + 1)) + 1), (rd_T50 y347 x5).f3⟩ : S50) : List (S50))).bind fun y348 => (laws_markJobS.l0 k (y348.set (x5 : Int).toNat (⟨(rd_T50 y348 x5).f0, (rd_T50 y348 x5).f1, (rd_T50 y348 x5).f2, wrap64 ((wrap64 ((wrap64 (x1 + 1)) + 1)) + 1)⟩ : S50)) (wrap64 ((wrap64 ((wrap64 ((wrap64 (x1 + 1)) + 1)) + 1)) + 1)) (wrap64 (x5 + 1)))))) else (none)) else (some (x1, x0))
def laws_markJobS.f (k : Nat) (l0 : List (S50)) (a1 : Int) : Option (Int × (List (S50))) := laws_markJobS.l0 k l0 a1 0
theorem laws_markJobS.mono_l : ∀ k, (∀ y0 y1 y2, LeO (laws_markJobS.l0 k y0 y1 y2) (laws_markJobS.l0 (k + 1) y0 y1 y2))
 | 0 => fun _ _ _ r h => by simp [laws_markJobS.l0] at h
 | k + 1 => by
  have ih0 := laws_markJobS.mono_l k
  ·intro y0 y1 y2
   unfold laws_markJobS.l0
   repeat' first
   | (with_reducible exact ih0 _ _ _)
   | (with_reducible exact LeO.refl _)
   | (with_reducible exact LeO.none _)
   | (with_reducible refine LeO.ite ?_ ?_)
   | (with_reducible refine LeO.bind ?_ (fun _ => ?_))
   | exact ih0 _ _ _
   | exact LeO.none _
   | refine LeO.ite ?_ ?_
   | refine LeO.bind ?_ (fun _ => ?_)
theorem laws_markJobS.mono : ∀ a0 a1 k, LeO (laws_markJobS.f k a0 a1) (laws_markJobS.f (k + 1) a0 a1) := by
 intro a0 a1 k
 have ih0 := laws_markJobS.mono_l k
 unfold laws_markJobS.f
 repeat' first
   | (with_reducible exact ih0 _ _ _)
   | (with_reducible exact LeO.refl _)
   | (with_reducible exact LeO.none _)
   | (with_reducible refine LeO.ite ?_ ?_)
   | (with_reducible refine LeO.bind ?_ (fun _ => ?_))
   | exact ih0 _ _ _
   | exact LeO.none _
   | refine LeO.ite ?_ ?_
   | refine LeO.bind ?_ (fun _ => ?_)
set_option maxHeartbeats 8000000 in
set_option maxRecDepth 100000 in
theorem laws_markJobS.calls (k : Nat) (P0_ : Nat → Prop) (u9000_ : Value) (l0 : List (S50)) (a1 : Int) (r1 : Int) (r2 : List (S50)) (w0 w : World) (hB : Below w0.heap.size w0 w) (ho0 : Kd.R k50 50 w w0.heap.size P0_ u9000_ l0) (h : laws_markJobS.f k l0 a1 = some (r1, r2)) :
  Calls Try.prog 15 #[u9000_, .int .i64 a1] w fun e w' => e = .returned (.int .i64 r1) ∧ Kd.R k50 50 w' w0.heap.size (fun k_ => (P0_ k_ ∨ w.heap.size ≤ k_)) u9000_ r2 ∧ Below w0.heap.size w0 w' ∧ Kept w w' (fun k_ => P0_ k_) := by
 have HO0 := Aside0.mk (show Kd.R k50 50 w w0.heap.size (fun k_ => (P0_ k_ ∨ w.heap.size ≤ k_)) u9000_ l0 from Kd.R_mono ho0 (fun k_ hk => (.inl hk)))
 have HK := Aside0.mk (Kept.refl w (fun k_ => P0_ k_))
 have HW0 := Aside0.mk hB.size
 have HB := Aside0.mk hB
 clear hB
 have H : (laws_markJobS.l0 k l0 a1 0) = some (r1, r2) := h
 clear h
 have H' := Aside0.mk H
 clear H
 go_enter Try.func15, Try.ntmps15
 go_wp2
 go_loopg [1, 5] k (fun kq v1 v5 w' => ∃ (x0_1 : List (S50)) (x1_1 : Int) (x5_1 : Int), v1 = .int .i64 x1_1 ∧ v5 = .int .i64 x5_1 ∧ Aside0 (laws_markJobS.l0 kq x0_1 x1_1 x5_1 = some (r1, r2)) ∧ Aside0 (kq ≤ k) ∧ Aside0 (Kd.R k50 50 w' w0.heap.size (fun k_ => (P0_ k_ ∨ w.heap.size ≤ k_)) u9000_ x0_1) ∧ Aside0 (Kept w w' (fun k_ => P0_ k_)) ∧ Aside0 (Below w0.heap.size w0 w'))
 case atStart => exact ⟨(l0), (a1), (0), sD, sD, H', ⟨Nat.le_refl _⟩, ⟨kR⟩, ⟨by repeat (first | (with_reducible first | exact HK.out | apply Kept.alloc | apply Kept.drewN | apply Kept.drew) | exact HK.out)⟩, ⟨by repeat (first | (with_reducible first | exact HB.out | apply below_alloc | apply pw_below_drewN | apply below_drew1) | exact HB.out)⟩⟩
 case round =>
  clear H'
  try clear c1
  try clear p2
  obtain ⟨x0_1, x1_1, x5_1, rfl, rfl, HA, HK1, HO_0, HK, HB⟩ := hrel
  cases gk with
  | zero => exact absurd HA.out (by simp [laws_markJobS.l0])
  | succ k1 =>
   have H := HA.out
   clear HA
   simp only [laws_markJobS.l0] at H
   by_cases c3 : x5_1 < (x0_1.length : Int)
   ·rw [if_pos c3] at H
    have c3b0 : decide (x5_1 < (x0_1.length : Int)) = true := decide_eq_true c3
    clear c3
    by_cases c4 : 0 ≤ x5_1; rotate_left
    ·rw [if_neg c4] at H; exact absurd H (by simp)
    rw [if_pos c4] at H
    have c4b0 : decide (0 ≤ x5_1) = true := decide_eq_true c4
    clear c4
    obtain ⟨y346, hy346⟩ : ∃ y_ : List (S50), y_ = (x0_1.set (x5_1 : Int).toNat (⟨x1_1, (rd_T50 x0_1 x5_1).f1, (rd_T50 x0_1 x5_1).f2, (rd_T50 x0_1 x5_1).f3⟩ : S50)) := ⟨_, rfl⟩
    replace H : ((some (y346.set (x5_1 : Int).toNat (⟨(rd_T50 y346 x5_1).f0, wrap64 (x1_1 + 1), (rd_T50 y346 x5_1).f2, (rd_T50 y346 x5_1).f3⟩ : S50) : List (S50))).bind fun y347 => ((some (y347.set (x5_1 : Int).toNat (⟨(rd_T50 y347 x5_1).f0, (rd_T50 y347 x5_1).f1, wrap64 ((wrap64 (x1_1 + 1)) + 1), (rd_T50 y347 x5_1).f3⟩ : S50) : List (S50))).bind fun y348 => (laws_markJobS.l0 k1 (y348.set (x5_1 : Int).toNat (⟨(rd_T50 y348 x5_1).f0, (rd_T50 y348 x5_1).f1, (rd_T50 y348 x5_1).f2, wrap64 ((wrap64 ((wrap64 (x1_1 + 1)) + 1)) + 1)⟩ : S50)) (wrap64 ((wrap64 ((wrap64 ((wrap64 (x1_1 + 1)) + 1)) + 1)) + 1)) (wrap64 (x5_1 + 1))))) = some (r1, r2) := by first | (rw [hy346]; with_reducible exact H) | (have H2_ := (Option.bind_some _ _).symm.trans H; rw [hy346]; with_reducible exact H2_) | (have H2_ := (Option.bind_some _ _).symm.trans H; with_reducible exact H2_) | with_reducible exact H | (rw [hy346]; exact H) | exact H
    have Ny346 := Aside0.mk hy346
    clear hy346
    obtain ⟨y347, hy347⟩ : ∃ y_ : List (S50), y_ = (y346.set (x5_1 : Int).toNat (⟨(rd_T50 y346 x5_1).f0, wrap64 (x1_1 + 1), (rd_T50 y346 x5_1).f2, (rd_T50 y346 x5_1).f3⟩ : S50)) := ⟨_, rfl⟩
    replace H : ((some (y347.set (x5_1 : Int).toNat (⟨(rd_T50 y347 x5_1).f0, (rd_T50 y347 x5_1).f1, wrap64 ((wrap64 (x1_1 + 1)) + 1), (rd_T50 y347 x5_1).f3⟩ : S50) : List (S50))).bind fun y348 => (laws_markJobS.l0 k1 (y348.set (x5_1 : Int).toNat (⟨(rd_T50 y348 x5_1).f0, (rd_T50 y348 x5_1).f1, (rd_T50 y348 x5_1).f2, wrap64 ((wrap64 ((wrap64 (x1_1 + 1)) + 1)) + 1)⟩ : S50)) (wrap64 ((wrap64 ((wrap64 ((wrap64 (x1_1 + 1)) + 1)) + 1)) + 1)) (wrap64 (x5_1 + 1)))) = some (r1, r2) := by first | (rw [hy347]; with_reducible exact H) | (have H2_ := (Option.bind_some _ _).symm.trans H; rw [hy347]; with_reducible exact H2_) | (have H2_ := (Option.bind_some _ _).symm.trans H; with_reducible exact H2_) | with_reducible exact H | (rw [hy347]; exact H) | exact H
    have Ny347 := Aside0.mk hy347
    clear hy347
    obtain ⟨y348, hy348⟩ : ∃ y_ : List (S50), y_ = (y347.set (x5_1 : Int).toNat (⟨(rd_T50 y347 x5_1).f0, (rd_T50 y347 x5_1).f1, wrap64 ((wrap64 (x1_1 + 1)) + 1), (rd_T50 y347 x5_1).f3⟩ : S50)) := ⟨_, rfl⟩
    replace H : (laws_markJobS.l0 k1 (y348.set (x5_1 : Int).toNat (⟨(rd_T50 y348 x5_1).f0, (rd_T50 y348 x5_1).f1, (rd_T50 y348 x5_1).f2, wrap64 ((wrap64 ((wrap64 (x1_1 + 1)) + 1)) + 1)⟩ : S50)) (wrap64 ((wrap64 ((wrap64 ((wrap64 (x1_1 + 1)) + 1)) + 1)) + 1)) (wrap64 (x5_1 + 1))) = some (r1, r2) := by first | (rw [hy348]; with_reducible exact H) | (have H2_ := (Option.bind_some _ _).symm.trans H; rw [hy348]; with_reducible exact H2_) | (have H2_ := (Option.bind_some _ _).symm.trans H; with_reducible exact H2_) | with_reducible exact H | (rw [hy348]; exact H) | exact H
    have Ny348 := Aside0.mk hy348
    clear hy348
    obtain ⟨y349, hy349⟩ : ∃ y_ : List (S50), y_ = (y348.set (x5_1 : Int).toNat (⟨(rd_T50 y348 x5_1).f0, (rd_T50 y348 x5_1).f1, (rd_T50 y348 x5_1).f2, wrap64 ((wrap64 ((wrap64 (x1_1 + 1)) + 1)) + 1)⟩ : S50)) := ⟨_, rfl⟩
    replace H : (laws_markJobS.l0 k1 y349 (wrap64 ((wrap64 ((wrap64 ((wrap64 (x1_1 + 1)) + 1)) + 1)) + 1)) (wrap64 (x5_1 + 1))) = some (r1, r2) := by first | (rw [hy349]; with_reducible exact H) | (have H2_ := (Option.bind_some _ _).symm.trans H; rw [hy349]; with_reducible exact H2_) | (have H2_ := (Option.bind_some _ _).symm.trans H; with_reducible exact H2_) | with_reducible exact H | (rw [hy349]; exact H) | exact H
    have Ny349 := Aside0.mk hy349
    clear hy349
    have H' := Aside0.mk H
    clear H
    obtain ⟨Ao9, co9, eo9⟩ := Kd.R_slice HO_0.out
    subst eo9
    have p5 : 0 ≤ (x5_1 : Int) := oD
    have q5 : (x5_1 : Int) < ((x0_1.length : Int) : Int) := oD
    obtain ⟨go5, co5, eo5, gb5, gl5, cl5, HG5⟩ := Kd.R_form HO_0.out (by omega)
    (first | cases eo5 | (injection eo5 with ea_ en_ ec_; (first | subst ea_ | (injection ea_ with ea_; subst ea_)); subst ec_; clear en_))
    have GB5 := Aside0.mk gb5
    have GG5 := Aside0.mk HG5
    clear gb5 gl5 HG5
    have HMgo5 := Aside0.mk (show (P0_ go5 ∨ w.heap.size ≤ go5) from (HO_0.out.1 _ rfl))
    obtain ⟨ce5, hcl5, hM5, hcc5, hfr5⟩ := Kd.R_elem HO_0.out z50 (x5_1 : Int) p5 q5
    obtain rfl := k50_openM hM5
    have hx5_0 : wr.cell? ⟨go5, (x5_1 : Int).toNat * 4, none⟩ = some (.int .i64 ((rd_T50 x0_1 x5_1).f0)) := hcc5 0 _ rfl
    have hx5_1 : wr.cell? ⟨go5, (x5_1 : Int).toNat * 4 + 1, none⟩ = some (.int .i64 ((rd_T50 x0_1 x5_1).f1)) := hcc5 1 _ rfl
    have hx5_2 : wr.cell? ⟨go5, (x5_1 : Int).toNat * 4 + 2, none⟩ = some (.int .i64 ((rd_T50 x0_1 x5_1).f2)) := hcc5 2 _ rfl
    have hx5_3 : wr.cell? ⟨go5, (x5_1 : Int).toNat * 4 + 3, none⟩ = some (.int .i64 ((rd_T50 x0_1 x5_1).f3)) := hcc5 3 _ rfl
    have hf5_0 : wr.frozen? ⟨go5, (x5_1 : Int).toNat * 4, none⟩ = false := hfr5 0
    have hf5_1 : wr.frozen? ⟨go5, (x5_1 : Int).toNat * 4 + 1, none⟩ = false := hfr5 1
    have hf5_2 : wr.frozen? ⟨go5, (x5_1 : Int).toNat * 4 + 2, none⟩ = false := hfr5 2
    have hf5_3 : wr.frozen? ⟨go5, (x5_1 : Int).toNat * 4 + 3, none⟩ = false := hfr5 3
    (try clear hcl5); (try clear hcc5); (try clear hfr5); (try clear hM5)
    replace p5 := eq_true p5
    replace q5 := eq_true q5
    have HX10 := Aside0.mk (show Kd.R k50 50 wr w0.heap.size (fun k_ => (P0_ k_ ∨ w.heap.size ≤ k_)) (.slice (some ⟨go5, 0, none⟩) x0_1.length co9) x0_1 from (by (with_reducible repeat (first | apply Kd.R_alloc | apply Kd.R_drewN | apply Kd.R_drew)); exact HO_0.out))
    obtain ⟨ce10, hcl10, hM10, hcc10, hfr10⟩ := Kd.R_elem HX10.out z50 (x5_1 : Int) (oD) (by have h_ : (x5_1 : Int) < ((x0_1.length : Int) : Int) := oD; first | exact h_ | (have e_ := (Kd.R_reads' HO_0.out).1; omega) | simpa using h_)
    obtain rfl := k50_openM hM10
    have HP10 := Kd.R_seg HX10.out (x5_1 : Int) (oD) (by have h_ : (x5_1 : Int) < ((x0_1.length : Int) : Int) := oD; first | exact h_ | (have e_ := (Kd.R_reads' HO_0.out).1; omega) | simpa using h_) (seg := [.int .i64 x1_1]) (j := 0) hcl10 hcc10 (show 1 ≤ 4 from by decide) (x' := (⟨x1_1, (rd_T50 x0_1 x5_1).f1, (rd_T50 x0_1 x5_1).f2, (rd_T50 x0_1 x5_1).f3⟩ : S50)) (k50_mkM _ _ _ (⟨x1_1, (rd_T50 x0_1 x5_1).f1, (rd_T50 x0_1 x5_1).f2, (rd_T50 x0_1 x5_1).f3⟩ : S50) ) (fun _ hk => hk)
    have hx10_0 := hcc10 0 _ rfl
    (try simp only [show (k50).sz = 4 from rfl, Nat.mul_one, Nat.add_zero] at hx10_0)
    have hf10_0 := hfr10 0
    (try simp only [show (k50).sz = 4 from rfl, Nat.mul_one, Nat.add_zero] at hf10_0)
    (try clear hcl10); (try clear hcc10); (try clear hfr10); (try clear hM10)
    go_wp2_with (first | ((with_reducible refine gate_store (t := 3) (p := 16) rfl ?_); refine store_event (t := 3) (p := 16) (v := ?vo_w11) (w1 := (wr.setCell ⟨go5, (x5_1 : Int).toNat * 4, none⟩ (.int .i64 x1_1))) ?hg ?ho ?hn ?hr ?_; (case ho => rfl); (case hg => rfl); (case hn => rfl); (case hr => first | (go_simp; done) | (go_simp; rfl)); intro w11 hw; have hg : wr.grownBy w11 (some go5) := (by rw [hw]; exact HP10.2); have hp_ : Kd.R k50 50 w11 w0.heap.size (fun k_ => (P0_ k_ ∨ w.heap.size ≤ k_)) (.slice (some ⟨go5, 0, none⟩) x0_1.length co9) y346 := (by rw [hw, Ny346.out]; exact HP10.1); clear HP10; have n0_ := Aside0.mk (hp_); have n1_ := Aside0.mk ((by rw [hw]; exact below_set (HB.out) GB5.out : Below w0.heap.size w0 w11)); have n2_ := Aside0.mk (Kept.of_grown (S := (fun k_ => P0_ k_)) hg (by repeat (first | (with_reducible first | exact HK.out | apply Kept.alloc | apply Kept.drewN | apply Kept.drew) | exact HK.out)) (fun k_ e_ => (HO_0.out.1 k_ e_))); clear HO_0; clear HB; clear HK; have HO_0 := n0_; have HB := n1_; have HK := n2_; clear n0_ n1_ n2_; clear hg hw hp_; have p6 : 0 ≤ (x5_1 : Int) := oD; have q6 : (x5_1 : Int) < ((x0_1.length : Int) : Int) := oD; obtain ⟨ce6, hcl6, hM6, hcc6, hfr6⟩ := Kd.R_elem HO_0.out z50 (x5_1 : Int) p6 q6; obtain rfl := k50_openM hM6; have hx6_0 : w11.cell? ⟨go5, (x5_1 : Int).toNat * 4, none⟩ = some (.int .i64 ((rd_T50 y346 x5_1).f0)) := hcc6 0 _ rfl; have hx6_1 : w11.cell? ⟨go5, (x5_1 : Int).toNat * 4 + 1, none⟩ = some (.int .i64 ((rd_T50 y346 x5_1).f1)) := hcc6 1 _ rfl; have hx6_2 : w11.cell? ⟨go5, (x5_1 : Int).toNat * 4 + 2, none⟩ = some (.int .i64 ((rd_T50 y346 x5_1).f2)) := hcc6 2 _ rfl; have hx6_3 : w11.cell? ⟨go5, (x5_1 : Int).toNat * 4 + 3, none⟩ = some (.int .i64 ((rd_T50 y346 x5_1).f3)) := hcc6 3 _ rfl; have hf6_0 : w11.frozen? ⟨go5, (x5_1 : Int).toNat * 4, none⟩ = false := hfr6 0; have hf6_1 : w11.frozen? ⟨go5, (x5_1 : Int).toNat * 4 + 1, none⟩ = false := hfr6 1; have hf6_2 : w11.frozen? ⟨go5, (x5_1 : Int).toNat * 4 + 2, none⟩ = false := hfr6 2; have hf6_3 : w11.frozen? ⟨go5, (x5_1 : Int).toNat * 4 + 3, none⟩ = false := hfr6 3; (try clear hcl6); (try clear hcc6); (try clear hfr6); (try clear hM6); replace p6 := eq_true p6; replace q6 := eq_true q6; have HX12 := Aside0.mk (show Kd.R k50 50 w11 w0.heap.size (fun k_ => (P0_ k_ ∨ w.heap.size ≤ k_)) (.slice (some ⟨go5, 0, none⟩) x0_1.length co9) y346 from (by (with_reducible repeat (first | apply Kd.R_alloc | apply Kd.R_drewN | apply Kd.R_drew)); exact HO_0.out)); obtain ⟨ce12, hcl12, hM12, hcc12, hfr12⟩ := Kd.R_elem HX12.out z50 (x5_1 : Int) (oD) (by have h_ : (x5_1 : Int) < ((x0_1.length : Int) : Int) := oD; first | exact h_ | (have e_ := (Kd.R_reads' HO_0.out).1; omega) | simpa using h_); obtain rfl := k50_openM hM12; have HP12 := Kd.R_seg HX12.out (x5_1 : Int) (oD) (by have h_ : (x5_1 : Int) < ((x0_1.length : Int) : Int) := oD; first | exact h_ | (have e_ := (Kd.R_reads' HO_0.out).1; omega) | simpa using h_) (seg := [.int .i64 (wrap64 (x1_1 + 1))]) (j := 1) hcl12 hcc12 (show 2 ≤ 4 from by decide) (x' := (⟨(rd_T50 y346 x5_1).f0, wrap64 (x1_1 + 1), (rd_T50 y346 x5_1).f2, (rd_T50 y346 x5_1).f3⟩ : S50)) (k50_mkM _ _ _ (⟨(rd_T50 y346 x5_1).f0, wrap64 (x1_1 + 1), (rd_T50 y346 x5_1).f2, (rd_T50 y346 x5_1).f3⟩ : S50) ) (fun _ hk => hk); have hx12_1 := hcc12 1 _ rfl; (try simp only [show (k50).sz = 4 from rfl, Nat.mul_one, Nat.add_zero] at hx12_1); have hf12_1 := hfr12 1; (try simp only [show (k50).sz = 4 from rfl, Nat.mul_one, Nat.add_zero] at hf12_1); (try clear hcl12); (try clear hcc12); (try clear hfr12); (try clear hM12)) | ((with_reducible refine gate_store (t := 3) (p := 23) rfl ?_); refine store_event (t := 3) (p := 23) (v := ?vo_w13) (w1 := (w11.setCell ⟨go5, (x5_1 : Int).toNat * 4 + 1, none⟩ (.int .i64 (wrap64 (x1_1 + 1))))) ?hg ?ho ?hn ?hr ?_; (case ho => rfl); (case hg => rfl); (case hn => rfl); (case hr => first | (go_simp; done) | (go_simp; rfl)); intro w13 hw; have hg : w11.grownBy w13 (some go5) := (by rw [hw]; exact HP12.2); have hp_ : Kd.R k50 50 w13 w0.heap.size (fun k_ => (P0_ k_ ∨ w.heap.size ≤ k_)) (.slice (some ⟨go5, 0, none⟩) x0_1.length co9) y347 := (by rw [hw, Ny347.out]; exact HP12.1); clear HP12; have n0_ := Aside0.mk (hp_); have n1_ := Aside0.mk ((by rw [hw]; exact below_set (HB.out) GB5.out : Below w0.heap.size w0 w13)); have n2_ := Aside0.mk (Kept.of_grown (S := (fun k_ => P0_ k_)) hg (by repeat (first | (with_reducible first | exact HK.out | apply Kept.alloc | apply Kept.drewN | apply Kept.drew) | exact HK.out)) (fun k_ e_ => (HO_0.out.1 k_ e_))); clear HO_0; clear HB; clear HK; have HO_0 := n0_; have HB := n1_; have HK := n2_; clear n0_ n1_ n2_; clear hg hw hp_; have p7 : 0 ≤ (x5_1 : Int) := oD; have q7 : (x5_1 : Int) < ((x0_1.length : Int) : Int) := oD; obtain ⟨ce7, hcl7, hM7, hcc7, hfr7⟩ := Kd.R_elem HO_0.out z50 (x5_1 : Int) p7 q7; obtain rfl := k50_openM hM7; have hx7_0 : w13.cell? ⟨go5, (x5_1 : Int).toNat * 4, none⟩ = some (.int .i64 ((rd_T50 y347 x5_1).f0)) := hcc7 0 _ rfl; have hx7_1 : w13.cell? ⟨go5, (x5_1 : Int).toNat * 4 + 1, none⟩ = some (.int .i64 ((rd_T50 y347 x5_1).f1)) := hcc7 1 _ rfl; have hx7_2 : w13.cell? ⟨go5, (x5_1 : Int).toNat * 4 + 2, none⟩ = some (.int .i64 ((rd_T50 y347 x5_1).f2)) := hcc7 2 _ rfl; have hx7_3 : w13.cell? ⟨go5, (x5_1 : Int).toNat * 4 + 3, none⟩ = some (.int .i64 ((rd_T50 y347 x5_1).f3)) := hcc7 3 _ rfl; have hf7_0 : w13.frozen? ⟨go5, (x5_1 : Int).toNat * 4, none⟩ = false := hfr7 0; have hf7_1 : w13.frozen? ⟨go5, (x5_1 : Int).toNat * 4 + 1, none⟩ = false := hfr7 1; have hf7_2 : w13.frozen? ⟨go5, (x5_1 : Int).toNat * 4 + 2, none⟩ = false := hfr7 2; have hf7_3 : w13.frozen? ⟨go5, (x5_1 : Int).toNat * 4 + 3, none⟩ = false := hfr7 3; (try clear hcl7); (try clear hcc7); (try clear hfr7); (try clear hM7); replace p7 := eq_true p7; replace q7 := eq_true q7; have HX14 := Aside0.mk (show Kd.R k50 50 w13 w0.heap.size (fun k_ => (P0_ k_ ∨ w.heap.size ≤ k_)) (.slice (some ⟨go5, 0, none⟩) x0_1.length co9) y347 from (by (with_reducible repeat (first | apply Kd.R_alloc | apply Kd.R_drewN | apply Kd.R_drew)); exact HO_0.out)); obtain ⟨ce14, hcl14, hM14, hcc14, hfr14⟩ := Kd.R_elem HX14.out z50 (x5_1 : Int) (oD) (by have h_ : (x5_1 : Int) < ((x0_1.length : Int) : Int) := oD; first | exact h_ | (have e_ := (Kd.R_reads' HO_0.out).1; omega) | simpa using h_); obtain rfl := k50_openM hM14; have HP14 := Kd.R_seg HX14.out (x5_1 : Int) (oD) (by have h_ : (x5_1 : Int) < ((x0_1.length : Int) : Int) := oD; first | exact h_ | (have e_ := (Kd.R_reads' HO_0.out).1; omega) | simpa using h_) (seg := [.int .i64 (wrap64 ((wrap64 (x1_1 + 1)) + 1))]) (j := 2) hcl14 hcc14 (show 3 ≤ 4 from by decide) (x' := (⟨(rd_T50 y347 x5_1).f0, (rd_T50 y347 x5_1).f1, wrap64 ((wrap64 (x1_1 + 1)) + 1), (rd_T50 y347 x5_1).f3⟩ : S50)) (k50_mkM _ _ _ (⟨(rd_T50 y347 x5_1).f0, (rd_T50 y347 x5_1).f1, wrap64 ((wrap64 (x1_1 + 1)) + 1), (rd_T50 y347 x5_1).f3⟩ : S50) ) (fun _ hk => hk); have hx14_2 := hcc14 2 _ rfl; (try simp only [show (k50).sz = 4 from rfl, Nat.mul_one, Nat.add_zero] at hx14_2); have hf14_2 := hfr14 2; (try simp only [show (k50).sz = 4 from rfl, Nat.mul_one, Nat.add_zero] at hf14_2); (try clear hcl14); (try clear hcc14); (try clear hfr14); (try clear hM14)) | ((with_reducible refine gate_store (t := 3) (p := 30) rfl ?_); refine store_event (t := 3) (p := 30) (v := ?vo_w15) (w1 := (w13.setCell ⟨go5, (x5_1 : Int).toNat * 4 + 2, none⟩ (.int .i64 (wrap64 ((wrap64 (x1_1 + 1)) + 1))))) ?hg ?ho ?hn ?hr ?_; (case ho => rfl); (case hg => rfl); (case hn => rfl); (case hr => first | (go_simp; done) | (go_simp; rfl)); intro w15 hw; have hg : w13.grownBy w15 (some go5) := (by rw [hw]; exact HP14.2); have hp_ : Kd.R k50 50 w15 w0.heap.size (fun k_ => (P0_ k_ ∨ w.heap.size ≤ k_)) (.slice (some ⟨go5, 0, none⟩) x0_1.length co9) y348 := (by rw [hw, Ny348.out]; exact HP14.1); clear HP14; have n0_ := Aside0.mk (hp_); have n1_ := Aside0.mk ((by rw [hw]; exact below_set (HB.out) GB5.out : Below w0.heap.size w0 w15)); have n2_ := Aside0.mk (Kept.of_grown (S := (fun k_ => P0_ k_)) hg (by repeat (first | (with_reducible first | exact HK.out | apply Kept.alloc | apply Kept.drewN | apply Kept.drew) | exact HK.out)) (fun k_ e_ => (HO_0.out.1 k_ e_))); clear HO_0; clear HB; clear HK; have HO_0 := n0_; have HB := n1_; have HK := n2_; clear n0_ n1_ n2_; clear hg hw hp_; have p8 : 0 ≤ (x5_1 : Int) := oD; have q8 : (x5_1 : Int) < ((x0_1.length : Int) : Int) := oD; obtain ⟨ce8, hcl8, hM8, hcc8, hfr8⟩ := Kd.R_elem HO_0.out z50 (x5_1 : Int) p8 q8; obtain rfl := k50_openM hM8; have hx8_0 : w15.cell? ⟨go5, (x5_1 : Int).toNat * 4, none⟩ = some (.int .i64 ((rd_T50 y348 x5_1).f0)) := hcc8 0 _ rfl; have hx8_1 : w15.cell? ⟨go5, (x5_1 : Int).toNat * 4 + 1, none⟩ = some (.int .i64 ((rd_T50 y348 x5_1).f1)) := hcc8 1 _ rfl; have hx8_2 : w15.cell? ⟨go5, (x5_1 : Int).toNat * 4 + 2, none⟩ = some (.int .i64 ((rd_T50 y348 x5_1).f2)) := hcc8 2 _ rfl; have hx8_3 : w15.cell? ⟨go5, (x5_1 : Int).toNat * 4 + 3, none⟩ = some (.int .i64 ((rd_T50 y348 x5_1).f3)) := hcc8 3 _ rfl; have hf8_0 : w15.frozen? ⟨go5, (x5_1 : Int).toNat * 4, none⟩ = false := hfr8 0; have hf8_1 : w15.frozen? ⟨go5, (x5_1 : Int).toNat * 4 + 1, none⟩ = false := hfr8 1; have hf8_2 : w15.frozen? ⟨go5, (x5_1 : Int).toNat * 4 + 2, none⟩ = false := hfr8 2; have hf8_3 : w15.frozen? ⟨go5, (x5_1 : Int).toNat * 4 + 3, none⟩ = false := hfr8 3; (try clear hcl8); (try clear hcc8); (try clear hfr8); (try clear hM8); replace p8 := eq_true p8; replace q8 := eq_true q8; have HX16 := Aside0.mk (show Kd.R k50 50 w15 w0.heap.size (fun k_ => (P0_ k_ ∨ w.heap.size ≤ k_)) (.slice (some ⟨go5, 0, none⟩) x0_1.length co9) y348 from (by (with_reducible repeat (first | apply Kd.R_alloc | apply Kd.R_drewN | apply Kd.R_drew)); exact HO_0.out)); obtain ⟨ce16, hcl16, hM16, hcc16, hfr16⟩ := Kd.R_elem HX16.out z50 (x5_1 : Int) (oD) (by have h_ : (x5_1 : Int) < ((x0_1.length : Int) : Int) := oD; first | exact h_ | (have e_ := (Kd.R_reads' HO_0.out).1; omega) | simpa using h_); obtain rfl := k50_openM hM16; have HP16 := Kd.R_seg HX16.out (x5_1 : Int) (oD) (by have h_ : (x5_1 : Int) < ((x0_1.length : Int) : Int) := oD; first | exact h_ | (have e_ := (Kd.R_reads' HO_0.out).1; omega) | simpa using h_) (seg := [.int .i64 (wrap64 ((wrap64 ((wrap64 (x1_1 + 1)) + 1)) + 1))]) (j := 3) hcl16 hcc16 (show 4 ≤ 4 from by decide) (x' := (⟨(rd_T50 y348 x5_1).f0, (rd_T50 y348 x5_1).f1, (rd_T50 y348 x5_1).f2, wrap64 ((wrap64 ((wrap64 (x1_1 + 1)) + 1)) + 1)⟩ : S50)) (k50_mkM _ _ _ (⟨(rd_T50 y348 x5_1).f0, (rd_T50 y348 x5_1).f1, (rd_T50 y348 x5_1).f2, wrap64 ((wrap64 ((wrap64 (x1_1 + 1)) + 1)) + 1)⟩ : S50) ) (fun _ hk => hk); have hx16_3 := hcc16 3 _ rfl; (try simp only [show (k50).sz = 4 from rfl, Nat.mul_one, Nat.add_zero] at hx16_3); have hf16_3 := hfr16 3; (try simp only [show (k50).sz = 4 from rfl, Nat.mul_one, Nat.add_zero] at hf16_3); (try clear hcl16); (try clear hcc16); (try clear hfr16); (try clear hM16)) | ((with_reducible refine gate_store (t := 3) (p := 37) rfl ?_); refine store_event (t := 3) (p := 37) (v := ?vo_w17) (w1 := (w15.setCell ⟨go5, (x5_1 : Int).toNat * 4 + 3, none⟩ (.int .i64 (wrap64 ((wrap64 ((wrap64 (x1_1 + 1)) + 1)) + 1))))) ?hg ?ho ?hn ?hr ?_; (case ho => rfl); (case hg => rfl); (case hn => rfl); (case hr => first | (go_simp; done) | (go_simp; rfl)); intro w17 hw; have hg : w15.grownBy w17 (some go5) := (by rw [hw]; exact HP16.2); have hp_ : Kd.R k50 50 w17 w0.heap.size (fun k_ => (P0_ k_ ∨ w.heap.size ≤ k_)) (.slice (some ⟨go5, 0, none⟩) x0_1.length co9) y349 := (by rw [hw, Ny349.out]; exact HP16.1); clear HP16; have n0_ := Aside0.mk (hp_); have n1_ := Aside0.mk ((by rw [hw]; exact below_set (HB.out) GB5.out : Below w0.heap.size w0 w17)); have n2_ := Aside0.mk (Kept.of_grown (S := (fun k_ => P0_ k_)) hg (by repeat (first | (with_reducible first | exact HK.out | apply Kept.alloc | apply Kept.drewN | apply Kept.drew) | exact HK.out)) (fun k_ e_ => (HO_0.out.1 k_ e_))); clear HO_0; clear HB; clear HK; have HO_0 := n0_; have HB := n1_; have HK := n2_; clear n0_ n1_ n2_; clear hg hw hp_))
    go_roundg k1
    case measure => have := HK1.out; omega
    case rel => exact ⟨(y349), (wrap64 ((wrap64 ((wrap64 ((wrap64 (x1_1 + 1)) + 1)) + 1)) + 1)), (wrap64 (x5_1 + 1)), sD, sD, H', ⟨by have := HK1.out; omega⟩, ⟨kR⟩, ⟨by repeat (first | (with_reducible first | exact HK.out | apply Kept.alloc | apply Kept.drewN | apply Kept.drew) | exact HK.out)⟩, ⟨by repeat (first | (with_reducible first | exact HB.out | apply below_alloc | apply pw_below_drewN | apply below_drew1) | exact HB.out)⟩⟩
   ·rw [if_neg c3] at H
    have c3b0 : decide (x5_1 < (x0_1.length : Int)) = false := decide_eq_false c3
    clear c3
    simp only [Option.some.injEq, Prod.mk.injEq] at H
    obtain ⟨rfl, rfl⟩ := H
    obtain ⟨Ao18, co18, eo18⟩ := Kd.R_slice HO_0.out
    subst eo18
    go_wp2
    go_ret
    exact ⟨rE, by (with_reducible repeat (first | apply Kd.R_alloc | apply Kd.R_drewN | apply Kd.R_drew)); exact HO_0.out, by repeat (first | (with_reducible first | exact HB.out | apply below_alloc | apply pw_below_drewN | apply below_drew1) | exact HB.out), by repeat (first | (with_reducible first | exact HK.out | apply Kept.alloc | apply Kept.drewN | apply Kept.drew) | exact HK.out)⟩

end Go.Proofs.Ytlhppclbokkfmaa.OFnExactSidneyBlocks
