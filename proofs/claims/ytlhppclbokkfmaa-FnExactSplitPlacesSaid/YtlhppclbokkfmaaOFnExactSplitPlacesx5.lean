/- Functions of the program as plain Lean functions, with their contracts: written by this session's program ownprint.py. Conditions: none. -/
import Derived.Test.YtlhppclbokkfmaaOFnExactSplitPlacesx0
import Derived.Test.YtlhppclbokkfmaaOFnExactSplitPlacesx1
import Derived.Test.YtlhppclbokkfmaaOFnExactSplitPlacesx2
import Derived.Test.YtlhppclbokkfmaaOFnExactSplitPlacesx4
namespace Go.Proofs.Ytlhppclbokkfmaa.OFnExactSplitPlaces
open Go.RowKit Go.Proofs.YtlhppclbokkfmaaW.PrintWords Go.Proofs.YtlhppclbokkfmaaW.PrintLast Go.Proofs.YtlhppclbokkfmaaW.PrintMore
attribute [local go_sem] max2_int min2_int max_two min_two max_three min_three max_four min_four   -- for this text's walks alone
set_option linter.unusedVariables false
set_option linter.unusedSimpArgs false

/-! ### laws_heldIntS: function 23 -/
def laws_heldIntS.l0 : Nat → List Int → Int → Int → Option (Int)
 | 0, _, _, _ => none
 | k + 1, x0, x1, x5 => if x5 < (x0.length : Int) then (if 0 ≤ x5 then (if (rd x0 x5) = x1 then (laws_heldIntS.l0 k x0 (wrap64 (x1 + 1)) (wrap64 (x5 + 1))) else (some (-1))) else (none)) else (some x1)
def laws_heldIntS.f (k : Nat) (l0 : List Int) (a1 : Int) : Option (Int) := laws_heldIntS.l0 k l0 a1 0
theorem laws_heldIntS.mono_l : ∀ k, (∀ y0 y1 y2, LeO (laws_heldIntS.l0 k y0 y1 y2) (laws_heldIntS.l0 (k + 1) y0 y1 y2))
 | 0 => fun _ _ _ r h => by simp [laws_heldIntS.l0] at h
 | k + 1 => by
  have ih0 := laws_heldIntS.mono_l k
  ·intro y0 y1 y2
   unfold laws_heldIntS.l0
   repeat' first
   | (with_reducible exact ih0 _ _ _)
   | (with_reducible exact LeO.refl _)
   | (with_reducible exact LeO.none _)
   | (with_reducible refine LeO.ite ?_ ?_)
   | (with_reducible refine LeO.bind ?_ (fun _ => ?_))
   | exact ih0 _ _ _
   | exact LeO.none _
   | refine LeO.ite ?_ ?_
   | refine LeO.bind ?_ (fun _ => ?_)
theorem laws_heldIntS.mono : ∀ a0 a1 k, LeO (laws_heldIntS.f k a0 a1) (laws_heldIntS.f (k + 1) a0 a1) := by
 intro a0 a1 k; have ih0 := laws_heldIntS.mono_l k; unfold laws_heldIntS.f
 repeat' first
   | (with_reducible exact ih0 _ _ _)
   | (with_reducible exact LeO.refl _)
   | (with_reducible exact LeO.none _)
   | (with_reducible refine LeO.ite ?_ ?_)
   | (with_reducible refine LeO.bind ?_ (fun _ => ?_))
   | exact ih0 _ _ _
   | exact LeO.none _
   | refine LeO.ite ?_ ?_
   | refine LeO.bind ?_ (fun _ => ?_)
set_option maxHeartbeats 8000000 in
set_option maxRecDepth 100000 in
theorem laws_heldIntS.calls (k : Nat) (A0 : Option Addr) (c0 : Nat) (l0 : List Int) (a1 : Int) (r : Int) (w : World) (hr0 : Kd.C (Kd.int .i64) w A0 l0.length l0) (hc0 : l0.length ≤ c0) (h : laws_heldIntS.f k l0 a1 = some r) :
  Calls Try.prog 23 #[.slice A0 l0.length c0, .int .i64 a1] w fun e w' => e = .returned (.int .i64 r) ∧ Drawn0 w w' := by
 have HR0 := aM hr0; have HC0 := aM hc0; clear hr0 hc0; have H : (laws_heldIntS.l0 k l0 a1 0) = some r := h; clear h; have H' := aM H; clear H; go_enter Try.func23, Try.ntmps23; go_wp2; go_loopg [1, 5] k (fun kq v1 v5 w' => ∃ (x1_1 : Int) (x5_1 : Int), v1 = .int .i64 x1_1 ∧ v5 = .int .i64 x5_1 ∧ Aside0 (laws_heldIntS.l0 kq l0 x1_1 x5_1 = some r) ∧ Aside0 (kq ≤ k) ∧ Drawn0 w w')
 case atStart => exact ⟨(a1), (0), sD, sD, H', ⟨Nat.le_refl _⟩, by repeat (first | exact Drawn0.refl _ | apply Drawn0.step)⟩
 case round =>
  clear H'; obtain ⟨x1_1, x5_1, rfl, rfl, HA, HK1, ⟨m1, rfl⟩⟩ := hrel
  cases gk with
  | zero => exact absurd HA.out (by simp [laws_heldIntS.l0])
  | succ k1 =>
   have H := HA.out; clear HA; simp only [laws_heldIntS.l0] at H; by_cases c3 : x5_1 < (l0.length : Int)
   ·rw [if_pos c3] at H
    have c3b0 : decide (x5_1 < (l0.length : Int)) = true := decide_eq_true c3; clear c3; by_cases c4 : 0 ≤ x5_1; rotate_left
    ·rw [if_neg c4] at H; exact absurd H (by simp)
    rw [if_pos c4] at H; have c4b0 : decide (0 ≤ x5_1) = true := decide_eq_true c4; clear c4; by_cases c5 : (rd l0 x5_1) = x1_1
    ·rw [if_pos c5] at H
     have c5b0 : ((rd l0 x5_1) == x1_1) = true := beq_iff_eq.mpr c5; have c5b1 : ((rd l0 x5_1) != x1_1) = false := bne_eq_false_iff_eq.mpr c5; clear c5; have H' := aM H; clear H; have p438 : 0 ≤ (x5_1 : Int) := oD; have q438 : x5_1 < (l0.length : Int) := oD; obtain ⟨ad438, e438, hx438_0⟩ := Kd.at_int HR0.out x5_1 p438 q438; cases e438; replace p438 := eq_true p438; replace q438 := eq_true q438; go_wp2; go_roundg k1
     case measure => have := HK1.out; omega
     case rel => exact ⟨(wrap64 (x1_1 + 1)), (wrap64 (x5_1 + 1)), sD, sD, H', ⟨by have := HK1.out; omega⟩, by repeat (first | exact Drawn0.refl _ | apply Drawn0.step)⟩
    ·rw [if_neg c5] at H
     have c5b0 : ((rd l0 x5_1) == x1_1) = false := beq_eq_false_iff_ne.mpr c5; have c5b1 : ((rd l0 x5_1) != x1_1) = true := bne_iff_ne.mpr c5; obtain rfl := Option.some.inj H; have p438 : 0 ≤ (x5_1 : Int) := oD; have q438 : x5_1 < (l0.length : Int) := oD; obtain ⟨ad438, e438, hx438_0⟩ := Kd.at_int HR0.out x5_1 p438 q438; cases e438; replace p438 := eq_true p438; replace q438 := eq_true q438; go_wp2; go_ret; exact ⟨by first | rfl | (simp; done) | (simp [*]; done), by repeat (first | exact Drawn0.refl _ | apply Drawn0.step)⟩
   ·rw [if_neg c3] at H
    have c3b0 : decide (x5_1 < (l0.length : Int)) = false := decide_eq_false c3; clear c3; obtain rfl := Option.some.inj H; go_wp2; go_ret; exact ⟨by first | rfl | (simp; done) | (simp [*]; done), by repeat (first | exact Drawn0.refl _ | apply Drawn0.step)⟩

/-! ### laws_FnExactSplitPlaces: function 4 -/
mutual
def laws_FnExactSplitPlaces.j0 : Nat → List (S52) → Int → List Int → Bool → List (S50) → Int → List Int → Bool → Bool → Option (Bool)
 | 0, _, _, _, _, _, _, _, _, _ => none
 | k + 1, x0, x4, x5, x6, x7, x8, x9, x10, x50 => if x50 = true then (some false) else ((laws_toJobS.f k x0).bind fun t457 => ((laws_eqJobS.f k x7 t457).bind fun t460 => (if t460 = true then ((laws_markJobS.f k x7 1).bind fun bt461 => (if bt461.1 < 0 then (laws_FnExactSplitPlaces.j1 k x0 x4 x5 x6 x9 true) else (if x8 = x4 then ((laws_eqIntS.f k x9 x5).bind fun t463 => (if t463 = true then (laws_FnExactSplitPlaces.j1 k x0 x4 x5 x6 x9 (x10 != x6)) else (laws_FnExactSplitPlaces.j1 k x0 x4 x5 x6 x9 true))) else (laws_FnExactSplitPlaces.j1 k x0 x4 x5 x6 x9 true)))) else (some false))))
def laws_FnExactSplitPlaces.j1 : Nat → List (S52) → Int → List Int → Bool → List Int → Bool → Option (Bool)
 | 0, _, _, _, _, _, _ => none
 | k + 1, x0, x4, x5, x6, x9, x76 => if x76 = true then (some false) else ((laws_markIntS.f k x9 1).bind fun bt464 => ((laws_heldIntS.f k bt464.2 1).bind fun t466 => (if t466 < 0 then (some false) else (if t466 = bt464.1 then ((laws_toJobS.f k x0).bind fun t467 => ((impl_SplitPlaces.f k t467).bind fun bt470 => (if bt470.1 = x4 then ((laws_eqIntS.f k bt470.2.1 x5).bind fun t475 => (if t475 = true then (laws_FnExactSplitPlaces.j2 k bt464.2 bt464.1 (bt470.2.2 != x6)) else (laws_FnExactSplitPlaces.j2 k bt464.2 bt464.1 true))) else (laws_FnExactSplitPlaces.j2 k bt464.2 bt464.1 true)))) else (some false)))))
def laws_FnExactSplitPlaces.j2 : Nat → List Int → Int → Bool → Option (Bool)
 | 0, _, _, _ => none
 | k + 1, x9, x12, x108 => if x108 = true then (some false) else ((laws_heldIntS.f k x9 1).bind fun t476 => (if t476 < 0 then (some false) else (if t476 = x12 then (some true) else (some false))))
end
def laws_FnExactSplitPlaces.f (k : Nat) (l0 : List (S52)) : Option (Bool) := (laws_szJobS.f l0 1048576).bind fun t439 => (if t439 < 0 then (some true) else ((laws_toJobS.f k l0).bind fun t440 => ((spec_SplitPlaces.f k t440).bind fun bt443 => ((laws_toJobS.f k l0).bind fun t448 => ((impl_SplitPlaces.f k t448).bind fun bt451 => (if bt451.1 = bt443.1 then ((laws_eqIntS.f k bt451.2.1 bt443.2.1).bind fun t456 => (if t456 = true then (laws_FnExactSplitPlaces.j0 k l0 bt443.1 bt443.2.1 bt443.2.2 t448 bt451.1 bt451.2.1 bt451.2.2 (bt451.2.2 != bt443.2.2)) else (laws_FnExactSplitPlaces.j0 k l0 bt443.1 bt443.2.1 bt443.2.2 t448 bt451.1 bt451.2.1 bt451.2.2 true))) else (laws_FnExactSplitPlaces.j0 k l0 bt443.1 bt443.2.1 bt443.2.2 t448 bt451.1 bt451.2.1 bt451.2.2 true)))))))
theorem laws_FnExactSplitPlaces.mono_l : ∀ k, (∀ y0 y1 y2 y3 y4 y5 y6 y7 y8, LeO (laws_FnExactSplitPlaces.j0 k y0 y1 y2 y3 y4 y5 y6 y7 y8) (laws_FnExactSplitPlaces.j0 (k + 1) y0 y1 y2 y3 y4 y5 y6 y7 y8)) ∧ (∀ y0 y1 y2 y3 y4 y5, LeO (laws_FnExactSplitPlaces.j1 k y0 y1 y2 y3 y4 y5) (laws_FnExactSplitPlaces.j1 (k + 1) y0 y1 y2 y3 y4 y5)) ∧ (∀ y0 y1 y2, LeO (laws_FnExactSplitPlaces.j2 k y0 y1 y2) (laws_FnExactSplitPlaces.j2 (k + 1) y0 y1 y2))
 | 0 => ⟨fun _ _ _ _ _ _ _ _ _ r h => by simp [laws_FnExactSplitPlaces.j0] at h, fun _ _ _ _ _ _ r h => by simp [laws_FnExactSplitPlaces.j1] at h, fun _ _ _ r h => by simp [laws_FnExactSplitPlaces.j2] at h⟩
 | k + 1 => by
  obtain ⟨ih0, ih1, ih2⟩ := laws_FnExactSplitPlaces.mono_l k; refine ⟨?_, ?_, ?_⟩
  ·intro y0 y1 y2 y3 y4 y5 y6 y7 y8
   unfold laws_FnExactSplitPlaces.j0
   repeat' first
   | (with_reducible exact ih0 _ _ _ _ _ _ _ _ _)
   | (with_reducible exact ih1 _ _ _ _ _ _)
   | (with_reducible exact ih2 _ _ _)
   | (with_reducible exact impl_SplitPlaces.mono _ _)
   | (with_reducible exact laws_eqIntS.mono _ _ _)
   | (with_reducible exact laws_eqJobS.mono _ _ _)
   | (with_reducible exact laws_heldIntS.mono _ _ _)
   | (with_reducible exact laws_markIntS.mono _ _ _)
   | (with_reducible exact laws_markJobS.mono _ _ _)
   | (with_reducible exact laws_toJobS.mono _ _)
   | (with_reducible exact spec_SplitPlaces.mono _ _)
   | (with_reducible exact LeO.refl _)
   | (with_reducible exact LeO.none _)
   | (with_reducible refine LeO.ite ?_ ?_)
   | (with_reducible refine LeO.bind ?_ (fun _ => ?_))
   | exact ih0 _ _ _ _ _ _ _ _ _
   | exact ih1 _ _ _ _ _ _
   | exact ih2 _ _ _
   | exact impl_SplitPlaces.mono _ _
   | exact laws_eqIntS.mono _ _ _
   | exact laws_eqJobS.mono _ _ _
   | exact laws_heldIntS.mono _ _ _
   | exact laws_markIntS.mono _ _ _
   | exact laws_markJobS.mono _ _ _
   | exact laws_toJobS.mono _ _
   | exact spec_SplitPlaces.mono _ _
   | exact LeO.none _
   | refine LeO.ite ?_ ?_
   | refine LeO.bind ?_ (fun _ => ?_)
  ·intro y0 y1 y2 y3 y4 y5
   unfold laws_FnExactSplitPlaces.j1
   repeat' first
   | (with_reducible exact ih0 _ _ _ _ _ _ _ _ _)
   | (with_reducible exact ih1 _ _ _ _ _ _)
   | (with_reducible exact ih2 _ _ _)
   | (with_reducible exact impl_SplitPlaces.mono _ _)
   | (with_reducible exact laws_eqIntS.mono _ _ _)
   | (with_reducible exact laws_eqJobS.mono _ _ _)
   | (with_reducible exact laws_heldIntS.mono _ _ _)
   | (with_reducible exact laws_markIntS.mono _ _ _)
   | (with_reducible exact laws_markJobS.mono _ _ _)
   | (with_reducible exact laws_toJobS.mono _ _)
   | (with_reducible exact spec_SplitPlaces.mono _ _)
   | (with_reducible exact LeO.refl _)
   | (with_reducible exact LeO.none _)
   | (with_reducible refine LeO.ite ?_ ?_)
   | (with_reducible refine LeO.bind ?_ (fun _ => ?_))
   | exact ih0 _ _ _ _ _ _ _ _ _
   | exact ih1 _ _ _ _ _ _
   | exact ih2 _ _ _
   | exact impl_SplitPlaces.mono _ _
   | exact laws_eqIntS.mono _ _ _
   | exact laws_eqJobS.mono _ _ _
   | exact laws_heldIntS.mono _ _ _
   | exact laws_markIntS.mono _ _ _
   | exact laws_markJobS.mono _ _ _
   | exact laws_toJobS.mono _ _
   | exact spec_SplitPlaces.mono _ _
   | exact LeO.none _
   | refine LeO.ite ?_ ?_
   | refine LeO.bind ?_ (fun _ => ?_)
  ·intro y0 y1 y2
   unfold laws_FnExactSplitPlaces.j2
   repeat' first
   | (with_reducible exact ih0 _ _ _ _ _ _ _ _ _)
   | (with_reducible exact ih1 _ _ _ _ _ _)
   | (with_reducible exact ih2 _ _ _)
   | (with_reducible exact impl_SplitPlaces.mono _ _)
   | (with_reducible exact laws_eqIntS.mono _ _ _)
   | (with_reducible exact laws_eqJobS.mono _ _ _)
   | (with_reducible exact laws_heldIntS.mono _ _ _)
   | (with_reducible exact laws_markIntS.mono _ _ _)
   | (with_reducible exact laws_markJobS.mono _ _ _)
   | (with_reducible exact laws_toJobS.mono _ _)
   | (with_reducible exact spec_SplitPlaces.mono _ _)
   | (with_reducible exact LeO.refl _)
   | (with_reducible exact LeO.none _)
   | (with_reducible refine LeO.ite ?_ ?_)
   | (with_reducible refine LeO.bind ?_ (fun _ => ?_))
   | exact ih0 _ _ _ _ _ _ _ _ _
   | exact ih1 _ _ _ _ _ _
   | exact ih2 _ _ _
   | exact impl_SplitPlaces.mono _ _
   | exact laws_eqIntS.mono _ _ _
   | exact laws_eqJobS.mono _ _ _
   | exact laws_heldIntS.mono _ _ _
   | exact laws_markIntS.mono _ _ _
   | exact laws_markJobS.mono _ _ _
   | exact laws_toJobS.mono _ _
   | exact spec_SplitPlaces.mono _ _
   | exact LeO.none _
   | refine LeO.ite ?_ ?_
   | refine LeO.bind ?_ (fun _ => ?_)
theorem laws_FnExactSplitPlaces.mono : ∀ a0 k, LeO (laws_FnExactSplitPlaces.f k a0) (laws_FnExactSplitPlaces.f (k + 1) a0) := by
 intro a0 k; obtain ⟨ih0, ih1, ih2⟩ := laws_FnExactSplitPlaces.mono_l k; unfold laws_FnExactSplitPlaces.f
 repeat' first
   | (with_reducible exact ih0 _ _ _ _ _ _ _ _ _)
   | (with_reducible exact ih1 _ _ _ _ _ _)
   | (with_reducible exact ih2 _ _ _)
   | (with_reducible exact impl_SplitPlaces.mono _ _)
   | (with_reducible exact laws_eqIntS.mono _ _ _)
   | (with_reducible exact laws_eqJobS.mono _ _ _)
   | (with_reducible exact laws_heldIntS.mono _ _ _)
   | (with_reducible exact laws_markIntS.mono _ _ _)
   | (with_reducible exact laws_markJobS.mono _ _ _)
   | (with_reducible exact laws_toJobS.mono _ _)
   | (with_reducible exact spec_SplitPlaces.mono _ _)
   | (with_reducible exact LeO.refl _)
   | (with_reducible exact LeO.none _)
   | (with_reducible refine LeO.ite ?_ ?_)
   | (with_reducible refine LeO.bind ?_ (fun _ => ?_))
   | exact ih0 _ _ _ _ _ _ _ _ _
   | exact ih1 _ _ _ _ _ _
   | exact ih2 _ _ _
   | exact impl_SplitPlaces.mono _ _
   | exact laws_eqIntS.mono _ _ _
   | exact laws_eqJobS.mono _ _ _
   | exact laws_heldIntS.mono _ _ _
   | exact laws_markIntS.mono _ _ _
   | exact laws_markJobS.mono _ _ _
   | exact laws_toJobS.mono _ _
   | exact spec_SplitPlaces.mono _ _
   | exact LeO.none _
   | refine LeO.ite ?_ ?_
   | refine LeO.bind ?_ (fun _ => ?_)
set_option maxHeartbeats 8000000 in
set_option maxRecDepth 100000 in
theorem laws_FnExactSplitPlaces.calls (k : Nat) (A0 : Option Addr) (c0 : Nat) (l0 : List (S52)) (r : Bool) (w : World) (hr0 : Kd.C k52 w A0 l0.length l0) (hc0 : l0.length ≤ c0) (h : laws_FnExactSplitPlaces.f k l0 = some r) :
  Calls Try.prog 4 #[.slice A0 l0.length c0] w fun e w' => e = .returned (.bool r) ∧ Below w.heap.size w w' := by
 have HR0 := aM hr0; have HC0 := aM hc0; clear hr0 hc0; have HB := aM (Below.refl w.heap.size w); have H : ((laws_szJobS.f l0 1048576).bind fun t439 => (if t439 < 0 then (some true) else ((laws_toJobS.f k l0).bind fun t440 => ((spec_SplitPlaces.f k t440).bind fun bt443 => ((laws_toJobS.f k l0).bind fun t448 => ((impl_SplitPlaces.f k t448).bind fun bt451 => (if bt451.1 = bt443.1 then ((laws_eqIntS.f k bt451.2.1 bt443.2.1).bind fun t456 => (if t456 = true then (laws_FnExactSplitPlaces.j0 k l0 bt443.1 bt443.2.1 bt443.2.2 t448 bt451.1 bt451.2.1 bt451.2.2 (bt451.2.2 != bt443.2.2)) else (laws_FnExactSplitPlaces.j0 k l0 bt443.1 bt443.2.1 bt443.2.2 t448 bt451.1 bt451.2.1 bt451.2.2 true))) else (laws_FnExactSplitPlaces.j0 k l0 bt443.1 bt443.2.1 bt443.2.2 t448 bt451.1 bt451.2.1 bt451.2.2 true)))))))) = some r := h; clear h; replace H := oB H; obtain ⟨t439, A20, H⟩ := H; replace H : (if t439 < 0 then (some true) else ((laws_toJobS.f k l0).bind fun t440 => ((spec_SplitPlaces.f k t440).bind fun bt443 => ((laws_toJobS.f k l0).bind fun t448 => ((impl_SplitPlaces.f k t448).bind fun bt451 => (if bt451.1 = bt443.1 then ((laws_eqIntS.f k bt451.2.1 bt443.2.1).bind fun t456 => (if t456 = true then (laws_FnExactSplitPlaces.j0 k l0 bt443.1 bt443.2.1 bt443.2.2 t448 bt451.1 bt451.2.1 bt451.2.2 (bt451.2.2 != bt443.2.2)) else (laws_FnExactSplitPlaces.j0 k l0 bt443.1 bt443.2.1 bt443.2.2 t448 bt451.1 bt451.2.1 bt451.2.2 true))) else (laws_FnExactSplitPlaces.j0 k l0 bt443.1 bt443.2.1 bt443.2.2 t448 bt451.1 bt451.2.1 bt451.2.2 true))))))) = some r := H; have A2 := aM A20; clear A20; by_cases c3 : t439 < 0
 ·rw [if_pos c3] at H
  have c3b0 : decide (t439 < 0) = true := decide_eq_true c3; clear c3; obtain rfl := Option.some.inj H; go_enter Try.func4, Try.ntmps4; (go_wp2_with (first | ((with_reducible refine gate_callee (f := 6) rfl ?_); refine goesL_ (some 19) rfl rfl Try.func6 (by kernel_rfl) rfl #[.slice A0 l0.length c0, .int .i64 1048576] rfl aE ?_; (with_reducible refine (laws_szJobS.calls _ _ l0 1048576 t439 _ ?side1 ?side2 A2.out).mono ?_); (case side1 => exact cK HR0.out); (case side2 => exact HC0.out); rintro e w' ⟨rfl, ⟨nd, rfl⟩⟩; refine ⟨_, rfl, ?_⟩))); go_ret; exact ⟨rE, bB⟩
 ·rw [if_neg c3] at H
  have c3b0 : decide (t439 < 0) = false := decide_eq_false c3; clear c3; replace H := oB H; obtain ⟨t440, A40, H⟩ := H; replace H : ((spec_SplitPlaces.f k t440).bind fun bt443 => ((laws_toJobS.f k l0).bind fun t448 => ((impl_SplitPlaces.f k t448).bind fun bt451 => (if bt451.1 = bt443.1 then ((laws_eqIntS.f k bt451.2.1 bt443.2.1).bind fun t456 => (if t456 = true then (laws_FnExactSplitPlaces.j0 k l0 bt443.1 bt443.2.1 bt443.2.2 t448 bt451.1 bt451.2.1 bt451.2.2 (bt451.2.2 != bt443.2.2)) else (laws_FnExactSplitPlaces.j0 k l0 bt443.1 bt443.2.1 bt443.2.2 t448 bt451.1 bt451.2.1 bt451.2.2 true))) else (laws_FnExactSplitPlaces.j0 k l0 bt443.1 bt443.2.1 bt443.2.2 t448 bt451.1 bt451.2.1 bt451.2.2 true))))) = some r := H; have A4 := aM A40; clear A40; replace H := oB H; obtain ⟨⟨t443, t444, t445⟩, A50, H⟩ := H; replace H : ((laws_toJobS.f k l0).bind fun t448 => ((impl_SplitPlaces.f k t448).bind fun bt451 => (if bt451.1 = t443 then ((laws_eqIntS.f k bt451.2.1 t444).bind fun t456 => (if t456 = true then (laws_FnExactSplitPlaces.j0 k l0 t443 t444 t445 t448 bt451.1 bt451.2.1 bt451.2.2 (bt451.2.2 != t445)) else (laws_FnExactSplitPlaces.j0 k l0 t443 t444 t445 t448 bt451.1 bt451.2.1 bt451.2.2 true))) else (laws_FnExactSplitPlaces.j0 k l0 t443 t444 t445 t448 bt451.1 bt451.2.1 bt451.2.2 true)))) = some r := H; have A5 := aM A50; clear A50; replace H := oB H; obtain ⟨t448, A60, H⟩ := H; replace H : ((impl_SplitPlaces.f k t448).bind fun bt451 => (if bt451.1 = t443 then ((laws_eqIntS.f k bt451.2.1 t444).bind fun t456 => (if t456 = true then (laws_FnExactSplitPlaces.j0 k l0 t443 t444 t445 t448 bt451.1 bt451.2.1 bt451.2.2 (bt451.2.2 != t445)) else (laws_FnExactSplitPlaces.j0 k l0 t443 t444 t445 t448 bt451.1 bt451.2.1 bt451.2.2 true))) else (laws_FnExactSplitPlaces.j0 k l0 t443 t444 t445 t448 bt451.1 bt451.2.1 bt451.2.2 true))) = some r := H; have A6 := aM A60; clear A60; replace H := oB H; obtain ⟨⟨t451, t452, t453⟩, A70, H⟩ := H; replace H : (if t451 = t443 then ((laws_eqIntS.f k t452 t444).bind fun t456 => (if t456 = true then (laws_FnExactSplitPlaces.j0 k l0 t443 t444 t445 t448 t451 t452 t453 (t453 != t445)) else (laws_FnExactSplitPlaces.j0 k l0 t443 t444 t445 t448 t451 t452 t453 true))) else (laws_FnExactSplitPlaces.j0 k l0 t443 t444 t445 t448 t451 t452 t453 true)) = some r := H; have A7 := aM A70; clear A70; have HC8 := aM H; clear H; go_enter Try.func4, Try.ntmps4; go_upto_region 8 with (first | ((with_reducible refine gate_callee (f := 6) rfl ?_); refine goesL_ (some 19) rfl rfl Try.func6 (by kernel_rfl) rfl #[.slice A0 l0.length c0, .int .i64 1048576] rfl aE ?_; (with_reducible refine (laws_szJobS.calls _ _ l0 1048576 t439 _ ?side1 ?side2 A2.out).mono ?_); (case side1 => exact cK HR0.out); (case side2 => exact HC0.out); rintro e w' ⟨rfl, ⟨nd, rfl⟩⟩; refine ⟨_, rfl, ?_⟩) | ((with_reducible refine gate_callee (f := 9) rfl ?_); refine goesL_ (some 24) rfl rfl Try.func9 (by kernel_rfl) rfl #[.slice A0 l0.length c0] rfl aE ?_; (with_reducible refine (laws_toJobS.calls k _ _ l0 t440 _ ?side1 ?side2 A4.out).mono ?_); (case side1 => exact cK HR0.out); (case side2 => exact HC0.out); rintro e w9 ⟨v441, rfl, ho0, hb⟩; refine ⟨_, rfl, ?_⟩; have n0_ := aM (Kd.R_lower ho0 (below_size bB)); have n1_ := aM (below_step bB hb); clear HB; have HO442 := n0_; have HB := n1_; clear n0_ n1_; (try clear hb); (try clear hk); (try clear ho0); obtain ⟨Ao10, co10, eo10⟩ := Kd.R_slice HO442.out; subst eo10) | ((with_reducible refine gate_callee (f := 19) rfl ?_); refine goesL_ (some 25) rfl rfl Try.func19 (by kernel_rfl) rfl #[.slice Ao10 t440.length co10] rfl aE ?_; (with_reducible refine (spec_SplitPlaces.calls k _ _ t440 t443 t444 t445 _ ?side1 ?side2 A5.out).mono ?_); (case side1 => exact cK ((Kd.R_reads' HO442.out).2.2)); (case side2 => exact (Kd.R_reads' HO442.out).2.1); rintro e w11 ⟨v446, rfl, ho0, hb⟩; refine ⟨_, rfl, ?_⟩; have n0_ := aM (rB HO442 hb); have n1_ := aM (Kd.R_lower ho0 (below_size bB)); have n2_ := aM (below_step bB hb); clear HO442; clear HB; have HO442 := n0_; have HO447 := n1_; have HB := n2_; clear n0_ n1_ n2_; (try clear hb); (try clear hk); (try clear ho0)) | ((with_reducible refine gate_callee (f := 9) rfl ?_); refine goesL_ (some 30) rfl rfl Try.func9 (by kernel_rfl) rfl #[.slice A0 l0.length c0] rfl aE ?_; (with_reducible refine (laws_toJobS.calls k _ _ l0 t448 _ ?side1 ?side2 A6.out).mono ?_); (case side1 => exact cK ((Kd.C_below HR0.out HB.out))); (case side2 => exact HC0.out); rintro e w12 ⟨v449, rfl, ho0, hb⟩; refine ⟨_, rfl, ?_⟩; have n0_ := aM (Kd.R_elder' (by (with_reducible repeat (first | apply Kd.R_alloc | apply Kd.R_drewN | apply Kd.R_drew)); exact HO442.out) (Kd.R_base ho0) hb); have n1_ := aM (rB HO447 hb); have n2_ := aM (Kd.R_lower (Kd.R_new' ho0 (Kd.R_lt (by (with_reducible repeat (first | apply Kd.R_alloc | apply Kd.R_drewN | apply Kd.R_drew)); exact HO442.out))) (below_size bB)); have n3_ := aM (below_step bB hb); clear HO442; clear HO447; clear HB; have HO442 := n0_; have HO447 := n1_; have HO450 := n2_; have HB := n3_; clear n0_ n1_ n2_ n3_; (try clear hb); (try clear hk); (try clear ho0); obtain ⟨Ao13, co13, eo13⟩ := Kd.R_slice HO450.out; subst eo13) | ((with_reducible refine gate_callee (f := 20) rfl ?_); refine goesL_ (some 33) rfl rfl Try.func20 (by kernel_rfl) rfl #[.slice Ao13 t448.length co13] rfl aE ?_; (with_reducible refine (impl_SplitPlaces.calls k _ _ t448 t451 t452 t453 _ ?side1 ?side2 A7.out).mono ?_); (case side1 => exact cK ((Kd.R_reads' HO450.out).2.2)); (case side2 => exact (Kd.R_reads' HO450.out).2.1); rintro e w14 ⟨v454, rfl, ho0, hb⟩; refine ⟨_, rfl, ?_⟩; have n0_ := aM (rB HO442 hb); have n1_ := aM (Kd.R_elder' (by (with_reducible repeat (first | apply Kd.R_alloc | apply Kd.R_drewN | apply Kd.R_drew)); exact HO447.out) (Kd.R_base ho0) hb); have n2_ := aM (rB HO450 hb); have n3_ := aM (Kd.R_lower (Kd.R_new' ho0 (Kd.R_lt (by (with_reducible repeat (first | apply Kd.R_alloc | apply Kd.R_drewN | apply Kd.R_drew)); exact HO447.out))) (below_size bB)); have n4_ := aM (below_step bB hb); clear HO442; clear HO447; clear HO450; clear HB; have HO442 := n0_; have HO447 := n1_; have HO450 := n2_; have HO455 := n3_; have HB := n4_; clear n0_ n1_ n2_ n3_ n4_; (try clear hb); (try clear hk); (try clear ho0))); (try simp only [Act.put, sA, sZ, sS]); go_cut [50] (fun v50 wc => ∃ (kq : Nat) (x50_7 : Bool), v50 = .bool x50_7 ∧ Aside0 (laws_FnExactSplitPlaces.j0 kq l0 t443 t444 t445 t448 t451 t452 t453 x50_7 = some r) ∧ Aside0 (kq ≤ k) ∧ Aside0 (Kd.R (Kd.int .i64) 3 wc w.heap.size (fun k_ => some k_ ≠ (v454 : Value).ownBlock) v446 t444) ∧ Aside0 (Kd.R k50 50 wc w.heap.size (fun _ => True) (.slice Ao13 t448.length co13) t448) ∧ Aside0 (Kd.R (Kd.int .i64) 3 wc w.heap.size (fun k_ => some k_ ≠ (v446 : Value).ownBlock) v454 t452) ∧ Aside0 (Below w.heap.size w wc))
  case first =>
   have H := HC8.out; clear HC8; by_cases c15 : t451 = t443
   ·rw [if_pos c15] at H
    have c15b0 : (t451 == t443) = true := beq_iff_eq.mpr c15; have c15b1 : (t451 != t443) = false := bne_eq_false_iff_eq.mpr c15; clear c15; (first | rw [c15b0] | (simp only [i64_w, i32_w]; rw [c15b0]) | skip); replace H := oB H; obtain ⟨t456, A160, H⟩ := H; replace H : (if t456 = true then (laws_FnExactSplitPlaces.j0 k l0 t443 t444 t445 t448 t451 t452 t453 (t453 != t445)) else (laws_FnExactSplitPlaces.j0 k l0 t443 t444 t445 t448 t451 t452 t453 true)) = some r := H; have A16 := aM A160; clear A160; by_cases c17 : t456 = true
    ·subst c17
     (have H1 : (laws_FnExactSplitPlaces.j0 k l0 t443 t444 t445 t448 t451 t452 t453 (t453 != t445)) = some r := by rw [if_pos rfl] at H; exact H); replace H := H1; clear H1; have H' := aM H; clear H; obtain ⟨Ao18, co18, eo18⟩ := Kd.R_slice HO455.out; subst eo18; obtain ⟨Ao19, co19, eo19⟩ := Kd.R_slice HO447.out; subst eo19; (go_wp2_with (first | (go_at_call 21; (with_reducible refine (laws_eqIntS.calls k _ _ t452 _ _ t444 true _ ?side1 ?side2 ?side3 ?side4 A16.out).mono ?_); (case side1 => exact cK ((Kd.R_reads' HO455.out).2.2)); (case side2 => exact (Kd.R_reads' HO455.out).2.1); (case side3 => exact cK ((Kd.R_reads' HO447.out).2.2)); (case side4 => exact (Kd.R_reads' HO447.out).2.1); rintro e w' ⟨rfl, ⟨nd, rfl⟩⟩))); go_meet
     case rel => exact ⟨_, ((t453 != t445)), sD, H', ⟨by first | omega | exact Nat.le_refl _⟩, ⟨by (with_reducible repeat (first | apply Kd.R_alloc | apply Kd.R_drewN | apply Kd.R_drew)); exact Kd.R_mono HO447.out (fun _ hk => hk.2)⟩, ⟨by (with_reducible repeat (first | apply Kd.R_alloc | apply Kd.R_drewN | apply Kd.R_drew)); exact Kd.R_mono HO450.out (fun _ hk => trivial)⟩, ⟨by (with_reducible repeat (first | apply Kd.R_alloc | apply Kd.R_drewN | apply Kd.R_drew)); exact Kd.R_mono HO455.out (fun _ hk => hk.2)⟩, ⟨by repeat (first | (with_reducible first | exact HB.out | apply below_alloc | apply pw_below_drewN | apply below_drew1) | exact HB.out)⟩⟩
    ·replace c17 := Bool.eq_false_iff.mpr c17
     subst c17; (have H1 : (laws_FnExactSplitPlaces.j0 k l0 t443 t444 t445 t448 t451 t452 t453 true) = some r := by rw [if_neg (show ¬ (false = true) by decide)] at H; exact H); replace H := H1; clear H1; have H' := aM H; clear H; obtain ⟨Ao20, co20, eo20⟩ := Kd.R_slice HO455.out; subst eo20; obtain ⟨Ao21, co21, eo21⟩ := Kd.R_slice HO447.out; subst eo21; (go_wp2_with (first | (go_at_call 21; (with_reducible refine (laws_eqIntS.calls k _ _ t452 _ _ t444 false _ ?side1 ?side2 ?side3 ?side4 A16.out).mono ?_); (case side1 => exact cK ((Kd.R_reads' HO455.out).2.2)); (case side2 => exact (Kd.R_reads' HO455.out).2.1); (case side3 => exact cK ((Kd.R_reads' HO447.out).2.2)); (case side4 => exact (Kd.R_reads' HO447.out).2.1); rintro e w' ⟨rfl, ⟨nd, rfl⟩⟩))); go_meet
     case rel => exact ⟨_, (true), sD, H', ⟨by first | omega | exact Nat.le_refl _⟩, ⟨by (with_reducible repeat (first | apply Kd.R_alloc | apply Kd.R_drewN | apply Kd.R_drew)); exact Kd.R_mono HO447.out (fun _ hk => hk.2)⟩, ⟨by (with_reducible repeat (first | apply Kd.R_alloc | apply Kd.R_drewN | apply Kd.R_drew)); exact Kd.R_mono HO450.out (fun _ hk => trivial)⟩, ⟨by (with_reducible repeat (first | apply Kd.R_alloc | apply Kd.R_drewN | apply Kd.R_drew)); exact Kd.R_mono HO455.out (fun _ hk => hk.2)⟩, ⟨by repeat (first | (with_reducible first | exact HB.out | apply below_alloc | apply pw_below_drewN | apply below_drew1) | exact HB.out)⟩⟩
   ·rw [if_neg c15] at H
    have c15b0 : (t451 == t443) = false := beq_eq_false_iff_ne.mpr c15; have c15b1 : (t451 != t443) = true := bne_iff_ne.mpr c15; (first | rw [c15b0] | (simp only [i64_w, i32_w]; rw [c15b0]) | skip); have H' := aM H; clear H; go_wp2; go_meet
    case rel => exact ⟨_, (true), sD, H', ⟨by first | omega | exact Nat.le_refl _⟩, ⟨by (with_reducible repeat (first | apply Kd.R_alloc | apply Kd.R_drewN | apply Kd.R_drew)); exact Kd.R_mono HO447.out (fun _ hk => hk.2)⟩, ⟨by (with_reducible repeat (first | apply Kd.R_alloc | apply Kd.R_drewN | apply Kd.R_drew)); exact Kd.R_mono HO450.out (fun _ hk => trivial)⟩, ⟨by (with_reducible repeat (first | apply Kd.R_alloc | apply Kd.R_drewN | apply Kd.R_drew)); exact Kd.R_mono HO455.out (fun _ hk => hk.2)⟩, ⟨by repeat (first | (with_reducible first | exact HB.out | apply below_alloc | apply pw_below_drewN | apply below_drew1) | exact HB.out)⟩⟩
  case rest =>
   clear HC8; (try clear c3); (try clear c3b0); (try clear c15); (try clear c15b0); (try clear c15b1); (try clear c17); obtain ⟨kq, x50_7, rfl, HA, HJ7, HO_5, HO_7, HO_9, HB⟩ := hcut
   cases kq with
   | zero => exact absurd HA.out (by simp [laws_FnExactSplitPlaces.j0])
   | succ kj7 =>
    have H := HA.out; clear HA; simp only [laws_FnExactSplitPlaces.j0] at H; by_cases c22 : x50_7 = true
    ·subst c22
     (have H1 : (some false) = some r := by rw [if_pos rfl] at H; exact H); replace H := H1; clear H1; obtain rfl := Option.some.inj H; go_wp2; go_ret; exact ⟨rE, bB⟩
    ·replace c22 := Bool.eq_false_iff.mpr c22
     subst c22; (have H1 : ((laws_toJobS.f kj7 l0).bind fun t457 => ((laws_eqJobS.f kj7 t448 t457).bind fun t460 => (if t460 = true then ((laws_markJobS.f kj7 t448 1).bind fun bt461 => (if bt461.1 < 0 then (laws_FnExactSplitPlaces.j1 kj7 l0 t443 t444 t445 t452 true) else (if t451 = t443 then ((laws_eqIntS.f kj7 t452 t444).bind fun t463 => (if t463 = true then (laws_FnExactSplitPlaces.j1 kj7 l0 t443 t444 t445 t452 (t453 != t445)) else (laws_FnExactSplitPlaces.j1 kj7 l0 t443 t444 t445 t452 true))) else (laws_FnExactSplitPlaces.j1 kj7 l0 t443 t444 t445 t452 true)))) else (some false)))) = some r := by rw [if_neg (show ¬ (false = true) by decide)] at H; exact H); replace H := H1; clear H1; replace H := oB H; obtain ⟨t457, A230, H⟩ := H; replace H : ((laws_eqJobS.f kj7 t448 t457).bind fun t460 => (if t460 = true then ((laws_markJobS.f kj7 t448 1).bind fun bt461 => (if bt461.1 < 0 then (laws_FnExactSplitPlaces.j1 kj7 l0 t443 t444 t445 t452 true) else (if t451 = t443 then ((laws_eqIntS.f kj7 t452 t444).bind fun t463 => (if t463 = true then (laws_FnExactSplitPlaces.j1 kj7 l0 t443 t444 t445 t452 (t453 != t445)) else (laws_FnExactSplitPlaces.j1 kj7 l0 t443 t444 t445 t452 true))) else (laws_FnExactSplitPlaces.j1 kj7 l0 t443 t444 t445 t452 true)))) else (some false))) = some r := H; have A23 := aM A230; clear A230; replace H := oB H; obtain ⟨t460, A240, H⟩ := H; replace H : (if t460 = true then ((laws_markJobS.f kj7 t448 1).bind fun bt461 => (if bt461.1 < 0 then (laws_FnExactSplitPlaces.j1 kj7 l0 t443 t444 t445 t452 true) else (if t451 = t443 then ((laws_eqIntS.f kj7 t452 t444).bind fun t463 => (if t463 = true then (laws_FnExactSplitPlaces.j1 kj7 l0 t443 t444 t445 t452 (t453 != t445)) else (laws_FnExactSplitPlaces.j1 kj7 l0 t443 t444 t445 t452 true))) else (laws_FnExactSplitPlaces.j1 kj7 l0 t443 t444 t445 t452 true)))) else (some false)) = some r := H; have A24 := aM A240; clear A240; by_cases c25 : t460 = true
     ·subst c25
      (have H1 : ((laws_markJobS.f kj7 t448 1).bind fun bt461 => (if bt461.1 < 0 then (laws_FnExactSplitPlaces.j1 kj7 l0 t443 t444 t445 t452 true) else (if t451 = t443 then ((laws_eqIntS.f kj7 t452 t444).bind fun t463 => (if t463 = true then (laws_FnExactSplitPlaces.j1 kj7 l0 t443 t444 t445 t452 (t453 != t445)) else (laws_FnExactSplitPlaces.j1 kj7 l0 t443 t444 t445 t452 true))) else (laws_FnExactSplitPlaces.j1 kj7 l0 t443 t444 t445 t452 true)))) = some r := by rw [if_pos rfl] at H; exact H); replace H := H1; clear H1; replace H := oB H; obtain ⟨⟨t461, t462⟩, A260, H⟩ := H; replace H : (if t461 < 0 then (laws_FnExactSplitPlaces.j1 kj7 l0 t443 t444 t445 t452 true) else (if t451 = t443 then ((laws_eqIntS.f kj7 t452 t444).bind fun t463 => (if t463 = true then (laws_FnExactSplitPlaces.j1 kj7 l0 t443 t444 t445 t452 (t453 != t445)) else (laws_FnExactSplitPlaces.j1 kj7 l0 t443 t444 t445 t452 true))) else (laws_FnExactSplitPlaces.j1 kj7 l0 t443 t444 t445 t452 true))) = some r := H; have A26 := aM A260; clear A260; have HC27 := aM H; clear H; go_upto_region 14 with (first | ((with_reducible refine gate_callee (f := 9) rfl ?_); refine goesL_ (some 53) rfl rfl Try.func9 (by kernel_rfl) rfl #[.slice A0 l0.length c0] rfl aE ?_; (with_reducible refine (laws_toJobS.calls kj7 _ _ l0 t457 _ ?side1 ?side2 A23.out).mono ?_); (case side1 => exact cK ((Kd.C_below HR0.out HB.out))); (case side2 => exact HC0.out); rintro e w28 ⟨v458, rfl, ho0, hb⟩; refine ⟨_, rfl, ?_⟩; have n0_ := aM (rB HO_5 hb); have n1_ := aM (Kd.R_elder' (by (with_reducible repeat (first | apply Kd.R_alloc | apply Kd.R_drewN | apply Kd.R_drew)); exact HO_7.out) (Kd.R_base ho0) hb); have n2_ := aM (rB HO_9 hb); have n3_ := aM (Kd.R_lower (Kd.R_new' ho0 (Kd.R_lt (by (with_reducible repeat (first | apply Kd.R_alloc | apply Kd.R_drewN | apply Kd.R_drew)); exact HO_7.out))) (below_size bB)); have n4_ := aM (below_step bB hb); clear HO_5; clear HO_7; clear HO_9; clear HB; have HO_5 := n0_; have HO_7 := n1_; have HO_9 := n2_; have HO459 := n3_; have HB := n4_; clear n0_ n1_ n2_ n3_ n4_; (try clear hb); (try clear hk); (try clear ho0); obtain ⟨Ao29, co29, eo29⟩ := Kd.R_slice HO459.out; subst eo29) | ((with_reducible refine gate_callee (f := 13) rfl ?_); refine goesL_ (some 54) rfl rfl Try.func13 (by kernel_rfl) rfl #[.slice Ao13 t448.length co13, .slice Ao29 t457.length co29] rfl aE ?_; (with_reducible refine (laws_eqJobS.calls kj7 _ _ t448 _ _ t457 true _ ?side1 ?side2 ?side3 ?side4 A24.out).mono ?_); (case side1 => exact cK ((Kd.R_reads' HO_7.out).2.2)); (case side2 => exact (Kd.R_reads' HO_7.out).2.1); (case side3 => exact cK ((Kd.R_reads' HO459.out).2.2)); (case side4 => exact (Kd.R_reads' HO459.out).2.1); rintro e w30 ⟨rfl, hb⟩; refine ⟨_, rfl, ?_⟩; have n0_ := aM (rB HO_5 hb); have n1_ := aM (rB HO_7 hb); have n2_ := aM (rB HO_9 hb); have n3_ := aM (rB HO459 hb); have n4_ := aM (below_step bB hb); clear HO_5; clear HO_7; clear HO_9; clear HO459; clear HB; have HO_5 := n0_; have HO_7 := n1_; have HO_9 := n2_; have HO459 := n3_; have HB := n4_; clear n0_ n1_ n2_ n3_ n4_; (try clear hb); (try clear hk)) | ((with_reducible refine gate_callee (f := 15) rfl ?_); refine goesL_ (some 58) rfl rfl Try.func15 (by kernel_rfl) rfl #[.slice Ao13 t448.length co13, .int .i64 1] rfl aE ?_; (with_reducible refine (laws_markJobS.calls kj7 (fun k_ => some k_ = (.slice Ao13 t448.length co13 : Value).ownBlock) (.slice Ao13 t448.length co13) t448 1 t461 t462 w _ ?side1 ?side2 A26.out).mono ?_); (case side1 => repeat (first | (with_reducible first | exact HB.out | apply below_alloc | apply pw_below_drewN | apply below_drew1) | exact HB.out)); (case side2 => exact Kd.R_tight rfl HO_7.out); rintro e w31 ⟨rfl, hy0, hb, hkp⟩; refine ⟨_, rfl, ?_⟩; have n0_ := aM (Kd.R_mono (ok' := fun k_ => some k_ ≠ (v454 : Value).ownBlock) (Kd.R_keptB ((Kd.R_apart' HO_5.out (Kd.R_typed HO_7.out) (by decide))) hkp (fun k_ hk_ hs_ => (hk_.2) hs_)) (fun k_ hk_ => hk_.1.1)); have n1_ := aM (Kd.R_reok rfl hy0 (fun k_ e_ => HO_7.out.1 k_ e_)); have n2_ := aM (Kd.R_mono (ok' := fun k_ => some k_ ≠ (v446 : Value).ownBlock) (Kd.R_keptB ((Kd.R_apart' HO_9.out (Kd.R_typed HO_7.out) (by decide))) hkp (fun k_ hk_ hs_ => (hk_.2) hs_)) (fun k_ hk_ => hk_.1.1)); have n3_ := aM (Kd.R_mono (ok' := fun k_ => some k_ ≠ (.slice Ao13 t448.length co13 : Value).ownBlock) (Kd.R_keptB (HO459.out) hkp (fun k_ hk_ hs_ => (hk_.2) hs_)) (fun k_ hk_ => hk_.1.2)); have n4_ := aM (hb); clear HO_5; clear HO_7; clear HO_9; clear HO459; clear HB; have HO_5 := n0_; have HO_7 := n1_; have HO_9 := n2_; have HO459 := n3_; have HB := n4_; clear n0_ n1_ n2_ n3_ n4_; (try clear hb); (try clear hkp); (try clear hy0))); (try simp only [Act.put, sA, sZ, sS]); go_cut [76] (fun v76 wc => ∃ (kq : Nat) (x76_26 : Bool), v76 = .bool x76_26 ∧ Aside0 (laws_FnExactSplitPlaces.j1 kq l0 t443 t444 t445 t452 x76_26 = some r) ∧ Aside0 (kq ≤ kj7) ∧ Aside0 (Kd.R (Kd.int .i64) 3 wc w.heap.size (fun k_ => some k_ ≠ (v454 : Value).ownBlock) v446 t444) ∧ Aside0 (Kd.R (Kd.int .i64) 3 wc w.heap.size (fun k_ => some k_ ≠ (v446 : Value).ownBlock) v454 t452) ∧ Aside0 (Below w.heap.size w wc))
      case first =>
       have H := HC27.out; clear HC27; by_cases c32 : t461 < 0
       ·rw [if_pos c32] at H
        have c32b0 : decide (t461 < 0) = true := decide_eq_true c32; clear c32; (first | rw [c32b0] | (simp only [i64_w, i32_w]; rw [c32b0]) | skip); have H' := aM H; clear H; go_wp2; go_meet
        case rel => exact ⟨_, (true), sD, H', ⟨by have := HJ7.out; first | omega | exact Nat.le_refl _⟩, ⟨kR⟩, ⟨kR⟩, ⟨by repeat (first | (with_reducible first | exact HB.out | apply below_alloc | apply pw_below_drewN | apply below_drew1) | exact HB.out)⟩⟩
       ·rw [if_neg c32] at H
        have c32b0 : decide (t461 < 0) = false := decide_eq_false c32; clear c32; (first | rw [c32b0] | (simp only [i64_w, i32_w]; rw [c32b0]) | skip); by_cases c33 : t451 = t443
        ·rw [if_pos c33] at H
         have c33b0 : (t451 == t443) = true := beq_iff_eq.mpr c33; have c33b1 : (t451 != t443) = false := bne_eq_false_iff_eq.mpr c33; clear c33; replace H := oB H; obtain ⟨t463, A340, H⟩ := H; replace H : (if t463 = true then (laws_FnExactSplitPlaces.j1 kj7 l0 t443 t444 t445 t452 (t453 != t445)) else (laws_FnExactSplitPlaces.j1 kj7 l0 t443 t444 t445 t452 true)) = some r := H; have A34 := aM A340; clear A340; by_cases c35 : t463 = true
         ·subst c35
          (have H1 : (laws_FnExactSplitPlaces.j1 kj7 l0 t443 t444 t445 t452 (t453 != t445)) = some r := by rw [if_pos rfl] at H; exact H); replace H := H1; clear H1; have H' := aM H; clear H; obtain ⟨Ao36, co36, eo36⟩ := Kd.R_slice HO_9.out; subst eo36; obtain ⟨Ao37, co37, eo37⟩ := Kd.R_slice HO_5.out; subst eo37; (go_wp2_with (first | (go_at_call 21; (with_reducible refine (laws_eqIntS.calls kj7 _ _ t452 _ _ t444 true _ ?side1 ?side2 ?side3 ?side4 A34.out).mono ?_); (case side1 => exact cK ((Kd.R_reads' HO_9.out).2.2)); (case side2 => exact (Kd.R_reads' HO_9.out).2.1); (case side3 => exact cK ((Kd.R_reads' HO_5.out).2.2)); (case side4 => exact (Kd.R_reads' HO_5.out).2.1); rintro e w' ⟨rfl, ⟨nd, rfl⟩⟩))); go_meet
          case rel => exact ⟨_, ((t453 != t445)), sD, H', ⟨by have := HJ7.out; first | omega | exact Nat.le_refl _⟩, ⟨kR⟩, ⟨kR⟩, ⟨by repeat (first | (with_reducible first | exact HB.out | apply below_alloc | apply pw_below_drewN | apply below_drew1) | exact HB.out)⟩⟩
         ·replace c35 := Bool.eq_false_iff.mpr c35
          subst c35; (have H1 : (laws_FnExactSplitPlaces.j1 kj7 l0 t443 t444 t445 t452 true) = some r := by rw [if_neg (show ¬ (false = true) by decide)] at H; exact H); replace H := H1; clear H1; have H' := aM H; clear H; obtain ⟨Ao38, co38, eo38⟩ := Kd.R_slice HO_9.out; subst eo38; obtain ⟨Ao39, co39, eo39⟩ := Kd.R_slice HO_5.out; subst eo39; (go_wp2_with (first | (go_at_call 21; (with_reducible refine (laws_eqIntS.calls kj7 _ _ t452 _ _ t444 false _ ?side1 ?side2 ?side3 ?side4 A34.out).mono ?_); (case side1 => exact cK ((Kd.R_reads' HO_9.out).2.2)); (case side2 => exact (Kd.R_reads' HO_9.out).2.1); (case side3 => exact cK ((Kd.R_reads' HO_5.out).2.2)); (case side4 => exact (Kd.R_reads' HO_5.out).2.1); rintro e w' ⟨rfl, ⟨nd, rfl⟩⟩))); go_meet
          case rel => exact ⟨_, (true), sD, H', ⟨by have := HJ7.out; first | omega | exact Nat.le_refl _⟩, ⟨kR⟩, ⟨kR⟩, ⟨by repeat (first | (with_reducible first | exact HB.out | apply below_alloc | apply pw_below_drewN | apply below_drew1) | exact HB.out)⟩⟩
        ·rw [if_neg c33] at H
         have c33b0 : (t451 == t443) = false := beq_eq_false_iff_ne.mpr c33; have c33b1 : (t451 != t443) = true := bne_iff_ne.mpr c33; have H' := aM H; clear H; go_wp2; go_meet
         case rel => exact ⟨_, (true), sD, H', ⟨by have := HJ7.out; first | omega | exact Nat.le_refl _⟩, ⟨kR⟩, ⟨kR⟩, ⟨by repeat (first | (with_reducible first | exact HB.out | apply below_alloc | apply pw_below_drewN | apply below_drew1) | exact HB.out)⟩⟩
      case rest =>
       clear HC27; (try clear c3); (try clear c3b0); (try clear c15); (try clear c15b0); (try clear c15b1); (try clear c17); (try clear c22); (try clear c25); (try clear c32); (try clear c32b0); (try clear c33); (try clear c33b0); (try clear c33b1); (try clear c35); obtain ⟨kq, x76_26, rfl, HA, HJ26, HO_5, HO_9, HB⟩ := hcut
       cases kq with
       | zero => exact absurd HA.out (by simp [laws_FnExactSplitPlaces.j1])
       | succ kj26 =>
        have H := HA.out; clear HA; simp only [laws_FnExactSplitPlaces.j1] at H; by_cases c40 : x76_26 = true
        ·subst c40
         (have H1 : (some false) = some r := by rw [if_pos rfl] at H; exact H); replace H := H1; clear H1; obtain rfl := Option.some.inj H; go_wp2; go_ret; exact ⟨rE, bB⟩
        ·replace c40 := Bool.eq_false_iff.mpr c40
         subst c40; (have H1 : ((laws_markIntS.f kj26 t452 1).bind fun bt464 => ((laws_heldIntS.f kj26 bt464.2 1).bind fun t466 => (if t466 < 0 then (some false) else (if t466 = bt464.1 then ((laws_toJobS.f kj26 l0).bind fun t467 => ((impl_SplitPlaces.f kj26 t467).bind fun bt470 => (if bt470.1 = t443 then ((laws_eqIntS.f kj26 bt470.2.1 t444).bind fun t475 => (if t475 = true then (laws_FnExactSplitPlaces.j2 kj26 bt464.2 bt464.1 (bt470.2.2 != t445)) else (laws_FnExactSplitPlaces.j2 kj26 bt464.2 bt464.1 true))) else (laws_FnExactSplitPlaces.j2 kj26 bt464.2 bt464.1 true)))) else (some false))))) = some r := by rw [if_neg (show ¬ (false = true) by decide)] at H; exact H); replace H := H1; clear H1; replace H := oB H; obtain ⟨⟨t464, t465⟩, A410, H⟩ := H; replace H : ((laws_heldIntS.f kj26 t465 1).bind fun t466 => (if t466 < 0 then (some false) else (if t466 = t464 then ((laws_toJobS.f kj26 l0).bind fun t467 => ((impl_SplitPlaces.f kj26 t467).bind fun bt470 => (if bt470.1 = t443 then ((laws_eqIntS.f kj26 bt470.2.1 t444).bind fun t475 => (if t475 = true then (laws_FnExactSplitPlaces.j2 kj26 t465 t464 (bt470.2.2 != t445)) else (laws_FnExactSplitPlaces.j2 kj26 t465 t464 true))) else (laws_FnExactSplitPlaces.j2 kj26 t465 t464 true)))) else (some false)))) = some r := H; have A41 := aM A410; clear A410; replace H := oB H; obtain ⟨t466, A420, H⟩ := H; replace H : (if t466 < 0 then (some false) else (if t466 = t464 then ((laws_toJobS.f kj26 l0).bind fun t467 => ((impl_SplitPlaces.f kj26 t467).bind fun bt470 => (if bt470.1 = t443 then ((laws_eqIntS.f kj26 bt470.2.1 t444).bind fun t475 => (if t475 = true then (laws_FnExactSplitPlaces.j2 kj26 t465 t464 (bt470.2.2 != t445)) else (laws_FnExactSplitPlaces.j2 kj26 t465 t464 true))) else (laws_FnExactSplitPlaces.j2 kj26 t465 t464 true)))) else (some false))) = some r := H; have A42 := aM A420; clear A420; by_cases c43 : t466 < 0
         ·rw [if_pos c43] at H
          have c43b0 : decide (t466 < 0) = true := decide_eq_true c43; clear c43; obtain rfl := Option.some.inj H; obtain ⟨Ao44, co44, eo44⟩ := Kd.R_slice HO_9.out; subst eo44; (go_wp2_with (first | ((with_reducible refine gate_callee (f := 22) rfl ?_); refine goesL_ (some 79) rfl rfl Try.func22 (by kernel_rfl) rfl #[.slice Ao44 t452.length co44, .int .i64 1] rfl aE ?_; (with_reducible refine (laws_markIntS.calls kj26 (fun k_ => some k_ = (.slice Ao44 t452.length co44 : Value).ownBlock) (.slice Ao44 t452.length co44) t452 1 t464 t465 w _ ?side1 ?side2 A41.out).mono ?_); (case side1 => repeat (first | (with_reducible first | exact HB.out | apply below_alloc | apply pw_below_drewN | apply below_drew1) | exact HB.out)); (case side2 => exact Kd.R_tight rfl HO_9.out); rintro e w45 ⟨rfl, hy0, hb, hkp⟩; refine ⟨_, rfl, ?_⟩; have n0_ := aM (Kd.R_mono (ok' := fun k_ => some k_ ≠ (.slice Ao44 t452.length co44 : Value).ownBlock) (Kd.R_keptB (HO_5.out) hkp (fun k_ hk_ hs_ => (hk_) hs_)) (fun k_ hk_ => hk_.1)); have n1_ := aM (Kd.R_reok rfl hy0 (fun k_ e_ => HO_9.out.1 k_ e_)); have n2_ := aM (hb); clear HO_5; clear HO_9; clear HB; have HO_5 := n0_; have HO_9 := n1_; have HB := n2_; clear n0_ n1_ n2_; (try clear hb); (try clear hkp); (try clear hy0)) | ((with_reducible refine gate_callee (f := 23) rfl ?_); refine goesL_ (some 82) rfl rfl Try.func23 (by kernel_rfl) rfl #[.slice Ao44 t465.length co44, .int .i64 1] rfl (by (try simp only [List.map_toArray, List.map_cons, List.map_nil]); first | done | (rw [show t465.length = t452.length from (Kd.R_reads' HO_9.out).1.symm] <;> rfl) | rfl | (simp only [List.length_drop, List.length_take]; rfl)) ?_; (with_reducible refine (laws_heldIntS.calls kj26 _ _ t465 1 t466 _ ?side1 ?side2 A42.out).mono ?_); (case side1 => exact cK ((Kd.R_reads' HO_9.out).2.2)); (case side2 => rw [show t465.length = t452.length from (Kd.R_reads' HO_9.out).1.symm]; exact (Kd.R_reads' HO_9.out).2.1); rintro e w' ⟨rfl, ⟨nd, rfl⟩⟩; refine ⟨_, rfl, ?_⟩))); go_ret; exact ⟨rE, bB⟩
         ·rw [if_neg c43] at H
          have c43b0 : decide (t466 < 0) = false := decide_eq_false c43; clear c43; by_cases c46 : t466 = t464
          ·rw [if_pos c46] at H
           have c46b0 : (t466 == t464) = true := beq_iff_eq.mpr c46; have c46b1 : (t466 != t464) = false := bne_eq_false_iff_eq.mpr c46; clear c46; replace H := oB H; obtain ⟨t467, A470, H⟩ := H; replace H : ((impl_SplitPlaces.f kj26 t467).bind fun bt470 => (if bt470.1 = t443 then ((laws_eqIntS.f kj26 bt470.2.1 t444).bind fun t475 => (if t475 = true then (laws_FnExactSplitPlaces.j2 kj26 t465 t464 (bt470.2.2 != t445)) else (laws_FnExactSplitPlaces.j2 kj26 t465 t464 true))) else (laws_FnExactSplitPlaces.j2 kj26 t465 t464 true))) = some r := H; have A47 := aM A470; clear A470; replace H := oB H; obtain ⟨⟨t470, t471, t472⟩, A480, H⟩ := H; replace H : (if t470 = t443 then ((laws_eqIntS.f kj26 t471 t444).bind fun t475 => (if t475 = true then (laws_FnExactSplitPlaces.j2 kj26 t465 t464 (t472 != t445)) else (laws_FnExactSplitPlaces.j2 kj26 t465 t464 true))) else (laws_FnExactSplitPlaces.j2 kj26 t465 t464 true)) = some r := H; have A48 := aM A480; clear A480; have HC49 := aM H; clear H; obtain ⟨Ao50, co50, eo50⟩ := Kd.R_slice HO_9.out; subst eo50; (go_upto_region 25 with (first | ((with_reducible refine gate_callee (f := 22) rfl ?_); refine goesL_ (some 79) rfl rfl Try.func22 (by kernel_rfl) rfl #[.slice Ao50 t452.length co50, .int .i64 1] rfl aE ?_; (with_reducible refine (laws_markIntS.calls kj26 (fun k_ => some k_ = (.slice Ao50 t452.length co50 : Value).ownBlock) (.slice Ao50 t452.length co50) t452 1 t464 t465 w _ ?side1 ?side2 A41.out).mono ?_); (case side1 => repeat (first | (with_reducible first | exact HB.out | apply below_alloc | apply pw_below_drewN | apply below_drew1) | exact HB.out)); (case side2 => exact Kd.R_tight rfl HO_9.out); rintro e w51 ⟨rfl, hy0, hb, hkp⟩; refine ⟨_, rfl, ?_⟩; have n0_ := aM (Kd.R_mono (ok' := fun k_ => some k_ ≠ (.slice Ao50 t452.length co50 : Value).ownBlock) (Kd.R_keptB (HO_5.out) hkp (fun k_ hk_ hs_ => (hk_) hs_)) (fun k_ hk_ => hk_.1)); have n1_ := aM (Kd.R_reok rfl hy0 (fun k_ e_ => HO_9.out.1 k_ e_)); have n2_ := aM (hb); clear HO_5; clear HO_9; clear HB; have HO_5 := n0_; have HO_9 := n1_; have HB := n2_; clear n0_ n1_ n2_; (try clear hb); (try clear hkp); (try clear hy0)) | ((with_reducible refine gate_callee (f := 23) rfl ?_); refine goesL_ (some 82) rfl rfl Try.func23 (by kernel_rfl) rfl #[.slice Ao50 t465.length co50, .int .i64 1] rfl (by (try simp only [List.map_toArray, List.map_cons, List.map_nil]); first | done | (rw [show t465.length = t452.length from (Kd.R_reads' HO_9.out).1.symm] <;> rfl) | rfl | (simp only [List.length_drop, List.length_take]; rfl)) ?_; (with_reducible refine (laws_heldIntS.calls kj26 _ _ t465 1 t466 _ ?side1 ?side2 A42.out).mono ?_); (case side1 => exact cK ((Kd.R_reads' HO_9.out).2.2)); (case side2 => rw [show t465.length = t452.length from (Kd.R_reads' HO_9.out).1.symm]; exact (Kd.R_reads' HO_9.out).2.1); rintro e w' ⟨rfl, ⟨nd, rfl⟩⟩; refine ⟨_, rfl, ?_⟩) | ((with_reducible refine gate_callee (f := 9) rfl ?_); refine goesL_ (some 90) rfl rfl Try.func9 (by kernel_rfl) rfl #[.slice A0 l0.length c0] rfl aE ?_; (with_reducible refine (laws_toJobS.calls kj26 _ _ l0 t467 _ ?side1 ?side2 A47.out).mono ?_); (case side1 => exact cK ((Kd.C_below HR0.out bB))); (case side2 => exact HC0.out); rintro e w52 ⟨v468, rfl, ho0, hb⟩; refine ⟨_, rfl, ?_⟩; have n0_ := aM (rB HO_5 hb); have n1_ := aM (rB HO_9 hb); have n2_ := aM (Kd.R_lower ho0 (below_size bB)); have n3_ := aM (below_step bB hb); clear HO_5; clear HO_9; clear HB; have HO_5 := n0_; have HO_9 := n1_; have HO469 := n2_; have HB := n3_; clear n0_ n1_ n2_ n3_; (try clear hb); (try clear hk); (try clear ho0); obtain ⟨Ao53, co53, eo53⟩ := Kd.R_slice HO469.out; subst eo53) | ((with_reducible refine gate_callee (f := 20) rfl ?_); refine goesL_ (some 91) rfl rfl Try.func20 (by kernel_rfl) rfl #[.slice Ao53 t467.length co53] rfl aE ?_; (with_reducible refine (impl_SplitPlaces.calls kj26 _ _ t467 t470 t471 t472 _ ?side1 ?side2 A48.out).mono ?_); (case side1 => exact cK ((Kd.R_reads' HO469.out).2.2)); (case side2 => exact (Kd.R_reads' HO469.out).2.1); rintro e w54 ⟨v473, rfl, ho0, hb⟩; refine ⟨_, rfl, ?_⟩; have n0_ := aM (Kd.R_elder' (by (with_reducible repeat (first | apply Kd.R_alloc | apply Kd.R_drewN | apply Kd.R_drew)); exact HO_5.out) (Kd.R_base ho0) hb); have n1_ := aM (Kd.R_elder' (by (with_reducible repeat (first | apply Kd.R_alloc | apply Kd.R_drewN | apply Kd.R_drew)); exact HO_9.out) (Kd.R_base ho0) hb); have n2_ := aM (rB HO469 hb); have n3_ := aM (Kd.R_lower (Kd.R_new' (Kd.R_new' ho0 (Kd.R_lt (by (with_reducible repeat (first | apply Kd.R_alloc | apply Kd.R_drewN | apply Kd.R_drew)); exact HO_5.out))) (Kd.R_lt (by (with_reducible repeat (first | apply Kd.R_alloc | apply Kd.R_drewN | apply Kd.R_drew)); exact HO_9.out))) (below_size bB)); have n4_ := aM (below_step bB hb); clear HO_5; clear HO_9; clear HO469; clear HB; have HO_5 := n0_; have HO_9 := n1_; have HO469 := n2_; have HO474 := n3_; have HB := n4_; clear n0_ n1_ n2_ n3_ n4_; (try clear hb); (try clear hk); (try clear ho0)))); (try simp only [Act.put, sA, sZ, sS]); go_cut [108] (fun v108 wc => ∃ (kq : Nat) (x108_48 : Bool), v108 = .bool x108_48 ∧ Aside0 (laws_FnExactSplitPlaces.j2 kq t465 t464 x108_48 = some r) ∧ Aside0 (kq ≤ kj26) ∧ Aside0 (Kd.R (Kd.int .i64) 3 wc w.heap.size (fun _ => True) (.slice Ao50 t452.length co50) t465) ∧ Aside0 (Below w.heap.size w wc))
           case first =>
            have H := HC49.out; clear HC49; by_cases c55 : t470 = t443
            ·rw [if_pos c55] at H
             have c55b0 : (t470 == t443) = true := beq_iff_eq.mpr c55; have c55b1 : (t470 != t443) = false := bne_eq_false_iff_eq.mpr c55; clear c55; (first | rw [c55b0] | (simp only [i64_w, i32_w]; rw [c55b0]) | skip); replace H := oB H; obtain ⟨t475, A560, H⟩ := H; replace H : (if t475 = true then (laws_FnExactSplitPlaces.j2 kj26 t465 t464 (t472 != t445)) else (laws_FnExactSplitPlaces.j2 kj26 t465 t464 true)) = some r := H; have A56 := aM A560; clear A560; by_cases c57 : t475 = true
             ·subst c57
              (have H1 : (laws_FnExactSplitPlaces.j2 kj26 t465 t464 (t472 != t445)) = some r := by rw [if_pos rfl] at H; exact H); replace H := H1; clear H1; have H' := aM H; clear H; obtain ⟨Ao58, co58, eo58⟩ := Kd.R_slice HO474.out; subst eo58; obtain ⟨Ao59, co59, eo59⟩ := Kd.R_slice HO_5.out; subst eo59; (go_wp2_with (first | (go_at_call 21; (with_reducible refine (laws_eqIntS.calls kj26 _ _ t471 _ _ t444 true _ ?side1 ?side2 ?side3 ?side4 A56.out).mono ?_); (case side1 => exact cK ((Kd.R_reads' HO474.out).2.2)); (case side2 => exact (Kd.R_reads' HO474.out).2.1); (case side3 => exact cK ((Kd.R_reads' HO_5.out).2.2)); (case side4 => exact (Kd.R_reads' HO_5.out).2.1); rintro e w' ⟨rfl, ⟨nd, rfl⟩⟩))); go_meet
              case rel => exact ⟨_, ((t472 != t445)), sD, H', ⟨by have := HJ7.out; have := HJ26.out; first | omega | exact Nat.le_refl _⟩, ⟨by (with_reducible repeat (first | apply Kd.R_alloc | apply Kd.R_drewN | apply Kd.R_drew)); exact Kd.R_mono HO_9.out (fun _ hk => trivial)⟩, ⟨by repeat (first | (with_reducible first | exact HB.out | apply below_alloc | apply pw_below_drewN | apply below_drew1) | exact HB.out)⟩⟩
             ·replace c57 := Bool.eq_false_iff.mpr c57
              subst c57; (have H1 : (laws_FnExactSplitPlaces.j2 kj26 t465 t464 true) = some r := by rw [if_neg (show ¬ (false = true) by decide)] at H; exact H); replace H := H1; clear H1; have H' := aM H; clear H; obtain ⟨Ao60, co60, eo60⟩ := Kd.R_slice HO474.out; subst eo60; obtain ⟨Ao61, co61, eo61⟩ := Kd.R_slice HO_5.out; subst eo61; (go_wp2_with (first | (go_at_call 21; (with_reducible refine (laws_eqIntS.calls kj26 _ _ t471 _ _ t444 false _ ?side1 ?side2 ?side3 ?side4 A56.out).mono ?_); (case side1 => exact cK ((Kd.R_reads' HO474.out).2.2)); (case side2 => exact (Kd.R_reads' HO474.out).2.1); (case side3 => exact cK ((Kd.R_reads' HO_5.out).2.2)); (case side4 => exact (Kd.R_reads' HO_5.out).2.1); rintro e w' ⟨rfl, ⟨nd, rfl⟩⟩))); go_meet
              case rel => exact ⟨_, (true), sD, H', ⟨by have := HJ7.out; have := HJ26.out; first | omega | exact Nat.le_refl _⟩, ⟨by (with_reducible repeat (first | apply Kd.R_alloc | apply Kd.R_drewN | apply Kd.R_drew)); exact Kd.R_mono HO_9.out (fun _ hk => trivial)⟩, ⟨by repeat (first | (with_reducible first | exact HB.out | apply below_alloc | apply pw_below_drewN | apply below_drew1) | exact HB.out)⟩⟩
            ·rw [if_neg c55] at H
             have c55b0 : (t470 == t443) = false := beq_eq_false_iff_ne.mpr c55; have c55b1 : (t470 != t443) = true := bne_iff_ne.mpr c55; (first | rw [c55b0] | (simp only [i64_w, i32_w]; rw [c55b0]) | skip); have H' := aM H; clear H; go_wp2; go_meet
             case rel => exact ⟨_, (true), sD, H', ⟨by have := HJ7.out; have := HJ26.out; first | omega | exact Nat.le_refl _⟩, ⟨by (with_reducible repeat (first | apply Kd.R_alloc | apply Kd.R_drewN | apply Kd.R_drew)); exact Kd.R_mono HO_9.out (fun _ hk => trivial)⟩, ⟨by repeat (first | (with_reducible first | exact HB.out | apply below_alloc | apply pw_below_drewN | apply below_drew1) | exact HB.out)⟩⟩
           case rest =>
            clear HC49; (try clear c3); (try clear c3b0); (try clear c15); (try clear c15b0); (try clear c15b1); (try clear c17); (try clear c22); (try clear c25); (try clear c32); (try clear c32b0); (try clear c33); (try clear c33b0); (try clear c33b1); (try clear c35); (try clear c40); (try clear c43); (try clear c43b0); (try clear c46); (try clear c46b0); (try clear c46b1); (try clear c55); (try clear c55b0); (try clear c55b1); (try clear c57); obtain ⟨kq, x108_48, rfl, HA, HJ48, HO_9, HB⟩ := hcut; have hl9_48 := (Kd.R_reads' HO_9.out).1; rw [hl9_48] at HO_9; (try simp only [hl9_48])
            cases kq with
            | zero => exact absurd HA.out (by simp [laws_FnExactSplitPlaces.j2])
            | succ kj48 =>
             have H := HA.out; clear HA; simp only [laws_FnExactSplitPlaces.j2] at H; by_cases c62 : x108_48 = true
             ·subst c62
              (have H1 : (some false) = some r := by rw [if_pos rfl] at H; exact H); replace H := H1; clear H1; obtain rfl := Option.some.inj H; go_wp2; go_ret; exact ⟨rE, bB⟩
             ·replace c62 := Bool.eq_false_iff.mpr c62
              subst c62; (have H1 : ((laws_heldIntS.f kj48 t465 1).bind fun t476 => (if t476 < 0 then (some false) else (if t476 = t464 then (some true) else (some false)))) = some r := by rw [if_neg (show ¬ (false = true) by decide)] at H; exact H); replace H := H1; clear H1; replace H := oB H; obtain ⟨t476, A630, H⟩ := H; replace H : (if t476 < 0 then (some false) else (if t476 = t464 then (some true) else (some false))) = some r := H; have A63 := aM A630; clear A630; by_cases c64 : t476 < 0
              ·rw [if_pos c64] at H
               have c64b0 : decide (t476 < 0) = true := decide_eq_true c64; clear c64; obtain rfl := Option.some.inj H; (go_wp2_with (first | ((with_reducible refine gate_callee (f := 23) rfl ?_); refine goesL_ (some 111) rfl rfl Try.func23 (by kernel_rfl) rfl #[.slice Ao50 t465.length co50, .int .i64 1] rfl aE ?_; (with_reducible refine (laws_heldIntS.calls kj48 _ _ t465 1 t476 _ ?side1 ?side2 A63.out).mono ?_); (case side1 => exact cK ((Kd.R_reads' HO_9.out).2.2)); (case side2 => exact (Kd.R_reads' HO_9.out).2.1); rintro e w' ⟨rfl, ⟨nd, rfl⟩⟩; refine ⟨_, rfl, ?_⟩))); go_ret; exact ⟨rE, bB⟩
              ·rw [if_neg c64] at H
               have c64b0 : decide (t476 < 0) = false := decide_eq_false c64; clear c64; by_cases c65 : t476 = t464
               ·rw [if_pos c65] at H
                have c65b0 : (t476 == t464) = true := beq_iff_eq.mpr c65; have c65b1 : (t476 != t464) = false := bne_eq_false_iff_eq.mpr c65; clear c65; obtain rfl := Option.some.inj H; (go_wp2_with (first | ((with_reducible refine gate_callee (f := 23) rfl ?_); refine goesL_ (some 111) rfl rfl Try.func23 (by kernel_rfl) rfl #[.slice Ao50 t465.length co50, .int .i64 1] rfl aE ?_; (with_reducible refine (laws_heldIntS.calls kj48 _ _ t465 1 t476 _ ?side1 ?side2 A63.out).mono ?_); (case side1 => exact cK ((Kd.R_reads' HO_9.out).2.2)); (case side2 => exact (Kd.R_reads' HO_9.out).2.1); rintro e w' ⟨rfl, ⟨nd, rfl⟩⟩; refine ⟨_, rfl, ?_⟩))); go_ret; exact ⟨rE, bB⟩
               ·rw [if_neg c65] at H
                have c65b0 : (t476 == t464) = false := beq_eq_false_iff_ne.mpr c65; have c65b1 : (t476 != t464) = true := bne_iff_ne.mpr c65; obtain rfl := Option.some.inj H; (go_wp2_with (first | ((with_reducible refine gate_callee (f := 23) rfl ?_); refine goesL_ (some 111) rfl rfl Try.func23 (by kernel_rfl) rfl #[.slice Ao50 t465.length co50, .int .i64 1] rfl aE ?_; (with_reducible refine (laws_heldIntS.calls kj48 _ _ t465 1 t476 _ ?side1 ?side2 A63.out).mono ?_); (case side1 => exact cK ((Kd.R_reads' HO_9.out).2.2)); (case side2 => exact (Kd.R_reads' HO_9.out).2.1); rintro e w' ⟨rfl, ⟨nd, rfl⟩⟩; refine ⟨_, rfl, ?_⟩))); go_ret; exact ⟨rE, bB⟩
          ·rw [if_neg c46] at H
           have c46b0 : (t466 == t464) = false := beq_eq_false_iff_ne.mpr c46; have c46b1 : (t466 != t464) = true := bne_iff_ne.mpr c46; obtain rfl := Option.some.inj H; obtain ⟨Ao66, co66, eo66⟩ := Kd.R_slice HO_9.out; subst eo66; (go_wp2_with (first | ((with_reducible refine gate_callee (f := 22) rfl ?_); refine goesL_ (some 79) rfl rfl Try.func22 (by kernel_rfl) rfl #[.slice Ao66 t452.length co66, .int .i64 1] rfl aE ?_; (with_reducible refine (laws_markIntS.calls kj26 (fun k_ => some k_ = (.slice Ao66 t452.length co66 : Value).ownBlock) (.slice Ao66 t452.length co66) t452 1 t464 t465 w _ ?side1 ?side2 A41.out).mono ?_); (case side1 => repeat (first | (with_reducible first | exact HB.out | apply below_alloc | apply pw_below_drewN | apply below_drew1) | exact HB.out)); (case side2 => exact Kd.R_tight rfl HO_9.out); rintro e w67 ⟨rfl, hy0, hb, hkp⟩; refine ⟨_, rfl, ?_⟩; have n0_ := aM (Kd.R_mono (ok' := fun k_ => some k_ ≠ (.slice Ao66 t452.length co66 : Value).ownBlock) (Kd.R_keptB (HO_5.out) hkp (fun k_ hk_ hs_ => (hk_) hs_)) (fun k_ hk_ => hk_.1)); have n1_ := aM (Kd.R_reok rfl hy0 (fun k_ e_ => HO_9.out.1 k_ e_)); have n2_ := aM (hb); clear HO_5; clear HO_9; clear HB; have HO_5 := n0_; have HO_9 := n1_; have HB := n2_; clear n0_ n1_ n2_; (try clear hb); (try clear hkp); (try clear hy0)) | ((with_reducible refine gate_callee (f := 23) rfl ?_); refine goesL_ (some 82) rfl rfl Try.func23 (by kernel_rfl) rfl #[.slice Ao66 t465.length co66, .int .i64 1] rfl (by (try simp only [List.map_toArray, List.map_cons, List.map_nil]); first | done | (rw [show t465.length = t452.length from (Kd.R_reads' HO_9.out).1.symm] <;> rfl) | rfl | (simp only [List.length_drop, List.length_take]; rfl)) ?_; (with_reducible refine (laws_heldIntS.calls kj26 _ _ t465 1 t466 _ ?side1 ?side2 A42.out).mono ?_); (case side1 => exact cK ((Kd.R_reads' HO_9.out).2.2)); (case side2 => rw [show t465.length = t452.length from (Kd.R_reads' HO_9.out).1.symm]; exact (Kd.R_reads' HO_9.out).2.1); rintro e w' ⟨rfl, ⟨nd, rfl⟩⟩; refine ⟨_, rfl, ?_⟩))); go_ret; exact ⟨rE, bB⟩
     ·replace c25 := Bool.eq_false_iff.mpr c25
      subst c25; (have H1 : (some false) = some r := by rw [if_neg (show ¬ (false = true) by decide)] at H; exact H); replace H := H1; clear H1; obtain rfl := Option.some.inj H; (go_wp2_with (first | ((with_reducible refine gate_callee (f := 9) rfl ?_); refine goesL_ (some 53) rfl rfl Try.func9 (by kernel_rfl) rfl #[.slice A0 l0.length c0] rfl aE ?_; (with_reducible refine (laws_toJobS.calls kj7 _ _ l0 t457 _ ?side1 ?side2 A23.out).mono ?_); (case side1 => exact cK ((Kd.C_below HR0.out HB.out))); (case side2 => exact HC0.out); rintro e w68 ⟨v458, rfl, ho0, hb⟩; refine ⟨_, rfl, ?_⟩; have n0_ := aM (rB HO_5 hb); have n1_ := aM (Kd.R_elder' (by (with_reducible repeat (first | apply Kd.R_alloc | apply Kd.R_drewN | apply Kd.R_drew)); exact HO_7.out) (Kd.R_base ho0) hb); have n2_ := aM (rB HO_9 hb); have n3_ := aM (Kd.R_lower (Kd.R_new' ho0 (Kd.R_lt (by (with_reducible repeat (first | apply Kd.R_alloc | apply Kd.R_drewN | apply Kd.R_drew)); exact HO_7.out))) (below_size bB)); have n4_ := aM (below_step bB hb); clear HO_5; clear HO_7; clear HO_9; clear HB; have HO_5 := n0_; have HO_7 := n1_; have HO_9 := n2_; have HO459 := n3_; have HB := n4_; clear n0_ n1_ n2_ n3_ n4_; (try clear hb); (try clear hk); (try clear ho0); obtain ⟨Ao69, co69, eo69⟩ := Kd.R_slice HO459.out; subst eo69) | ((with_reducible refine gate_callee (f := 13) rfl ?_); refine goesL_ (some 54) rfl rfl Try.func13 (by kernel_rfl) rfl #[.slice Ao13 t448.length co13, .slice Ao69 t457.length co69] rfl aE ?_; (with_reducible refine (laws_eqJobS.calls kj7 _ _ t448 _ _ t457 false _ ?side1 ?side2 ?side3 ?side4 A24.out).mono ?_); (case side1 => exact cK ((Kd.R_reads' HO_7.out).2.2)); (case side2 => exact (Kd.R_reads' HO_7.out).2.1); (case side3 => exact cK ((Kd.R_reads' HO459.out).2.2)); (case side4 => exact (Kd.R_reads' HO459.out).2.1); rintro e w70 ⟨rfl, hb⟩; refine ⟨_, rfl, ?_⟩; have n0_ := aM (rB HO_5 hb); have n1_ := aM (rB HO_7 hb); have n2_ := aM (rB HO_9 hb); have n3_ := aM (rB HO459 hb); have n4_ := aM (below_step bB hb); clear HO_5; clear HO_7; clear HO_9; clear HO459; clear HB; have HO_5 := n0_; have HO_7 := n1_; have HO_9 := n2_; have HO459 := n3_; have HB := n4_; clear n0_ n1_ n2_ n3_ n4_; (try clear hb); (try clear hk)))); go_ret; exact ⟨rE, bB⟩

end Go.Proofs.Ytlhppclbokkfmaa.OFnExactSplitPlaces
