/- Functions of the program as plain Lean functions, with their contracts: written by this session's program ownprint.py. Conditions: none. -/
import Derived.Test.YtecdigebnhlfhaaOFnExactTotalEndx0
import Derived.Test.YtecdigebnhlfhaaOFnExactTotalEndx1
import Derived.Test.YtecdigebnhlfhaaOFnExactTotalEndx2
import Derived.Test.YtecdigebnhlfhaaOFnExactTotalEndx4
namespace Go.Proofs.Ytecdigebnhlfhaa.OFnExactTotalEnd
open Go.RowKit Go.Proofs.YtecdigebnhlfhaaW.PrintWords Go.Proofs.YtecdigebnhlfhaaW.PrintLast Go.Proofs.YtecdigebnhlfhaaW.PrintMore
attribute [local go_sem] max2_int min2_int max_two min_two max_three min_three max_four min_four   -- for this text's walks alone
set_option linter.unusedVariables false
set_option linter.unusedSimpArgs false

/-! ### laws_FnExactTotalEnd: function 13 -/
def laws_FnExactTotalEnd.j0 : Nat → List (S83) → List (S79) → Bool → Option (Bool)
 | 0, _, _, _ => none
 | k + 1, x0, x8, x38 => if x38 = true then (some false) else ((laws_toJobS.f k x0).bind fun t406 => ((laws_eqJobS.f k x8 t406).bind fun t409 => (if t409 = true then (some true) else (some false))))
def laws_FnExactTotalEnd.f (k : Nat) (l0 : List (S83)) (a1 : Int) : Option (Bool) := (laws_szJobS.f l0 1048576).bind fun t395 => (if t395 < 0 then (some true) else ((laws_toJobS.f k l0).bind fun t396 => ((spec_TotalEnd.f k t396 a1).bind fun bt399 => ((laws_toJobS.f k l0).bind fun t401 => ((impl_TotalEnd.f k t401 a1).bind fun bt404 => (if bt404.1 = bt399.1 then (laws_FnExactTotalEnd.j0 k l0 t401 (bt404.2 != bt399.2)) else (laws_FnExactTotalEnd.j0 k l0 t401 true)))))))
theorem laws_FnExactTotalEnd.mono_l : ∀ k, (∀ y0 y1 y2, LeO (laws_FnExactTotalEnd.j0 k y0 y1 y2) (laws_FnExactTotalEnd.j0 (k + 1) y0 y1 y2))
 | 0 => fun _ _ _ r h => by simp [laws_FnExactTotalEnd.j0] at h
 | k + 1 => by
  have ih0 := laws_FnExactTotalEnd.mono_l k
  ·intro y0 y1 y2
   unfold laws_FnExactTotalEnd.j0
   repeat' first
   | (with_reducible exact ih0 _ _ _)
   | (with_reducible exact impl_TotalEnd.mono _ _ _)
   | (with_reducible exact laws_eqJobS.mono _ _ _)
   | (with_reducible exact laws_toJobS.mono _ _)
   | (with_reducible exact spec_TotalEnd.mono _ _ _)
   | (with_reducible exact LeO.refl _)
   | (with_reducible exact LeO.none _)
   | (with_reducible refine LeO.ite ?_ ?_)
   | (with_reducible refine LeO.bind ?_ (fun _ => ?_))
   | exact ih0 _ _ _
   | exact impl_TotalEnd.mono _ _ _
   | exact laws_eqJobS.mono _ _ _
   | exact laws_toJobS.mono _ _
   | exact spec_TotalEnd.mono _ _ _
   | exact LeO.none _
   | refine LeO.ite ?_ ?_
   | refine LeO.bind ?_ (fun _ => ?_)
theorem laws_FnExactTotalEnd.mono : ∀ a0 a1 k, LeO (laws_FnExactTotalEnd.f k a0 a1) (laws_FnExactTotalEnd.f (k + 1) a0 a1) := by
 intro a0 a1 k; have ih0 := laws_FnExactTotalEnd.mono_l k; unfold laws_FnExactTotalEnd.f
 repeat' first
   | (with_reducible exact ih0 _ _ _)
   | (with_reducible exact impl_TotalEnd.mono _ _ _)
   | (with_reducible exact laws_eqJobS.mono _ _ _)
   | (with_reducible exact laws_toJobS.mono _ _)
   | (with_reducible exact spec_TotalEnd.mono _ _ _)
   | (with_reducible exact LeO.refl _)
   | (with_reducible exact LeO.none _)
   | (with_reducible refine LeO.ite ?_ ?_)
   | (with_reducible refine LeO.bind ?_ (fun _ => ?_))
   | exact ih0 _ _ _
   | exact impl_TotalEnd.mono _ _ _
   | exact laws_eqJobS.mono _ _ _
   | exact laws_toJobS.mono _ _
   | exact spec_TotalEnd.mono _ _ _
   | exact LeO.none _
   | refine LeO.ite ?_ ?_
   | refine LeO.bind ?_ (fun _ => ?_)
set_option maxHeartbeats 8000000 in
set_option maxRecDepth 100000 in
theorem laws_FnExactTotalEnd.calls (k : Nat) (A0 : Option Addr) (c0 : Nat) (l0 : List (S83)) (a1 : Int) (r : Bool) (w : World) (hr0 : Kd.C k83 w A0 l0.length l0) (hc0 : l0.length ≤ c0) (h : laws_FnExactTotalEnd.f k l0 a1 = some r) :
  Calls Try.prog 13 #[.slice A0 l0.length c0, .int .i64 a1] w fun e w' => e = .returned (.bool r) ∧ Below w.heap.size w w' := by
 have HR0 := aM hr0; have HC0 := aM hc0; clear hr0 hc0; have HB := aM (Below.refl w.heap.size w); have H : ((laws_szJobS.f l0 1048576).bind fun t395 => (if t395 < 0 then (some true) else ((laws_toJobS.f k l0).bind fun t396 => ((spec_TotalEnd.f k t396 a1).bind fun bt399 => ((laws_toJobS.f k l0).bind fun t401 => ((impl_TotalEnd.f k t401 a1).bind fun bt404 => (if bt404.1 = bt399.1 then (laws_FnExactTotalEnd.j0 k l0 t401 (bt404.2 != bt399.2)) else (laws_FnExactTotalEnd.j0 k l0 t401 true)))))))) = some r := h; clear h; replace H := oB H; obtain ⟨t395, A30, H⟩ := H; replace H : (if t395 < 0 then (some true) else ((laws_toJobS.f k l0).bind fun t396 => ((spec_TotalEnd.f k t396 a1).bind fun bt399 => ((laws_toJobS.f k l0).bind fun t401 => ((impl_TotalEnd.f k t401 a1).bind fun bt404 => (if bt404.1 = bt399.1 then (laws_FnExactTotalEnd.j0 k l0 t401 (bt404.2 != bt399.2)) else (laws_FnExactTotalEnd.j0 k l0 t401 true))))))) = some r := H; have A3 := aM A30; clear A30; by_cases c4 : t395 < 0
 ·rw [if_pos c4] at H
  have c4b0 : decide (t395 < 0) = true := decide_eq_true c4; clear c4; obtain rfl := Option.some.inj H; go_enter Try.func13, Try.ntmps13; (go_wp2_with (first | ((with_reducible refine gate_callee (f := 23) rfl ?_); refine goesL_ (some 13) rfl rfl Try.func23 (by kernel_rfl) rfl #[.slice A0 l0.length c0, .int .i64 1048576] rfl aE ?_; (with_reducible refine (laws_szJobS.calls _ _ l0 1048576 t395 _ ?side1 ?side2 A3.out).mono ?_); (case side1 => exact cK HR0.out); (case side2 => exact HC0.out); rintro e w' ⟨rfl, ⟨nd, rfl⟩⟩; refine ⟨_, rfl, ?_⟩))); go_ret; exact ⟨rE, bB⟩
 ·rw [if_neg c4] at H
  have c4b0 : decide (t395 < 0) = false := decide_eq_false c4; clear c4; replace H := oB H; obtain ⟨t396, A50, H⟩ := H; replace H : ((spec_TotalEnd.f k t396 a1).bind fun bt399 => ((laws_toJobS.f k l0).bind fun t401 => ((impl_TotalEnd.f k t401 a1).bind fun bt404 => (if bt404.1 = bt399.1 then (laws_FnExactTotalEnd.j0 k l0 t401 (bt404.2 != bt399.2)) else (laws_FnExactTotalEnd.j0 k l0 t401 true))))) = some r := H; have A5 := aM A50; clear A50; replace H := oB H; obtain ⟨⟨t399, t400⟩, A60, H⟩ := H; replace H : ((laws_toJobS.f k l0).bind fun t401 => ((impl_TotalEnd.f k t401 a1).bind fun bt404 => (if bt404.1 = t399 then (laws_FnExactTotalEnd.j0 k l0 t401 (bt404.2 != t400)) else (laws_FnExactTotalEnd.j0 k l0 t401 true)))) = some r := H; have A6 := aM A60; clear A60; replace H := oB H; obtain ⟨t401, A70, H⟩ := H; replace H : ((impl_TotalEnd.f k t401 a1).bind fun bt404 => (if bt404.1 = t399 then (laws_FnExactTotalEnd.j0 k l0 t401 (bt404.2 != t400)) else (laws_FnExactTotalEnd.j0 k l0 t401 true))) = some r := H; have A7 := aM A70; clear A70; replace H := oB H; obtain ⟨⟨t404, t405⟩, A80, H⟩ := H; replace H : (if t404 = t399 then (laws_FnExactTotalEnd.j0 k l0 t401 (t405 != t400)) else (laws_FnExactTotalEnd.j0 k l0 t401 true)) = some r := H; have A8 := aM A80; clear A80; have HC9 := aM H; clear H; go_enter Try.func13, Try.ntmps13; go_upto_region 8 with (first | ((with_reducible refine gate_callee (f := 23) rfl ?_); refine goesL_ (some 13) rfl rfl Try.func23 (by kernel_rfl) rfl #[.slice A0 l0.length c0, .int .i64 1048576] rfl aE ?_; (with_reducible refine (laws_szJobS.calls _ _ l0 1048576 t395 _ ?side1 ?side2 A3.out).mono ?_); (case side1 => exact cK HR0.out); (case side2 => exact HC0.out); rintro e w' ⟨rfl, ⟨nd, rfl⟩⟩; refine ⟨_, rfl, ?_⟩) | ((with_reducible refine gate_callee (f := 25) rfl ?_); refine goesL_ (some 18) rfl rfl Try.func25 (by kernel_rfl) rfl #[.slice A0 l0.length c0] rfl aE ?_; (with_reducible refine (laws_toJobS.calls k _ _ l0 t396 _ ?side1 ?side2 A5.out).mono ?_); (case side1 => exact cK HR0.out); (case side2 => exact HC0.out); rintro e w10 ⟨v397, rfl, ho0, hb⟩; refine ⟨_, rfl, ?_⟩; have n0_ := aM (Kd.R_lower ho0 (below_size bB)); have n1_ := aM (below_step bB hb); clear HB; have HO398 := n0_; have HB := n1_; clear n0_ n1_; (try clear hb); (try clear hk); (try clear ho0); obtain ⟨Ao11, co11, eo11⟩ := Kd.R_slice HO398.out; subst eo11) | ((with_reducible refine gate_callee (f := 54) rfl ?_); refine goesL_ (some 20) rfl rfl Try.func54 (by kernel_rfl) rfl #[.slice Ao11 t396.length co11, .int .i64 a1] rfl aE ?_; (with_reducible refine (spec_TotalEnd.calls k _ _ t396 a1 t399 t400 _ ?side1 ?side2 A6.out).mono ?_); (case side1 => exact cK ((Kd.R_reads' HO398.out).2.2)); (case side2 => exact (Kd.R_reads' HO398.out).2.1); rintro e w12 ⟨rfl, hb⟩; refine ⟨_, rfl, ?_⟩; have n0_ := aM (rB HO398 hb); have n1_ := aM (below_step bB hb); clear HO398; clear HB; have HO398 := n0_; have HB := n1_; clear n0_ n1_; (try clear hb); (try clear hk)) | ((with_reducible refine gate_callee (f := 25) rfl ?_); refine goesL_ (some 24) rfl rfl Try.func25 (by kernel_rfl) rfl #[.slice A0 l0.length c0] rfl aE ?_; (with_reducible refine (laws_toJobS.calls k _ _ l0 t401 _ ?side1 ?side2 A7.out).mono ?_); (case side1 => exact cK ((Kd.C_below HR0.out HB.out))); (case side2 => exact HC0.out); rintro e w13 ⟨v402, rfl, ho0, hb⟩; refine ⟨_, rfl, ?_⟩; have n0_ := aM (Kd.R_elder' (by (with_reducible repeat (first | apply Kd.R_alloc | apply Kd.R_drewN | apply Kd.R_drew)); exact HO398.out) (Kd.R_base ho0) hb); have n1_ := aM (Kd.R_lower (Kd.R_new' ho0 (Kd.R_lt (by (with_reducible repeat (first | apply Kd.R_alloc | apply Kd.R_drewN | apply Kd.R_drew)); exact HO398.out))) (below_size bB)); have n2_ := aM (below_step bB hb); clear HO398; clear HB; have HO398 := n0_; have HO403 := n1_; have HB := n2_; clear n0_ n1_ n2_; (try clear hb); (try clear hk); (try clear ho0); obtain ⟨Ao14, co14, eo14⟩ := Kd.R_slice HO403.out; subst eo14) | ((with_reducible refine gate_callee (f := 55) rfl ?_); refine goesL_ (some 28) rfl rfl Try.func55 (by kernel_rfl) rfl #[.slice Ao14 t401.length co14, .int .i64 a1] rfl aE ?_; (with_reducible refine (impl_TotalEnd.calls k _ _ t401 a1 t404 t405 _ ?side1 ?side2 A8.out).mono ?_); (case side1 => exact cK ((Kd.R_reads' HO403.out).2.2)); (case side2 => exact (Kd.R_reads' HO403.out).2.1); rintro e w15 ⟨rfl, hb⟩; refine ⟨_, rfl, ?_⟩; have n0_ := aM (rB HO398 hb); have n1_ := aM (rB HO403 hb); have n2_ := aM (below_step bB hb); clear HO398; clear HO403; clear HB; have HO398 := n0_; have HO403 := n1_; have HB := n2_; clear n0_ n1_ n2_; (try clear hb); (try clear hk))); (try simp only [Act.put, sA, sZ, sS]); go_cut [38] (fun v38 wc => ∃ (kq : Nat) (x38_8 : Bool), v38 = .bool x38_8 ∧ Aside0 (laws_FnExactTotalEnd.j0 kq l0 t401 x38_8 = some r) ∧ Aside0 (kq ≤ k) ∧ Aside0 (Kd.R k79 79 wc w.heap.size (fun _ => True) (.slice Ao14 t401.length co14) t401) ∧ Aside0 (Below w.heap.size w wc))
  case first =>
   have H := HC9.out; clear HC9; by_cases c16 : t404 = t399
   ·rw [if_pos c16] at H
    have c16b0 : (t404 == t399) = true := beq_iff_eq.mpr c16; have c16b1 : (t404 != t399) = false := bne_eq_false_iff_eq.mpr c16; clear c16; (first | rw [c16b0] | (simp only [i64_w, i32_w]; rw [c16b0]) | skip); have H' := aM H; clear H; go_wp2; go_meet
    case rel => exact ⟨_, ((t405 != t400)), sD, H', ⟨by first | omega | exact Nat.le_refl _⟩, ⟨by (with_reducible repeat (first | apply Kd.R_alloc | apply Kd.R_drewN | apply Kd.R_drew)); exact Kd.R_mono HO403.out (fun _ hk => trivial)⟩, ⟨by repeat (first | (with_reducible first | exact HB.out | apply below_alloc | apply pw_below_drewN | apply below_drew1) | exact HB.out)⟩⟩
   ·rw [if_neg c16] at H
    have c16b0 : (t404 == t399) = false := beq_eq_false_iff_ne.mpr c16; have c16b1 : (t404 != t399) = true := bne_iff_ne.mpr c16; (first | rw [c16b0] | (simp only [i64_w, i32_w]; rw [c16b0]) | skip); have H' := aM H; clear H; go_wp2; go_meet
    case rel => exact ⟨_, (true), sD, H', ⟨by first | omega | exact Nat.le_refl _⟩, ⟨by (with_reducible repeat (first | apply Kd.R_alloc | apply Kd.R_drewN | apply Kd.R_drew)); exact Kd.R_mono HO403.out (fun _ hk => trivial)⟩, ⟨by repeat (first | (with_reducible first | exact HB.out | apply below_alloc | apply pw_below_drewN | apply below_drew1) | exact HB.out)⟩⟩
  case rest =>
   clear HC9; (try clear c4); (try clear c4b0); (try clear c16); (try clear c16b0); (try clear c16b1); obtain ⟨kq, x38_8, rfl, HA, HJ8, HO_8, HB⟩ := hcut
   cases kq with
   | zero => exact absurd HA.out (by simp [laws_FnExactTotalEnd.j0])
   | succ kj8 =>
    have H := HA.out; clear HA; simp only [laws_FnExactTotalEnd.j0] at H; by_cases c17 : x38_8 = true
    ·subst c17
     (have H1 : (some false) = some r := by rw [if_pos rfl] at H; exact H); replace H := H1; clear H1; obtain rfl := Option.some.inj H; go_wp2; go_ret; exact ⟨rE, bB⟩
    ·replace c17 := Bool.eq_false_iff.mpr c17
     subst c17; (have H1 : ((laws_toJobS.f kj8 l0).bind fun t406 => ((laws_eqJobS.f kj8 t401 t406).bind fun t409 => (if t409 = true then (some true) else (some false)))) = some r := by rw [if_neg (show ¬ (false = true) by decide)] at H; exact H); replace H := H1; clear H1; replace H := oB H; obtain ⟨t406, A180, H⟩ := H; replace H : ((laws_eqJobS.f kj8 t401 t406).bind fun t409 => (if t409 = true then (some true) else (some false))) = some r := H; have A18 := aM A180; clear A180; replace H := oB H; obtain ⟨t409, A190, H⟩ := H; replace H : (if t409 = true then (some true) else (some false)) = some r := H; have A19 := aM A190; clear A190; by_cases c20 : t409 = true
     ·subst c20
      (have H1 : (some true) = some r := by rw [if_pos rfl] at H; exact H); replace H := H1; clear H1; obtain rfl := Option.some.inj H; (go_wp2_with (first | ((with_reducible refine gate_callee (f := 25) rfl ?_); refine goesL_ (some 41) rfl rfl Try.func25 (by kernel_rfl) rfl #[.slice A0 l0.length c0] rfl aE ?_; (with_reducible refine (laws_toJobS.calls kj8 _ _ l0 t406 _ ?side1 ?side2 A18.out).mono ?_); (case side1 => exact cK ((Kd.C_below HR0.out HB.out))); (case side2 => exact HC0.out); rintro e w21 ⟨v407, rfl, ho0, hb⟩; refine ⟨_, rfl, ?_⟩; have n0_ := aM (Kd.R_elder' (by (with_reducible repeat (first | apply Kd.R_alloc | apply Kd.R_drewN | apply Kd.R_drew)); exact HO_8.out) (Kd.R_base ho0) hb); have n1_ := aM (Kd.R_lower (Kd.R_new' ho0 (Kd.R_lt (by (with_reducible repeat (first | apply Kd.R_alloc | apply Kd.R_drewN | apply Kd.R_drew)); exact HO_8.out))) (below_size bB)); have n2_ := aM (below_step bB hb); clear HO_8; clear HB; have HO_8 := n0_; have HO408 := n1_; have HB := n2_; clear n0_ n1_ n2_; (try clear hb); (try clear hk); (try clear ho0); obtain ⟨Ao22, co22, eo22⟩ := Kd.R_slice HO408.out; subst eo22) | ((with_reducible refine gate_callee (f := 28) rfl ?_); refine goesL_ (some 42) rfl rfl Try.func28 (by kernel_rfl) rfl #[.slice Ao14 t401.length co14, .slice Ao22 t406.length co22] rfl aE ?_; (with_reducible refine (laws_eqJobS.calls kj8 _ _ t401 _ _ t406 true _ ?side1 ?side2 ?side3 ?side4 A19.out).mono ?_); (case side1 => exact cK ((Kd.R_reads' HO_8.out).2.2)); (case side2 => exact (Kd.R_reads' HO_8.out).2.1); (case side3 => exact cK ((Kd.R_reads' HO408.out).2.2)); (case side4 => exact (Kd.R_reads' HO408.out).2.1); rintro e w23 ⟨rfl, hb⟩; refine ⟨_, rfl, ?_⟩; have n0_ := aM (rB HO_8 hb); have n1_ := aM (rB HO408 hb); have n2_ := aM (below_step bB hb); clear HO_8; clear HO408; clear HB; have HO_8 := n0_; have HO408 := n1_; have HB := n2_; clear n0_ n1_ n2_; (try clear hb); (try clear hk)))); go_ret; exact ⟨rE, bB⟩
     ·replace c20 := Bool.eq_false_iff.mpr c20
      subst c20; (have H1 : (some false) = some r := by rw [if_neg (show ¬ (false = true) by decide)] at H; exact H); replace H := H1; clear H1; obtain rfl := Option.some.inj H; (go_wp2_with (first | ((with_reducible refine gate_callee (f := 25) rfl ?_); refine goesL_ (some 41) rfl rfl Try.func25 (by kernel_rfl) rfl #[.slice A0 l0.length c0] rfl aE ?_; (with_reducible refine (laws_toJobS.calls kj8 _ _ l0 t406 _ ?side1 ?side2 A18.out).mono ?_); (case side1 => exact cK ((Kd.C_below HR0.out HB.out))); (case side2 => exact HC0.out); rintro e w24 ⟨v407, rfl, ho0, hb⟩; refine ⟨_, rfl, ?_⟩; have n0_ := aM (Kd.R_elder' (by (with_reducible repeat (first | apply Kd.R_alloc | apply Kd.R_drewN | apply Kd.R_drew)); exact HO_8.out) (Kd.R_base ho0) hb); have n1_ := aM (Kd.R_lower (Kd.R_new' ho0 (Kd.R_lt (by (with_reducible repeat (first | apply Kd.R_alloc | apply Kd.R_drewN | apply Kd.R_drew)); exact HO_8.out))) (below_size bB)); have n2_ := aM (below_step bB hb); clear HO_8; clear HB; have HO_8 := n0_; have HO408 := n1_; have HB := n2_; clear n0_ n1_ n2_; (try clear hb); (try clear hk); (try clear ho0); obtain ⟨Ao25, co25, eo25⟩ := Kd.R_slice HO408.out; subst eo25) | ((with_reducible refine gate_callee (f := 28) rfl ?_); refine goesL_ (some 42) rfl rfl Try.func28 (by kernel_rfl) rfl #[.slice Ao14 t401.length co14, .slice Ao25 t406.length co25] rfl aE ?_; (with_reducible refine (laws_eqJobS.calls kj8 _ _ t401 _ _ t406 false _ ?side1 ?side2 ?side3 ?side4 A19.out).mono ?_); (case side1 => exact cK ((Kd.R_reads' HO_8.out).2.2)); (case side2 => exact (Kd.R_reads' HO_8.out).2.1); (case side3 => exact cK ((Kd.R_reads' HO408.out).2.2)); (case side4 => exact (Kd.R_reads' HO408.out).2.1); rintro e w26 ⟨rfl, hb⟩; refine ⟨_, rfl, ?_⟩; have n0_ := aM (rB HO_8 hb); have n1_ := aM (rB HO408 hb); have n2_ := aM (below_step bB hb); clear HO_8; clear HO408; clear HB; have HO_8 := n0_; have HO408 := n1_; have HB := n2_; clear n0_ n1_ n2_; (try clear hb); (try clear hk)))); go_ret; exact ⟨rE, bB⟩

end Go.Proofs.Ytecdigebnhlfhaa.OFnExactTotalEnd
