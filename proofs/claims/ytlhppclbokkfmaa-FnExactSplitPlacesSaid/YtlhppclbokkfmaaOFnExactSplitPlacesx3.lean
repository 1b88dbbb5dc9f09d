/- Functions of the program as plain Lean functions, with their contracts: written by this session's program ownprint.py. Conditions: none. -/
import Derived.Test.YtlhppclbokkfmaaOFnExactSplitPlacesx0
import Derived.Test.YtlhppclbokkfmaaOFnExactSplitPlacesx2
namespace Go.Proofs.Ytlhppclbokkfmaa.OFnExactSplitPlaces
open Go.RowKit Go.Proofs.YtlhppclbokkfmaaW.PrintWords Go.Proofs.YtlhppclbokkfmaaW.PrintLast Go.Proofs.YtlhppclbokkfmaaW.PrintMore
attribute [local go_sem] max2_int min2_int max_two min_two max_three min_three max_four min_four   -- for this text's walks alone
set_option linter.unusedVariables false
set_option linter.unusedSimpArgs false

/-! ### impl_isDate: function 90 -/
def impl_isDate.f (a0 : Int) : Option (Bool) := (impl_within.f a0 0 500).bind fun t337 => (some t337)
set_option maxHeartbeats 8000000 in
set_option maxRecDepth 100000 in
theorem impl_isDate.calls (a0 : Int) (r : Bool) (w : World) (h : impl_isDate.f a0 = some r) :
  Calls Try.prog 90 #[.int .i64 a0] w fun e w' => e = .returned (.bool r) ∧ Drawn0 w w' := by
 have H : ((impl_within.f a0 0 500).bind fun t337 => (some t337)) = some r := h; clear h; replace H := oB H; obtain ⟨t337, A20, H⟩ := H; replace H : (some t337) = some r := H; have A2 := aM A20; clear A20; obtain rfl := Option.some.inj H; go_enter Try.func90, Try.ntmps90; (go_wp2_with (first | ((with_reducible refine gate_callee (f := 81) rfl ?_); refine goesL_ (some 4) rfl rfl Try.func81 (by kernel_rfl) rfl #[.int .i64 a0, .int .i64 0, .int .i64 500] rfl aE ?_; (with_reducible refine (impl_within.calls a0 0 500 t337 _ A2.out).mono ?_); rintro e w' ⟨rfl, ⟨nd, rfl⟩⟩; refine ⟨_, rfl, ?_⟩))); go_ret; exact ⟨by first | rfl | (simp; done) | (simp [*]; done), by repeat (first | exact Drawn0.refl _ | apply Drawn0.step)⟩

/-! ### impl_IsJobs: function 63 -/
def impl_IsJobs.l0 : Nat → List (S50) → Int → Int → Option (Bool)
 | 0, _, _, _ => none
 | k + 1, x8, x9, x10 => if x10 < x9 then (if 0 ≤ x10 then (if x10 < (x8.length : Int) then ((impl_within.f ((rd_T50 x8 x10).f0) 1 50).bind fun t340 => (if t340 = true then ((impl_within.f ((rd_T50 x8 x10).f1) 0 50).bind fun t341 => (if t341 = true then ((impl_isDate.f ((rd_T50 x8 x10).f2)).bind fun t342 => (if t342 = true then ((impl_isDate.f ((rd_T50 x8 x10).f3)).bind fun t343 => (if t343 = true then (impl_IsJobs.l0 k x8 x9 (wrap64 (x10 + 1))) else (some false))) else (some false))) else (some false))) else (some false))) else (none)) else (none)) else (some true)
def impl_IsJobs.f (k : Nat) (l0 : List (S50)) : Option (Bool) := if (l0.length : Int) > 8 then (some false) else (impl_IsJobs.l0 k l0 (l0.length : Int) 0)
theorem impl_IsJobs.mono_l : ∀ k, (∀ y0 y1 y2, LeO (impl_IsJobs.l0 k y0 y1 y2) (impl_IsJobs.l0 (k + 1) y0 y1 y2))
 | 0 => fun _ _ _ r h => by simp [impl_IsJobs.l0] at h
 | k + 1 => by
  have ih0 := impl_IsJobs.mono_l k
  ·intro y0 y1 y2
   unfold impl_IsJobs.l0
   repeat' first
   | (with_reducible exact ih0 _ _ _)
   | (with_reducible exact LeO.refl _)
   | (with_reducible exact LeO.none _)
   | (with_reducible refine LeO.ite ?_ ?_)
   | (with_reducible refine LeO.bind ?_ (fun _ => ?_))
   | exact ih0 _ _ _
   | exact LeO.none _
   | refine LeO.ite ?_ ?_
   | refine LeO.bind ?_ (fun _ => ?_)
theorem impl_IsJobs.mono : ∀ a0 k, LeO (impl_IsJobs.f k a0) (impl_IsJobs.f (k + 1) a0) := by
 intro a0 k; have ih0 := impl_IsJobs.mono_l k; unfold impl_IsJobs.f
 repeat' first
   | (with_reducible exact ih0 _ _ _)
   | (with_reducible exact LeO.refl _)
   | (with_reducible exact LeO.none _)
   | (with_reducible refine LeO.ite ?_ ?_)
   | (with_reducible refine LeO.bind ?_ (fun _ => ?_))
   | exact ih0 _ _ _
   | exact LeO.none _
   | refine LeO.ite ?_ ?_
   | refine LeO.bind ?_ (fun _ => ?_)
set_option maxHeartbeats 8000000 in
set_option maxRecDepth 100000 in
theorem impl_IsJobs.calls (k : Nat) (A0 : Option Addr) (c0 : Nat) (l0 : List (S50)) (r : Bool) (w : World) (hr0 : Kd.C k50 w A0 l0.length l0) (hc0 : l0.length ≤ c0) (h : impl_IsJobs.f k l0 = some r) :
  Calls Try.prog 63 #[.slice A0 l0.length c0] w fun e w' => e = .returned (.bool r) ∧ Below w.heap.size w w' := by
 have hu50 := Try.underlying50; have HR0 := aM hr0; have HC0 := aM hc0; clear hr0 hc0; have HB := aM (Below.refl w.heap.size w); have H : (if (l0.length : Int) > 8 then (some false) else (impl_IsJobs.l0 k l0 (l0.length : Int) 0)) = some r := h; clear h; by_cases c2 : (l0.length : Int) > 8
 ·rw [if_pos c2] at H
  have c2b0 : decide (8 < (l0.length : Int)) = true := decide_eq_true c2; have c2b1 : decide (8 < l0.length) = true := decide_eq_true (by omega); clear c2; obtain rfl := Option.some.inj H; go_enter Try.func63, Try.ntmps63; go_wp2; go_ret; exact ⟨rE, bB⟩
 ·rw [if_neg c2] at H
  have c2b0 : decide (8 < (l0.length : Int)) = false := decide_eq_false c2; have c2b1 : decide (8 < l0.length) = false := decide_eq_false (by omega); clear c2; have H' := aM H; clear H; go_enter Try.func63, Try.ntmps63; go_wp2; go_loopg [10] k (fun kq v10 w' => ∃ (x10_1 : Int), v10 = .int .i64 x10_1 ∧ Aside0 (impl_IsJobs.l0 kq l0 (l0.length : Int) x10_1 = some r) ∧ Aside0 (kq ≤ k) ∧ Aside0 (Below w.heap.size w w'))
  case atStart => exact ⟨(0), sD, H', ⟨Nat.le_refl _⟩, ⟨by repeat (first | (with_reducible first | exact HB.out | apply below_alloc | apply pw_below_drewN | apply below_drew1) | exact HB.out)⟩⟩
  case round =>
   clear H'; (try clear c2); (try clear c2b0); (try clear c2b1); obtain ⟨x10_1, rfl, HA, HK1, HB⟩ := hrel
   cases gk with
   | zero => exact absurd HA.out (by simp [impl_IsJobs.l0])
   | succ k1 =>
    have H := HA.out; clear HA; simp only [impl_IsJobs.l0] at H; by_cases c3 : x10_1 < (l0.length : Int)
    ·rw [if_pos c3] at H
     have c3b0 : decide (x10_1 < (l0.length : Int)) = true := decide_eq_true c3; clear c3; by_cases c4 : 0 ≤ x10_1; rotate_left
     ·rw [if_neg c4] at H; exact absurd H (by simp)
     rw [if_pos c4] at H; have c4b0 : decide (0 ≤ x10_1) = true := decide_eq_true c4; clear c4; by_cases c5 : x10_1 < (l0.length : Int); rotate_left
     ·rw [if_neg c5] at H; exact absurd H (by simp)
     rw [if_pos c5] at H; have c5b0 : decide (x10_1 < (l0.length : Int)) = true := decide_eq_true c5; clear c5; replace H := oB H; obtain ⟨t340, A60, H⟩ := H; replace H : (if t340 = true then ((impl_within.f ((rd_T50 l0 x10_1).f1) 0 50).bind fun t341 => (if t341 = true then ((impl_isDate.f ((rd_T50 l0 x10_1).f2)).bind fun t342 => (if t342 = true then ((impl_isDate.f ((rd_T50 l0 x10_1).f3)).bind fun t343 => (if t343 = true then (impl_IsJobs.l0 k1 l0 (l0.length : Int) (wrap64 (x10_1 + 1))) else (some false))) else (some false))) else (some false))) else (some false)) = some r := H; have A6 := aM A60; clear A60; by_cases c7 : t340 = true
     ·subst c7
      (have H1 : ((impl_within.f ((rd_T50 l0 x10_1).f1) 0 50).bind fun t341 => (if t341 = true then ((impl_isDate.f ((rd_T50 l0 x10_1).f2)).bind fun t342 => (if t342 = true then ((impl_isDate.f ((rd_T50 l0 x10_1).f3)).bind fun t343 => (if t343 = true then (impl_IsJobs.l0 k1 l0 (l0.length : Int) (wrap64 (x10_1 + 1))) else (some false))) else (some false))) else (some false))) = some r := by rw [if_pos rfl] at H; exact H); replace H := H1; clear H1; replace H := oB H; obtain ⟨t341, A80, H⟩ := H; replace H : (if t341 = true then ((impl_isDate.f ((rd_T50 l0 x10_1).f2)).bind fun t342 => (if t342 = true then ((impl_isDate.f ((rd_T50 l0 x10_1).f3)).bind fun t343 => (if t343 = true then (impl_IsJobs.l0 k1 l0 (l0.length : Int) (wrap64 (x10_1 + 1))) else (some false))) else (some false))) else (some false)) = some r := H; have A8 := aM A80; clear A80; by_cases c9 : t341 = true
      ·subst c9
       (have H1 : ((impl_isDate.f ((rd_T50 l0 x10_1).f2)).bind fun t342 => (if t342 = true then ((impl_isDate.f ((rd_T50 l0 x10_1).f3)).bind fun t343 => (if t343 = true then (impl_IsJobs.l0 k1 l0 (l0.length : Int) (wrap64 (x10_1 + 1))) else (some false))) else (some false))) = some r := by rw [if_pos rfl] at H; exact H); replace H := H1; clear H1; replace H := oB H; obtain ⟨t342, A100, H⟩ := H; replace H : (if t342 = true then ((impl_isDate.f ((rd_T50 l0 x10_1).f3)).bind fun t343 => (if t343 = true then (impl_IsJobs.l0 k1 l0 (l0.length : Int) (wrap64 (x10_1 + 1))) else (some false))) else (some false)) = some r := H; have A10 := aM A100; clear A100; by_cases c11 : t342 = true
       ·subst c11
        (have H1 : ((impl_isDate.f ((rd_T50 l0 x10_1).f3)).bind fun t343 => (if t343 = true then (impl_IsJobs.l0 k1 l0 (l0.length : Int) (wrap64 (x10_1 + 1))) else (some false))) = some r := by rw [if_pos rfl] at H; exact H); replace H := H1; clear H1; replace H := oB H; obtain ⟨t343, A120, H⟩ := H; replace H : (if t343 = true then (impl_IsJobs.l0 k1 l0 (l0.length : Int) (wrap64 (x10_1 + 1))) else (some false)) = some r := H; have A12 := aM A120; clear A120; by_cases c13 : t343 = true
        ·subst c13
         (have H1 : (impl_IsJobs.l0 k1 l0 (l0.length : Int) (wrap64 (x10_1 + 1))) = some r := by rw [if_pos rfl] at H; exact H); replace H := H1; clear H1; have H' := aM H; clear H; have p338 : 0 ≤ (x10_1 : Int) := oD; have q338 : x10_1 < (l0.length : Int) := oD; obtain ⟨ad338, e338, hx338_0, hx338_1, hx338_2, hx338_3⟩ := at_T50 HR0.out x10_1 p338 q338; cases e338; replace hx338_0 := (cB HB.out hx338_0 :); replace hx338_1 := (cB HB.out hx338_1 :); replace hx338_2 := (cB HB.out hx338_2 :); replace hx338_3 := (cB HB.out hx338_3 :); replace p338 := eq_true p338; replace q338 := eq_true q338; (go_wp2_with (first | ((with_reducible refine gate_dst (N := 4) rfl ?_); refine bE 4 #[.int .i64 0, .int .i64 0, .int .i64 0, .int .i64 0] 50 ?_; intro gb339 hg w14 hbox hb; have n0_ := aM (below_step bB hb); have n1_ := aM (hbox); have n2_ := aM ((by rw [hg]; exact (below_size bB) : w.heap.size ≤ gb339)); have n3_ := aM ((by rw [hg]; exact (below_size bB) : w.heap.size ≤ gb339)); clear HB; have HB := n0_; have BK339 := n1_; have GW339 := n2_; have GE339 := n3_; clear n0_ n1_ n2_ n3_; clear hb hbox hg; have hcz15_0 := (blk_cell BK339.out 0).trans (show _ = some ((.int .i64 0) : Value) from rfl); have hcz15_1 := (blk_cell BK339.out 1).trans (show _ = some ((.int .i64 0) : Value) from rfl); have hcz15_2 := (blk_cell BK339.out 2).trans (show _ = some ((.int .i64 0) : Value) from rfl); have hcz15_3 := (blk_cell BK339.out 3).trans (show _ = some ((.int .i64 0) : Value) from rfl); have hfz15_0 := blk_frozen BK339.out 0; have hfz15_1 := blk_frozen BK339.out 1; have hfz15_2 := blk_frozen BK339.out 2; have hfz15_3 := blk_frozen BK339.out 3) | ((with_reducible refine gate_callee (f := 81) rfl ?_); refine goesL_ (some 16) rfl rfl Try.func81 (by kernel_rfl) rfl #[.int .i64 ((rd_T50 l0 x10_1).f0), .int .i64 1, .int .i64 50] rfl aE ?_; (with_reducible refine (impl_within.calls ((rd_T50 l0 x10_1).f0) 1 50 true _ A6.out).mono ?_); rintro e w' ⟨rfl, ⟨nd, rfl⟩⟩; refine ⟨_, rfl, ?_⟩) | (go_at_call 81; (with_reducible refine (impl_within.calls ((rd_T50 l0 x10_1).f1) 0 50 true _ A8.out).mono ?_); rintro e w' ⟨rfl, ⟨nd, rfl⟩⟩) | (go_at_call 90; (with_reducible refine (impl_isDate.calls ((rd_T50 l0 x10_1).f2) true _ A10.out).mono ?_); rintro e w' ⟨rfl, ⟨nd, rfl⟩⟩) | (go_at_call 90; (with_reducible refine (impl_isDate.calls ((rd_T50 l0 x10_1).f3) true _ A12.out).mono ?_); rintro e w' ⟨rfl, ⟨nd, rfl⟩⟩))); go_roundg k1
         case measure => have := HK1.out; omega
         case rel => exact ⟨(wrap64 (x10_1 + 1)), sD, H', ⟨by have := HK1.out; omega⟩, ⟨by repeat (first | (with_reducible first | exact HB.out | apply below_alloc | apply pw_below_drewN | apply below_drew1 | refine below_set ?_ GE339.out) | exact HB.out)⟩⟩
        ·replace c13 := Bool.eq_false_iff.mpr c13
         subst c13; (have H1 : (some false) = some r := by rw [if_neg (show ¬ (false = true) by decide)] at H; exact H); replace H := H1; clear H1; obtain rfl := Option.some.inj H; have p338 : 0 ≤ (x10_1 : Int) := oD; have q338 : x10_1 < (l0.length : Int) := oD; obtain ⟨ad338, e338, hx338_0, hx338_1, hx338_2, hx338_3⟩ := at_T50 HR0.out x10_1 p338 q338; cases e338; replace hx338_0 := (cB HB.out hx338_0 :); replace hx338_1 := (cB HB.out hx338_1 :); replace hx338_2 := (cB HB.out hx338_2 :); replace hx338_3 := (cB HB.out hx338_3 :); replace p338 := eq_true p338; replace q338 := eq_true q338; (go_wp2_with (first | ((with_reducible refine gate_dst (N := 4) rfl ?_); refine bE 4 #[.int .i64 0, .int .i64 0, .int .i64 0, .int .i64 0] 50 ?_; intro gb339 hg w16 hbox hb; have n0_ := aM (below_step bB hb); have n1_ := aM (hbox); have n2_ := aM ((by rw [hg]; exact (below_size bB) : w.heap.size ≤ gb339)); have n3_ := aM ((by rw [hg]; exact (below_size bB) : w.heap.size ≤ gb339)); clear HB; have HB := n0_; have BK339 := n1_; have GW339 := n2_; have GE339 := n3_; clear n0_ n1_ n2_ n3_; clear hb hbox hg; have hcz17_0 := (blk_cell BK339.out 0).trans (show _ = some ((.int .i64 0) : Value) from rfl); have hcz17_1 := (blk_cell BK339.out 1).trans (show _ = some ((.int .i64 0) : Value) from rfl); have hcz17_2 := (blk_cell BK339.out 2).trans (show _ = some ((.int .i64 0) : Value) from rfl); have hcz17_3 := (blk_cell BK339.out 3).trans (show _ = some ((.int .i64 0) : Value) from rfl); have hfz17_0 := blk_frozen BK339.out 0; have hfz17_1 := blk_frozen BK339.out 1; have hfz17_2 := blk_frozen BK339.out 2; have hfz17_3 := blk_frozen BK339.out 3) | ((with_reducible refine gate_callee (f := 81) rfl ?_); refine goesL_ (some 16) rfl rfl Try.func81 (by kernel_rfl) rfl #[.int .i64 ((rd_T50 l0 x10_1).f0), .int .i64 1, .int .i64 50] rfl aE ?_; (with_reducible refine (impl_within.calls ((rd_T50 l0 x10_1).f0) 1 50 true _ A6.out).mono ?_); rintro e w' ⟨rfl, ⟨nd, rfl⟩⟩; refine ⟨_, rfl, ?_⟩) | (go_at_call 81; (with_reducible refine (impl_within.calls ((rd_T50 l0 x10_1).f1) 0 50 true _ A8.out).mono ?_); rintro e w' ⟨rfl, ⟨nd, rfl⟩⟩) | (go_at_call 90; (with_reducible refine (impl_isDate.calls ((rd_T50 l0 x10_1).f2) true _ A10.out).mono ?_); rintro e w' ⟨rfl, ⟨nd, rfl⟩⟩) | (go_at_call 90; (with_reducible refine (impl_isDate.calls ((rd_T50 l0 x10_1).f3) false _ A12.out).mono ?_); rintro e w' ⟨rfl, ⟨nd, rfl⟩⟩))); go_ret; exact ⟨rE, bS⟩
       ·replace c11 := Bool.eq_false_iff.mpr c11
        subst c11; (have H1 : (some false) = some r := by rw [if_neg (show ¬ (false = true) by decide)] at H; exact H); replace H := H1; clear H1; obtain rfl := Option.some.inj H; have p338 : 0 ≤ (x10_1 : Int) := oD; have q338 : x10_1 < (l0.length : Int) := oD; obtain ⟨ad338, e338, hx338_0, hx338_1, hx338_2, hx338_3⟩ := at_T50 HR0.out x10_1 p338 q338; cases e338; replace hx338_0 := (cB HB.out hx338_0 :); replace hx338_1 := (cB HB.out hx338_1 :); replace hx338_2 := (cB HB.out hx338_2 :); replace hx338_3 := (cB HB.out hx338_3 :); replace p338 := eq_true p338; replace q338 := eq_true q338; (go_wp2_with (first | ((with_reducible refine gate_dst (N := 4) rfl ?_); refine bE 4 #[.int .i64 0, .int .i64 0, .int .i64 0, .int .i64 0] 50 ?_; intro gb339 hg w18 hbox hb; have n0_ := aM (below_step bB hb); have n1_ := aM (hbox); have n2_ := aM ((by rw [hg]; exact (below_size bB) : w.heap.size ≤ gb339)); have n3_ := aM ((by rw [hg]; exact (below_size bB) : w.heap.size ≤ gb339)); clear HB; have HB := n0_; have BK339 := n1_; have GW339 := n2_; have GE339 := n3_; clear n0_ n1_ n2_ n3_; clear hb hbox hg; have hcz19_0 := (blk_cell BK339.out 0).trans (show _ = some ((.int .i64 0) : Value) from rfl); have hcz19_1 := (blk_cell BK339.out 1).trans (show _ = some ((.int .i64 0) : Value) from rfl); have hcz19_2 := (blk_cell BK339.out 2).trans (show _ = some ((.int .i64 0) : Value) from rfl); have hcz19_3 := (blk_cell BK339.out 3).trans (show _ = some ((.int .i64 0) : Value) from rfl); have hfz19_0 := blk_frozen BK339.out 0; have hfz19_1 := blk_frozen BK339.out 1; have hfz19_2 := blk_frozen BK339.out 2; have hfz19_3 := blk_frozen BK339.out 3) | ((with_reducible refine gate_callee (f := 81) rfl ?_); refine goesL_ (some 16) rfl rfl Try.func81 (by kernel_rfl) rfl #[.int .i64 ((rd_T50 l0 x10_1).f0), .int .i64 1, .int .i64 50] rfl aE ?_; (with_reducible refine (impl_within.calls ((rd_T50 l0 x10_1).f0) 1 50 true _ A6.out).mono ?_); rintro e w' ⟨rfl, ⟨nd, rfl⟩⟩; refine ⟨_, rfl, ?_⟩) | (go_at_call 81; (with_reducible refine (impl_within.calls ((rd_T50 l0 x10_1).f1) 0 50 true _ A8.out).mono ?_); rintro e w' ⟨rfl, ⟨nd, rfl⟩⟩) | (go_at_call 90; (with_reducible refine (impl_isDate.calls ((rd_T50 l0 x10_1).f2) false _ A10.out).mono ?_); rintro e w' ⟨rfl, ⟨nd, rfl⟩⟩))); go_ret; exact ⟨rE, bS⟩
      ·replace c9 := Bool.eq_false_iff.mpr c9
       subst c9; (have H1 : (some false) = some r := by rw [if_neg (show ¬ (false = true) by decide)] at H; exact H); replace H := H1; clear H1; obtain rfl := Option.some.inj H; have p338 : 0 ≤ (x10_1 : Int) := oD; have q338 : x10_1 < (l0.length : Int) := oD; obtain ⟨ad338, e338, hx338_0, hx338_1, hx338_2, hx338_3⟩ := at_T50 HR0.out x10_1 p338 q338; cases e338; replace hx338_0 := (cB HB.out hx338_0 :); replace hx338_1 := (cB HB.out hx338_1 :); replace hx338_2 := (cB HB.out hx338_2 :); replace hx338_3 := (cB HB.out hx338_3 :); replace p338 := eq_true p338; replace q338 := eq_true q338; (go_wp2_with (first | ((with_reducible refine gate_dst (N := 4) rfl ?_); refine bE 4 #[.int .i64 0, .int .i64 0, .int .i64 0, .int .i64 0] 50 ?_; intro gb339 hg w20 hbox hb; have n0_ := aM (below_step bB hb); have n1_ := aM (hbox); have n2_ := aM ((by rw [hg]; exact (below_size bB) : w.heap.size ≤ gb339)); have n3_ := aM ((by rw [hg]; exact (below_size bB) : w.heap.size ≤ gb339)); clear HB; have HB := n0_; have BK339 := n1_; have GW339 := n2_; have GE339 := n3_; clear n0_ n1_ n2_ n3_; clear hb hbox hg; have hcz21_0 := (blk_cell BK339.out 0).trans (show _ = some ((.int .i64 0) : Value) from rfl); have hcz21_1 := (blk_cell BK339.out 1).trans (show _ = some ((.int .i64 0) : Value) from rfl); have hcz21_2 := (blk_cell BK339.out 2).trans (show _ = some ((.int .i64 0) : Value) from rfl); have hcz21_3 := (blk_cell BK339.out 3).trans (show _ = some ((.int .i64 0) : Value) from rfl); have hfz21_0 := blk_frozen BK339.out 0; have hfz21_1 := blk_frozen BK339.out 1; have hfz21_2 := blk_frozen BK339.out 2; have hfz21_3 := blk_frozen BK339.out 3) | ((with_reducible refine gate_callee (f := 81) rfl ?_); refine goesL_ (some 16) rfl rfl Try.func81 (by kernel_rfl) rfl #[.int .i64 ((rd_T50 l0 x10_1).f0), .int .i64 1, .int .i64 50] rfl aE ?_; (with_reducible refine (impl_within.calls ((rd_T50 l0 x10_1).f0) 1 50 true _ A6.out).mono ?_); rintro e w' ⟨rfl, ⟨nd, rfl⟩⟩; refine ⟨_, rfl, ?_⟩) | (go_at_call 81; (with_reducible refine (impl_within.calls ((rd_T50 l0 x10_1).f1) 0 50 false _ A8.out).mono ?_); rintro e w' ⟨rfl, ⟨nd, rfl⟩⟩))); go_ret; exact ⟨rE, bS⟩
     ·replace c7 := Bool.eq_false_iff.mpr c7
      subst c7; (have H1 : (some false) = some r := by rw [if_neg (show ¬ (false = true) by decide)] at H; exact H); replace H := H1; clear H1; obtain rfl := Option.some.inj H; have p338 : 0 ≤ (x10_1 : Int) := oD; have q338 : x10_1 < (l0.length : Int) := oD; obtain ⟨ad338, e338, hx338_0, hx338_1, hx338_2, hx338_3⟩ := at_T50 HR0.out x10_1 p338 q338; cases e338; replace hx338_0 := (cB HB.out hx338_0 :); replace hx338_1 := (cB HB.out hx338_1 :); replace hx338_2 := (cB HB.out hx338_2 :); replace hx338_3 := (cB HB.out hx338_3 :); replace p338 := eq_true p338; replace q338 := eq_true q338; (go_wp2_with (first | ((with_reducible refine gate_dst (N := 4) rfl ?_); refine bE 4 #[.int .i64 0, .int .i64 0, .int .i64 0, .int .i64 0] 50 ?_; intro gb339 hg w22 hbox hb; have n0_ := aM (below_step bB hb); have n1_ := aM (hbox); have n2_ := aM ((by rw [hg]; exact (below_size bB) : w.heap.size ≤ gb339)); have n3_ := aM ((by rw [hg]; exact (below_size bB) : w.heap.size ≤ gb339)); clear HB; have HB := n0_; have BK339 := n1_; have GW339 := n2_; have GE339 := n3_; clear n0_ n1_ n2_ n3_; clear hb hbox hg; have hcz23_0 := (blk_cell BK339.out 0).trans (show _ = some ((.int .i64 0) : Value) from rfl); have hcz23_1 := (blk_cell BK339.out 1).trans (show _ = some ((.int .i64 0) : Value) from rfl); have hcz23_2 := (blk_cell BK339.out 2).trans (show _ = some ((.int .i64 0) : Value) from rfl); have hcz23_3 := (blk_cell BK339.out 3).trans (show _ = some ((.int .i64 0) : Value) from rfl); have hfz23_0 := blk_frozen BK339.out 0; have hfz23_1 := blk_frozen BK339.out 1; have hfz23_2 := blk_frozen BK339.out 2; have hfz23_3 := blk_frozen BK339.out 3) | ((with_reducible refine gate_callee (f := 81) rfl ?_); refine goesL_ (some 16) rfl rfl Try.func81 (by kernel_rfl) rfl #[.int .i64 ((rd_T50 l0 x10_1).f0), .int .i64 1, .int .i64 50] rfl aE ?_; (with_reducible refine (impl_within.calls ((rd_T50 l0 x10_1).f0) 1 50 false _ A6.out).mono ?_); rintro e w' ⟨rfl, ⟨nd, rfl⟩⟩; refine ⟨_, rfl, ?_⟩))); go_ret; exact ⟨rE, bS⟩
    ·rw [if_neg c3] at H
     have c3b0 : decide (x10_1 < (l0.length : Int)) = false := decide_eq_false c3; clear c3; obtain rfl := Option.some.inj H; go_wp2; go_ret; exact ⟨rE, bB⟩

/-! ### impl_isPlain: function 75 -/
def impl_isPlain.l0 : Nat → List (S50) → Int → Int → Option (Bool)
 | 0, _, _, _ => none
 | k + 1, x5, x6, x7 => if x7 < x6 then (if 0 ≤ x7 then (if x7 < (x5.length : Int) then (if ((rd_T50 x5 x7).f2) = 0 then (impl_isPlain.l0 k x5 x6 (wrap64 (x7 + 1))) else (some false)) else (none)) else (none)) else (some true)
def impl_isPlain.f (k : Nat) (l0 : List (S50)) : Option (Bool) := impl_isPlain.l0 k l0 (l0.length : Int) 0
theorem impl_isPlain.mono_l : ∀ k, (∀ y0 y1 y2, LeO (impl_isPlain.l0 k y0 y1 y2) (impl_isPlain.l0 (k + 1) y0 y1 y2))
 | 0 => fun _ _ _ r h => by simp [impl_isPlain.l0] at h
 | k + 1 => by
  have ih0 := impl_isPlain.mono_l k
  ·intro y0 y1 y2
   unfold impl_isPlain.l0
   repeat' first
   | (with_reducible exact ih0 _ _ _)
   | (with_reducible exact LeO.refl _)
   | (with_reducible exact LeO.none _)
   | (with_reducible refine LeO.ite ?_ ?_)
   | (with_reducible refine LeO.bind ?_ (fun _ => ?_))
   | exact ih0 _ _ _
   | exact LeO.none _
   | refine LeO.ite ?_ ?_
   | refine LeO.bind ?_ (fun _ => ?_)
theorem impl_isPlain.mono : ∀ a0 k, LeO (impl_isPlain.f k a0) (impl_isPlain.f (k + 1) a0) := by
 intro a0 k; have ih0 := impl_isPlain.mono_l k; unfold impl_isPlain.f
 repeat' first
   | (with_reducible exact ih0 _ _ _)
   | (with_reducible exact LeO.refl _)
   | (with_reducible exact LeO.none _)
   | (with_reducible refine LeO.ite ?_ ?_)
   | (with_reducible refine LeO.bind ?_ (fun _ => ?_))
   | exact ih0 _ _ _
   | exact LeO.none _
   | refine LeO.ite ?_ ?_
   | refine LeO.bind ?_ (fun _ => ?_)
set_option maxHeartbeats 8000000 in
set_option maxRecDepth 100000 in
theorem impl_isPlain.calls (k : Nat) (A0 : Option Addr) (c0 : Nat) (l0 : List (S50)) (r : Bool) (w : World) (hr0 : Kd.C k50 w A0 l0.length l0) (hc0 : l0.length ≤ c0) (h : impl_isPlain.f k l0 = some r) :
  Calls Try.prog 75 #[.slice A0 l0.length c0] w fun e w' => e = .returned (.bool r) ∧ Below w.heap.size w w' := by
 have hu50 := Try.underlying50; have HR0 := aM hr0; have HC0 := aM hc0; clear hr0 hc0; have HB := aM (Below.refl w.heap.size w); have H : (impl_isPlain.l0 k l0 (l0.length : Int) 0) = some r := h; clear h; have H' := aM H; clear H; go_enter Try.func75, Try.ntmps75; go_wp2; go_loopg [7] k (fun kq v7 w' => ∃ (x7_1 : Int), v7 = .int .i64 x7_1 ∧ Aside0 (impl_isPlain.l0 kq l0 (l0.length : Int) x7_1 = some r) ∧ Aside0 (kq ≤ k) ∧ Aside0 (Below w.heap.size w w'))
 case atStart => exact ⟨(0), sD, H', ⟨Nat.le_refl _⟩, ⟨by repeat (first | (with_reducible first | exact HB.out | apply below_alloc | apply pw_below_drewN | apply below_drew1) | exact HB.out)⟩⟩
 case round =>
  clear H'; obtain ⟨x7_1, rfl, HA, HK1, HB⟩ := hrel
  cases gk with
  | zero => exact absurd HA.out (by simp [impl_isPlain.l0])
  | succ k1 =>
   have H := HA.out; clear HA; simp only [impl_isPlain.l0] at H; by_cases c2 : x7_1 < (l0.length : Int)
   ·rw [if_pos c2] at H
    have c2b0 : decide (x7_1 < (l0.length : Int)) = true := decide_eq_true c2; clear c2; by_cases c3 : 0 ≤ x7_1; rotate_left
    ·rw [if_neg c3] at H; exact absurd H (by simp)
    rw [if_pos c3] at H; have c3b0 : decide (0 ≤ x7_1) = true := decide_eq_true c3; clear c3; by_cases c4 : x7_1 < (l0.length : Int); rotate_left
    ·rw [if_neg c4] at H; exact absurd H (by simp)
    rw [if_pos c4] at H; have c4b0 : decide (x7_1 < (l0.length : Int)) = true := decide_eq_true c4; clear c4; by_cases c5 : ((rd_T50 l0 x7_1).f2) = 0
    ·rw [if_pos c5] at H
     have c5b0 : (((rd_T50 l0 x7_1).f2) == 0) = true := beq_iff_eq.mpr c5; have c5b1 : (((rd_T50 l0 x7_1).f2) != 0) = false := bne_eq_false_iff_eq.mpr c5; clear c5; have H' := aM H; clear H; have p344 : 0 ≤ (x7_1 : Int) := oD; have q344 : x7_1 < (l0.length : Int) := oD; obtain ⟨ad344, e344, hx344_0, hx344_1, hx344_2, hx344_3⟩ := at_T50 HR0.out x7_1 p344 q344; cases e344; replace hx344_0 := (cB HB.out hx344_0 :); replace hx344_1 := (cB HB.out hx344_1 :); replace hx344_2 := (cB HB.out hx344_2 :); replace hx344_3 := (cB HB.out hx344_3 :); replace p344 := eq_true p344; replace q344 := eq_true q344; (go_wp2_with (first | ((with_reducible refine gate_dst (N := 4) rfl ?_); refine bE 4 #[.int .i64 0, .int .i64 0, .int .i64 0, .int .i64 0] 50 ?_; intro gb345 hg w6 hbox hb; have n0_ := aM (below_step bB hb); have n1_ := aM (hbox); have n2_ := aM ((by rw [hg]; exact (below_size bB) : w.heap.size ≤ gb345)); have n3_ := aM ((by rw [hg]; exact (below_size bB) : w.heap.size ≤ gb345)); clear HB; have HB := n0_; have BK345 := n1_; have GW345 := n2_; have GE345 := n3_; clear n0_ n1_ n2_ n3_; clear hb hbox hg; have hcz7_0 := (blk_cell BK345.out 0).trans (show _ = some ((.int .i64 0) : Value) from rfl); have hcz7_1 := (blk_cell BK345.out 1).trans (show _ = some ((.int .i64 0) : Value) from rfl); have hcz7_2 := (blk_cell BK345.out 2).trans (show _ = some ((.int .i64 0) : Value) from rfl); have hcz7_3 := (blk_cell BK345.out 3).trans (show _ = some ((.int .i64 0) : Value) from rfl); have hfz7_0 := blk_frozen BK345.out 0; have hfz7_1 := blk_frozen BK345.out 1; have hfz7_2 := blk_frozen BK345.out 2; have hfz7_3 := blk_frozen BK345.out 3))); go_roundg k1
     case measure => have := HK1.out; omega
     case rel => exact ⟨(wrap64 (x7_1 + 1)), sD, H', ⟨by have := HK1.out; omega⟩, ⟨by repeat (first | (with_reducible first | exact HB.out | apply below_alloc | apply pw_below_drewN | apply below_drew1 | refine below_set ?_ GE345.out) | exact HB.out)⟩⟩
    ·rw [if_neg c5] at H
     have c5b0 : (((rd_T50 l0 x7_1).f2) == 0) = false := beq_eq_false_iff_ne.mpr c5; have c5b1 : (((rd_T50 l0 x7_1).f2) != 0) = true := bne_iff_ne.mpr c5; obtain rfl := Option.some.inj H; have p344 : 0 ≤ (x7_1 : Int) := oD; have q344 : x7_1 < (l0.length : Int) := oD; obtain ⟨ad344, e344, hx344_0, hx344_1, hx344_2, hx344_3⟩ := at_T50 HR0.out x7_1 p344 q344; cases e344; replace hx344_0 := (cB HB.out hx344_0 :); replace hx344_1 := (cB HB.out hx344_1 :); replace hx344_2 := (cB HB.out hx344_2 :); replace hx344_3 := (cB HB.out hx344_3 :); replace p344 := eq_true p344; replace q344 := eq_true q344; (go_wp2_with (first | ((with_reducible refine gate_dst (N := 4) rfl ?_); refine bE 4 #[.int .i64 0, .int .i64 0, .int .i64 0, .int .i64 0] 50 ?_; intro gb345 hg w8 hbox hb; have n0_ := aM (below_step bB hb); have n1_ := aM (hbox); have n2_ := aM ((by rw [hg]; exact (below_size bB) : w.heap.size ≤ gb345)); have n3_ := aM ((by rw [hg]; exact (below_size bB) : w.heap.size ≤ gb345)); clear HB; have HB := n0_; have BK345 := n1_; have GW345 := n2_; have GE345 := n3_; clear n0_ n1_ n2_ n3_; clear hb hbox hg; have hcz9_0 := (blk_cell BK345.out 0).trans (show _ = some ((.int .i64 0) : Value) from rfl); have hcz9_1 := (blk_cell BK345.out 1).trans (show _ = some ((.int .i64 0) : Value) from rfl); have hcz9_2 := (blk_cell BK345.out 2).trans (show _ = some ((.int .i64 0) : Value) from rfl); have hcz9_3 := (blk_cell BK345.out 3).trans (show _ = some ((.int .i64 0) : Value) from rfl); have hfz9_0 := blk_frozen BK345.out 0; have hfz9_1 := blk_frozen BK345.out 1; have hfz9_2 := blk_frozen BK345.out 2; have hfz9_3 := blk_frozen BK345.out 3))); go_ret; exact ⟨rE, bS⟩
   ·rw [if_neg c2] at H
    have c2b0 : decide (x7_1 < (l0.length : Int)) = false := decide_eq_false c2; clear c2; obtain rfl := Option.some.inj H; go_wp2; go_ret; exact ⟨rE, bB⟩

/-! ### impl_IsPlain: function 41 -/
def impl_IsPlain.f (k : Nat) (l0 : List (S50)) : Option (Bool) := (impl_IsJobs.f k l0).bind fun t346 => (if t346 = true then ((impl_isPlain.f k l0).bind fun t347 => (some t347)) else (some false))
theorem impl_IsPlain.mono : ∀ a0 k, LeO (impl_IsPlain.f k a0) (impl_IsPlain.f (k + 1) a0) := by
 intro a0 k; unfold impl_IsPlain.f
 repeat' first
   | (with_reducible exact impl_IsJobs.mono _ _)
   | (with_reducible exact impl_isPlain.mono _ _)
   | (with_reducible exact LeO.refl _)
   | (with_reducible exact LeO.none _)
   | (with_reducible refine LeO.ite ?_ ?_)
   | (with_reducible refine LeO.bind ?_ (fun _ => ?_))
   | exact impl_IsJobs.mono _ _
   | exact impl_isPlain.mono _ _
   | exact LeO.none _
   | refine LeO.ite ?_ ?_
   | refine LeO.bind ?_ (fun _ => ?_)
set_option maxHeartbeats 8000000 in
set_option maxRecDepth 100000 in
theorem impl_IsPlain.calls (k : Nat) (A0 : Option Addr) (c0 : Nat) (l0 : List (S50)) (r : Bool) (w : World) (hr0 : Kd.C k50 w A0 l0.length l0) (hc0 : l0.length ≤ c0) (h : impl_IsPlain.f k l0 = some r) :
  Calls Try.prog 41 #[.slice A0 l0.length c0] w fun e w' => e = .returned (.bool r) ∧ Below w.heap.size w w' := by
 have HR0 := aM hr0; have HC0 := aM hc0; clear hr0 hc0; have HB := aM (Below.refl w.heap.size w); have H : ((impl_IsJobs.f k l0).bind fun t346 => (if t346 = true then ((impl_isPlain.f k l0).bind fun t347 => (some t347)) else (some false))) = some r := h; clear h; replace H := oB H; obtain ⟨t346, A20, H⟩ := H; replace H : (if t346 = true then ((impl_isPlain.f k l0).bind fun t347 => (some t347)) else (some false)) = some r := H; have A2 := aM A20; clear A20; by_cases c3 : t346 = true
 ·subst c3
  (have H1 : ((impl_isPlain.f k l0).bind fun t347 => (some t347)) = some r := by rw [if_pos rfl] at H; exact H); replace H := H1; clear H1; replace H := oB H; obtain ⟨t347, A40, H⟩ := H; replace H : (some t347) = some r := H; have A4 := aM A40; clear A40; obtain rfl := Option.some.inj H; go_enter Try.func41, Try.ntmps41; (go_wp2_with (first | ((with_reducible refine gate_callee (f := 63) rfl ?_); refine goesL_ (some 4) rfl rfl Try.func63 (by kernel_rfl) rfl #[.slice A0 l0.length c0] rfl aE ?_; (with_reducible refine (impl_IsJobs.calls k _ _ l0 true _ ?side1 ?side2 A2.out).mono ?_); (case side1 => exact cK HR0.out); (case side2 => exact HC0.out); rintro e w5 ⟨rfl, hb⟩; refine ⟨_, rfl, ?_⟩; have n0_ := aM (below_step bB hb); clear HB; have HB := n0_; clear n0_; (try clear hb)) | (go_at_call 75; (with_reducible refine (impl_isPlain.calls k _ _ l0 t347 _ ?side1 ?side2 A4.out).mono ?_); (case side1 => exact cK ((Kd.C_below HR0.out HB.out))); (case side2 => exact HC0.out); rintro e w6 ⟨rfl, hb⟩; have n0_ := aM (below_step bB hb); clear HB; have HB := n0_; clear n0_; (try clear hb)))); go_ret; exact ⟨rE, bB⟩
 ·replace c3 := Bool.eq_false_iff.mpr c3
  subst c3; (have H1 : (some false) = some r := by rw [if_neg (show ¬ (false = true) by decide)] at H; exact H); replace H := H1; clear H1; obtain rfl := Option.some.inj H; go_enter Try.func41, Try.ntmps41; (go_wp2_with (first | ((with_reducible refine gate_callee (f := 63) rfl ?_); refine goesL_ (some 4) rfl rfl Try.func63 (by kernel_rfl) rfl #[.slice A0 l0.length c0] rfl aE ?_; (with_reducible refine (impl_IsJobs.calls k _ _ l0 false _ ?side1 ?side2 A2.out).mono ?_); (case side1 => exact cK HR0.out); (case side2 => exact HC0.out); rintro e w7 ⟨rfl, hb⟩; refine ⟨_, rfl, ?_⟩; have n0_ := aM (below_step bB hb); clear HB; have HB := n0_; clear n0_; (try clear hb)))); go_ret; exact ⟨rE, bB⟩

-- NOT PRINTED: function 76 (impl_sortedBy)

/-! ### impl_ascending_1: function 94 -/
def impl_ascending_1.f (a0 : Int) (a1 : Int) : Option (Bool) := some (decide (a0 < a1))
set_option maxHeartbeats 8000000 in
set_option maxRecDepth 100000 in
theorem impl_ascending_1.calls (a0 : Int) (a1 : Int) (r : Bool) (w : World) (h : impl_ascending_1.f a0 a1 = some r) :
  Calls Try.prog 94 #[.int .i64 a0, .int .i64 a1] w fun e w' => e = .returned (.bool r) ∧ Drawn0 w w' := by
 have H : (some (decide (a0 < a1))) = some r := h; clear h; obtain rfl := Option.some.inj H; go_enter Try.func94, Try.ntmps94; go_wp2; go_ret; exact ⟨by first | rfl | (simp; done) | (simp [*]; done), by repeat (first | exact Drawn0.refl _ | apply Drawn0.step)⟩

/-! ### sortedBy: words -/
theorem encs_drop {α : Type} (enc : α → Value) (xs : List α) (i : Nat) : encs enc (xs.drop i) = (encs enc xs).drop i := by simp [encs, List.map_drop]
theorem encs_take {α : Type} (enc : α → Value) (xs : List α) (i : Nat) : encs enc (xs.take i) = (encs enc xs).take i := by simp [encs, List.map_take]
/-- copy(v[i:], v[j:]) of a row of one's own. -/
theorem R_shift {α : Type} {P : Program} {enc : α → Value} {h1 : ∀ x, (enc x).oneCell' = true} (d : α) {W : World} {base : Nat} {ok : Nat → Prop} {g n cap : Nat} {xs : List α} {e t t' ty : TypeId} (ht : P.underlying t = some (.slice e)) (hinfo : (P.info? e).map (·.size) = some 1)
    (HO : (Kd.scalar enc h1).R e W base ok (.slice (some ⟨g, 0, none⟩) n cap) xs) (i j k dc sc : Nat) (hi : i + k ≤ n) (hj : j + k ≤ n) (hk : k = min (n - j) (n - i)) (A B : Option Addr) (hA : 0 < k → A = some ⟨g, i, none⟩) (hB : 0 < k → B = some ⟨g, j, none⟩) :
    ∃ w1, (Builtin.copy_ #[t, t'] ty #[.slice A (n - i) dc, .slice B (n - j) sc]).run P W = .ok (.int .i64 (k : Int)) w1 ∧
      (Kd.scalar enc h1).R e w1 base ok (.slice (some ⟨g, 0, none⟩) n cap) (xs.take i ++ (xs.drop j).take k ++ xs.drop (i + k)) ∧ W.grownBy w1 (some g) := by
  obtain ⟨hn, hcapn, _⟩ := Kd.R_reads' HO
  rcases Nat.eq_zero_or_pos k with h0 | hp
  · refine ⟨W, ?_, ?_, World.grownBy.refl W _⟩
    · have hz := run_copy_none (P := P) W t t' ty e A B (n - i) dc (n - j) sc ht hinfo (by have h_ : Nat.min (n - j) (n - i) = min (n - j) (n - i) := rfl; omega)
      rw [hz, h0]; rfl
    · subst h0
      simpa using HO
  · have hown := Kd.own_of_R HO
    rcases hown.2 with ⟨he, hx0⟩ | ⟨g', cap', cur, hv, hb, hh, hnc, hcm, hcs, htake⟩
    · cases he
    · obtain ⟨rfl, rfl⟩ : g' = g ∧ cap' = cap := by injection hv with a b c; injection a with a; injection a with a; exact ⟨a.symm, c.symm⟩
      have htk : cur.toList.take xs.length = encs enc xs := by rw [← htake, Nat.mul_one]
      have hkl : (encs enc ((xs.drop j).take k)).length = k := by rw [encs_length, List.length_take, List.length_drop]; omega
      have hsrc : ∀ q u, (encs enc ((xs.drop j).take k))[q]? = some u → W.cell? ((⟨g', j, none⟩ : Addr).add q) = some u := by
        intro q u hu
        have hq : q < k := by
          rcases Nat.lt_or_ge q k with h | h
          · exact h
          · rw [List.getElem?_eq_none (by omega)] at hu; cases hu
        rw [show (⟨g', j, none⟩ : Addr).add q = ⟨g', j + q, none⟩ by unfold Addr.add; simp, cell_of_row W g' _ cur e (0, 0) hh]
        rw [encs_take, encs_drop, ← htk] at hu
        rw [List.getElem?_take_of_lt hq, List.getElem?_drop, List.getElem?_take_of_lt (by omega)] at hu
        simpa using hu
      have hr := run_copy_cells (P := P) W t t' ty e g' i (n - i) dc ⟨g', j, none⟩ (n - j) sc (encs enc ((xs.drop j).take k)) ht hinfo (by rw [hkl, hk]) hsrc
        (fun q hq => by rw [cell_of_row W g' _ cur e (0, 0) hh]; simp; omega) (fun q _ => blk_frozen hh _) (by intro u hu; simp only [encs, List.mem_map] at hu; obtain ⟨q, _, rfl⟩ := hu; exact h1 q)
      obtain ⟨cur', h3, h4, h5⟩ := setCells_row (encs enc ((xs.drop j).take k)) i W cur hh (by rw [hkl]; omega)
      obtain ⟨s1, s2, s3, s4⟩ := setCells_same g' (encs enc ((xs.drop j).take k)) i W
      refine ⟨_, by rw [hA hp, hB hp, hr, hkl]; exact rfl, Kd.R_of_own ?_ HO.1, ⟨s1, s2, s3, by rw [s4]; exact Nat.le_refl _, fun q _ hq => setCells_far _ _ q (fun he => hq (by rw [he]))⟩⟩
      have hln : (xs.take i ++ (xs.drop j).take k ++ xs.drop (i + k)).length = xs.length := by
        simp only [List.length_append, List.length_take, List.length_drop]
        omega
      rw [hln]
      refine ⟨by rw [encs_length, hln, Nat.mul_one], .inr ⟨g', cap', cur', by rw [hn], hb, h3, by omega, hcm, by rw [h4, hcs], ?_⟩⟩
      rw [h5, hkl, Nat.mul_one, encs_append, encs_append, encs_take, encs_drop, ← htk]
      have e1 : (cur.toList.take xs.length).take i = cur.toList.take i := by rw [List.take_take, Nat.min_eq_left (by omega)]
      have e2 : (cur.toList.take xs.length).drop (i + k) = (cur.toList.drop (i + k)).take (xs.length - (i + k)) := by rw [List.drop_take]
      have hcl : xs.length ≤ cur.toList.length := by have h_ : cur.toList.length = cur.size := Array.length_toList; omega
      rw [encs_take, encs_drop, ← htk, e1, e2]
      have l1 : (cur.toList.take i ++ ((cur.toList.take xs.length).drop j).take k).length = i + k := by
        simp only [List.length_append, List.length_take, List.length_drop]; omega
      rw [List.take_append, l1, List.take_of_length_le (by omega)]

/-- Where a number goes among numbers that are sorted by a test. -/
def sbK (p : Int → Option Bool) (o : List Int) : Nat → Option Nat
  | 0 => some 0
  | k + 1 => (p (rd o k)).bind fun b => if b = true then sbK p o k else some (k + 1)
/-- Numbers sorted by insertion. -/
def sbL (p : Int → Int → Option Bool) : List Int → List Int → Option (List Int)
  | [], o => some o
  | i :: t, o => (sbK (p i) o o.length).bind fun m => sbL p t (o.take m ++ i :: o.drop m)
theorem sbK_le {p : Int → Option Bool} {o : List Int} : ∀ (n : Nat) {m : Nat}, sbK p o n = some m → m ≤ n
  | 0, m, h => by simp only [sbK, Option.some.injEq] at h; omega
  | n + 1, m, h => by
    simp only [sbK] at h
    cases hp : p (rd o (n : Int)) with
    | none => rw [hp] at h; simp at h
    | some b =>
      rw [hp] at h
      cases b with
      | true => have := sbK_le n (show sbK p o n = some m by simpa using h); omega
      | false => simp at h; omega
theorem sb_shift' (a b : List Int) (i : Int) : ((((a ++ (b ++ [0])).take (a.length + 1) ++ ((a ++ (b ++ [0])).drop a.length).take b.length ++ (a ++ (b ++ [0])).drop (a.length + 1 + b.length))).set a.length i) = a ++ i :: b := by
  have e1 : (a ++ (b ++ [0])).take (a.length + 1) = a ++ [(b ++ [0]).head (by simp)] := by
    rw [List.take_append]
    simp
    cases b <;> simp [List.take_of_length_le]
  have e2 : ((a ++ (b ++ [0])).drop a.length).take b.length = b := by
    rw [List.drop_left]
    simp
  have e3 : (a ++ (b ++ [0])).drop (a.length + 1 + b.length) = [] := by
    apply List.drop_eq_nil_of_le
    simp; omega
  rw [e1, e2, e3]
  simp
theorem sb_shift (o : List Int) (m : Nat) (i : Int) (hm : m ≤ o.length) : (((o ++ [0]).take (m + 1) ++ ((o ++ [0]).drop m).take (o.length - m) ++ (o ++ [0]).drop (m + 1 + (o.length - m))).set m i) = o.take m ++ i :: o.drop m := by
  have h1 : (o.take m).length = m := by rw [List.length_take]; omega
  have h2 : (o.drop m).length = o.length - m := by rw [List.length_drop]
  have h := sb_shift' (o.take m) (o.drop m) i
  rw [h1, h2, ← List.append_assoc, List.take_append_drop] at h
  exact h
theorem sb_copy {P : Program} {oi : Oper} {a : Act} {w w1 : World} {v u u' : Value} {s x : Operand} {t t' : TypeId} (hop : oi.op = .call { callee := .builtin .copy, args := #[s, x], argTypes := #[t, t'] }) (hs : a.eval s = u) (hx : a.eval x = u') (hr : (Builtin.copy_ #[t, t'] oi.type #[u, u']).run P w = .ok v w1) : (execOp a.eval oi).run P w = .ok (.value v) w1 := by
  unfold execOp
  simp only [hop, resolve, invoke, builtin, Sem.run_bind, Sem.run_pure, Result.andThen_ok, List.map_toArray, List.map_cons, List.map_nil, hs, hx, hr]
def sb_T9 : Bool × List (List Nat × List Nat) := (true, [([], []), ([], []), ([1], [1]), ([0, 2], [0, 2]), ([], []), ([], []), ([4, 5], [4, 5]), ([3, 6], [3, 6])])
def sb_B9 : List Nat := [0, 0, 2, 7, 0, 0, 48, 127]
theorem sb_tab9 : rtab .any (opsOf Try.f76 9) = sb_T9 := by kernel_rfl
theorem sb_bits9 : waitsOk sb_T9.2 sb_B9 = true := by kernel_rfl

/-! ### sortedBy by impl_ascending_1 -/
set_option maxHeartbeats 8000000 in
set_option maxRecDepth 100000 in
theorem sb_calls_94 (A0 : Option Addr) (c0 : Nat) (l0 : List Int) (r : List Int) (w : World) (hr0 : Kd.C (Kd.int .i64) w A0 l0.length l0) (hc0 : l0.length ≤ c0) (p : Int → Int → Option Bool)
    (hcl : ∀ (a b : Int) (t : Bool) (w' : World), Below w.heap.size w w' → p a b = some t → Calls Try.prog 94 #[.int .i64 a, .int .i64 b] w' fun e w'' => e = .returned (.bool t) ∧ Below w'.heap.size w' w'')
    (hlen : l0.length < 17592186044416) (h : sbL p l0 [] = some r) : Calls Try.prog 76 #[.slice A0 l0.length c0, .func (.func 94) #[] #[]] w fun e w' => ∃ v0_ : Value, e = .returned (v0_) ∧ Kd.R (Kd.int .i64) 3 w' w.heap.size (fun _ => True) v0_ r ∧ Below w.heap.size w w' := by
 have HR0 := Aside0.mk hr0
 have HC0 := Aside0.mk hc0
 clear hr0 hc0
 have HB := Aside0.mk (Below.refl w.heap.size w)
 have HCL := Aside0.mk hcl
 clear hcl
 have HL := Aside0.mk hlen
 clear hlen
 have H' := Aside0.mk h
 clear h
 go_enter Try.func76, Try.ntmps76
 go_wp2
 go_loopg [5, 11] l0.length (fun kq v5 v11 w' => ∃ (j : Nat) (o : List Int) (x11 : Int), v11 = .int .i64 x11 ∧ Aside0 (x11 = j) ∧ Aside0 (j + kq = l0.length ∧ o.length = j) ∧ Aside0 (sbL p (l0.drop j) o = some r) ∧ Aside0 (Kd.R (Kd.int .i64) 3 w' w.heap.size (fun _ => True) v5 o) ∧ Aside0 (Below w.heap.size w w'))
 case atStart => exact ⟨0, [], 0, rfl, ⟨rfl⟩, ⟨by omega, rfl⟩, H', ⟨Kd.R_nil _ _ _ _ _⟩, ⟨bB⟩⟩
 case round =>
  clear H'
  obtain ⟨j, o, x11, rfl, HJ, HK, H', HO, HB⟩ := hrel
  cases gk with
  | zero =>
   have c0b : decide (x11 < (l0.length : Int)) = false := decide_eq_false (by have := HJ.out; have := HK.out; omega)
   have H := H'.out
   clear H'
   rw [List.drop_eq_nil_of_le (by have := HK.out; omega), sbL] at H
   obtain rfl := Option.some.inj H
   go_wp2
   go_ret
   exact ⟨_, rfl, by (with_reducible repeat (first | apply Kd.R_alloc | apply Kd.R_drewN | apply Kd.R_drew)); exact HO.out, bB⟩
  | succ k1 =>
   have c0b : decide (x11 < (l0.length : Int)) = true := decide_eq_true (by have := HJ.out; have := HK.out; omega)
   have p1 : 0 ≤ x11 := by have := HJ.out; omega
   have q1 : x11 < (l0.length : Int) := by have := HJ.out; have := HK.out; omega
   obtain ⟨ad1, e1, hx1⟩ := Kd.at_int HR0.out x11 p1 q1
   cases e1
   replace hx1 := (cB HB.out hx1 :)
   replace p1 := eq_true p1
   replace q1 := eq_true q1
   obtain ⟨Ao, co, eo⟩ := Kd.R_slice HO.out
   subst eo
   have H := H'.out
   clear H'
   rw [List.drop_eq_getElem_cons (by have := HK.out; omega), sbL] at H
   have hrd : l0[j]'(by have := HK.out; omega) = rd l0 x11 := by have h1 := HJ.out; have h2 := HK.out; subst h1; simp [rd]; rw [List.getElem?_eq_getElem (by omega)]; rfl
   rw [hrd] at H
   clear hrd
   obtain ⟨m, hm, H⟩ := Option.bind_eq_some_iff.mp H
   have HM := Aside0.mk hm
   have H' := Aside0.mk H
   clear H hm
   go_wp2
   go_loopg [8] o.length (fun kq v8 w' => ∃ (x8 : Int), v8 = .int .i64 x8 ∧ Aside0 (x8 = (kq : Nat)) ∧ Aside0 (kq ≤ o.length) ∧ Aside0 (sbK (p (rd l0 x11)) o kq = some m) ∧ Aside0 (Kd.R (Kd.int .i64) 3 w' w.heap.size (fun _ => True) (.slice Ao o.length co) o) ∧ Aside0 (Below w.heap.size w w'))
   case atStart => exact ⟨(o.length : Int), (by first | rfl | (simp; done)), ⟨rfl⟩, ⟨Nat.le_refl _⟩, HM, ⟨by (with_reducible repeat (first | apply Kd.R_alloc | apply Kd.R_drewN | apply Kd.R_drew)); exact HO.out⟩, ⟨bB⟩⟩
   case round =>
    clear HM HO
    obtain ⟨x8, rfl, HX, HQ, HM, HO, HB⟩ := hrel
    cases gk with
    | zero =>
     have c1 : decide (0 < x8) = false := decide_eq_false (by have := HX.out; omega)
     have H := HM.out
     clear HM
     simp only [sbK, Option.some.injEq] at H
     have HM1 := Aside0.mk (show (m : Int) = x8 by have := HX.out; omega)
     clear H
     obtain ⟨hx, hm_⟩ : x8 = (m : Int) ∧ m ≤ o.length := ⟨by have := HX.out; have := HM1.out; omega, by have h1 := HM1.out; have h2 := HX.out; have h3 := HQ.out; omega⟩
     have HX2 := Aside0.mk (And.intro hx hm_)
     clear hx hm_
     have LM := Aside0.mk (show o.length < 17592186044416 by have := HL.out; have := HK.out; omega)
     go_wp2_with (first | ((with_reducible refine gate_builtin (b := .append) (xs := #[.tmp 31, .tmp 32]) rfl ?_); at_builtin; refine Kd.R_append (Kd.int .i64) (w0 := w) w.heap.size rfl (.tmp 31) (.tmp 32) 38 3 (.int .i64 0) 8 rfl Try.underlying38 info3 rfl (by decide) (by omega) (.slice Ao o.length co) o 0 [.int .i64 0] (fun _ => True) (fun _ => False) rfl rfl ?aP (fun _ hk => hk.elim) ?aF ?aO ?aB ?aS ?aL ?_; (case aP => exact rfl); (case aB => exact bB); (case aF => exact (fun _ _ => trivial)); (case aO => exact (by (with_reducible repeat (first | apply Kd.R_alloc | apply Kd.R_drewN | apply Kd.R_drew)); exact HO.out)); (case aS => exact (below_size bB)); (case aL => have := LM.out; omega); intro v5 w8 ho hb hg hat; have n0_ := Aside0.mk (hb); have n1_ := Aside0.mk (ho); clear HB; clear HO; have HB := n0_; have HO := n1_; clear n0_ n1_; clear ho hb hg hat))
     obtain ⟨go, cp, eo, gb, gl, cl, HG⟩ := Kd.R_form HO.out (by rw [List.length_append]; simp)
     (first | subst eo | cases eo)
     have GB := Aside0.mk gb
     clear gb gl HG cl
     have hw1 : wrap64 (x8 + 1) = ((m + 1 : Nat) : Int) := by have h1 := HX2.out; have h4 := LM.out; unfold wrap64; omega
     have p4 : 0 ≤ wrap64 (x8 + 1) := by omega
     have q4 : wrap64 (x8 + 1) ≤ (((o ++ [0]).length : Nat) : Int) := by have h1 := HX2.out; rw [List.length_append, List.length_singleton]; omega
     have p5 : 0 ≤ x8 := by have h1 := HX2.out; omega
     have q5 : x8 ≤ (((o ++ [0]).length : Nat) : Int) := by have h1 := HX2.out; rw [List.length_append, List.length_singleton]; omega
     have q6 : x8 < (((o ++ [0]).length : Nat) : Int) := by have h1 := HX2.out; rw [List.length_append, List.length_singleton]; omega
     have ew1 : (wrap64 (x8 + 1)).toNat = m + 1 := by rw [hw1]; rfl
     have ex8 : x8.toNat = m := by rw [HX2.out.1]; rfl
     have EW := Aside0.mk (And.intro ew1 ex8)
     clear hw1 ew1 ex8
     have ln : (o ++ [0]).length = o.length + 1 := by simp
     have LN := Aside0.mk ln
     clear ln
     generalize hoo : o ++ [0] = oo at *
     have OO := Aside0.mk hoo
     clear hoo
     refine start_ (n := 8) (S := fun w' => True) (ds := [7]) #[false, false, false, false, false, false, false, false] (by kernel_rfl) rfl rfl trivial (fun hHeld => ?_); refine with_tabW sb_tab9 sb_bits9 (fun HT_ HW_ => ?_)
     have n0_ := Aside0.mk (Kd.R_drew HO.out)
     have n1_ := Aside0.mk (below_drew1 HB.out)
     clear HO HB
     have HO := n0_
     have HB := n1_
     clear n0_ n1_
     generalize w8.drew = w9 at HO HB ⊢
     refine pU 0 34 #[true, false, false, false, false, false, false, false] ?_
     refine pU 1 35 #[true, true, false, false, false, false, false, false] ?_
     refine pU 2 36 #[true, true, true, false, false, false, false, false] ?_
     refine pU 4 38 #[true, true, true, false, true, false, false, false] ?_
     refine pU 5 39 #[true, true, true, false, true, true, false, false] ?_
     refine pU 3 37 #[true, true, true, true, true, true, false, false] ?_
     refine pU 6 40 #[true, true, true, true, true, true, true, false] ?_
     refine last_ (i := 7) (N := some 41) #[true, true, true, true, true, true, true, true] rfl rfl (one_of HT_.out (by kernel_rfl)) (by decide) (fun K hK => ?_)
     obtain ⟨w10, hrun, ho, hg⟩ := R_shift (P := Try.prog) (ty := 3) (t' := 38) (0 : Int) Try.underlying38 (by rw [show (Try.prog.info? 3).map (·.size) = some 1 from by kernel_rfl]) HO.out (m + 1) m (o.length - m) (cp - (m + 1)) (cp - m) (by have := HX2.out; have := LN.out; omega) (by have := HX2.out; have := LN.out; omega) (by have := HX2.out; have := LN.out; omega)
       (if cp = m + 1 then some ⟨go, 0, none⟩ else some ⟨go, m + 1, none⟩) (if cp = m then some ⟨go, 0, none⟩ else some ⟨go, m, none⟩) (fun h_ => if_neg (by have h1 := (Kd.R_reads' HO.out).2.1; have := LN.out; omega)) (fun h_ => if_neg (by have h1 := (Kd.R_reads' HO.out).2.1; have := LN.out; omega))
     refine value_ (w1 := w10) (v := .int .i64 ((o.length - m : Nat) : Int)) (by rfl) rfl ?_ ?_
     ·refine sb_copy (s := .tmp 37) (x := .tmp 40) (t := 38) (t' := 38) rfl rfl rfl ?_
      simp only [EW.out.1, EW.out.2]
      exact hrun
     refine hK.out _ _ ?_
     clear hK K
     have n0_ := Aside0.mk ho
     have n1_ := Aside0.mk (HB.out.grown hg (below_size HB.out) (fun k_ e_ => by injection e_ with e_; subst e_; exact GB.out))
     clear HO HB ho hrun hg
     have HO := n0_
     have HB := n1_
     clear n0_ n1_
     have p7 := eq_true p5
     have q7 := eq_true q6
     have hl3 : (oo.take (m + 1) ++ (oo.drop m).take (o.length - m) ++ oo.drop (m + 1 + (o.length - m))).length = oo.length := by have := HX2.out; have := LN.out; simp only [List.length_append, List.length_take, List.length_drop]; omega
     obtain ⟨hx9, hf9⟩ := Kd.R_celln 0 HO.out x8 p5 q6
     have HP := Kd.R_putn HO.out x8 (rd l0 x11)
     have HQ9 := Aside0.mk HP
     clear HP p5 q5 q6 p4 q4
     refine done_ (done_of HT_.out (by kernel_rfl)) ?_
     generalize (if cp = (wrap64 (x8 + 1)).toNat then (some ⟨go, 0, none⟩ : Option Addr) else some ⟨go, (wrap64 (x8 + 1)).toNat, none⟩) = ad37
     generalize (if cp = x8.toNat then (some ⟨go, 0, none⟩ : Option Addr) else some ⟨go, x8.toNat, none⟩) = ad40
     go_wp2
     all_goals (go_roundg k1; (case measure => omega); (case rel => exact ⟨j + 1, o.take m ++ rd l0 x11 :: o.drop m, wrap64 (x11 + 1), (by first | rfl | (simp; done)), ⟨by have h1 := HJ.out; have h2 := HK.out; have h3 := HL.out; unfold wrap64; omega⟩, ⟨by have h2 := HK.out; omega, by have h2 := HK.out; have h4 := HX2.out; simp only [List.length_append, List.length_cons, List.length_take, List.length_drop]; omega⟩, H', ⟨by (with_reducible repeat (first | apply Kd.R_alloc | apply Kd.R_drewN | apply Kd.R_drew)); have h8 := HQ9.out; have e9 := sb_shift o m (rd l0 x11) HX2.out.2; rw [OO.out] at e9; rw [EW.out.2, e9] at h8; rw [EW.out.2]; exact h8⟩, ⟨by repeat (first | (with_reducible first | exact HB.out | apply below_alloc | apply pw_below_drewN | apply below_drew1 | refine below_set ?_ GB.out) | exact HB.out)⟩⟩))
    | succ k2 =>
     have c1 : decide (0 < x8) = true := decide_eq_true (by have := HX.out; omega)
     have hw : wrap64 (x8 - 1) = (k2 : Int) := by have h1 := HX.out; have h2 := HQ.out; have h3 := HK.out; have h4 := HL.out; unfold wrap64; omega
     have p2 : 0 ≤ wrap64 (x8 - 1) := by omega
     have q2 : wrap64 (x8 - 1) < (o.length : Int) := by have h2 := HQ.out; omega
     obtain ⟨ad2, e2, hx2⟩ := Kd.at_int (Kd.R_reads' HO.out).2.2 (wrap64 (x8 - 1)) p2 q2
     cases e2
     have H := HM.out
     clear HM
     rw [sbK, ← hw] at H
     have HW := Aside0.mk hw
     clear hw
     replace p2 := eq_true p2
     replace q2 := eq_true q2
     obtain ⟨b, hb, H⟩ := Option.bind_eq_some_iff.mp H
     have HP := Aside0.mk hb
     have HM := Aside0.mk H
     clear H hb
     cases b with
     | true =>
      go_wp2_with (go_at_call 94; refine (HCL.out (rd l0 x11) (rd o (wrap64 (x8 - 1))) true _ bB HP.out).mono ?_; rintro e w' ⟨rfl, hbz⟩; have n0_ := Aside0.mk (Kd.R_below (by (with_reducible repeat (first | apply Kd.R_alloc | apply Kd.R_drewN | apply Kd.R_drew)); exact HO.out) hbz); have n1_ := Aside0.mk (below_step bB hbz); clear HO HB; have HO := n0_; have HB := n1_; clear n0_ n1_ hbz)
      go_roundg k2
      case measure => omega
      case rel => exact ⟨wrap64 (x8 - 1), (by first | rfl | (simp; done)), ⟨HW.out⟩, ⟨by have := HQ.out; omega⟩, ⟨by have := HM.out; simpa using this⟩, ⟨by (with_reducible repeat (first | apply Kd.R_alloc | apply Kd.R_drewN | apply Kd.R_drew)); exact HO.out⟩, ⟨bB⟩⟩
     | false =>
      have H := HM.out
      clear HM
      simp only [Bool.false_eq_true, if_false, Option.some.injEq] at H
      have HM1 := Aside0.mk (show (m : Int) = x8 by have := HX.out; omega)
      clear H
      obtain ⟨hx, hm_⟩ : x8 = (m : Int) ∧ m ≤ o.length := ⟨by have := HX.out; have := HM1.out; omega, by have h1 := HM1.out; have h2 := HX.out; have h3 := HQ.out; omega⟩
      have HX2 := Aside0.mk (And.intro hx hm_)
      clear hx hm_
      have LM := Aside0.mk (show o.length < 17592186044416 by have := HL.out; have := HK.out; omega)
      go_wp2_with (first | (go_at_call 94; refine (HCL.out (rd l0 x11) (rd o (wrap64 (x8 - 1))) false _ bB HP.out).mono ?_; rintro e w' ⟨rfl, hbz⟩; have n0_ := Aside0.mk (Kd.R_below (by (with_reducible repeat (first | apply Kd.R_alloc | apply Kd.R_drewN | apply Kd.R_drew)); exact HO.out) hbz); have n1_ := Aside0.mk (below_step bB hbz); clear HO HB; have HO := n0_; have HB := n1_; clear n0_ n1_ hbz) | ((with_reducible refine gate_builtin (b := .append) (xs := #[.tmp 31, .tmp 32]) rfl ?_); at_builtin; refine Kd.R_append (Kd.int .i64) (w0 := w) w.heap.size rfl (.tmp 31) (.tmp 32) 38 3 (.int .i64 0) 8 rfl Try.underlying38 info3 rfl (by decide) (by omega) (.slice (some ad2) o.length co) o 0 [.int .i64 0] (fun _ => True) (fun _ => False) rfl rfl ?aP (fun _ hk => hk.elim) ?aF ?aO ?aB ?aS ?aL ?_; (case aP => exact rfl); (case aB => exact bB); (case aF => exact (fun _ _ => trivial)); (case aO => exact (by (with_reducible repeat (first | apply Kd.R_alloc | apply Kd.R_drewN | apply Kd.R_drew)); exact HO.out)); (case aS => exact (below_size bB)); (case aL => have := LM.out; omega); intro v5 w8 ho hb hg hat; have n0_ := Aside0.mk (hb); have n1_ := Aside0.mk (ho); clear HB; clear HO; have HB := n0_; have HO := n1_; clear n0_ n1_; clear ho hb hg hat))
      obtain ⟨go, cp, eo, gb, gl, cl, HG⟩ := Kd.R_form HO.out (by rw [List.length_append]; simp)
      (first | subst eo | cases eo)
      have GB := Aside0.mk gb
      clear gb gl HG cl
      have hw1 : wrap64 (x8 + 1) = ((m + 1 : Nat) : Int) := by have h1 := HX2.out; have h4 := LM.out; unfold wrap64; omega
      have p4 : 0 ≤ wrap64 (x8 + 1) := by omega
      have q4 : wrap64 (x8 + 1) ≤ (((o ++ [0]).length : Nat) : Int) := by have h1 := HX2.out; rw [List.length_append, List.length_singleton]; omega
      have p5 : 0 ≤ x8 := by have h1 := HX2.out; omega
      have q5 : x8 ≤ (((o ++ [0]).length : Nat) : Int) := by have h1 := HX2.out; rw [List.length_append, List.length_singleton]; omega
      have q6 : x8 < (((o ++ [0]).length : Nat) : Int) := by have h1 := HX2.out; rw [List.length_append, List.length_singleton]; omega
      have ew1 : (wrap64 (x8 + 1)).toNat = m + 1 := by rw [hw1]; rfl
      have ex8 : x8.toNat = m := by rw [HX2.out.1]; rfl
      have EW := Aside0.mk (And.intro ew1 ex8)
      clear hw1 ew1 ex8
      have ln : (o ++ [0]).length = o.length + 1 := by simp
      have LN := Aside0.mk ln
      clear ln
      generalize hoo : o ++ [0] = oo at *
      have OO := Aside0.mk hoo
      clear hoo
      refine start_ (n := 8) (S := fun w' => True) (ds := [7]) #[false, false, false, false, false, false, false, false] (by kernel_rfl) rfl rfl trivial (fun hHeld => ?_); refine with_tabW sb_tab9 sb_bits9 (fun HT_ HW_ => ?_)
      have n0_ := Aside0.mk (Kd.R_drew HO.out)
      have n1_ := Aside0.mk (below_drew1 HB.out)
      clear HO HB
      have HO := n0_
      have HB := n1_
      clear n0_ n1_
      generalize w8.drew = w9 at HO HB ⊢
      refine pU 0 34 #[true, false, false, false, false, false, false, false] ?_
      refine pU 1 35 #[true, true, false, false, false, false, false, false] ?_
      refine pU 2 36 #[true, true, true, false, false, false, false, false] ?_
      refine pU 4 38 #[true, true, true, false, true, false, false, false] ?_
      refine pU 5 39 #[true, true, true, false, true, true, false, false] ?_
      refine pU 3 37 #[true, true, true, true, true, true, false, false] ?_
      refine pU 6 40 #[true, true, true, true, true, true, true, false] ?_
      refine last_ (i := 7) (N := some 41) #[true, true, true, true, true, true, true, true] rfl rfl (one_of HT_.out (by kernel_rfl)) (by decide) (fun K hK => ?_)
      obtain ⟨w10, hrun, ho, hg⟩ := R_shift (P := Try.prog) (ty := 3) (t' := 38) (0 : Int) Try.underlying38 (by rw [show (Try.prog.info? 3).map (·.size) = some 1 from by kernel_rfl]) HO.out (m + 1) m (o.length - m) (cp - (m + 1)) (cp - m) (by have := HX2.out; have := LN.out; omega) (by have := HX2.out; have := LN.out; omega) (by have := HX2.out; have := LN.out; omega)
        (if cp = m + 1 then some ⟨go, 0, none⟩ else some ⟨go, m + 1, none⟩) (if cp = m then some ⟨go, 0, none⟩ else some ⟨go, m, none⟩) (fun h_ => if_neg (by have h1 := (Kd.R_reads' HO.out).2.1; have := LN.out; omega)) (fun h_ => if_neg (by have h1 := (Kd.R_reads' HO.out).2.1; have := LN.out; omega))
      refine value_ (w1 := w10) (v := .int .i64 ((o.length - m : Nat) : Int)) (by rfl) rfl ?_ ?_
      ·refine sb_copy (s := .tmp 37) (x := .tmp 40) (t := 38) (t' := 38) rfl rfl rfl ?_
       simp only [EW.out.1, EW.out.2]
       exact hrun
      refine hK.out _ _ ?_
      clear hK K
      have n0_ := Aside0.mk ho
      have n1_ := Aside0.mk (HB.out.grown hg (below_size HB.out) (fun k_ e_ => by injection e_ with e_; subst e_; exact GB.out))
      clear HO HB ho hrun hg
      have HO := n0_
      have HB := n1_
      clear n0_ n1_
      have p7 := eq_true p5
      have q7 := eq_true q6
      have hl3 : (oo.take (m + 1) ++ (oo.drop m).take (o.length - m) ++ oo.drop (m + 1 + (o.length - m))).length = oo.length := by have := HX2.out; have := LN.out; simp only [List.length_append, List.length_take, List.length_drop]; omega
      obtain ⟨hx9, hf9⟩ := Kd.R_celln 0 HO.out x8 p5 q6
      have HP := Kd.R_putn HO.out x8 (rd l0 x11)
      have HQ9 := Aside0.mk HP
      clear HP p5 q5 q6 p4 q4
      refine done_ (done_of HT_.out (by kernel_rfl)) ?_
      generalize (if cp = (wrap64 (x8 + 1)).toNat then (some ⟨go, 0, none⟩ : Option Addr) else some ⟨go, (wrap64 (x8 + 1)).toNat, none⟩) = ad37
      generalize (if cp = x8.toNat then (some ⟨go, 0, none⟩ : Option Addr) else some ⟨go, x8.toNat, none⟩) = ad40
      go_wp2
      all_goals (go_roundg k1; (case measure => omega); (case rel => exact ⟨j + 1, o.take m ++ rd l0 x11 :: o.drop m, wrap64 (x11 + 1), (by first | rfl | (simp; done)), ⟨by have h1 := HJ.out; have h2 := HK.out; have h3 := HL.out; unfold wrap64; omega⟩, ⟨by have h2 := HK.out; omega, by have h2 := HK.out; have h4 := HX2.out; simp only [List.length_append, List.length_cons, List.length_take, List.length_drop]; omega⟩, H', ⟨by (with_reducible repeat (first | apply Kd.R_alloc | apply Kd.R_drewN | apply Kd.R_drew)); have h8 := HQ9.out; have e9 := sb_shift o m (rd l0 x11) HX2.out.2; rw [OO.out] at e9; rw [EW.out.2, e9] at h8; rw [EW.out.2]; exact h8⟩, ⟨by repeat (first | (with_reducible first | exact HB.out | apply below_alloc | apply pw_below_drewN | apply below_drew1 | refine below_set ?_ GB.out) | exact HB.out)⟩⟩))

/-! ### impl_sortedBy_94: a function of its own -/
def impl_sortedBy_94.f (l0 : List (Int))  : Option (List Int) := if l0.length < 17592186044416 then sbL (fun a b => impl_ascending_1.f a b ) l0 ([] : List Int) else none
theorem impl_sortedBy_94.calls (A0 : Option Addr) (c0 : Nat) (l0 : List (Int))  (r : List Int) (w : World) (hr0 : Kd.C (Kd.int .i64) w A0 l0.length l0) (hc0 : l0.length ≤ c0) (h : impl_sortedBy_94.f l0  = some r) :
  Calls Try.prog 76 #[.slice A0 l0.length c0, .func (.func 94) #[] #[]] w fun e w' => ∃ v0_ : Value, e = .returned (v0_) ∧ Kd.R (Kd.int .i64) 3 w' w.heap.size (fun _ => True) v0_ r ∧ Below w.heap.size w w' := by
 unfold impl_sortedBy_94.f at h
 split at h
 · rename_i hl
   refine sb_calls_94 A0 c0 l0 r w hr0 hc0 _ (fun a b t w' hB hp => ?_) hl h
   exact (impl_ascending_1.calls a b  t w'  hp).mono fun e w'' h_ => ⟨h_.1, by obtain ⟨n_, rfl⟩ := h_.2; exact pw_below_drewN (Below.refl _ _) n_⟩
 · cases h

/-! ### impl_ascending: function 77 -/
def impl_ascending.f (l0 : List Int) : Option (List Int) := (impl_sortedBy_94.f l0).bind fun t348 => (some t348)
set_option maxHeartbeats 8000000 in
set_option maxRecDepth 100000 in
theorem impl_ascending.calls (A0 : Option Addr) (c0 : Nat) (l0 : List Int) (r : List Int) (w : World) (hr0 : Kd.C (Kd.int .i64) w A0 l0.length l0) (hc0 : l0.length ≤ c0) (h : impl_ascending.f l0 = some r) :
  Calls Try.prog 77 #[.slice A0 l0.length c0] w fun e w' => ∃ v0_ : Value, e = .returned (v0_) ∧ Kd.R (Kd.int .i64) 3 w' w.heap.size (fun _ => True) v0_ r ∧ Below w.heap.size w w' := by
 have HR0 := aM hr0; have HC0 := aM hc0; clear hr0 hc0; have HB := aM (Below.refl w.heap.size w); have H : ((impl_sortedBy_94.f l0).bind fun t348 => (some t348)) = some r := h; clear h; replace H := oB H; obtain ⟨t348, A20, H⟩ := H; replace H : (some t348) = some r := H; have A2 := aM A20; clear A20; obtain rfl := Option.some.inj H; go_enter Try.func77, Try.ntmps77; (go_wp2_with (first | ((with_reducible refine gate_callee (f := 76) rfl ?_); refine goesL_ (some 4) rfl rfl Try.func76 (by kernel_rfl) rfl #[.slice A0 l0.length c0, .func (.func 94) #[] #[]] rfl aE ?_; (with_reducible refine (impl_sortedBy_94.calls _ _ l0 t348 _ ?side1 ?side2 A2.out).mono ?_); (case side1 => exact cK HR0.out); (case side2 => exact HC0.out); rintro e w3 ⟨v349, rfl, ho0, hb⟩; refine ⟨_, rfl, ?_⟩; have n0_ := aM (Kd.R_lower ho0 (below_size bB)); have n1_ := aM (below_step bB hb); clear HB; have HO350 := n0_; have HB := n1_; clear n0_ n1_; (try clear hb); (try clear ho0)))); go_ret; (exact ⟨_, by first | rfl | (simp [errW_none, errW_some] <;> rfl) | (simp [*, errW_none, errW_some] <;> rfl), by (with_reducible repeat (first | apply Kd.R_alloc | apply Kd.R_drewN | apply Kd.R_drew)); exact HO350.out, bB⟩)

/-! ### impl_inDueOrder_1: function 78 -/
def impl_inDueOrder_1.f (a0 : Int) (a1 : Int) (l2 : List (S50)) : Option (Bool) := if 0 ≤ a0 then (if a0 < (l2.length : Int) then (if 0 ≤ a1 then (if a1 < (l2.length : Int) then (if ((rd_T50 l2 a0).f3) < ((rd_T50 l2 a1).f3) then (some true) else (if ((rd_T50 l2 a0).f3) = ((rd_T50 l2 a1).f3) then (some (decide (((rd_T50 l2 a0).f0) < ((rd_T50 l2 a1).f0)))) else (some false))) else (none)) else (none)) else (none)) else (none)
set_option maxHeartbeats 8000000 in
set_option maxRecDepth 100000 in
theorem impl_inDueOrder_1.calls {gb351 : Nat} (a0 : Int) (a1 : Int) (A2 : Option Addr) (c2 : Nat) (l2 : List (S50)) (r : Bool) (w : World) (hr2 : Kd.C k50 w A2 l2.length l2) (hc2 : l2.length ≤ c2) (hb351 : w.heap[gb351]? = some (.cells #[.slice A2 l2.length c2] 29 (0, 0))) (h : impl_inDueOrder_1.f a0 a1 l2 = some r) :
  Calls Try.prog 78 #[.int .i64 a0, .int .i64 a1, .pointer (some ⟨gb351, 0, none⟩)] w fun e w' => e = .returned (.bool r) ∧ Drawn0 w w' := by
 have HR2 := aM hr2; have HC2 := aM hc2; clear hr2 hc2; have BK351 := aM hb351; clear hb351; have H : (if 0 ≤ a0 then (if a0 < (l2.length : Int) then (if 0 ≤ a1 then (if a1 < (l2.length : Int) then (if ((rd_T50 l2 a0).f3) < ((rd_T50 l2 a1).f3) then (some true) else (if ((rd_T50 l2 a0).f3) = ((rd_T50 l2 a1).f3) then (some (decide (((rd_T50 l2 a0).f0) < ((rd_T50 l2 a1).f0)))) else (some false))) else (none)) else (none)) else (none)) else (none)) = some r := h; clear h; by_cases c4 : 0 ≤ a0; rotate_left
 ·rw [if_neg c4] at H; exact absurd H (by simp)
 rw [if_pos c4] at H; have c4b0 : decide (0 ≤ a0) = true := decide_eq_true c4; clear c4; by_cases c5 : a0 < (l2.length : Int); rotate_left
 ·rw [if_neg c5] at H; exact absurd H (by simp)
 rw [if_pos c5] at H; have c5b0 : decide (a0 < (l2.length : Int)) = true := decide_eq_true c5; clear c5; by_cases c6 : 0 ≤ a1; rotate_left
 ·rw [if_neg c6] at H; exact absurd H (by simp)
 rw [if_pos c6] at H; have c6b0 : decide (0 ≤ a1) = true := decide_eq_true c6; clear c6; by_cases c7 : a1 < (l2.length : Int); rotate_left
 ·rw [if_neg c7] at H; exact absurd H (by simp)
 rw [if_pos c7] at H; have c7b0 : decide (a1 < (l2.length : Int)) = true := decide_eq_true c7; clear c7; by_cases c8 : ((rd_T50 l2 a0).f3) < ((rd_T50 l2 a1).f3)
 ·rw [if_pos c8] at H
  have c8b0 : decide (((rd_T50 l2 a0).f3) < ((rd_T50 l2 a1).f3)) = true := decide_eq_true c8; clear c8; obtain rfl := Option.some.inj H; have hcz9_0 : w.cell? ⟨gb351, 0, none⟩ = some (.slice A2 l2.length c2) := (blk_cell BK351.out 0).trans rfl; have hfz9_0 := blk_frozen BK351.out 0; have p352 : 0 ≤ (a0 : Int) := oD; have q352 : a0 < (l2.length : Int) := oD; obtain ⟨ad352, e352, hx352_0, hx352_1, hx352_2, hx352_3⟩ := at_T50 HR2.out a0 p352 q352; cases e352; replace p352 := eq_true p352; replace q352 := eq_true q352; have p353 : 0 ≤ (a1 : Int) := oD; have q353 : a1 < (l2.length : Int) := oD; obtain ⟨ad353, e353, hx353_0, hx353_1, hx353_2, hx353_3⟩ := at_T50 HR2.out a1 p353 q353; obtain rfl : ad352 = ad353 := (by injection e353); replace p353 := eq_true p353; replace q353 := eq_true q353; go_enter Try.func78, Try.ntmps78; go_wp2; (repeat (go_quiet (fail); try go_wp2)); go_ret; exact ⟨by first | rfl | (simp; done) | (simp [*]; done), by repeat (first | exact Drawn0.refl _ | apply Drawn0.step)⟩
 ·rw [if_neg c8] at H
  have c8b0 : decide (((rd_T50 l2 a0).f3) < ((rd_T50 l2 a1).f3)) = false := decide_eq_false c8; clear c8; by_cases c10 : ((rd_T50 l2 a0).f3) = ((rd_T50 l2 a1).f3)
  ·rw [if_pos c10] at H
   have c10b0 : (((rd_T50 l2 a0).f3) == ((rd_T50 l2 a1).f3)) = true := beq_iff_eq.mpr c10; have c10b1 : (((rd_T50 l2 a0).f3) != ((rd_T50 l2 a1).f3)) = false := bne_eq_false_iff_eq.mpr c10; clear c10; obtain rfl := Option.some.inj H; have hcz11_0 : w.cell? ⟨gb351, 0, none⟩ = some (.slice A2 l2.length c2) := (blk_cell BK351.out 0).trans rfl; have hfz11_0 := blk_frozen BK351.out 0; have p352 : 0 ≤ (a0 : Int) := oD; have q352 : a0 < (l2.length : Int) := oD; obtain ⟨ad352, e352, hx352_0, hx352_1, hx352_2, hx352_3⟩ := at_T50 HR2.out a0 p352 q352; cases e352; replace p352 := eq_true p352; replace q352 := eq_true q352; have p353 : 0 ≤ (a1 : Int) := oD; have q353 : a1 < (l2.length : Int) := oD; obtain ⟨ad353, e353, hx353_0, hx353_1, hx353_2, hx353_3⟩ := at_T50 HR2.out a1 p353 q353; obtain rfl : ad352 = ad353 := (by injection e353); replace p353 := eq_true p353; replace q353 := eq_true q353; have p354 : 0 ≤ (a0 : Int) := oD; have q354 : a0 < (l2.length : Int) := oD; obtain ⟨ad354, e354, hx354_0, hx354_1, hx354_2, hx354_3⟩ := at_T50 HR2.out a0 p354 q354; obtain rfl : ad352 = ad354 := (by injection e354); replace p354 := eq_true p354; replace q354 := eq_true q354; have p355 : 0 ≤ (a1 : Int) := oD; have q355 : a1 < (l2.length : Int) := oD; obtain ⟨ad355, e355, hx355_0, hx355_1, hx355_2, hx355_3⟩ := at_T50 HR2.out a1 p355 q355; obtain rfl : ad352 = ad355 := (by injection e355); replace p355 := eq_true p355; replace q355 := eq_true q355; have p356 : 0 ≤ (a0 : Int) := oD; have q356 : a0 < (l2.length : Int) := oD; obtain ⟨ad356, e356, hx356_0, hx356_1, hx356_2, hx356_3⟩ := at_T50 HR2.out a0 p356 q356; obtain rfl : ad352 = ad356 := (by injection e356); replace p356 := eq_true p356; replace q356 := eq_true q356; have p357 : 0 ≤ (a1 : Int) := oD; have q357 : a1 < (l2.length : Int) := oD; obtain ⟨ad357, e357, hx357_0, hx357_1, hx357_2, hx357_3⟩ := at_T50 HR2.out a1 p357 q357; obtain rfl : ad352 = ad357 := (by injection e357); replace p357 := eq_true p357; replace q357 := eq_true q357; go_enter Try.func78, Try.ntmps78; go_wp2; (repeat (go_quiet (fail); try go_wp2)); go_ret; exact ⟨by first | rfl | (simp; done) | (simp [*]; done), by repeat (first | exact Drawn0.refl _ | apply Drawn0.step)⟩
  ·rw [if_neg c10] at H
   have c10b0 : (((rd_T50 l2 a0).f3) == ((rd_T50 l2 a1).f3)) = false := beq_eq_false_iff_ne.mpr c10; have c10b1 : (((rd_T50 l2 a0).f3) != ((rd_T50 l2 a1).f3)) = true := bne_iff_ne.mpr c10; obtain rfl := Option.some.inj H; have hcz12_0 : w.cell? ⟨gb351, 0, none⟩ = some (.slice A2 l2.length c2) := (blk_cell BK351.out 0).trans rfl; have hfz12_0 := blk_frozen BK351.out 0; have p352 : 0 ≤ (a0 : Int) := oD; have q352 : a0 < (l2.length : Int) := oD; obtain ⟨ad352, e352, hx352_0, hx352_1, hx352_2, hx352_3⟩ := at_T50 HR2.out a0 p352 q352; cases e352; replace p352 := eq_true p352; replace q352 := eq_true q352; have p353 : 0 ≤ (a1 : Int) := oD; have q353 : a1 < (l2.length : Int) := oD; obtain ⟨ad353, e353, hx353_0, hx353_1, hx353_2, hx353_3⟩ := at_T50 HR2.out a1 p353 q353; obtain rfl : ad352 = ad353 := (by injection e353); replace p353 := eq_true p353; replace q353 := eq_true q353; have p354 : 0 ≤ (a0 : Int) := oD; have q354 : a0 < (l2.length : Int) := oD; obtain ⟨ad354, e354, hx354_0, hx354_1, hx354_2, hx354_3⟩ := at_T50 HR2.out a0 p354 q354; obtain rfl : ad352 = ad354 := (by injection e354); replace p354 := eq_true p354; replace q354 := eq_true q354; have p355 : 0 ≤ (a1 : Int) := oD; have q355 : a1 < (l2.length : Int) := oD; obtain ⟨ad355, e355, hx355_0, hx355_1, hx355_2, hx355_3⟩ := at_T50 HR2.out a1 p355 q355; obtain rfl : ad352 = ad355 := (by injection e355); replace p355 := eq_true p355; replace q355 := eq_true q355; go_enter Try.func78, Try.ntmps78; go_wp2; (repeat (go_quiet (fail); try go_wp2)); go_ret; exact ⟨by first | rfl | (simp; done) | (simp [*]; done), by repeat (first | exact Drawn0.refl _ | apply Drawn0.step)⟩

/-! ### sortedBy by impl_inDueOrder_1 -/
set_option maxHeartbeats 8000000 in
set_option maxRecDepth 100000 in
theorem sb_calls_78 (q0 : Value) (A0 : Option Addr) (c0 : Nat) (l0 : List Int) (r : List Int) (w : World) (hr0 : Kd.C (Kd.int .i64) w A0 l0.length l0) (hc0 : l0.length ≤ c0) (p : Int → Int → Option Bool)
    (hcl : ∀ (a b : Int) (t : Bool) (w' : World), Below w.heap.size w w' → p a b = some t → Calls Try.prog 78 #[.int .i64 a, .int .i64 b, q0] w' fun e w'' => e = .returned (.bool t) ∧ Below w'.heap.size w' w'')
    (hlen : l0.length < 17592186044416) (h : sbL p l0 [] = some r) : Calls Try.prog 76 #[.slice A0 l0.length c0, .func (.func 78) #[] #[q0]] w fun e w' => ∃ v0_ : Value, e = .returned (v0_) ∧ Kd.R (Kd.int .i64) 3 w' w.heap.size (fun _ => True) v0_ r ∧ Below w.heap.size w w' := by
 have HR0 := Aside0.mk hr0
 have HC0 := Aside0.mk hc0
 clear hr0 hc0
 have HB := Aside0.mk (Below.refl w.heap.size w)
 have HCL := Aside0.mk hcl
 clear hcl
 have HL := Aside0.mk hlen
 clear hlen
 have H' := Aside0.mk h
 clear h
 go_enter Try.func76, Try.ntmps76
 go_wp2
 go_loopg [5, 11] l0.length (fun kq v5 v11 w' => ∃ (j : Nat) (o : List Int) (x11 : Int), v11 = .int .i64 x11 ∧ Aside0 (x11 = j) ∧ Aside0 (j + kq = l0.length ∧ o.length = j) ∧ Aside0 (sbL p (l0.drop j) o = some r) ∧ Aside0 (Kd.R (Kd.int .i64) 3 w' w.heap.size (fun _ => True) v5 o) ∧ Aside0 (Below w.heap.size w w'))
 case atStart => exact ⟨0, [], 0, rfl, ⟨rfl⟩, ⟨by omega, rfl⟩, H', ⟨Kd.R_nil _ _ _ _ _⟩, ⟨bB⟩⟩
 case round =>
  clear H'
  obtain ⟨j, o, x11, rfl, HJ, HK, H', HO, HB⟩ := hrel
  cases gk with
  | zero =>
   have c0b : decide (x11 < (l0.length : Int)) = false := decide_eq_false (by have := HJ.out; have := HK.out; omega)
   have H := H'.out
   clear H'
   rw [List.drop_eq_nil_of_le (by have := HK.out; omega), sbL] at H
   obtain rfl := Option.some.inj H
   go_wp2
   go_ret
   exact ⟨_, rfl, by (with_reducible repeat (first | apply Kd.R_alloc | apply Kd.R_drewN | apply Kd.R_drew)); exact HO.out, bB⟩
  | succ k1 =>
   have c0b : decide (x11 < (l0.length : Int)) = true := decide_eq_true (by have := HJ.out; have := HK.out; omega)
   have p1 : 0 ≤ x11 := by have := HJ.out; omega
   have q1 : x11 < (l0.length : Int) := by have := HJ.out; have := HK.out; omega
   obtain ⟨ad1, e1, hx1⟩ := Kd.at_int HR0.out x11 p1 q1
   cases e1
   replace hx1 := (cB HB.out hx1 :)
   replace p1 := eq_true p1
   replace q1 := eq_true q1
   obtain ⟨Ao, co, eo⟩ := Kd.R_slice HO.out
   subst eo
   have H := H'.out
   clear H'
   rw [List.drop_eq_getElem_cons (by have := HK.out; omega), sbL] at H
   have hrd : l0[j]'(by have := HK.out; omega) = rd l0 x11 := by have h1 := HJ.out; have h2 := HK.out; subst h1; simp [rd]; rw [List.getElem?_eq_getElem (by omega)]; rfl
   rw [hrd] at H
   clear hrd
   obtain ⟨m, hm, H⟩ := Option.bind_eq_some_iff.mp H
   have HM := Aside0.mk hm
   have H' := Aside0.mk H
   clear H hm
   go_wp2
   go_loopg [8] o.length (fun kq v8 w' => ∃ (x8 : Int), v8 = .int .i64 x8 ∧ Aside0 (x8 = (kq : Nat)) ∧ Aside0 (kq ≤ o.length) ∧ Aside0 (sbK (p (rd l0 x11)) o kq = some m) ∧ Aside0 (Kd.R (Kd.int .i64) 3 w' w.heap.size (fun _ => True) (.slice Ao o.length co) o) ∧ Aside0 (Below w.heap.size w w'))
   case atStart => exact ⟨(o.length : Int), (by first | rfl | (simp; done)), ⟨rfl⟩, ⟨Nat.le_refl _⟩, HM, ⟨by (with_reducible repeat (first | apply Kd.R_alloc | apply Kd.R_drewN | apply Kd.R_drew)); exact HO.out⟩, ⟨bB⟩⟩
   case round =>
    clear HM HO
    obtain ⟨x8, rfl, HX, HQ, HM, HO, HB⟩ := hrel
    cases gk with
    | zero =>
     have c1 : decide (0 < x8) = false := decide_eq_false (by have := HX.out; omega)
     have H := HM.out
     clear HM
     simp only [sbK, Option.some.injEq] at H
     have HM1 := Aside0.mk (show (m : Int) = x8 by have := HX.out; omega)
     clear H
     obtain ⟨hx, hm_⟩ : x8 = (m : Int) ∧ m ≤ o.length := ⟨by have := HX.out; have := HM1.out; omega, by have h1 := HM1.out; have h2 := HX.out; have h3 := HQ.out; omega⟩
     have HX2 := Aside0.mk (And.intro hx hm_)
     clear hx hm_
     have LM := Aside0.mk (show o.length < 17592186044416 by have := HL.out; have := HK.out; omega)
     go_wp2_with (first | ((with_reducible refine gate_builtin (b := .append) (xs := #[.tmp 31, .tmp 32]) rfl ?_); at_builtin; refine Kd.R_append (Kd.int .i64) (w0 := w) w.heap.size rfl (.tmp 31) (.tmp 32) 38 3 (.int .i64 0) 8 rfl Try.underlying38 info3 rfl (by decide) (by omega) (.slice Ao o.length co) o 0 [.int .i64 0] (fun _ => True) (fun _ => False) rfl rfl ?aP (fun _ hk => hk.elim) ?aF ?aO ?aB ?aS ?aL ?_; (case aP => exact rfl); (case aB => exact bB); (case aF => exact (fun _ _ => trivial)); (case aO => exact (by (with_reducible repeat (first | apply Kd.R_alloc | apply Kd.R_drewN | apply Kd.R_drew)); exact HO.out)); (case aS => exact (below_size bB)); (case aL => have := LM.out; omega); intro v5 w8 ho hb hg hat; have n0_ := Aside0.mk (hb); have n1_ := Aside0.mk (ho); clear HB; clear HO; have HB := n0_; have HO := n1_; clear n0_ n1_; clear ho hb hg hat))
     obtain ⟨go, cp, eo, gb, gl, cl, HG⟩ := Kd.R_form HO.out (by rw [List.length_append]; simp)
     (first | subst eo | cases eo)
     have GB := Aside0.mk gb
     clear gb gl HG cl
     have hw1 : wrap64 (x8 + 1) = ((m + 1 : Nat) : Int) := by have h1 := HX2.out; have h4 := LM.out; unfold wrap64; omega
     have p4 : 0 ≤ wrap64 (x8 + 1) := by omega
     have q4 : wrap64 (x8 + 1) ≤ (((o ++ [0]).length : Nat) : Int) := by have h1 := HX2.out; rw [List.length_append, List.length_singleton]; omega
     have p5 : 0 ≤ x8 := by have h1 := HX2.out; omega
     have q5 : x8 ≤ (((o ++ [0]).length : Nat) : Int) := by have h1 := HX2.out; rw [List.length_append, List.length_singleton]; omega
     have q6 : x8 < (((o ++ [0]).length : Nat) : Int) := by have h1 := HX2.out; rw [List.length_append, List.length_singleton]; omega
     have ew1 : (wrap64 (x8 + 1)).toNat = m + 1 := by rw [hw1]; rfl
     have ex8 : x8.toNat = m := by rw [HX2.out.1]; rfl
     have EW := Aside0.mk (And.intro ew1 ex8)
     clear hw1 ew1 ex8
     have ln : (o ++ [0]).length = o.length + 1 := by simp
     have LN := Aside0.mk ln
     clear ln
     generalize hoo : o ++ [0] = oo at *
     have OO := Aside0.mk hoo
     clear hoo
     refine start_ (n := 8) (S := fun w' => True) (ds := [7]) #[false, false, false, false, false, false, false, false] (by kernel_rfl) rfl rfl trivial (fun hHeld => ?_); refine with_tabW sb_tab9 sb_bits9 (fun HT_ HW_ => ?_)
     have n0_ := Aside0.mk (Kd.R_drew HO.out)
     have n1_ := Aside0.mk (below_drew1 HB.out)
     clear HO HB
     have HO := n0_
     have HB := n1_
     clear n0_ n1_
     generalize w8.drew = w9 at HO HB ⊢
     refine pU 0 34 #[true, false, false, false, false, false, false, false] ?_
     refine pU 1 35 #[true, true, false, false, false, false, false, false] ?_
     refine pU 2 36 #[true, true, true, false, false, false, false, false] ?_
     refine pU 4 38 #[true, true, true, false, true, false, false, false] ?_
     refine pU 5 39 #[true, true, true, false, true, true, false, false] ?_
     refine pU 3 37 #[true, true, true, true, true, true, false, false] ?_
     refine pU 6 40 #[true, true, true, true, true, true, true, false] ?_
     refine last_ (i := 7) (N := some 41) #[true, true, true, true, true, true, true, true] rfl rfl (one_of HT_.out (by kernel_rfl)) (by decide) (fun K hK => ?_)
     obtain ⟨w10, hrun, ho, hg⟩ := R_shift (P := Try.prog) (ty := 3) (t' := 38) (0 : Int) Try.underlying38 (by rw [show (Try.prog.info? 3).map (·.size) = some 1 from by kernel_rfl]) HO.out (m + 1) m (o.length - m) (cp - (m + 1)) (cp - m) (by have := HX2.out; have := LN.out; omega) (by have := HX2.out; have := LN.out; omega) (by have := HX2.out; have := LN.out; omega)
       (if cp = m + 1 then some ⟨go, 0, none⟩ else some ⟨go, m + 1, none⟩) (if cp = m then some ⟨go, 0, none⟩ else some ⟨go, m, none⟩) (fun h_ => if_neg (by have h1 := (Kd.R_reads' HO.out).2.1; have := LN.out; omega)) (fun h_ => if_neg (by have h1 := (Kd.R_reads' HO.out).2.1; have := LN.out; omega))
     refine value_ (w1 := w10) (v := .int .i64 ((o.length - m : Nat) : Int)) (by rfl) rfl ?_ ?_
     ·refine sb_copy (s := .tmp 37) (x := .tmp 40) (t := 38) (t' := 38) rfl rfl rfl ?_
      simp only [EW.out.1, EW.out.2]
      exact hrun
     refine hK.out _ _ ?_
     clear hK K
     have n0_ := Aside0.mk ho
     have n1_ := Aside0.mk (HB.out.grown hg (below_size HB.out) (fun k_ e_ => by injection e_ with e_; subst e_; exact GB.out))
     clear HO HB ho hrun hg
     have HO := n0_
     have HB := n1_
     clear n0_ n1_
     have p7 := eq_true p5
     have q7 := eq_true q6
     have hl3 : (oo.take (m + 1) ++ (oo.drop m).take (o.length - m) ++ oo.drop (m + 1 + (o.length - m))).length = oo.length := by have := HX2.out; have := LN.out; simp only [List.length_append, List.length_take, List.length_drop]; omega
     obtain ⟨hx9, hf9⟩ := Kd.R_celln 0 HO.out x8 p5 q6
     have HP := Kd.R_putn HO.out x8 (rd l0 x11)
     have HQ9 := Aside0.mk HP
     clear HP p5 q5 q6 p4 q4
     refine done_ (done_of HT_.out (by kernel_rfl)) ?_
     generalize (if cp = (wrap64 (x8 + 1)).toNat then (some ⟨go, 0, none⟩ : Option Addr) else some ⟨go, (wrap64 (x8 + 1)).toNat, none⟩) = ad37
     generalize (if cp = x8.toNat then (some ⟨go, 0, none⟩ : Option Addr) else some ⟨go, x8.toNat, none⟩) = ad40
     go_wp2
     all_goals (go_roundg k1; (case measure => omega); (case rel => exact ⟨j + 1, o.take m ++ rd l0 x11 :: o.drop m, wrap64 (x11 + 1), (by first | rfl | (simp; done)), ⟨by have h1 := HJ.out; have h2 := HK.out; have h3 := HL.out; unfold wrap64; omega⟩, ⟨by have h2 := HK.out; omega, by have h2 := HK.out; have h4 := HX2.out; simp only [List.length_append, List.length_cons, List.length_take, List.length_drop]; omega⟩, H', ⟨by (with_reducible repeat (first | apply Kd.R_alloc | apply Kd.R_drewN | apply Kd.R_drew)); have h8 := HQ9.out; have e9 := sb_shift o m (rd l0 x11) HX2.out.2; rw [OO.out] at e9; rw [EW.out.2, e9] at h8; rw [EW.out.2]; exact h8⟩, ⟨by repeat (first | (with_reducible first | exact HB.out | apply below_alloc | apply pw_below_drewN | apply below_drew1 | refine below_set ?_ GB.out) | exact HB.out)⟩⟩))
    | succ k2 =>
     have c1 : decide (0 < x8) = true := decide_eq_true (by have := HX.out; omega)
     have hw : wrap64 (x8 - 1) = (k2 : Int) := by have h1 := HX.out; have h2 := HQ.out; have h3 := HK.out; have h4 := HL.out; unfold wrap64; omega
     have p2 : 0 ≤ wrap64 (x8 - 1) := by omega
     have q2 : wrap64 (x8 - 1) < (o.length : Int) := by have h2 := HQ.out; omega
     obtain ⟨ad2, e2, hx2⟩ := Kd.at_int (Kd.R_reads' HO.out).2.2 (wrap64 (x8 - 1)) p2 q2
     cases e2
     have H := HM.out
     clear HM
     rw [sbK, ← hw] at H
     have HW := Aside0.mk hw
     clear hw
     replace p2 := eq_true p2
     replace q2 := eq_true q2
     obtain ⟨b, hb, H⟩ := Option.bind_eq_some_iff.mp H
     have HP := Aside0.mk hb
     have HM := Aside0.mk H
     clear H hb
     cases b with
     | true =>
      go_wp2_with (go_at_call 78; refine (HCL.out (rd l0 x11) (rd o (wrap64 (x8 - 1))) true _ bB HP.out).mono ?_; rintro e w' ⟨rfl, hbz⟩; have n0_ := Aside0.mk (Kd.R_below (by (with_reducible repeat (first | apply Kd.R_alloc | apply Kd.R_drewN | apply Kd.R_drew)); exact HO.out) hbz); have n1_ := Aside0.mk (below_step bB hbz); clear HO HB; have HO := n0_; have HB := n1_; clear n0_ n1_ hbz)
      go_roundg k2
      case measure => omega
      case rel => exact ⟨wrap64 (x8 - 1), (by first | rfl | (simp; done)), ⟨HW.out⟩, ⟨by have := HQ.out; omega⟩, ⟨by have := HM.out; simpa using this⟩, ⟨by (with_reducible repeat (first | apply Kd.R_alloc | apply Kd.R_drewN | apply Kd.R_drew)); exact HO.out⟩, ⟨bB⟩⟩
     | false =>
      have H := HM.out
      clear HM
      simp only [Bool.false_eq_true, if_false, Option.some.injEq] at H
      have HM1 := Aside0.mk (show (m : Int) = x8 by have := HX.out; omega)
      clear H
      obtain ⟨hx, hm_⟩ : x8 = (m : Int) ∧ m ≤ o.length := ⟨by have := HX.out; have := HM1.out; omega, by have h1 := HM1.out; have h2 := HX.out; have h3 := HQ.out; omega⟩
      have HX2 := Aside0.mk (And.intro hx hm_)
      clear hx hm_
      have LM := Aside0.mk (show o.length < 17592186044416 by have := HL.out; have := HK.out; omega)
      go_wp2_with (first | (go_at_call 78; refine (HCL.out (rd l0 x11) (rd o (wrap64 (x8 - 1))) false _ bB HP.out).mono ?_; rintro e w' ⟨rfl, hbz⟩; have n0_ := Aside0.mk (Kd.R_below (by (with_reducible repeat (first | apply Kd.R_alloc | apply Kd.R_drewN | apply Kd.R_drew)); exact HO.out) hbz); have n1_ := Aside0.mk (below_step bB hbz); clear HO HB; have HO := n0_; have HB := n1_; clear n0_ n1_ hbz) | ((with_reducible refine gate_builtin (b := .append) (xs := #[.tmp 31, .tmp 32]) rfl ?_); at_builtin; refine Kd.R_append (Kd.int .i64) (w0 := w) w.heap.size rfl (.tmp 31) (.tmp 32) 38 3 (.int .i64 0) 8 rfl Try.underlying38 info3 rfl (by decide) (by omega) (.slice (some ad2) o.length co) o 0 [.int .i64 0] (fun _ => True) (fun _ => False) rfl rfl ?aP (fun _ hk => hk.elim) ?aF ?aO ?aB ?aS ?aL ?_; (case aP => exact rfl); (case aB => exact bB); (case aF => exact (fun _ _ => trivial)); (case aO => exact (by (with_reducible repeat (first | apply Kd.R_alloc | apply Kd.R_drewN | apply Kd.R_drew)); exact HO.out)); (case aS => exact (below_size bB)); (case aL => have := LM.out; omega); intro v5 w8 ho hb hg hat; have n0_ := Aside0.mk (hb); have n1_ := Aside0.mk (ho); clear HB; clear HO; have HB := n0_; have HO := n1_; clear n0_ n1_; clear ho hb hg hat))
      obtain ⟨go, cp, eo, gb, gl, cl, HG⟩ := Kd.R_form HO.out (by rw [List.length_append]; simp)
      (first | subst eo | cases eo)
      have GB := Aside0.mk gb
      clear gb gl HG cl
      have hw1 : wrap64 (x8 + 1) = ((m + 1 : Nat) : Int) := by have h1 := HX2.out; have h4 := LM.out; unfold wrap64; omega
      have p4 : 0 ≤ wrap64 (x8 + 1) := by omega
      have q4 : wrap64 (x8 + 1) ≤ (((o ++ [0]).length : Nat) : Int) := by have h1 := HX2.out; rw [List.length_append, List.length_singleton]; omega
      have p5 : 0 ≤ x8 := by have h1 := HX2.out; omega
      have q5 : x8 ≤ (((o ++ [0]).length : Nat) : Int) := by have h1 := HX2.out; rw [List.length_append, List.length_singleton]; omega
      have q6 : x8 < (((o ++ [0]).length : Nat) : Int) := by have h1 := HX2.out; rw [List.length_append, List.length_singleton]; omega
      have ew1 : (wrap64 (x8 + 1)).toNat = m + 1 := by rw [hw1]; rfl
      have ex8 : x8.toNat = m := by rw [HX2.out.1]; rfl
      have EW := Aside0.mk (And.intro ew1 ex8)
      clear hw1 ew1 ex8
      have ln : (o ++ [0]).length = o.length + 1 := by simp
      have LN := Aside0.mk ln
      clear ln
      generalize hoo : o ++ [0] = oo at *
      have OO := Aside0.mk hoo
      clear hoo
      refine start_ (n := 8) (S := fun w' => True) (ds := [7]) #[false, false, false, false, false, false, false, false] (by kernel_rfl) rfl rfl trivial (fun hHeld => ?_); refine with_tabW sb_tab9 sb_bits9 (fun HT_ HW_ => ?_)
      have n0_ := Aside0.mk (Kd.R_drew HO.out)
      have n1_ := Aside0.mk (below_drew1 HB.out)
      clear HO HB
      have HO := n0_
      have HB := n1_
      clear n0_ n1_
      generalize w8.drew = w9 at HO HB ⊢
      refine pU 0 34 #[true, false, false, false, false, false, false, false] ?_
      refine pU 1 35 #[true, true, false, false, false, false, false, false] ?_
      refine pU 2 36 #[true, true, true, false, false, false, false, false] ?_
      refine pU 4 38 #[true, true, true, false, true, false, false, false] ?_
      refine pU 5 39 #[true, true, true, false, true, true, false, false] ?_
      refine pU 3 37 #[true, true, true, true, true, true, false, false] ?_
      refine pU 6 40 #[true, true, true, true, true, true, true, false] ?_
      refine last_ (i := 7) (N := some 41) #[true, true, true, true, true, true, true, true] rfl rfl (one_of HT_.out (by kernel_rfl)) (by decide) (fun K hK => ?_)
      obtain ⟨w10, hrun, ho, hg⟩ := R_shift (P := Try.prog) (ty := 3) (t' := 38) (0 : Int) Try.underlying38 (by rw [show (Try.prog.info? 3).map (·.size) = some 1 from by kernel_rfl]) HO.out (m + 1) m (o.length - m) (cp - (m + 1)) (cp - m) (by have := HX2.out; have := LN.out; omega) (by have := HX2.out; have := LN.out; omega) (by have := HX2.out; have := LN.out; omega)
        (if cp = m + 1 then some ⟨go, 0, none⟩ else some ⟨go, m + 1, none⟩) (if cp = m then some ⟨go, 0, none⟩ else some ⟨go, m, none⟩) (fun h_ => if_neg (by have h1 := (Kd.R_reads' HO.out).2.1; have := LN.out; omega)) (fun h_ => if_neg (by have h1 := (Kd.R_reads' HO.out).2.1; have := LN.out; omega))
      refine value_ (w1 := w10) (v := .int .i64 ((o.length - m : Nat) : Int)) (by rfl) rfl ?_ ?_
      ·refine sb_copy (s := .tmp 37) (x := .tmp 40) (t := 38) (t' := 38) rfl rfl rfl ?_
       simp only [EW.out.1, EW.out.2]
       exact hrun
      refine hK.out _ _ ?_
      clear hK K
      have n0_ := Aside0.mk ho
      have n1_ := Aside0.mk (HB.out.grown hg (below_size HB.out) (fun k_ e_ => by injection e_ with e_; subst e_; exact GB.out))
      clear HO HB ho hrun hg
      have HO := n0_
      have HB := n1_
      clear n0_ n1_
      have p7 := eq_true p5
      have q7 := eq_true q6
      have hl3 : (oo.take (m + 1) ++ (oo.drop m).take (o.length - m) ++ oo.drop (m + 1 + (o.length - m))).length = oo.length := by have := HX2.out; have := LN.out; simp only [List.length_append, List.length_take, List.length_drop]; omega
      obtain ⟨hx9, hf9⟩ := Kd.R_celln 0 HO.out x8 p5 q6
      have HP := Kd.R_putn HO.out x8 (rd l0 x11)
      have HQ9 := Aside0.mk HP
      clear HP p5 q5 q6 p4 q4
      refine done_ (done_of HT_.out (by kernel_rfl)) ?_
      generalize (if cp = (wrap64 (x8 + 1)).toNat then (some ⟨go, 0, none⟩ : Option Addr) else some ⟨go, (wrap64 (x8 + 1)).toNat, none⟩) = ad37
      generalize (if cp = x8.toNat then (some ⟨go, 0, none⟩ : Option Addr) else some ⟨go, x8.toNat, none⟩) = ad40
      go_wp2
      all_goals (go_roundg k1; (case measure => omega); (case rel => exact ⟨j + 1, o.take m ++ rd l0 x11 :: o.drop m, wrap64 (x11 + 1), (by first | rfl | (simp; done)), ⟨by have h1 := HJ.out; have h2 := HK.out; have h3 := HL.out; unfold wrap64; omega⟩, ⟨by have h2 := HK.out; omega, by have h2 := HK.out; have h4 := HX2.out; simp only [List.length_append, List.length_cons, List.length_take, List.length_drop]; omega⟩, H', ⟨by (with_reducible repeat (first | apply Kd.R_alloc | apply Kd.R_drewN | apply Kd.R_drew)); have h8 := HQ9.out; have e9 := sb_shift o m (rd l0 x11) HX2.out.2; rw [OO.out] at e9; rw [EW.out.2, e9] at h8; rw [EW.out.2]; exact h8⟩, ⟨by repeat (first | (with_reducible first | exact HB.out | apply below_alloc | apply pw_below_drewN | apply below_drew1 | refine below_set ?_ GB.out) | exact HB.out)⟩⟩))

/-! ### impl_sortedBy_78: a function of its own -/
def impl_sortedBy_78.f (l0 : List (Int)) (l1 : List (S50)) : Option (List Int) := if l0.length < 17592186044416 then sbL (fun a b => impl_inDueOrder_1.f a b l1) l0 ([] : List Int) else none
theorem impl_sortedBy_78.calls {g1 : Nat} (A0 : Option Addr) (c0 : Nat) (l0 : List (Int)) (A1 : Option Addr) (c1 : Nat) (l1 : List (S50)) (r : List Int) (w : World) (hr0 : Kd.C (Kd.int .i64) w A0 l0.length l0) (hc0 : l0.length ≤ c0) (hr1 : Kd.C k50 w A1 l1.length l1) (hc1 : l1.length ≤ c1) (hb1 : w.heap[g1]? = some (.cells #[.slice A1 l1.length c1] 29 (0, 0))) (h : impl_sortedBy_78.f l0 l1 = some r) :
  Calls Try.prog 76 #[.slice A0 l0.length c0, .func (.func 78) #[] #[.pointer (some ⟨g1, 0, none⟩)]] w fun e w' => ∃ v0_ : Value, e = .returned (v0_) ∧ Kd.R (Kd.int .i64) 3 w' w.heap.size (fun _ => True) v0_ r ∧ Below w.heap.size w w' := by
 unfold impl_sortedBy_78.f at h
 split at h
 · rename_i hl
   refine sb_calls_78 _ A0 c0 l0 r w hr0 hc0 _ (fun a b t w' hB hp => ?_) hl h
   exact (impl_inDueOrder_1.calls a b _ _ l1 t w' (Kd.C_below hr1 hB) hc1 (blk_below hb1 hB) hp).mono fun e w'' h_ => ⟨h_.1, by obtain ⟨n_, rfl⟩ := h_.2; exact pw_below_drewN (Below.refl _ _) n_⟩
 · cases h

/-! ### impl_inDueOrder: function 42 -/
def impl_inDueOrder.f (l0 : List (S50)) (l1 : List Int) : Option (List Int) := (impl_ascending.f l1).bind fun t359 => ((impl_sortedBy_78.f t359 l0).bind fun t362 => (some t362))
set_option maxHeartbeats 8000000 in
set_option maxRecDepth 100000 in
theorem impl_inDueOrder.calls (A0 : Option Addr) (c0 : Nat) (l0 : List (S50)) (A1 : Option Addr) (c1 : Nat) (l1 : List Int) (r : List Int) (w : World) (hr0 : Kd.C k50 w A0 l0.length l0) (hc0 : l0.length ≤ c0) (hr1 : Kd.C (Kd.int .i64) w A1 l1.length l1) (hc1 : l1.length ≤ c1) (h : impl_inDueOrder.f l0 l1 = some r) :
  Calls Try.prog 42 #[.slice A0 l0.length c0, .slice A1 l1.length c1] w fun e w' => ∃ v0_ : Value, e = .returned (v0_) ∧ Kd.R (Kd.int .i64) 3 w' w.heap.size (fun _ => True) v0_ r ∧ Below w.heap.size w w' := by
 have HR0 := aM hr0; have HC0 := aM hc0; clear hr0 hc0; have HR1 := aM hr1; have HC1 := aM hc1; clear hr1 hc1; have HB := aM (Below.refl w.heap.size w); have H : ((impl_ascending.f l1).bind fun t359 => ((impl_sortedBy_78.f t359 l0).bind fun t362 => (some t362))) = some r := h; clear h; replace H := oB H; obtain ⟨t359, A30, H⟩ := H; replace H : ((impl_sortedBy_78.f t359 l0).bind fun t362 => (some t362)) = some r := H; have A3 := aM A30; clear A30; replace H := oB H; obtain ⟨t362, A40, H⟩ := H; replace H : (some t362) = some r := H; have A4 := aM A40; clear A40; obtain rfl := Option.some.inj H; go_enter Try.func42, Try.ntmps42; (go_wp2_with (first | ((with_reducible refine gate_dst (N := 2) rfl ?_); refine bE 2 #[.slice A0 l0.length c0] 29 ?_; intro gb358 hg w5 hbox hb; have n0_ := aM (below_step bB hb); have n1_ := aM (hbox); have n2_ := aM ((by rw [hg]; exact (below_size bB) : w.heap.size ≤ gb358)); have n3_ := aM ((by rw [hg]; exact (below_size bB) : w.heap.size ≤ gb358)); clear HB; have HB := n0_; have BK358 := n1_; have GW358 := n2_; have GE358 := n3_; clear n0_ n1_ n2_ n3_; clear hb hbox hg) | ((with_reducible refine gate_callee (f := 77) rfl ?_); refine goesL_ (some 6) rfl rfl Try.func77 (by kernel_rfl) rfl #[.slice A1 l1.length c1] rfl aE ?_; (with_reducible refine (impl_ascending.calls _ _ l1 t359 _ ?side1 ?side2 A3.out).mono ?_); (case side1 => exact cK ((Kd.C_below HR1.out HB.out))); (case side2 => exact HC1.out); rintro e w6 ⟨v360, rfl, ho0, hb⟩; refine ⟨_, rfl, ?_⟩; have n0_ := aM (Kd.R_lower ho0 (below_size bS)); have n1_ := aM (blk_below (g := gb358) (o := .cells #[.slice A0 l0.length c0] 29 (0, 0)) kB hb); have n2_ := aM (below_step bS hb); clear BK358; clear HB; have HO361 := n0_; have BK358 := n1_; have HB := n2_; clear n0_ n1_ n2_; (try clear hb); (try clear hk); (try clear ho0); obtain ⟨Ao7, co7, eo7⟩ := Kd.R_slice HO361.out; subst eo7) | ((with_reducible refine gate_callee (f := 76) rfl ?_); refine goesL_ (some 8) rfl rfl Try.func76 (by kernel_rfl) rfl #[.slice Ao7 t359.length co7, .func (.func 78) #[] #[.pointer (some ⟨gb358, 0, none⟩)]] rfl aE ?_; (with_reducible refine (impl_sortedBy_78.calls _ _ t359 A0 c0 l0 t362 _ ?side1 ?side2 ?side3 ?side4 ?side5 A4.out).mono ?_); (case side1 => exact cK ((Kd.R_reads' HO361.out).2.2)); (case side2 => exact (Kd.R_reads' HO361.out).2.1); (case side3 => exact cK ((Kd.C_below HR0.out HB.out))); (case side4 => exact HC0.out); (case side5 => exact kB); rintro e w8 ⟨v363, rfl, ho0, hb⟩; refine ⟨_, rfl, ?_⟩; have n0_ := aM (Kd.R_elder' (by (with_reducible repeat (first | apply Kd.R_alloc | apply Kd.R_drewN | apply Kd.R_drew)); exact HO361.out) (Kd.R_base ho0) hb); have n1_ := aM (Kd.R_lower (Kd.R_new' ho0 (Kd.R_lt (by (with_reducible repeat (first | apply Kd.R_alloc | apply Kd.R_drewN | apply Kd.R_drew)); exact HO361.out))) (below_size bS)); have n2_ := aM (blk_below (g := gb358) (o := .cells #[.slice A0 l0.length c0] 29 (0, 0)) kB hb); have n3_ := aM (below_step bS hb); clear HO361; clear BK358; clear HB; have HO361 := n0_; have HO364 := n1_; have BK358 := n2_; have HB := n3_; clear n0_ n1_ n2_ n3_; (try clear hb); (try clear hk); (try clear ho0)))); go_ret; (exact ⟨_, by first | rfl | (simp [errW_none, errW_some] <;> rfl) | (simp [*, errW_none, errW_some] <;> rfl), by (with_reducible repeat (first | apply Kd.R_alloc | apply Kd.R_drewN | apply Kd.R_drew)); exact Kd.R_mono HO364.out (fun _ hk => trivial), bS⟩)

/-! ### impl_numbersTo: function 43 -/
def impl_numbersTo.l0 : Nat → Int → List Int → Int → Option (List Int)
 | 0, _, _, _ => none
 | k + 1, x0, x3, x4 => if x4 < x0 then (if x3.length < 17592186044416 then (impl_numbersTo.l0 k x0 (x3 ++ [x4]) (wrap64 (x4 + 1))) else (none)) else (some x3)
def impl_numbersTo.f (k : Nat) (a0 : Int) : Option (List Int) := impl_numbersTo.l0 k a0 ([] : List Int) 0
theorem impl_numbersTo.mono_l : ∀ k, (∀ y0 y1 y2, LeO (impl_numbersTo.l0 k y0 y1 y2) (impl_numbersTo.l0 (k + 1) y0 y1 y2))
 | 0 => fun _ _ _ r h => by simp [impl_numbersTo.l0] at h
 | k + 1 => by
  have ih0 := impl_numbersTo.mono_l k
  ·intro y0 y1 y2
   unfold impl_numbersTo.l0
   repeat' first
   | (with_reducible exact ih0 _ _ _)
   | (with_reducible exact LeO.refl _)
   | (with_reducible exact LeO.none _)
   | (with_reducible refine LeO.ite ?_ ?_)
   | (with_reducible refine LeO.bind ?_ (fun _ => ?_))
   | exact ih0 _ _ _
   | exact LeO.none _
   | refine LeO.ite ?_ ?_
   | refine LeO.bind ?_ (fun _ => ?_)
theorem impl_numbersTo.mono : ∀ a0 k, LeO (impl_numbersTo.f k a0) (impl_numbersTo.f (k + 1) a0) := by
 intro a0 k; have ih0 := impl_numbersTo.mono_l k; unfold impl_numbersTo.f
 repeat' first
   | (with_reducible exact ih0 _ _ _)
   | (with_reducible exact LeO.refl _)
   | (with_reducible exact LeO.none _)
   | (with_reducible refine LeO.ite ?_ ?_)
   | (with_reducible refine LeO.bind ?_ (fun _ => ?_))
   | exact ih0 _ _ _
   | exact LeO.none _
   | refine LeO.ite ?_ ?_
   | refine LeO.bind ?_ (fun _ => ?_)
set_option maxHeartbeats 8000000 in
set_option maxRecDepth 100000 in
theorem impl_numbersTo.calls (k : Nat) (a0 : Int) (r : List Int) (w : World) (h : impl_numbersTo.f k a0 = some r) :
  Calls Try.prog 43 #[.int .i64 a0] w fun e w' => ∃ v0_ : Value, e = .returned (v0_) ∧ Kd.R (Kd.int .i64) 3 w' w.heap.size (fun _ => True) v0_ r ∧ Below w.heap.size w w' := by
 have HB := aM (Below.refl w.heap.size w); have H : (impl_numbersTo.l0 k a0 ([] : List Int) 0) = some r := h; clear h; have H' := aM H; clear H; go_enter Try.func43, Try.ntmps43; go_wp2; go_loopg [3, 4] k (fun kq v3 v4 w' => ∃ (x3_1 : List Int) (x4_1 : Int), v4 = .int .i64 x4_1 ∧ Aside0 (impl_numbersTo.l0 kq a0 x3_1 x4_1 = some r) ∧ Aside0 (kq ≤ k) ∧ Aside0 (Kd.R (Kd.int .i64) 3 w' w.heap.size (fun _ => True) v3 x3_1) ∧ Aside0 (Below w.heap.size w w'))
 case atStart => exact ⟨(([] : List Int)), (0), sD, H', ⟨Nat.le_refl _⟩, ⟨by first | exact Kd.R_nil _ _ _ _ _ | exact Kd.N_nil _ _ _ _ _ | exact Kd.V_nil _ _ _ _ _ | exact Kd.Q_nil _ _ _ _ _ | exact Kd.S_nil _ _ _ _ _⟩, ⟨by repeat (first | (with_reducible first | exact HB.out | apply below_alloc | apply pw_below_drewN | apply below_drew1) | exact HB.out)⟩⟩
 case round =>
  clear H'; obtain ⟨x3_1, x4_1, rfl, HA, HK1, HO_3, HB⟩ := hrel
  cases gk with
  | zero => exact absurd HA.out (by simp [impl_numbersTo.l0])
  | succ k1 =>
   have H := HA.out; clear HA; simp only [impl_numbersTo.l0] at H; by_cases c2 : x4_1 < a0
   ·rw [if_pos c2] at H
    have c2b0 : decide (x4_1 < a0) = true := decide_eq_true c2; clear c2; by_cases c3 : x3_1.length < 17592186044416; rotate_left
    ·rw [if_neg c3] at H; exact absurd H (by simp)
    rw [if_pos c3] at H; have LMc3 := aM c3; clear c3; obtain ⟨y365, hy365⟩ : ∃ y_ : List Int, y_ = (x3_1 ++ [x4_1]) := ⟨_, rfl⟩; (replace H : (impl_numbersTo.l0 k1 a0 y365 (wrap64 (x4_1 + 1))) = some r := by first | (rw [hy365]; with_reducible exact H) | (have H2_ := (Option.bind_some _ _).symm.trans H; rw [hy365]; with_reducible exact H2_) | (have H2_ := (Option.bind_some _ _).symm.trans H; with_reducible exact H2_) | with_reducible exact H | (rw [hy365]; exact H) | exact H); have Ny365 := aM hy365; clear hy365; have H' := aM H; clear H; (go_wp2_with (first | ((with_reducible refine gate_builtin (b := .append) (xs := #[.tmp 10, .tmp 12]) rfl ?_); at_builtin; refine Kd.R_append (Kd.int .i64) (w0 := w) w.heap.size rfl (.tmp 10) (.tmp 12) 38 3 (.int .i64 0) 8 rfl Try.underlying38 info3 rfl (by decide) (by omega) u3 x3_1 x4_1 [.int .i64 x4_1] (fun _ => True) (fun _ => False) rfl rfl ?aP (fun _ hk => hk.elim) ?aF ?aO ?aB ?aS ?aL ?_; (case aP => exact rfl); (case aB => exact bB); (case aF => exact (fun _ _ => trivial)); (case aO => exact (by (with_reducible repeat (first | apply Kd.R_alloc | apply Kd.R_drewN | apply Kd.R_drew)); exact HO_3.out)); (case aS => exact (below_size bB)); (case aL => have := LMc3.out; omega); intro v366 w4 ho hb hg hat; rw [← Ny365.out] at ho; have n0_ := aM (hb); have n1_ := aM (ho); clear HB; clear HO_3; have HB := n0_; have HO367 := n1_; clear n0_ n1_; clear ho hb hg hat))); go_roundg k1
    case measure => have := HK1.out; omega
    case rel => exact ⟨(y365), (wrap64 (x4_1 + 1)), sD, H', ⟨by have := HK1.out; omega⟩, ⟨kR⟩, ⟨by repeat (first | (with_reducible first | exact HB.out | apply below_alloc | apply pw_below_drewN | apply below_drew1) | exact HB.out)⟩⟩
   ·rw [if_neg c2] at H
    have c2b0 : decide (x4_1 < a0) = false := decide_eq_false c2; clear c2; obtain rfl := Option.some.inj H; go_wp2; go_ret; (exact ⟨_, by first | rfl | (simp [errW_none, errW_some] <;> rfl) | (simp [*, errW_none, errW_some] <;> rfl), by (with_reducible repeat (first | apply Kd.R_alloc | apply Kd.R_drewN | apply Kd.R_drew)); exact HO_3.out, bB⟩)

end Go.Proofs.Ytlhppclbokkfmaa.OFnExactSplitPlaces
