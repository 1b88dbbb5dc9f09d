/- Functions of the program as plain Lean functions, with their contracts: written by this session's program ownprint.py. Conditions: none. -/
import Derived.Test.YtlhppclbokkfmaaOFnExactSidneyBlocksx0
import Derived.Test.YtlhppclbokkfmaaOFnExactSidneyBlocksx7
import Derived.Test.YtlhppclbokkfmaaOFnExactSidneyBlocksx8
namespace Go.Proofs.Ytlhppclbokkfmaa.OFnExactSidneyBlocks
open Go.RowKit Go.Proofs.YtlhppclbokkfmaaW.PrintWords Go.Proofs.YtlhppclbokkfmaaW.PrintLast Go.Proofs.YtlhppclbokkfmaaW.PrintMore
attribute [local go_sem] max2_int min2_int max_two min_two max_three min_three max_four min_four   -- for this text's walks alone
set_option linter.unusedVariables false
set_option linter.unusedSimpArgs false

/-! ### impl_isNumber: function 91 -/
def impl_isNumber.f (a0 : Int) (a1 : Int) : Option (Bool) := (impl_within.f a0 0 (wrap64 (a1 - 1))).bind fun t282 => (some t282)
set_option maxHeartbeats 8000000 in
set_option maxRecDepth 100000 in
theorem impl_isNumber.calls (a0 : Int) (a1 : Int) (r : Bool) (w : World) (h : impl_isNumber.f a0 a1 = some r) :
  Calls Try.prog 91 #[.int .i64 a0, .int .i64 a1] w fun e w' => e = .returned (.bool r) ∧ Drawn0 w w' := by
 have H : ((impl_within.f a0 0 (wrap64 (a1 - 1))).bind fun t282 => (some t282)) = some r := h
 clear h
 replace H := Option.bind_eq_some_iff.mp H
 obtain ⟨t282, A30, H⟩ := H
 replace H : (some t282) = some r := H
 have A3 := Aside0.mk A30
 clear A30
 obtain rfl := Option.some.inj H
 go_enter Try.func91, Try.ntmps91
 go_wp2_with (first | ((with_reducible refine gate_callee (f := 81) rfl ?_); refine goesL_ (some 8) rfl rfl Try.func81 (by kernel_rfl) rfl #[.int .i64 a0, .int .i64 0, .int .i64 (wrap64 (a1 - 1))] rfl aE ?_; (with_reducible refine (impl_within.calls a0 0 (wrap64 (a1 - 1)) t282 _ A3.out).mono ?_); rintro e w' ⟨rfl, ⟨nd, rfl⟩⟩; refine ⟨_, rfl, ?_⟩))
 go_ret
 exact ⟨by first | rfl | (simp; done) | (simp [*]; done), by repeat (first | exact Drawn0.refl _ | apply Drawn0.step)⟩

/-! ### impl_IsPrecedence: function 64 -/
mutual
def impl_IsPrecedence.j0 : Nat → Int → List (S53) → Bool → Option (Bool)
 | 0, _, _, _ => none
 | k + 1, x0, x1, x16 => if x16 = true then (some false) else (impl_IsPrecedence.l0 k x0 x1 x1 (x1.length : Int) 0)
def impl_IsPrecedence.l0 : Nat → Int → List (S53) → List (S53) → Int → Int → Option (Bool)
 | 0, _, _, _, _, _ => none
 | k + 1, x0, x1, x17, x18, x19 => if x19 < x18 then (if 0 ≤ x19 then (if x19 < (x17.length : Int) then ((impl_isNumber.f ((rd_T53 x17 x19).f0) x0).bind fun t286 => (if t286 = true then ((impl_isNumber.f ((rd_T53 x17 x19).f1) x0).bind fun t287 => (if t287 = true then (impl_IsPrecedence.j2 k x0 x1 x19 x17 x18 x19 (((rd_T53 x17 x19).f0) == ((rd_T53 x17 x19).f1)) ((rd_T53 x17 x19).f0) ((rd_T53 x17 x19).f1)) else (impl_IsPrecedence.j2 k x0 x1 x19 x17 x18 x19 true ((rd_T53 x17 x19).f0) ((rd_T53 x17 x19).f1)))) else (impl_IsPrecedence.j2 k x0 x1 x19 x17 x18 x19 true ((rd_T53 x17 x19).f0) ((rd_T53 x17 x19).f1)))) else (none)) else (none)) else ((impl_closure.f k x0 x1).bind fun t291 => (impl_IsPrecedence.l1 k t291 (t291.length : Int) 0))
def impl_IsPrecedence.j2 : Nat → Int → List (S53) → Int → List (S53) → Int → Int → Bool → Int → Int → Option (Bool)
 | 0, _, _, _, _, _, _, _, _, _ => none
 | k + 1, x0, x1, x5, x17, x18, x19, x42, x286000, x286001 => if x42 = true then (some false) else (if x5 > 0 then (if 0 ≤ (wrap64 (x5 - 1)) then (if (wrap64 (x5 - 1)) < (x1.length : Int) then (if ((rd_T53 x1 (wrap64 (x5 - 1))).f0) > x286000 then (some false) else (if ((rd_T53 x1 (wrap64 (x5 - 1))).f0) = x286000 then (if ((rd_T53 x1 (wrap64 (x5 - 1))).f1) ≥ x286001 then (some false) else (impl_IsPrecedence.l0 k x0 x1 x17 x18 (wrap64 (x19 + 1)))) else (impl_IsPrecedence.l0 k x0 x1 x17 x18 (wrap64 (x19 + 1))))) else (none)) else (none)) else (impl_IsPrecedence.l0 k x0 x1 x17 x18 (wrap64 (x19 + 1))))
def impl_IsPrecedence.l1 : Nat → List (List Bool) → Int → Int → Option (Bool)
 | 0, _, _, _ => none
 | k + 1, x7, x83, x84 => if x84 < x83 then (if 0 ≤ x84 then (if x84 < (x7.length : Int) then (if x84 < ((rd_L5 x7 x84).length : Int) then (if rdOf false (rd_L5 x7 x84) x84 = true then (some false) else (impl_IsPrecedence.l1 k x7 x83 (wrap64 (x84 + 1)))) else (none)) else (none)) else (none)) else (some true)
end
def impl_IsPrecedence.f (k : Nat) (a0 : Int) (l1 : List (S53)) : Option (Bool) := (impl_within.f a0 0 8).bind fun t283 => (if t283 = true then (impl_IsPrecedence.j0 k a0 l1 (decide ((l1.length : Int) > 28))) else (impl_IsPrecedence.j0 k a0 l1 true))
theorem impl_IsPrecedence.mono_l : ∀ k, (∀ y0 y1 y2, LeO (impl_IsPrecedence.j0 k y0 y1 y2) (impl_IsPrecedence.j0 (k + 1) y0 y1 y2)) ∧ (∀ y0 y1 y2 y3 y4, LeO (impl_IsPrecedence.l0 k y0 y1 y2 y3 y4) (impl_IsPrecedence.l0 (k + 1) y0 y1 y2 y3 y4)) ∧ (∀ y0 y1 y2 y3 y4 y5 y6 y7 y8, LeO (impl_IsPrecedence.j2 k y0 y1 y2 y3 y4 y5 y6 y7 y8) (impl_IsPrecedence.j2 (k + 1) y0 y1 y2 y3 y4 y5 y6 y7 y8)) ∧ (∀ y0 y1 y2, LeO (impl_IsPrecedence.l1 k y0 y1 y2) (impl_IsPrecedence.l1 (k + 1) y0 y1 y2))
 | 0 => ⟨fun _ _ _ r h => by simp [impl_IsPrecedence.j0] at h, fun _ _ _ _ _ r h => by simp [impl_IsPrecedence.l0] at h, fun _ _ _ _ _ _ _ _ _ r h => by simp [impl_IsPrecedence.j2] at h, fun _ _ _ r h => by simp [impl_IsPrecedence.l1] at h⟩
 | k + 1 => by
  obtain ⟨ih0, ih1, ih2, ih3⟩ := impl_IsPrecedence.mono_l k
  refine ⟨?_, ?_, ?_, ?_⟩
  ·intro y0 y1 y2
   unfold impl_IsPrecedence.j0
   repeat' first
   | (with_reducible exact ih0 _ _ _)
   | (with_reducible exact ih1 _ _ _ _ _)
   | (with_reducible exact ih2 _ _ _ _ _ _ _ _ _)
   | (with_reducible exact ih3 _ _ _)
   | (with_reducible exact impl_closure.mono _ _ _)
   | (with_reducible exact LeO.refl _)
   | (with_reducible exact LeO.none _)
   | (with_reducible refine LeO.ite ?_ ?_)
   | (with_reducible refine LeO.bind ?_ (fun _ => ?_))
   | exact ih0 _ _ _
   | exact ih1 _ _ _ _ _
   | exact ih2 _ _ _ _ _ _ _ _ _
   | exact ih3 _ _ _
   | exact impl_closure.mono _ _ _
   | exact LeO.none _
   | refine LeO.ite ?_ ?_
   | refine LeO.bind ?_ (fun _ => ?_)
  ·intro y0 y1 y2 y3 y4
   unfold impl_IsPrecedence.l0
   repeat' first
   | (with_reducible exact ih0 _ _ _)
   | (with_reducible exact ih1 _ _ _ _ _)
   | (with_reducible exact ih2 _ _ _ _ _ _ _ _ _)
   | (with_reducible exact ih3 _ _ _)
   | (with_reducible exact impl_closure.mono _ _ _)
   | (with_reducible exact LeO.refl _)
   | (with_reducible exact LeO.none _)
   | (with_reducible refine LeO.ite ?_ ?_)
   | (with_reducible refine LeO.bind ?_ (fun _ => ?_))
   | exact ih0 _ _ _
   | exact ih1 _ _ _ _ _
   | exact ih2 _ _ _ _ _ _ _ _ _
   | exact ih3 _ _ _
   | exact impl_closure.mono _ _ _
   | exact LeO.none _
   | refine LeO.ite ?_ ?_
   | refine LeO.bind ?_ (fun _ => ?_)
  ·intro y0 y1 y2 y3 y4 y5 y6 y7 y8
   unfold impl_IsPrecedence.j2
   repeat' first
   | (with_reducible exact ih0 _ _ _)
   | (with_reducible exact ih1 _ _ _ _ _)
   | (with_reducible exact ih2 _ _ _ _ _ _ _ _ _)
   | (with_reducible exact ih3 _ _ _)
   | (with_reducible exact impl_closure.mono _ _ _)
   | (with_reducible exact LeO.refl _)
   | (with_reducible exact LeO.none _)
   | (with_reducible refine LeO.ite ?_ ?_)
   | (with_reducible refine LeO.bind ?_ (fun _ => ?_))
   | exact ih0 _ _ _
   | exact ih1 _ _ _ _ _
   | exact ih2 _ _ _ _ _ _ _ _ _
   | exact ih3 _ _ _
   | exact impl_closure.mono _ _ _
   | exact LeO.none _
   | refine LeO.ite ?_ ?_
   | refine LeO.bind ?_ (fun _ => ?_)
  ·intro y0 y1 y2
   unfold impl_IsPrecedence.l1
   repeat' first
   | (with_reducible exact ih0 _ _ _)
   | (with_reducible exact ih1 _ _ _ _ _)
   | (with_reducible exact ih2 _ _ _ _ _ _ _ _ _)
   | (with_reducible exact ih3 _ _ _)
   | (with_reducible exact impl_closure.mono _ _ _)
   | (with_reducible exact LeO.refl _)
   | (with_reducible exact LeO.none _)
   | (with_reducible refine LeO.ite ?_ ?_)
   | (with_reducible refine LeO.bind ?_ (fun _ => ?_))
   | exact ih0 _ _ _
   | exact ih1 _ _ _ _ _
   | exact ih2 _ _ _ _ _ _ _ _ _
   | exact ih3 _ _ _
   | exact impl_closure.mono _ _ _
   | exact LeO.none _
   | refine LeO.ite ?_ ?_
   | refine LeO.bind ?_ (fun _ => ?_)
theorem impl_IsPrecedence.mono : ∀ a0 a1 k, LeO (impl_IsPrecedence.f k a0 a1) (impl_IsPrecedence.f (k + 1) a0 a1) := by
 intro a0 a1 k
 obtain ⟨ih0, ih1, ih2, ih3⟩ := impl_IsPrecedence.mono_l k
 unfold impl_IsPrecedence.f
 repeat' first
   | (with_reducible exact ih0 _ _ _)
   | (with_reducible exact ih1 _ _ _ _ _)
   | (with_reducible exact ih2 _ _ _ _ _ _ _ _ _)
   | (with_reducible exact ih3 _ _ _)
   | (with_reducible exact impl_closure.mono _ _ _)
   | (with_reducible exact LeO.refl _)
   | (with_reducible exact LeO.none _)
   | (with_reducible refine LeO.ite ?_ ?_)
   | (with_reducible refine LeO.bind ?_ (fun _ => ?_))
   | exact ih0 _ _ _
   | exact ih1 _ _ _ _ _
   | exact ih2 _ _ _ _ _ _ _ _ _
   | exact ih3 _ _ _
   | exact impl_closure.mono _ _ _
   | exact LeO.none _
   | refine LeO.ite ?_ ?_
   | refine LeO.bind ?_ (fun _ => ?_)
set_option maxHeartbeats 8000000 in
set_option maxRecDepth 100000 in
theorem impl_IsPrecedence.calls (k : Nat) (a0 : Int) (A1 : Option Addr) (c1 : Nat) (l1 : List (S53)) (r : Bool) (w : World) (hr1 : Kd.C k53 w A1 l1.length l1) (hc1 : l1.length ≤ c1) (h : impl_IsPrecedence.f k a0 l1 = some r) :
  Calls Try.prog 64 #[.int .i64 a0, .slice A1 l1.length c1] w fun e w' => e = .returned (.bool r) ∧ Below w.heap.size w w' := by
 have hu53 := Try.underlying53
 have HR1 := Aside0.mk hr1
 have HC1 := Aside0.mk hc1
 clear hr1 hc1
 have HB := Aside0.mk (Below.refl w.heap.size w)
 have H : ((impl_within.f a0 0 8).bind fun t283 => (if t283 = true then (impl_IsPrecedence.j0 k a0 l1 (decide ((l1.length : Int) > 28))) else (impl_IsPrecedence.j0 k a0 l1 true))) = some r := h
 clear h
 have HC3 := Aside0.mk H
 clear H
 go_enter Try.func64, Try.ntmps64
 go_upto_region 1 with (fail)
 repeat (go_quiet (fail); go_upto_region 1 with (fail))
 go_cut [16] (fun v16 wc => ∃ (kq : Nat) (x16_2 : Bool), v16 = .bool x16_2 ∧ Aside0 (impl_IsPrecedence.j0 kq a0 l1 x16_2 = some r) ∧ Aside0 (kq ≤ k) ∧ Aside0 (Below w.heap.size w wc))
 case first =>
  have H := HC3.out
  clear HC3
  replace H := Option.bind_eq_some_iff.mp H
  obtain ⟨t283, A40, H⟩ := H
  replace H : (if t283 = true then (impl_IsPrecedence.j0 k a0 l1 (decide ((l1.length : Int) > 28))) else (impl_IsPrecedence.j0 k a0 l1 true)) = some r := H
  have A4 := Aside0.mk A40
  clear A40
  by_cases c5 : t283 = true
  ·subst c5
   have H1 : (impl_IsPrecedence.j0 k a0 l1 (decide ((l1.length : Int) > 28))) = some r := by rw [if_pos rfl] at H; exact H
   clear H
   have H := H1
   clear H1
   have H' := Aside0.mk H
   clear H
   go_wp2_with (first | (go_at_call 81; (with_reducible refine (impl_within.calls a0 0 8 true _ A4.out).mono ?_); rintro e w' ⟨rfl, ⟨nd, rfl⟩⟩; (try first | exact ⟨rfl, _, World.drewN_drewN _ _ _⟩ | exact ⟨rfl, _, Eq.trans (World.drewN_drewN _ _ _) (congrArg (World.drewN _) (Nat.add_assoc _ _ _))⟩)))
   repeat (go_quiet (first | (go_at_call 81; (with_reducible refine (impl_within.calls a0 0 8 true _ A4.out).mono ?_); rintro e w' ⟨rfl, ⟨nd, rfl⟩⟩; (try first | exact ⟨rfl, _, World.drewN_drewN _ _ _⟩ | exact ⟨rfl, _, Eq.trans (World.drewN_drewN _ _ _) (congrArg (World.drewN _) (Nat.add_assoc _ _ _))⟩))); try go_wp2_with (first | (go_at_call 81; (with_reducible refine (impl_within.calls a0 0 8 true _ A4.out).mono ?_); rintro e w' ⟨rfl, ⟨nd, rfl⟩⟩; (try first | exact ⟨rfl, _, World.drewN_drewN _ _ _⟩ | exact ⟨rfl, _, Eq.trans (World.drewN_drewN _ _ _) (congrArg (World.drewN _) (Nat.add_assoc _ _ _))⟩))))
   go_meet
   case rel => exact ⟨_, (decide ((l1.length : Int) > 28)), sD, H', ⟨by first | omega | exact Nat.le_refl _⟩, ⟨by repeat (first | (with_reducible first | exact HB.out | apply below_alloc | apply pw_below_drewN | apply below_drew1) | exact HB.out)⟩⟩
  ·replace c5 := Bool.eq_false_iff.mpr c5
   subst c5
   have H1 : (impl_IsPrecedence.j0 k a0 l1 true) = some r := by rw [if_neg (show ¬ (false = true) by decide)] at H; exact H
   clear H
   have H := H1
   clear H1
   have H' := Aside0.mk H
   clear H
   go_wp2_with (first | (go_at_call 81; (with_reducible refine (impl_within.calls a0 0 8 false _ A4.out).mono ?_); rintro e w' ⟨rfl, ⟨nd, rfl⟩⟩; (try first | exact ⟨rfl, _, World.drewN_drewN _ _ _⟩ | exact ⟨rfl, _, Eq.trans (World.drewN_drewN _ _ _) (congrArg (World.drewN _) (Nat.add_assoc _ _ _))⟩)))
   repeat (go_quiet (first | (go_at_call 81; (with_reducible refine (impl_within.calls a0 0 8 false _ A4.out).mono ?_); rintro e w' ⟨rfl, ⟨nd, rfl⟩⟩; (try first | exact ⟨rfl, _, World.drewN_drewN _ _ _⟩ | exact ⟨rfl, _, Eq.trans (World.drewN_drewN _ _ _) (congrArg (World.drewN _) (Nat.add_assoc _ _ _))⟩))); try go_wp2_with (first | (go_at_call 81; (with_reducible refine (impl_within.calls a0 0 8 false _ A4.out).mono ?_); rintro e w' ⟨rfl, ⟨nd, rfl⟩⟩; (try first | exact ⟨rfl, _, World.drewN_drewN _ _ _⟩ | exact ⟨rfl, _, Eq.trans (World.drewN_drewN _ _ _) (congrArg (World.drewN _) (Nat.add_assoc _ _ _))⟩))))
   go_meet
   case rel => exact ⟨_, (true), sD, H', ⟨by first | omega | exact Nat.le_refl _⟩, ⟨by repeat (first | (with_reducible first | exact HB.out | apply below_alloc | apply pw_below_drewN | apply below_drew1) | exact HB.out)⟩⟩
 case rest =>
  clear HC3
  try clear c1
  try clear p2
  try clear c5
  obtain ⟨kq, x16_2, rfl, HA, HJ2, HB⟩ := hcut
  cases kq with
  | zero => exact absurd HA.out (by simp [impl_IsPrecedence.j0])
  | succ kj2 =>
   have H := HA.out
   clear HA
   simp only [impl_IsPrecedence.j0] at H
   by_cases c6 : x16_2 = true
   ·subst c6
    have H1 : (some false) = some r := by rw [if_pos rfl] at H; exact H
    clear H
    have H := H1
    clear H1
    obtain rfl := Option.some.inj H
    go_wp2
    repeat (go_quiet (fail); try go_wp2)
    go_ret
    exact ⟨rE, bB⟩
   ·replace c6 := Bool.eq_false_iff.mpr c6
    subst c6
    have H1 : (impl_IsPrecedence.l0 kj2 a0 l1 l1 (l1.length : Int) 0) = some r := by rw [if_neg (show ¬ (false = true) by decide)] at H; exact H
    clear H
    have H := H1
    clear H1
    have H' := Aside0.mk H
    clear H
    go_wp2
    repeat (go_quiet (fail); try go_wp2)
    go_loopg [19] kj2 (fun kq v19 w' => ∃ (x19_2 : Int), v19 = .int .i64 x19_2 ∧ Aside0 (impl_IsPrecedence.l0 kq a0 l1 l1 (l1.length : Int) x19_2 = some r) ∧ Aside0 (kq ≤ kj2) ∧ Aside0 (Below w.heap.size w w'))
    case atStart => exact ⟨(0), sD, H', ⟨Nat.le_refl _⟩, ⟨by repeat (first | (with_reducible first | exact HB.out | apply below_alloc | apply pw_below_drewN | apply below_drew1) | exact HB.out)⟩⟩
    case round =>
     clear H'
     try clear c1
     try clear p2
     try clear c5
     try clear c6
     try clear p2
     obtain ⟨x19_2, rfl, HA, HK2, HB⟩ := hrel
     cases gk with
     | zero => exact absurd HA.out (by simp [impl_IsPrecedence.l0])
     | succ k2 =>
      have H := HA.out
      clear HA
      simp only [impl_IsPrecedence.l0] at H
      by_cases c7 : x19_2 < (l1.length : Int)
      ·rw [if_pos c7] at H
       have c7b0 : decide (x19_2 < (l1.length : Int)) = true := decide_eq_true c7
       clear c7
       by_cases c8 : 0 ≤ x19_2; rotate_left
       ·rw [if_neg c8] at H; exact absurd H (by simp)
       rw [if_pos c8] at H
       have c8b0 : decide (0 ≤ x19_2) = true := decide_eq_true c8
       clear c8
       by_cases c9 : x19_2 < (l1.length : Int); rotate_left
       ·rw [if_neg c9] at H; exact absurd H (by simp)
       rw [if_pos c9] at H
       have c9b0 : decide (x19_2 < (l1.length : Int)) = true := decide_eq_true c9
       clear c9
       have HC10 := Aside0.mk H
       clear H
       have p284 : 0 ≤ (x19_2 : Int) := oD
       have q284 : x19_2 < (l1.length : Int) := oD
       obtain ⟨ad284, e284, hx284_0, hx284_1⟩ := at_T53 HR1.out x19_2 p284 q284
       cases e284
       replace hx284_0 := (cB HB.out hx284_0 :)
       replace hx284_1 := (cB HB.out hx284_1 :)
       replace p284 := eq_true p284
       replace q284 := eq_true q284
       go_upto_region 6 with (first | ((with_reducible refine gate_dst (N := 6) rfl ?_); (try (refine gate_guard (by rfl) ?_; dsimp only)); refine bE 6 #[.int .i64 0, .int .i64 0] 53 ?_; intro gb285 hg w11 hbox hb; have n0_ := Aside0.mk (below_step bB hb); have n1_ := Aside0.mk (hbox); have n2_ := Aside0.mk ((by rw [hg]; exact (below_size bB) : w.heap.size ≤ gb285)); have n3_ := Aside0.mk ((by rw [hg]; exact (below_size bB) : w.heap.size ≤ gb285)); clear HB; have HB := n0_; have BK285 := n1_; have GW285 := n2_; have GE285 := n3_; clear n0_ n1_ n2_ n3_; clear hb hbox hg; have hcz12_0 := (blk_cell BK285.out 0).trans (show _ = some ((.int .i64 0) : Value) from rfl); have hcz12_1 := (blk_cell BK285.out 1).trans (show _ = some ((.int .i64 0) : Value) from rfl); have hfz12_0 := blk_frozen BK285.out 0; have hfz12_1 := blk_frozen BK285.out 1))
       repeat (go_quiet (first | ((with_reducible refine gate_dst (N := 6) rfl ?_); (try (refine gate_guard (by rfl) ?_; dsimp only)); refine bE 6 #[.int .i64 0, .int .i64 0] 53 ?_; intro gb285 hg w11 hbox hb; have n0_ := Aside0.mk (below_step bB hb); have n1_ := Aside0.mk (hbox); have n2_ := Aside0.mk ((by rw [hg]; exact (below_size bB) : w.heap.size ≤ gb285)); have n3_ := Aside0.mk ((by rw [hg]; exact (below_size bB) : w.heap.size ≤ gb285)); clear HB; have HB := n0_; have BK285 := n1_; have GW285 := n2_; have GE285 := n3_; clear n0_ n1_ n2_ n3_; clear hb hbox hg; have hcz12_0 := (blk_cell BK285.out 0).trans (show _ = some ((.int .i64 0) : Value) from rfl); have hcz12_1 := (blk_cell BK285.out 1).trans (show _ = some ((.int .i64 0) : Value) from rfl); have hfz12_0 := blk_frozen BK285.out 0; have hfz12_1 := blk_frozen BK285.out 1)); go_upto_region 6 with (first | ((with_reducible refine gate_dst (N := 6) rfl ?_); (try (refine gate_guard (by rfl) ?_; dsimp only)); refine bE 6 #[.int .i64 0, .int .i64 0] 53 ?_; intro gb285 hg w11 hbox hb; have n0_ := Aside0.mk (below_step bB hb); have n1_ := Aside0.mk (hbox); have n2_ := Aside0.mk ((by rw [hg]; exact (below_size bB) : w.heap.size ≤ gb285)); have n3_ := Aside0.mk ((by rw [hg]; exact (below_size bB) : w.heap.size ≤ gb285)); clear HB; have HB := n0_; have BK285 := n1_; have GW285 := n2_; have GE285 := n3_; clear n0_ n1_ n2_ n3_; clear hb hbox hg; have hcz12_0 := (blk_cell BK285.out 0).trans (show _ = some ((.int .i64 0) : Value) from rfl); have hcz12_1 := (blk_cell BK285.out 1).trans (show _ = some ((.int .i64 0) : Value) from rfl); have hfz12_0 := blk_frozen BK285.out 0; have hfz12_1 := blk_frozen BK285.out 1)))
       (try simp only [Act.put, sA, sZ, sS])
       go_cut [42] (fun v42 wc => ∃ (kq : Nat) (x42_9 : Bool), v42 = .bool x42_9 ∧ Aside0 (impl_IsPrecedence.j2 kq a0 l1 x19_2 l1 (l1.length : Int) x19_2 x42_9 ((rd_T53 l1 x19_2).f0) ((rd_T53 l1 x19_2).f1) = some r) ∧ Aside0 (kq ≤ k2) ∧ Aside0 (wc.heap[gb285]? = some (.cells #[.int .i64 ((rd_T53 l1 x19_2).f0), .int .i64 ((rd_T53 l1 x19_2).f1)] 53 (0, 0))) ∧ Aside0 (Below w.heap.size w wc))
       case first =>
        have H := HC10.out
        clear HC10
        replace H := Option.bind_eq_some_iff.mp H
        obtain ⟨t286, A130, H⟩ := H
        replace H : (if t286 = true then ((impl_isNumber.f ((rd_T53 l1 x19_2).f1) a0).bind fun t287 => (if t287 = true then (impl_IsPrecedence.j2 k2 a0 l1 x19_2 l1 (l1.length : Int) x19_2 (((rd_T53 l1 x19_2).f0) == ((rd_T53 l1 x19_2).f1)) ((rd_T53 l1 x19_2).f0) ((rd_T53 l1 x19_2).f1)) else (impl_IsPrecedence.j2 k2 a0 l1 x19_2 l1 (l1.length : Int) x19_2 true ((rd_T53 l1 x19_2).f0) ((rd_T53 l1 x19_2).f1)))) else (impl_IsPrecedence.j2 k2 a0 l1 x19_2 l1 (l1.length : Int) x19_2 true ((rd_T53 l1 x19_2).f0) ((rd_T53 l1 x19_2).f1))) = some r := H
        have A13 := Aside0.mk A130
        clear A130
        by_cases c14 : t286 = true
        ·subst c14
         have H1 : ((impl_isNumber.f ((rd_T53 l1 x19_2).f1) a0).bind fun t287 => (if t287 = true then (impl_IsPrecedence.j2 k2 a0 l1 x19_2 l1 (l1.length : Int) x19_2 (((rd_T53 l1 x19_2).f0) == ((rd_T53 l1 x19_2).f1)) ((rd_T53 l1 x19_2).f0) ((rd_T53 l1 x19_2).f1)) else (impl_IsPrecedence.j2 k2 a0 l1 x19_2 l1 (l1.length : Int) x19_2 true ((rd_T53 l1 x19_2).f0) ((rd_T53 l1 x19_2).f1)))) = some r := by rw [if_pos rfl] at H; exact H
         clear H
         have H := H1
         clear H1
         replace H := Option.bind_eq_some_iff.mp H
         obtain ⟨t287, A150, H⟩ := H
         replace H : (if t287 = true then (impl_IsPrecedence.j2 k2 a0 l1 x19_2 l1 (l1.length : Int) x19_2 (((rd_T53 l1 x19_2).f0) == ((rd_T53 l1 x19_2).f1)) ((rd_T53 l1 x19_2).f0) ((rd_T53 l1 x19_2).f1)) else (impl_IsPrecedence.j2 k2 a0 l1 x19_2 l1 (l1.length : Int) x19_2 true ((rd_T53 l1 x19_2).f0) ((rd_T53 l1 x19_2).f1))) = some r := H
         have A15 := Aside0.mk A150
         clear A150
         by_cases c16 : t287 = true
         ·subst c16
          have H1 : (impl_IsPrecedence.j2 k2 a0 l1 x19_2 l1 (l1.length : Int) x19_2 (((rd_T53 l1 x19_2).f0) == ((rd_T53 l1 x19_2).f1)) ((rd_T53 l1 x19_2).f0) ((rd_T53 l1 x19_2).f1)) = some r := by rw [if_pos rfl] at H; exact H
          clear H
          have H := H1
          clear H1
          have H' := Aside0.mk H
          clear H
          have hcz17_0 := (blk_cell BK285.out 0).trans (show _ = some ((.int .i64 0) : Value) from rfl)
          have hcz17_1 := (blk_cell BK285.out 1).trans (show _ = some ((.int .i64 0) : Value) from rfl)
          have hfz17_0 := blk_frozen BK285.out 0
          have hfz17_1 := blk_frozen BK285.out 1
          go_wp2_with (first | (go_at_call 91; (with_reducible refine (impl_isNumber.calls ((rd_T53 l1 x19_2).f0) a0 true _ A13.out).mono ?_); rintro e w' ⟨rfl, ⟨nd, rfl⟩⟩; (try first | exact ⟨rfl, _, World.drewN_drewN _ _ _⟩ | exact ⟨rfl, _, Eq.trans (World.drewN_drewN _ _ _) (congrArg (World.drewN _) (Nat.add_assoc _ _ _))⟩)) | (go_at_call 91; (with_reducible refine (impl_isNumber.calls ((rd_T53 l1 x19_2).f1) a0 true _ A15.out).mono ?_); rintro e w' ⟨rfl, ⟨nd, rfl⟩⟩; (try first | exact ⟨rfl, _, World.drewN_drewN _ _ _⟩ | exact ⟨rfl, _, Eq.trans (World.drewN_drewN _ _ _) (congrArg (World.drewN _) (Nat.add_assoc _ _ _))⟩)))
          repeat (go_quiet (first | (go_at_call 91; (with_reducible refine (impl_isNumber.calls ((rd_T53 l1 x19_2).f0) a0 true _ A13.out).mono ?_); rintro e w' ⟨rfl, ⟨nd, rfl⟩⟩; (try first | exact ⟨rfl, _, World.drewN_drewN _ _ _⟩ | exact ⟨rfl, _, Eq.trans (World.drewN_drewN _ _ _) (congrArg (World.drewN _) (Nat.add_assoc _ _ _))⟩)) | (go_at_call 91; (with_reducible refine (impl_isNumber.calls ((rd_T53 l1 x19_2).f1) a0 true _ A15.out).mono ?_); rintro e w' ⟨rfl, ⟨nd, rfl⟩⟩; (try first | exact ⟨rfl, _, World.drewN_drewN _ _ _⟩ | exact ⟨rfl, _, Eq.trans (World.drewN_drewN _ _ _) (congrArg (World.drewN _) (Nat.add_assoc _ _ _))⟩))); try go_wp2_with (first | (go_at_call 91; (with_reducible refine (impl_isNumber.calls ((rd_T53 l1 x19_2).f0) a0 true _ A13.out).mono ?_); rintro e w' ⟨rfl, ⟨nd, rfl⟩⟩; (try first | exact ⟨rfl, _, World.drewN_drewN _ _ _⟩ | exact ⟨rfl, _, Eq.trans (World.drewN_drewN _ _ _) (congrArg (World.drewN _) (Nat.add_assoc _ _ _))⟩)) | (go_at_call 91; (with_reducible refine (impl_isNumber.calls ((rd_T53 l1 x19_2).f1) a0 true _ A15.out).mono ?_); rintro e w' ⟨rfl, ⟨nd, rfl⟩⟩; (try first | exact ⟨rfl, _, World.drewN_drewN _ _ _⟩ | exact ⟨rfl, _, Eq.trans (World.drewN_drewN _ _ _) (congrArg (World.drewN _) (Nat.add_assoc _ _ _))⟩))))
          go_meet
          case rel => exact ⟨_, ((((rd_T53 l1 x19_2).f0) == ((rd_T53 l1 x19_2).f1))), sD, H', ⟨by have := HJ2.out; have := HK2.out; first | omega | exact Nat.le_refl _⟩, ⟨by (with_reducible repeat (first | refine blk_drewN ?_ _ | refine blk_drew ?_ | refine blk_alloc ?_ _)); refine blk_put (cs := #[.int .i64 ((rd_T53 l1 x19_2).f0), .int .i64 0]) ?_ 1 _ rfl; (with_reducible repeat (first | refine blk_drewN ?_ _ | refine blk_drew ?_ | refine blk_alloc ?_ _)); refine blk_put (cs := #[.int .i64 0, .int .i64 0]) ?_ 0 _ rfl; (with_reducible repeat (first | refine blk_drewN ?_ _ | refine blk_drew ?_ | refine blk_alloc ?_ _)); exact BK285.out⟩, ⟨by repeat (first | (with_reducible first | exact HB.out | apply below_alloc | apply pw_below_drewN | apply below_drew1 | refine below_set ?_ GE285.out) | exact HB.out)⟩⟩
         ·replace c16 := Bool.eq_false_iff.mpr c16
          subst c16
          have H1 : (impl_IsPrecedence.j2 k2 a0 l1 x19_2 l1 (l1.length : Int) x19_2 true ((rd_T53 l1 x19_2).f0) ((rd_T53 l1 x19_2).f1)) = some r := by rw [if_neg (show ¬ (false = true) by decide)] at H; exact H
          clear H
          have H := H1
          clear H1
          have H' := Aside0.mk H
          clear H
          have hcz18_0 := (blk_cell BK285.out 0).trans (show _ = some ((.int .i64 0) : Value) from rfl)
          have hcz18_1 := (blk_cell BK285.out 1).trans (show _ = some ((.int .i64 0) : Value) from rfl)
          have hfz18_0 := blk_frozen BK285.out 0
          have hfz18_1 := blk_frozen BK285.out 1
          go_wp2_with (first | (go_at_call 91; (with_reducible refine (impl_isNumber.calls ((rd_T53 l1 x19_2).f0) a0 true _ A13.out).mono ?_); rintro e w' ⟨rfl, ⟨nd, rfl⟩⟩; (try first | exact ⟨rfl, _, World.drewN_drewN _ _ _⟩ | exact ⟨rfl, _, Eq.trans (World.drewN_drewN _ _ _) (congrArg (World.drewN _) (Nat.add_assoc _ _ _))⟩)) | (go_at_call 91; (with_reducible refine (impl_isNumber.calls ((rd_T53 l1 x19_2).f1) a0 false _ A15.out).mono ?_); rintro e w' ⟨rfl, ⟨nd, rfl⟩⟩; (try first | exact ⟨rfl, _, World.drewN_drewN _ _ _⟩ | exact ⟨rfl, _, Eq.trans (World.drewN_drewN _ _ _) (congrArg (World.drewN _) (Nat.add_assoc _ _ _))⟩)))
          repeat (go_quiet (first | (go_at_call 91; (with_reducible refine (impl_isNumber.calls ((rd_T53 l1 x19_2).f0) a0 true _ A13.out).mono ?_); rintro e w' ⟨rfl, ⟨nd, rfl⟩⟩; (try first | exact ⟨rfl, _, World.drewN_drewN _ _ _⟩ | exact ⟨rfl, _, Eq.trans (World.drewN_drewN _ _ _) (congrArg (World.drewN _) (Nat.add_assoc _ _ _))⟩)) | (go_at_call 91; (with_reducible refine (impl_isNumber.calls ((rd_T53 l1 x19_2).f1) a0 false _ A15.out).mono ?_); rintro e w' ⟨rfl, ⟨nd, rfl⟩⟩; (try first | exact ⟨rfl, _, World.drewN_drewN _ _ _⟩ | exact ⟨rfl, _, Eq.trans (World.drewN_drewN _ _ _) (congrArg (World.drewN _) (Nat.add_assoc _ _ _))⟩))); try go_wp2_with (first | (go_at_call 91; (with_reducible refine (impl_isNumber.calls ((rd_T53 l1 x19_2).f0) a0 true _ A13.out).mono ?_); rintro e w' ⟨rfl, ⟨nd, rfl⟩⟩; (try first | exact ⟨rfl, _, World.drewN_drewN _ _ _⟩ | exact ⟨rfl, _, Eq.trans (World.drewN_drewN _ _ _) (congrArg (World.drewN _) (Nat.add_assoc _ _ _))⟩)) | (go_at_call 91; (with_reducible refine (impl_isNumber.calls ((rd_T53 l1 x19_2).f1) a0 false _ A15.out).mono ?_); rintro e w' ⟨rfl, ⟨nd, rfl⟩⟩; (try first | exact ⟨rfl, _, World.drewN_drewN _ _ _⟩ | exact ⟨rfl, _, Eq.trans (World.drewN_drewN _ _ _) (congrArg (World.drewN _) (Nat.add_assoc _ _ _))⟩))))
          go_meet
          case rel => exact ⟨_, (true), sD, H', ⟨by have := HJ2.out; have := HK2.out; first | omega | exact Nat.le_refl _⟩, ⟨by (with_reducible repeat (first | refine blk_drewN ?_ _ | refine blk_drew ?_ | refine blk_alloc ?_ _)); refine blk_put (cs := #[.int .i64 ((rd_T53 l1 x19_2).f0), .int .i64 0]) ?_ 1 _ rfl; (with_reducible repeat (first | refine blk_drewN ?_ _ | refine blk_drew ?_ | refine blk_alloc ?_ _)); refine blk_put (cs := #[.int .i64 0, .int .i64 0]) ?_ 0 _ rfl; (with_reducible repeat (first | refine blk_drewN ?_ _ | refine blk_drew ?_ | refine blk_alloc ?_ _)); exact BK285.out⟩, ⟨by repeat (first | (with_reducible first | exact HB.out | apply below_alloc | apply pw_below_drewN | apply below_drew1 | refine below_set ?_ GE285.out) | exact HB.out)⟩⟩
        ·replace c14 := Bool.eq_false_iff.mpr c14
         subst c14
         have H1 : (impl_IsPrecedence.j2 k2 a0 l1 x19_2 l1 (l1.length : Int) x19_2 true ((rd_T53 l1 x19_2).f0) ((rd_T53 l1 x19_2).f1)) = some r := by rw [if_neg (show ¬ (false = true) by decide)] at H; exact H
         clear H
         have H := H1
         clear H1
         have H' := Aside0.mk H
         clear H
         have hcz19_0 := (blk_cell BK285.out 0).trans (show _ = some ((.int .i64 0) : Value) from rfl)
         have hcz19_1 := (blk_cell BK285.out 1).trans (show _ = some ((.int .i64 0) : Value) from rfl)
         have hfz19_0 := blk_frozen BK285.out 0
         have hfz19_1 := blk_frozen BK285.out 1
         go_wp2_with (first | (go_at_call 91; (with_reducible refine (impl_isNumber.calls ((rd_T53 l1 x19_2).f0) a0 false _ A13.out).mono ?_); rintro e w' ⟨rfl, ⟨nd, rfl⟩⟩; (try first | exact ⟨rfl, _, World.drewN_drewN _ _ _⟩ | exact ⟨rfl, _, Eq.trans (World.drewN_drewN _ _ _) (congrArg (World.drewN _) (Nat.add_assoc _ _ _))⟩)))
         repeat (go_quiet (first | (go_at_call 91; (with_reducible refine (impl_isNumber.calls ((rd_T53 l1 x19_2).f0) a0 false _ A13.out).mono ?_); rintro e w' ⟨rfl, ⟨nd, rfl⟩⟩; (try first | exact ⟨rfl, _, World.drewN_drewN _ _ _⟩ | exact ⟨rfl, _, Eq.trans (World.drewN_drewN _ _ _) (congrArg (World.drewN _) (Nat.add_assoc _ _ _))⟩))); try go_wp2_with (first | (go_at_call 91; (with_reducible refine (impl_isNumber.calls ((rd_T53 l1 x19_2).f0) a0 false _ A13.out).mono ?_); rintro e w' ⟨rfl, ⟨nd, rfl⟩⟩; (try first | exact ⟨rfl, _, World.drewN_drewN _ _ _⟩ | exact ⟨rfl, _, Eq.trans (World.drewN_drewN _ _ _) (congrArg (World.drewN _) (Nat.add_assoc _ _ _))⟩))))
         go_meet
         case rel => exact ⟨_, (true), sD, H', ⟨by have := HJ2.out; have := HK2.out; first | omega | exact Nat.le_refl _⟩, ⟨by (with_reducible repeat (first | refine blk_drewN ?_ _ | refine blk_drew ?_ | refine blk_alloc ?_ _)); refine blk_put (cs := #[.int .i64 ((rd_T53 l1 x19_2).f0), .int .i64 0]) ?_ 1 _ rfl; (with_reducible repeat (first | refine blk_drewN ?_ _ | refine blk_drew ?_ | refine blk_alloc ?_ _)); refine blk_put (cs := #[.int .i64 0, .int .i64 0]) ?_ 0 _ rfl; (with_reducible repeat (first | refine blk_drewN ?_ _ | refine blk_drew ?_ | refine blk_alloc ?_ _)); exact BK285.out⟩, ⟨by repeat (first | (with_reducible first | exact HB.out | apply below_alloc | apply pw_below_drewN | apply below_drew1 | refine below_set ?_ GE285.out) | exact HB.out)⟩⟩
       case rest =>
        clear HC10
        try clear c1
        try clear p2
        try clear q2
        try clear hx2
        try clear c5
        try clear c6
        try clear c7
        try clear c7b0
        try clear c8
        try clear c8b0
        try clear c9
        try clear c9b0
        try clear c14
        try clear c16
        try clear hcz12_0
        try clear hcz12_1
        try clear hcz17_0
        try clear hcz17_1
        try clear hcz18_0
        try clear hcz18_1
        try clear hcz19_0
        try clear hcz19_1
        try clear hfz12_0
        try clear hfz12_1
        try clear hfz17_0
        try clear hfz17_1
        try clear hfz18_0
        try clear hfz18_1
        try clear hfz19_0
        try clear hfz19_1
        try clear hx284_0
        try clear hx284_1
        try clear p2
        try clear p284
        try clear q284
        obtain ⟨kq, x42_9, rfl, HA, HJ9, BK285, HB⟩ := hcut
        cases kq with
        | zero => exact absurd HA.out (by simp [impl_IsPrecedence.j2])
        | succ kj9 =>
         have H := HA.out
         clear HA
         simp only [impl_IsPrecedence.j2] at H
         by_cases c20 : x42_9 = true
         ·subst c20
          have H1 : (some false) = some r := by rw [if_pos rfl] at H; exact H
          clear H
          have H := H1
          clear H1
          obtain rfl := Option.some.inj H
          go_wp2
          repeat (go_quiet (fail); try go_wp2)
          go_ret
          exact ⟨rE, bS⟩
         ·replace c20 := Bool.eq_false_iff.mpr c20
          subst c20
          have H1 : (if x19_2 > 0 then (if 0 ≤ (wrap64 (x19_2 - 1)) then (if (wrap64 (x19_2 - 1)) < (l1.length : Int) then (if ((rd_T53 l1 (wrap64 (x19_2 - 1))).f0) > ((rd_T53 l1 x19_2).f0) then (some false) else (if ((rd_T53 l1 (wrap64 (x19_2 - 1))).f0) = ((rd_T53 l1 x19_2).f0) then (if ((rd_T53 l1 (wrap64 (x19_2 - 1))).f1) ≥ ((rd_T53 l1 x19_2).f1) then (some false) else (impl_IsPrecedence.l0 kj9 a0 l1 l1 (l1.length : Int) (wrap64 (x19_2 + 1)))) else (impl_IsPrecedence.l0 kj9 a0 l1 l1 (l1.length : Int) (wrap64 (x19_2 + 1))))) else (none)) else (none)) else (impl_IsPrecedence.l0 kj9 a0 l1 l1 (l1.length : Int) (wrap64 (x19_2 + 1)))) = some r := by rw [if_neg (show ¬ (false = true) by decide)] at H; exact H
          clear H
          have H := H1
          clear H1
          by_cases c21 : x19_2 > 0
          ·rw [if_pos c21] at H
           have c21b0 : decide (0 < x19_2) = true := decide_eq_true c21
           clear c21
           obtain ⟨ji22, hji22⟩ : ∃ j_ : Int, (wrap64 (x19_2 - 1)) = j_ := ⟨_, rfl⟩
           replace H : (if 0 ≤ (ji22) then (if (ji22) < (l1.length : Int) then (if ((rd_T53 l1 (ji22)).f0) > ((rd_T53 l1 x19_2).f0) then (some false) else (if ((rd_T53 l1 (ji22)).f0) = ((rd_T53 l1 x19_2).f0) then (if ((rd_T53 l1 (ji22)).f1) ≥ ((rd_T53 l1 x19_2).f1) then (some false) else (impl_IsPrecedence.l0 kj9 a0 l1 l1 (l1.length : Int) (wrap64 (x19_2 + 1)))) else (impl_IsPrecedence.l0 kj9 a0 l1 l1 (l1.length : Int) (wrap64 (x19_2 + 1))))) else (none)) else (none)) = some r := by first | (rw [hji22] at H; exact H) | (simp only [hji22] at H ⊢; exact H)
           have hji22w : (IntKind.i64.wrap (x19_2 - 1)) = ji22 := (i64_w _).trans hji22
           by_cases c23 : 0 ≤ (ji22); rotate_left
           ·rw [if_neg c23] at H; exact absurd H (by simp)
           rw [if_pos c23] at H
           have c23b0 : decide (0 ≤ (ji22)) = true := decide_eq_true c23
           clear c23
           by_cases c24 : (ji22) < (l1.length : Int); rotate_left
           ·rw [if_neg c24] at H; exact absurd H (by simp)
           rw [if_pos c24] at H
           have c24b0 : decide ((ji22) < (l1.length : Int)) = true := decide_eq_true c24
           clear c24
           by_cases c25 : ((rd_T53 l1 (ji22)).f0) > ((rd_T53 l1 x19_2).f0)
           ·rw [if_pos c25] at H
            have c25b0 : decide (((rd_T53 l1 x19_2).f0) < ((rd_T53 l1 (ji22)).f0)) = true := decide_eq_true c25
            clear c25
            obtain rfl := Option.some.inj H
            have p288 : 0 ≤ ((ji22) : Int) := oD
            have q288 : (ji22) < (l1.length : Int) := oD
            obtain ⟨ad288, e288, hx288_0, hx288_1⟩ := at_T53 HR1.out (ji22) p288 q288
            obtain rfl : ad284 = ad288 := (by injection e288)
            replace hx288_0 := (cB HB.out hx288_0 :)
            replace hx288_1 := (cB HB.out hx288_1 :)
            replace p288 := eq_true p288
            replace q288 := eq_true q288
            have hcz26_0 := (blk_cell BK285.out 0).trans (show _ = some ((.int .i64 ((rd_T53 l1 x19_2).f0)) : Value) from rfl)
            have hcz26_1 := (blk_cell BK285.out 1).trans (show _ = some ((.int .i64 ((rd_T53 l1 x19_2).f1)) : Value) from rfl)
            have hfz26_0 := blk_frozen BK285.out 0
            have hfz26_1 := blk_frozen BK285.out 1
            go_wp2
            repeat (go_quiet (fail); try go_wp2)
            go_ret
            exact ⟨by first | rfl | (simp [errW_none, errW_some] <;> rfl) | (simp only [← hji22]; first | rfl | (simp [errW_none, errW_some] <;> rfl)) | (simp [*, errW_none, errW_some] <;> rfl), bS⟩
           ·rw [if_neg c25] at H
            have c25b0 : decide (((rd_T53 l1 x19_2).f0) < ((rd_T53 l1 (ji22)).f0)) = false := decide_eq_false c25
            clear c25
            by_cases c27 : ((rd_T53 l1 (ji22)).f0) = ((rd_T53 l1 x19_2).f0)
            ·rw [if_pos c27] at H
             have c27b0 : (((rd_T53 l1 (ji22)).f0) == ((rd_T53 l1 x19_2).f0)) = true := beq_iff_eq.mpr c27
             have c27b1 : (((rd_T53 l1 (ji22)).f0) != ((rd_T53 l1 x19_2).f0)) = false := bne_eq_false_iff_eq.mpr c27
             clear c27
             by_cases c28 : ((rd_T53 l1 (ji22)).f1) ≥ ((rd_T53 l1 x19_2).f1)
             ·rw [if_pos c28] at H
              have c28b0 : decide (((rd_T53 l1 x19_2).f1) ≤ ((rd_T53 l1 (ji22)).f1)) = true := decide_eq_true c28
              clear c28
              obtain rfl := Option.some.inj H
              have p288 : 0 ≤ ((ji22) : Int) := oD
              have q288 : (ji22) < (l1.length : Int) := oD
              obtain ⟨ad288, e288, hx288_0, hx288_1⟩ := at_T53 HR1.out (ji22) p288 q288
              obtain rfl : ad284 = ad288 := (by injection e288)
              replace hx288_0 := (cB HB.out hx288_0 :)
              replace hx288_1 := (cB HB.out hx288_1 :)
              replace p288 := eq_true p288
              replace q288 := eq_true q288
              have hcz29_0 := (blk_cell BK285.out 0).trans (show _ = some ((.int .i64 ((rd_T53 l1 x19_2).f0)) : Value) from rfl)
              have hcz29_1 := (blk_cell BK285.out 1).trans (show _ = some ((.int .i64 ((rd_T53 l1 x19_2).f1)) : Value) from rfl)
              have hfz29_0 := blk_frozen BK285.out 0
              have hfz29_1 := blk_frozen BK285.out 1
              have p289 : 0 ≤ ((ji22) : Int) := oD
              have q289 : (ji22) < (l1.length : Int) := oD
              obtain ⟨ad289, e289, hx289_0, hx289_1⟩ := at_T53 HR1.out (ji22) p289 q289
              obtain rfl : ad284 = ad289 := (by injection e289)
              replace hx289_0 := (cB HB.out hx289_0 :)
              replace hx289_1 := (cB HB.out hx289_1 :)
              replace p289 := eq_true p289
              replace q289 := eq_true q289
              have p290 : 0 ≤ ((ji22) : Int) := oD
              have q290 : (ji22) < (l1.length : Int) := oD
              obtain ⟨ad290, e290, hx290_0, hx290_1⟩ := at_T53 HR1.out (ji22) p290 q290
              obtain rfl : ad284 = ad290 := (by injection e290)
              replace hx290_0 := (cB HB.out hx290_0 :)
              replace hx290_1 := (cB HB.out hx290_1 :)
              replace p290 := eq_true p290
              replace q290 := eq_true q290
              go_wp2
              repeat (go_quiet (fail); try go_wp2)
              go_ret
              exact ⟨by first | rfl | (simp [errW_none, errW_some] <;> rfl) | (simp only [← hji22]; first | rfl | (simp [errW_none, errW_some] <;> rfl)) | (simp [*, errW_none, errW_some] <;> rfl), bS⟩
             ·rw [if_neg c28] at H
              have c28b0 : decide (((rd_T53 l1 x19_2).f1) ≤ ((rd_T53 l1 (ji22)).f1)) = false := decide_eq_false c28
              clear c28
              have H' := Aside0.mk H
              clear H
              have p288 : 0 ≤ ((ji22) : Int) := oD
              have q288 : (ji22) < (l1.length : Int) := oD
              obtain ⟨ad288, e288, hx288_0, hx288_1⟩ := at_T53 HR1.out (ji22) p288 q288
              obtain rfl : ad284 = ad288 := (by injection e288)
              replace hx288_0 := (cB HB.out hx288_0 :)
              replace hx288_1 := (cB HB.out hx288_1 :)
              replace p288 := eq_true p288
              replace q288 := eq_true q288
              have hcz30_0 := (blk_cell BK285.out 0).trans (show _ = some ((.int .i64 ((rd_T53 l1 x19_2).f0)) : Value) from rfl)
              have hcz30_1 := (blk_cell BK285.out 1).trans (show _ = some ((.int .i64 ((rd_T53 l1 x19_2).f1)) : Value) from rfl)
              have hfz30_0 := blk_frozen BK285.out 0
              have hfz30_1 := blk_frozen BK285.out 1
              have p289 : 0 ≤ ((ji22) : Int) := oD
              have q289 : (ji22) < (l1.length : Int) := oD
              obtain ⟨ad289, e289, hx289_0, hx289_1⟩ := at_T53 HR1.out (ji22) p289 q289
              obtain rfl : ad284 = ad289 := (by injection e289)
              replace hx289_0 := (cB HB.out hx289_0 :)
              replace hx289_1 := (cB HB.out hx289_1 :)
              replace p289 := eq_true p289
              replace q289 := eq_true q289
              have p290 : 0 ≤ ((ji22) : Int) := oD
              have q290 : (ji22) < (l1.length : Int) := oD
              obtain ⟨ad290, e290, hx290_0, hx290_1⟩ := at_T53 HR1.out (ji22) p290 q290
              obtain rfl : ad284 = ad290 := (by injection e290)
              replace hx290_0 := (cB HB.out hx290_0 :)
              replace hx290_1 := (cB HB.out hx290_1 :)
              replace p290 := eq_true p290
              replace q290 := eq_true q290
              go_wp2
              repeat (go_quiet (fail); try go_wp2)
              go_roundg kj9
              case measure => have := HJ2.out; have := HK2.out; have := HJ9.out; omega
              case rel => exact ⟨(wrap64 (x19_2 + 1)), sD, H', ⟨by have := HJ2.out; have := HK2.out; have := HJ9.out; omega⟩, ⟨by repeat (first | (with_reducible first | exact HB.out | apply below_alloc | apply pw_below_drewN | apply below_drew1 | refine below_set ?_ GE285.out) | exact HB.out)⟩⟩
            ·rw [if_neg c27] at H
             have c27b0 : (((rd_T53 l1 (ji22)).f0) == ((rd_T53 l1 x19_2).f0)) = false := beq_eq_false_iff_ne.mpr c27
             have c27b1 : (((rd_T53 l1 (ji22)).f0) != ((rd_T53 l1 x19_2).f0)) = true := bne_iff_ne.mpr c27
             have H' := Aside0.mk H
             clear H
             have p288 : 0 ≤ ((ji22) : Int) := oD
             have q288 : (ji22) < (l1.length : Int) := oD
             obtain ⟨ad288, e288, hx288_0, hx288_1⟩ := at_T53 HR1.out (ji22) p288 q288
             obtain rfl : ad284 = ad288 := (by injection e288)
             replace hx288_0 := (cB HB.out hx288_0 :)
             replace hx288_1 := (cB HB.out hx288_1 :)
             replace p288 := eq_true p288
             replace q288 := eq_true q288
             have hcz31_0 := (blk_cell BK285.out 0).trans (show _ = some ((.int .i64 ((rd_T53 l1 x19_2).f0)) : Value) from rfl)
             have hcz31_1 := (blk_cell BK285.out 1).trans (show _ = some ((.int .i64 ((rd_T53 l1 x19_2).f1)) : Value) from rfl)
             have hfz31_0 := blk_frozen BK285.out 0
             have hfz31_1 := blk_frozen BK285.out 1
             have p289 : 0 ≤ ((ji22) : Int) := oD
             have q289 : (ji22) < (l1.length : Int) := oD
             obtain ⟨ad289, e289, hx289_0, hx289_1⟩ := at_T53 HR1.out (ji22) p289 q289
             obtain rfl : ad284 = ad289 := (by injection e289)
             replace hx289_0 := (cB HB.out hx289_0 :)
             replace hx289_1 := (cB HB.out hx289_1 :)
             replace p289 := eq_true p289
             replace q289 := eq_true q289
             go_wp2
             repeat (go_quiet (fail); try go_wp2)
             go_roundg kj9
             case measure => have := HJ2.out; have := HK2.out; have := HJ9.out; omega
             case rel => exact ⟨(wrap64 (x19_2 + 1)), sD, H', ⟨by have := HJ2.out; have := HK2.out; have := HJ9.out; omega⟩, ⟨by repeat (first | (with_reducible first | exact HB.out | apply below_alloc | apply pw_below_drewN | apply below_drew1 | refine below_set ?_ GE285.out) | exact HB.out)⟩⟩
          ·rw [if_neg c21] at H
           have c21b0 : decide (0 < x19_2) = false := decide_eq_false c21
           clear c21
           have H' := Aside0.mk H
           clear H
           go_wp2
           repeat (go_quiet (fail); try go_wp2)
           go_roundg kj9
           case measure => have := HJ2.out; have := HK2.out; have := HJ9.out; omega
           case rel => exact ⟨(wrap64 (x19_2 + 1)), sD, H', ⟨by have := HJ2.out; have := HK2.out; have := HJ9.out; omega⟩, ⟨by repeat (first | (with_reducible first | exact HB.out | apply below_alloc | apply pw_below_drewN | apply below_drew1 | refine below_set ?_ GE285.out) | exact HB.out)⟩⟩
      ·rw [if_neg c7] at H
       have c7b0 : decide (x19_2 < (l1.length : Int)) = false := decide_eq_false c7
       clear c7
       replace H := Option.bind_eq_some_iff.mp H
       obtain ⟨t291, A320, H⟩ := H
       replace H : (impl_IsPrecedence.l1 k2 t291 (t291.length : Int) 0) = some r := H
       have A32 := Aside0.mk A320
       clear A320
       have H' := Aside0.mk H
       clear H
       go_wp2_with (first | (go_at_call 51; (with_reducible refine (impl_closure.calls k2 a0 _ _ l1 t291 _ ?side1 ?side2 A32.out).mono ?_); (case side1 => exact cK ((Kd.C_below HR1.out HB.out))); (case side2 => exact HC1.out); rintro e w33 ⟨v292, rfl, ho0, hb⟩; have n0_ := Aside0.mk (Kd.S_lower ho0 (below_size bB)); have n1_ := Aside0.mk (below_step bB hb); clear HB; have HO293 := n0_; have HB := n1_; clear n0_ n1_; (try clear hb); (try clear ho0); obtain ⟨Ao34, co34, eo34⟩ := Kd.S_slice HO293.out; subst eo34))
       repeat (go_quiet (first | (go_at_call 51; (with_reducible refine (impl_closure.calls k2 a0 _ _ l1 t291 _ ?side1 ?side2 A32.out).mono ?_); (case side1 => exact cK ((Kd.C_below HR1.out HB.out))); (case side2 => exact HC1.out); rintro e w33 ⟨v292, rfl, ho0, hb⟩; have n0_ := Aside0.mk (Kd.S_lower ho0 (below_size bB)); have n1_ := Aside0.mk (below_step bB hb); clear HB; have HO293 := n0_; have HB := n1_; clear n0_ n1_; (try clear hb); (try clear ho0); obtain ⟨Ao34, co34, eo34⟩ := Kd.S_slice HO293.out; subst eo34)); try go_wp2_with (first | (go_at_call 51; (with_reducible refine (impl_closure.calls k2 a0 _ _ l1 t291 _ ?side1 ?side2 A32.out).mono ?_); (case side1 => exact cK ((Kd.C_below HR1.out HB.out))); (case side2 => exact HC1.out); rintro e w33 ⟨v292, rfl, ho0, hb⟩; have n0_ := Aside0.mk (Kd.S_lower ho0 (below_size bB)); have n1_ := Aside0.mk (below_step bB hb); clear HB; have HO293 := n0_; have HB := n1_; clear n0_ n1_; (try clear hb); (try clear ho0); obtain ⟨Ao34, co34, eo34⟩ := Kd.S_slice HO293.out; subst eo34)))
       go_loopg [84] k2 (fun kq v84 w' => ∃ (x84_3 : Int), v84 = .int .i64 x84_3 ∧ Aside0 (impl_IsPrecedence.l1 kq t291 (t291.length : Int) x84_3 = some r) ∧ Aside0 (kq ≤ k2) ∧ Aside0 (Kd.S (Kd.slice 4 Kd.bool) 94 w' w.heap.size (fun _ => True) (.slice Ao34 t291.length co34) t291) ∧ Aside0 (Below w.heap.size w w'))
       case atStart => exact ⟨(0), sD, H', ⟨Nat.le_refl _⟩, ⟨kS⟩, ⟨by repeat (first | (with_reducible first | exact HB.out | apply below_alloc | apply pw_below_drewN | apply below_drew1) | exact HB.out)⟩⟩
       case round =>
        clear H'
        try clear c1
        try clear c2
        try clear p2
        try clear q2
        try clear hx2
        try clear c5
        try clear c6
        try clear p6
        try clear c7
        try clear c7b0
        try clear c8
        try clear c8b0
        try clear c9
        try clear c9b0
        try clear c14
        try clear c16
        try clear c20
        try clear c21
        try clear c21b0
        try clear c23
        try clear c23b0
        try clear c24
        try clear c24b0
        try clear c25
        try clear c25b0
        try clear c27
        try clear c27b0
        try clear c27b1
        try clear c28
        try clear c28b0
        try clear p28
        try clear q28
        try clear hx28
        try clear p29
        try clear q29
        try clear hx29
        try clear hcz12_0
        try clear hcz12_1
        try clear hcz17_0
        try clear hcz17_1
        try clear hcz18_0
        try clear hcz18_1
        try clear hcz19_0
        try clear hcz19_1
        try clear hcz26_0
        try clear hcz26_1
        try clear hcz29_0
        try clear hcz29_1
        try clear hcz30_0
        try clear hcz30_1
        try clear hcz31_0
        try clear hcz31_1
        try clear hfz12_0
        try clear hfz12_1
        try clear hfz17_0
        try clear hfz17_1
        try clear hfz18_0
        try clear hfz18_1
        try clear hfz19_0
        try clear hfz19_1
        try clear hfz26_0
        try clear hfz26_1
        try clear hfz29_0
        try clear hfz29_1
        try clear hfz30_0
        try clear hfz30_1
        try clear hfz31_0
        try clear hfz31_1
        try clear hx284_0
        try clear hx284_1
        try clear hx288_0
        try clear hx288_1
        try clear hx289_0
        try clear hx289_1
        try clear hx290_0
        try clear hx290_1
        try clear p2
        try clear p284
        try clear p288
        try clear p289
        try clear p290
        try clear q2
        try clear q284
        try clear q288
        try clear q289
        try clear q290
        obtain ⟨x84_3, rfl, HA, HK3, HO_7, HB⟩ := hrel
        cases gk with
        | zero => exact absurd HA.out (by simp [impl_IsPrecedence.l1])
        | succ k3 =>
         have H := HA.out
         clear HA
         simp only [impl_IsPrecedence.l1] at H
         by_cases c35 : x84_3 < (t291.length : Int)
         ·rw [if_pos c35] at H
          have c35b0 : decide (x84_3 < (t291.length : Int)) = true := decide_eq_true c35
          clear c35
          by_cases c36 : 0 ≤ x84_3; rotate_left
          ·rw [if_neg c36] at H; exact absurd H (by simp)
          rw [if_pos c36] at H
          have c36b0 : decide (0 ≤ x84_3) = true := decide_eq_true c36
          clear c36
          by_cases c37 : x84_3 < (t291.length : Int); rotate_left
          ·rw [if_neg c37] at H; exact absurd H (by simp)
          rw [if_pos c37] at H
          have c37b0 : decide (x84_3 < (t291.length : Int)) = true := decide_eq_true c37
          clear c37
          by_cases c38 : x84_3 < ((rd_L5 t291 x84_3).length : Int); rotate_left
          ·rw [if_neg c38] at H; exact absurd H (by simp)
          rw [if_pos c38] at H
          have c38b0 : decide (x84_3 < ((rd_L5 t291 x84_3).length : Int)) = true := decide_eq_true c38
          clear c38
          obtain ⟨bq39, hbq39⟩ : ∃ b_ : Bool, b_ = (rdOf false (rd_L5 t291 x84_3) x84_3) := ⟨_, rfl⟩
          replace H : (if bq39 = true then (some false) else (impl_IsPrecedence.l1 k3 t291 (t291.length : Int) (wrap64 (x84_3 + 1)))) = some r := by rw [← hbq39] at H; exact H
          have Nbq39 := Aside0.mk hbq39
          clear hbq39
          by_cases c40 : bq39 = true
          ·subst c40
           have H1 : (some false) = some r := by rw [if_pos rfl] at H; exact H
           clear H
           have H := H1
           clear H1
           obtain rfl := Option.some.inj H
           have p294 : 0 ≤ (x84_3 : Int) := oD
           have q294 : x84_3 < (t291.length : Int) := oD
           obtain ⟨ad294, A294_0, c294_0, e294, hx294_0, hl294_0, hi294_0⟩ := at_L5 (Kd.S_reads' HO_7.out).2.2 x84_3 p294 q294
           cases e294
           obtain ⟨ce294, hce294, hMe294, hcc294⟩ := Kd.S_get HO_7.out [] x84_3 p294 (by first | exact q294 | exact oD | (have e_ := (Kd.S_reads' HO_7.out).1; omega))
           obtain ⟨ve294_0, rfl, ge294_0⟩ := hMe294
           have hv294_0 := hcc294 0 _ rfl
           rw [Nat.add_zero, show ((Kd.slice 4 Kd.bool)).sz = 1 from rfl, Nat.mul_one] at hv294_0
           replace hv294_0 := Option.some.inj (hv294_0.symm.trans hx294_0)
           rw [hv294_0] at ge294_0
           have HL294_0 := Aside0.mk (show Kd.R Kd.bool 4 _ _ _ _ (rd_L5 t291 x84_3) from ge294_0)
           clear hv294_0 ge294_0
           clear hcc294 hce294
           have HR294_0 := Aside0.mk hi294_0
           have HC294_0 := Aside0.mk hl294_0
           clear hi294_0 hl294_0
           replace p294 := eq_true p294
           replace q294 := eq_true q294
           have p295 : 0 ≤ (x84_3 : Int) := oD
           have q295 : x84_3 < ((rd_L5 t291 x84_3).length : Int) := oD
           obtain ⟨ad295, e295, hx295_0⟩ := Kd.at_bool (by repeat (first | (with_reducible exact HR294_0.out) | (with_reducible refine Kd.C_alloc ?_ _) | (with_reducible refine Kd.C_drewN ?_ _) | (with_reducible refine Kd.C_drew ?_) | exact HR294_0.out)) x84_3 p295 q295
           (try rw [← Nbq39.out] at hx295_0)
           cases e295
           replace p295 := eq_true p295
           replace q295 := eq_true q295
           go_wp2
           repeat (go_quiet (fail); try go_wp2)
           go_ret
           exact ⟨rE, bB⟩
          ·replace c40 := Bool.eq_false_iff.mpr c40
           subst c40
           have H1 : (impl_IsPrecedence.l1 k3 t291 (t291.length : Int) (wrap64 (x84_3 + 1))) = some r := by rw [if_neg (show ¬ (false = true) by decide)] at H; exact H
           clear H
           have H := H1
           clear H1
           have H' := Aside0.mk H
           clear H
           have p294 : 0 ≤ (x84_3 : Int) := oD
           have q294 : x84_3 < (t291.length : Int) := oD
           obtain ⟨ad294, A294_0, c294_0, e294, hx294_0, hl294_0, hi294_0⟩ := at_L5 (Kd.S_reads' HO_7.out).2.2 x84_3 p294 q294
           cases e294
           obtain ⟨ce294, hce294, hMe294, hcc294⟩ := Kd.S_get HO_7.out [] x84_3 p294 (by first | exact q294 | exact oD | (have e_ := (Kd.S_reads' HO_7.out).1; omega))
           obtain ⟨ve294_0, rfl, ge294_0⟩ := hMe294
           have hv294_0 := hcc294 0 _ rfl
           rw [Nat.add_zero, show ((Kd.slice 4 Kd.bool)).sz = 1 from rfl, Nat.mul_one] at hv294_0
           replace hv294_0 := Option.some.inj (hv294_0.symm.trans hx294_0)
           rw [hv294_0] at ge294_0
           have HL294_0 := Aside0.mk (show Kd.R Kd.bool 4 _ _ _ _ (rd_L5 t291 x84_3) from ge294_0)
           clear hv294_0 ge294_0
           clear hcc294 hce294
           have HR294_0 := Aside0.mk hi294_0
           have HC294_0 := Aside0.mk hl294_0
           clear hi294_0 hl294_0
           replace p294 := eq_true p294
           replace q294 := eq_true q294
           have p295 : 0 ≤ (x84_3 : Int) := oD
           have q295 : x84_3 < ((rd_L5 t291 x84_3).length : Int) := oD
           obtain ⟨ad295, e295, hx295_0⟩ := Kd.at_bool (by repeat (first | (with_reducible exact HR294_0.out) | (with_reducible refine Kd.C_alloc ?_ _) | (with_reducible refine Kd.C_drewN ?_ _) | (with_reducible refine Kd.C_drew ?_) | exact HR294_0.out)) x84_3 p295 q295
           (try rw [← Nbq39.out] at hx295_0)
           cases e295
           replace p295 := eq_true p295
           replace q295 := eq_true q295
           go_wp2
           repeat (go_quiet (fail); try go_wp2)
           go_roundg k3
           case measure => have := HJ2.out; have := HK2.out; have := HK3.out; omega
           case rel => exact ⟨(wrap64 (x84_3 + 1)), sD, H', ⟨by have := HJ2.out; have := HK2.out; have := HK3.out; omega⟩, ⟨kS⟩, ⟨by repeat (first | (with_reducible first | exact HB.out | apply below_alloc | apply pw_below_drewN | apply below_drew1) | exact HB.out)⟩⟩
         ·rw [if_neg c35] at H
          have c35b0 : decide (x84_3 < (t291.length : Int)) = false := decide_eq_false c35
          clear c35
          obtain rfl := Option.some.inj H
          go_wp2
          repeat (go_quiet (fail); try go_wp2)
          go_ret
          exact ⟨rE, bB⟩

/-! ### impl_isPreceded: function 30 -/
def impl_isPreceded.f (k : Nat) (l0 : List (S50)) (l1 : List (S53)) : Option (Bool) := (impl_IsJobs.f k l0).bind fun t296 => (if t296 = true then ((impl_IsPrecedence.f k (l0.length : Int) l1).bind fun t297 => (some t297)) else (some false))
theorem impl_isPreceded.mono : ∀ a0 a1 k, LeO (impl_isPreceded.f k a0 a1) (impl_isPreceded.f (k + 1) a0 a1) := by
 intro a0 a1 k
 unfold impl_isPreceded.f
 repeat' first
   | (with_reducible exact impl_IsJobs.mono _ _)
   | (with_reducible exact impl_IsPrecedence.mono _ _ _)
   | (with_reducible exact LeO.refl _)
   | (with_reducible exact LeO.none _)
   | (with_reducible refine LeO.ite ?_ ?_)
   | (with_reducible refine LeO.bind ?_ (fun _ => ?_))
   | exact impl_IsJobs.mono _ _
   | exact impl_IsPrecedence.mono _ _ _
   | exact LeO.none _
   | refine LeO.ite ?_ ?_
   | refine LeO.bind ?_ (fun _ => ?_)
set_option maxHeartbeats 8000000 in
set_option maxRecDepth 100000 in
theorem impl_isPreceded.calls (k : Nat) (A0 : Option Addr) (c0 : Nat) (l0 : List (S50)) (A1 : Option Addr) (c1 : Nat) (l1 : List (S53)) (r : Bool) (w : World) (hr0 : Kd.C k50 w A0 l0.length l0) (hc0 : l0.length ≤ c0) (hr1 : Kd.C k53 w A1 l1.length l1) (hc1 : l1.length ≤ c1) (h : impl_isPreceded.f k l0 l1 = some r) :
  Calls Try.prog 30 #[.slice A0 l0.length c0, .slice A1 l1.length c1] w fun e w' => e = .returned (.bool r) ∧ Below w.heap.size w w' := by
 have HR0 := Aside0.mk hr0
 have HC0 := Aside0.mk hc0
 clear hr0 hc0
 have HR1 := Aside0.mk hr1
 have HC1 := Aside0.mk hc1
 clear hr1 hc1
 have HB := Aside0.mk (Below.refl w.heap.size w)
 have H : ((impl_IsJobs.f k l0).bind fun t296 => (if t296 = true then ((impl_IsPrecedence.f k (l0.length : Int) l1).bind fun t297 => (some t297)) else (some false))) = some r := h
 clear h
 replace H := Option.bind_eq_some_iff.mp H
 obtain ⟨t296, A30, H⟩ := H
 replace H : (if t296 = true then ((impl_IsPrecedence.f k (l0.length : Int) l1).bind fun t297 => (some t297)) else (some false)) = some r := H
 have A3 := Aside0.mk A30
 clear A30
 by_cases c4 : t296 = true
 ·subst c4
  have H1 : ((impl_IsPrecedence.f k (l0.length : Int) l1).bind fun t297 => (some t297)) = some r := by rw [if_pos rfl] at H; exact H
  clear H
  have H := H1
  clear H1
  replace H := Option.bind_eq_some_iff.mp H
  obtain ⟨t297, A50, H⟩ := H
  replace H : (some t297) = some r := H
  have A5 := Aside0.mk A50
  clear A50
  obtain rfl := Option.some.inj H
  go_enter Try.func30, Try.ntmps30
  go_wp2_with (first | ((with_reducible refine gate_callee (f := 63) rfl ?_); refine goesL_ (some 6) rfl rfl Try.func63 (by kernel_rfl) rfl #[.slice A0 l0.length c0] rfl aE ?_; (with_reducible refine (impl_IsJobs.calls k _ _ l0 true _ ?side1 ?side2 A3.out).mono ?_); (case side1 => exact cK HR0.out); (case side2 => exact HC0.out); rintro e w6 ⟨rfl, hb⟩; refine ⟨_, rfl, ?_⟩; have n0_ := Aside0.mk (below_step bB hb); clear HB; have HB := n0_; clear n0_; (try clear hb)) | (go_at_call 64; (with_reducible refine (impl_IsPrecedence.calls k (l0.length : Int) _ _ l1 t297 _ ?side1 ?side2 A5.out).mono ?_); (case side1 => exact cK ((Kd.C_below HR1.out HB.out))); (case side2 => exact HC1.out); rintro e w7 ⟨rfl, hb⟩; have n0_ := Aside0.mk (below_step bB hb); clear HB; have HB := n0_; clear n0_; (try clear hb)))
  go_ret
  exact ⟨rE, bB⟩
 ·replace c4 := Bool.eq_false_iff.mpr c4
  subst c4
  have H1 : (some false) = some r := by rw [if_neg (show ¬ (false = true) by decide)] at H; exact H
  clear H
  have H := H1
  clear H1
  obtain rfl := Option.some.inj H
  go_enter Try.func30, Try.ntmps30
  go_wp2_with (first | ((with_reducible refine gate_callee (f := 63) rfl ?_); refine goesL_ (some 6) rfl rfl Try.func63 (by kernel_rfl) rfl #[.slice A0 l0.length c0] rfl aE ?_; (with_reducible refine (impl_IsJobs.calls k _ _ l0 false _ ?side1 ?side2 A3.out).mono ?_); (case side1 => exact cK HR0.out); (case side2 => exact HC0.out); rintro e w8 ⟨rfl, hb⟩; refine ⟨_, rfl, ?_⟩; have n0_ := Aside0.mk (below_step bB hb); clear HB; have HB := n0_; clear n0_; (try clear hb)))
  go_ret
  exact ⟨rE, bB⟩

end Go.Proofs.Ytlhppclbokkfmaa.OFnExactSidneyBlocks
