/- Functions of the program as plain Lean functions, with their contracts: written by this session's program ownprint.py. Conditions: none. -/
import Derived.Test.YthhmembnhnghiaaOFnExactTimelySetsx0
import Derived.Test.YthhmembnhnghiaaOFnExactTimelySetsx2
namespace Go.Proofs.Ythhmembnhnghiaa.OFnExactTimelySets
open Go.RowKit Go.Proofs.YthhmembnhnghiaaW.PrintWords Go.Proofs.YthhmembnhnghiaaW.PrintLast Go.Proofs.YthhmembnhnghiaaW.PrintMore
attribute [local go_sem] max2_int min2_int max_two min_two max_three min_three max_four min_four   -- for this text's walks alone
set_option linter.unusedVariables false
set_option linter.unusedSimpArgs false

/-! ### spec_l6Good: function 55 -/
def spec_l6Good.f (k : Nat) (l0 : List (S59)) : Option (Bool) := (spec_l2Good.f k l0).bind fun t139 => (if t139 = true then ((spec_l4Free.f k l0).bind fun t140 => (some t140)) else (some false))
theorem spec_l6Good.mono : ∀ a0 k, LeO (spec_l6Good.f k a0) (spec_l6Good.f (k + 1) a0) := by
 intro a0 k
 unfold spec_l6Good.f
 repeat' first
   | (with_reducible exact spec_l2Good.mono _ _)
   | (with_reducible exact spec_l4Free.mono _ _)
   | (with_reducible exact LeO.refl _)
   | (with_reducible exact LeO.none _)
   | (with_reducible refine LeO.ite ?_ ?_)
   | (with_reducible refine LeO.bind ?_ (fun _ => ?_))
   | exact spec_l2Good.mono _ _
   | exact spec_l4Free.mono _ _
   | exact LeO.none _
   | refine LeO.ite ?_ ?_
   | refine LeO.bind ?_ (fun _ => ?_)
set_option maxHeartbeats 8000000 in
set_option maxRecDepth 100000 in
theorem spec_l6Good.calls (k : Nat) (A0 : Option Addr) (c0 : Nat) (l0 : List (S59)) (r : Bool) (w : World) (hr0 : Kd.C k59 w A0 l0.length l0) (hc0 : l0.length ≤ c0) (h : spec_l6Good.f k l0 = some r) :
  Calls Try.prog 55 #[.slice A0 l0.length c0] w fun e w' => e = .returned (.bool r) ∧ Below w.heap.size w w' := by
 have HR0 := Aside0.mk hr0
 have HC0 := Aside0.mk hc0
 clear hr0 hc0
 have HB := Aside0.mk (Below.refl w.heap.size w)
 have H : ((spec_l2Good.f k l0).bind fun t139 => (if t139 = true then ((spec_l4Free.f k l0).bind fun t140 => (some t140)) else (some false))) = some r := h
 clear h
 replace H := Option.bind_eq_some_iff.mp H
 obtain ⟨t139, A20, H⟩ := H
 replace H : (if t139 = true then ((spec_l4Free.f k l0).bind fun t140 => (some t140)) else (some false)) = some r := H
 have A2 := Aside0.mk A20
 clear A20
 by_cases c3 : t139 = true
 ·subst c3
  have H1 : ((spec_l4Free.f k l0).bind fun t140 => (some t140)) = some r := by rw [if_pos rfl] at H; exact H
  clear H
  have H := H1
  clear H1
  replace H := Option.bind_eq_some_iff.mp H
  obtain ⟨t140, A40, H⟩ := H
  replace H : (some t140) = some r := H
  have A4 := Aside0.mk A40
  clear A40
  obtain rfl := Option.some.inj H
  go_enter Try.func55, Try.ntmps55
  go_wp2_with (first | ((with_reducible refine gate_callee (f := 90) rfl ?_); refine goesL_ (some 4) rfl rfl Try.func90 (by kernel_rfl) rfl #[.slice A0 l0.length c0] rfl aE ?_; (with_reducible refine (spec_l2Good.calls k _ _ l0 true _ ?side1 ?side2 A2.out).mono ?_); (case side1 => exact cK HR0.out); (case side2 => exact HC0.out); rintro e w5 ⟨rfl, hb⟩; refine ⟨_, rfl, ?_⟩; have n0_ := Aside0.mk (below_step bB hb); clear HB; have HB := n0_; clear n0_; (try clear hb)) | (go_at_call 109; (with_reducible refine (spec_l4Free.calls k _ _ l0 t140 _ ?side1 ?side2 A4.out).mono ?_); (case side1 => exact cK ((Kd.C_below HR0.out HB.out))); (case side2 => exact HC0.out); rintro e w' ⟨rfl, ⟨nd, rfl⟩⟩))
  go_ret
  exact ⟨rE, bB⟩
 ·replace c3 := Bool.eq_false_iff.mpr c3
  subst c3
  have H1 : (some false) = some r := by rw [if_neg (show ¬ (false = true) by decide)] at H; exact H
  clear H
  have H := H1
  clear H1
  obtain rfl := Option.some.inj H
  go_enter Try.func55, Try.ntmps55
  go_wp2_with (first | ((with_reducible refine gate_callee (f := 90) rfl ?_); refine goesL_ (some 4) rfl rfl Try.func90 (by kernel_rfl) rfl #[.slice A0 l0.length c0] rfl aE ?_; (with_reducible refine (spec_l2Good.calls k _ _ l0 false _ ?side1 ?side2 A2.out).mono ?_); (case side1 => exact cK HR0.out); (case side2 => exact HC0.out); rintro e w6 ⟨rfl, hb⟩; refine ⟨_, rfl, ?_⟩; have n0_ := Aside0.mk (below_step bB hb); clear HB; have HB := n0_; clear n0_; (try clear hb)))
  go_ret
  exact ⟨rE, bB⟩

/-! ### spec_l4Set: function 104 -/
def spec_l4Set.l0 : Nat → Int → Int → List Int → Int → Option (List Int)
 | 0, _, _, _, _ => none
 | k + 1, x0, x1, x5, x6 => if x6 < x0 then (if 0 ≤ x6 then (if (Go.bits .and .i64 (shr .i64 x1 x6) 1) = 1 then (if x5.length < 17592186044416 then (spec_l4Set.l0 k x0 x1 (x5 ++ [x6]) (wrap64 (x6 + 1))) else (none)) else (spec_l4Set.l0 k x0 x1 x5 (wrap64 (x6 + 1)))) else (none)) else (some x5)
def spec_l4Set.f (k : Nat) (a0 : Int) (a1 : Int) : Option (List Int) := spec_l4Set.l0 k a0 a1 (([] : List Int)) 0
theorem spec_l4Set.mono_l : ∀ k, (∀ y0 y1 y2 y3, LeO (spec_l4Set.l0 k y0 y1 y2 y3) (spec_l4Set.l0 (k + 1) y0 y1 y2 y3))
 | 0 => fun _ _ _ _ r h => by simp [spec_l4Set.l0] at h
 | k + 1 => by
  have ih0 := spec_l4Set.mono_l k
  ·intro y0 y1 y2 y3
   unfold spec_l4Set.l0
   repeat' first
   | (with_reducible exact ih0 _ _ _ _)
   | (with_reducible exact LeO.refl _)
   | (with_reducible exact LeO.none _)
   | (with_reducible refine LeO.ite ?_ ?_)
   | (with_reducible refine LeO.bind ?_ (fun _ => ?_))
   | exact ih0 _ _ _ _
   | exact LeO.none _
   | refine LeO.ite ?_ ?_
   | refine LeO.bind ?_ (fun _ => ?_)
theorem spec_l4Set.mono : ∀ a0 a1 k, LeO (spec_l4Set.f k a0 a1) (spec_l4Set.f (k + 1) a0 a1) := by
 intro a0 a1 k
 have ih0 := spec_l4Set.mono_l k
 unfold spec_l4Set.f
 repeat' first
   | (with_reducible exact ih0 _ _ _ _)
   | (with_reducible exact LeO.refl _)
   | (with_reducible exact LeO.none _)
   | (with_reducible refine LeO.ite ?_ ?_)
   | (with_reducible refine LeO.bind ?_ (fun _ => ?_))
   | exact ih0 _ _ _ _
   | exact LeO.none _
   | refine LeO.ite ?_ ?_
   | refine LeO.bind ?_ (fun _ => ?_)
set_option maxHeartbeats 8000000 in
set_option maxRecDepth 100000 in
theorem spec_l4Set.calls (k : Nat) (a0 : Int) (a1 : Int) (r : List Int) (w : World) (h : spec_l4Set.f k a0 a1 = some r) :
  Calls Try.prog 104 #[.int .i64 a0, .int .i64 a1] w fun e w' => ∃ v0_ : Value, e = .returned (v0_) ∧ Kd.R (Kd.int .i64) 3 w' w.heap.size (fun _ => True) v0_ r ∧ Below w.heap.size w w' := by
 have HB := Aside0.mk (Below.refl w.heap.size w)
 have H : (spec_l4Set.l0 k a0 a1 (([] : List Int)) 0) = some r := h
 clear h
 obtain ⟨y141, hy141⟩ : ∃ y_ : List Int, y_ = (([] : List Int)) := ⟨_, rfl⟩
 replace H : (spec_l4Set.l0 k a0 a1 y141 0) = some r := by first | (rw [hy141]; with_reducible exact H) | (have H2_ := (Option.bind_some _ _).symm.trans H; rw [hy141]; with_reducible exact H2_) | (have H2_ := (Option.bind_some _ _).symm.trans H; with_reducible exact H2_) | with_reducible exact H | (rw [hy141]; exact H) | exact H
 have Ny141 := Aside0.mk hy141
 clear hy141
 have H' := Aside0.mk H
 clear H
 go_enter Try.func104, Try.ntmps104
 go_wp2_with (first | ((with_reducible refine gate_dst (N := 7) rfl ?_); refine Kd.R_lit (Kd.int .i64) _ 3 ?hg (N := 7) ?hd (xs := ([] : List Int)) (inner := []) (ok := fun _ => True) (okp := fun _ => True) ?hr ?hp (fun _ hk => hk) trivial (Below.refl _ _) (Nat.le_refl _) (by simp) ?_; (case hd => rfl); (case hg => rfl); (case hr => first | (go_simp; done) | (go_simp; rfl)); (case hp => exact (Reps.none _ _)); intro v142 w3 ho4 hb hg_ hnew_; clear hg_ hnew_; (first | rw [← Ny141.out] at ho4 | (simp only [Int.reduceToNat] at ho4; rw [← Ny141.out] at ho4)); have n0_ := Aside0.mk (Kd.R_lower ho4 (below_size bB)); have n1_ := Aside0.mk (below_step bB hb); clear HB; have HO143 := n0_; have HB := n1_; clear n0_ n1_; clear hb ho4))
 go_loopg [5, 6] k (fun kq v5 v6 w' => ∃ (x5_1 : List Int) (x6_1 : Int), v6 = .int .i64 x6_1 ∧ Aside0 (spec_l4Set.l0 kq a0 a1 x5_1 x6_1 = some r) ∧ Aside0 (kq ≤ k) ∧ Aside0 (Kd.R (Kd.int .i64) 3 w' w.heap.size (fun _ => True) v5 x5_1) ∧ Aside0 (Below w.heap.size w w'))
 case atStart => exact ⟨(y141), (0), sD, H', ⟨Nat.le_refl _⟩, ⟨kR⟩, ⟨by repeat (first | (with_reducible first | exact HB.out | apply below_alloc | apply pw_below_drewN | apply below_drew1) | exact HB.out)⟩⟩
 case round =>
  clear H'
  try clear c1
  try clear p2
  obtain ⟨x5_1, x6_1, rfl, HA, HK1, HO_5, HB⟩ := hrel
  cases gk with
  | zero => exact absurd HA.out (by simp [spec_l4Set.l0])
  | succ k1 =>
   have H := HA.out
   clear HA
   simp only [spec_l4Set.l0] at H
   by_cases c5 : x6_1 < a0
   ·rw [if_pos c5] at H
    have c5b0 : decide (x6_1 < a0) = true := decide_eq_true c5
    clear c5
    by_cases c6 : 0 ≤ x6_1; rotate_left
    ·rw [if_neg c6] at H; exact absurd H (by simp)
    rw [if_pos c6] at H
    have c6b0 := eq_true c6
    have c6b1 : decide (0 ≤ x6_1) = true := decide_eq_true c6
    clear c6
    obtain ⟨ji7, hji7⟩ : ∃ j_ : Int, (shr .i64 a1 x6_1) = j_ := ⟨_, rfl⟩
    replace H : (if (Go.bits .and .i64 (ji7) 1) = 1 then (if x5_1.length < 17592186044416 then (spec_l4Set.l0 k1 a0 a1 (x5_1 ++ [x6_1]) (wrap64 (x6_1 + 1))) else (none)) else (spec_l4Set.l0 k1 a0 a1 x5_1 (wrap64 (x6_1 + 1)))) = some r := by first | (rw [hji7] at H; exact H) | (simp only [hji7] at H ⊢; exact H)
    have hji7_ : (a1 / 2 ^ min x6_1.toNat 64) = ji7 := hji7
    have hji7z : x6_1 ≤ 64 → (a1 / 2 ^ x6_1.toNat) = ji7 := shr_small hji7
    by_cases c8 : (Go.bits .and .i64 (ji7) 1) = 1
    ·rw [if_pos c8] at H
     have c8b0 : ((Go.bits .and .i64 (ji7) 1) == 1) = true := beq_iff_eq.mpr c8
     have c8b1 : ((Go.bits .and .i64 (ji7) 1) != 1) = false := bne_eq_false_iff_eq.mpr c8
     clear c8
     by_cases c9 : x5_1.length < 17592186044416; rotate_left
     ·rw [if_neg c9] at H; exact absurd H (by simp)
     rw [if_pos c9] at H
     have LMc9 := Aside0.mk c9
     clear c9
     obtain ⟨y144, hy144⟩ : ∃ y_ : List Int, y_ = (x5_1 ++ [x6_1]) := ⟨_, rfl⟩
     replace H : (spec_l4Set.l0 k1 a0 a1 y144 (wrap64 (x6_1 + 1))) = some r := by first | (rw [hy144]; with_reducible exact H) | (have H2_ := (Option.bind_some _ _).symm.trans H; rw [hy144]; with_reducible exact H2_) | (have H2_ := (Option.bind_some _ _).symm.trans H; with_reducible exact H2_) | with_reducible exact H | (rw [hy144]; exact H) | exact H
     have Ny144 := Aside0.mk hy144
     clear hy144
     have H' := Aside0.mk H
     clear H
     go_wp2_with (first | ((with_reducible refine gate_builtin (b := .append) (xs := #[.tmp 18, .tmp 20]) rfl ?_); at_builtin; refine Kd.R_append (Kd.int .i64) (w0 := w) w.heap.size rfl (.tmp 18) (.tmp 20) 37 3 (.int .i64 0) 8 rfl Try.underlying37 info3 rfl (by decide) (by omega) u5 x5_1 x6_1 [.int .i64 x6_1] (fun _ => True) (fun _ => False) rfl rfl ?aP (fun _ hk => hk.elim) ?aF ?aO ?aB ?aS ?aL ?_; (case aP => exact rfl); (case aB => exact bB); (case aF => exact (fun _ _ => trivial)); (case aO => exact (by (with_reducible repeat (first | apply Kd.R_alloc | apply Kd.R_drewN | apply Kd.R_drew)); exact HO_5.out)); (case aS => exact (below_size bB)); (case aL => have := LMc9.out; omega); intro v145 w10 ho hb hg hat; rw [← Ny144.out] at ho; have n0_ := Aside0.mk (hb); have n1_ := Aside0.mk (ho); clear HB; clear HO_5; have HB := n0_; have HO146 := n1_; clear n0_ n1_; clear ho hb hg hat))
     go_roundg k1
     case measure => have := HK1.out; omega
     case rel => exact ⟨(y144), (wrap64 (x6_1 + 1)), sD, H', ⟨by have := HK1.out; omega⟩, ⟨kR⟩, ⟨by repeat (first | (with_reducible first | exact HB.out | apply below_alloc | apply pw_below_drewN | apply below_drew1) | exact HB.out)⟩⟩
    ·rw [if_neg c8] at H
     have c8b0 : ((Go.bits .and .i64 (ji7) 1) == 1) = false := beq_eq_false_iff_ne.mpr c8
     have c8b1 : ((Go.bits .and .i64 (ji7) 1) != 1) = true := bne_iff_ne.mpr c8
     have H' := Aside0.mk H
     clear H
     go_wp2
     go_roundg k1
     case measure => have := HK1.out; omega
     case rel => exact ⟨(x5_1), (wrap64 (x6_1 + 1)), sD, H', ⟨by have := HK1.out; omega⟩, ⟨kR⟩, ⟨by repeat (first | (with_reducible first | exact HB.out | apply below_alloc | apply pw_below_drewN | apply below_drew1) | exact HB.out)⟩⟩
   ·rw [if_neg c5] at H
    have c5b0 : decide (x6_1 < a0) = false := decide_eq_false c5
    clear c5
    obtain rfl := Option.some.inj H
    go_wp2
    go_ret
    exact ⟨_, by first | rfl | (simp [errW_none, errW_some] <;> rfl) | (simp [*, errW_none, errW_some] <;> rfl), by (with_reducible repeat (first | apply Kd.R_alloc | apply Kd.R_drewN | apply Kd.R_drew)); exact HO_5.out, bB⟩

/-! ### spec_l6Sooner: function 143 -/
def spec_l6Sooner.f (l0 : List (S59)) (a1 : Int) (a2 : Int) : Option (Bool) := if 0 ≤ a1 then (if a1 < (l0.length : Int) then (if 0 ≤ a2 then (if a2 < (l0.length : Int) then (if ((rd_T59 l0 a1).f3) = ((rd_T59 l0 a2).f3) then (if ((rd_T59 l0 a1).f0) = ((rd_T59 l0 a2).f0) then (some (decide (a1 < a2))) else (some (decide (((rd_T59 l0 a1).f0) < ((rd_T59 l0 a2).f0))))) else (some (decide (((rd_T59 l0 a1).f3) < ((rd_T59 l0 a2).f3))))) else (none)) else (none)) else (none)) else (none)
set_option maxHeartbeats 8000000 in
set_option maxRecDepth 100000 in
theorem spec_l6Sooner.calls (A0 : Option Addr) (c0 : Nat) (l0 : List (S59)) (a1 : Int) (a2 : Int) (r : Bool) (w : World) (hr0 : Kd.C k59 w A0 l0.length l0) (hc0 : l0.length ≤ c0) (h : spec_l6Sooner.f l0 a1 a2 = some r) :
  Calls Try.prog 143 #[.slice A0 l0.length c0, .int .i64 a1, .int .i64 a2] w fun e w' => e = .returned (.bool r) ∧ Drawn0 w w' := by
 have HR0 := Aside0.mk hr0
 have HC0 := Aside0.mk hc0
 clear hr0 hc0
 have H : (if 0 ≤ a1 then (if a1 < (l0.length : Int) then (if 0 ≤ a2 then (if a2 < (l0.length : Int) then (if ((rd_T59 l0 a1).f3) = ((rd_T59 l0 a2).f3) then (if ((rd_T59 l0 a1).f0) = ((rd_T59 l0 a2).f0) then (some (decide (a1 < a2))) else (some (decide (((rd_T59 l0 a1).f0) < ((rd_T59 l0 a2).f0))))) else (some (decide (((rd_T59 l0 a1).f3) < ((rd_T59 l0 a2).f3))))) else (none)) else (none)) else (none)) else (none)) = some r := h
 clear h
 by_cases c4 : 0 ≤ a1; rotate_left
 ·rw [if_neg c4] at H; exact absurd H (by simp)
 rw [if_pos c4] at H
 have c4b0 : decide (0 ≤ a1) = true := decide_eq_true c4
 clear c4
 by_cases c5 : a1 < (l0.length : Int); rotate_left
 ·rw [if_neg c5] at H; exact absurd H (by simp)
 rw [if_pos c5] at H
 have c5b0 : decide (a1 < (l0.length : Int)) = true := decide_eq_true c5
 clear c5
 by_cases c6 : 0 ≤ a2; rotate_left
 ·rw [if_neg c6] at H; exact absurd H (by simp)
 rw [if_pos c6] at H
 have c6b0 : decide (0 ≤ a2) = true := decide_eq_true c6
 clear c6
 by_cases c7 : a2 < (l0.length : Int); rotate_left
 ·rw [if_neg c7] at H; exact absurd H (by simp)
 rw [if_pos c7] at H
 have c7b0 : decide (a2 < (l0.length : Int)) = true := decide_eq_true c7
 clear c7
 by_cases c8 : ((rd_T59 l0 a1).f3) = ((rd_T59 l0 a2).f3)
 ·rw [if_pos c8] at H
  have c8b0 : (((rd_T59 l0 a1).f3) == ((rd_T59 l0 a2).f3)) = true := beq_iff_eq.mpr c8
  have c8b1 : (((rd_T59 l0 a1).f3) != ((rd_T59 l0 a2).f3)) = false := bne_eq_false_iff_eq.mpr c8
  clear c8
  by_cases c9 : ((rd_T59 l0 a1).f0) = ((rd_T59 l0 a2).f0)
  ·rw [if_pos c9] at H
   have c9b0 : (((rd_T59 l0 a1).f0) == ((rd_T59 l0 a2).f0)) = true := beq_iff_eq.mpr c9
   have c9b1 : (((rd_T59 l0 a1).f0) != ((rd_T59 l0 a2).f0)) = false := bne_eq_false_iff_eq.mpr c9
   clear c9
   obtain rfl := Option.some.inj H
   have p147 : 0 ≤ (a1 : Int) := oD
   have q147 : a1 < (l0.length : Int) := oD
   obtain ⟨ad147, e147, hx147_0, hx147_1, hx147_2, hx147_3⟩ := at_T59 HR0.out a1 p147 q147
   cases e147
   replace p147 := eq_true p147
   replace q147 := eq_true q147
   have p148 : 0 ≤ (a2 : Int) := oD
   have q148 : a2 < (l0.length : Int) := oD
   obtain ⟨ad148, e148, hx148_0, hx148_1, hx148_2, hx148_3⟩ := at_T59 HR0.out a2 p148 q148
   obtain rfl : ad147 = ad148 := (by injection e148)
   replace p148 := eq_true p148
   replace q148 := eq_true q148
   have p149 : 0 ≤ (a1 : Int) := oD
   have q149 : a1 < (l0.length : Int) := oD
   obtain ⟨ad149, e149, hx149_0, hx149_1, hx149_2, hx149_3⟩ := at_T59 HR0.out a1 p149 q149
   obtain rfl : ad147 = ad149 := (by injection e149)
   replace p149 := eq_true p149
   replace q149 := eq_true q149
   have p150 : 0 ≤ (a2 : Int) := oD
   have q150 : a2 < (l0.length : Int) := oD
   obtain ⟨ad150, e150, hx150_0, hx150_1, hx150_2, hx150_3⟩ := at_T59 HR0.out a2 p150 q150
   obtain rfl : ad147 = ad150 := (by injection e150)
   replace p150 := eq_true p150
   replace q150 := eq_true q150
   go_enter Try.func143, Try.ntmps143
   go_wp2
   repeat (go_quiet (fail); try go_wp2)
   go_ret
   exact ⟨by first | rfl | (simp; done) | (simp [*]; done), by repeat (first | exact Drawn0.refl _ | apply Drawn0.step)⟩
  ·rw [if_neg c9] at H
   have c9b0 : (((rd_T59 l0 a1).f0) == ((rd_T59 l0 a2).f0)) = false := beq_eq_false_iff_ne.mpr c9
   have c9b1 : (((rd_T59 l0 a1).f0) != ((rd_T59 l0 a2).f0)) = true := bne_iff_ne.mpr c9
   obtain rfl := Option.some.inj H
   have p147 : 0 ≤ (a1 : Int) := oD
   have q147 : a1 < (l0.length : Int) := oD
   obtain ⟨ad147, e147, hx147_0, hx147_1, hx147_2, hx147_3⟩ := at_T59 HR0.out a1 p147 q147
   cases e147
   replace p147 := eq_true p147
   replace q147 := eq_true q147
   have p148 : 0 ≤ (a2 : Int) := oD
   have q148 : a2 < (l0.length : Int) := oD
   obtain ⟨ad148, e148, hx148_0, hx148_1, hx148_2, hx148_3⟩ := at_T59 HR0.out a2 p148 q148
   obtain rfl : ad147 = ad148 := (by injection e148)
   replace p148 := eq_true p148
   replace q148 := eq_true q148
   have p149 : 0 ≤ (a1 : Int) := oD
   have q149 : a1 < (l0.length : Int) := oD
   obtain ⟨ad149, e149, hx149_0, hx149_1, hx149_2, hx149_3⟩ := at_T59 HR0.out a1 p149 q149
   obtain rfl : ad147 = ad149 := (by injection e149)
   replace p149 := eq_true p149
   replace q149 := eq_true q149
   have p150 : 0 ≤ (a2 : Int) := oD
   have q150 : a2 < (l0.length : Int) := oD
   obtain ⟨ad150, e150, hx150_0, hx150_1, hx150_2, hx150_3⟩ := at_T59 HR0.out a2 p150 q150
   obtain rfl : ad147 = ad150 := (by injection e150)
   replace p150 := eq_true p150
   replace q150 := eq_true q150
   have p151 : 0 ≤ (a1 : Int) := oD
   have q151 : a1 < (l0.length : Int) := oD
   obtain ⟨ad151, e151, hx151_0, hx151_1, hx151_2, hx151_3⟩ := at_T59 HR0.out a1 p151 q151
   obtain rfl : ad147 = ad151 := (by injection e151)
   replace p151 := eq_true p151
   replace q151 := eq_true q151
   have p152 : 0 ≤ (a2 : Int) := oD
   have q152 : a2 < (l0.length : Int) := oD
   obtain ⟨ad152, e152, hx152_0, hx152_1, hx152_2, hx152_3⟩ := at_T59 HR0.out a2 p152 q152
   obtain rfl : ad147 = ad152 := (by injection e152)
   replace p152 := eq_true p152
   replace q152 := eq_true q152
   go_enter Try.func143, Try.ntmps143
   go_wp2
   repeat (go_quiet (fail); try go_wp2)
   go_ret
   exact ⟨by first | rfl | (simp; done) | (simp [*]; done), by repeat (first | exact Drawn0.refl _ | apply Drawn0.step)⟩
 ·rw [if_neg c8] at H
  have c8b0 : (((rd_T59 l0 a1).f3) == ((rd_T59 l0 a2).f3)) = false := beq_eq_false_iff_ne.mpr c8
  have c8b1 : (((rd_T59 l0 a1).f3) != ((rd_T59 l0 a2).f3)) = true := bne_iff_ne.mpr c8
  obtain rfl := Option.some.inj H
  have p147 : 0 ≤ (a1 : Int) := oD
  have q147 : a1 < (l0.length : Int) := oD
  obtain ⟨ad147, e147, hx147_0, hx147_1, hx147_2, hx147_3⟩ := at_T59 HR0.out a1 p147 q147
  cases e147
  replace p147 := eq_true p147
  replace q147 := eq_true q147
  have p148 : 0 ≤ (a2 : Int) := oD
  have q148 : a2 < (l0.length : Int) := oD
  obtain ⟨ad148, e148, hx148_0, hx148_1, hx148_2, hx148_3⟩ := at_T59 HR0.out a2 p148 q148
  obtain rfl : ad147 = ad148 := (by injection e148)
  replace p148 := eq_true p148
  replace q148 := eq_true q148
  have p153 : 0 ≤ (a1 : Int) := oD
  have q153 : a1 < (l0.length : Int) := oD
  obtain ⟨ad153, e153, hx153_0, hx153_1, hx153_2, hx153_3⟩ := at_T59 HR0.out a1 p153 q153
  obtain rfl : ad147 = ad153 := (by injection e153)
  replace p153 := eq_true p153
  replace q153 := eq_true q153
  have p154 : 0 ≤ (a2 : Int) := oD
  have q154 : a2 < (l0.length : Int) := oD
  obtain ⟨ad154, e154, hx154_0, hx154_1, hx154_2, hx154_3⟩ := at_T59 HR0.out a2 p154 q154
  obtain rfl : ad147 = ad154 := (by injection e154)
  replace p154 := eq_true p154
  replace q154 := eq_true q154
  go_enter Try.func143, Try.ntmps143
  go_wp2
  repeat (go_quiet (fail); try go_wp2)
  go_ret
  exact ⟨by first | rfl | (simp; done) | (simp [*]; done), by repeat (first | exact Drawn0.refl _ | apply Drawn0.step)⟩

end Go.Proofs.Ythhmembnhnghiaa.OFnExactTimelySets
