/- Functions of the program as plain Lean functions, with their contracts: written by this session's program ownprint.py. Conditions: none. -/
import Derived.Test.YtlhppclbokkfmaaOFnExactSidneyBlocksx0
import Derived.Test.YtlhppclbokkfmaaOFnExactSidneyBlocksx8
import Derived.Test.YtlhppclbokkfmaaOFnExactSidneyBlocksx9
import Derived.Test.YtlhppclbokkfmaaOFnExactSidneyBlocksx10
namespace Go.Proofs.Ytlhppclbokkfmaa.OFnExactSidneyBlocks
open Go.RowKit Go.Proofs.YtlhppclbokkfmaaW.PrintWords Go.Proofs.YtlhppclbokkfmaaW.PrintLast Go.Proofs.YtlhppclbokkfmaaW.PrintMore
attribute [local go_sem] max2_int min2_int max_two min_two max_three min_three max_four min_four   -- for this text's walks alone
set_option linter.unusedVariables false
set_option linter.unusedSimpArgs false

/-! ### impl_sidneyBlocks: function 31 -/
mutual
def impl_sidneyBlocks.l0 : Nat → List (S50) → List (List Bool) → List (List Int) → Int → Option ((List (List Int)))
 | 0, _, _, _, _ => none
 | k + 1, x0, x5, x6, x7 => if x7 = 0 then (some x6) else (impl_sidneyBlocks.l1 k x0 x5 x6 x7 ([] : List Int) 1)
def impl_sidneyBlocks.l1 : Nat → List (S50) → List (List Bool) → List (List Int) → Int → List Int → Int → Option ((List (List Int)))
 | 0, _, _, _, _, _, _ => none
 | k + 1, x0, x5, x6, x7, x8, x9 => if x9 ≤ x7 then (if (Go.bits .andNot .i64 x9 x7) = 0 then ((impl_isInitial.f k x5 x9 x7).bind fun t318 => (impl_sidneyBlocks.j2 k x0 x5 x6 x7 x8 x9 (!t318))) else (impl_sidneyBlocks.j2 k x0 x5 x6 x7 x8 x9 true)) else (if x6.length < 5864062014805 then ((impl_setOf.f k x8).bind fun t317 => (impl_sidneyBlocks.l0 k x0 x5 (x6 ++ [x8]) (Go.bits .andNot .i64 x7 t317))) else (none))
def impl_sidneyBlocks.j2 : Nat → List (S50) → List (List Bool) → List (List Int) → Int → List Int → Int → Bool → Option ((List (List Int)))
 | 0, _, _, _, _, _, _, _ => none
 | k + 1, x0, x5, x6, x7, x8, x9, x37 => if x37 = true then (impl_sidneyBlocks.l1 k x0 x5 x6 x7 x8 (wrap64 (x9 + 1))) else ((impl_listOf.f k x9).bind fun t319 => (if (x8.length : Int) = 0 then (if 0 < (t319.length : Int) then (impl_sidneyBlocks.l1 k x0 x5 x6 x7 t319 (wrap64 (x9 + 1))) else (none)) else ((impl_ratioOf.f k x0 t319).bind fun bt322 => ((impl_ratioOf.f k x0 x8).bind fun bt324 => ((impl_compareRatios.f bt322.1 bt322.2 bt324.1 bt324.2).bind fun t326 => (if t326 > 0 then (if 0 < (t319.length : Int) then (impl_sidneyBlocks.l1 k x0 x5 x6 x7 t319 (wrap64 (x9 + 1))) else (none)) else (if t326 = 0 then (if (t319.length : Int) > (x8.length : Int) then (if 0 < (t319.length : Int) then (impl_sidneyBlocks.l1 k x0 x5 x6 x7 t319 (wrap64 (x9 + 1))) else (none)) else (impl_sidneyBlocks.l1 k x0 x5 x6 x7 x8 (wrap64 (x9 + 1)))) else (impl_sidneyBlocks.l1 k x0 x5 x6 x7 x8 (wrap64 (x9 + 1))))))))))
end
def impl_sidneyBlocks.f (k : Nat) (l0 : List (S50)) (l1 : List (S53)) : Option ((List (List Int))) := (impl_closure.f k (l0.length : Int) l1).bind fun t311 => (impl_sidneyBlocks.l0 k l0 t311 ([] : List (List Int)) (wrap64 ((shl .i64 1 (l0.length : Int)) - 1)))
theorem impl_sidneyBlocks.mono_l : ∀ k, (∀ y0 y1 y2 y3, LeO (impl_sidneyBlocks.l0 k y0 y1 y2 y3) (impl_sidneyBlocks.l0 (k + 1) y0 y1 y2 y3)) ∧ (∀ y0 y1 y2 y3 y4 y5, LeO (impl_sidneyBlocks.l1 k y0 y1 y2 y3 y4 y5) (impl_sidneyBlocks.l1 (k + 1) y0 y1 y2 y3 y4 y5)) ∧ (∀ y0 y1 y2 y3 y4 y5 y6, LeO (impl_sidneyBlocks.j2 k y0 y1 y2 y3 y4 y5 y6) (impl_sidneyBlocks.j2 (k + 1) y0 y1 y2 y3 y4 y5 y6))
 | 0 => ⟨fun _ _ _ _ r h => by simp [impl_sidneyBlocks.l0] at h, fun _ _ _ _ _ _ r h => by simp [impl_sidneyBlocks.l1] at h, fun _ _ _ _ _ _ _ r h => by simp [impl_sidneyBlocks.j2] at h⟩
 | k + 1 => by
  obtain ⟨ih0, ih1, ih2⟩ := impl_sidneyBlocks.mono_l k
  refine ⟨?_, ?_, ?_⟩
  ·intro y0 y1 y2 y3
   unfold impl_sidneyBlocks.l0
   repeat' first
   | (with_reducible exact ih0 _ _ _ _)
   | (with_reducible exact ih1 _ _ _ _ _ _)
   | (with_reducible exact ih2 _ _ _ _ _ _ _)
   | (with_reducible exact impl_closure.mono _ _ _)
   | (with_reducible exact impl_isInitial.mono _ _ _ _)
   | (with_reducible exact impl_listOf.mono _ _)
   | (with_reducible exact impl_ratioOf.mono _ _ _)
   | (with_reducible exact impl_setOf.mono _ _)
   | (with_reducible exact LeO.refl _)
   | (with_reducible exact LeO.none _)
   | (with_reducible refine LeO.ite ?_ ?_)
   | (with_reducible refine LeO.bind ?_ (fun _ => ?_))
   | exact ih0 _ _ _ _
   | exact ih1 _ _ _ _ _ _
   | exact ih2 _ _ _ _ _ _ _
   | exact impl_closure.mono _ _ _
   | exact impl_isInitial.mono _ _ _ _
   | exact impl_listOf.mono _ _
   | exact impl_ratioOf.mono _ _ _
   | exact impl_setOf.mono _ _
   | exact LeO.none _
   | refine LeO.ite ?_ ?_
   | refine LeO.bind ?_ (fun _ => ?_)
  ·intro y0 y1 y2 y3 y4 y5
   unfold impl_sidneyBlocks.l1
   repeat' first
   | (with_reducible exact ih0 _ _ _ _)
   | (with_reducible exact ih1 _ _ _ _ _ _)
   | (with_reducible exact ih2 _ _ _ _ _ _ _)
   | (with_reducible exact impl_closure.mono _ _ _)
   | (with_reducible exact impl_isInitial.mono _ _ _ _)
   | (with_reducible exact impl_listOf.mono _ _)
   | (with_reducible exact impl_ratioOf.mono _ _ _)
   | (with_reducible exact impl_setOf.mono _ _)
   | (with_reducible exact LeO.refl _)
   | (with_reducible exact LeO.none _)
   | (with_reducible refine LeO.ite ?_ ?_)
   | (with_reducible refine LeO.bind ?_ (fun _ => ?_))
   | exact ih0 _ _ _ _
   | exact ih1 _ _ _ _ _ _
   | exact ih2 _ _ _ _ _ _ _
   | exact impl_closure.mono _ _ _
   | exact impl_isInitial.mono _ _ _ _
   | exact impl_listOf.mono _ _
   | exact impl_ratioOf.mono _ _ _
   | exact impl_setOf.mono _ _
   | exact LeO.none _
   | refine LeO.ite ?_ ?_
   | refine LeO.bind ?_ (fun _ => ?_)
  ·intro y0 y1 y2 y3 y4 y5 y6
   unfold impl_sidneyBlocks.j2
   repeat' first
   | (with_reducible exact ih0 _ _ _ _)
   | (with_reducible exact ih1 _ _ _ _ _ _)
   | (with_reducible exact ih2 _ _ _ _ _ _ _)
   | (with_reducible exact impl_closure.mono _ _ _)
   | (with_reducible exact impl_isInitial.mono _ _ _ _)
   | (with_reducible exact impl_listOf.mono _ _)
   | (with_reducible exact impl_ratioOf.mono _ _ _)
   | (with_reducible exact impl_setOf.mono _ _)
   | (with_reducible exact LeO.refl _)
   | (with_reducible exact LeO.none _)
   | (with_reducible refine LeO.ite ?_ ?_)
   | (with_reducible refine LeO.bind ?_ (fun _ => ?_))
   | exact ih0 _ _ _ _
   | exact ih1 _ _ _ _ _ _
   | exact ih2 _ _ _ _ _ _ _
   | exact impl_closure.mono _ _ _
   | exact impl_isInitial.mono _ _ _ _
   | exact impl_listOf.mono _ _
   | exact impl_ratioOf.mono _ _ _
   | exact impl_setOf.mono _ _
   | exact LeO.none _
   | refine LeO.ite ?_ ?_
   | refine LeO.bind ?_ (fun _ => ?_)
theorem impl_sidneyBlocks.mono : ∀ a0 a1 k, LeO (impl_sidneyBlocks.f k a0 a1) (impl_sidneyBlocks.f (k + 1) a0 a1) := by
 intro a0 a1 k
 obtain ⟨ih0, ih1, ih2⟩ := impl_sidneyBlocks.mono_l k
 unfold impl_sidneyBlocks.f
 repeat' first
   | (with_reducible exact ih0 _ _ _ _)
   | (with_reducible exact ih1 _ _ _ _ _ _)
   | (with_reducible exact ih2 _ _ _ _ _ _ _)
   | (with_reducible exact impl_closure.mono _ _ _)
   | (with_reducible exact impl_isInitial.mono _ _ _ _)
   | (with_reducible exact impl_listOf.mono _ _)
   | (with_reducible exact impl_ratioOf.mono _ _ _)
   | (with_reducible exact impl_setOf.mono _ _)
   | (with_reducible exact LeO.refl _)
   | (with_reducible exact LeO.none _)
   | (with_reducible refine LeO.ite ?_ ?_)
   | (with_reducible refine LeO.bind ?_ (fun _ => ?_))
   | exact ih0 _ _ _ _
   | exact ih1 _ _ _ _ _ _
   | exact ih2 _ _ _ _ _ _ _
   | exact impl_closure.mono _ _ _
   | exact impl_isInitial.mono _ _ _ _
   | exact impl_listOf.mono _ _
   | exact impl_ratioOf.mono _ _ _
   | exact impl_setOf.mono _ _
   | exact LeO.none _
   | refine LeO.ite ?_ ?_
   | refine LeO.bind ?_ (fun _ => ?_)
set_option maxHeartbeats 8000000 in
set_option maxRecDepth 100000 in
theorem impl_sidneyBlocks.calls (k : Nat) (A0 : Option Addr) (c0 : Nat) (l0 : List (S50)) (A1 : Option Addr) (c1 : Nat) (l1 : List (S53)) (r : List (List Int)) (w : World) (hr0 : Kd.C k50 w A0 l0.length l0) (hc0 : l0.length ≤ c0) (hr1 : Kd.C k53 w A1 l1.length l1) (hc1 : l1.length ≤ c1) (h : impl_sidneyBlocks.f k l0 l1 = some r) :
  Calls Try.prog 31 #[.slice A0 l0.length c0, .slice A1 l1.length c1] w fun e w' => ∃ v0_ : Value, e = .returned (v0_) ∧ Kd.S (Kd.slice 3 (Kd.int .i64)) 38 w' w.heap.size (fun _ => True) v0_ r ∧ Below w.heap.size w w' := by
 have HR0 := Aside0.mk hr0
 have HC0 := Aside0.mk hc0
 clear hr0 hc0
 have HR1 := Aside0.mk hr1
 have HC1 := Aside0.mk hc1
 clear hr1 hc1
 have HB := Aside0.mk (Below.refl w.heap.size w)
 have H : ((impl_closure.f k (l0.length : Int) l1).bind fun t311 => (impl_sidneyBlocks.l0 k l0 t311 ([] : List (List Int)) (wrap64 ((shl .i64 1 (l0.length : Int)) - 1)))) = some r := h
 clear h
 replace H := Option.bind_eq_some_iff.mp H
 obtain ⟨t311, A30, H⟩ := H
 replace H : (impl_sidneyBlocks.l0 k l0 t311 ([] : List (List Int)) (wrap64 ((shl .i64 1 (l0.length : Int)) - 1))) = some r := H
 have A3 := Aside0.mk A30
 clear A30
 obtain ⟨ji4, hji4⟩ : ∃ j_ : Int, (shl .i64 1 (l0.length : Int)) = j_ := ⟨_, rfl⟩
 replace H : (impl_sidneyBlocks.l0 k l0 t311 ([] : List (List Int)) (wrap64 ((ji4) - 1))) = some r := by first | (rw [hji4] at H; exact H) | (simp only [hji4] at H ⊢; exact H)
 (try rw [hji4] at A3)
 have hji4_ : (IntKind.i64.wrap (1 * 2 ^ min (l0.length : Int).toNat 64)) = ji4 := hji4
 have hji4z : (l0.length : Int) ≤ 64 → (IntKind.i64.wrap (1 * 2 ^ (l0.length : Int).toNat)) = ji4 := shl_small hji4
 have hji4p : (IntKind.i64.wrap (1 * 2 ^ min l0.length 64)) = ji4 := hji4_
 have hji4q : (l0.length : Int) ≤ 64 → (IntKind.i64.wrap (1 * 2 ^ l0.length)) = ji4 := hji4z
 have hji4r : (IntKind.i64.wrap (2 ^ min l0.length 64)) = ji4 := by have h_ := hji4p; rw [Int.one_mul] at h_; exact h_
 have hji4s : (l0.length : Int) ≤ 64 → (IntKind.i64.wrap (2 ^ l0.length)) = ji4 := fun hle_ => by have h_ := hji4q hle_; rw [Int.one_mul] at h_; exact h_
 have hji4u : (IntKind.i64.wrap (2 ^ min (l0.length : Int).toNat 64)) = ji4 := by have h_ := hji4_; rw [Int.one_mul] at h_; exact h_
 have hji4v : (l0.length : Int) ≤ 64 → (IntKind.i64.wrap (2 ^ (l0.length : Int).toNat)) = ji4 := fun hle_ => by have h_ := hji4z hle_; rw [Int.one_mul] at h_; exact h_
 have hji4y : (wrap64 (1 * 2 ^ min (l0.length : Int).toNat 64)) = ji4 := (i64_w _).symm.trans hji4_
 have hji4x : (l0.length : Int) ≤ 64 → (wrap64 (1 * 2 ^ (l0.length : Int).toNat)) = ji4 := fun h_ => (i64_w _).symm.trans (hji4z h_)
 have H' := Aside0.mk H
 clear H
 have hnl_ : ∀ (n c : Nat) (w : World), (Go.binOp .eql 38 (.slice none n c) (.slice none 0 0)).run Try.prog w = .ok (.bool true) w := by intros; kernel_rfl
 have hns_ : ∀ (a : Addr) (n c : Nat) (w : World), (Go.binOp .eql 38 (.slice (some a) n c) (.slice none 0 0)).run Try.prog w = .ok (.bool false) w := by intros; kernel_rfl
 go_enter Try.func31, Try.ntmps31
 go_wp2_with (first | ((with_reducible refine gate_callee (f := 51) rfl ?_); refine goesL_ (some 15) rfl rfl Try.func51 (by kernel_rfl) rfl #[.int .i64 (l0.length : Int), .slice A1 l1.length c1] rfl aE ?_; (with_reducible refine (impl_closure.calls k (l0.length : Int) _ _ l1 t311 _ ?side1 ?side2 A3.out).mono ?_); (case side1 => exact cK HR1.out); (case side2 => exact HC1.out); rintro e w5 ⟨v312, rfl, ho0, hb⟩; refine ⟨_, rfl, ?_⟩; have n0_ := Aside0.mk (Kd.S_lower ho0 (below_size bB)); have n1_ := Aside0.mk (below_step bB hb); clear HB; have HO313 := n0_; have HB := n1_; clear n0_ n1_; (try clear hb); (try clear hk); (try clear ho0)))
 go_loopg [6, 7] k (fun kq v6 v7 w' => ∃ (x6_1 : List (List Int)) (x7_1 : Int), v7 = .int .i64 x7_1 ∧ Aside0 (impl_sidneyBlocks.l0 kq l0 t311 x6_1 x7_1 = some r) ∧ Aside0 (kq ≤ k) ∧ Aside0 (Kd.S (Kd.slice 4 Kd.bool) 94 w' w.heap.size (fun _ => True) v312 t311) ∧ Aside0 (Kd.S (Kd.slice 3 (Kd.int .i64)) 38 w' w.heap.size (fun _ => True) v6 x6_1) ∧ Aside0 (Below w.heap.size w w'))
 case atStart => exact ⟨(([] : List (List Int))), (wrap64 ((ji4) - 1)), (by first | rfl | (simp; done) | (simp only [← hji4] <;> (first | rfl | simp)) | (simp [*]; done)), H', ⟨Nat.le_refl _⟩, ⟨kS⟩, ⟨by first | exact Kd.S_nil _ _ _ _ _ | exact Kd.N_nil _ _ _ _ _ | exact Kd.V_nil _ _ _ _ _ | exact Kd.Q_nil _ _ _ _ _ | exact Kd.R_nil _ _ _ _ _⟩, ⟨by repeat (first | (with_reducible first | exact HB.out | apply below_alloc | apply pw_below_drewN | apply below_drew1) | exact HB.out)⟩⟩
 case round =>
  clear H'
  try clear c1
  try clear p2
  try clear c3
  try clear c5
  obtain ⟨x6_1, x7_1, rfl, HA, HK1, HO_5, HO_6, HB⟩ := hrel
  cases gk with
  | zero => exact absurd HA.out (by simp [impl_sidneyBlocks.l0])
  | succ k1 =>
   have H := HA.out
   clear HA
   simp only [impl_sidneyBlocks.l0] at H
   by_cases c6 : x7_1 = 0
   ·rw [if_pos c6] at H
    have c6b0 : (x7_1 == 0) = true := beq_iff_eq.mpr c6
    have c6b1 : (x7_1 != 0) = false := bne_eq_false_iff_eq.mpr c6
    clear c6
    obtain rfl := Option.some.inj H
    go_wp2
    go_ret
    exact ⟨_, by first | rfl | (simp [errW_none, errW_some] <;> rfl) | (simp only [← hji4]; first | rfl | (simp [errW_none, errW_some] <;> rfl)) | (simp [*, errW_none, errW_some] <;> rfl), by (with_reducible repeat (first | apply Kd.S_alloc | apply Kd.S_drewN | apply Kd.S_drew)); exact HO_6.out, bB⟩
   ·rw [if_neg c6] at H
    have c6b0 : (x7_1 == 0) = false := beq_eq_false_iff_ne.mpr c6
    have c6b1 : (x7_1 != 0) = true := bne_iff_ne.mpr c6
    have H' := Aside0.mk H
    clear H
    go_wp2
    go_loopg [8, 9] k1 (fun kq v8 v9 w' => ∃ (x8_2 : List Int) (x9_2 : Int), v9 = .int .i64 x9_2 ∧ Aside0 (impl_sidneyBlocks.l1 kq l0 t311 x6_1 x7_1 x8_2 x9_2 = some r) ∧ Aside0 (kq ≤ k1) ∧ Aside0 (Kd.S (Kd.slice 4 Kd.bool) 94 w' w.heap.size (fun _ => True) v312 t311) ∧ Aside0 (Kd.S (Kd.slice 3 (Kd.int .i64)) 38 w' w.heap.size (fun k_ => some k_ ≠ (v8 : Value).ownBlock) u6 x6_1) ∧ Aside0 (Kd.R (Kd.int .i64) 3 w' w.heap.size (fun _ => True) v8 x8_2) ∧ Aside0 (Below w.heap.size w w') ∧ Aside0 (x8_2 = [] → v8 = .slice none 0 0))
    case atStart => exact ⟨(([] : List Int)), (1), sD, H', ⟨Nat.le_refl _⟩, ⟨kS⟩, ⟨by (with_reducible repeat (first | apply Kd.S_alloc | apply Kd.S_drewN | apply Kd.S_drew)); exact Kd.S_mono HO_6.out (fun _ hk => (by simp [Value.ownBlock]))⟩, ⟨by first | exact Kd.R_nil _ _ _ _ _ | exact Kd.N_nil _ _ _ _ _ | exact Kd.V_nil _ _ _ _ _ | exact Kd.Q_nil _ _ _ _ _ | exact Kd.S_nil _ _ _ _ _⟩, ⟨by repeat (first | (with_reducible first | exact HB.out | apply below_alloc | apply pw_below_drewN | apply below_drew1) | exact HB.out)⟩, ⟨fun _ => rfl⟩⟩
    case round =>
     clear H'
     try clear c1
     try clear p2
     try clear c3
     try clear c5
     try clear c6
     try clear c6b0
     try clear c6b1
     try clear p6
     try clear p2
     obtain ⟨x8_2, x9_2, rfl, HA, HK2, HO_5, HO_6, HO_8, HB, HN_8⟩ := hrel
     cases gk with
     | zero => exact absurd HA.out (by simp [impl_sidneyBlocks.l1])
     | succ k2 =>
      have H := HA.out
      clear HA
      simp only [impl_sidneyBlocks.l1] at H
      by_cases c7 : x9_2 ≤ x7_1
      ·rw [if_pos c7] at H
       have c7b0 : decide (x9_2 ≤ x7_1) = true := decide_eq_true c7
       clear c7
       have HC8 := Aside0.mk H
       clear H
       go_upto_region 9 with (fail)
       go_cut [37] (fun v37 wc => ∃ (kq : Nat) (x37_7 : Bool), v37 = .bool x37_7 ∧ Aside0 (impl_sidneyBlocks.j2 kq l0 t311 x6_1 x7_1 x8_2 x9_2 x37_7 = some r) ∧ Aside0 (kq ≤ k2) ∧ Aside0 (Kd.S (Kd.slice 4 Kd.bool) 94 wc w.heap.size (fun _ => True) v312 t311) ∧ Aside0 (Kd.S (Kd.slice 3 (Kd.int .i64)) 38 wc w.heap.size (fun k_ => some k_ ≠ (u8 : Value).ownBlock) u6 x6_1) ∧ Aside0 (Kd.R (Kd.int .i64) 3 wc w.heap.size (fun _ => True) u8 x8_2) ∧ Aside0 (Below w.heap.size w wc))
       case first =>
        have H := HC8.out
        clear HC8
        by_cases c9 : (Go.bits .andNot .i64 x9_2 x7_1) = 0
        ·rw [if_pos c9] at H
         have c9b0 : ((Go.bits .andNot .i64 x9_2 x7_1) == 0) = true := beq_iff_eq.mpr c9
         have c9b1 : ((Go.bits .andNot .i64 x9_2 x7_1) != 0) = false := bne_eq_false_iff_eq.mpr c9
         clear c9
         (first | rw [c9b0] | (simp only [i64_w, i32_w]; rw [c9b0]) | skip)
         replace H := Option.bind_eq_some_iff.mp H
         obtain ⟨t318, A100, H⟩ := H
         replace H : (impl_sidneyBlocks.j2 k2 l0 t311 x6_1 x7_1 x8_2 x9_2 (!t318)) = some r := H
         have A10 := Aside0.mk A100
         clear A100
         have H' := Aside0.mk H
         clear H
         obtain ⟨Ao11, co11, eo11⟩ := Kd.S_slice HO_5.out
         subst eo11
         go_wp2_with (first | (go_at_call 65; (with_reducible refine (impl_isInitial.calls k2 _ _ t311 x9_2 x7_1 t318 _ ?side1 ?side2 A10.out).mono ?_); (case side1 => exact cK ((Kd.S_reads' HO_5.out).2.2)); (case side2 => exact (Kd.S_reads' HO_5.out).2.1); rintro e w' ⟨rfl, ⟨nd, rfl⟩⟩))
         go_meet
         case rel => exact ⟨_, (!t318), sD, H', ⟨by have := HK1.out; have := HK2.out; first | omega | exact Nat.le_refl _⟩, ⟨kS⟩, ⟨kS⟩, ⟨kR⟩, ⟨by repeat (first | (with_reducible first | exact HB.out | apply below_alloc | apply pw_below_drewN | apply below_drew1) | exact HB.out)⟩⟩
        ·rw [if_neg c9] at H
         have c9b0 : ((Go.bits .andNot .i64 x9_2 x7_1) == 0) = false := beq_eq_false_iff_ne.mpr c9
         have c9b1 : ((Go.bits .andNot .i64 x9_2 x7_1) != 0) = true := bne_iff_ne.mpr c9
         (first | rw [c9b0] | (simp only [i64_w, i32_w]; rw [c9b0]) | skip)
         have H' := Aside0.mk H
         clear H
         go_wp2
         go_meet
         case rel => exact ⟨_, (true), sD, H', ⟨by have := HK1.out; have := HK2.out; first | omega | exact Nat.le_refl _⟩, ⟨kS⟩, ⟨kS⟩, ⟨kR⟩, ⟨by repeat (first | (with_reducible first | exact HB.out | apply below_alloc | apply pw_below_drewN | apply below_drew1) | exact HB.out)⟩⟩
       case rest =>
        clear HC8
        try clear c1
        try clear p2
        try clear c3
        try clear c5
        try clear c6
        try clear c6b0
        try clear c6b1
        try clear p6
        try clear c7
        try clear c7b0
        try clear c9
        try clear c9b0
        try clear c9b1
        try clear p2
        try clear p6
        obtain ⟨kq, x37_7, rfl, HA, HJ7, HO_5, HO_6, HO_8, HB⟩ := hcut
        cases kq with
        | zero => exact absurd HA.out (by simp [impl_sidneyBlocks.j2])
        | succ kj7 =>
         have H := HA.out
         clear HA
         simp only [impl_sidneyBlocks.j2] at H
         by_cases c12 : x37_7 = true
         ·subst c12
          have H1 : (impl_sidneyBlocks.l1 kj7 l0 t311 x6_1 x7_1 x8_2 (wrap64 (x9_2 + 1))) = some r := by rw [if_pos rfl] at H; exact H
          clear H
          have H := H1
          clear H1
          have H' := Aside0.mk H
          clear H
          go_wp2
          go_roundg kj7
          case measure => have := HK1.out; have := HK2.out; have := HJ7.out; omega
          case rel => exact ⟨(x8_2), (wrap64 (x9_2 + 1)), sD, H', ⟨by have := HK1.out; have := HK2.out; have := HJ7.out; omega⟩, ⟨kS⟩, ⟨kS⟩, ⟨kR⟩, ⟨by repeat (first | (with_reducible first | exact HB.out | apply below_alloc | apply pw_below_drewN | apply below_drew1) | exact HB.out)⟩, ⟨by first | exact HN_8.out | (intro h_; exact absurd h_ (by assumption))⟩⟩
         ·replace c12 := Bool.eq_false_iff.mpr c12
          subst c12
          have H1 : ((impl_listOf.f kj7 x9_2).bind fun t319 => (if (x8_2.length : Int) = 0 then (if 0 < (t319.length : Int) then (impl_sidneyBlocks.l1 kj7 l0 t311 x6_1 x7_1 t319 (wrap64 (x9_2 + 1))) else (none)) else ((impl_ratioOf.f kj7 l0 t319).bind fun bt322 => ((impl_ratioOf.f kj7 l0 x8_2).bind fun bt324 => ((impl_compareRatios.f bt322.1 bt322.2 bt324.1 bt324.2).bind fun t326 => (if t326 > 0 then (if 0 < (t319.length : Int) then (impl_sidneyBlocks.l1 kj7 l0 t311 x6_1 x7_1 t319 (wrap64 (x9_2 + 1))) else (none)) else (if t326 = 0 then (if (t319.length : Int) > (x8_2.length : Int) then (if 0 < (t319.length : Int) then (impl_sidneyBlocks.l1 kj7 l0 t311 x6_1 x7_1 t319 (wrap64 (x9_2 + 1))) else (none)) else (impl_sidneyBlocks.l1 kj7 l0 t311 x6_1 x7_1 x8_2 (wrap64 (x9_2 + 1)))) else (impl_sidneyBlocks.l1 kj7 l0 t311 x6_1 x7_1 x8_2 (wrap64 (x9_2 + 1)))))))))) = some r := by rw [if_neg (show ¬ (false = true) by decide)] at H; exact H
          clear H
          have H := H1
          clear H1
          replace H := Option.bind_eq_some_iff.mp H
          obtain ⟨t319, A130, H⟩ := H
          replace H : (if (x8_2.length : Int) = 0 then (if 0 < (t319.length : Int) then (impl_sidneyBlocks.l1 kj7 l0 t311 x6_1 x7_1 t319 (wrap64 (x9_2 + 1))) else (none)) else ((impl_ratioOf.f kj7 l0 t319).bind fun bt322 => ((impl_ratioOf.f kj7 l0 x8_2).bind fun bt324 => ((impl_compareRatios.f bt322.1 bt322.2 bt324.1 bt324.2).bind fun t326 => (if t326 > 0 then (if 0 < (t319.length : Int) then (impl_sidneyBlocks.l1 kj7 l0 t311 x6_1 x7_1 t319 (wrap64 (x9_2 + 1))) else (none)) else (if t326 = 0 then (if (t319.length : Int) > (x8_2.length : Int) then (if 0 < (t319.length : Int) then (impl_sidneyBlocks.l1 kj7 l0 t311 x6_1 x7_1 t319 (wrap64 (x9_2 + 1))) else (none)) else (impl_sidneyBlocks.l1 kj7 l0 t311 x6_1 x7_1 x8_2 (wrap64 (x9_2 + 1)))) else (impl_sidneyBlocks.l1 kj7 l0 t311 x6_1 x7_1 x8_2 (wrap64 (x9_2 + 1))))))))) = some r := H
          have A13 := Aside0.mk A130
          clear A130
          by_cases c14 : (x8_2.length : Int) = 0
          ·rw [if_pos c14] at H
           obtain ⟨A_, c_, e_⟩ := Kd.R_slice HO_8.out
           subst e_
           have e2_ := HN_8.out (List.eq_nil_of_length_eq_zero (by omega))
           injection e2_ with e3_ _ _
           subst e3_
           have c14b0 : ((x8_2.length : Int) == 0) = true := beq_iff_eq.mpr c14
           have c14b1 : ((x8_2.length : Int) != 0) = false := bne_eq_false_iff_eq.mpr c14
           clear c14
           by_cases c15 : 0 < (t319.length : Int); rotate_left
           ·rw [if_neg c15] at H; exact absurd H (by simp)
           rw [if_pos c15] at H
           have c15b0 := eq_true c15
           have c15b1 : decide (0 < (t319.length : Int)) = true := decide_eq_true c15
           clear c15
           have H' := Aside0.mk H
           clear H
           go_wp2_with (first | ((with_reducible refine gate_callee (f := 66) rfl ?_); refine goesL_ (some 39) rfl rfl Try.func66 (by kernel_rfl) rfl #[.int .i64 x9_2] rfl aE ?_; (with_reducible refine (impl_listOf.calls kj7 x9_2 t319 _ A13.out).mono ?_); rintro e w16 ⟨v320, rfl, ho0, hb⟩; refine ⟨_, rfl, ?_⟩; have n0_ := Aside0.mk (sB HO_5 hb); have n1_ := Aside0.mk (Kd.S_elder' (by (with_reducible repeat (first | apply Kd.S_alloc | apply Kd.S_drewN | apply Kd.S_drew)); exact HO_6.out) (Kd.R_base ho0) hb); have n2_ := Aside0.mk (Kd.R_elder' (by (with_reducible repeat (first | apply Kd.R_alloc | apply Kd.R_drewN | apply Kd.R_drew)); exact HO_8.out) (Kd.R_base ho0) hb); have n3_ := Aside0.mk (Kd.R_lower (Kd.R_new' ho0 (Kd.R_lt (by (with_reducible repeat (first | apply Kd.R_alloc | apply Kd.R_drewN | apply Kd.R_drew)); exact HO_8.out))) (below_size bB)); have n4_ := Aside0.mk (below_step bB hb); clear HO_5; clear HO_6; clear HO_8; clear HB; have HO_5 := n0_; have HO_6 := n1_; have HO_8 := n2_; have HO321 := n3_; have HB := n4_; clear n0_ n1_ n2_ n3_ n4_; (try clear hb); (try clear hk); (try clear ho0)))
           go_roundg kj7
           case measure => have := HK1.out; have := HK2.out; have := HJ7.out; omega
           case rel => exact ⟨(t319), (wrap64 (x9_2 + 1)), sD, H', ⟨by have := HK1.out; have := HK2.out; have := HJ7.out; omega⟩, ⟨kS⟩, ⟨by (with_reducible repeat (first | apply Kd.S_alloc | apply Kd.S_drewN | apply Kd.S_drew)); exact Kd.S_mono HO_6.out (fun _ hk => hk.2)⟩, ⟨by (with_reducible repeat (first | apply Kd.R_alloc | apply Kd.R_drewN | apply Kd.R_drew)); exact Kd.R_mono HO321.out (fun _ hk => trivial)⟩, ⟨by repeat (first | (with_reducible first | exact HB.out | apply below_alloc | apply pw_below_drewN | apply below_drew1) | exact HB.out)⟩, ⟨fun h_ => by have h0_ : 0 < ((t319).length : Int) := oD; rw [h_] at h0_; simp at h0_⟩⟩
          ·rw [if_neg c14] at H
           obtain ⟨A_, c_, e_⟩ := Kd.R_slice HO_8.out
           subst e_
           have hnA_ : ∀ (n c : Nat) (w : World), (Go.binOp .eql 38 (.slice A_ n c) (.slice none 0 0)).run Try.prog w = .ok (.bool false) w := by obtain ⟨a_, e2_, _⟩ := Kd.at_int (Kd.R_reads' HO_8.out).2.2 0 (by omega) (by omega); cases e2_; exact hns_ a_
           have c14b0 : ((x8_2.length : Int) == 0) = false := beq_eq_false_iff_ne.mpr c14
           have c14b1 : ((x8_2.length : Int) != 0) = true := bne_iff_ne.mpr c14
           have c14b2 : ¬ (x8_2 = []) := fun h_ => c14 (by rw [h_]; rfl)
           replace H := Option.bind_eq_some_iff.mp H
           obtain ⟨⟨t322, t323⟩, A170, H⟩ := H
           replace H : ((impl_ratioOf.f kj7 l0 x8_2).bind fun bt324 => ((impl_compareRatios.f t322 t323 bt324.1 bt324.2).bind fun t326 => (if t326 > 0 then (if 0 < (t319.length : Int) then (impl_sidneyBlocks.l1 kj7 l0 t311 x6_1 x7_1 t319 (wrap64 (x9_2 + 1))) else (none)) else (if t326 = 0 then (if (t319.length : Int) > (x8_2.length : Int) then (if 0 < (t319.length : Int) then (impl_sidneyBlocks.l1 kj7 l0 t311 x6_1 x7_1 t319 (wrap64 (x9_2 + 1))) else (none)) else (impl_sidneyBlocks.l1 kj7 l0 t311 x6_1 x7_1 x8_2 (wrap64 (x9_2 + 1)))) else (impl_sidneyBlocks.l1 kj7 l0 t311 x6_1 x7_1 x8_2 (wrap64 (x9_2 + 1))))))) = some r := H
           have A17 := Aside0.mk A170
           clear A170
           replace H := Option.bind_eq_some_iff.mp H
           obtain ⟨⟨t324, t325⟩, A180, H⟩ := H
           replace H : ((impl_compareRatios.f t322 t323 t324 t325).bind fun t326 => (if t326 > 0 then (if 0 < (t319.length : Int) then (impl_sidneyBlocks.l1 kj7 l0 t311 x6_1 x7_1 t319 (wrap64 (x9_2 + 1))) else (none)) else (if t326 = 0 then (if (t319.length : Int) > (x8_2.length : Int) then (if 0 < (t319.length : Int) then (impl_sidneyBlocks.l1 kj7 l0 t311 x6_1 x7_1 t319 (wrap64 (x9_2 + 1))) else (none)) else (impl_sidneyBlocks.l1 kj7 l0 t311 x6_1 x7_1 x8_2 (wrap64 (x9_2 + 1)))) else (impl_sidneyBlocks.l1 kj7 l0 t311 x6_1 x7_1 x8_2 (wrap64 (x9_2 + 1)))))) = some r := H
           have A18 := Aside0.mk A180
           clear A180
           replace H := Option.bind_eq_some_iff.mp H
           obtain ⟨t326, A190, H⟩ := H
           replace H : (if t326 > 0 then (if 0 < (t319.length : Int) then (impl_sidneyBlocks.l1 kj7 l0 t311 x6_1 x7_1 t319 (wrap64 (x9_2 + 1))) else (none)) else (if t326 = 0 then (if (t319.length : Int) > (x8_2.length : Int) then (if 0 < (t319.length : Int) then (impl_sidneyBlocks.l1 kj7 l0 t311 x6_1 x7_1 t319 (wrap64 (x9_2 + 1))) else (none)) else (impl_sidneyBlocks.l1 kj7 l0 t311 x6_1 x7_1 x8_2 (wrap64 (x9_2 + 1)))) else (impl_sidneyBlocks.l1 kj7 l0 t311 x6_1 x7_1 x8_2 (wrap64 (x9_2 + 1))))) = some r := H
           have A19 := Aside0.mk A190
           clear A190
           by_cases c20 : t326 > 0
           ·rw [if_pos c20] at H
            have c20b0 : decide (0 < t326) = true := decide_eq_true c20
            clear c20
            by_cases c21 : 0 < (t319.length : Int); rotate_left
            ·rw [if_neg c21] at H; exact absurd H (by simp)
            rw [if_pos c21] at H
            have c21b0 := eq_true c21
            have c21b1 : decide (0 < (t319.length : Int)) = true := decide_eq_true c21
            clear c21
            have H' := Aside0.mk H
            clear H
            go_wp2_with (first | ((with_reducible refine gate_callee (f := 66) rfl ?_); refine goesL_ (some 39) rfl rfl Try.func66 (by kernel_rfl) rfl #[.int .i64 x9_2] rfl aE ?_; (with_reducible refine (impl_listOf.calls kj7 x9_2 t319 _ A13.out).mono ?_); rintro e w22 ⟨v320, rfl, ho0, hb⟩; refine ⟨_, rfl, ?_⟩; have n0_ := Aside0.mk (sB HO_5 hb); have n1_ := Aside0.mk (Kd.S_elder' (by (with_reducible repeat (first | apply Kd.S_alloc | apply Kd.S_drewN | apply Kd.S_drew)); exact HO_6.out) (Kd.R_base ho0) hb); have n2_ := Aside0.mk (Kd.R_elder' (by (with_reducible repeat (first | apply Kd.R_alloc | apply Kd.R_drewN | apply Kd.R_drew)); exact HO_8.out) (Kd.R_base ho0) hb); have n3_ := Aside0.mk (Kd.R_lower (Kd.R_new' ho0 (Kd.R_lt (by (with_reducible repeat (first | apply Kd.R_alloc | apply Kd.R_drewN | apply Kd.R_drew)); exact HO_8.out))) (below_size bB)); have n4_ := Aside0.mk (below_step bB hb); clear HO_5; clear HO_6; clear HO_8; clear HB; have HO_5 := n0_; have HO_6 := n1_; have HO_8 := n2_; have HO321 := n3_; have HB := n4_; clear n0_ n1_ n2_ n3_ n4_; (try clear hb); (try clear hk); (try clear ho0); obtain ⟨Ao23, co23, eo23⟩ := Kd.R_slice HO321.out; subst eo23) | ((with_reducible refine gate_callee (f := 68) rfl ?_); refine goesL_ (some 45) rfl rfl Try.func68 (by kernel_rfl) rfl #[.slice A0 l0.length c0, .slice Ao23 t319.length co23] rfl aE ?_; (with_reducible refine (impl_ratioOf.calls kj7 _ _ l0 _ _ t319 t322 t323 _ ?side1 ?side2 ?side3 ?side4 A17.out).mono ?_); (case side1 => exact cK ((Kd.C_below HR0.out HB.out))); (case side2 => exact HC0.out); (case side3 => exact cK ((Kd.R_reads' HO321.out).2.2)); (case side4 => exact (Kd.R_reads' HO321.out).2.1); rintro e w24 ⟨rfl, hb⟩; refine ⟨_, rfl, ?_⟩; have n0_ := Aside0.mk (sB HO_5 hb); have n1_ := Aside0.mk (sB HO_6 hb); have n2_ := Aside0.mk (rB HO_8 hb); have n3_ := Aside0.mk (rB HO321 hb); have n4_ := Aside0.mk (below_step bB hb); clear HO_5; clear HO_6; clear HO_8; clear HO321; clear HB; have HO_5 := n0_; have HO_6 := n1_; have HO_8 := n2_; have HO321 := n3_; have HB := n4_; clear n0_ n1_ n2_ n3_ n4_; (try clear hb); (try clear hk); obtain ⟨Ao25, co25, eo25⟩ := Kd.R_slice HO_8.out; (first | subst eo25 | (injection eo25 with f1_ f2_ f3_; have f4_ := f1_.symm; have f5_ := f3_.symm; clear f1_ f2_ f3_; subst f4_; subst f5_))) | ((with_reducible refine gate_callee (f := 68) rfl ?_); refine goesL_ (some 48) rfl rfl Try.func68 (by kernel_rfl) rfl #[.slice A0 l0.length c0, .slice Ao25 x8_2.length co25] rfl aE ?_; (with_reducible refine (impl_ratioOf.calls kj7 _ _ l0 _ _ x8_2 t324 t325 _ ?side1 ?side2 ?side3 ?side4 A18.out).mono ?_); (case side1 => exact cK ((Kd.C_below HR0.out HB.out))); (case side2 => exact HC0.out); (case side3 => exact cK ((Kd.R_reads' HO_8.out).2.2)); (case side4 => exact (Kd.R_reads' HO_8.out).2.1); rintro e w26 ⟨rfl, hb⟩; refine ⟨_, rfl, ?_⟩; have n0_ := Aside0.mk (sB HO_5 hb); have n1_ := Aside0.mk (sB HO_6 hb); have n2_ := Aside0.mk (rB HO_8 hb); have n3_ := Aside0.mk (rB HO321 hb); have n4_ := Aside0.mk (below_step bB hb); clear HO_5; clear HO_6; clear HO_8; clear HO321; clear HB; have HO_5 := n0_; have HO_6 := n1_; have HO_8 := n2_; have HO321 := n3_; have HB := n4_; clear n0_ n1_ n2_ n3_ n4_; (try clear hb); (try clear hk)) | ((with_reducible refine gate_callee (f := 67) rfl ?_); refine goesL_ (some 49) rfl rfl Try.func67 (by kernel_rfl) rfl #[.agg #[.int .i64 t322, .int .i64 t323], .agg #[.int .i64 t324, .int .i64 t325]] rfl aE ?_; (with_reducible refine (impl_compareRatios.calls t322 t323 t324 t325 t326 _ A19.out).mono ?_); rintro e w27 ⟨rfl, hb⟩; refine ⟨_, rfl, ?_⟩; have n0_ := Aside0.mk (sB HO_5 hb); have n1_ := Aside0.mk (sB HO_6 hb); have n2_ := Aside0.mk (rB HO_8 hb); have n3_ := Aside0.mk (rB HO321 hb); have n4_ := Aside0.mk (below_step bB hb); clear HO_5; clear HO_6; clear HO_8; clear HO321; clear HB; have HO_5 := n0_; have HO_6 := n1_; have HO_8 := n2_; have HO321 := n3_; have HB := n4_; clear n0_ n1_ n2_ n3_ n4_; (try clear hb); (try clear hk)))
            go_roundg kj7
            case measure => have := HK1.out; have := HK2.out; have := HJ7.out; omega
            case rel => exact ⟨(t319), (wrap64 (x9_2 + 1)), sD, H', ⟨by have := HK1.out; have := HK2.out; have := HJ7.out; omega⟩, ⟨kS⟩, ⟨by (with_reducible repeat (first | apply Kd.S_alloc | apply Kd.S_drewN | apply Kd.S_drew)); exact Kd.S_mono HO_6.out (fun _ hk => hk.2)⟩, ⟨by (with_reducible repeat (first | apply Kd.R_alloc | apply Kd.R_drewN | apply Kd.R_drew)); exact Kd.R_mono HO321.out (fun _ hk => trivial)⟩, ⟨by repeat (first | (with_reducible first | exact HB.out | apply below_alloc | apply pw_below_drewN | apply below_drew1) | exact HB.out)⟩, ⟨fun h_ => by have h0_ : 0 < ((t319).length : Int) := oD; rw [h_] at h0_; simp at h0_⟩⟩
           ·rw [if_neg c20] at H
            have c20b0 : decide (0 < t326) = false := decide_eq_false c20
            clear c20
            by_cases c28 : t326 = 0
            ·rw [if_pos c28] at H
             have c28b0 : (t326 == 0) = true := beq_iff_eq.mpr c28
             have c28b1 : (t326 != 0) = false := bne_eq_false_iff_eq.mpr c28
             clear c28
             by_cases c29 : (t319.length : Int) > (x8_2.length : Int)
             ·rw [if_pos c29] at H
              have c29b0 : decide ((x8_2.length : Int) < (t319.length : Int)) = true := decide_eq_true c29
              have c29b1 : decide (x8_2.length < t319.length) = true := decide_eq_true (Int.ofNat_lt.mp c29)
              clear c29
              by_cases c30 : 0 < (t319.length : Int); rotate_left
              ·rw [if_neg c30] at H; exact absurd H (by simp)
              rw [if_pos c30] at H
              have c30b0 := eq_true c30
              have c30b1 : decide (0 < (t319.length : Int)) = true := decide_eq_true c30
              clear c30
              have H' := Aside0.mk H
              clear H
              go_wp2_with (first | ((with_reducible refine gate_callee (f := 66) rfl ?_); refine goesL_ (some 39) rfl rfl Try.func66 (by kernel_rfl) rfl #[.int .i64 x9_2] rfl aE ?_; (with_reducible refine (impl_listOf.calls kj7 x9_2 t319 _ A13.out).mono ?_); rintro e w31 ⟨v320, rfl, ho0, hb⟩; refine ⟨_, rfl, ?_⟩; have n0_ := Aside0.mk (sB HO_5 hb); have n1_ := Aside0.mk (Kd.S_elder' (by (with_reducible repeat (first | apply Kd.S_alloc | apply Kd.S_drewN | apply Kd.S_drew)); exact HO_6.out) (Kd.R_base ho0) hb); have n2_ := Aside0.mk (Kd.R_elder' (by (with_reducible repeat (first | apply Kd.R_alloc | apply Kd.R_drewN | apply Kd.R_drew)); exact HO_8.out) (Kd.R_base ho0) hb); have n3_ := Aside0.mk (Kd.R_lower (Kd.R_new' ho0 (Kd.R_lt (by (with_reducible repeat (first | apply Kd.R_alloc | apply Kd.R_drewN | apply Kd.R_drew)); exact HO_8.out))) (below_size bB)); have n4_ := Aside0.mk (below_step bB hb); clear HO_5; clear HO_6; clear HO_8; clear HB; have HO_5 := n0_; have HO_6 := n1_; have HO_8 := n2_; have HO321 := n3_; have HB := n4_; clear n0_ n1_ n2_ n3_ n4_; (try clear hb); (try clear hk); (try clear ho0); obtain ⟨Ao32, co32, eo32⟩ := Kd.R_slice HO321.out; subst eo32) | ((with_reducible refine gate_callee (f := 68) rfl ?_); refine goesL_ (some 45) rfl rfl Try.func68 (by kernel_rfl) rfl #[.slice A0 l0.length c0, .slice Ao32 t319.length co32] rfl aE ?_; (with_reducible refine (impl_ratioOf.calls kj7 _ _ l0 _ _ t319 t322 t323 _ ?side1 ?side2 ?side3 ?side4 A17.out).mono ?_); (case side1 => exact cK ((Kd.C_below HR0.out HB.out))); (case side2 => exact HC0.out); (case side3 => exact cK ((Kd.R_reads' HO321.out).2.2)); (case side4 => exact (Kd.R_reads' HO321.out).2.1); rintro e w33 ⟨rfl, hb⟩; refine ⟨_, rfl, ?_⟩; have n0_ := Aside0.mk (sB HO_5 hb); have n1_ := Aside0.mk (sB HO_6 hb); have n2_ := Aside0.mk (rB HO_8 hb); have n3_ := Aside0.mk (rB HO321 hb); have n4_ := Aside0.mk (below_step bB hb); clear HO_5; clear HO_6; clear HO_8; clear HO321; clear HB; have HO_5 := n0_; have HO_6 := n1_; have HO_8 := n2_; have HO321 := n3_; have HB := n4_; clear n0_ n1_ n2_ n3_ n4_; (try clear hb); (try clear hk); obtain ⟨Ao34, co34, eo34⟩ := Kd.R_slice HO_8.out; (first | subst eo34 | (injection eo34 with f1_ f2_ f3_; have f4_ := f1_.symm; have f5_ := f3_.symm; clear f1_ f2_ f3_; subst f4_; subst f5_))) | ((with_reducible refine gate_callee (f := 68) rfl ?_); refine goesL_ (some 48) rfl rfl Try.func68 (by kernel_rfl) rfl #[.slice A0 l0.length c0, .slice Ao34 x8_2.length co34] rfl aE ?_; (with_reducible refine (impl_ratioOf.calls kj7 _ _ l0 _ _ x8_2 t324 t325 _ ?side1 ?side2 ?side3 ?side4 A18.out).mono ?_); (case side1 => exact cK ((Kd.C_below HR0.out HB.out))); (case side2 => exact HC0.out); (case side3 => exact cK ((Kd.R_reads' HO_8.out).2.2)); (case side4 => exact (Kd.R_reads' HO_8.out).2.1); rintro e w35 ⟨rfl, hb⟩; refine ⟨_, rfl, ?_⟩; have n0_ := Aside0.mk (sB HO_5 hb); have n1_ := Aside0.mk (sB HO_6 hb); have n2_ := Aside0.mk (rB HO_8 hb); have n3_ := Aside0.mk (rB HO321 hb); have n4_ := Aside0.mk (below_step bB hb); clear HO_5; clear HO_6; clear HO_8; clear HO321; clear HB; have HO_5 := n0_; have HO_6 := n1_; have HO_8 := n2_; have HO321 := n3_; have HB := n4_; clear n0_ n1_ n2_ n3_ n4_; (try clear hb); (try clear hk)) | ((with_reducible refine gate_callee (f := 67) rfl ?_); refine goesL_ (some 49) rfl rfl Try.func67 (by kernel_rfl) rfl #[.agg #[.int .i64 t322, .int .i64 t323], .agg #[.int .i64 t324, .int .i64 t325]] rfl aE ?_; (with_reducible refine (impl_compareRatios.calls t322 t323 t324 t325 t326 _ A19.out).mono ?_); rintro e w36 ⟨rfl, hb⟩; refine ⟨_, rfl, ?_⟩; have n0_ := Aside0.mk (sB HO_5 hb); have n1_ := Aside0.mk (sB HO_6 hb); have n2_ := Aside0.mk (rB HO_8 hb); have n3_ := Aside0.mk (rB HO321 hb); have n4_ := Aside0.mk (below_step bB hb); clear HO_5; clear HO_6; clear HO_8; clear HO321; clear HB; have HO_5 := n0_; have HO_6 := n1_; have HO_8 := n2_; have HO321 := n3_; have HB := n4_; clear n0_ n1_ n2_ n3_ n4_; (try clear hb); (try clear hk)))
              go_roundg kj7
              case measure => have := HK1.out; have := HK2.out; have := HJ7.out; omega
              case rel => exact ⟨(t319), (wrap64 (x9_2 + 1)), sD, H', ⟨by have := HK1.out; have := HK2.out; have := HJ7.out; omega⟩, ⟨kS⟩, ⟨by (with_reducible repeat (first | apply Kd.S_alloc | apply Kd.S_drewN | apply Kd.S_drew)); exact Kd.S_mono HO_6.out (fun _ hk => hk.2)⟩, ⟨by (with_reducible repeat (first | apply Kd.R_alloc | apply Kd.R_drewN | apply Kd.R_drew)); exact Kd.R_mono HO321.out (fun _ hk => trivial)⟩, ⟨by repeat (first | (with_reducible first | exact HB.out | apply below_alloc | apply pw_below_drewN | apply below_drew1) | exact HB.out)⟩, ⟨fun h_ => by have h0_ : 0 < ((t319).length : Int) := oD; rw [h_] at h0_; simp at h0_⟩⟩
             ·rw [if_neg c29] at H
              have c29b0 : decide ((x8_2.length : Int) < (t319.length : Int)) = false := decide_eq_false c29
              have c29b1 : decide (x8_2.length < t319.length) = false := decide_eq_false (fun h => c29 (Int.ofNat_lt.mpr h))
              clear c29
              have H' := Aside0.mk H
              clear H
              go_wp2_with (first | ((with_reducible refine gate_callee (f := 66) rfl ?_); refine goesL_ (some 39) rfl rfl Try.func66 (by kernel_rfl) rfl #[.int .i64 x9_2] rfl aE ?_; (with_reducible refine (impl_listOf.calls kj7 x9_2 t319 _ A13.out).mono ?_); rintro e w37 ⟨v320, rfl, ho0, hb⟩; refine ⟨_, rfl, ?_⟩; have n0_ := Aside0.mk (sB HO_5 hb); have n1_ := Aside0.mk (Kd.S_elder' (by (with_reducible repeat (first | apply Kd.S_alloc | apply Kd.S_drewN | apply Kd.S_drew)); exact HO_6.out) (Kd.R_base ho0) hb); have n2_ := Aside0.mk (Kd.R_elder' (by (with_reducible repeat (first | apply Kd.R_alloc | apply Kd.R_drewN | apply Kd.R_drew)); exact HO_8.out) (Kd.R_base ho0) hb); have n3_ := Aside0.mk (Kd.R_lower (Kd.R_new' ho0 (Kd.R_lt (by (with_reducible repeat (first | apply Kd.R_alloc | apply Kd.R_drewN | apply Kd.R_drew)); exact HO_8.out))) (below_size bB)); have n4_ := Aside0.mk (below_step bB hb); clear HO_5; clear HO_6; clear HO_8; clear HB; have HO_5 := n0_; have HO_6 := n1_; have HO_8 := n2_; have HO321 := n3_; have HB := n4_; clear n0_ n1_ n2_ n3_ n4_; (try clear hb); (try clear hk); (try clear ho0); obtain ⟨Ao38, co38, eo38⟩ := Kd.R_slice HO321.out; subst eo38) | ((with_reducible refine gate_callee (f := 68) rfl ?_); refine goesL_ (some 45) rfl rfl Try.func68 (by kernel_rfl) rfl #[.slice A0 l0.length c0, .slice Ao38 t319.length co38] rfl aE ?_; (with_reducible refine (impl_ratioOf.calls kj7 _ _ l0 _ _ t319 t322 t323 _ ?side1 ?side2 ?side3 ?side4 A17.out).mono ?_); (case side1 => exact cK ((Kd.C_below HR0.out HB.out))); (case side2 => exact HC0.out); (case side3 => exact cK ((Kd.R_reads' HO321.out).2.2)); (case side4 => exact (Kd.R_reads' HO321.out).2.1); rintro e w39 ⟨rfl, hb⟩; refine ⟨_, rfl, ?_⟩; have n0_ := Aside0.mk (sB HO_5 hb); have n1_ := Aside0.mk (sB HO_6 hb); have n2_ := Aside0.mk (rB HO_8 hb); have n3_ := Aside0.mk (rB HO321 hb); have n4_ := Aside0.mk (below_step bB hb); clear HO_5; clear HO_6; clear HO_8; clear HO321; clear HB; have HO_5 := n0_; have HO_6 := n1_; have HO_8 := n2_; have HO321 := n3_; have HB := n4_; clear n0_ n1_ n2_ n3_ n4_; (try clear hb); (try clear hk); obtain ⟨Ao40, co40, eo40⟩ := Kd.R_slice HO_8.out; (first | subst eo40 | (injection eo40 with f1_ f2_ f3_; have f4_ := f1_.symm; have f5_ := f3_.symm; clear f1_ f2_ f3_; subst f4_; subst f5_))) | ((with_reducible refine gate_callee (f := 68) rfl ?_); refine goesL_ (some 48) rfl rfl Try.func68 (by kernel_rfl) rfl #[.slice A0 l0.length c0, .slice Ao40 x8_2.length co40] rfl aE ?_; (with_reducible refine (impl_ratioOf.calls kj7 _ _ l0 _ _ x8_2 t324 t325 _ ?side1 ?side2 ?side3 ?side4 A18.out).mono ?_); (case side1 => exact cK ((Kd.C_below HR0.out HB.out))); (case side2 => exact HC0.out); (case side3 => exact cK ((Kd.R_reads' HO_8.out).2.2)); (case side4 => exact (Kd.R_reads' HO_8.out).2.1); rintro e w41 ⟨rfl, hb⟩; refine ⟨_, rfl, ?_⟩; have n0_ := Aside0.mk (sB HO_5 hb); have n1_ := Aside0.mk (sB HO_6 hb); have n2_ := Aside0.mk (rB HO_8 hb); have n3_ := Aside0.mk (rB HO321 hb); have n4_ := Aside0.mk (below_step bB hb); clear HO_5; clear HO_6; clear HO_8; clear HO321; clear HB; have HO_5 := n0_; have HO_6 := n1_; have HO_8 := n2_; have HO321 := n3_; have HB := n4_; clear n0_ n1_ n2_ n3_ n4_; (try clear hb); (try clear hk)) | ((with_reducible refine gate_callee (f := 67) rfl ?_); refine goesL_ (some 49) rfl rfl Try.func67 (by kernel_rfl) rfl #[.agg #[.int .i64 t322, .int .i64 t323], .agg #[.int .i64 t324, .int .i64 t325]] rfl aE ?_; (with_reducible refine (impl_compareRatios.calls t322 t323 t324 t325 t326 _ A19.out).mono ?_); rintro e w42 ⟨rfl, hb⟩; refine ⟨_, rfl, ?_⟩; have n0_ := Aside0.mk (sB HO_5 hb); have n1_ := Aside0.mk (sB HO_6 hb); have n2_ := Aside0.mk (rB HO_8 hb); have n3_ := Aside0.mk (rB HO321 hb); have n4_ := Aside0.mk (below_step bB hb); clear HO_5; clear HO_6; clear HO_8; clear HO321; clear HB; have HO_5 := n0_; have HO_6 := n1_; have HO_8 := n2_; have HO321 := n3_; have HB := n4_; clear n0_ n1_ n2_ n3_ n4_; (try clear hb); (try clear hk)))
              go_roundg kj7
              case measure => have := HK1.out; have := HK2.out; have := HJ7.out; omega
              case rel => exact ⟨(x8_2), (wrap64 (x9_2 + 1)), sD, H', ⟨by have := HK1.out; have := HK2.out; have := HJ7.out; omega⟩, ⟨kS⟩, ⟨by (with_reducible repeat (first | apply Kd.S_alloc | apply Kd.S_drewN | apply Kd.S_drew)); exact Kd.S_mono HO_6.out (fun _ hk => hk.1)⟩, ⟨by (with_reducible repeat (first | apply Kd.R_alloc | apply Kd.R_drewN | apply Kd.R_drew)); exact Kd.R_mono HO_8.out (fun _ hk => trivial)⟩, ⟨by repeat (first | (with_reducible first | exact HB.out | apply below_alloc | apply pw_below_drewN | apply below_drew1) | exact HB.out)⟩, ⟨by first | exact HN_8.out | (intro h_; exact absurd h_ (by assumption))⟩⟩
            ·rw [if_neg c28] at H
             have c28b0 : (t326 == 0) = false := beq_eq_false_iff_ne.mpr c28
             have c28b1 : (t326 != 0) = true := bne_iff_ne.mpr c28
             have H' := Aside0.mk H
             clear H
             go_wp2_with (first | ((with_reducible refine gate_callee (f := 66) rfl ?_); refine goesL_ (some 39) rfl rfl Try.func66 (by kernel_rfl) rfl #[.int .i64 x9_2] rfl aE ?_; (with_reducible refine (impl_listOf.calls kj7 x9_2 t319 _ A13.out).mono ?_); rintro e w43 ⟨v320, rfl, ho0, hb⟩; refine ⟨_, rfl, ?_⟩; have n0_ := Aside0.mk (sB HO_5 hb); have n1_ := Aside0.mk (Kd.S_elder' (by (with_reducible repeat (first | apply Kd.S_alloc | apply Kd.S_drewN | apply Kd.S_drew)); exact HO_6.out) (Kd.R_base ho0) hb); have n2_ := Aside0.mk (Kd.R_elder' (by (with_reducible repeat (first | apply Kd.R_alloc | apply Kd.R_drewN | apply Kd.R_drew)); exact HO_8.out) (Kd.R_base ho0) hb); have n3_ := Aside0.mk (Kd.R_lower (Kd.R_new' ho0 (Kd.R_lt (by (with_reducible repeat (first | apply Kd.R_alloc | apply Kd.R_drewN | apply Kd.R_drew)); exact HO_8.out))) (below_size bB)); have n4_ := Aside0.mk (below_step bB hb); clear HO_5; clear HO_6; clear HO_8; clear HB; have HO_5 := n0_; have HO_6 := n1_; have HO_8 := n2_; have HO321 := n3_; have HB := n4_; clear n0_ n1_ n2_ n3_ n4_; (try clear hb); (try clear hk); (try clear ho0); obtain ⟨Ao44, co44, eo44⟩ := Kd.R_slice HO321.out; subst eo44) | ((with_reducible refine gate_callee (f := 68) rfl ?_); refine goesL_ (some 45) rfl rfl Try.func68 (by kernel_rfl) rfl #[.slice A0 l0.length c0, .slice Ao44 t319.length co44] rfl aE ?_; (with_reducible refine (impl_ratioOf.calls kj7 _ _ l0 _ _ t319 t322 t323 _ ?side1 ?side2 ?side3 ?side4 A17.out).mono ?_); (case side1 => exact cK ((Kd.C_below HR0.out HB.out))); (case side2 => exact HC0.out); (case side3 => exact cK ((Kd.R_reads' HO321.out).2.2)); (case side4 => exact (Kd.R_reads' HO321.out).2.1); rintro e w45 ⟨rfl, hb⟩; refine ⟨_, rfl, ?_⟩; have n0_ := Aside0.mk (sB HO_5 hb); have n1_ := Aside0.mk (sB HO_6 hb); have n2_ := Aside0.mk (rB HO_8 hb); have n3_ := Aside0.mk (rB HO321 hb); have n4_ := Aside0.mk (below_step bB hb); clear HO_5; clear HO_6; clear HO_8; clear HO321; clear HB; have HO_5 := n0_; have HO_6 := n1_; have HO_8 := n2_; have HO321 := n3_; have HB := n4_; clear n0_ n1_ n2_ n3_ n4_; (try clear hb); (try clear hk); obtain ⟨Ao46, co46, eo46⟩ := Kd.R_slice HO_8.out; (first | subst eo46 | (injection eo46 with f1_ f2_ f3_; have f4_ := f1_.symm; have f5_ := f3_.symm; clear f1_ f2_ f3_; subst f4_; subst f5_))) | ((with_reducible refine gate_callee (f := 68) rfl ?_); refine goesL_ (some 48) rfl rfl Try.func68 (by kernel_rfl) rfl #[.slice A0 l0.length c0, .slice Ao46 x8_2.length co46] rfl aE ?_; (with_reducible refine (impl_ratioOf.calls kj7 _ _ l0 _ _ x8_2 t324 t325 _ ?side1 ?side2 ?side3 ?side4 A18.out).mono ?_); (case side1 => exact cK ((Kd.C_below HR0.out HB.out))); (case side2 => exact HC0.out); (case side3 => exact cK ((Kd.R_reads' HO_8.out).2.2)); (case side4 => exact (Kd.R_reads' HO_8.out).2.1); rintro e w47 ⟨rfl, hb⟩; refine ⟨_, rfl, ?_⟩; have n0_ := Aside0.mk (sB HO_5 hb); have n1_ := Aside0.mk (sB HO_6 hb); have n2_ := Aside0.mk (rB HO_8 hb); have n3_ := Aside0.mk (rB HO321 hb); have n4_ := Aside0.mk (below_step bB hb); clear HO_5; clear HO_6; clear HO_8; clear HO321; clear HB; have HO_5 := n0_; have HO_6 := n1_; have HO_8 := n2_; have HO321 := n3_; have HB := n4_; clear n0_ n1_ n2_ n3_ n4_; (try clear hb); (try clear hk)) | ((with_reducible refine gate_callee (f := 67) rfl ?_); refine goesL_ (some 49) rfl rfl Try.func67 (by kernel_rfl) rfl #[.agg #[.int .i64 t322, .int .i64 t323], .agg #[.int .i64 t324, .int .i64 t325]] rfl aE ?_; (with_reducible refine (impl_compareRatios.calls t322 t323 t324 t325 t326 _ A19.out).mono ?_); rintro e w48 ⟨rfl, hb⟩; refine ⟨_, rfl, ?_⟩; have n0_ := Aside0.mk (sB HO_5 hb); have n1_ := Aside0.mk (sB HO_6 hb); have n2_ := Aside0.mk (rB HO_8 hb); have n3_ := Aside0.mk (rB HO321 hb); have n4_ := Aside0.mk (below_step bB hb); clear HO_5; clear HO_6; clear HO_8; clear HO321; clear HB; have HO_5 := n0_; have HO_6 := n1_; have HO_8 := n2_; have HO321 := n3_; have HB := n4_; clear n0_ n1_ n2_ n3_ n4_; (try clear hb); (try clear hk)))
             go_roundg kj7
             case measure => have := HK1.out; have := HK2.out; have := HJ7.out; omega
             case rel => exact ⟨(x8_2), (wrap64 (x9_2 + 1)), sD, H', ⟨by have := HK1.out; have := HK2.out; have := HJ7.out; omega⟩, ⟨kS⟩, ⟨by (with_reducible repeat (first | apply Kd.S_alloc | apply Kd.S_drewN | apply Kd.S_drew)); exact Kd.S_mono HO_6.out (fun _ hk => hk.1)⟩, ⟨by (with_reducible repeat (first | apply Kd.R_alloc | apply Kd.R_drewN | apply Kd.R_drew)); exact Kd.R_mono HO_8.out (fun _ hk => trivial)⟩, ⟨by repeat (first | (with_reducible first | exact HB.out | apply below_alloc | apply pw_below_drewN | apply below_drew1) | exact HB.out)⟩, ⟨by first | exact HN_8.out | (intro h_; exact absurd h_ (by assumption))⟩⟩
      ·rw [if_neg c7] at H
       have c7b0 : decide (x9_2 ≤ x7_1) = false := decide_eq_false c7
       clear c7
       by_cases c49 : x6_1.length < 5864062014805; rotate_left
       ·rw [if_neg c49] at H; exact absurd H (by simp)
       rw [if_pos c49] at H
       have LMc49 := Aside0.mk c49
       clear c49
       obtain ⟨y314, hy314⟩ : ∃ y_ : List (List Int), y_ = (x6_1 ++ [x8_2]) := ⟨_, rfl⟩
       replace H : ((impl_setOf.f k2 x8_2).bind fun t317 => (impl_sidneyBlocks.l0 k2 l0 t311 y314 (Go.bits .andNot .i64 x7_1 t317))) = some r := by first | (rw [hy314]; with_reducible exact H) | (have H2_ := (Option.bind_some _ _).symm.trans H; rw [hy314]; with_reducible exact H2_) | (have H2_ := (Option.bind_some _ _).symm.trans H; with_reducible exact H2_) | with_reducible exact H | (rw [hy314]; exact H) | exact H
       have Ny314 := Aside0.mk hy314
       clear hy314
       replace H := Option.bind_eq_some_iff.mp H
       obtain ⟨t317, A500, H⟩ := H
       replace H : (impl_sidneyBlocks.l0 k2 l0 t311 y314 (Go.bits .andNot .i64 x7_1 t317)) = some r := H
       have A50 := Aside0.mk A500
       clear A500
       have H' := Aside0.mk H
       clear H
       obtain ⟨Ao52, co52, eo52⟩ := Kd.R_slice HO_8.out
       (first | subst eo52 | (injection eo52 with f1_ f2_ f3_; have f4_ := f1_.symm; have f5_ := f3_.symm; clear f1_ f2_ f3_; subst f4_; subst f5_))
       go_wp2_with (first | ((with_reducible refine gate_builtin (b := .append) (xs := #[.tmp 64, .tmp 66]) rfl ?_); (try (refine gate_guard (by rfl) ?_; dsimp only)); at_builtin; refine Kd.S_append (Kd.slice 3 (Kd.int .i64)) (w0 := w) w.heap.size rfl (.tmp 64) (.tmp 66) 26 38 (.slice none 0 0) 24 rfl Try.underlying26 info38 rfl (by decide) (by omega) u6 x6_1 x8_2 [.slice Ao52 x8_2.length co52] (fun _ => True) (fun k_ => some k_ = (.slice Ao52 x8_2.length co52 : Value).ownBlock) rfl rfl ?aP (fun k_ hk_ => ((Kd.R_mono (ok' := fun k_ => ((fun _ => True)) k_ ∧ some k_ ≠ (u6 : Value).ownBlock) (Kd.R_apart' (HO_8.out) (Kd.S_typed HO_6.out) (by decide)) (fun k_ hk => ⟨trivial, hk.2⟩))).1 k_ hk_.symm) ?aF ?aO ?aB ?aS ?aL ?_; (case aP => exact Kd.M_row (Kd.R_mono (Kd.R_tight rfl (Kd.R_mono (ok' := fun k_ => ((fun _ => True)) k_ ∧ some k_ ≠ (u6 : Value).ownBlock) (Kd.R_apart' (HO_8.out) (Kd.S_typed HO_6.out) (by decide)) (fun k_ hk => ⟨trivial, hk.2⟩))) (fun _ h_ => h_))); (case aB => exact bB); (case aF => exact (fun _ _ => trivial)); (case aO => exact (by (with_reducible repeat (first | apply Kd.S_alloc | apply Kd.S_drewN | apply Kd.S_drew)); exact Kd.S_mono HO_6.out (fun k_ hk => ⟨trivial, fun e_ => hk e_⟩))); (case aS => exact (below_size bB)); (case aL => have := LMc49.out; omega); intro v315 w51 ho hb hg hat; rw [← Ny314.out] at ho; have n0_ := Aside0.mk (Kd.S_over' (by (with_reducible repeat (first | apply Kd.S_alloc | apply Kd.S_drewN | apply Kd.S_drew)); exact HO_5.out) (Kd.S_typed (by (with_reducible repeat (first | apply Kd.S_alloc | apply Kd.S_drewN | apply Kd.S_drew)); exact HO_6.out)) (by decide) hg); have n1_ := Aside0.mk (hb); have n2_ := Aside0.mk (ho); have n9_ := Aside0.mk (Kd.R_over' (by (with_reducible repeat (first | apply Kd.R_alloc | apply Kd.R_drewN | apply Kd.R_drew)); exact HO_8.out) (Kd.S_typed (by (with_reducible repeat (first | apply Kd.S_alloc | apply Kd.S_drewN | apply Kd.S_drew)); exact HO_6.out)) (by decide) hg); clear HO_5; clear HB; clear HO_6; clear HO_8; have HO_5 := n0_; have HB := n1_; have HO316 := n2_; have HO_8 := n9_; clear n0_ n1_ n2_ n9_; clear ho hb hg hat) | ((with_reducible refine gate_callee (f := 45) rfl ?_); refine goesL_ (some 70) rfl rfl Try.func45 (by kernel_rfl) rfl #[.slice Ao52 x8_2.length co52] rfl aE ?_; (with_reducible refine (impl_setOf.calls k2 _ _ x8_2 t317 _ ?side1 ?side2 A50.out).mono ?_); (case side1 => exact cK ((Kd.R_reads' HO_8.out).2.2)); (case side2 => exact (Kd.R_reads' HO_8.out).2.1); rintro e w' ⟨rfl, ⟨nd, rfl⟩⟩; refine ⟨_, rfl, ?_⟩))
       go_roundg k2
       case measure => have := HK1.out; have := HK2.out; omega
       case rel => exact ⟨(y314), (Go.bits .andNot .i64 x7_1 t317), sD, H', ⟨by have := HK1.out; have := HK2.out; omega⟩, ⟨kS⟩, ⟨kS⟩, ⟨by repeat (first | (with_reducible first | exact HB.out | apply below_alloc | apply pw_below_drewN | apply below_drew1) | exact HB.out)⟩⟩

/-! ### impl_SidneyBlocks: function 11 -/
def impl_SidneyBlocks.f (k : Nat) (l0 : List (S50)) (l1 : List (S53)) : Option ((List (List Int)) × Bool) := (impl_isPreceded.f k l0 l1).bind fun t327 => (if t327 = true then ((impl_sidneyBlocks.f k l0 l1).bind fun t328 => (some (t328, true))) else (some (([] : List (List Int)), false)))
theorem impl_SidneyBlocks.mono : ∀ a0 a1 k, LeO (impl_SidneyBlocks.f k a0 a1) (impl_SidneyBlocks.f (k + 1) a0 a1) := by
 intro a0 a1 k
 unfold impl_SidneyBlocks.f
 repeat' first
   | (with_reducible exact impl_isPreceded.mono _ _ _)
   | (with_reducible exact impl_sidneyBlocks.mono _ _ _)
   | (with_reducible exact LeO.refl _)
   | (with_reducible exact LeO.none _)
   | (with_reducible refine LeO.ite ?_ ?_)
   | (with_reducible refine LeO.bind ?_ (fun _ => ?_))
   | exact impl_isPreceded.mono _ _ _
   | exact impl_sidneyBlocks.mono _ _ _
   | exact LeO.none _
   | refine LeO.ite ?_ ?_
   | refine LeO.bind ?_ (fun _ => ?_)
set_option maxHeartbeats 8000000 in
set_option maxRecDepth 100000 in
theorem impl_SidneyBlocks.calls (k : Nat) (A0 : Option Addr) (c0 : Nat) (l0 : List (S50)) (A1 : Option Addr) (c1 : Nat) (l1 : List (S53)) (r1 : List (List Int)) (r2 : Bool) (w : World) (hr0 : Kd.C k50 w A0 l0.length l0) (hc0 : l0.length ≤ c0) (hr1 : Kd.C k53 w A1 l1.length l1) (hc1 : l1.length ≤ c1) (h : impl_SidneyBlocks.f k l0 l1 = some (r1, r2)) :
  Calls Try.prog 11 #[.slice A0 l0.length c0, .slice A1 l1.length c1] w fun e w' => ∃ v0_ : Value, e = .returned (.tuple #[v0_, .bool r2]) ∧ Kd.S (Kd.slice 3 (Kd.int .i64)) 38 w' w.heap.size (fun _ => True) v0_ r1 ∧ Below w.heap.size w w' := by
 have HR0 := Aside0.mk hr0
 have HC0 := Aside0.mk hc0
 clear hr0 hc0
 have HR1 := Aside0.mk hr1
 have HC1 := Aside0.mk hc1
 clear hr1 hc1
 have HB := Aside0.mk (Below.refl w.heap.size w)
 have H : ((impl_isPreceded.f k l0 l1).bind fun t327 => (if t327 = true then ((impl_sidneyBlocks.f k l0 l1).bind fun t328 => (some (t328, true))) else (some (([] : List (List Int)), false)))) = some (r1, r2) := h
 clear h
 replace H := Option.bind_eq_some_iff.mp H
 obtain ⟨t327, A30, H⟩ := H
 replace H : (if t327 = true then ((impl_sidneyBlocks.f k l0 l1).bind fun t328 => (some (t328, true))) else (some (([] : List (List Int)), false))) = some (r1, r2) := H
 have A3 := Aside0.mk A30
 clear A30
 by_cases c4 : t327 = true
 ·subst c4
  have H1 : ((impl_sidneyBlocks.f k l0 l1).bind fun t328 => (some (t328, true))) = some (r1, r2) := by rw [if_pos rfl] at H; exact H
  clear H
  have H := H1
  clear H1
  replace H := Option.bind_eq_some_iff.mp H
  obtain ⟨t328, A50, H⟩ := H
  replace H : (some (t328, true)) = some (r1, r2) := H
  have A5 := Aside0.mk A50
  clear A50
  simp only [Option.some.injEq, Prod.mk.injEq] at H
  obtain ⟨rfl, rfl⟩ := H
  go_enter Try.func11, Try.ntmps11
  go_wp2_with (first | ((with_reducible refine gate_callee (f := 30) rfl ?_); refine goesL_ (some 8) rfl rfl Try.func30 (by kernel_rfl) rfl #[.slice A0 l0.length c0, .slice A1 l1.length c1] rfl aE ?_; (with_reducible refine (impl_isPreceded.calls k _ _ l0 _ _ l1 true _ ?side1 ?side2 ?side3 ?side4 A3.out).mono ?_); (case side1 => exact cK HR0.out); (case side2 => exact HC0.out); (case side3 => exact cK HR1.out); (case side4 => exact HC1.out); rintro e w6 ⟨rfl, hb⟩; refine ⟨_, rfl, ?_⟩; have n0_ := Aside0.mk (below_step bB hb); clear HB; have HB := n0_; clear n0_; (try clear hb)) | ((with_reducible refine gate_callee (f := 31) rfl ?_); refine goesL_ (some 12) rfl rfl Try.func31 (by kernel_rfl) rfl #[.slice A0 l0.length c0, .slice A1 l1.length c1] rfl aE ?_; (with_reducible refine (impl_sidneyBlocks.calls k _ _ l0 _ _ l1 t328 _ ?side1 ?side2 ?side3 ?side4 A5.out).mono ?_); (case side1 => exact cK ((Kd.C_below HR0.out HB.out))); (case side2 => exact HC0.out); (case side3 => exact cK ((Kd.C_below HR1.out HB.out))); (case side4 => exact HC1.out); rintro e w7 ⟨v329, rfl, ho0, hb⟩; refine ⟨_, rfl, ?_⟩; have n0_ := Aside0.mk (Kd.S_lower ho0 (below_size bB)); have n1_ := Aside0.mk (below_step bB hb); clear HB; have HO330 := n0_; have HB := n1_; clear n0_ n1_; (try clear hb); (try clear ho0)))
  go_ret2
  exact ⟨_, by first | rfl | (simp [errW_none, errW_some] <;> rfl) | (simp [*, errW_none, errW_some] <;> rfl), by (with_reducible repeat (first | apply Kd.S_alloc | apply Kd.S_drewN | apply Kd.S_drew)); exact HO330.out, bB⟩
 ·replace c4 := Bool.eq_false_iff.mpr c4
  subst c4
  have H1 : (some (([] : List (List Int)), false)) = some (r1, r2) := by rw [if_neg (show ¬ (false = true) by decide)] at H; exact H
  clear H
  have H := H1
  clear H1
  simp only [Option.some.injEq, Prod.mk.injEq] at H
  obtain ⟨rfl, rfl⟩ := H
  go_enter Try.func11, Try.ntmps11
  go_wp2_with (first | ((with_reducible refine gate_callee (f := 30) rfl ?_); refine goesL_ (some 8) rfl rfl Try.func30 (by kernel_rfl) rfl #[.slice A0 l0.length c0, .slice A1 l1.length c1] rfl aE ?_; (with_reducible refine (impl_isPreceded.calls k _ _ l0 _ _ l1 false _ ?side1 ?side2 ?side3 ?side4 A3.out).mono ?_); (case side1 => exact cK HR0.out); (case side2 => exact HC0.out); (case side3 => exact cK HR1.out); (case side4 => exact HC1.out); rintro e w8 ⟨rfl, hb⟩; refine ⟨_, rfl, ?_⟩; have n0_ := Aside0.mk (below_step bB hb); clear HB; have HB := n0_; clear n0_; (try clear hb)))
  go_ret2
  exact ⟨_, by first | rfl | (simp [errW_none, errW_some] <;> rfl) | (simp [*, errW_none, errW_some] <;> rfl), by first | exact Kd.S_nil _ _ _ _ _ | exact Kd.N_nil _ _ _ _ _ | exact Kd.V_nil _ _ _ _ _ | exact Kd.Q_nil _ _ _ _ _ | exact Kd.R_nil _ _ _ _ _, bB⟩

/-! ### laws_eqIntS: function 21 -/
def laws_eqIntS.l0 : Nat → List Int → List Int → Int → Option (Bool)
 | 0, _, _, _ => none
 | k + 1, x0, x1, x5 => if x5 < (x0.length : Int) then (if 0 ≤ x5 then (if x5 < (x1.length : Int) then (if (rd x0 x5) = (rd x1 x5) then (laws_eqIntS.l0 k x0 x1 (wrap64 (x5 + 1))) else (some false)) else (none)) else (none)) else (some true)
def laws_eqIntS.f (k : Nat) (l0 : List Int) (l1 : List Int) : Option (Bool) := if (l0.length : Int) = (l1.length : Int) then (laws_eqIntS.l0 k l0 l1 0) else (some false)
theorem laws_eqIntS.mono_l : ∀ k, (∀ y0 y1 y2, LeO (laws_eqIntS.l0 k y0 y1 y2) (laws_eqIntS.l0 (k + 1) y0 y1 y2))
 | 0 => fun _ _ _ r h => by simp [laws_eqIntS.l0] at h
 | k + 1 => by
  have ih0 := laws_eqIntS.mono_l k
  ·intro y0 y1 y2
   unfold laws_eqIntS.l0
   repeat' first
   | (with_reducible exact ih0 _ _ _)
   | (with_reducible exact LeO.refl _)
   | (with_reducible exact LeO.none _)
   | (with_reducible refine LeO.ite ?_ ?_)
   | (with_reducible refine LeO.bind ?_ (fun _ => ?_))
   | exact ih0 _ _ _
   | exact LeO.none _
   | refine LeO.ite ?_ ?_
   | refine LeO.bind ?_ (fun _ => ?_)
theorem laws_eqIntS.mono : ∀ a0 a1 k, LeO (laws_eqIntS.f k a0 a1) (laws_eqIntS.f (k + 1) a0 a1) := by
 intro a0 a1 k
 have ih0 := laws_eqIntS.mono_l k
 unfold laws_eqIntS.f
 repeat' first
   | (with_reducible exact ih0 _ _ _)
   | (with_reducible exact LeO.refl _)
   | (with_reducible exact LeO.none _)
   | (with_reducible refine LeO.ite ?_ ?_)
   | (with_reducible refine LeO.bind ?_ (fun _ => ?_))
   | exact ih0 _ _ _
   | exact LeO.none _
   | refine LeO.ite ?_ ?_
   | refine LeO.bind ?_ (fun _ => ?_)
set_option maxHeartbeats 8000000 in
set_option maxRecDepth 100000 in
theorem laws_eqIntS.calls (k : Nat) (A0 : Option Addr) (c0 : Nat) (l0 : List Int) (A1 : Option Addr) (c1 : Nat) (l1 : List Int) (r : Bool) (w : World) (hr0 : Kd.C (Kd.int .i64) w A0 l0.length l0) (hc0 : l0.length ≤ c0) (hr1 : Kd.C (Kd.int .i64) w A1 l1.length l1) (hc1 : l1.length ≤ c1) (h : laws_eqIntS.f k l0 l1 = some r) :
  Calls Try.prog 21 #[.slice A0 l0.length c0, .slice A1 l1.length c1] w fun e w' => e = .returned (.bool r) ∧ Drawn0 w w' := by
 have HR0 := Aside0.mk hr0
 have HC0 := Aside0.mk hc0
 clear hr0 hc0
 have HR1 := Aside0.mk hr1
 have HC1 := Aside0.mk hc1
 clear hr1 hc1
 have H : (if (l0.length : Int) = (l1.length : Int) then (laws_eqIntS.l0 k l0 l1 0) else (some false)) = some r := h
 clear h
 by_cases c3 : (l0.length : Int) = (l1.length : Int)
 ·rw [if_pos c3] at H
  have c3b0 : ((l0.length : Int) == (l1.length : Int)) = true := beq_iff_eq.mpr c3
  have c3b1 : ((l0.length : Int) != (l1.length : Int)) = false := bne_eq_false_iff_eq.mpr c3
  have c3b2 : (l0.length == l1.length) = true := by first | simpa using c3 | (simp at c3 ⊢; omega)
  clear c3
  have H' := Aside0.mk H
  clear H
  go_enter Try.func21, Try.ntmps21
  go_wp2
  repeat (go_quiet (fail); try go_wp2)
  go_loopg [5] k (fun kq v5 w' => ∃ (x5_1 : Int), v5 = .int .i64 x5_1 ∧ Aside0 (laws_eqIntS.l0 kq l0 l1 x5_1 = some r) ∧ Aside0 (kq ≤ k) ∧ Drawn0 w w')
  case atStart => exact ⟨(0), sD, H', ⟨Nat.le_refl _⟩, by repeat (first | exact Drawn0.refl _ | apply Drawn0.step)⟩
  case round =>
   clear H'
   try clear c1
   try clear c2
   try clear p2
   try clear c3
   try clear c3b0
   try clear c3b1
   try clear c3b2
   obtain ⟨x5_1, rfl, HA, HK1, ⟨m1, rfl⟩⟩ := hrel
   cases gk with
   | zero => exact absurd HA.out (by simp [laws_eqIntS.l0])
   | succ k1 =>
    have H := HA.out
    clear HA
    simp only [laws_eqIntS.l0] at H
    by_cases c4 : x5_1 < (l0.length : Int)
    ·rw [if_pos c4] at H
     have c4b0 : decide (x5_1 < (l0.length : Int)) = true := decide_eq_true c4
     clear c4
     by_cases c5 : 0 ≤ x5_1; rotate_left
     ·rw [if_neg c5] at H; exact absurd H (by simp)
     rw [if_pos c5] at H
     have c5b0 : decide (0 ≤ x5_1) = true := decide_eq_true c5
     clear c5
     by_cases c6 : x5_1 < (l1.length : Int); rotate_left
     ·rw [if_neg c6] at H; exact absurd H (by simp)
     rw [if_pos c6] at H
     have c6b0 : decide (x5_1 < (l1.length : Int)) = true := decide_eq_true c6
     clear c6
     by_cases c7 : (rd l0 x5_1) = (rd l1 x5_1)
     ·rw [if_pos c7] at H
      have c7b0 : ((rd l0 x5_1) == (rd l1 x5_1)) = true := beq_iff_eq.mpr c7
      have c7b1 : ((rd l0 x5_1) != (rd l1 x5_1)) = false := bne_eq_false_iff_eq.mpr c7
      clear c7
      have H' := Aside0.mk H
      clear H
      have p331 : 0 ≤ (x5_1 : Int) := oD
      have q331 : x5_1 < (l0.length : Int) := oD
      obtain ⟨ad331, e331, hx331_0⟩ := Kd.at_int HR0.out x5_1 p331 q331
      cases e331
      replace p331 := eq_true p331
      replace q331 := eq_true q331
      have p332 : 0 ≤ (x5_1 : Int) := oD
      have q332 : x5_1 < (l1.length : Int) := oD
      obtain ⟨ad332, e332, hx332_0⟩ := Kd.at_int HR1.out x5_1 p332 q332
      cases e332
      replace p332 := eq_true p332
      replace q332 := eq_true q332
      go_wp2
      repeat (go_quiet (fail); try go_wp2)
      go_roundg k1
      case measure => have := HK1.out; omega
      case rel => exact ⟨(wrap64 (x5_1 + 1)), sD, H', ⟨by have := HK1.out; omega⟩, by repeat (first | exact Drawn0.refl _ | apply Drawn0.step)⟩
     ·rw [if_neg c7] at H
      have c7b0 : ((rd l0 x5_1) == (rd l1 x5_1)) = false := beq_eq_false_iff_ne.mpr c7
      have c7b1 : ((rd l0 x5_1) != (rd l1 x5_1)) = true := bne_iff_ne.mpr c7
      obtain rfl := Option.some.inj H
      have p331 : 0 ≤ (x5_1 : Int) := oD
      have q331 : x5_1 < (l0.length : Int) := oD
      obtain ⟨ad331, e331, hx331_0⟩ := Kd.at_int HR0.out x5_1 p331 q331
      cases e331
      replace p331 := eq_true p331
      replace q331 := eq_true q331
      have p332 : 0 ≤ (x5_1 : Int) := oD
      have q332 : x5_1 < (l1.length : Int) := oD
      obtain ⟨ad332, e332, hx332_0⟩ := Kd.at_int HR1.out x5_1 p332 q332
      cases e332
      replace p332 := eq_true p332
      replace q332 := eq_true q332
      go_wp2
      repeat (go_quiet (fail); try go_wp2)
      go_ret
      exact ⟨by first | rfl | (simp; done) | (simp [*]; done), by repeat (first | exact Drawn0.refl _ | apply Drawn0.step)⟩
    ·rw [if_neg c4] at H
     have c4b0 : decide (x5_1 < (l0.length : Int)) = false := decide_eq_false c4
     clear c4
     obtain rfl := Option.some.inj H
     go_wp2
     repeat (go_quiet (fail); try go_wp2)
     go_ret
     exact ⟨by first | rfl | (simp; done) | (simp [*]; done), by repeat (first | exact Drawn0.refl _ | apply Drawn0.step)⟩
 ·rw [if_neg c3] at H
  have c3b0 : ((l0.length : Int) == (l1.length : Int)) = false := beq_eq_false_iff_ne.mpr c3
  have c3b1 : ((l0.length : Int) != (l1.length : Int)) = true := bne_iff_ne.mpr c3
  have c3b2 : (l0.length == l1.length) = false := by first | simpa using c3 | (simp at c3 ⊢; omega)
  obtain rfl := Option.some.inj H
  go_enter Try.func21, Try.ntmps21
  go_wp2
  repeat (go_quiet (fail); try go_wp2)
  go_ret
  exact ⟨by first | rfl | (simp; done) | (simp [*]; done), by repeat (first | exact Drawn0.refl _ | apply Drawn0.step)⟩

/-! ### laws_eqIntSS: function 12 -/
def laws_eqIntSS.l0 : Nat → List (List Int) → List (List Int) → Int → Option (Bool)
 | 0, _, _, _ => none
 | k + 1, x0, x1, x5 => if x5 < (x0.length : Int) then (if 0 ≤ x5 then (if x5 < (x1.length : Int) then ((laws_eqIntS.f k (rd_L6 x0 x5) (rd_L6 x1 x5)).bind fun t335 => (if t335 = true then (laws_eqIntSS.l0 k x0 x1 (wrap64 (x5 + 1))) else (some false))) else (none)) else (none)) else (some true)
def laws_eqIntSS.f (k : Nat) (l0 : List (List Int)) (l1 : List (List Int)) : Option (Bool) := if (l0.length : Int) = (l1.length : Int) then (laws_eqIntSS.l0 k l0 l1 0) else (some false)
theorem laws_eqIntSS.mono_l : ∀ k, (∀ y0 y1 y2, LeO (laws_eqIntSS.l0 k y0 y1 y2) (laws_eqIntSS.l0 (k + 1) y0 y1 y2))
 | 0 => fun _ _ _ r h => by simp [laws_eqIntSS.l0] at h
 | k + 1 => by
  have ih0 := laws_eqIntSS.mono_l k
  ·intro y0 y1 y2
   unfold laws_eqIntSS.l0
   repeat' first
   | (with_reducible exact ih0 _ _ _)
   | (with_reducible exact laws_eqIntS.mono _ _ _)
   | (with_reducible exact LeO.refl _)
   | (with_reducible exact LeO.none _)
   | (with_reducible refine LeO.ite ?_ ?_)
   | (with_reducible refine LeO.bind ?_ (fun _ => ?_))
   | exact ih0 _ _ _
   | exact laws_eqIntS.mono _ _ _
   | exact LeO.none _
   | refine LeO.ite ?_ ?_
   | refine LeO.bind ?_ (fun _ => ?_)
theorem laws_eqIntSS.mono : ∀ a0 a1 k, LeO (laws_eqIntSS.f k a0 a1) (laws_eqIntSS.f (k + 1) a0 a1) := by
 intro a0 a1 k
 have ih0 := laws_eqIntSS.mono_l k
 unfold laws_eqIntSS.f
 repeat' first
   | (with_reducible exact ih0 _ _ _)
   | (with_reducible exact laws_eqIntS.mono _ _ _)
   | (with_reducible exact LeO.refl _)
   | (with_reducible exact LeO.none _)
   | (with_reducible refine LeO.ite ?_ ?_)
   | (with_reducible refine LeO.bind ?_ (fun _ => ?_))
   | exact ih0 _ _ _
   | exact laws_eqIntS.mono _ _ _
   | exact LeO.none _
   | refine LeO.ite ?_ ?_
   | refine LeO.bind ?_ (fun _ => ?_)
set_option maxHeartbeats 8000000 in
set_option maxRecDepth 100000 in
theorem laws_eqIntSS.calls (k : Nat) (A0 : Option Addr) (c0 : Nat) (l0 : List (List Int)) (A1 : Option Addr) (c1 : Nat) (l1 : List (List Int)) (r : Bool) (w : World) (hr0 : Kd.C (Kd.slice 3 (Kd.int .i64)) w A0 l0.length l0) (hc0 : l0.length ≤ c0) (hr1 : Kd.C (Kd.slice 3 (Kd.int .i64)) w A1 l1.length l1) (hc1 : l1.length ≤ c1) (h : laws_eqIntSS.f k l0 l1 = some r) :
  Calls Try.prog 12 #[.slice A0 l0.length c0, .slice A1 l1.length c1] w fun e w' => e = .returned (.bool r) ∧ Drawn0 w w' := by
 have HR0 := Aside0.mk hr0
 have HC0 := Aside0.mk hc0
 clear hr0 hc0
 have HR1 := Aside0.mk hr1
 have HC1 := Aside0.mk hc1
 clear hr1 hc1
 have H : (if (l0.length : Int) = (l1.length : Int) then (laws_eqIntSS.l0 k l0 l1 0) else (some false)) = some r := h
 clear h
 by_cases c3 : (l0.length : Int) = (l1.length : Int)
 ·rw [if_pos c3] at H
  have c3b0 : ((l0.length : Int) == (l1.length : Int)) = true := beq_iff_eq.mpr c3
  have c3b1 : ((l0.length : Int) != (l1.length : Int)) = false := bne_eq_false_iff_eq.mpr c3
  have c3b2 : (l0.length == l1.length) = true := by first | simpa using c3 | (simp at c3 ⊢; omega)
  clear c3
  have H' := Aside0.mk H
  clear H
  go_enter Try.func12, Try.ntmps12
  go_wp2
  repeat (go_quiet (fail); try go_wp2)
  go_loopg [5] k (fun kq v5 w' => ∃ (x5_1 : Int), v5 = .int .i64 x5_1 ∧ Aside0 (laws_eqIntSS.l0 kq l0 l1 x5_1 = some r) ∧ Aside0 (kq ≤ k) ∧ Drawn0 w w')
  case atStart => exact ⟨(0), sD, H', ⟨Nat.le_refl _⟩, by repeat (first | exact Drawn0.refl _ | apply Drawn0.step)⟩
  case round =>
   clear H'
   try clear c1
   try clear p2
   try clear c3
   try clear c3b0
   try clear c3b1
   try clear c3b2
   obtain ⟨x5_1, rfl, HA, HK1, ⟨m1, rfl⟩⟩ := hrel
   cases gk with
   | zero => exact absurd HA.out (by simp [laws_eqIntSS.l0])
   | succ k1 =>
    have H := HA.out
    clear HA
    simp only [laws_eqIntSS.l0] at H
    by_cases c4 : x5_1 < (l0.length : Int)
    ·rw [if_pos c4] at H
     have c4b0 : decide (x5_1 < (l0.length : Int)) = true := decide_eq_true c4
     clear c4
     by_cases c5 : 0 ≤ x5_1; rotate_left
     ·rw [if_neg c5] at H; exact absurd H (by simp)
     rw [if_pos c5] at H
     have c5b0 : decide (0 ≤ x5_1) = true := decide_eq_true c5
     clear c5
     by_cases c6 : x5_1 < (l1.length : Int); rotate_left
     ·rw [if_neg c6] at H; exact absurd H (by simp)
     rw [if_pos c6] at H
     have c6b0 : decide (x5_1 < (l1.length : Int)) = true := decide_eq_true c6
     clear c6
     replace H := Option.bind_eq_some_iff.mp H
     obtain ⟨t335, A70, H⟩ := H
     replace H : (if t335 = true then (laws_eqIntSS.l0 k1 l0 l1 (wrap64 (x5_1 + 1))) else (some false)) = some r := H
     have A7 := Aside0.mk A70
     clear A70
     by_cases c8 : t335 = true
     ·subst c8
      have H1 : (laws_eqIntSS.l0 k1 l0 l1 (wrap64 (x5_1 + 1))) = some r := by rw [if_pos rfl] at H; exact H
      clear H
      have H := H1
      clear H1
      have H' := Aside0.mk H
      clear H
      have p333 : 0 ≤ (x5_1 : Int) := oD
      have q333 : x5_1 < (l0.length : Int) := oD
      obtain ⟨ad333, A333_0, c333_0, e333, hx333_0, hl333_0, hi333_0⟩ := at_L6 HR0.out x5_1 p333 q333
      cases e333
      have HR333_0 := Aside0.mk hi333_0
      have HC333_0 := Aside0.mk hl333_0
      clear hi333_0 hl333_0
      replace p333 := eq_true p333
      replace q333 := eq_true q333
      have p334 : 0 ≤ (x5_1 : Int) := oD
      have q334 : x5_1 < (l1.length : Int) := oD
      obtain ⟨ad334, A334_0, c334_0, e334, hx334_0, hl334_0, hi334_0⟩ := at_L6 HR1.out x5_1 p334 q334
      cases e334
      have HR334_0 := Aside0.mk hi334_0
      have HC334_0 := Aside0.mk hl334_0
      clear hi334_0 hl334_0
      replace p334 := eq_true p334
      replace q334 := eq_true q334
      go_wp2_with (first | (go_at_call 21; (with_reducible refine (laws_eqIntS.calls k1 _ _ (rd_L6 l0 x5_1) _ _ (rd_L6 l1 x5_1) true _ ?side1 ?side2 ?side3 ?side4 A7.out).mono ?_); (case side1 => exact cK HR333_0.out); (case side2 => exact HC333_0.out); (case side3 => exact cK HR334_0.out); (case side4 => exact HC334_0.out); rintro e w' ⟨rfl, ⟨nd, rfl⟩⟩; (try first | exact ⟨rfl, _, World.drewN_drewN _ _ _⟩ | exact ⟨rfl, _, Eq.trans (World.drewN_drewN _ _ _) (congrArg (World.drewN _) (Nat.add_assoc _ _ _))⟩)))
      repeat (go_quiet (first | (go_at_call 21; (with_reducible refine (laws_eqIntS.calls k1 _ _ (rd_L6 l0 x5_1) _ _ (rd_L6 l1 x5_1) true _ ?side1 ?side2 ?side3 ?side4 A7.out).mono ?_); (case side1 => exact cK HR333_0.out); (case side2 => exact HC333_0.out); (case side3 => exact cK HR334_0.out); (case side4 => exact HC334_0.out); rintro e w' ⟨rfl, ⟨nd, rfl⟩⟩; (try first | exact ⟨rfl, _, World.drewN_drewN _ _ _⟩ | exact ⟨rfl, _, Eq.trans (World.drewN_drewN _ _ _) (congrArg (World.drewN _) (Nat.add_assoc _ _ _))⟩))); try go_wp2_with (first | (go_at_call 21; (with_reducible refine (laws_eqIntS.calls k1 _ _ (rd_L6 l0 x5_1) _ _ (rd_L6 l1 x5_1) true _ ?side1 ?side2 ?side3 ?side4 A7.out).mono ?_); (case side1 => exact cK HR333_0.out); (case side2 => exact HC333_0.out); (case side3 => exact cK HR334_0.out); (case side4 => exact HC334_0.out); rintro e w' ⟨rfl, ⟨nd, rfl⟩⟩; (try first | exact ⟨rfl, _, World.drewN_drewN _ _ _⟩ | exact ⟨rfl, _, Eq.trans (World.drewN_drewN _ _ _) (congrArg (World.drewN _) (Nat.add_assoc _ _ _))⟩))))
      go_roundg k1
      case measure => have := HK1.out; omega
      case rel => exact ⟨(wrap64 (x5_1 + 1)), sD, H', ⟨by have := HK1.out; omega⟩, by repeat (first | exact Drawn0.refl _ | apply Drawn0.step)⟩
     ·replace c8 := Bool.eq_false_iff.mpr c8
      subst c8
      have H1 : (some false) = some r := by rw [if_neg (show ¬ (false = true) by decide)] at H; exact H
      clear H
      have H := H1
      clear H1
      obtain rfl := Option.some.inj H
      have p333 : 0 ≤ (x5_1 : Int) := oD
      have q333 : x5_1 < (l0.length : Int) := oD
      obtain ⟨ad333, A333_0, c333_0, e333, hx333_0, hl333_0, hi333_0⟩ := at_L6 HR0.out x5_1 p333 q333
      cases e333
      have HR333_0 := Aside0.mk hi333_0
      have HC333_0 := Aside0.mk hl333_0
      clear hi333_0 hl333_0
      replace p333 := eq_true p333
      replace q333 := eq_true q333
      have p334 : 0 ≤ (x5_1 : Int) := oD
      have q334 : x5_1 < (l1.length : Int) := oD
      obtain ⟨ad334, A334_0, c334_0, e334, hx334_0, hl334_0, hi334_0⟩ := at_L6 HR1.out x5_1 p334 q334
      cases e334
      have HR334_0 := Aside0.mk hi334_0
      have HC334_0 := Aside0.mk hl334_0
      clear hi334_0 hl334_0
      replace p334 := eq_true p334
      replace q334 := eq_true q334
      go_wp2_with (first | (go_at_call 21; (with_reducible refine (laws_eqIntS.calls k1 _ _ (rd_L6 l0 x5_1) _ _ (rd_L6 l1 x5_1) false _ ?side1 ?side2 ?side3 ?side4 A7.out).mono ?_); (case side1 => exact cK HR333_0.out); (case side2 => exact HC333_0.out); (case side3 => exact cK HR334_0.out); (case side4 => exact HC334_0.out); rintro e w' ⟨rfl, ⟨nd, rfl⟩⟩; (try first | exact ⟨rfl, _, World.drewN_drewN _ _ _⟩ | exact ⟨rfl, _, Eq.trans (World.drewN_drewN _ _ _) (congrArg (World.drewN _) (Nat.add_assoc _ _ _))⟩)))
      repeat (go_quiet (first | (go_at_call 21; (with_reducible refine (laws_eqIntS.calls k1 _ _ (rd_L6 l0 x5_1) _ _ (rd_L6 l1 x5_1) false _ ?side1 ?side2 ?side3 ?side4 A7.out).mono ?_); (case side1 => exact cK HR333_0.out); (case side2 => exact HC333_0.out); (case side3 => exact cK HR334_0.out); (case side4 => exact HC334_0.out); rintro e w' ⟨rfl, ⟨nd, rfl⟩⟩; (try first | exact ⟨rfl, _, World.drewN_drewN _ _ _⟩ | exact ⟨rfl, _, Eq.trans (World.drewN_drewN _ _ _) (congrArg (World.drewN _) (Nat.add_assoc _ _ _))⟩))); try go_wp2_with (first | (go_at_call 21; (with_reducible refine (laws_eqIntS.calls k1 _ _ (rd_L6 l0 x5_1) _ _ (rd_L6 l1 x5_1) false _ ?side1 ?side2 ?side3 ?side4 A7.out).mono ?_); (case side1 => exact cK HR333_0.out); (case side2 => exact HC333_0.out); (case side3 => exact cK HR334_0.out); (case side4 => exact HC334_0.out); rintro e w' ⟨rfl, ⟨nd, rfl⟩⟩; (try first | exact ⟨rfl, _, World.drewN_drewN _ _ _⟩ | exact ⟨rfl, _, Eq.trans (World.drewN_drewN _ _ _) (congrArg (World.drewN _) (Nat.add_assoc _ _ _))⟩))))
      go_ret
      exact ⟨by first | rfl | (simp; done) | (simp [*]; done), by repeat (first | exact Drawn0.refl _ | apply Drawn0.step)⟩
    ·rw [if_neg c4] at H
     have c4b0 : decide (x5_1 < (l0.length : Int)) = false := decide_eq_false c4
     clear c4
     obtain rfl := Option.some.inj H
     go_wp2
     repeat (go_quiet (fail); try go_wp2)
     go_ret
     exact ⟨by first | rfl | (simp; done) | (simp [*]; done), by repeat (first | exact Drawn0.refl _ | apply Drawn0.step)⟩
 ·rw [if_neg c3] at H
  have c3b0 : ((l0.length : Int) == (l1.length : Int)) = false := beq_eq_false_iff_ne.mpr c3
  have c3b1 : ((l0.length : Int) != (l1.length : Int)) = true := bne_iff_ne.mpr c3
  have c3b2 : (l0.length == l1.length) = false := by first | simpa using c3 | (simp at c3 ⊢; omega)
  obtain rfl := Option.some.inj H
  go_enter Try.func12, Try.ntmps12
  go_wp2
  repeat (go_quiet (fail); try go_wp2)
  go_ret
  exact ⟨by first | rfl | (simp; done) | (simp [*]; done), by repeat (first | exact Drawn0.refl _ | apply Drawn0.step)⟩

/-! ### laws_eqJob: function 32 -/
def laws_eqJob.f (a0_0 : Int) (a0_1 : Int) (a0_2 : Int) (a0_3 : Int) (a1_0 : Int) (a1_1 : Int) (a1_2 : Int) (a1_3 : Int) : Option (Bool) := if a0_0 = a1_0 then (if a0_1 = a1_1 then (if a0_2 = a1_2 then (if a0_3 = a1_3 then (some true) else (some false)) else (some false)) else (some false)) else (some false)
set_option maxHeartbeats 8000000 in
set_option maxRecDepth 100000 in
theorem laws_eqJob.calls (a0_0 : Int) (a0_1 : Int) (a0_2 : Int) (a0_3 : Int) (a1_0 : Int) (a1_1 : Int) (a1_2 : Int) (a1_3 : Int) (r : Bool) (w : World) (h : laws_eqJob.f a0_0 a0_1 a0_2 a0_3 a1_0 a1_1 a1_2 a1_3 = some r) :
  Calls Try.prog 32 #[.agg #[.int .i64 a0_0, .int .i64 a0_1, .int .i64 a0_2, .int .i64 a0_3], .agg #[.int .i64 a1_0, .int .i64 a1_1, .int .i64 a1_2, .int .i64 a1_3]] w fun e w' => e = .returned (.bool r) ∧ Below w.heap.size w w' := by
 have hu50 := Try.underlying50
 have HB := Aside0.mk (Below.refl w.heap.size w)
 have H : (if a0_0 = a1_0 then (if a0_1 = a1_1 then (if a0_2 = a1_2 then (if a0_3 = a1_3 then (some true) else (some false)) else (some false)) else (some false)) else (some false)) = some r := h
 clear h
 by_cases c3 : a0_0 = a1_0
 ·rw [if_pos c3] at H
  have c3b0 : (a0_0 == a1_0) = true := beq_iff_eq.mpr c3
  have c3b1 : (a0_0 != a1_0) = false := bne_eq_false_iff_eq.mpr c3
  clear c3
  by_cases c4 : a0_1 = a1_1
  ·rw [if_pos c4] at H
   have c4b0 : (a0_1 == a1_1) = true := beq_iff_eq.mpr c4
   have c4b1 : (a0_1 != a1_1) = false := bne_eq_false_iff_eq.mpr c4
   clear c4
   by_cases c5 : a0_2 = a1_2
   ·rw [if_pos c5] at H
    have c5b0 : (a0_2 == a1_2) = true := beq_iff_eq.mpr c5
    have c5b1 : (a0_2 != a1_2) = false := bne_eq_false_iff_eq.mpr c5
    clear c5
    by_cases c6 : a0_3 = a1_3
    ·rw [if_pos c6] at H
     have c6b0 : (a0_3 == a1_3) = true := beq_iff_eq.mpr c6
     have c6b1 : (a0_3 != a1_3) = false := bne_eq_false_iff_eq.mpr c6
     clear c6
     obtain rfl := Option.some.inj H
     go_enter Try.func32, Try.ntmps32
     go_wp2_with (first | ((with_reducible refine gate_dst (N := 2) rfl ?_); refine bE 2 #[.int .i64 a0_0, .int .i64 a0_1, .int .i64 a0_2, .int .i64 a0_3] 50 ?_; intro gb336 hg w7 hbox hb; have n0_ := Aside0.mk (below_step bB hb); have n1_ := Aside0.mk (hbox); have n2_ := Aside0.mk ((by rw [hg]; exact (below_size bB) : w.heap.size ≤ gb336)); have n3_ := Aside0.mk ((by rw [hg]; exact (below_size bB) : w.heap.size ≤ gb336)); clear HB; have HB := n0_; have BK336 := n1_; have GW336 := n2_; have GE336 := n3_; clear n0_ n1_ n2_ n3_; clear hb hbox hg) | ((with_reducible refine gate_dst (N := 3) rfl ?_); refine bE 3 #[.int .i64 a1_0, .int .i64 a1_1, .int .i64 a1_2, .int .i64 a1_3] 50 ?_; intro gb337 hg w8 hbox hb; have n0_ := Aside0.mk (blk_below (g := gb336) (o := .cells #[.int .i64 a0_0, .int .i64 a0_1, .int .i64 a0_2, .int .i64 a0_3] 50 (0, 0)) kB hb); have n1_ := Aside0.mk (below_step bS hb); have n2_ := Aside0.mk (hbox); have n3_ := Aside0.mk ((by rw [hg]; exact (below_size bS) : w.heap.size ≤ gb337)); have n4_ := Aside0.mk ((by rw [hg]; exact (below_size bS) : w.heap.size ≤ gb337)); have n5_ := Aside0.mk ((by rw [hg]; exact Nat.ne_of_lt (blk_lt (g := gb336) (o := .cells #[.int .i64 a0_0, .int .i64 a0_1, .int .i64 a0_2, .int .i64 a0_3] 50 (0, 0)) kB) : gb336 ≠ gb337)); have n6_ := Aside0.mk ((by rw [hg]; exact Nat.ne_of_gt (blk_lt (g := gb336) (o := .cells #[.int .i64 a0_0, .int .i64 a0_1, .int .i64 a0_2, .int .i64 a0_3] 50 (0, 0)) kB) : gb337 ≠ gb336)); clear BK336; clear HB; have BK336 := n0_; have HB := n1_; have BK337 := n2_; have GW337 := n3_; have GE337 := n4_; have NB336_337 := n5_; have NB337_336 := n6_; clear n0_ n1_ n2_ n3_ n4_ n5_ n6_; clear hb hbox hg; have hnb9 := NB336_337.out; have hnc9 := NB337_336.out; have hcz10_0 := (blk_cell BK336.out 0).trans (show _ = some ((.int .i64 a0_0) : Value) from rfl); have hcz10_1 := (blk_cell BK336.out 1).trans (show _ = some ((.int .i64 a0_1) : Value) from rfl); have hcz10_2 := (blk_cell BK336.out 2).trans (show _ = some ((.int .i64 a0_2) : Value) from rfl); have hcz10_3 := (blk_cell BK336.out 3).trans (show _ = some ((.int .i64 a0_3) : Value) from rfl); have hfz10_0 := blk_frozen BK336.out 0; have hfz10_1 := blk_frozen BK336.out 1; have hfz10_2 := blk_frozen BK336.out 2; have hfz10_3 := blk_frozen BK336.out 3; have hcz11_0 := (blk_cell BK337.out 0).trans (show _ = some ((.int .i64 a1_0) : Value) from rfl); have hcz11_1 := (blk_cell BK337.out 1).trans (show _ = some ((.int .i64 a1_1) : Value) from rfl); have hcz11_2 := (blk_cell BK337.out 2).trans (show _ = some ((.int .i64 a1_2) : Value) from rfl); have hcz11_3 := (blk_cell BK337.out 3).trans (show _ = some ((.int .i64 a1_3) : Value) from rfl); have hfz11_0 := blk_frozen BK337.out 0; have hfz11_1 := blk_frozen BK337.out 1; have hfz11_2 := blk_frozen BK337.out 2; have hfz11_3 := blk_frozen BK337.out 3))
     go_ret
     exact ⟨rE, bS⟩
    ·rw [if_neg c6] at H
     have c6b0 : (a0_3 == a1_3) = false := beq_eq_false_iff_ne.mpr c6
     have c6b1 : (a0_3 != a1_3) = true := bne_iff_ne.mpr c6
     obtain rfl := Option.some.inj H
     go_enter Try.func32, Try.ntmps32
     go_wp2_with (first | ((with_reducible refine gate_dst (N := 2) rfl ?_); refine bE 2 #[.int .i64 a0_0, .int .i64 a0_1, .int .i64 a0_2, .int .i64 a0_3] 50 ?_; intro gb336 hg w12 hbox hb; have n0_ := Aside0.mk (below_step bB hb); have n1_ := Aside0.mk (hbox); have n2_ := Aside0.mk ((by rw [hg]; exact (below_size bB) : w.heap.size ≤ gb336)); have n3_ := Aside0.mk ((by rw [hg]; exact (below_size bB) : w.heap.size ≤ gb336)); clear HB; have HB := n0_; have BK336 := n1_; have GW336 := n2_; have GE336 := n3_; clear n0_ n1_ n2_ n3_; clear hb hbox hg) | ((with_reducible refine gate_dst (N := 3) rfl ?_); refine bE 3 #[.int .i64 a1_0, .int .i64 a1_1, .int .i64 a1_2, .int .i64 a1_3] 50 ?_; intro gb337 hg w13 hbox hb; have n0_ := Aside0.mk (blk_below (g := gb336) (o := .cells #[.int .i64 a0_0, .int .i64 a0_1, .int .i64 a0_2, .int .i64 a0_3] 50 (0, 0)) kB hb); have n1_ := Aside0.mk (below_step bS hb); have n2_ := Aside0.mk (hbox); have n3_ := Aside0.mk ((by rw [hg]; exact (below_size bS) : w.heap.size ≤ gb337)); have n4_ := Aside0.mk ((by rw [hg]; exact (below_size bS) : w.heap.size ≤ gb337)); have n5_ := Aside0.mk ((by rw [hg]; exact Nat.ne_of_lt (blk_lt (g := gb336) (o := .cells #[.int .i64 a0_0, .int .i64 a0_1, .int .i64 a0_2, .int .i64 a0_3] 50 (0, 0)) kB) : gb336 ≠ gb337)); have n6_ := Aside0.mk ((by rw [hg]; exact Nat.ne_of_gt (blk_lt (g := gb336) (o := .cells #[.int .i64 a0_0, .int .i64 a0_1, .int .i64 a0_2, .int .i64 a0_3] 50 (0, 0)) kB) : gb337 ≠ gb336)); clear BK336; clear HB; have BK336 := n0_; have HB := n1_; have BK337 := n2_; have GW337 := n3_; have GE337 := n4_; have NB336_337 := n5_; have NB337_336 := n6_; clear n0_ n1_ n2_ n3_ n4_ n5_ n6_; clear hb hbox hg; have hnb14 := NB336_337.out; have hnc14 := NB337_336.out; have hcz15_0 := (blk_cell BK336.out 0).trans (show _ = some ((.int .i64 a0_0) : Value) from rfl); have hcz15_1 := (blk_cell BK336.out 1).trans (show _ = some ((.int .i64 a0_1) : Value) from rfl); have hcz15_2 := (blk_cell BK336.out 2).trans (show _ = some ((.int .i64 a0_2) : Value) from rfl); have hcz15_3 := (blk_cell BK336.out 3).trans (show _ = some ((.int .i64 a0_3) : Value) from rfl); have hfz15_0 := blk_frozen BK336.out 0; have hfz15_1 := blk_frozen BK336.out 1; have hfz15_2 := blk_frozen BK336.out 2; have hfz15_3 := blk_frozen BK336.out 3; have hcz16_0 := (blk_cell BK337.out 0).trans (show _ = some ((.int .i64 a1_0) : Value) from rfl); have hcz16_1 := (blk_cell BK337.out 1).trans (show _ = some ((.int .i64 a1_1) : Value) from rfl); have hcz16_2 := (blk_cell BK337.out 2).trans (show _ = some ((.int .i64 a1_2) : Value) from rfl); have hcz16_3 := (blk_cell BK337.out 3).trans (show _ = some ((.int .i64 a1_3) : Value) from rfl); have hfz16_0 := blk_frozen BK337.out 0; have hfz16_1 := blk_frozen BK337.out 1; have hfz16_2 := blk_frozen BK337.out 2; have hfz16_3 := blk_frozen BK337.out 3))
     go_ret
     exact ⟨rE, bS⟩
   ·rw [if_neg c5] at H
    have c5b0 : (a0_2 == a1_2) = false := beq_eq_false_iff_ne.mpr c5
    have c5b1 : (a0_2 != a1_2) = true := bne_iff_ne.mpr c5
    obtain rfl := Option.some.inj H
    go_enter Try.func32, Try.ntmps32
    go_wp2_with (first | ((with_reducible refine gate_dst (N := 2) rfl ?_); refine bE 2 #[.int .i64 a0_0, .int .i64 a0_1, .int .i64 a0_2, .int .i64 a0_3] 50 ?_; intro gb336 hg w17 hbox hb; have n0_ := Aside0.mk (below_step bB hb); have n1_ := Aside0.mk (hbox); have n2_ := Aside0.mk ((by rw [hg]; exact (below_size bB) : w.heap.size ≤ gb336)); have n3_ := Aside0.mk ((by rw [hg]; exact (below_size bB) : w.heap.size ≤ gb336)); clear HB; have HB := n0_; have BK336 := n1_; have GW336 := n2_; have GE336 := n3_; clear n0_ n1_ n2_ n3_; clear hb hbox hg) | ((with_reducible refine gate_dst (N := 3) rfl ?_); refine bE 3 #[.int .i64 a1_0, .int .i64 a1_1, .int .i64 a1_2, .int .i64 a1_3] 50 ?_; intro gb337 hg w18 hbox hb; have n0_ := Aside0.mk (blk_below (g := gb336) (o := .cells #[.int .i64 a0_0, .int .i64 a0_1, .int .i64 a0_2, .int .i64 a0_3] 50 (0, 0)) kB hb); have n1_ := Aside0.mk (below_step bS hb); have n2_ := Aside0.mk (hbox); have n3_ := Aside0.mk ((by rw [hg]; exact (below_size bS) : w.heap.size ≤ gb337)); have n4_ := Aside0.mk ((by rw [hg]; exact (below_size bS) : w.heap.size ≤ gb337)); have n5_ := Aside0.mk ((by rw [hg]; exact Nat.ne_of_lt (blk_lt (g := gb336) (o := .cells #[.int .i64 a0_0, .int .i64 a0_1, .int .i64 a0_2, .int .i64 a0_3] 50 (0, 0)) kB) : gb336 ≠ gb337)); have n6_ := Aside0.mk ((by rw [hg]; exact Nat.ne_of_gt (blk_lt (g := gb336) (o := .cells #[.int .i64 a0_0, .int .i64 a0_1, .int .i64 a0_2, .int .i64 a0_3] 50 (0, 0)) kB) : gb337 ≠ gb336)); clear BK336; clear HB; have BK336 := n0_; have HB := n1_; have BK337 := n2_; have GW337 := n3_; have GE337 := n4_; have NB336_337 := n5_; have NB337_336 := n6_; clear n0_ n1_ n2_ n3_ n4_ n5_ n6_; clear hb hbox hg; have hnb19 := NB336_337.out; have hnc19 := NB337_336.out; have hcz20_0 := (blk_cell BK336.out 0).trans (show _ = some ((.int .i64 a0_0) : Value) from rfl); have hcz20_1 := (blk_cell BK336.out 1).trans (show _ = some ((.int .i64 a0_1) : Value) from rfl); have hcz20_2 := (blk_cell BK336.out 2).trans (show _ = some ((.int .i64 a0_2) : Value) from rfl); have hcz20_3 := (blk_cell BK336.out 3).trans (show _ = some ((.int .i64 a0_3) : Value) from rfl); have hfz20_0 := blk_frozen BK336.out 0; have hfz20_1 := blk_frozen BK336.out 1; have hfz20_2 := blk_frozen BK336.out 2; have hfz20_3 := blk_frozen BK336.out 3; have hcz21_0 := (blk_cell BK337.out 0).trans (show _ = some ((.int .i64 a1_0) : Value) from rfl); have hcz21_1 := (blk_cell BK337.out 1).trans (show _ = some ((.int .i64 a1_1) : Value) from rfl); have hcz21_2 := (blk_cell BK337.out 2).trans (show _ = some ((.int .i64 a1_2) : Value) from rfl); have hcz21_3 := (blk_cell BK337.out 3).trans (show _ = some ((.int .i64 a1_3) : Value) from rfl); have hfz21_0 := blk_frozen BK337.out 0; have hfz21_1 := blk_frozen BK337.out 1; have hfz21_2 := blk_frozen BK337.out 2; have hfz21_3 := blk_frozen BK337.out 3))
    go_ret
    exact ⟨rE, bS⟩
  ·rw [if_neg c4] at H
   have c4b0 : (a0_1 == a1_1) = false := beq_eq_false_iff_ne.mpr c4
   have c4b1 : (a0_1 != a1_1) = true := bne_iff_ne.mpr c4
   obtain rfl := Option.some.inj H
   go_enter Try.func32, Try.ntmps32
   go_wp2_with (first | ((with_reducible refine gate_dst (N := 2) rfl ?_); refine bE 2 #[.int .i64 a0_0, .int .i64 a0_1, .int .i64 a0_2, .int .i64 a0_3] 50 ?_; intro gb336 hg w22 hbox hb; have n0_ := Aside0.mk (below_step bB hb); have n1_ := Aside0.mk (hbox); have n2_ := Aside0.mk ((by rw [hg]; exact (below_size bB) : w.heap.size ≤ gb336)); have n3_ := Aside0.mk ((by rw [hg]; exact (below_size bB) : w.heap.size ≤ gb336)); clear HB; have HB := n0_; have BK336 := n1_; have GW336 := n2_; have GE336 := n3_; clear n0_ n1_ n2_ n3_; clear hb hbox hg) | ((with_reducible refine gate_dst (N := 3) rfl ?_); refine bE 3 #[.int .i64 a1_0, .int .i64 a1_1, .int .i64 a1_2, .int .i64 a1_3] 50 ?_; intro gb337 hg w23 hbox hb; have n0_ := Aside0.mk (blk_below (g := gb336) (o := .cells #[.int .i64 a0_0, .int .i64 a0_1, .int .i64 a0_2, .int .i64 a0_3] 50 (0, 0)) kB hb); have n1_ := Aside0.mk (below_step bS hb); have n2_ := Aside0.mk (hbox); have n3_ := Aside0.mk ((by rw [hg]; exact (below_size bS) : w.heap.size ≤ gb337)); have n4_ := Aside0.mk ((by rw [hg]; exact (below_size bS) : w.heap.size ≤ gb337)); have n5_ := Aside0.mk ((by rw [hg]; exact Nat.ne_of_lt (blk_lt (g := gb336) (o := .cells #[.int .i64 a0_0, .int .i64 a0_1, .int .i64 a0_2, .int .i64 a0_3] 50 (0, 0)) kB) : gb336 ≠ gb337)); have n6_ := Aside0.mk ((by rw [hg]; exact Nat.ne_of_gt (blk_lt (g := gb336) (o := .cells #[.int .i64 a0_0, .int .i64 a0_1, .int .i64 a0_2, .int .i64 a0_3] 50 (0, 0)) kB) : gb337 ≠ gb336)); clear BK336; clear HB; have BK336 := n0_; have HB := n1_; have BK337 := n2_; have GW337 := n3_; have GE337 := n4_; have NB336_337 := n5_; have NB337_336 := n6_; clear n0_ n1_ n2_ n3_ n4_ n5_ n6_; clear hb hbox hg; have hnb24 := NB336_337.out; have hnc24 := NB337_336.out; have hcz25_0 := (blk_cell BK336.out 0).trans (show _ = some ((.int .i64 a0_0) : Value) from rfl); have hcz25_1 := (blk_cell BK336.out 1).trans (show _ = some ((.int .i64 a0_1) : Value) from rfl); have hcz25_2 := (blk_cell BK336.out 2).trans (show _ = some ((.int .i64 a0_2) : Value) from rfl); have hcz25_3 := (blk_cell BK336.out 3).trans (show _ = some ((.int .i64 a0_3) : Value) from rfl); have hfz25_0 := blk_frozen BK336.out 0; have hfz25_1 := blk_frozen BK336.out 1; have hfz25_2 := blk_frozen BK336.out 2; have hfz25_3 := blk_frozen BK336.out 3; have hcz26_0 := (blk_cell BK337.out 0).trans (show _ = some ((.int .i64 a1_0) : Value) from rfl); have hcz26_1 := (blk_cell BK337.out 1).trans (show _ = some ((.int .i64 a1_1) : Value) from rfl); have hcz26_2 := (blk_cell BK337.out 2).trans (show _ = some ((.int .i64 a1_2) : Value) from rfl); have hcz26_3 := (blk_cell BK337.out 3).trans (show _ = some ((.int .i64 a1_3) : Value) from rfl); have hfz26_0 := blk_frozen BK337.out 0; have hfz26_1 := blk_frozen BK337.out 1; have hfz26_2 := blk_frozen BK337.out 2; have hfz26_3 := blk_frozen BK337.out 3))
   go_ret
   exact ⟨rE, bS⟩
 ·rw [if_neg c3] at H
  have c3b0 : (a0_0 == a1_0) = false := beq_eq_false_iff_ne.mpr c3
  have c3b1 : (a0_0 != a1_0) = true := bne_iff_ne.mpr c3
  obtain rfl := Option.some.inj H
  go_enter Try.func32, Try.ntmps32
  go_wp2_with (first | ((with_reducible refine gate_dst (N := 2) rfl ?_); refine bE 2 #[.int .i64 a0_0, .int .i64 a0_1, .int .i64 a0_2, .int .i64 a0_3] 50 ?_; intro gb336 hg w27 hbox hb; have n0_ := Aside0.mk (below_step bB hb); have n1_ := Aside0.mk (hbox); have n2_ := Aside0.mk ((by rw [hg]; exact (below_size bB) : w.heap.size ≤ gb336)); have n3_ := Aside0.mk ((by rw [hg]; exact (below_size bB) : w.heap.size ≤ gb336)); clear HB; have HB := n0_; have BK336 := n1_; have GW336 := n2_; have GE336 := n3_; clear n0_ n1_ n2_ n3_; clear hb hbox hg) | ((with_reducible refine gate_dst (N := 3) rfl ?_); refine bE 3 #[.int .i64 a1_0, .int .i64 a1_1, .int .i64 a1_2, .int .i64 a1_3] 50 ?_; intro gb337 hg w28 hbox hb; have n0_ := Aside0.mk (blk_below (g := gb336) (o := .cells #[.int .i64 a0_0, .int .i64 a0_1, .int .i64 a0_2, .int .i64 a0_3] 50 (0, 0)) kB hb); have n1_ := Aside0.mk (below_step bS hb); have n2_ := Aside0.mk (hbox); have n3_ := Aside0.mk ((by rw [hg]; exact (below_size bS) : w.heap.size ≤ gb337)); have n4_ := Aside0.mk ((by rw [hg]; exact (below_size bS) : w.heap.size ≤ gb337)); have n5_ := Aside0.mk ((by rw [hg]; exact Nat.ne_of_lt (blk_lt (g := gb336) (o := .cells #[.int .i64 a0_0, .int .i64 a0_1, .int .i64 a0_2, .int .i64 a0_3] 50 (0, 0)) kB) : gb336 ≠ gb337)); have n6_ := Aside0.mk ((by rw [hg]; exact Nat.ne_of_gt (blk_lt (g := gb336) (o := .cells #[.int .i64 a0_0, .int .i64 a0_1, .int .i64 a0_2, .int .i64 a0_3] 50 (0, 0)) kB) : gb337 ≠ gb336)); clear BK336; clear HB; have BK336 := n0_; have HB := n1_; have BK337 := n2_; have GW337 := n3_; have GE337 := n4_; have NB336_337 := n5_; have NB337_336 := n6_; clear n0_ n1_ n2_ n3_ n4_ n5_ n6_; clear hb hbox hg; have hnb29 := NB336_337.out; have hnc29 := NB337_336.out; have hcz30_0 := (blk_cell BK336.out 0).trans (show _ = some ((.int .i64 a0_0) : Value) from rfl); have hcz30_1 := (blk_cell BK336.out 1).trans (show _ = some ((.int .i64 a0_1) : Value) from rfl); have hcz30_2 := (blk_cell BK336.out 2).trans (show _ = some ((.int .i64 a0_2) : Value) from rfl); have hcz30_3 := (blk_cell BK336.out 3).trans (show _ = some ((.int .i64 a0_3) : Value) from rfl); have hfz30_0 := blk_frozen BK336.out 0; have hfz30_1 := blk_frozen BK336.out 1; have hfz30_2 := blk_frozen BK336.out 2; have hfz30_3 := blk_frozen BK336.out 3; have hcz31_0 := (blk_cell BK337.out 0).trans (show _ = some ((.int .i64 a1_0) : Value) from rfl); have hcz31_1 := (blk_cell BK337.out 1).trans (show _ = some ((.int .i64 a1_1) : Value) from rfl); have hcz31_2 := (blk_cell BK337.out 2).trans (show _ = some ((.int .i64 a1_2) : Value) from rfl); have hcz31_3 := (blk_cell BK337.out 3).trans (show _ = some ((.int .i64 a1_3) : Value) from rfl); have hfz31_0 := blk_frozen BK337.out 0; have hfz31_1 := blk_frozen BK337.out 1; have hfz31_2 := blk_frozen BK337.out 2; have hfz31_3 := blk_frozen BK337.out 3))
  go_ret
  exact ⟨rE, bS⟩

end Go.Proofs.Ytlhppclbokkfmaa.OFnExactSidneyBlocks
