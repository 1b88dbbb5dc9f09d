/- Functions of the program as plain Lean functions, with their contracts: written by this session's program ownprint.py. Conditions: none. -/
import Derived.Test.YthhmembnhnghiaaOFnExactLeastLateWeightx0
import Derived.Test.YthhmembnhnghiaaOFnExactLeastLateWeightx1
import Derived.Test.YthhmembnhnghiaaOFnExactLeastLateWeightx2
namespace Go.Proofs.Ythhmembnhnghiaa.OFnExactLeastLateWeight
open Go.RowKit Go.Proofs.YthhmembnhnghiaaW.PrintWords Go.Proofs.YthhmembnhnghiaaW.PrintLast Go.Proofs.YthhmembnhnghiaaW.PrintMore
attribute [local go_sem] max2_int min2_int max_two min_two max_three min_three max_four min_four   -- for this text's walks alone
set_option linter.unusedVariables false
set_option linter.unusedSimpArgs false

/-! ### spec_l4Set: function 104 -/
def spec_l4Set.l0 : Nat → Int → Int → List Int → Int → Option (List Int)
 | 0, _, _, _, _ => none
 | k + 1, x0, x1, x5, x6 => if x6 < x0 then (if 0 ≤ x6 then (if (Go.bits .and .i64 (shr .i64 x1 x6) 1) = 1 then (if x5.length < 17592186044416 then (spec_l4Set.l0 k x0 x1 (x5 ++ [x6]) (wrap64 (x6 + 1))) else (none)) else (spec_l4Set.l0 k x0 x1 x5 (wrap64 (x6 + 1)))) else (none)) else (some x5)
def spec_l4Set.f (k : Nat) (a0 : Int) (a1 : Int) : Option (List Int) := spec_l4Set.l0 k a0 a1 (([] : List Int)) 0
theorem spec_l4Set.mono_l : ∀ k, (∀ y0 y1 y2 y3, LeO (spec_l4Set.l0 k y0 y1 y2 y3) (spec_l4Set.l0 (k + 1) y0 y1 y2 y3))
 | 0 => fun _ _ _ _ r h => by simp [spec_l4Set.l0] at h
 | k + 1 => by
  have ih0 := spec_l4Set.mono_l k
  ·intro y0 y1 y2 y3
   unfold spec_l4Set.l0
   repeat' first
   | (with_reducible exact ih0 _ _ _ _)
   | (with_reducible exact LeO.refl _)
   | (with_reducible exact LeO.none _)
   | (with_reducible refine LeO.ite ?_ ?_)
   | (with_reducible refine LeO.bind ?_ (fun _ => ?_))
   | exact ih0 _ _ _ _
   | exact LeO.none _
   | refine LeO.ite ?_ ?_
   | refine LeO.bind ?_ (fun _ => ?_)
theorem spec_l4Set.mono : ∀ a0 a1 k, LeO (spec_l4Set.f k a0 a1) (spec_l4Set.f (k + 1) a0 a1) := by
 intro a0 a1 k
 have ih0 := spec_l4Set.mono_l k
 unfold spec_l4Set.f
 repeat' first
   | (with_reducible exact ih0 _ _ _ _)
   | (with_reducible exact LeO.refl _)
   | (with_reducible exact LeO.none _)
   | (with_reducible refine LeO.ite ?_ ?_)
   | (with_reducible refine LeO.bind ?_ (fun _ => ?_))
   | exact ih0 _ _ _ _
   | exact LeO.none _
   | refine LeO.ite ?_ ?_
   | refine LeO.bind ?_ (fun _ => ?_)
set_option maxHeartbeats 8000000 in
set_option maxRecDepth 100000 in
theorem spec_l4Set.calls (k : Nat) (a0 : Int) (a1 : Int) (r : List Int) (w : World) (h : spec_l4Set.f k a0 a1 = some r) :
  Calls Try.prog 104 #[.int .i64 a0, .int .i64 a1] w fun e w' => ∃ v0_ : Value, e = .returned (v0_) ∧ Kd.R (Kd.int .i64) 3 w' w.heap.size (fun _ => True) v0_ r ∧ Below w.heap.size w w' := by
 have HB := Aside0.mk (Below.refl w.heap.size w)
 have H : (spec_l4Set.l0 k a0 a1 (([] : List Int)) 0) = some r := h
 clear h
 obtain ⟨y175, hy175⟩ : ∃ y_ : List Int, y_ = (([] : List Int)) := ⟨_, rfl⟩
 replace H : (spec_l4Set.l0 k a0 a1 y175 0) = some r := by first | (rw [hy175]; with_reducible exact H) | (have H2_ := (Option.bind_some _ _).symm.trans H; rw [hy175]; with_reducible exact H2_) | (have H2_ := (Option.bind_some _ _).symm.trans H; with_reducible exact H2_) | with_reducible exact H | (rw [hy175]; exact H) | exact H
 have Ny175 := Aside0.mk hy175
 clear hy175
 have H' := Aside0.mk H
 clear H
 go_enter Try.func104, Try.ntmps104
 go_wp2_with (first | ((with_reducible refine gate_dst (N := 7) rfl ?_); refine Kd.R_lit (Kd.int .i64) _ 3 ?hg (N := 7) ?hd (xs := ([] : List Int)) (inner := []) (ok := fun _ => True) (okp := fun _ => True) ?hr ?hp (fun _ hk => hk) trivial (Below.refl _ _) (Nat.le_refl _) (by simp) ?_; (case hd => rfl); (case hg => rfl); (case hr => first | (go_simp; done) | (go_simp; rfl)); (case hp => exact (Reps.none _ _)); intro v176 w3 ho4 hb hg_ hnew_; clear hg_ hnew_; (first | rw [← Ny175.out] at ho4 | (simp only [Int.reduceToNat] at ho4; rw [← Ny175.out] at ho4)); have n0_ := Aside0.mk (Kd.R_lower ho4 (below_size bB)); have n1_ := Aside0.mk (below_step bB hb); clear HB; have HO177 := n0_; have HB := n1_; clear n0_ n1_; clear hb ho4))
 go_loopg [5, 6] k (fun kq v5 v6 w' => ∃ (x5_1 : List Int) (x6_1 : Int), v6 = .int .i64 x6_1 ∧ Aside0 (spec_l4Set.l0 kq a0 a1 x5_1 x6_1 = some r) ∧ Aside0 (kq ≤ k) ∧ Aside0 (Kd.R (Kd.int .i64) 3 w' w.heap.size (fun _ => True) v5 x5_1) ∧ Aside0 (Below w.heap.size w w'))
 case atStart => exact ⟨(y175), (0), (by first | rfl | (simp; done) | (simp [*]; done)), H', ⟨Nat.le_refl _⟩, ⟨by (with_reducible repeat (first | apply Kd.R_alloc | apply Kd.R_drewN | apply Kd.R_drew)); exact HO177.out⟩, ⟨by repeat (first | (with_reducible first | exact HB.out | apply below_alloc | apply pw_below_drewN | apply below_drew1) | exact HB.out)⟩⟩
 case round =>
  clear H'
  try clear c1
  try clear p2
  obtain ⟨x5_1, x6_1, rfl, HA, HK1, HO_5, HB⟩ := hrel
  cases gk with
  | zero => exact absurd HA.out (by simp [spec_l4Set.l0])
  | succ k1 =>
   have H := HA.out
   clear HA
   simp only [spec_l4Set.l0] at H
   by_cases c5 : x6_1 < a0
   ·rw [if_pos c5] at H
    have c5b0 : decide (x6_1 < a0) = true := decide_eq_true c5
    clear c5
    by_cases c6 : 0 ≤ x6_1
    ·rw [if_pos c6] at H
     have c6b0 := eq_true c6
     have c6b1 : decide (0 ≤ x6_1) = true := decide_eq_true c6
     clear c6
     obtain ⟨ji7, hji7⟩ : ∃ j_ : Int, (shr .i64 a1 x6_1) = j_ := ⟨_, rfl⟩
     replace H : (if (Go.bits .and .i64 (ji7) 1) = 1 then (if x5_1.length < 17592186044416 then (spec_l4Set.l0 k1 a0 a1 (x5_1 ++ [x6_1]) (wrap64 (x6_1 + 1))) else (none)) else (spec_l4Set.l0 k1 a0 a1 x5_1 (wrap64 (x6_1 + 1)))) = some r := by first | (rw [hji7] at H; exact H) | (simp only [hji7] at H ⊢; exact H)
     have hji7_ : (a1 / 2 ^ min x6_1.toNat 64) = ji7 := hji7
     have hji7z : x6_1 ≤ 64 → (a1 / 2 ^ x6_1.toNat) = ji7 := shr_small hji7
     by_cases c8 : (Go.bits .and .i64 (ji7) 1) = 1
     ·rw [if_pos c8] at H
      have c8b0 : ((Go.bits .and .i64 (ji7) 1) == 1) = true := beq_iff_eq.mpr c8
      have c8b1 : ((Go.bits .and .i64 (ji7) 1) != 1) = false := bne_eq_false_iff_eq.mpr c8
      clear c8
      by_cases c9 : x5_1.length < 17592186044416
      ·rw [if_pos c9] at H
       have LMc9 := Aside0.mk c9
       clear c9
       obtain ⟨y178, hy178⟩ : ∃ y_ : List Int, y_ = (x5_1 ++ [x6_1]) := ⟨_, rfl⟩
       replace H : (spec_l4Set.l0 k1 a0 a1 y178 (wrap64 (x6_1 + 1))) = some r := by first | (rw [hy178]; with_reducible exact H) | (have H2_ := (Option.bind_some _ _).symm.trans H; rw [hy178]; with_reducible exact H2_) | (have H2_ := (Option.bind_some _ _).symm.trans H; with_reducible exact H2_) | with_reducible exact H | (rw [hy178]; exact H) | exact H
       have Ny178 := Aside0.mk hy178
       clear hy178
       have H' := Aside0.mk H
       clear H
       go_wp2_with (first | ((with_reducible refine gate_builtin (b := .append) (xs := #[.tmp 18, .tmp 20]) rfl ?_); at_builtin; refine Kd.R_append (Kd.int .i64) (w0 := w) w.heap.size rfl (.tmp 18) (.tmp 20) 37 3 (.int .i64 0) 8 rfl Try.underlying37 info3 rfl (by decide) (by omega) u5 x5_1 x6_1 [.int .i64 x6_1] (fun _ => True) (fun _ => False) rfl rfl ?aP (fun _ hk => hk.elim) ?aF ?aO ?aB ?aS ?aL ?_; (case aP => exact rfl); (case aB => exact bB); (case aF => exact (fun _ _ => trivial)); (case aO => exact (by (with_reducible repeat (first | apply Kd.R_alloc | apply Kd.R_drewN | apply Kd.R_drew)); exact HO_5.out)); (case aS => exact (below_size bB)); (case aL => have := LMc9.out; omega); intro v179 w10 ho hb hg hat; rw [← Ny178.out] at ho; have n0_ := Aside0.mk (hb); have n1_ := Aside0.mk (ho); clear HB; clear HO_5; have HB := n0_; have HO180 := n1_; clear n0_ n1_; clear ho hb hg hat))
       go_roundg k1
       case measure => have := HK1.out; omega
       case rel => exact ⟨(y178), (wrap64 (x6_1 + 1)), (by first | rfl | (simp; done) | (simp [*]; done)), H', ⟨by have := HK1.out; omega⟩, ⟨by (with_reducible repeat (first | apply Kd.R_alloc | apply Kd.R_drewN | apply Kd.R_drew)); exact HO180.out⟩, ⟨by repeat (first | (with_reducible first | exact HB.out | apply below_alloc | apply pw_below_drewN | apply below_drew1) | exact HB.out)⟩⟩
      ·rw [if_neg c9] at H
       exact absurd H (by simp)
     ·rw [if_neg c8] at H
      have c8b0 : ((Go.bits .and .i64 (ji7) 1) == 1) = false := beq_eq_false_iff_ne.mpr c8
      have c8b1 : ((Go.bits .and .i64 (ji7) 1) != 1) = true := bne_iff_ne.mpr c8
      have H' := Aside0.mk H
      clear H
      go_wp2
      go_roundg k1
      case measure => have := HK1.out; omega
      case rel => exact ⟨(x5_1), (wrap64 (x6_1 + 1)), (by first | rfl | (simp; done) | (simp [*]; done)), H', ⟨by have := HK1.out; omega⟩, ⟨by (with_reducible repeat (first | apply Kd.R_alloc | apply Kd.R_drewN | apply Kd.R_drew)); exact HO_5.out⟩, ⟨by repeat (first | (with_reducible first | exact HB.out | apply below_alloc | apply pw_below_drewN | apply below_drew1) | exact HB.out)⟩⟩
    ·rw [if_neg c6] at H
     exact absurd H (by simp)
   ·rw [if_neg c5] at H
    have c5b0 : decide (x6_1 < a0) = false := decide_eq_false c5
    clear c5
    obtain rfl := Option.some.inj H
    go_wp2
    go_ret
    exact ⟨_, by first | rfl | (simp [errW_none, errW_some] <;> rfl) | (simp [*, errW_none, errW_some] <;> rfl), by (with_reducible repeat (first | apply Kd.R_alloc | apply Kd.R_drewN | apply Kd.R_drew)); exact HO_5.out, bB⟩

/-! ### spec_l6All: function 112 -/
def spec_l6All.f (k : Nat) (l0 : List (S59)) : Option (List Int) := (spec_l4Set.f k (l0.length : Int) (wrap64 ((shl .i64 1 (l0.length : Int)) - 1))).bind fun t181 => (some t181)
theorem spec_l6All.mono : ∀ a0 k, LeO (spec_l6All.f k a0) (spec_l6All.f (k + 1) a0) := by
 intro a0 k
 unfold spec_l6All.f
 repeat' first
   | (with_reducible exact spec_l4Set.mono _ _ _)
   | (with_reducible exact LeO.refl _)
   | (with_reducible exact LeO.none _)
   | (with_reducible refine LeO.ite ?_ ?_)
   | (with_reducible refine LeO.bind ?_ (fun _ => ?_))
   | exact spec_l4Set.mono _ _ _
   | exact LeO.none _
   | refine LeO.ite ?_ ?_
   | refine LeO.bind ?_ (fun _ => ?_)
set_option maxHeartbeats 8000000 in
set_option maxRecDepth 100000 in
theorem spec_l6All.calls (k : Nat) (A0 : Option Addr) (c0 : Nat) (l0 : List (S59)) (r : List Int) (w : World) (hr0 : Kd.C k59 w A0 l0.length l0) (hc0 : l0.length ≤ c0) (h : spec_l6All.f k l0 = some r) :
  Calls Try.prog 112 #[.slice A0 l0.length c0] w fun e w' => ∃ v0_ : Value, e = .returned (v0_) ∧ Kd.R (Kd.int .i64) 3 w' w.heap.size (fun _ => True) v0_ r ∧ Below w.heap.size w w' := by
 have HR0 := Aside0.mk hr0
 have HC0 := Aside0.mk hc0
 clear hr0 hc0
 have HB := Aside0.mk (Below.refl w.heap.size w)
 have H : ((spec_l4Set.f k (l0.length : Int) (wrap64 ((shl .i64 1 (l0.length : Int)) - 1))).bind fun t181 => (some t181)) = some r := h
 clear h
 obtain ⟨ji2, hji2⟩ : ∃ j_ : Int, (shl .i64 1 (l0.length : Int)) = j_ := ⟨_, rfl⟩
 replace H : ((spec_l4Set.f k (l0.length : Int) (wrap64 ((ji2) - 1))).bind fun t181 => (some t181)) = some r := by first | (rw [hji2] at H; exact H) | (simp only [hji2] at H ⊢; exact H)
 have hji2_ : (IntKind.i64.wrap (1 * 2 ^ min (l0.length : Int).toNat 64)) = ji2 := hji2
 have hji2z : (l0.length : Int) ≤ 64 → (IntKind.i64.wrap (1 * 2 ^ (l0.length : Int).toNat)) = ji2 := shl_small hji2
 have hji2p : (IntKind.i64.wrap (1 * 2 ^ min l0.length 64)) = ji2 := hji2_
 have hji2q : (l0.length : Int) ≤ 64 → (IntKind.i64.wrap (1 * 2 ^ l0.length)) = ji2 := hji2z
 have hji2r : (IntKind.i64.wrap (2 ^ min l0.length 64)) = ji2 := by have h_ := hji2p; rw [Int.one_mul] at h_; exact h_
 have hji2s : (l0.length : Int) ≤ 64 → (IntKind.i64.wrap (2 ^ l0.length)) = ji2 := fun hle_ => by have h_ := hji2q hle_; rw [Int.one_mul] at h_; exact h_
 have hji2u : (IntKind.i64.wrap (2 ^ min (l0.length : Int).toNat 64)) = ji2 := by have h_ := hji2_; rw [Int.one_mul] at h_; exact h_
 have hji2v : (l0.length : Int) ≤ 64 → (IntKind.i64.wrap (2 ^ (l0.length : Int).toNat)) = ji2 := fun hle_ => by have h_ := hji2z hle_; rw [Int.one_mul] at h_; exact h_
 have hji2y : (wrap64 (1 * 2 ^ min (l0.length : Int).toNat 64)) = ji2 := (i64_w _).symm.trans hji2_
 have hji2x : (l0.length : Int) ≤ 64 → (wrap64 (1 * 2 ^ (l0.length : Int).toNat)) = ji2 := fun h_ => (i64_w _).symm.trans (hji2z h_)
 replace H := Option.bind_eq_some_iff.mp H
 obtain ⟨t181, A30, H⟩ := H
 replace H : (some t181) = some r := H
 have A3 := Aside0.mk A30
 clear A30
 obtain rfl := Option.some.inj H
 go_enter Try.func112, Try.ntmps112
 go_wp2_with (first | ((with_reducible refine gate_callee (f := 104) rfl ?_); refine goesL_ (some 9) rfl rfl Try.func104 (by kernel_rfl) rfl #[.int .i64 (l0.length : Int), .int .i64 (wrap64 ((ji2) - 1))] rfl (by (try simp only [List.map_toArray, List.map_cons, List.map_nil]); first | done | (simp only [hji2]; rfl) | rfl | (simp only [List.length_drop, List.length_take]; rfl)) ?_; (with_reducible refine (spec_l4Set.calls k (l0.length : Int) (wrap64 ((ji2) - 1)) t181 _ A3.out).mono ?_); rintro e w4 ⟨v182, rfl, ho0, hb⟩; refine ⟨_, rfl, ?_⟩; have n0_ := Aside0.mk (Kd.R_lower ho0 (below_size bB)); have n1_ := Aside0.mk (below_step bB hb); clear HB; have HO183 := n0_; have HB := n1_; clear n0_ n1_; (try clear hb); (try clear hb2); (try clear hk); (try clear hi); (try clear ho0)))
 go_ret
 exact ⟨_, by first | rfl | (simp [errW_none, errW_some] <;> rfl) | (simp only [← hji2]; first | rfl | (simp [errW_none, errW_some] <;> rfl)) | (simp [*, errW_none, errW_some] <;> rfl), by (with_reducible repeat (first | apply Kd.R_alloc | apply Kd.R_drewN | apply Kd.R_drew)); exact HO183.out, bB⟩

/-! ### spec_l2Times: function 113 -/
def spec_l2Times.l0 : Nat → List (S59) → Int → Int → Option (Int)
 | 0, _, _, _ => none
 | k + 1, x0, x3, x4 => if x4 < (x0.length : Int) then (if 0 ≤ x4 then (spec_l2Times.l0 k x0 (wrap64 (x3 + ((rd_T59 x0 x4).f0))) (wrap64 (x4 + 1))) else (none)) else (some x3)
def spec_l2Times.f (k : Nat) (l0 : List (S59)) : Option (Int) := spec_l2Times.l0 k l0 0 0
theorem spec_l2Times.mono_l : ∀ k, (∀ y0 y1 y2, LeO (spec_l2Times.l0 k y0 y1 y2) (spec_l2Times.l0 (k + 1) y0 y1 y2))
 | 0 => fun _ _ _ r h => by simp [spec_l2Times.l0] at h
 | k + 1 => by
  have ih0 := spec_l2Times.mono_l k
  ·intro y0 y1 y2
   unfold spec_l2Times.l0
   repeat' first
   | (with_reducible exact ih0 _ _ _)
   | (with_reducible exact LeO.refl _)
   | (with_reducible exact LeO.none _)
   | (with_reducible refine LeO.ite ?_ ?_)
   | (with_reducible refine LeO.bind ?_ (fun _ => ?_))
   | exact ih0 _ _ _
   | exact LeO.none _
   | refine LeO.ite ?_ ?_
   | refine LeO.bind ?_ (fun _ => ?_)
theorem spec_l2Times.mono : ∀ a0 k, LeO (spec_l2Times.f k a0) (spec_l2Times.f (k + 1) a0) := by
 intro a0 k
 have ih0 := spec_l2Times.mono_l k
 unfold spec_l2Times.f
 repeat' first
   | (with_reducible exact ih0 _ _ _)
   | (with_reducible exact LeO.refl _)
   | (with_reducible exact LeO.none _)
   | (with_reducible refine LeO.ite ?_ ?_)
   | (with_reducible refine LeO.bind ?_ (fun _ => ?_))
   | exact ih0 _ _ _
   | exact LeO.none _
   | refine LeO.ite ?_ ?_
   | refine LeO.bind ?_ (fun _ => ?_)
set_option maxHeartbeats 8000000 in
set_option maxRecDepth 100000 in
theorem spec_l2Times.calls (k : Nat) (A0 : Option Addr) (c0 : Nat) (l0 : List (S59)) (r : Int) (w : World) (hr0 : Kd.C k59 w A0 l0.length l0) (hc0 : l0.length ≤ c0) (h : spec_l2Times.f k l0 = some r) :
  Calls Try.prog 113 #[.slice A0 l0.length c0] w fun e w' => e = .returned (.int .i64 r) ∧ Drawn0 w w' := by
 have HR0 := Aside0.mk hr0
 have HC0 := Aside0.mk hc0
 clear hr0 hc0
 have H : (spec_l2Times.l0 k l0 0 0) = some r := h
 clear h
 have H' := Aside0.mk H
 clear H
 go_enter Try.func113, Try.ntmps113
 go_wp2
 go_loopg [3, 4] k (fun kq v3 v4 w' => ∃ (x3_1 : Int) (x4_1 : Int), v3 = .int .i64 x3_1 ∧ v4 = .int .i64 x4_1 ∧ Aside0 (spec_l2Times.l0 kq l0 x3_1 x4_1 = some r) ∧ Aside0 (kq ≤ k) ∧ Drawn0 w w')
 case atStart => exact ⟨(0), (0), (by first | rfl | (simp; done) | (simp [*]; done)), (by first | rfl | (simp; done) | (simp [*]; done)), H', ⟨Nat.le_refl _⟩, by repeat (first | exact Drawn0.refl _ | apply Drawn0.step)⟩
 case round =>
  clear H'
  try clear c1
  obtain ⟨x3_1, x4_1, rfl, rfl, HA, HK1, ⟨m1, rfl⟩⟩ := hrel
  cases gk with
  | zero => exact absurd HA.out (by simp [spec_l2Times.l0])
  | succ k1 =>
   have H := HA.out
   clear HA
   simp only [spec_l2Times.l0] at H
   by_cases c2 : x4_1 < (l0.length : Int)
   ·rw [if_pos c2] at H
    have c2b0 : decide (x4_1 < (l0.length : Int)) = true := decide_eq_true c2
    clear c2
    by_cases c3 : 0 ≤ x4_1
    ·rw [if_pos c3] at H
     have c3b0 : decide (0 ≤ x4_1) = true := decide_eq_true c3
     clear c3
     have H' := Aside0.mk H
     clear H
     have p184 : 0 ≤ (x4_1 : Int) := oD
     have q184 : x4_1 < (l0.length : Int) := oD
     obtain ⟨ad184, e184, hx184_0, hx184_1, hx184_2, hx184_3⟩ := at_T59 HR0.out x4_1 p184 q184
     cases e184
     replace p184 := eq_true p184
     replace q184 := eq_true q184
     go_wp2
     go_roundg k1
     case measure => have := HK1.out; omega
     case rel => exact ⟨(wrap64 (x3_1 + ((rd_T59 l0 x4_1).f0))), (wrap64 (x4_1 + 1)), (by first | rfl | (simp; done) | (simp [*]; done)), (by first | rfl | (simp; done) | (simp [*]; done)), H', ⟨by have := HK1.out; omega⟩, by repeat (first | exact Drawn0.refl _ | apply Drawn0.step)⟩
    ·rw [if_neg c3] at H
     exact absurd H (by simp)
   ·rw [if_neg c2] at H
    have c2b0 : decide (x4_1 < (l0.length : Int)) = false := decide_eq_false c2
    clear c2
    obtain rfl := Option.some.inj H
    go_wp2
    go_ret
    exact ⟨by first | rfl | (simp; done) | (simp [*]; done), by repeat (first | exact Drawn0.refl _ | apply Drawn0.step)⟩

/-! ### spec_l1Least: function 114 -/
def spec_l1Least.f (a0 : Int) (a1 : Int) : Option (Int) := if a0 < a1 then (some a0) else (some a1)
set_option maxHeartbeats 8000000 in
set_option maxRecDepth 100000 in
theorem spec_l1Least.calls (a0 : Int) (a1 : Int) (r : Int) (w : World) (h : spec_l1Least.f a0 a1 = some r) :
  Calls Try.prog 114 #[.int .i64 a0, .int .i64 a1] w fun e w' => e = .returned (.int .i64 r) ∧ Drawn0 w w' := by
 have H : (if a0 < a1 then (some a0) else (some a1)) = some r := h
 clear h
 by_cases c3 : a0 < a1
 ·rw [if_pos c3] at H
  have c3b0 : decide (a0 < a1) = true := decide_eq_true c3
  clear c3
  obtain rfl := Option.some.inj H
  go_enter Try.func114, Try.ntmps114
  go_wp2
  go_ret
  exact ⟨by first | rfl | (simp; done) | (simp [*]; done), by repeat (first | exact Drawn0.refl _ | apply Drawn0.step)⟩
 ·rw [if_neg c3] at H
  have c3b0 : decide (a0 < a1) = false := decide_eq_false c3
  clear c3
  obtain rfl := Option.some.inj H
  go_enter Try.func114, Try.ntmps114
  go_wp2
  go_ret
  exact ⟨by first | rfl | (simp; done) | (simp [*]; done), by repeat (first | exact Drawn0.refl _ | apply Drawn0.step)⟩

/-! ### spec_l6Table: function 57 -/
mutual
def spec_l6Table.l0 : Nat → List (S59) → List Int → List Int → Int → Option (List Int)
 | 0, _, _, _, _ => none
 | k + 1, x0, x3, x4, x5 => (spec_l2Times.f k x0).bind fun t194 => (if x5 < t194 then (if x4.length < 17592186044416 then (spec_l6Table.l0 k x0 x3 (x4 ++ [(-1)]) (wrap64 (x5 + 1))) else (none)) else (spec_l6Table.l1 k x0 x3 x4 0))
def spec_l6Table.l1 : Nat → List (S59) → List Int → List Int → Int → Option (List Int)
 | 0, _, _, _, _ => none
 | k + 1, x0, x3, x4, x6 => if x6 < (x3.length : Int) then (if 0 ≤ x6 then (if 0 ≤ (rd x3 x6) then (if (rd x3 x6) < (x0.length : Int) then ((spec_l1Least.f ((rd_T59 x0 (rd x3 x6)).f3) (wrap64 ((x4.length : Int) - 1))).bind fun t201 => (spec_l6Table.l2 k x0 x3 x4 x6 t201 ((rd_T59 x0 (rd x3 x6)).f0) ((rd_T59 x0 (rd x3 x6)).f1) ((rd_T59 x0 (rd x3 x6)).f2) ((rd_T59 x0 (rd x3 x6)).f3))) else (none)) else (none)) else (none)) else (some x4)
def spec_l6Table.l2 : Nat → List (S59) → List Int → List Int → Int → Int → Int → Int → Int → Int → Option (List Int)
 | 0, _, _, _, _, _, _, _, _, _ => none
 | k + 1, x0, x3, x4, x6, x8, x201000, x201001, x201002, x201003 => if x8 ≥ x201000 then (if 0 ≤ (wrap64 (x8 - x201000)) then (if (wrap64 (x8 - x201000)) < (x4.length : Int) then (if (rd x4 (wrap64 (x8 - x201000))) ≥ 0 then (if 0 ≤ x8 then (if x8 < (x4.length : Int) then ((spec_l1Most.f (rd x4 x8) (wrap64 ((rd x4 (wrap64 (x8 - x201000))) + x201001))).bind fun t205 => (spec_l6Table.l2 k x0 x3 (x4.set (x8 : Int).toNat t205) x6 (wrap64 (x8 - 1)) x201000 x201001 x201002 x201003)) else (none)) else (none)) else (spec_l6Table.l2 k x0 x3 x4 x6 (wrap64 (x8 - 1)) x201000 x201001 x201002 x201003)) else (none)) else (none)) else (spec_l6Table.l1 k x0 x3 x4 (wrap64 (x6 + 1)))
end
def spec_l6Table.f (k : Nat) (l0 : List (S59)) : Option (List Int) := (spec_l6All.f k l0).bind fun t185 => ((spec_l6Due.f k l0 t185).bind fun t188 => (spec_l6Table.l0 k l0 t188 (([0] : List Int)) 0))
theorem spec_l6Table.mono_l : ∀ k, (∀ y0 y1 y2 y3, LeO (spec_l6Table.l0 k y0 y1 y2 y3) (spec_l6Table.l0 (k + 1) y0 y1 y2 y3)) ∧ (∀ y0 y1 y2 y3, LeO (spec_l6Table.l1 k y0 y1 y2 y3) (spec_l6Table.l1 (k + 1) y0 y1 y2 y3)) ∧ (∀ y0 y1 y2 y3 y4 y5 y6 y7 y8, LeO (spec_l6Table.l2 k y0 y1 y2 y3 y4 y5 y6 y7 y8) (spec_l6Table.l2 (k + 1) y0 y1 y2 y3 y4 y5 y6 y7 y8))
 | 0 => ⟨fun _ _ _ _ r h => by simp [spec_l6Table.l0] at h, fun _ _ _ _ r h => by simp [spec_l6Table.l1] at h, fun _ _ _ _ _ _ _ _ _ r h => by simp [spec_l6Table.l2] at h⟩
 | k + 1 => by
  obtain ⟨ih0, ih1, ih2⟩ := spec_l6Table.mono_l k
  refine ⟨?_, ?_, ?_⟩
  ·intro y0 y1 y2 y3
   unfold spec_l6Table.l0
   repeat' first
   | (with_reducible exact ih0 _ _ _ _)
   | (with_reducible exact ih1 _ _ _ _)
   | (with_reducible exact ih2 _ _ _ _ _ _ _ _ _)
   | (with_reducible exact spec_l2Times.mono _ _)
   | (with_reducible exact spec_l6All.mono _ _)
   | (with_reducible exact spec_l6Due.mono _ _ _)
   | (with_reducible exact LeO.refl _)
   | (with_reducible exact LeO.none _)
   | (with_reducible refine LeO.ite ?_ ?_)
   | (with_reducible refine LeO.bind ?_ (fun _ => ?_))
   | exact ih0 _ _ _ _
   | exact ih1 _ _ _ _
   | exact ih2 _ _ _ _ _ _ _ _ _
   | exact spec_l2Times.mono _ _
   | exact spec_l6All.mono _ _
   | exact spec_l6Due.mono _ _ _
   | exact LeO.none _
   | refine LeO.ite ?_ ?_
   | refine LeO.bind ?_ (fun _ => ?_)
  ·intro y0 y1 y2 y3
   unfold spec_l6Table.l1
   repeat' first
   | (with_reducible exact ih0 _ _ _ _)
   | (with_reducible exact ih1 _ _ _ _)
   | (with_reducible exact ih2 _ _ _ _ _ _ _ _ _)
   | (with_reducible exact spec_l2Times.mono _ _)
   | (with_reducible exact spec_l6All.mono _ _)
   | (with_reducible exact spec_l6Due.mono _ _ _)
   | (with_reducible exact LeO.refl _)
   | (with_reducible exact LeO.none _)
   | (with_reducible refine LeO.ite ?_ ?_)
   | (with_reducible refine LeO.bind ?_ (fun _ => ?_))
   | exact ih0 _ _ _ _
   | exact ih1 _ _ _ _
   | exact ih2 _ _ _ _ _ _ _ _ _
   | exact spec_l2Times.mono _ _
   | exact spec_l6All.mono _ _
   | exact spec_l6Due.mono _ _ _
   | exact LeO.none _
   | refine LeO.ite ?_ ?_
   | refine LeO.bind ?_ (fun _ => ?_)
  ·intro y0 y1 y2 y3 y4 y5 y6 y7 y8
   unfold spec_l6Table.l2
   repeat' first
   | (with_reducible exact ih0 _ _ _ _)
   | (with_reducible exact ih1 _ _ _ _)
   | (with_reducible exact ih2 _ _ _ _ _ _ _ _ _)
   | (with_reducible exact spec_l2Times.mono _ _)
   | (with_reducible exact spec_l6All.mono _ _)
   | (with_reducible exact spec_l6Due.mono _ _ _)
   | (with_reducible exact LeO.refl _)
   | (with_reducible exact LeO.none _)
   | (with_reducible refine LeO.ite ?_ ?_)
   | (with_reducible refine LeO.bind ?_ (fun _ => ?_))
   | exact ih0 _ _ _ _
   | exact ih1 _ _ _ _
   | exact ih2 _ _ _ _ _ _ _ _ _
   | exact spec_l2Times.mono _ _
   | exact spec_l6All.mono _ _
   | exact spec_l6Due.mono _ _ _
   | exact LeO.none _
   | refine LeO.ite ?_ ?_
   | refine LeO.bind ?_ (fun _ => ?_)
theorem spec_l6Table.mono : ∀ a0 k, LeO (spec_l6Table.f k a0) (spec_l6Table.f (k + 1) a0) := by
 intro a0 k
 obtain ⟨ih0, ih1, ih2⟩ := spec_l6Table.mono_l k
 unfold spec_l6Table.f
 repeat' first
   | (with_reducible exact ih0 _ _ _ _)
   | (with_reducible exact ih1 _ _ _ _)
   | (with_reducible exact ih2 _ _ _ _ _ _ _ _ _)
   | (with_reducible exact spec_l2Times.mono _ _)
   | (with_reducible exact spec_l6All.mono _ _)
   | (with_reducible exact spec_l6Due.mono _ _ _)
   | (with_reducible exact LeO.refl _)
   | (with_reducible exact LeO.none _)
   | (with_reducible refine LeO.ite ?_ ?_)
   | (with_reducible refine LeO.bind ?_ (fun _ => ?_))
   | exact ih0 _ _ _ _
   | exact ih1 _ _ _ _
   | exact ih2 _ _ _ _ _ _ _ _ _
   | exact spec_l2Times.mono _ _
   | exact spec_l6All.mono _ _
   | exact spec_l6Due.mono _ _ _
   | exact LeO.none _
   | refine LeO.ite ?_ ?_
   | refine LeO.bind ?_ (fun _ => ?_)
def spec_l6Table.T14 : Bool × List (List Nat × List Nat) := (true, [([], []), ([], []), ([], []), ([], []), ([2, 3], [2, 3]), ([4], [4]), ([], []), ([], []), ([], []), ([8], [8]), ([7, 9], [7, 9]), ([6, 10], [6, 10]), ([11], [11]), ([], []), ([13], [13]), ([12, 14], [12, 14]), ([5, 15], [5, 15]), ([0, 1, 0, 1, 2, 3, 4, 5, 6, 7, 8, 9, 10, 11, 12, 13, 14, 15, 16], [0, 1]), ([17, 16, 16, 0, 1, 2, 3, 4, 5, 6, 7, 8, 9, 10, 11, 12, 13, 14, 15, 16], [16, 17])])
def spec_l6Table.B14 : List Nat := [0, 0, 0, 0, 12, 28, 0, 0, 0, 256, 896, 1984, 4032, 0, 8192, 32704, 65532, 131071, 262143]
theorem spec_l6Table.tab14 : rtab .any (opsOf Try.f57 14) = spec_l6Table.T14 := by kernel_rfl
theorem spec_l6Table.bits14 : waitsOk spec_l6Table.T14.2 spec_l6Table.B14 = true := by kernel_rfl
set_option maxHeartbeats 8000000 in
set_option maxRecDepth 100000 in
theorem spec_l6Table.calls (k : Nat) (A0 : Option Addr) (c0 : Nat) (l0 : List (S59)) (r : List Int) (w : World) (hr0 : Kd.C k59 w A0 l0.length l0) (hc0 : l0.length ≤ c0) (h : spec_l6Table.f k l0 = some r) :
  Calls Try.prog 57 #[.slice A0 l0.length c0] w fun e w' => ∃ v0_ : Value, e = .returned (v0_) ∧ Kd.R (Kd.int .i64) 3 w' w.heap.size (fun _ => True) v0_ r ∧ Below w.heap.size w w' := by
 have hu59 := Try.underlying59
 have HR0 := Aside0.mk hr0
 have HC0 := Aside0.mk hc0
 clear hr0 hc0
 have HB := Aside0.mk (Below.refl w.heap.size w)
 have H : ((spec_l6All.f k l0).bind fun t185 => ((spec_l6Due.f k l0 t185).bind fun t188 => (spec_l6Table.l0 k l0 t188 (([0] : List Int)) 0))) = some r := h
 clear h
 replace H := Option.bind_eq_some_iff.mp H
 obtain ⟨t185, A20, H⟩ := H
 replace H : ((spec_l6Due.f k l0 t185).bind fun t188 => (spec_l6Table.l0 k l0 t188 (([0] : List Int)) 0)) = some r := H
 have A2 := Aside0.mk A20
 clear A20
 replace H := Option.bind_eq_some_iff.mp H
 obtain ⟨t188, A30, H⟩ := H
 replace H : (spec_l6Table.l0 k l0 t188 (([0] : List Int)) 0) = some r := H
 have A3 := Aside0.mk A30
 clear A30
 obtain ⟨y191, hy191⟩ : ∃ y_ : List Int, y_ = (([0] : List Int)) := ⟨_, rfl⟩
 replace H : (spec_l6Table.l0 k l0 t188 y191 0) = some r := by first | (rw [hy191]; with_reducible exact H) | (have H2_ := (Option.bind_some _ _).symm.trans H; rw [hy191]; with_reducible exact H2_) | (have H2_ := (Option.bind_some _ _).symm.trans H; with_reducible exact H2_) | with_reducible exact H | (rw [hy191]; exact H) | exact H
 have Ny191 := Aside0.mk hy191
 clear hy191
 have H' := Aside0.mk H
 clear H
 go_enter Try.func57, Try.ntmps57
 go_wp2_with (first | ((with_reducible refine gate_callee (f := 112) rfl ?_); refine goesL_ (some 11) rfl rfl Try.func112 (by kernel_rfl) rfl #[.slice A0 l0.length c0] rfl aE ?_; (with_reducible refine (spec_l6All.calls k _ _ l0 t185 _ ?side1 ?side2 A2.out).mono ?_); (case side1 => repeat (first | exact HR0.out | (with_reducible refine Kd.C_alloc ?_ _) | (with_reducible refine Kd.C_drewN ?_ _) | (with_reducible refine Kd.C_drew ?_))); (case side2 => exact HC0.out); rintro e w4 ⟨v186, rfl, ho0, hb⟩; refine ⟨_, rfl, ?_⟩; have n0_ := Aside0.mk (Kd.R_lower ho0 (below_size bB)); have n1_ := Aside0.mk (below_step bB hb); clear HB; have HO187 := n0_; have HB := n1_; clear n0_ n1_; (try clear hb); (try clear hb2); (try clear hk); (try clear hi); (try clear ho0); obtain ⟨Ao5, co5, eo5⟩ := Kd.R_slice HO187.out; subst eo5) | ((with_reducible refine gate_callee (f := 111) rfl ?_); refine goesL_ (some 12) rfl rfl Try.func111 (by kernel_rfl) rfl #[.slice A0 l0.length c0, .slice Ao5 t185.length co5] rfl aE ?_; (with_reducible refine (spec_l6Due.calls k _ _ l0 _ _ t185 t188 _ ?side1 ?side2 ?side3 ?side4 A3.out).mono ?_); (case side1 => repeat (first | exact (Kd.C_below HR0.out HB.out) | (with_reducible refine Kd.C_alloc ?_ _) | (with_reducible refine Kd.C_drewN ?_ _) | (with_reducible refine Kd.C_drew ?_))); (case side2 => exact HC0.out); (case side3 => repeat (first | exact (Kd.R_reads' HO187.out).2.2 | (with_reducible refine Kd.C_alloc ?_ _) | (with_reducible refine Kd.C_drewN ?_ _) | (with_reducible refine Kd.C_drew ?_))); (case side4 => exact (Kd.R_reads' HO187.out).2.1); rintro e w6 ⟨v189, rfl, ho0, hb⟩; refine ⟨_, rfl, ?_⟩; have n0_ := Aside0.mk (Kd.R_elder' (by (with_reducible repeat (first | apply Kd.R_alloc | apply Kd.R_drewN | apply Kd.R_drew)); exact HO187.out) (Kd.R_base ho0) hb); have n1_ := Aside0.mk (Kd.R_lower (Kd.R_new' ho0 (Kd.R_lt (by (with_reducible repeat (first | apply Kd.R_alloc | apply Kd.R_drewN | apply Kd.R_drew)); exact HO187.out))) (below_size bB)); have n2_ := Aside0.mk (below_step bB hb); clear HO187; clear HB; have HO187 := n0_; have HO190 := n1_; have HB := n2_; clear n0_ n1_ n2_; (try clear hb); (try clear hb2); (try clear hk); (try clear hi); (try clear ho0)) | ((with_reducible refine gate_dst (N := 13) rfl ?_); refine Kd.R_lit (Kd.int .i64) _ 3 ?hg (N := 13) ?hd (xs := ([0] : List Int)) (inner := [.int .i64 0]) (ok := fun _ => True) (okp := fun _ => True) ?hr ?hp (fun _ hk => hk) trivial (Below.refl _ _) (Nat.le_refl _) (by simp) ?_; (case hd => rfl); (case hg => rfl); (case hr => first | (go_simp; done) | (go_simp; rfl)); (case hp => exact (Reps.one (show Kd.M (Kd.int .i64) _ _ _ 0 [.int .i64 0] from rfl) (Reps.none _ _))); intro v192 w7 ho8 hb hg_ hnew_; clear hg_ hnew_; (first | rw [← Ny191.out] at ho8 | (simp only [Int.reduceToNat] at ho8; rw [← Ny191.out] at ho8)); have n0_ := Aside0.mk (Kd.R_elder' (by (with_reducible repeat (first | apply Kd.R_alloc | apply Kd.R_drewN | apply Kd.R_drew)); exact HO187.out) (Kd.R_base ho8) hb); have n1_ := Aside0.mk (Kd.R_elder' (by (with_reducible repeat (first | apply Kd.R_alloc | apply Kd.R_drewN | apply Kd.R_drew)); exact HO190.out) (Kd.R_base ho8) hb); have n2_ := Aside0.mk (Kd.R_lower (Kd.R_new' (Kd.R_new' ho8 (Kd.R_lt (by (with_reducible repeat (first | apply Kd.R_alloc | apply Kd.R_drewN | apply Kd.R_drew)); exact HO187.out))) (Kd.R_lt (by (with_reducible repeat (first | apply Kd.R_alloc | apply Kd.R_drewN | apply Kd.R_drew)); exact HO190.out))) (below_size bB)); have n3_ := Aside0.mk (below_step bB hb); clear HO187; clear HO190; clear HB; have HO187 := n0_; have HO190 := n1_; have HO193 := n2_; have HB := n3_; clear n0_ n1_ n2_ n3_; clear hb ho8))
 go_loopg [4, 5] k (fun kq v4 v5 w' => ∃ (x4_1 : List Int) (x5_1 : Int), v5 = .int .i64 x5_1 ∧ Aside0 (spec_l6Table.l0 kq l0 t188 x4_1 x5_1 = some r) ∧ Aside0 (kq ≤ k) ∧ Aside0 (Kd.R (Kd.int .i64) 3 w' w.heap.size (fun k_ => some k_ ≠ (v4 : Value).ownBlock) v189 t188) ∧ Aside0 (Kd.R (Kd.int .i64) 3 w' w.heap.size (fun k_ => some k_ ≠ (v189 : Value).ownBlock) v4 x4_1) ∧ Aside0 (Below w.heap.size w w'))
 case atStart => exact ⟨(y191), (0), (by first | rfl | (simp; done) | (simp [*]; done)), H', ⟨Nat.le_refl _⟩, ⟨by (with_reducible repeat (first | apply Kd.R_alloc | apply Kd.R_drewN | apply Kd.R_drew)); exact Kd.R_mono HO190.out (fun _ hk => hk.2)⟩, ⟨by (with_reducible repeat (first | apply Kd.R_alloc | apply Kd.R_drewN | apply Kd.R_drew)); exact Kd.R_mono HO193.out (fun _ hk => hk.2)⟩, ⟨by repeat (first | (with_reducible first | exact HB.out | apply below_alloc | apply pw_below_drewN | apply below_drew1) | exact HB.out)⟩⟩
 case round =>
  clear H'
  try clear c1
  try clear p2
  try clear c5
  obtain ⟨x4_1, x5_1, rfl, HA, HK1, HO_3, HO_4, HB⟩ := hrel
  cases gk with
  | zero => exact absurd HA.out (by simp [spec_l6Table.l0])
  | succ k1 =>
   have H := HA.out
   clear HA
   simp only [spec_l6Table.l0] at H
   replace H := Option.bind_eq_some_iff.mp H
   obtain ⟨t194, A90, H⟩ := H
   replace H : (if x5_1 < t194 then (if x4_1.length < 17592186044416 then (spec_l6Table.l0 k1 l0 t188 (x4_1 ++ [(-1)]) (wrap64 (x5_1 + 1))) else (none)) else (spec_l6Table.l1 k1 l0 t188 x4_1 0)) = some r := H
   have A9 := Aside0.mk A90
   clear A90
   by_cases c10 : x5_1 < t194
   ·rw [if_pos c10] at H
    have c10b0 : decide (x5_1 < t194) = true := decide_eq_true c10
    clear c10
    by_cases c11 : x4_1.length < 17592186044416
    ·rw [if_pos c11] at H
     have LMc11 := Aside0.mk c11
     clear c11
     obtain ⟨y195, hy195⟩ : ∃ y_ : List Int, y_ = (x4_1 ++ [(-1)]) := ⟨_, rfl⟩
     replace H : (spec_l6Table.l0 k1 l0 t188 y195 (wrap64 (x5_1 + 1))) = some r := by first | (rw [hy195]; with_reducible exact H) | (have H2_ := (Option.bind_some _ _).symm.trans H; rw [hy195]; with_reducible exact H2_) | (have H2_ := (Option.bind_some _ _).symm.trans H; with_reducible exact H2_) | with_reducible exact H | (rw [hy195]; exact H) | exact H
     have Ny195 := Aside0.mk hy195
     clear hy195
     have H' := Aside0.mk H
     clear H
     go_wp2_with (first | ((with_reducible refine gate_callee (f := 113) rfl ?_); refine goesL_ (some 16) rfl rfl Try.func113 (by kernel_rfl) rfl #[.slice A0 l0.length c0] rfl aE ?_; (with_reducible refine (spec_l2Times.calls k1 _ _ l0 t194 _ ?side1 ?side2 A9.out).mono ?_); (case side1 => repeat (first | exact (Kd.C_below HR0.out HB.out) | (with_reducible refine Kd.C_alloc ?_ _) | (with_reducible refine Kd.C_drewN ?_ _) | (with_reducible refine Kd.C_drew ?_))); (case side2 => exact HC0.out); rintro e w' ⟨rfl, ⟨nd, rfl⟩⟩; refine ⟨_, rfl, ?_⟩) | ((with_reducible refine gate_builtin (b := .append) (xs := #[.tmp 20, .tmp 21]) rfl ?_); at_builtin; refine Kd.R_append (Kd.int .i64) (w0 := w) w.heap.size rfl (.tmp 20) (.tmp 21) 37 3 (.int .i64 0) 8 rfl Try.underlying37 info3 rfl (by decide) (by omega) u4 x4_1 (-1) [.int .i64 (-1)] (fun k_ => some k_ ≠ (v189 : Value).ownBlock) (fun _ => False) rfl rfl ?aP (fun _ hk => hk.elim) ?aF ?aO ?aB ?aS ?aL ?_; (case aP => exact rfl); (case aB => exact bB); (case aF => exact (fun k_ hk => Kd.fresh' (Kd.R_lt (by (with_reducible repeat (first | apply Kd.R_alloc | apply Kd.R_drewN | apply Kd.R_drew)); exact HO_3.out)) k_ hk)); (case aO => exact (by (with_reducible repeat (first | apply Kd.R_alloc | apply Kd.R_drewN | apply Kd.R_drew)); exact HO_4.out)); (case aS => exact (below_size bB)); (case aL => have := LMc11.out; omega); intro v196 w12 ho hb hg hat; rw [← Ny195.out] at ho; have n0_ := Aside0.mk (Kd.R_after (ok := (fun _ => True)) (by (with_reducible repeat (first | apply Kd.R_alloc | apply Kd.R_drewN | apply Kd.R_drew)); exact Kd.R_mono HO_3.out (fun _ hk => ⟨trivial, hk⟩)) hg hat); have n1_ := Aside0.mk (hb); have n2_ := Aside0.mk (ho); clear HO_3; clear HB; clear HO_4; have HO_3 := n0_; have HB := n1_; have HO197 := n2_; clear n0_ n1_ n2_; clear ho hb hg hat))
     go_roundg k1
     case measure => have := HK1.out; omega
     case rel => exact ⟨(y195), (wrap64 (x5_1 + 1)), (by first | rfl | (simp; done) | (simp [*]; done)), H', ⟨by have := HK1.out; omega⟩, ⟨by (with_reducible repeat (first | apply Kd.R_alloc | apply Kd.R_drewN | apply Kd.R_drew)); exact Kd.R_mono HO_3.out (fun _ hk => hk.2)⟩, ⟨by (with_reducible repeat (first | apply Kd.R_alloc | apply Kd.R_drewN | apply Kd.R_drew)); exact HO197.out⟩, ⟨by repeat (first | (with_reducible first | exact HB.out | apply below_alloc | apply pw_below_drewN | apply below_drew1) | exact HB.out)⟩⟩
    ·rw [if_neg c11] at H
     exact absurd H (by simp)
   ·rw [if_neg c10] at H
    have c10b0 : decide (x5_1 < t194) = false := decide_eq_false c10
    clear c10
    have H' := Aside0.mk H
    clear H
    go_wp2_with (first | ((with_reducible refine gate_callee (f := 113) rfl ?_); refine goesL_ (some 16) rfl rfl Try.func113 (by kernel_rfl) rfl #[.slice A0 l0.length c0] rfl aE ?_; (with_reducible refine (spec_l2Times.calls k1 _ _ l0 t194 _ ?side1 ?side2 A9.out).mono ?_); (case side1 => repeat (first | exact (Kd.C_below HR0.out HB.out) | (with_reducible refine Kd.C_alloc ?_ _) | (with_reducible refine Kd.C_drewN ?_ _) | (with_reducible refine Kd.C_drew ?_))); (case side2 => exact HC0.out); rintro e w' ⟨rfl, ⟨nd, rfl⟩⟩; refine ⟨_, rfl, ?_⟩))
    go_loopg [6] k1 (fun kq v6 w' => ∃ (x4_2 : List Int) (x6_2 : Int), v6 = .int .i64 x6_2 ∧ Aside0 (spec_l6Table.l1 kq l0 t188 x4_2 x6_2 = some r) ∧ Aside0 (kq ≤ k1) ∧ Aside0 (Kd.R (Kd.int .i64) 3 w' w.heap.size (fun k_ => some k_ ≠ (u4 : Value).ownBlock) v189 t188) ∧ Aside0 (Kd.R (Kd.int .i64) 3 w' w.heap.size (fun k_ => some k_ ≠ (v189 : Value).ownBlock) u4 x4_2) ∧ Aside0 (Below w.heap.size w w'))
    case atStart => exact ⟨(x4_1), (0), (by first | rfl | (simp; done) | (simp [*]; done)), H', ⟨Nat.le_refl _⟩, ⟨by (with_reducible repeat (first | apply Kd.R_alloc | apply Kd.R_drewN | apply Kd.R_drew)); exact HO_3.out⟩, ⟨by (with_reducible repeat (first | apply Kd.R_alloc | apply Kd.R_drewN | apply Kd.R_drew)); exact HO_4.out⟩, ⟨by repeat (first | (with_reducible first | exact HB.out | apply below_alloc | apply pw_below_drewN | apply below_drew1) | exact HB.out)⟩⟩
    case round =>
     clear H'
     try clear c1
     try clear p2
     try clear c5
     try clear p6
     try clear c10
     try clear c10b0
     try clear c11
     try clear p2
     obtain ⟨x4_2, x6_2, rfl, HA, HK2, HO_3, HO_4, HB⟩ := hrel
     cases gk with
     | zero => exact absurd HA.out (by simp [spec_l6Table.l1])
     | succ k2 =>
      have H := HA.out
      clear HA
      simp only [spec_l6Table.l1] at H
      by_cases c13 : x6_2 < (t188.length : Int)
      ·rw [if_pos c13] at H
       have c13b0 : decide (x6_2 < (t188.length : Int)) = true := decide_eq_true c13
       clear c13
       by_cases c14 : 0 ≤ x6_2
       ·rw [if_pos c14] at H
        have c14b0 : decide (0 ≤ x6_2) = true := decide_eq_true c14
        clear c14
        by_cases c15 : 0 ≤ (rd t188 x6_2)
        ·rw [if_pos c15] at H
         have c15b0 : decide (0 ≤ (rd t188 x6_2)) = true := decide_eq_true c15
         clear c15
         by_cases c16 : (rd t188 x6_2) < (l0.length : Int)
         ·rw [if_pos c16] at H
          have c16b0 : decide ((rd t188 x6_2) < (l0.length : Int)) = true := decide_eq_true c16
          clear c16
          replace H := Option.bind_eq_some_iff.mp H
          obtain ⟨t201, A170, H⟩ := H
          replace H : (spec_l6Table.l2 k2 l0 t188 x4_2 x6_2 t201 ((rd_T59 l0 (rd t188 x6_2)).f0) ((rd_T59 l0 (rd t188 x6_2)).f1) ((rd_T59 l0 (rd t188 x6_2)).f2) ((rd_T59 l0 (rd t188 x6_2)).f3)) = some r := H
          have A17 := Aside0.mk A170
          clear A170
          have H' := Aside0.mk H
          clear H
          obtain ⟨Ao18, co18, eo18⟩ := Kd.R_slice HO_3.out
          subst eo18
          have p198 : 0 ≤ (x6_2 : Int) := oD
          have q198 : x6_2 < (t188.length : Int) := oD
          obtain ⟨ad198, e198, hx198_0⟩ := Kd.at_int (Kd.R_reads' HO_3.out).2.2 x6_2 p198 q198
          cases e198
          replace p198 := eq_true p198
          replace q198 := eq_true q198
          have p199 : 0 ≤ ((rd t188 x6_2) : Int) := oD
          have q199 : (rd t188 x6_2) < (l0.length : Int) := oD
          obtain ⟨ad199, e199, hx199_0, hx199_1, hx199_2, hx199_3⟩ := at_T59 HR0.out (rd t188 x6_2) p199 q199
          cases e199
          replace hx199_0 := (cB HB.out hx199_0 :)
          replace hx199_1 := (cB HB.out hx199_1 :)
          replace hx199_2 := (cB HB.out hx199_2 :)
          replace hx199_3 := (cB HB.out hx199_3 :)
          replace p199 := eq_true p199
          replace q199 := eq_true q199
          go_wp2_with (first | ((with_reducible refine gate_dst (N := 7) rfl ?_); refine box_event ?hg (N := 7) ?hd (cs := #[.int .i64 0, .int .i64 0, .int .i64 0, .int .i64 0]) (t := 59) ?hr ?_; (case hd => rfl); (case hg => rfl); (case hr => first | (go_simp; done) | (go_simp; rfl)); intro gb200 hg w19 hbox hb; have n0_ := Aside0.mk (Kd.R_below (by (with_reducible repeat (first | apply Kd.R_alloc | apply Kd.R_drewN | apply Kd.R_drew)); exact HO_3.out) hb); have n1_ := Aside0.mk (Kd.R_below (by (with_reducible repeat (first | apply Kd.R_alloc | apply Kd.R_drewN | apply Kd.R_drew)); exact HO_4.out) hb); have n2_ := Aside0.mk (below_step bB hb); have n3_ := Aside0.mk (hbox); have n4_ := Aside0.mk ((by rw [hg]; exact (below_size bB) : w.heap.size ≤ gb200)); have n5_ := Aside0.mk ((by rw [hg]; exact (below_size bB) : w.heap.size ≤ gb200)); clear HO_3; clear HO_4; clear HB; have HO_3 := n0_; have HO_4 := n1_; have HB := n2_; have BK200 := n3_; have GW200 := n4_; have GE200 := n5_; clear n0_ n1_ n2_ n3_ n4_ n5_; clear hb hbox hg; have hcz20_0 : w19.cell? ⟨gb200, 0, none⟩ = some (.int .i64 0) := (blk_cell BK200.out 0).trans rfl; have hcz20_1 : w19.cell? ⟨gb200, 1, none⟩ = some (.int .i64 0) := (blk_cell BK200.out 1).trans rfl; have hcz20_2 : w19.cell? ⟨gb200, 2, none⟩ = some (.int .i64 0) := (blk_cell BK200.out 2).trans rfl; have hcz20_3 : w19.cell? ⟨gb200, 3, none⟩ = some (.int .i64 0) := (blk_cell BK200.out 3).trans rfl; have hfz20_0 := blk_frozen BK200.out 0; have hfz20_1 := blk_frozen BK200.out 1; have hfz20_2 := blk_frozen BK200.out 2; have hfz20_3 := blk_frozen BK200.out 3; obtain ⟨Ao21, co21, eo21⟩ := Kd.R_slice HO_4.out; subst eo21) | ((with_reducible refine gate_callee (f := 114) rfl ?_); refine goesL_ (some 41) rfl rfl Try.func114 (by kernel_rfl) rfl #[.int .i64 ((rd_T59 l0 (rd t188 x6_2)).f3), .int .i64 (wrap64 ((x4_2.length : Int) - 1))] rfl aE ?_; (with_reducible refine (spec_l1Least.calls ((rd_T59 l0 (rd t188 x6_2)).f3) (wrap64 ((x4_2.length : Int) - 1)) t201 _ A17.out).mono ?_); rintro e w' ⟨rfl, ⟨nd, rfl⟩⟩; refine ⟨_, rfl, ?_⟩))
          go_loopg [8] k2 (fun kq v8 w' => ∃ (x4_3 : List Int) (x8_3 : Int), v8 = .int .i64 x8_3 ∧ Aside0 (spec_l6Table.l2 kq l0 t188 x4_3 x6_2 x8_3 ((rd_T59 l0 (rd t188 x6_2)).f0) ((rd_T59 l0 (rd t188 x6_2)).f1) ((rd_T59 l0 (rd t188 x6_2)).f2) ((rd_T59 l0 (rd t188 x6_2)).f3) = some r) ∧ Aside0 (kq ≤ k2) ∧ Aside0 (Kd.R (Kd.int .i64) 3 w' w.heap.size (fun k_ => some k_ ≠ ((.slice Ao21 x4_2.length co21) : Value).ownBlock) (.slice (some ad198) t188.length co18) t188) ∧ Aside0 (Kd.R (Kd.int .i64) 3 w' w.heap.size (fun k_ => some k_ ≠ ((.slice (some ad198) t188.length co18) : Value).ownBlock) (.slice Ao21 x4_2.length co21) x4_3) ∧ Aside0 (w'.heap[gb200]? = some (.cells #[.int .i64 ((rd_T59 l0 (rd t188 x6_2)).f0), .int .i64 ((rd_T59 l0 (rd t188 x6_2)).f1), .int .i64 ((rd_T59 l0 (rd t188 x6_2)).f2), .int .i64 ((rd_T59 l0 (rd t188 x6_2)).f3)] 59 (0, 0))) ∧ Aside0 (Below w.heap.size w w'))
          case atStart => exact ⟨(x4_2), (t201), (by first | rfl | (simp; done) | (simp [*]; done)), H', ⟨Nat.le_refl _⟩, ⟨by (with_reducible repeat (first | apply Kd.R_alloc | apply Kd.R_drewN | apply Kd.R_drew)); exact Kd.R_mono (Kd.R_far (p := ⟨gb200, 3, none⟩) (Kd.R_far (p := ⟨gb200, 2, none⟩) (Kd.R_far (p := ⟨gb200, 1, none⟩) (Kd.R_far (p := ⟨gb200, 0, none⟩) (Kd.R_types HO_3.out BK200.out (by decide)) (fun _ hk => hk.2) (.int .i64 ((rd_T59 l0 (rd t188 x6_2)).f0))) (fun _ hk => hk.2) (.int .i64 ((rd_T59 l0 (rd t188 x6_2)).f1))) (fun _ hk => hk.2) (.int .i64 ((rd_T59 l0 (rd t188 x6_2)).f2))) (fun _ hk => hk.2) (.int .i64 ((rd_T59 l0 (rd t188 x6_2)).f3))) (fun _ hk => hk.1)⟩, ⟨by (with_reducible repeat (first | apply Kd.R_alloc | apply Kd.R_drewN | apply Kd.R_drew)); exact Kd.R_mono (Kd.R_far (p := ⟨gb200, 3, none⟩) (Kd.R_far (p := ⟨gb200, 2, none⟩) (Kd.R_far (p := ⟨gb200, 1, none⟩) (Kd.R_far (p := ⟨gb200, 0, none⟩) (Kd.R_types HO_4.out BK200.out (by decide)) (fun _ hk => hk.2) (.int .i64 ((rd_T59 l0 (rd t188 x6_2)).f0))) (fun _ hk => hk.2) (.int .i64 ((rd_T59 l0 (rd t188 x6_2)).f1))) (fun _ hk => hk.2) (.int .i64 ((rd_T59 l0 (rd t188 x6_2)).f2))) (fun _ hk => hk.2) (.int .i64 ((rd_T59 l0 (rd t188 x6_2)).f3))) (fun _ hk => hk.1)⟩, ⟨by (with_reducible repeat (first | refine blk_drewN ?_ _ | refine blk_drew ?_ | refine blk_alloc ?_ _)); refine blk_put (cs := #[.int .i64 ((rd_T59 l0 (rd t188 x6_2)).f0), .int .i64 ((rd_T59 l0 (rd t188 x6_2)).f1), .int .i64 ((rd_T59 l0 (rd t188 x6_2)).f2), .int .i64 0]) ?_ 3 _ rfl; (with_reducible repeat (first | refine blk_drewN ?_ _ | refine blk_drew ?_ | refine blk_alloc ?_ _)); refine blk_put (cs := #[.int .i64 ((rd_T59 l0 (rd t188 x6_2)).f0), .int .i64 ((rd_T59 l0 (rd t188 x6_2)).f1), .int .i64 0, .int .i64 0]) ?_ 2 _ rfl; (with_reducible repeat (first | refine blk_drewN ?_ _ | refine blk_drew ?_ | refine blk_alloc ?_ _)); refine blk_put (cs := #[.int .i64 ((rd_T59 l0 (rd t188 x6_2)).f0), .int .i64 0, .int .i64 0, .int .i64 0]) ?_ 1 _ rfl; (with_reducible repeat (first | refine blk_drewN ?_ _ | refine blk_drew ?_ | refine blk_alloc ?_ _)); refine blk_put (cs := #[.int .i64 0, .int .i64 0, .int .i64 0, .int .i64 0]) ?_ 0 _ rfl; (with_reducible repeat (first | refine blk_drewN ?_ _ | refine blk_drew ?_ | refine blk_alloc ?_ _)); exact BK200.out⟩, ⟨by repeat (first | (with_reducible first | exact HB.out | apply below_alloc | apply pw_below_drewN | apply below_drew1 | refine below_set ?_ GE200.out) | exact HB.out)⟩⟩
          case round =>
           clear H'
           try clear c1
           try clear p1
           try clear q1
           try clear hx1
           try clear p2
           try clear c5
           try clear p6
           try clear c10
           try clear c10b0
           try clear c11
           try clear c13
           try clear c13b0
           try clear c14
           try clear c14b0
           try clear c15
           try clear c15b0
           try clear c16
           try clear c16b0
           try clear p19
           try clear q19
           try clear hx19
           try clear hcz20_0
           try clear hcz20_1
           try clear hcz20_2
           try clear hcz20_3
           try clear hfz20_0
           try clear hfz20_1
           try clear hfz20_2
           try clear hfz20_3
           try clear hx198_0
           try clear hx199_0
           try clear hx199_1
           try clear hx199_2
           try clear hx199_3
           try clear p198
           try clear p199
           try clear p2
           try clear p6
           try clear q198
           try clear q199
           obtain ⟨x4_3, x8_3, rfl, HA, HK3, HO_3, HO_4, BK200, HB⟩ := hrel
           have hl4_3 := (Kd.R_reads' HO_4.out).1
           rw [hl4_3] at HO_4
           (try simp only [hl4_3])
           (try simp only [hl4_3] at BK200)
           (try simp only [hl4_3] at HO_3)
           cases gk with
           | zero => exact absurd HA.out (by simp [spec_l6Table.l2])
           | succ k3 =>
            have H := HA.out
            clear HA
            simp only [spec_l6Table.l2] at H
            by_cases c22 : x8_3 ≥ ((rd_T59 l0 (rd t188 x6_2)).f0)
            ·rw [if_pos c22] at H
             have c22b0 : decide (((rd_T59 l0 (rd t188 x6_2)).f0) ≤ x8_3) = true := decide_eq_true c22
             clear c22
             obtain ⟨ji23, hji23⟩ : ∃ j_ : Int, (wrap64 (x8_3 - ((rd_T59 l0 (rd t188 x6_2)).f0))) = j_ := ⟨_, rfl⟩
             replace H : (if 0 ≤ (ji23) then (if (ji23) < (x4_3.length : Int) then (if (rd x4_3 (ji23)) ≥ 0 then (if 0 ≤ x8_3 then (if x8_3 < (x4_3.length : Int) then ((spec_l1Most.f (rd x4_3 x8_3) (wrap64 ((rd x4_3 (ji23)) + ((rd_T59 l0 (rd t188 x6_2)).f1)))).bind fun t205 => (spec_l6Table.l2 k3 l0 t188 (x4_3.set (x8_3 : Int).toNat t205) x6_2 (wrap64 (x8_3 - 1)) ((rd_T59 l0 (rd t188 x6_2)).f0) ((rd_T59 l0 (rd t188 x6_2)).f1) ((rd_T59 l0 (rd t188 x6_2)).f2) ((rd_T59 l0 (rd t188 x6_2)).f3))) else (none)) else (none)) else (spec_l6Table.l2 k3 l0 t188 x4_3 x6_2 (wrap64 (x8_3 - 1)) ((rd_T59 l0 (rd t188 x6_2)).f0) ((rd_T59 l0 (rd t188 x6_2)).f1) ((rd_T59 l0 (rd t188 x6_2)).f2) ((rd_T59 l0 (rd t188 x6_2)).f3))) else (none)) else (none)) = some r := by first | (rw [hji23] at H; exact H) | (simp only [hji23] at H ⊢; exact H)
             have hji23w : (IntKind.i64.wrap (x8_3 - ((rd_T59 l0 (rd t188 x6_2)).f0))) = ji23 := (i64_w _).trans hji23
             by_cases c24 : 0 ≤ (ji23)
             ·rw [if_pos c24] at H
              have c24b0 : decide (0 ≤ (ji23)) = true := decide_eq_true c24
              clear c24
              by_cases c25 : (ji23) < (x4_3.length : Int)
              ·rw [if_pos c25] at H
               have c25b0 : decide ((ji23) < (x4_3.length : Int)) = true := decide_eq_true c25
               clear c25
               by_cases c26 : (rd x4_3 (ji23)) ≥ 0
               ·rw [if_pos c26] at H
                have c26b0 : decide (0 ≤ (rd x4_3 (ji23))) = true := decide_eq_true c26
                clear c26
                by_cases c27 : 0 ≤ x8_3
                ·rw [if_pos c27] at H
                 have c27b0 : decide (0 ≤ x8_3) = true := decide_eq_true c27
                 clear c27
                 by_cases c28 : x8_3 < (x4_3.length : Int)
                 ·rw [if_pos c28] at H
                  have c28b0 : decide (x8_3 < (x4_3.length : Int)) = true := decide_eq_true c28
                  clear c28
                  replace H := Option.bind_eq_some_iff.mp H
                  obtain ⟨t205, A290, H⟩ := H
                  replace H : (spec_l6Table.l2 k3 l0 t188 (x4_3.set (x8_3 : Int).toNat t205) x6_2 (wrap64 (x8_3 - 1)) ((rd_T59 l0 (rd t188 x6_2)).f0) ((rd_T59 l0 (rd t188 x6_2)).f1) ((rd_T59 l0 (rd t188 x6_2)).f2) ((rd_T59 l0 (rd t188 x6_2)).f3)) = some r := H
                  have A29 := Aside0.mk A290
                  clear A290
                  obtain ⟨y206, hy206⟩ : ∃ y_ : List Int, y_ = (x4_3.set (x8_3 : Int).toNat t205) := ⟨_, rfl⟩
                  replace H : (spec_l6Table.l2 k3 l0 t188 y206 x6_2 (wrap64 (x8_3 - 1)) ((rd_T59 l0 (rd t188 x6_2)).f0) ((rd_T59 l0 (rd t188 x6_2)).f1) ((rd_T59 l0 (rd t188 x6_2)).f2) ((rd_T59 l0 (rd t188 x6_2)).f3)) = some r := by first | (rw [hy206]; with_reducible exact H) | (have H2_ := (Option.bind_some _ _).symm.trans H; rw [hy206]; with_reducible exact H2_) | (have H2_ := (Option.bind_some _ _).symm.trans H; with_reducible exact H2_) | with_reducible exact H | (rw [hy206]; exact H) | exact H
                  have Ny206 := Aside0.mk hy206
                  clear hy206
                  have H' := Aside0.mk H
                  clear H
                  have hcz31_0 : wr.cell? ⟨gb200, 0, none⟩ = some (.int .i64 ((rd_T59 l0 (rd t188 x6_2)).f0)) := (blk_cell BK200.out 0).trans rfl
                  have hcz31_1 : wr.cell? ⟨gb200, 1, none⟩ = some (.int .i64 ((rd_T59 l0 (rd t188 x6_2)).f1)) := (blk_cell BK200.out 1).trans rfl
                  have hcz31_2 : wr.cell? ⟨gb200, 2, none⟩ = some (.int .i64 ((rd_T59 l0 (rd t188 x6_2)).f2)) := (blk_cell BK200.out 2).trans rfl
                  have hcz31_3 : wr.cell? ⟨gb200, 3, none⟩ = some (.int .i64 ((rd_T59 l0 (rd t188 x6_2)).f3)) := (blk_cell BK200.out 3).trans rfl
                  have hfz31_0 := blk_frozen BK200.out 0
                  have hfz31_1 := blk_frozen BK200.out 1
                  have hfz31_2 := blk_frozen BK200.out 2
                  have hfz31_3 := blk_frozen BK200.out 3
                  have p202 : 0 ≤ ((ji23) : Int) := oD
                  have q202 : (ji23) < (x4_3.length : Int) := oD
                  obtain ⟨ad202, e202, hx202_0⟩ := Kd.at_int (Kd.R_reads' HO_4.out).2.2 (ji23) p202 q202
                  cases e202
                  replace p202 := eq_true p202
                  replace q202 := eq_true q202
                  try go_wp2
                  have n0_ := Aside0.mk (Kd.R_drew HO_3.out)
                  have n1_ := Aside0.mk (Kd.R_drew HO_4.out)
                  have n2_ := Aside0.mk (blk_drew BK200.out)
                  have n3_ := Aside0.mk (below_drew1 HB.out)
                  clear HO_3
                  clear HO_4
                  clear BK200
                  clear HB
                  have HO_3 := n0_
                  have HO_4 := n1_
                  have BK200 := n2_
                  have HB := n3_
                  clear n0_ n1_ n2_ n3_
                  have p203 : 0 ≤ (x8_3 : Int) := oD
                  have q203 : x8_3 < (x4_3.length : Int) := oD
                  obtain ⟨ad203, e203, hx203_0⟩ := Kd.at_int (Kd.R_reads' HO_4.out).2.2 x8_3 p203 q203
                  obtain rfl : ad202 = ad203 := (by injection e203)
                  replace p203 := eq_true p203
                  replace q203 := eq_true q203
                  have p204 : 0 ≤ ((ji23) : Int) := oD
                  have q204 : (ji23) < (x4_3.length : Int) := oD
                  obtain ⟨ad204, e204, hx204_0⟩ := Kd.at_int (Kd.R_reads' HO_4.out).2.2 (ji23) p204 q204
                  obtain rfl : ad202 = ad204 := (by injection e204)
                  replace p204 := eq_true p204
                  replace q204 := eq_true q204
                  refine start_ (n := 19) (S := fun w' => w'.cell? ⟨gb200, 0, none⟩ = some (.int .i64 ((rd_T59 l0 (rd t188 x6_2)).f0)) ∧ w'.cell? ⟨gb200, 1, none⟩ = some (.int .i64 ((rd_T59 l0 (rd t188 x6_2)).f1)) ∧ w'.cell? ⟨gb200, 2, none⟩ = some (.int .i64 ((rd_T59 l0 (rd t188 x6_2)).f2)) ∧ w'.cell? ⟨gb200, 3, none⟩ = some (.int .i64 ((rd_T59 l0 (rd t188 x6_2)).f3)) ∧ w'.cell? (ad202.add (x8_3).toNat) = some (.int .i64 (rd x4_3 x8_3)) ∧ w'.cell? (ad202.add ((ji23)).toNat) = some (.int .i64 (rd x4_3 (ji23)))) (ds := [18]) (bA 19 0) (by kernel_rfl) rfl rfl ⟨(blk_cell BK200.out 0).trans rfl, (blk_cell BK200.out 1).trans rfl, (blk_cell BK200.out 2).trans rfl, (blk_cell BK200.out 3).trans rfl, hx203_0, hx204_0⟩ (fun hHeld => ?_); refine with_tabW spec_l6Table.tab14 spec_l6Table.bits14 (fun HT_ HW_ => ?_)
                  generalize wr.drew = w32 at HO_3 HO_4 BK200 HB hx203_0 hx204_0 hHeld ⊢
                  refine pU 0 56 (bA 19 1) ?_
                  refine pU 1 57 (bA 19 3) ?_
                  refine pU 2 58 (bA 19 7) ?_
                  refine pU 3 59 (bA 19 15) ?_
                  refine pU 4 60 (bA 19 31) ?_
                  refine pU 6 62 (bA 19 95) ?_
                  refine pU 7 63 (bA 19 223) ?_
                  refine pU 8 64 (bA 19 479) ?_
                  refine pU 13 69 (bA 19 8671) ?_
                  refine tU 5 61 (bA 19 8703) ?_
                  refine tU 9 65 (bA 19 9215) ?_
                  refine pU 10 66 (bA 19 10239) ?_
                  refine pU 11 67 (bA 19 12287) ?_
                  refine tU 12 68 (bA 19 16383) ?_
                  refine tU 14 70 (bA 19 32767) ?_
                  refine pU 15 71 (bA 19 65535) ?_
                  refine one_ (i := 16) (N := some 72) (bA 19 131071) rfl rfl (one_of HT_.out (by kernel_rfl)) (by decide) (fun K hK => ?_)
                  refine goes_ Try.func110 (by kernel_rfl) rfl #[.int .i64 (rd x4_3 x8_3), .int .i64 (wrap64 ((rd x4_3 (ji23)) + ((rd_T59 l0 (rd t188 x6_2)).f1)))] (by rfl) rfl rfl (by (try simp only [List.map_toArray, List.map_cons, List.map_nil]); first | done | (simp only [hji23]; rfl) | rfl | (simp only [List.length_drop, List.length_take]; rfl)) ?_
                  with_reducible refine (spec_l1Most.calls (rd x4_3 x8_3) (wrap64 ((rd x4_3 (ji23)) + ((rd_T59 l0 (rd t188 x6_2)).f1))) t205 _ A29.out).mono ?_
                  rintro e w' ⟨rfl, ⟨nd, rfl⟩⟩
                  refine ⟨_, rfl, ?_⟩
                  have p30 : 0 ≤ (x8_3 : Int) := oD
                  have q30 : (x8_3 : Int) < ((x4_3.length : Int) : Int) := oD
                  obtain ⟨go30, co30, eo30, gb30, gl30, cl30, HG30⟩ := Kd.R_form HO_4.out (by omega)
                  (first | cases eo30 | (injection eo30 with ea_ en_ ec_; (first | subst ea_ | (injection ea_ with ea_; subst ea_)); subst ec_; clear en_))
                  have GB30 := Aside0.mk gb30
                  have GG30 := Aside0.mk HG30
                  clear gb30 gl30 HG30
                  (first | simp only [add_plain] at hx202_0 | skip)
                  (first | simp only [add_plain] at hx203_0 | skip)
                  (first | simp only [add_plain] at hx204_0 | skip)
                  obtain ⟨hx30_0, hf30_0⟩ := Kd.R_celln 0 HO_4.out (x8_3 : Int) p30 q30
                  replace p30 := eq_true p30
                  replace q30 := eq_true q30
                  have HP33 := Kd.R_putn HO_4.out (x8_3 : Int) t205
                  rw [← Ny206.out] at HP33
                  have HQ33 := Aside0.mk HP33
                  clear HP33
                  refine hK.out _ _ ⟨(blk_cell BK200.out 0).trans rfl, (blk_cell BK200.out 1).trans rfl, (blk_cell BK200.out 2).trans rfl, (blk_cell BK200.out 3).trans rfl, hHeld.2.2.2.2.1, hHeld.2.2.2.2.2⟩ (fun hHeld => ?_)
                  clear hK K
                  refine norm_ (a' := ?_) ?_ ?_
                  rotate_left
                  ·show Act.put _ (some 72) _ = _
                   simp only [Act.put, sA, sZ, sS, i64_w, i32_w]
                   rfl
                  refine pU 17 73 (bA 19 262143) ?_
                  refine last_ (i := 18) (N := none) (bA 19 524287) rfl rfl (one_of HT_.out (by kernel_rfl)) (by decide) (fun K hK => ?_)
                  refine skip_ (w1 := ?_) (by rfl) rfl ?_ ?_
                  rotate_left
                  ·go_simp
                   rfl
                  refine hK.out _ _ ?_
                  clear hK K
                  refine done_ (done_of HT_.out (by kernel_rfl)) ?_
                  try go_wp2
                  (try simp only [← hl4_3])
                  go_roundg k3
                  case measure => have := HK1.out; have := HK2.out; have := HK3.out; omega
                  case rel => exact ⟨(y206), (wrap64 (x8_3 - 1)), (by first | rfl | (simp; done) | (simp [*]; done)), H', ⟨by have := HK1.out; have := HK2.out; have := HK3.out; omega⟩, ⟨by (try simp only [hl4_3]); (with_reducible repeat (first | apply Kd.R_alloc | apply Kd.R_drewN | apply Kd.R_drew)); exact Kd.R_mono (Kd.R_far (p := ⟨go30, (x8_3 : Int).toNat, none⟩) (Kd.R_mono HO_3.out (fun k_ hk => (⟨hk, fun e_ => hk (by rw [e_]; rfl)⟩ : _ ∧ k_ ≠ go30))) (fun _ hk => hk.2) (.int .i64 t205)) (fun _ hk => hk.1)⟩, ⟨by (try simp only [hl4_3]); (with_reducible repeat (first | apply Kd.R_alloc | apply Kd.R_drewN | apply Kd.R_drew)); exact HQ33.out⟩, ⟨by (try simp only [hl4_3]); (with_reducible repeat (first | refine blk_drewN ?_ _ | refine blk_drew ?_ | refine blk_alloc ?_ _)); refine blk_far ?_ (by have h_ := Kd.R_ne HO_4.out BK200.out (by decide); intro e_; exact h_ (by rw [e_]; rfl)) _; (with_reducible repeat (first | refine blk_drewN ?_ _ | refine blk_drew ?_ | refine blk_alloc ?_ _)); exact BK200.out⟩, ⟨by repeat (first | (with_reducible first | exact HB.out | apply below_alloc | apply pw_below_drewN | apply below_drew1 | refine below_set ?_ GB30.out | refine below_set ?_ GE200.out) | exact HB.out)⟩⟩
                 ·rw [if_neg c28] at H
                  exact absurd H (by simp)
                ·rw [if_neg c27] at H
                 exact absurd H (by simp)
               ·rw [if_neg c26] at H
                have c26b0 : decide (0 ≤ (rd x4_3 (ji23))) = false := decide_eq_false c26
                clear c26
                have H' := Aside0.mk H
                clear H
                have hcz34_0 : wr.cell? ⟨gb200, 0, none⟩ = some (.int .i64 ((rd_T59 l0 (rd t188 x6_2)).f0)) := (blk_cell BK200.out 0).trans rfl
                have hcz34_1 : wr.cell? ⟨gb200, 1, none⟩ = some (.int .i64 ((rd_T59 l0 (rd t188 x6_2)).f1)) := (blk_cell BK200.out 1).trans rfl
                have hcz34_2 : wr.cell? ⟨gb200, 2, none⟩ = some (.int .i64 ((rd_T59 l0 (rd t188 x6_2)).f2)) := (blk_cell BK200.out 2).trans rfl
                have hcz34_3 : wr.cell? ⟨gb200, 3, none⟩ = some (.int .i64 ((rd_T59 l0 (rd t188 x6_2)).f3)) := (blk_cell BK200.out 3).trans rfl
                (first | have hfz34_0 := fun u_ => blk_frozen (blk_far (p := ⟨go30, (x8_3 : Int).toNat, none⟩) BK200.out (by obtain ⟨cs_, ho_, _⟩ := HO_4.out.2; intro e_; exact absurd (by rw [e_]; rfl) (own_ne ho_ BK200.out (by decide))) u_) 0 | have hfz34_0 := blk_frozen BK200.out 0)
                (first | have hfz34_1 := fun u_ => blk_frozen (blk_far (p := ⟨go30, (x8_3 : Int).toNat, none⟩) BK200.out (by obtain ⟨cs_, ho_, _⟩ := HO_4.out.2; intro e_; exact absurd (by rw [e_]; rfl) (own_ne ho_ BK200.out (by decide))) u_) 1 | have hfz34_1 := blk_frozen BK200.out 1)
                (first | have hfz34_2 := fun u_ => blk_frozen (blk_far (p := ⟨go30, (x8_3 : Int).toNat, none⟩) BK200.out (by obtain ⟨cs_, ho_, _⟩ := HO_4.out.2; intro e_; exact absurd (by rw [e_]; rfl) (own_ne ho_ BK200.out (by decide))) u_) 2 | have hfz34_2 := blk_frozen BK200.out 2)
                (first | have hfz34_3 := fun u_ => blk_frozen (blk_far (p := ⟨go30, (x8_3 : Int).toNat, none⟩) BK200.out (by obtain ⟨cs_, ho_, _⟩ := HO_4.out.2; intro e_; exact absurd (by rw [e_]; rfl) (own_ne ho_ BK200.out (by decide))) u_) 3 | have hfz34_3 := blk_frozen BK200.out 3)
                have p202 : 0 ≤ ((ji23) : Int) := oD
                have q202 : (ji23) < (x4_3.length : Int) := oD
                obtain ⟨ad202, e202, hx202_0⟩ := Kd.at_int (Kd.R_reads' HO_4.out).2.2 (ji23) p202 q202
                cases e202
                replace p202 := eq_true p202
                replace q202 := eq_true q202
                go_wp2
                (try simp only [← hl4_3])
                go_roundg k3
                case measure => have := HK1.out; have := HK2.out; have := HK3.out; omega
                case rel => exact ⟨(x4_3), (wrap64 (x8_3 - 1)), (by first | rfl | (simp; done) | (simp [*]; done)), H', ⟨by have := HK1.out; have := HK2.out; have := HK3.out; omega⟩, ⟨by (try simp only [hl4_3]); (with_reducible repeat (first | apply Kd.R_alloc | apply Kd.R_drewN | apply Kd.R_drew)); exact HO_3.out⟩, ⟨by (try simp only [hl4_3]); (with_reducible repeat (first | apply Kd.R_alloc | apply Kd.R_drewN | apply Kd.R_drew)); exact HO_4.out⟩, ⟨by (try simp only [hl4_3]); (with_reducible repeat (first | refine blk_drewN ?_ _ | refine blk_drew ?_ | refine blk_alloc ?_ _)); exact BK200.out⟩, ⟨by repeat (first | (with_reducible first | exact HB.out | apply below_alloc | apply pw_below_drewN | apply below_drew1 | refine below_set ?_ GE200.out) | exact HB.out)⟩⟩
              ·rw [if_neg c25] at H
               exact absurd H (by simp)
             ·rw [if_neg c24] at H
              exact absurd H (by simp)
            ·rw [if_neg c22] at H
             have c22b0 : decide (((rd_T59 l0 (rd t188 x6_2)).f0) ≤ x8_3) = false := decide_eq_false c22
             clear c22
             have H' := Aside0.mk H
             clear H
             have hcz35_0 : wr.cell? ⟨gb200, 0, none⟩ = some (.int .i64 ((rd_T59 l0 (rd t188 x6_2)).f0)) := (blk_cell BK200.out 0).trans rfl
             have hcz35_1 : wr.cell? ⟨gb200, 1, none⟩ = some (.int .i64 ((rd_T59 l0 (rd t188 x6_2)).f1)) := (blk_cell BK200.out 1).trans rfl
             have hcz35_2 : wr.cell? ⟨gb200, 2, none⟩ = some (.int .i64 ((rd_T59 l0 (rd t188 x6_2)).f2)) := (blk_cell BK200.out 2).trans rfl
             have hcz35_3 : wr.cell? ⟨gb200, 3, none⟩ = some (.int .i64 ((rd_T59 l0 (rd t188 x6_2)).f3)) := (blk_cell BK200.out 3).trans rfl
             (first | have hfz35_0 := fun u_ => blk_frozen (blk_far (p := ⟨go30, (x8_3 : Int).toNat, none⟩) BK200.out (by obtain ⟨cs_, ho_, _⟩ := HO_4.out.2; intro e_; exact absurd (by rw [e_]; rfl) (own_ne ho_ BK200.out (by decide))) u_) 0 | have hfz35_0 := blk_frozen BK200.out 0)
             (first | have hfz35_1 := fun u_ => blk_frozen (blk_far (p := ⟨go30, (x8_3 : Int).toNat, none⟩) BK200.out (by obtain ⟨cs_, ho_, _⟩ := HO_4.out.2; intro e_; exact absurd (by rw [e_]; rfl) (own_ne ho_ BK200.out (by decide))) u_) 1 | have hfz35_1 := blk_frozen BK200.out 1)
             (first | have hfz35_2 := fun u_ => blk_frozen (blk_far (p := ⟨go30, (x8_3 : Int).toNat, none⟩) BK200.out (by obtain ⟨cs_, ho_, _⟩ := HO_4.out.2; intro e_; exact absurd (by rw [e_]; rfl) (own_ne ho_ BK200.out (by decide))) u_) 2 | have hfz35_2 := blk_frozen BK200.out 2)
             (first | have hfz35_3 := fun u_ => blk_frozen (blk_far (p := ⟨go30, (x8_3 : Int).toNat, none⟩) BK200.out (by obtain ⟨cs_, ho_, _⟩ := HO_4.out.2; intro e_; exact absurd (by rw [e_]; rfl) (own_ne ho_ BK200.out (by decide))) u_) 3 | have hfz35_3 := blk_frozen BK200.out 3)
             go_wp2
             (try simp only [← hl4_3])
             go_roundg k3
             case measure => have := HK1.out; have := HK2.out; have := HK3.out; omega
             case rel => exact ⟨(x4_3), (wrap64 (x6_2 + 1)), (by first | rfl | (simp; done) | (simp [*]; done)), H', ⟨by have := HK1.out; have := HK2.out; have := HK3.out; omega⟩, ⟨by (try simp only [hl4_3]); (with_reducible repeat (first | apply Kd.R_alloc | apply Kd.R_drewN | apply Kd.R_drew)); exact HO_3.out⟩, ⟨by (try simp only [hl4_3]); (with_reducible repeat (first | apply Kd.R_alloc | apply Kd.R_drewN | apply Kd.R_drew)); exact HO_4.out⟩, ⟨by repeat (first | (with_reducible first | exact HB.out | apply below_alloc | apply pw_below_drewN | apply below_drew1 | refine below_set ?_ GE200.out) | exact HB.out)⟩⟩
         ·rw [if_neg c16] at H
          exact absurd H (by simp)
        ·rw [if_neg c15] at H
         exact absurd H (by simp)
       ·rw [if_neg c14] at H
        exact absurd H (by simp)
      ·rw [if_neg c13] at H
       have c13b0 : decide (x6_2 < (t188.length : Int)) = false := decide_eq_false c13
       clear c13
       obtain rfl := Option.some.inj H
       obtain ⟨Ao36, co36, eo36⟩ := Kd.R_slice HO_3.out
       subst eo36
       go_wp2
       go_ret
       exact ⟨_, by first | rfl | (simp [errW_none, errW_some] <;> rfl) | (simp [*, errW_none, errW_some] <;> rfl), by (with_reducible repeat (first | apply Kd.R_alloc | apply Kd.R_drewN | apply Kd.R_drew)); exact Kd.R_mono HO_4.out (fun _ hk => trivial), bB⟩

end Go.Proofs.Ythhmembnhnghiaa.OFnExactLeastLateWeight
