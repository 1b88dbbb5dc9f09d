/- Functions of the program as plain Lean functions, with their contracts: written by this session's program ownprint.py. Conditions: none. -/
import Derived.Test.YtlhppclbokkfmaaOFnExactBestExtensionx0
import Derived.Test.YtlhppclbokkfmaaOFnExactBestExtensionx3
namespace Go.Proofs.Ytlhppclbokkfmaa.OFnExactBestExtension
open Go.RowKit Go.Proofs.YtlhppclbokkfmaaW.PrintWords Go.Proofs.YtlhppclbokkfmaaW.PrintLast Go.Proofs.YtlhppclbokkfmaaW.PrintMore
attribute [local go_sem] max2_int min2_int max_two min_two max_three min_three max_four min_four   -- for this text's walks alone
set_option linter.unusedVariables false
set_option linter.unusedSimpArgs false

/-! ### impl_numbersTo: function 43 -/
def impl_numbersTo.l0 : Nat → Int → List Int → Int → Option (List Int)
 | 0, _, _, _ => none
 | k + 1, x0, x3, x4 => if x4 < x0 then (if x3.length < 17592186044416 then (impl_numbersTo.l0 k x0 (x3 ++ [x4]) (wrap64 (x4 + 1))) else (none)) else (some x3)
def impl_numbersTo.f (k : Nat) (a0 : Int) : Option (List Int) := impl_numbersTo.l0 k a0 ([] : List Int) 0
theorem impl_numbersTo.mono_l : ∀ k, (∀ y0 y1 y2, LeO (impl_numbersTo.l0 k y0 y1 y2) (impl_numbersTo.l0 (k + 1) y0 y1 y2))
 | 0 => fun _ _ _ r h => by simp [impl_numbersTo.l0] at h
 | k + 1 => by
  have ih0 := impl_numbersTo.mono_l k
  ·intro y0 y1 y2
   unfold impl_numbersTo.l0
   repeat' first
   | (with_reducible exact ih0 _ _ _)
   | (with_reducible exact LeO.refl _)
   | (with_reducible exact LeO.none _)
   | (with_reducible refine LeO.ite ?_ ?_)
   | (with_reducible refine LeO.bind ?_ (fun _ => ?_))
   | exact ih0 _ _ _
   | exact LeO.none _
   | refine LeO.ite ?_ ?_
   | refine LeO.bind ?_ (fun _ => ?_)
theorem impl_numbersTo.mono : ∀ a0 k, LeO (impl_numbersTo.f k a0) (impl_numbersTo.f (k + 1) a0) := by
 intro a0 k; have ih0 := impl_numbersTo.mono_l k; unfold impl_numbersTo.f
 repeat' first
   | (with_reducible exact ih0 _ _ _)
   | (with_reducible exact LeO.refl _)
   | (with_reducible exact LeO.none _)
   | (with_reducible refine LeO.ite ?_ ?_)
   | (with_reducible refine LeO.bind ?_ (fun _ => ?_))
   | exact ih0 _ _ _
   | exact LeO.none _
   | refine LeO.ite ?_ ?_
   | refine LeO.bind ?_ (fun _ => ?_)
set_option maxHeartbeats 8000000 in
set_option maxRecDepth 100000 in
theorem impl_numbersTo.calls (k : Nat) (a0 : Int) (r : List Int) (w : World) (h : impl_numbersTo.f k a0 = some r) :
  Calls Try.prog 43 #[.int .i64 a0] w fun e w' => ∃ v0_ : Value, e = .returned (v0_) ∧ Kd.R (Kd.int .i64) 3 w' w.heap.size (fun _ => True) v0_ r ∧ Below w.heap.size w w' := by
 have HB := aM (Below.refl w.heap.size w); have H : (impl_numbersTo.l0 k a0 ([] : List Int) 0) = some r := h; clear h; have H' := aM H; clear H; go_enter Try.func43, Try.ntmps43; go_wp2; go_loopg [3, 4] k (fun kq v3 v4 w' => ∃ (x3_1 : List Int) (x4_1 : Int), v4 = .int .i64 x4_1 ∧ Aside0 (impl_numbersTo.l0 kq a0 x3_1 x4_1 = some r) ∧ Aside0 (kq ≤ k) ∧ Aside0 (Kd.R (Kd.int .i64) 3 w' w.heap.size (fun _ => True) v3 x3_1) ∧ Aside0 (Below w.heap.size w w'))
 case atStart => exact ⟨(([] : List Int)), (0), sD, H', ⟨Nat.le_refl _⟩, ⟨by first | exact Kd.R_nil _ _ _ _ _ | exact Kd.N_nil _ _ _ _ _ | exact Kd.V_nil _ _ _ _ _ | exact Kd.Q_nil _ _ _ _ _ | exact Kd.S_nil _ _ _ _ _⟩, ⟨by repeat (first | (with_reducible first | exact HB.out | apply below_alloc | apply pw_below_drewN | apply below_drew1) | exact HB.out)⟩⟩
 case round =>
  clear H'; obtain ⟨x3_1, x4_1, rfl, HA, HK1, HO_3, HB⟩ := hrel
  cases gk with
  | zero => exact absurd HA.out (by simp [impl_numbersTo.l0])
  | succ k1 =>
   have H := HA.out; clear HA; simp only [impl_numbersTo.l0] at H; by_cases c2 : x4_1 < a0
   ·rw [if_pos c2] at H
    have c2b0 : decide (x4_1 < a0) = true := decide_eq_true c2; clear c2; by_cases c3 : x3_1.length < 17592186044416; rotate_left
    ·rw [if_neg c3] at H; exact absurd H (by simp)
    rw [if_pos c3] at H; have LMc3 := aM c3; clear c3; obtain ⟨y337, hy337⟩ : ∃ y_ : List Int, y_ = (x3_1 ++ [x4_1]) := ⟨_, rfl⟩; (replace H : (impl_numbersTo.l0 k1 a0 y337 (wrap64 (x4_1 + 1))) = some r := by first | (rw [hy337]; with_reducible exact H) | (have H2_ := (Option.bind_some _ _).symm.trans H; rw [hy337]; with_reducible exact H2_) | (have H2_ := (Option.bind_some _ _).symm.trans H; with_reducible exact H2_) | with_reducible exact H | (rw [hy337]; exact H) | exact H); have Ny337 := aM hy337; clear hy337; have H' := aM H; clear H; (go_wp2_with (first | ((with_reducible refine gate_builtin (b := .append) (xs := #[.tmp 10, .tmp 12]) rfl ?_); at_builtin; refine Kd.R_append (Kd.int .i64) (w0 := w) w.heap.size rfl (.tmp 10) (.tmp 12) 38 3 (.int .i64 0) 8 rfl Try.underlying38 info3 rfl (by decide) (by omega) u3 x3_1 x4_1 [.int .i64 x4_1] (fun _ => True) (fun _ => False) rfl rfl ?aP (fun _ hk => hk.elim) ?aF ?aO ?aB ?aS ?aL ?_; (case aP => exact rfl); (case aB => exact bB); (case aF => exact (fun _ _ => trivial)); (case aO => exact (by (with_reducible repeat (first | apply Kd.R_alloc | apply Kd.R_drewN | apply Kd.R_drew)); exact HO_3.out)); (case aS => exact (below_size bB)); (case aL => have := LMc3.out; omega); intro v338 w4 ho hb hg hat; rw [← Ny337.out] at ho; have n0_ := aM (hb); have n1_ := aM (ho); clear HB; clear HO_3; have HB := n0_; have HO339 := n1_; clear n0_ n1_; clear ho hb hg hat))); go_roundg k1
    case measure => have := HK1.out; omega
    case rel => exact ⟨(y337), (wrap64 (x4_1 + 1)), sD, H', ⟨by have := HK1.out; omega⟩, ⟨kR⟩, ⟨by repeat (first | (with_reducible first | exact HB.out | apply below_alloc | apply pw_below_drewN | apply below_drew1) | exact HB.out)⟩⟩
   ·rw [if_neg c2] at H
    have c2b0 : decide (x4_1 < a0) = false := decide_eq_false c2; clear c2; obtain rfl := Option.some.inj H; go_wp2; go_ret; (exact ⟨_, by first | rfl | (simp [errW_none, errW_some] <;> rfl) | (simp [*, errW_none, errW_some] <;> rfl), by (with_reducible repeat (first | apply Kd.R_alloc | apply Kd.R_drewN | apply Kd.R_drew)); exact HO_3.out, bB⟩)

/-! ### impl_nextOrder: function 82 -/
mutual
def impl_nextOrder.j1 : Nat → List Int → Int → Option (Bool × List Int)
 | 0, _, _ => none
 | k + 1, x0, x3 => if x3 < 0 then (some (false, x0)) else (impl_nextOrder.l1 k x0 x3 (wrap64 ((x0.length : Int) - 1)))
def impl_nextOrder.l1 : Nat → List Int → Int → Int → Option (Bool × List Int)
 | 0, _, _, _ => none
 | k + 1, x0, x3, x4 => if 0 ≤ x4 then (if x4 < (x0.length : Int) then (if 0 ≤ x3 then (if x3 < (x0.length : Int) then (if (rd x0 x4) < (rd x0 x3) then (impl_nextOrder.l1 k x0 x3 (wrap64 (x4 - 1))) else (impl_nextOrder.l2 k ((x0.set (x3 : Int).toNat (rd x0 x4)).set (x4 : Int).toNat (rd x0 x3)) (wrap64 (x3 + 1)) (wrap64 ((x0.length : Int) - 1)))) else (none)) else (none)) else (none)) else (none)
def impl_nextOrder.l2 : Nat → List Int → Int → Int → Option (Bool × List Int)
 | 0, _, _, _ => none
 | k + 1, x0, x5, x6 => if x5 < x6 then (if 0 ≤ x6 then (if x6 < (x0.length : Int) then (if 0 ≤ x5 then (if x5 < (x0.length : Int) then (impl_nextOrder.l2 k ((x0.set (x5 : Int).toNat (rd x0 x6)).set (x6 : Int).toNat (rd x0 x5)) (wrap64 (x5 + 1)) (wrap64 (x6 - 1))) else (none)) else (none)) else (none)) else (none)) else (some (true, x0))
def impl_nextOrder.l0 : Nat → List Int → Int → Option (Bool × List Int)
 | 0, _, _ => none
 | k + 1, x0, x3 => if x3 ≥ 0 then (if 0 ≤ x3 then (if x3 < (x0.length : Int) then (if 0 ≤ (wrap64 (x3 + 1)) then (if (wrap64 (x3 + 1)) < (x0.length : Int) then (if (rd x0 x3) > (rd x0 (wrap64 (x3 + 1))) then (impl_nextOrder.l0 k x0 (wrap64 (x3 - 1))) else (impl_nextOrder.j1 k x0 x3)) else (none)) else (none)) else (none)) else (none)) else (impl_nextOrder.j1 k x0 x3)
end
def impl_nextOrder.f (k : Nat) (l0 : List Int) : Option (Bool × List Int) := impl_nextOrder.l0 k l0 (wrap64 ((l0.length : Int) - 2))
theorem impl_nextOrder.mono_l : ∀ k, (∀ y0 y1, LeO (impl_nextOrder.j1 k y0 y1) (impl_nextOrder.j1 (k + 1) y0 y1)) ∧ (∀ y0 y1 y2, LeO (impl_nextOrder.l1 k y0 y1 y2) (impl_nextOrder.l1 (k + 1) y0 y1 y2)) ∧ (∀ y0 y1 y2, LeO (impl_nextOrder.l2 k y0 y1 y2) (impl_nextOrder.l2 (k + 1) y0 y1 y2)) ∧ (∀ y0 y1, LeO (impl_nextOrder.l0 k y0 y1) (impl_nextOrder.l0 (k + 1) y0 y1))
 | 0 => ⟨fun _ _ r h => by simp [impl_nextOrder.j1] at h, fun _ _ _ r h => by simp [impl_nextOrder.l1] at h, fun _ _ _ r h => by simp [impl_nextOrder.l2] at h, fun _ _ r h => by simp [impl_nextOrder.l0] at h⟩
 | k + 1 => by
  obtain ⟨ih0, ih1, ih2, ih3⟩ := impl_nextOrder.mono_l k; refine ⟨?_, ?_, ?_, ?_⟩
  ·intro y0 y1
   unfold impl_nextOrder.j1
   repeat' first
   | (with_reducible exact ih0 _ _)
   | (with_reducible exact ih1 _ _ _)
   | (with_reducible exact ih2 _ _ _)
   | (with_reducible exact ih3 _ _)
   | (with_reducible exact LeO.refl _)
   | (with_reducible exact LeO.none _)
   | (with_reducible refine LeO.ite ?_ ?_)
   | (with_reducible refine LeO.bind ?_ (fun _ => ?_))
   | exact ih0 _ _
   | exact ih1 _ _ _
   | exact ih2 _ _ _
   | exact ih3 _ _
   | exact LeO.none _
   | refine LeO.ite ?_ ?_
   | refine LeO.bind ?_ (fun _ => ?_)
  ·intro y0 y1 y2
   unfold impl_nextOrder.l1
   repeat' first
   | (with_reducible exact ih0 _ _)
   | (with_reducible exact ih1 _ _ _)
   | (with_reducible exact ih2 _ _ _)
   | (with_reducible exact ih3 _ _)
   | (with_reducible exact LeO.refl _)
   | (with_reducible exact LeO.none _)
   | (with_reducible refine LeO.ite ?_ ?_)
   | (with_reducible refine LeO.bind ?_ (fun _ => ?_))
   | exact ih0 _ _
   | exact ih1 _ _ _
   | exact ih2 _ _ _
   | exact ih3 _ _
   | exact LeO.none _
   | refine LeO.ite ?_ ?_
   | refine LeO.bind ?_ (fun _ => ?_)
  ·intro y0 y1 y2
   unfold impl_nextOrder.l2
   repeat' first
   | (with_reducible exact ih0 _ _)
   | (with_reducible exact ih1 _ _ _)
   | (with_reducible exact ih2 _ _ _)
   | (with_reducible exact ih3 _ _)
   | (with_reducible exact LeO.refl _)
   | (with_reducible exact LeO.none _)
   | (with_reducible refine LeO.ite ?_ ?_)
   | (with_reducible refine LeO.bind ?_ (fun _ => ?_))
   | exact ih0 _ _
   | exact ih1 _ _ _
   | exact ih2 _ _ _
   | exact ih3 _ _
   | exact LeO.none _
   | refine LeO.ite ?_ ?_
   | refine LeO.bind ?_ (fun _ => ?_)
  ·intro y0 y1
   unfold impl_nextOrder.l0
   repeat' first
   | (with_reducible exact ih0 _ _)
   | (with_reducible exact ih1 _ _ _)
   | (with_reducible exact ih2 _ _ _)
   | (with_reducible exact ih3 _ _)
   | (with_reducible exact LeO.refl _)
   | (with_reducible exact LeO.none _)
   | (with_reducible refine LeO.ite ?_ ?_)
   | (with_reducible refine LeO.bind ?_ (fun _ => ?_))
   | exact ih0 _ _
   | exact ih1 _ _ _
   | exact ih2 _ _ _
   | exact ih3 _ _
   | exact LeO.none _
   | refine LeO.ite ?_ ?_
   | refine LeO.bind ?_ (fun _ => ?_)
theorem impl_nextOrder.mono : ∀ a0 k, LeO (impl_nextOrder.f k a0) (impl_nextOrder.f (k + 1) a0) := by
 intro a0 k; obtain ⟨ih0, ih1, ih2, ih3⟩ := impl_nextOrder.mono_l k; unfold impl_nextOrder.f
 repeat' first
   | (with_reducible exact ih0 _ _)
   | (with_reducible exact ih1 _ _ _)
   | (with_reducible exact ih2 _ _ _)
   | (with_reducible exact ih3 _ _)
   | (with_reducible exact LeO.refl _)
   | (with_reducible exact LeO.none _)
   | (with_reducible refine LeO.ite ?_ ?_)
   | (with_reducible refine LeO.bind ?_ (fun _ => ?_))
   | exact ih0 _ _
   | exact ih1 _ _ _
   | exact ih2 _ _ _
   | exact ih3 _ _
   | exact LeO.none _
   | refine LeO.ite ?_ ?_
   | refine LeO.bind ?_ (fun _ => ?_)
def impl_nextOrder.T2 : Bool × List (List Nat × List Nat) := (true, [([], []), ([0], [0]), ([1], [1]), ([2], [2]), ([2], [2]), ([3, 4, 2], [2, 3, 4]), ([5, 2], [2, 5]), ([2], [2]), ([2], [2]), ([8, 2], [2, 8]), ([7, 9, 2], [2, 7, 9]), ([10, 2], [2, 10]), ([6, 11, 2], [2, 6, 11]), ([2, 12], [2, 12])])
def impl_nextOrder.B2 : List Nat := [0, 1, 3, 7, 7, 31, 63, 7, 7, 263, 903, 1927, 4095, 8191]
theorem impl_nextOrder.tab2 : rtab .any (opsOf Try.f82 2) = impl_nextOrder.T2 := by kernel_rfl
theorem impl_nextOrder.bits2 : waitsOk impl_nextOrder.T2.2 impl_nextOrder.B2 = true := by kernel_rfl
def impl_nextOrder.T7 : Bool × List (List Nat × List Nat) := (true, [([], []), ([], []), ([0, 1], [0, 1]), ([2], [2]), ([], []), ([], []), ([4, 5], [4, 5]), ([6], [6]), ([3, 7], [3, 7])])
def impl_nextOrder.B7 : List Nat := [0, 0, 3, 7, 0, 0, 48, 112, 255]
theorem impl_nextOrder.tab7 : rtab .any (opsOf Try.f82 7) = impl_nextOrder.T7 := by kernel_rfl
theorem impl_nextOrder.bits7 : waitsOk impl_nextOrder.T7.2 impl_nextOrder.B7 = true := by kernel_rfl
def impl_nextOrder.T9 : Bool × List (List Nat × List Nat) := (true, [([], []), ([], []), ([], []), ([], []), ([], []), ([], []), ([4, 5], [4, 5]), ([6], [6]), ([], []), ([], []), ([8, 9], [8, 9]), ([10], [10]), ([0, 1, 0, 1, 4, 5, 6, 7, 11], [0, 1]), ([12, 7, 0, 1, 4, 5, 6, 7, 11], [7, 12]), ([2, 3, 0, 1, 2, 3, 4, 5, 6, 7, 8, 9, 10, 11, 12, 13], [2, 3]), ([14, 11, 13, 0, 1, 2, 3, 4, 5, 6, 7, 8, 9, 10, 11, 12, 13], [11, 14])])
def impl_nextOrder.B9 : List Nat := [0, 0, 0, 0, 0, 0, 48, 112, 0, 0, 768, 1792, 4083, 8179, 16383, 32767]
theorem impl_nextOrder.tab9 : rtab .any (opsOf Try.f82 9) = impl_nextOrder.T9 := by kernel_rfl
theorem impl_nextOrder.bits9 : waitsOk impl_nextOrder.T9.2 impl_nextOrder.B9 = true := by kernel_rfl
def impl_nextOrder.T13 : Bool × List (List Nat × List Nat) := (true, [([], []), ([], []), ([], []), ([], []), ([], []), ([], []), ([4, 5], [4, 5]), ([6], [6]), ([], []), ([], []), ([8, 9], [8, 9]), ([10], [10]), ([0, 1, 0, 1, 4, 5, 6, 7, 11], [0, 1]), ([12, 7, 0, 1, 4, 5, 6, 7, 11], [7, 12]), ([2, 3, 0, 1, 2, 3, 4, 5, 6, 7, 8, 9, 10, 11, 12, 13], [2, 3]), ([14, 11, 13, 0, 1, 2, 3, 4, 5, 6, 7, 8, 9, 10, 11, 12, 13], [11, 14])])
def impl_nextOrder.B13 : List Nat := [0, 0, 0, 0, 0, 0, 48, 112, 0, 0, 768, 1792, 4083, 8179, 16383, 32767]
theorem impl_nextOrder.tab13 : rtab .any (opsOf Try.f82 13) = impl_nextOrder.T13 := by kernel_rfl
theorem impl_nextOrder.bits13 : waitsOk impl_nextOrder.T13.2 impl_nextOrder.B13 = true := by kernel_rfl
set_option maxHeartbeats 8000000 in
set_option maxRecDepth 100000 in
theorem impl_nextOrder.calls (k : Nat) (P0_ : Nat → Prop) (u9000_ : Value) (l0 : List Int) (r1 : Bool) (r2 : List Int) (w0 w : World) (hB : Below w0.heap.size w0 w) (ho0 : Kd.R (Kd.int .i64) 3 w w0.heap.size P0_ u9000_ l0) (h : impl_nextOrder.f k l0 = some (r1, r2)) :
  Calls Try.prog 82 #[u9000_] w fun e w' => e = .returned (.bool r1) ∧ Kd.R (Kd.int .i64) 3 w' w0.heap.size (fun k_ => (P0_ k_ ∨ w.heap.size ≤ k_)) u9000_ r2 ∧ Below w0.heap.size w0 w' ∧ Kept w w' (fun k_ => P0_ k_) := by
 have HO0 := aM (show Kd.R (Kd.int .i64) 3 w w0.heap.size (fun k_ => (P0_ k_ ∨ w.heap.size ≤ k_)) u9000_ l0 from Kd.R_mono ho0 (fun k_ hk => (.inl hk))); have HK := aM (Kept.refl w (fun k_ => P0_ k_)); have HW0 := aM hB.size; have HB := aM hB; clear hB; have H : (impl_nextOrder.l0 k l0 (wrap64 ((l0.length : Int) - 2))) = some (r1, r2) := h; clear h; have HC2 := aM H; clear H; obtain ⟨Ao3, co3, eo3⟩ := Kd.R_slice HO0.out; subst eo3; go_enter Try.func82, Try.ntmps82; go_upto_block 0 with (fail); go_cut [3] (fun v3 wc => ∃ (kq : Nat) (x3_1 : Int), v3 = .int .i64 x3_1 ∧ Aside0 (impl_nextOrder.j1 kq l0 x3_1 = some (r1, r2)) ∧ Aside0 (kq ≤ k) ∧ Aside0 (Kd.R (Kd.int .i64) 3 wc w0.heap.size (fun k_ => (P0_ k_ ∨ w.heap.size ≤ k_)) (.slice Ao3 l0.length co3) l0) ∧ Aside0 (Kept w wc (fun k_ => P0_ k_)) ∧ Aside0 (Below w0.heap.size w0 wc))
 case first =>
  have H := HC2.out; clear HC2; have H' := aM H; clear H; go_wp2; go_loopg [3] k (fun kq v3 w' => ∃ (x3_1 : Int), v3 = .int .i64 x3_1 ∧ Aside0 (impl_nextOrder.l0 kq l0 x3_1 = some (r1, r2)) ∧ Aside0 (kq ≤ k) ∧ Aside0 (Kd.R (Kd.int .i64) 3 w' w0.heap.size (fun k_ => (P0_ k_ ∨ w.heap.size ≤ k_)) (.slice Ao3 l0.length co3) l0) ∧ Aside0 (Kept w w' (fun k_ => P0_ k_)) ∧ Aside0 (Below w0.heap.size w0 w'))
  case atStart => exact ⟨(wrap64 ((l0.length : Int) - 2)), sD, H', ⟨Nat.le_refl _⟩, ⟨kR⟩, ⟨by repeat (first | (with_reducible first | exact HK.out | apply Kept.alloc | apply Kept.drewN | apply Kept.drew) | exact HK.out)⟩, ⟨by repeat (first | (with_reducible first | exact HB.out | apply below_alloc | apply pw_below_drewN | apply below_drew1) | exact HB.out)⟩⟩
  case round =>
   clear H'; obtain ⟨x3_1, rfl, HA, HK1, HO_0, HK, HB⟩ := hrel
   cases gk with
   | zero => exact absurd HA.out (by simp [impl_nextOrder.l0])
   | succ k1 =>
    have H := HA.out; clear HA; simp only [impl_nextOrder.l0] at H; by_cases c4 : x3_1 ≥ 0
    ·rw [if_pos c4] at H
     have c4b0 : decide (0 ≤ x3_1) = true := decide_eq_true c4; clear c4; (first | rw [c4b0] | (simp only [i64_w, i32_w]; rw [c4b0]) | skip); by_cases c5 : 0 ≤ x3_1; rotate_left
     ·rw [if_neg c5] at H; exact absurd H (by simp)
     rw [if_pos c5] at H; have c5b0 : decide (0 ≤ x3_1) = true := decide_eq_true c5; clear c5; by_cases c6 : x3_1 < (l0.length : Int); rotate_left
     ·rw [if_neg c6] at H; exact absurd H (by simp)
     rw [if_pos c6] at H; have c6b0 : decide (x3_1 < (l0.length : Int)) = true := decide_eq_true c6; clear c6; obtain ⟨ji7, hji7⟩ : ∃ j_ : Int, (wrap64 (x3_1 + 1)) = j_ := ⟨_, rfl⟩; (replace H : (if 0 ≤ (ji7) then (if (ji7) < (l0.length : Int) then (if (rd l0 x3_1) > (rd l0 (ji7)) then (impl_nextOrder.l0 k1 l0 (wrap64 (x3_1 - 1))) else (impl_nextOrder.j1 k1 l0 x3_1)) else (none)) else (none)) = some (r1, r2) := by first | (rw [hji7] at H; exact H) | (simp only [hji7] at H ⊢; exact H)); have hji7w : (IntKind.i64.wrap (x3_1 + 1)) = ji7 := (i64_w _).trans hji7; by_cases c8 : 0 ≤ (ji7); rotate_left
     ·rw [if_neg c8] at H; exact absurd H (by simp)
     rw [if_pos c8] at H; have c8b0 : decide (0 ≤ (ji7)) = true := decide_eq_true c8; clear c8; by_cases c9 : (ji7) < (l0.length : Int); rotate_left
     ·rw [if_neg c9] at H; exact absurd H (by simp)
     rw [if_pos c9] at H; have c9b0 : decide ((ji7) < (l0.length : Int)) = true := decide_eq_true c9; clear c9; by_cases c10 : (rd l0 x3_1) > (rd l0 (ji7))
     ·rw [if_pos c10] at H
      have c10b0 : decide ((rd l0 (ji7)) < (rd l0 x3_1)) = true := decide_eq_true c10; clear c10; have H' := aM H; clear H; (try go_wp2); have n0_ := aM (Kd.R_drew HO_0.out); have n1_ := aM (Kept.drew HK.out); have n2_ := aM (below_drew1 HB.out); clear HO_0; clear HK; clear HB; have HO_0 := n0_; have HK := n1_; have HB := n2_; clear n0_ n1_ n2_; have p340 : 0 ≤ (x3_1 : Int) := oD; have q340 : x3_1 < (l0.length : Int) := oD; obtain ⟨ad340, e340, hx340_0⟩ := Kd.at_int (Kd.R_reads' HO_0.out).2.2 x3_1 p340 q340; cases e340; replace p340 := eq_true p340; replace q340 := eq_true q340; have p341 : 0 ≤ ((ji7) : Int) := oD; have q341 : (ji7) < (l0.length : Int) := oD; obtain ⟨ad341, e341, hx341_0⟩ := Kd.at_int (Kd.R_reads' HO_0.out).2.2 (ji7) p341 q341; obtain rfl : ad340 = ad341 := (by injection e341); replace p341 := eq_true p341; replace q341 := eq_true q341; refine start_ (n := 14) (S := fun w' => w'.cell? (ad340.add (x3_1).toNat) = some (.int .i64 (rd l0 x3_1)) ∧ w'.cell? (ad340.add ((ji7)).toNat) = some (.int .i64 (rd l0 (ji7)))) (ds := []) (bA 14 0) (by kernel_rfl) rfl rfl ⟨hx340_0, hx341_0⟩ (fun hHeld => ?_); refine with_tabW impl_nextOrder.tab2 impl_nextOrder.bits2 (fun HT_ HW_ => ?_); generalize wr.drew = w11 at HO_0 HK HB hx340_0 hx341_0 hHeld ⊢; refine pU 0 10 (bA 14 1) ?_; refine pU 1 11 (bA 14 3) ?_; refine pU 2 12 (bA 14 7) ?_; refine pU 3 13 (bA 14 15) ?_; refine pU 4 14 (bA 14 31) ?_; refine pU 5 15 (bA 14 63) ?_; refine pU 7 17 (bA 14 191) ?_; refine pU 8 18 (bA 14 447) ?_; refine pU 9 19 (bA 14 959) ?_; refine pU 10 20 (bA 14 1983) ?_; refine tU 6 16 (bA 14 2047) ?_; refine tU 11 21 (bA 14 4095) ?_; refine pU 12 22 (bA 14 8191) ?_; refine pU 13 23 (bA 14 16383) ?_; refine done_ (done_of HT_.out (by kernel_rfl)) ?_; (try go_wp2); go_roundg k1
      case measure => have := HK1.out; omega
      case rel => exact ⟨(wrap64 (x3_1 - 1)), sD, H', ⟨by have := HK1.out; omega⟩, ⟨kR⟩, ⟨by repeat (first | (with_reducible first | exact HK.out | apply Kept.alloc | apply Kept.drewN | apply Kept.drew) | exact HK.out)⟩, ⟨by repeat (first | (with_reducible first | exact HB.out | apply below_alloc | apply pw_below_drewN | apply below_drew1) | exact HB.out)⟩⟩
     ·rw [if_neg c10] at H
      have c10b0 : decide ((rd l0 (ji7)) < (rd l0 x3_1)) = false := decide_eq_false c10; clear c10; have H' := aM H; clear H; (try go_wp2); have n0_ := aM (Kd.R_drew HO_0.out); have n1_ := aM (Kept.drew HK.out); have n2_ := aM (below_drew1 HB.out); clear HO_0; clear HK; clear HB; have HO_0 := n0_; have HK := n1_; have HB := n2_; clear n0_ n1_ n2_; have p340 : 0 ≤ (x3_1 : Int) := oD; have q340 : x3_1 < (l0.length : Int) := oD; obtain ⟨ad340, e340, hx340_0⟩ := Kd.at_int (Kd.R_reads' HO_0.out).2.2 x3_1 p340 q340; cases e340; replace p340 := eq_true p340; replace q340 := eq_true q340; have p341 : 0 ≤ ((ji7) : Int) := oD; have q341 : (ji7) < (l0.length : Int) := oD; obtain ⟨ad341, e341, hx341_0⟩ := Kd.at_int (Kd.R_reads' HO_0.out).2.2 (ji7) p341 q341; obtain rfl : ad340 = ad341 := (by injection e341); replace p341 := eq_true p341; replace q341 := eq_true q341; refine start_ (n := 14) (S := fun w' => w'.cell? (ad340.add (x3_1).toNat) = some (.int .i64 (rd l0 x3_1)) ∧ w'.cell? (ad340.add ((ji7)).toNat) = some (.int .i64 (rd l0 (ji7)))) (ds := []) (bA 14 0) (by kernel_rfl) rfl rfl ⟨hx340_0, hx341_0⟩ (fun hHeld => ?_); refine with_tabW impl_nextOrder.tab2 impl_nextOrder.bits2 (fun HT_ HW_ => ?_); generalize wr.drew = w12 at HO_0 HK HB hx340_0 hx341_0 hHeld ⊢; refine pU 0 10 (bA 14 1) ?_; refine pU 1 11 (bA 14 3) ?_; refine pU 2 12 (bA 14 7) ?_; refine pU 3 13 (bA 14 15) ?_; refine pU 4 14 (bA 14 31) ?_; refine pU 5 15 (bA 14 63) ?_; refine pU 7 17 (bA 14 191) ?_; refine pU 8 18 (bA 14 447) ?_; refine pU 9 19 (bA 14 959) ?_; refine pU 10 20 (bA 14 1983) ?_; refine tU 6 16 (bA 14 2047) ?_; refine tU 11 21 (bA 14 4095) ?_; refine pU 12 22 (bA 14 8191) ?_; refine pU 13 23 (bA 14 16383) ?_; refine done_ (done_of HT_.out (by kernel_rfl)) ?_; (try go_wp2); go_meet
      case rel => exact ⟨_, (x3_1), sD, H', ⟨by have := HK1.out; first | omega | exact Nat.le_refl _⟩, ⟨kR⟩, ⟨by repeat (first | (with_reducible first | exact HK.out | apply Kept.alloc | apply Kept.drewN | apply Kept.drew) | exact HK.out)⟩, ⟨by repeat (first | (with_reducible first | exact HB.out | apply below_alloc | apply pw_below_drewN | apply below_drew1) | exact HB.out)⟩⟩
    ·rw [if_neg c4] at H
     have c4b0 : decide (0 ≤ x3_1) = false := decide_eq_false c4; clear c4; (first | rw [c4b0] | (simp only [i64_w, i32_w]; rw [c4b0]) | skip); have H' := aM H; clear H; (try go_wp2); have n0_ := aM (Kd.R_drew HO_0.out); have n1_ := aM (Kept.drew HK.out); have n2_ := aM (below_drew1 HB.out); clear HO_0; clear HK; clear HB; have HO_0 := n0_; have HK := n1_; have HB := n2_; clear n0_ n1_ n2_; refine start_ (n := 14) (S := fun w' => True) (ds := []) (bA 14 0) (by kernel_rfl) rfl rfl trivial (fun hHeld => ?_); refine with_tabW impl_nextOrder.tab2 impl_nextOrder.bits2 (fun HT_ HW_ => ?_); generalize wr.drew = w13 at HO_0 HK HB hHeld ⊢; refine pU 0 10 (bA 14 1) ?_; refine pU 1 11 (bA 14 3) ?_; refine pU 2 12 (bA 14 7) ?_; refine nU 3 13 (bA 14 15) ?_; refine nU 4 14 (bA 14 31) ?_; refine nU 5 15 (bA 14 63) ?_; refine nU 6 16 (bA 14 127) ?_; refine nU 7 17 (bA 14 255) ?_; refine nU 8 18 (bA 14 511) ?_; refine nU 9 19 (bA 14 1023) ?_; refine nU 10 20 (bA 14 2047) ?_; refine nU 11 21 (bA 14 4095) ?_; refine nU 12 22 (bA 14 8191) ?_; refine pU 13 23 (bA 14 16383) ?_; refine done_ (done_of HT_.out (by kernel_rfl)) ?_; (try go_wp2); go_meet
     case rel => exact ⟨_, (x3_1), sD, H', ⟨by have := HK1.out; first | omega | exact Nat.le_refl _⟩, ⟨kR⟩, ⟨by repeat (first | (with_reducible first | exact HK.out | apply Kept.alloc | apply Kept.drewN | apply Kept.drew) | exact HK.out)⟩, ⟨by repeat (first | (with_reducible first | exact HB.out | apply below_alloc | apply pw_below_drewN | apply below_drew1) | exact HB.out)⟩⟩
 case rest =>
  clear HC2; (try clear c4); (try clear c4b0); (try clear c5); (try clear c5b0); (try clear c6); (try clear c6b0); (try clear c8); (try clear c8b0); (try clear c9); (try clear c9b0); (try clear c10); (try clear c10b0); (try clear hx340_0); (try clear hx341_0); (try clear p340); (try clear p341); (try clear q340); (try clear q341); obtain ⟨kq, x3_1, rfl, HA, HJ1, HO_0, HK, HB⟩ := hcut
  cases kq with
  | zero => exact absurd HA.out (by simp [impl_nextOrder.j1])
  | succ kj1 =>
   have H := HA.out; clear HA; simp only [impl_nextOrder.j1] at H; by_cases c14 : x3_1 < 0
   ·rw [if_pos c14] at H
    have c14b0 : decide (x3_1 < 0) = true := decide_eq_true c14; clear c14; simp only [Option.some.injEq, Prod.mk.injEq] at H; obtain ⟨rfl, rfl⟩ := H; go_wp2; go_ret; exact ⟨rE, by (with_reducible repeat (first | apply Kd.R_alloc | apply Kd.R_drewN | apply Kd.R_drew)); exact HO_0.out, by repeat (first | (with_reducible first | exact HB.out | apply below_alloc | apply pw_below_drewN | apply below_drew1) | exact HB.out), by repeat (first | (with_reducible first | exact HK.out | apply Kept.alloc | apply Kept.drewN | apply Kept.drew) | exact HK.out)⟩
   ·rw [if_neg c14] at H
    have c14b0 : decide (x3_1 < 0) = false := decide_eq_false c14; clear c14; have H' := aM H; clear H; go_wp2; go_loopg [4] kj1 (fun kq v4 w' => ∃ (x4_2 : Int), v4 = .int .i64 x4_2 ∧ Aside0 (impl_nextOrder.l1 kq l0 x3_1 x4_2 = some (r1, r2)) ∧ Aside0 (kq ≤ kj1) ∧ Aside0 (Kd.R (Kd.int .i64) 3 w' w0.heap.size (fun k_ => (P0_ k_ ∨ w.heap.size ≤ k_)) (.slice Ao3 l0.length co3) l0) ∧ Aside0 (Kept w w' (fun k_ => P0_ k_)) ∧ Aside0 (Below w0.heap.size w0 w'))
    case atStart => exact ⟨(wrap64 ((l0.length : Int) - 1)), sD, H', ⟨Nat.le_refl _⟩, ⟨kR⟩, ⟨by repeat (first | (with_reducible first | exact HK.out | apply Kept.alloc | apply Kept.drewN | apply Kept.drew) | exact HK.out)⟩, ⟨by repeat (first | (with_reducible first | exact HB.out | apply below_alloc | apply pw_below_drewN | apply below_drew1) | exact HB.out)⟩⟩
    case round =>
     clear H'; (try clear c4); (try clear c4b0); (try clear c5); (try clear c5b0); (try clear c6); (try clear c6b0); (try clear c8); (try clear c8b0); (try clear c9); (try clear c9b0); (try clear c10); (try clear c10b0); (try clear c14); (try clear c14b0); (try clear hx340_0); (try clear hx341_0); (try clear p340); (try clear p341); (try clear q340); (try clear q341); obtain ⟨x4_2, rfl, HA, HK2, HO_0, HK, HB⟩ := hrel
     cases gk with
     | zero => exact absurd HA.out (by simp [impl_nextOrder.l1])
     | succ k2 =>
      have H := HA.out; clear HA; simp only [impl_nextOrder.l1] at H; by_cases c15 : 0 ≤ x4_2; rotate_left
      ·rw [if_neg c15] at H; exact absurd H (by simp)
      rw [if_pos c15] at H; have c15b0 : decide (0 ≤ x4_2) = true := decide_eq_true c15; clear c15; by_cases c16 : x4_2 < (l0.length : Int); rotate_left
      ·rw [if_neg c16] at H; exact absurd H (by simp)
      rw [if_pos c16] at H; have c16b0 : decide (x4_2 < (l0.length : Int)) = true := decide_eq_true c16; clear c16; by_cases c17 : 0 ≤ x3_1; rotate_left
      ·rw [if_neg c17] at H; exact absurd H (by simp)
      rw [if_pos c17] at H; have c17b0 : decide (0 ≤ x3_1) = true := decide_eq_true c17; clear c17; by_cases c18 : x3_1 < (l0.length : Int); rotate_left
      ·rw [if_neg c18] at H; exact absurd H (by simp)
      rw [if_pos c18] at H; have c18b0 : decide (x3_1 < (l0.length : Int)) = true := decide_eq_true c18; clear c18; by_cases c19 : (rd l0 x4_2) < (rd l0 x3_1)
      ·rw [if_pos c19] at H
       have c19b0 : decide ((rd l0 x4_2) < (rd l0 x3_1)) = true := decide_eq_true c19; clear c19; have H' := aM H; clear H; (try go_wp2); have n0_ := aM (Kd.R_drew HO_0.out); have n1_ := aM (Kept.drew HK.out); have n2_ := aM (below_drew1 HB.out); clear HO_0; clear HK; clear HB; have HO_0 := n0_; have HK := n1_; have HB := n2_; clear n0_ n1_ n2_; have p342 : 0 ≤ (x4_2 : Int) := oD; have q342 : x4_2 < (l0.length : Int) := oD; obtain ⟨ad342, e342, hx342_0⟩ := Kd.at_int (Kd.R_reads' HO_0.out).2.2 x4_2 p342 q342; cases e342; replace p342 := eq_true p342; replace q342 := eq_true q342; have p343 : 0 ≤ (x3_1 : Int) := oD; have q343 : x3_1 < (l0.length : Int) := oD; obtain ⟨ad343, e343, hx343_0⟩ := Kd.at_int (Kd.R_reads' HO_0.out).2.2 x3_1 p343 q343; obtain rfl : ad342 = ad343 := (by injection e343); replace p343 := eq_true p343; replace q343 := eq_true q343; refine start_ (n := 9) (S := fun w' => w'.cell? (ad342.add (x4_2).toNat) = some (.int .i64 (rd l0 x4_2)) ∧ w'.cell? (ad342.add (x3_1).toNat) = some (.int .i64 (rd l0 x3_1))) (ds := []) #[false, false, false, false, false, false, false, false, false] (by kernel_rfl) rfl rfl ⟨hx342_0, hx343_0⟩ (fun hHeld => ?_); refine with_tabW impl_nextOrder.tab7 impl_nextOrder.bits7 (fun HT_ HW_ => ?_); generalize wr.drew = w20 at HO_0 HK HB hx342_0 hx343_0 hHeld ⊢; refine pU 0 31 #[true, false, false, false, false, false, false, false, false] ?_; refine pU 1 32 #[true, true, false, false, false, false, false, false, false] ?_; refine pU 2 33 #[true, true, true, false, false, false, false, false, false] ?_; refine pU 4 35 #[true, true, true, false, true, false, false, false, false] ?_; refine pU 5 36 #[true, true, true, false, true, true, false, false, false] ?_; refine pU 6 37 #[true, true, true, false, true, true, true, false, false] ?_; refine tU 3 34 #[true, true, true, true, true, true, true, false, false] ?_; refine tU 7 38 #[true, true, true, true, true, true, true, true, false] ?_; refine pU 8 39 #[true, true, true, true, true, true, true, true, true] ?_; refine done_ (done_of HT_.out (by kernel_rfl)) ?_; (try go_wp2); go_roundg k2
       case measure => have := HJ1.out; have := HK2.out; omega
       case rel => exact ⟨(wrap64 (x4_2 - 1)), sD, H', ⟨by have := HJ1.out; have := HK2.out; omega⟩, ⟨kR⟩, ⟨by repeat (first | (with_reducible first | exact HK.out | apply Kept.alloc | apply Kept.drewN | apply Kept.drew) | exact HK.out)⟩, ⟨by repeat (first | (with_reducible first | exact HB.out | apply below_alloc | apply pw_below_drewN | apply below_drew1) | exact HB.out)⟩⟩
      ·rw [if_neg c19] at H
       have c19b0 : decide ((rd l0 x4_2) < (rd l0 x3_1)) = false := decide_eq_false c19; clear c19; obtain ⟨y346, hy346⟩ : ∃ y_ : List Int, y_ = (l0.set (x3_1 : Int).toNat (rd l0 x4_2)) := ⟨_, rfl⟩; (replace H : (impl_nextOrder.l2 k2 (y346.set (x4_2 : Int).toNat (rd l0 x3_1)) (wrap64 (x3_1 + 1)) (wrap64 ((l0.length : Int) - 1))) = some (r1, r2) := by first | (rw [hy346]; with_reducible exact H) | (have H2_ := (Option.bind_some _ _).symm.trans H; rw [hy346]; with_reducible exact H2_) | (have H2_ := (Option.bind_some _ _).symm.trans H; with_reducible exact H2_) | with_reducible exact H | (rw [hy346]; exact H) | exact H); have Ny346 := aM hy346; clear hy346; obtain ⟨y347, hy347⟩ : ∃ y_ : List Int, y_ = (y346.set (x4_2 : Int).toNat (rd l0 x3_1)) := ⟨_, rfl⟩; (replace H : (impl_nextOrder.l2 k2 y347 (wrap64 (x3_1 + 1)) (wrap64 ((l0.length : Int) - 1))) = some (r1, r2) := by first | (rw [hy347]; with_reducible exact H) | (have H2_ := (Option.bind_some _ _).symm.trans H; rw [hy347]; with_reducible exact H2_) | (have H2_ := (Option.bind_some _ _).symm.trans H; with_reducible exact H2_) | with_reducible exact H | (rw [hy347]; exact H) | exact H); have Ny347 := aM hy347; clear hy347; have H' := aM H; clear H; (try go_wp2); have n0_ := aM (Kd.R_drew HO_0.out); have n1_ := aM (Kept.drew HK.out); have n2_ := aM (below_drew1 HB.out); clear HO_0; clear HK; clear HB; have HO_0 := n0_; have HK := n1_; have HB := n2_; clear n0_ n1_ n2_; have p342 : 0 ≤ (x4_2 : Int) := oD; have q342 : x4_2 < (l0.length : Int) := oD; obtain ⟨ad342, e342, hx342_0⟩ := Kd.at_int (Kd.R_reads' HO_0.out).2.2 x4_2 p342 q342; cases e342; replace p342 := eq_true p342; replace q342 := eq_true q342; have p343 : 0 ≤ (x3_1 : Int) := oD; have q343 : x3_1 < (l0.length : Int) := oD; obtain ⟨ad343, e343, hx343_0⟩ := Kd.at_int (Kd.R_reads' HO_0.out).2.2 x3_1 p343 q343; obtain rfl : ad342 = ad343 := (by injection e343); replace p343 := eq_true p343; replace q343 := eq_true q343; refine start_ (n := 9) (S := fun w' => w'.cell? (ad342.add (x4_2).toNat) = some (.int .i64 (rd l0 x4_2)) ∧ w'.cell? (ad342.add (x3_1).toNat) = some (.int .i64 (rd l0 x3_1))) (ds := []) #[false, false, false, false, false, false, false, false, false] (by kernel_rfl) rfl rfl ⟨hx342_0, hx343_0⟩ (fun hHeld => ?_); refine with_tabW impl_nextOrder.tab7 impl_nextOrder.bits7 (fun HT_ HW_ => ?_); generalize wr.drew = w23 at HO_0 HK HB hx342_0 hx343_0 hHeld ⊢; refine pU 0 31 #[true, false, false, false, false, false, false, false, false] ?_; refine pU 1 32 #[true, true, false, false, false, false, false, false, false] ?_; refine pU 2 33 #[true, true, true, false, false, false, false, false, false] ?_; refine pU 4 35 #[true, true, true, false, true, false, false, false, false] ?_; refine pU 5 36 #[true, true, true, false, true, true, false, false, false] ?_; refine pU 6 37 #[true, true, true, false, true, true, true, false, false] ?_; refine tU 3 34 #[true, true, true, true, true, true, true, false, false] ?_; refine tU 7 38 #[true, true, true, true, true, true, true, true, false] ?_; refine pU 8 39 #[true, true, true, true, true, true, true, true, true] ?_; refine done_ (done_of HT_.out (by kernel_rfl)) ?_; (try go_wp2); have n0_ := aM (Kd.R_drew HO_0.out); have n1_ := aM (Kept.drew HK.out); have n2_ := aM (below_drew1 HB.out); clear HO_0; clear HK; clear HB; have HO_0 := n0_; have HK := n1_; have HB := n2_; clear n0_ n1_ n2_; have p344 : 0 ≤ (x4_2 : Int) := oD; have q344 : x4_2 < (l0.length : Int) := oD; obtain ⟨ad344, e344, hx344_0⟩ := Kd.at_int (Kd.R_reads' HO_0.out).2.2 x4_2 p344 q344; obtain rfl : ad342 = ad344 := (by injection e344); replace p344 := eq_true p344; replace q344 := eq_true q344; have p345 : 0 ≤ (x3_1 : Int) := oD; have q345 : x3_1 < (l0.length : Int) := oD; obtain ⟨ad345, e345, hx345_0⟩ := Kd.at_int (Kd.R_reads' HO_0.out).2.2 x3_1 p345 q345; obtain rfl : ad342 = ad345 := (by injection e345); replace p345 := eq_true p345; replace q345 := eq_true q345; have p21 : 0 ≤ (x3_1 : Int) := oD; have q21 : (x3_1 : Int) < ((l0.length : Int) : Int) := oD; obtain ⟨go21, co21, eo21, gb21, gl21, cl21, HG21⟩ := Kd.R_form HO_0.out (by omega); (first | cases eo21 | (injection eo21 with ea_ en_ ec_; (first | subst ea_ | (injection ea_ with ea_; subst ea_)); subst ec_; clear en_)); have GB21 := aM gb21; have GG21 := aM HG21; clear gb21 gl21 HG21; have HMgo21 := aM (show (P0_ go21 ∨ w.heap.size ≤ go21) from (HO_0.out.1 _ rfl)); (first | simp only [add_plain] at hx342_0 | skip); (first | simp only [add_plain] at hx343_0 | skip); (first | simp only [add_plain] at hx344_0 | skip); (first | simp only [add_plain] at hx345_0 | skip); obtain ⟨hx21_0, hf21_0⟩ := Kd.R_celln 0 HO_0.out (x3_1 : Int) p21 q21; replace p21 := eq_true p21; replace q21 := eq_true q21; have HP25 := Kd.R_putn HO_0.out (x3_1 : Int) (rd l0 x4_2); rw [← Ny346.out] at HP25; have HQ25 := aM HP25; clear HP25; have p22 : 0 ≤ (x4_2 : Int) := oD; have q22 : (x4_2 : Int) < ((l0.length : Int) : Int) := oD; obtain ⟨hx22_0, hf22_0⟩ := Kd.R_celln 0 HQ25.out (x4_2 : Int) p22 q22; replace p22 := eq_true p22; replace q22 := eq_true q22; have HP26 := Kd.R_putn HQ25.out (x4_2 : Int) (rd l0 x3_1); rw [← Ny347.out] at HP26; have HQ26 := aM HP26; clear HP26; refine start_ (n := 16) (S := fun w' => w'.cell? ⟨go21, (x4_2).toNat, none⟩ = some (.int .i64 (rd l0 x4_2)) ∧ w'.cell? ⟨go21, (x3_1).toNat, none⟩ = some (.int .i64 (rd l0 x3_1))) (ds := [13, 15]) (bA 16 0) (by kernel_rfl) rfl rfl ⟨hx344_0, hx345_0⟩ (fun hHeld => ?_); refine with_tabW impl_nextOrder.tab9 impl_nextOrder.bits9 (fun HT_ HW_ => ?_); generalize w23.drew = w24 at HO_0 HK HB GG21 HQ25 HQ26 hf21_0 hf22_0 hx21_0 hx22_0 hx342_0 hx343_0 hx344_0 hx345_0 hHeld ⊢; refine pU 0 42 (bA 16 1) ?_; refine pU 1 43 (bA 16 3) ?_; refine pU 2 44 (bA 16 7) ?_; refine pU 3 45 (bA 16 15) ?_; refine pU 4 46 (bA 16 31) ?_; refine pU 5 47 (bA 16 63) ?_; refine pU 6 48 (bA 16 127) ?_; refine pU 8 50 (bA 16 383) ?_; refine pU 9 51 (bA 16 895) ?_; refine pU 10 52 (bA 16 1919) ?_; refine tU 7 49 (bA 16 2047) ?_; refine tU 11 53 (bA 16 4095) ?_; refine pU 12 54 (bA 16 8191) ?_; refine last_ (i := 13) (N := none) (bA 16 16383) rfl rfl (one_of HT_.out (by kernel_rfl)) (by decide) (fun K hK => ?_); refine skip_ (w1 := ?_) (by rfl) rfl ?_ ?_; rotate_left
       ·go_simp
        rfl
       refine hK.out _ _ ?_; clear hK K; refine pU 14 55 (bA 16 32767) ?_; refine last_ (i := 15) (N := none) (bA 16 65535) rfl rfl (one_of HT_.out (by kernel_rfl)) (by decide) (fun K hK => ?_); refine skip_ (w1 := ?_) (by rfl) rfl ?_ ?_; rotate_left
       ·go_simp
        rfl
       refine hK.out _ _ ?_; clear hK K; refine done_ (done_of HT_.out (by kernel_rfl)) ?_; (try go_wp2); go_loopg [5, 6] k2 (fun kq v5 v6 w' => ∃ (x0_3 : List Int) (x5_3 : Int) (x6_3 : Int), v5 = .int .i64 x5_3 ∧ v6 = .int .i64 x6_3 ∧ Aside0 (impl_nextOrder.l2 kq x0_3 x5_3 x6_3 = some (r1, r2)) ∧ Aside0 (kq ≤ k2) ∧ Aside0 (Kd.R (Kd.int .i64) 3 w' w0.heap.size (fun k_ => (P0_ k_ ∨ w.heap.size ≤ k_)) (.slice (some ⟨go21, 0, none⟩) l0.length co3) x0_3) ∧ Aside0 (Kept w w' (fun k_ => P0_ k_)) ∧ Aside0 (Below w0.heap.size w0 w'))
       case atStart => exact ⟨(y347), (wrap64 (x3_1 + 1)), (wrap64 ((l0.length : Int) - 1)), sD, sD, H', ⟨Nat.le_refl _⟩, ⟨by (with_reducible repeat (first | apply Kd.R_alloc | apply Kd.R_drewN | apply Kd.R_drew)); exact HQ26.out⟩, ⟨by repeat (first | (with_reducible first | exact HK.out | apply Kept.alloc | apply Kept.drewN | apply Kept.drew | refine Kept.setCell ?_ HMgo21.out _ | refine Kept.setCell ?_ HMgo21.out _) | exact HK.out)⟩, ⟨by repeat (first | (with_reducible first | exact HB.out | apply below_alloc | apply pw_below_drewN | apply below_drew1 | refine below_set ?_ GB21.out | refine below_set ?_ GB21.out) | exact HB.out)⟩⟩
       case round =>
        clear H'; (try clear c4); (try clear c4b0); (try clear c5); (try clear c5b0); (try clear c6); (try clear c6b0); (try clear c8); (try clear c8b0); (try clear c9); (try clear c9b0); (try clear c10); (try clear c10b0); (try clear c14); (try clear c14b0); (try clear c15); (try clear c15b0); (try clear c16); (try clear c16b0); (try clear c17); (try clear c17b0); (try clear c18); (try clear c18b0); (try clear c19); (try clear c19b0); (try clear p21); (try clear q21); (try clear p22); (try clear q22); (try clear hx21_0); (try clear hx22_0); (try clear hx340_0); (try clear hx341_0); (try clear hx342_0); (try clear hx343_0); (try clear hx344_0); (try clear hx345_0); (try clear p21); (try clear p22); (try clear p340); (try clear p341); (try clear p342); (try clear p343); (try clear p344); (try clear p345); (try clear q21); (try clear q22); (try clear q340); (try clear q341); (try clear q342); (try clear q343); (try clear q344); (try clear q345); obtain ⟨x0_3, x5_3, x6_3, rfl, rfl, HA, HK3, HO_0, HK, HB⟩ := hrel; have hl0_3 := (Kd.R_reads' HO_0.out).1; rw [hl0_3] at HO_0; (try simp only [hl0_3])
        cases gk with
        | zero => exact absurd HA.out (by simp [impl_nextOrder.l2])
        | succ k3 =>
         have H := HA.out; clear HA; simp only [impl_nextOrder.l2] at H; by_cases c27 : x5_3 < x6_3
         ·rw [if_pos c27] at H
          have c27b0 : decide (x5_3 < x6_3) = true := decide_eq_true c27; clear c27; by_cases c28 : 0 ≤ x6_3; rotate_left
          ·rw [if_neg c28] at H; exact absurd H (by simp)
          rw [if_pos c28] at H; have c28b0 : decide (0 ≤ x6_3) = true := decide_eq_true c28; clear c28; by_cases c29 : x6_3 < (x0_3.length : Int); rotate_left
          ·rw [if_neg c29] at H; exact absurd H (by simp)
          rw [if_pos c29] at H; have c29b0 : decide (x6_3 < (x0_3.length : Int)) = true := decide_eq_true c29; clear c29; by_cases c30 : 0 ≤ x5_3; rotate_left
          ·rw [if_neg c30] at H; exact absurd H (by simp)
          rw [if_pos c30] at H; have c30b0 : decide (0 ≤ x5_3) = true := decide_eq_true c30; clear c30; by_cases c31 : x5_3 < (x0_3.length : Int); rotate_left
          ·rw [if_neg c31] at H; exact absurd H (by simp)
          rw [if_pos c31] at H; have c31b0 : decide (x5_3 < (x0_3.length : Int)) = true := decide_eq_true c31; clear c31; obtain ⟨y350, hy350⟩ : ∃ y_ : List Int, y_ = (x0_3.set (x5_3 : Int).toNat (rd x0_3 x6_3)) := ⟨_, rfl⟩; (replace H : (impl_nextOrder.l2 k3 (y350.set (x6_3 : Int).toNat (rd x0_3 x5_3)) (wrap64 (x5_3 + 1)) (wrap64 (x6_3 - 1))) = some (r1, r2) := by first | (rw [hy350]; with_reducible exact H) | (have H2_ := (Option.bind_some _ _).symm.trans H; rw [hy350]; with_reducible exact H2_) | (have H2_ := (Option.bind_some _ _).symm.trans H; with_reducible exact H2_) | with_reducible exact H | (rw [hy350]; exact H) | exact H); have Ny350 := aM hy350; clear hy350; obtain ⟨y351, hy351⟩ : ∃ y_ : List Int, y_ = (y350.set (x6_3 : Int).toNat (rd x0_3 x5_3)) := ⟨_, rfl⟩; (replace H : (impl_nextOrder.l2 k3 y351 (wrap64 (x5_3 + 1)) (wrap64 (x6_3 - 1))) = some (r1, r2) := by first | (rw [hy351]; with_reducible exact H) | (have H2_ := (Option.bind_some _ _).symm.trans H; rw [hy351]; with_reducible exact H2_) | (have H2_ := (Option.bind_some _ _).symm.trans H; with_reducible exact H2_) | with_reducible exact H | (rw [hy351]; exact H) | exact H); have Ny351 := aM hy351; clear hy351; have H' := aM H; clear H; (try go_wp2); have n0_ := aM (Kd.R_drew HO_0.out); have n1_ := aM (Kept.drew HK.out); have n2_ := aM (below_drew1 HB.out); clear HO_0; clear HK; clear HB; have HO_0 := n0_; have HK := n1_; have HB := n2_; clear n0_ n1_ n2_; have p348 : 0 ≤ (x6_3 : Int) := oD; have q348 : x6_3 < (x0_3.length : Int) := oD; obtain ⟨ad348, e348, hx348_0⟩ := Kd.at_int (Kd.R_reads' HO_0.out).2.2 x6_3 p348 q348; obtain rfl : (⟨go21, 0, none⟩ : Addr) = ad348 := (by injection e348); (first | simp only [add_plain] at hx348_0 | simp only [add_at] at hx348_0 | simp only [Addr.add, Nat.zero_add] at hx348_0 | skip); replace p348 := eq_true p348; replace q348 := eq_true q348; have p349 : 0 ≤ (x5_3 : Int) := oD; have q349 : x5_3 < (x0_3.length : Int) := oD; obtain ⟨ad349, e349, hx349_0⟩ := Kd.at_int (Kd.R_reads' HO_0.out).2.2 x5_3 p349 q349; obtain rfl : (⟨go21, 0, none⟩ : Addr) = ad349 := (by injection e349); (first | simp only [add_plain] at hx349_0 | simp only [add_at] at hx349_0 | simp only [Addr.add, Nat.zero_add] at hx349_0 | skip); replace p349 := eq_true p349; replace q349 := eq_true q349; have p32 : 0 ≤ (x5_3 : Int) := oD; have q32 : (x5_3 : Int) < ((x0_3.length : Int) : Int) := oD; obtain ⟨hx32_0, hf32_0⟩ := Kd.R_celln 0 HO_0.out (x5_3 : Int) p32 q32; replace p32 := eq_true p32; replace q32 := eq_true q32; have HP35 := Kd.R_putn HO_0.out (x5_3 : Int) (rd x0_3 x6_3); rw [← Ny350.out] at HP35; have HQ35 := aM HP35; clear HP35; have p33 : 0 ≤ (x6_3 : Int) := oD; have q33 : (x6_3 : Int) < ((x0_3.length : Int) : Int) := oD; obtain ⟨hx33_0, hf33_0⟩ := Kd.R_celln 0 HQ35.out (x6_3 : Int) p33 q33; replace p33 := eq_true p33; replace q33 := eq_true q33; have HP36 := Kd.R_putn HQ35.out (x6_3 : Int) (rd x0_3 x5_3); rw [← Ny351.out] at HP36; have HQ36 := aM HP36; clear HP36; refine start_ (n := 16) (S := fun w' => w'.cell? ⟨go21, (x6_3).toNat, none⟩ = some (.int .i64 (rd x0_3 x6_3)) ∧ w'.cell? ⟨go21, (x5_3).toNat, none⟩ = some (.int .i64 (rd x0_3 x5_3))) (ds := [13, 15]) (bA 16 0) (by kernel_rfl) rfl rfl ⟨hx348_0, hx349_0⟩ (fun hHeld => ?_); refine with_tabW impl_nextOrder.tab13 impl_nextOrder.bits13 (fun HT_ HW_ => ?_); generalize wr.drew = w34 at HO_0 HK HB HQ35 HQ36 hf32_0 hf33_0 hx32_0 hx33_0 hx348_0 hx349_0 hHeld ⊢; refine pU 0 68 (bA 16 1) ?_; refine pU 1 69 (bA 16 3) ?_; refine pU 2 70 (bA 16 7) ?_; refine pU 3 71 (bA 16 15) ?_; refine pU 4 72 (bA 16 31) ?_; refine pU 5 73 (bA 16 63) ?_; refine pU 6 74 (bA 16 127) ?_; refine pU 8 76 (bA 16 383) ?_; refine pU 9 77 (bA 16 895) ?_; refine pU 10 78 (bA 16 1919) ?_; refine tU 7 75 (bA 16 2047) ?_; refine tU 11 79 (bA 16 4095) ?_; refine pU 12 80 (bA 16 8191) ?_; refine last_ (i := 13) (N := none) (bA 16 16383) rfl rfl (one_of HT_.out (by kernel_rfl)) (by decide) (fun K hK => ?_); refine skip_ (w1 := ?_) (by rfl) rfl ?_ ?_; rotate_left
          ·go_simp
           rfl
          refine hK.out _ _ ?_; clear hK K; refine pU 14 81 (bA 16 32767) ?_; refine last_ (i := 15) (N := none) (bA 16 65535) rfl rfl (one_of HT_.out (by kernel_rfl)) (by decide) (fun K hK => ?_); refine skip_ (w1 := ?_) (by rfl) rfl ?_ ?_; rotate_left
          ·go_simp
           rfl
          refine hK.out _ _ ?_; clear hK K; refine done_ (done_of HT_.out (by kernel_rfl)) ?_; (try go_wp2); (try simp only [← hl0_3]); go_roundg k3
          case measure => have := HJ1.out; have := HK2.out; have := HK3.out; omega
          case rel => exact ⟨(y351), (wrap64 (x5_3 + 1)), (wrap64 (x6_3 - 1)), sD, sD, H', ⟨by have := HJ1.out; have := HK2.out; have := HK3.out; omega⟩, ⟨by (try simp only [hl0_3]); (with_reducible repeat (first | apply Kd.R_alloc | apply Kd.R_drewN | apply Kd.R_drew)); exact HQ36.out⟩, ⟨by repeat (first | (with_reducible first | exact HK.out | apply Kept.alloc | apply Kept.drewN | apply Kept.drew | refine Kept.setCell ?_ HMgo21.out _ | refine Kept.setCell ?_ HMgo21.out _) | exact HK.out)⟩, ⟨by repeat (first | (with_reducible first | exact HB.out | apply below_alloc | apply pw_below_drewN | apply below_drew1 | refine below_set ?_ GB21.out | refine below_set ?_ GB21.out) | exact HB.out)⟩⟩
         ·rw [if_neg c27] at H
          have c27b0 : decide (x5_3 < x6_3) = false := decide_eq_false c27; clear c27; simp only [Option.some.injEq, Prod.mk.injEq] at H; obtain ⟨rfl, rfl⟩ := H; go_wp2; go_ret; exact ⟨rE, (by first | exact (by (with_reducible repeat (first | apply Kd.R_alloc | apply Kd.R_drewN | apply Kd.R_drew)); exact HO_0.out) | (simp only [hl0_3]; exact (by (with_reducible repeat (first | apply Kd.R_alloc | apply Kd.R_drewN | apply Kd.R_drew)); exact HO_0.out))), by repeat (first | (with_reducible first | exact HB.out | apply below_alloc | apply pw_below_drewN | apply below_drew1) | exact HB.out), by repeat (first | (with_reducible first | exact HK.out | apply Kept.alloc | apply Kept.drewN | apply Kept.drew) | exact HK.out)⟩

-- NOT PRINTED: function 52 (impl_eachOrder)

/-! ### impl_extends: function 54 -/
mutual
def impl_extends.l0 : Nat → List (List Bool) → List Int → List Int → Int → Int → Option (Bool)
 | 0, _, _, _, _, _ => none
 | k + 1, x0, x1, x9, x10, x11 => if x11 < x10 then (if 0 ≤ x11 then (if x11 < (x9.length : Int) then (if x11 ≤ (x1.length : Int) then (impl_extends.l1 k x0 x1 (rd x9 x11) x9 x10 x11 (x1.take (x11 : Int).toNat) ((x1.take (x11 : Int).toNat).length : Int) 0) else (none)) else (none)) else (none)) else (some true)
def impl_extends.l1 : Nat → List (List Bool) → List Int → Int → List Int → Int → Int → List Int → Int → Int → Option (Bool)
 | 0, _, _, _, _, _, _, _, _, _ => none
 | k + 1, x0, x1, x6, x9, x10, x11, x18, x19, x20 => if x20 < x19 then (if 0 ≤ x20 then (if x20 < (x18.length : Int) then (if 0 ≤ x6 then (if x6 < (x0.length : Int) then (if 0 ≤ (rd x18 x20) then (if (rd x18 x20) < ((rd_L5 x0 x6).length : Int) then (if rdOf false (rd_L5 x0 x6) (rd x18 x20) = true then (some false) else (impl_extends.l1 k x0 x1 x6 x9 x10 x11 x18 x19 (wrap64 (x20 + 1)))) else (none)) else (none)) else (none)) else (none)) else (none)) else (none)) else (impl_extends.l0 k x0 x1 x9 x10 (wrap64 (x11 + 1)))
end
def impl_extends.f (k : Nat) (l0 : List (List Bool)) (l1 : List Int) : Option (Bool) := impl_extends.l0 k l0 l1 l1 (l1.length : Int) 0
theorem impl_extends.mono_l : ∀ k, (∀ y0 y1 y2 y3 y4, LeO (impl_extends.l0 k y0 y1 y2 y3 y4) (impl_extends.l0 (k + 1) y0 y1 y2 y3 y4)) ∧ (∀ y0 y1 y2 y3 y4 y5 y6 y7 y8, LeO (impl_extends.l1 k y0 y1 y2 y3 y4 y5 y6 y7 y8) (impl_extends.l1 (k + 1) y0 y1 y2 y3 y4 y5 y6 y7 y8))
 | 0 => ⟨fun _ _ _ _ _ r h => by simp [impl_extends.l0] at h, fun _ _ _ _ _ _ _ _ _ r h => by simp [impl_extends.l1] at h⟩
 | k + 1 => by
  obtain ⟨ih0, ih1⟩ := impl_extends.mono_l k; refine ⟨?_, ?_⟩
  ·intro y0 y1 y2 y3 y4
   unfold impl_extends.l0
   repeat' first
   | (with_reducible exact ih0 _ _ _ _ _)
   | (with_reducible exact ih1 _ _ _ _ _ _ _ _ _)
   | (with_reducible exact LeO.refl _)
   | (with_reducible exact LeO.none _)
   | (with_reducible refine LeO.ite ?_ ?_)
   | (with_reducible refine LeO.bind ?_ (fun _ => ?_))
   | exact ih0 _ _ _ _ _
   | exact ih1 _ _ _ _ _ _ _ _ _
   | exact LeO.none _
   | refine LeO.ite ?_ ?_
   | refine LeO.bind ?_ (fun _ => ?_)
  ·intro y0 y1 y2 y3 y4 y5 y6 y7 y8
   unfold impl_extends.l1
   repeat' first
   | (with_reducible exact ih0 _ _ _ _ _)
   | (with_reducible exact ih1 _ _ _ _ _ _ _ _ _)
   | (with_reducible exact LeO.refl _)
   | (with_reducible exact LeO.none _)
   | (with_reducible refine LeO.ite ?_ ?_)
   | (with_reducible refine LeO.bind ?_ (fun _ => ?_))
   | exact ih0 _ _ _ _ _
   | exact ih1 _ _ _ _ _ _ _ _ _
   | exact LeO.none _
   | refine LeO.ite ?_ ?_
   | refine LeO.bind ?_ (fun _ => ?_)
theorem impl_extends.mono : ∀ a0 a1 k, LeO (impl_extends.f k a0 a1) (impl_extends.f (k + 1) a0 a1) := by
 intro a0 a1 k; obtain ⟨ih0, ih1⟩ := impl_extends.mono_l k; unfold impl_extends.f
 repeat' first
   | (with_reducible exact ih0 _ _ _ _ _)
   | (with_reducible exact ih1 _ _ _ _ _ _ _ _ _)
   | (with_reducible exact LeO.refl _)
   | (with_reducible exact LeO.none _)
   | (with_reducible refine LeO.ite ?_ ?_)
   | (with_reducible refine LeO.bind ?_ (fun _ => ?_))
   | exact ih0 _ _ _ _ _
   | exact ih1 _ _ _ _ _ _ _ _ _
   | exact LeO.none _
   | refine LeO.ite ?_ ?_
   | refine LeO.bind ?_ (fun _ => ?_)
set_option maxHeartbeats 8000000 in
set_option maxRecDepth 100000 in
theorem impl_extends.calls (k : Nat) (A0 : Option Addr) (c0 : Nat) (l0 : List (List Bool)) (A1 : Option Addr) (c1 : Nat) (l1 : List Int) (r : Bool) (w : World) (hr0 : Kd.C (Kd.slice 4 Kd.bool) w A0 l0.length l0) (hc0 : l0.length ≤ c0) (hr1 : Kd.C (Kd.int .i64) w A1 l1.length l1) (hc1 : l1.length ≤ c1) (h : impl_extends.f k l0 l1 = some r) :
  Calls Try.prog 54 #[.slice A0 l0.length c0, .slice A1 l1.length c1] w fun e w' => e = .returned (.bool r) ∧ Below w.heap.size w w' := by
 have HR0 := aM hr0
 have HR1 := aM hr1
 have HC1 := aM hc1
 clear hr0 hc0 hr1 hc1
 have H' := aM (show impl_extends.l0 k l0 l1 l1 (l1.length : Int) 0 = some r from h)
 clear h
 have HB0 := aM (Below.refl w.heap.size w)
 go_enter Try.func54, Try.ntmps54
 go_wp2
 go_loopg [11] k (fun kq v11 w' => ∃ (x : Int), v11 = .int .i64 x ∧ Aside0 (impl_extends.l0 kq l0 l1 l1 (l1.length : Int) x = some r) ∧ Aside0 (kq ≤ k) ∧ Aside0 (Below w.heap.size w w'))
 case atStart => exact ⟨0, rfl, H', ⟨Nat.le_refl _⟩, HB0⟩
 case round =>
  clear H' HB0
  obtain ⟨x, rfl, HA, HK1, HB⟩ := hrel
  cases gk with
  | zero => exact absurd HA.out (by simp [impl_extends.l0])
  | succ k1 =>
   have H := HA.out
   clear HA
   simp only [impl_extends.l0] at H
   by_cases c3 : x < (l1.length : Int)
   · rw [if_pos c3] at H
     by_cases c4 : 0 ≤ x
     case neg => rw [if_neg c4] at H; exact absurd H (by simp)
     rw [if_pos c4, if_pos c3, if_pos (by omega)] at H
     obtain ⟨i, rfl⟩ : ∃ i : Nat, x = (i : Int) := ⟨x.toNat, by omega⟩
     rw [Int.toNat_natCast] at H
     have hlen : (l1.take i).length = i := by rw [List.length_take]; omega
     rw [hlen] at H
     have c3b : decide ((i : Int) < (l1.length : Int)) = true := decide_eq_true c3
     have HI := aM c3
     have H' := aM H
     clear H
     obtain ⟨ad1, e1, hx1⟩ := Kd.at_int HR1.out (i : Int) c4 c3
     cases e1
     replace hx1 := (cB HB.out hx1 :)
     rw [Int.toNat_natCast] at hx1
     have p1 := eq_true c4
     have q1 := eq_true c3
     have q2 : ((i : Int) ≤ (c1 : Int)) = True := eq_true (by have := HC1.out; omega)
     clear c3 c4 hlen
     go_wp2
     go_loopg [20] k1 (fun kq v20 w' => ∃ (y : Int), v20 = .int .i64 y ∧ Aside0 (impl_extends.l1 kq l0 l1 (rd l1 (i : Int)) l1 (l1.length : Int) (i : Int) (l1.take i) (i : Int) y = some r) ∧ Aside0 (kq ≤ k1) ∧ Aside0 (Below w.heap.size w w'))
     case atStart => exact ⟨0, (by first | rfl | (simp; done)), H', ⟨Nat.le_refl _⟩, HB⟩
     case round =>
      clear H' HB hx1
      obtain ⟨y, rfl, HA, HK2, HB⟩ := hrel
      cases gk with
      | zero => exact absurd HA.out (by simp [impl_extends.l1])
      | succ k2 =>
       have H := HA.out
       clear HA
       simp only [impl_extends.l1] at H
       by_cases d3 : y < (i : Int)
       · rw [if_pos d3] at H
         by_cases d4 : 0 ≤ y
         case neg => rw [if_neg d4] at H; exact absurd H (by simp)
         rw [if_pos d4] at H
         by_cases d5 : y < ((l1.take i).length : Int)
         case neg => rw [if_neg d5] at H; exact absurd H (by simp)
         rw [if_pos d5] at H
         have er : rd (l1.take i) y = rd l1 y := by
           unfold rd
           rw [List.getD_eq_getElem?_getD, List.getD_eq_getElem?_getD, List.getElem?_take, if_pos (by omega)]
         rw [er] at H
         by_cases d6 : 0 ≤ rd l1 (i : Int)
         case neg => rw [if_neg d6] at H; exact absurd H (by simp)
         rw [if_pos d6] at H
         by_cases d7 : rd l1 (i : Int) < (l0.length : Int)
         case neg => rw [if_neg d7] at H; exact absurd H (by simp)
         rw [if_pos d7] at H
         by_cases d8 : 0 ≤ rd l1 y
         case neg => rw [if_neg d8] at H; exact absurd H (by simp)
         rw [if_pos d8] at H
         by_cases d9 : rd l1 y < ((rd_L5 l0 (rd l1 (i : Int))).length : Int)
         case neg => rw [if_neg d9] at H; exact absurd H (by simp)
         rw [if_pos d9] at H
         have H' := aM H
         clear H er d5
         have d3b : decide (y < (i : Int)) = true := decide_eq_true d3
         obtain ⟨ad2, e2, hx2⟩ := Kd.at_int HR1.out y d4 (by have := HI.out; omega)
         obtain rfl : ad1 = ad2 := (by injection e2)
         replace hx2 := (cB HB.out hx2 :)
         obtain ⟨ad3, A3, c3, e3, hx3, hl3, hi3⟩ := at_L5 HR0.out (rd l1 (i : Int)) d6 d7
         cases e3
         obtain ⟨ad4, e4, hx4⟩ := Kd.at_bool hi3 (rd l1 y) d8 d9
         cases e4
         replace hx3 := (cB HB.out hx3 :)
         replace hx4 := (cB HB.out hx4 :)
         have p4 := eq_true d4
         have q3 := eq_true d3
         have p6 := eq_true d6
         have q7 := eq_true d7
         have p8 := eq_true d8
         have q9 := eq_true d9
         clear d3 d4 d6 d7 d8 d9 hi3
         generalize rdOf false (rd_L5 l0 (rd l1 (i : Int))) (rd l1 y) = bq at hx4 H'
         cases bq with
         | true =>
           have H := H'.out
           clear H'
           simp only [if_true, Option.some.injEq] at H
           subst H
           go_wp2
           go_ret
           exact ⟨rfl, HB.out⟩
         | false =>
           have H := H'.out
           clear H'
           simp only [Bool.false_eq_true, if_false] at H
           have H' := aM H
           clear H
           go_wp2
           go_roundg k2
           case measure => have := HK2.out; omega
           case rel => exact ⟨_, (by first | rfl | (simp; done)), H', ⟨by have := HK2.out; omega⟩, HB⟩
       · rw [if_neg d3] at H
         have d3b : decide (y < (i : Int)) = false := decide_eq_false d3
         have H' := aM H
         clear H
         go_wp2
         go_roundg k2
         case measure => have := HK1.out; have := HK2.out; omega
         case rel => exact ⟨_, (by first | rfl | (simp; done)), H', ⟨by have := HK1.out; have := HK2.out; omega⟩, HB⟩
   · rw [if_neg c3] at H
     have c3b : decide (x < (l1.length : Int)) = false := decide_eq_false c3
     obtain rfl := Option.some.inj H
     go_wp2
     go_ret
     exact ⟨rfl, HB.out⟩

/-! ### impl_add: function 47 -/
def impl_add.f (a0 : Int) (a1_0 : Int) (a1_1 : Int) (a1_2 : Int) (a1_3 : Int) (a2 : Int) (a3 : Int) (a4 : Bool) : Option (Int) := if a3 = 1 then (some (mx a0 a2)) else (if a3 = 2 then (some (wrap64 (a0 + a2))) else (if a3 = 3 then (some (wrap64 (a0 + (wrap64 (a1_1 * a2))))) else (if a3 = 4 then (if a4 = true then (some (wrap64 (a2 - a1_3))) else (some (mx a0 (wrap64 (a2 - a1_3))))) else (if a3 = 5 then (some (wrap64 (a0 + (mx 0 (wrap64 (a2 - a1_3)))))) else (if a3 = 6 then (some (wrap64 (a0 + (wrap64 (a1_1 * (mx 0 (wrap64 (a2 - a1_3)))))))) else (if (wrap64 (a2 - a1_3)) ≤ 0 then (some a0) else (if a3 = 7 then (some (wrap64 (a0 + 1))) else (some (wrap64 (a0 + a1_1))))))))))
set_option maxHeartbeats 8000000 in
set_option maxRecDepth 100000 in
theorem impl_add.calls (a0 : Int) (a1_0 : Int) (a1_1 : Int) (a1_2 : Int) (a1_3 : Int) (a2 : Int) (a3 : Int) (a4 : Bool) (r : Int) (w : World) (h : impl_add.f a0 a1_0 a1_1 a1_2 a1_3 a2 a3 a4 = some r) :
  Calls Try.prog 47 #[.int .i64 a0, .agg #[.int .i64 a1_0, .int .i64 a1_1, .int .i64 a1_2, .int .i64 a1_3], .int .i64 a2, .int .i64 a3, .bool a4] w fun e w' => e = .returned (.int .i64 r) ∧ Below w.heap.size w w' := by
 have hu50 := Try.underlying50; have HB := aM (Below.refl w.heap.size w); have H : (if a3 = 1 then (some (mx a0 a2)) else (if a3 = 2 then (some (wrap64 (a0 + a2))) else (if a3 = 3 then (some (wrap64 (a0 + (wrap64 (a1_1 * a2))))) else (if a3 = 4 then (if a4 = true then (some (wrap64 (a2 - a1_3))) else (some (mx a0 (wrap64 (a2 - a1_3))))) else (if a3 = 5 then (some (wrap64 (a0 + (mx 0 (wrap64 (a2 - a1_3)))))) else (if a3 = 6 then (some (wrap64 (a0 + (wrap64 (a1_1 * (mx 0 (wrap64 (a2 - a1_3)))))))) else (if (wrap64 (a2 - a1_3)) ≤ 0 then (some a0) else (if a3 = 7 then (some (wrap64 (a0 + 1))) else (some (wrap64 (a0 + a1_1))))))))))) = some r := h; clear h; by_cases c6 : a3 = 1
 ·rw [if_pos c6] at H
  have c6b0 : (a3 == 1) = true := beq_iff_eq.mpr c6; have c6b1 : (a3 != 1) = false := bne_eq_false_iff_eq.mpr c6; clear c6; obtain ⟨ji7, hji7⟩ : ∃ j_ : Int, (mx a0 a2) = j_ := ⟨_, rfl⟩; (replace H : (some ji7) = some r := by first | (rw [hji7] at H; exact H) | (simp only [hji7] at H ⊢; exact H)); have hji7_ : (if a0 < a2 then a2 else a0) = ji7 := hji7; obtain rfl := Option.some.inj H; go_enter Try.func47, Try.ntmps47; (go_wp2_with (first | ((with_reducible refine gate_dst (N := 6) rfl ?_); refine bE 6 #[.int .i64 a1_0, .int .i64 a1_1, .int .i64 a1_2, .int .i64 a1_3] 50 ?_; intro gb357 hg w8 hbox hb; have n0_ := aM (below_step bB hb); have n1_ := aM (hbox); have n2_ := aM ((by rw [hg]; exact (below_size bB) : w.heap.size ≤ gb357)); have n3_ := aM ((by rw [hg]; exact (below_size bB) : w.heap.size ≤ gb357)); clear HB; have HB := n0_; have BK357 := n1_; have GW357 := n2_; have GE357 := n3_; clear n0_ n1_ n2_ n3_; clear hb hbox hg; have hcz9_0 := (blk_cell BK357.out 0).trans (show _ = some ((.int .i64 a1_0) : Value) from rfl); have hcz9_1 := (blk_cell BK357.out 1).trans (show _ = some ((.int .i64 a1_1) : Value) from rfl); have hcz9_2 := (blk_cell BK357.out 2).trans (show _ = some ((.int .i64 a1_2) : Value) from rfl); have hcz9_3 := (blk_cell BK357.out 3).trans (show _ = some ((.int .i64 a1_3) : Value) from rfl); have hfz9_0 := blk_frozen BK357.out 0; have hfz9_1 := blk_frozen BK357.out 1; have hfz9_2 := blk_frozen BK357.out 2; have hfz9_3 := blk_frozen BK357.out 3))); go_ret; (exact ⟨by first | rfl | (simp [errW_none, errW_some] <;> rfl) | (simp only [← hji7]; first | rfl | (simp [errW_none, errW_some] <;> rfl)) | (simp [*, errW_none, errW_some] <;> rfl), bS⟩)
 ·rw [if_neg c6] at H
  have c6b0 : (a3 == 1) = false := beq_eq_false_iff_ne.mpr c6; have c6b1 : (a3 != 1) = true := bne_iff_ne.mpr c6; by_cases c10 : a3 = 2
  ·rw [if_pos c10] at H
   have c10b0 : (a3 == 2) = true := beq_iff_eq.mpr c10; have c10b1 : (a3 != 2) = false := bne_eq_false_iff_eq.mpr c10; clear c10; obtain rfl := Option.some.inj H; go_enter Try.func47, Try.ntmps47; (go_wp2_with (first | ((with_reducible refine gate_dst (N := 6) rfl ?_); refine bE 6 #[.int .i64 a1_0, .int .i64 a1_1, .int .i64 a1_2, .int .i64 a1_3] 50 ?_; intro gb357 hg w11 hbox hb; have n0_ := aM (below_step bB hb); have n1_ := aM (hbox); have n2_ := aM ((by rw [hg]; exact (below_size bB) : w.heap.size ≤ gb357)); have n3_ := aM ((by rw [hg]; exact (below_size bB) : w.heap.size ≤ gb357)); clear HB; have HB := n0_; have BK357 := n1_; have GW357 := n2_; have GE357 := n3_; clear n0_ n1_ n2_ n3_; clear hb hbox hg; have hcz12_0 := (blk_cell BK357.out 0).trans (show _ = some ((.int .i64 a1_0) : Value) from rfl); have hcz12_1 := (blk_cell BK357.out 1).trans (show _ = some ((.int .i64 a1_1) : Value) from rfl); have hcz12_2 := (blk_cell BK357.out 2).trans (show _ = some ((.int .i64 a1_2) : Value) from rfl); have hcz12_3 := (blk_cell BK357.out 3).trans (show _ = some ((.int .i64 a1_3) : Value) from rfl); have hfz12_0 := blk_frozen BK357.out 0; have hfz12_1 := blk_frozen BK357.out 1; have hfz12_2 := blk_frozen BK357.out 2; have hfz12_3 := blk_frozen BK357.out 3))); go_ret; exact ⟨rE, bS⟩
  ·rw [if_neg c10] at H
   have c10b0 : (a3 == 2) = false := beq_eq_false_iff_ne.mpr c10; have c10b1 : (a3 != 2) = true := bne_iff_ne.mpr c10; by_cases c13 : a3 = 3
   ·rw [if_pos c13] at H
    have c13b0 : (a3 == 3) = true := beq_iff_eq.mpr c13; have c13b1 : (a3 != 3) = false := bne_eq_false_iff_eq.mpr c13; clear c13; obtain rfl := Option.some.inj H; go_enter Try.func47, Try.ntmps47; (go_wp2_with (first | ((with_reducible refine gate_dst (N := 6) rfl ?_); refine bE 6 #[.int .i64 a1_0, .int .i64 a1_1, .int .i64 a1_2, .int .i64 a1_3] 50 ?_; intro gb357 hg w14 hbox hb; have n0_ := aM (below_step bB hb); have n1_ := aM (hbox); have n2_ := aM ((by rw [hg]; exact (below_size bB) : w.heap.size ≤ gb357)); have n3_ := aM ((by rw [hg]; exact (below_size bB) : w.heap.size ≤ gb357)); clear HB; have HB := n0_; have BK357 := n1_; have GW357 := n2_; have GE357 := n3_; clear n0_ n1_ n2_ n3_; clear hb hbox hg; have hcz15_0 := (blk_cell BK357.out 0).trans (show _ = some ((.int .i64 a1_0) : Value) from rfl); have hcz15_1 := (blk_cell BK357.out 1).trans (show _ = some ((.int .i64 a1_1) : Value) from rfl); have hcz15_2 := (blk_cell BK357.out 2).trans (show _ = some ((.int .i64 a1_2) : Value) from rfl); have hcz15_3 := (blk_cell BK357.out 3).trans (show _ = some ((.int .i64 a1_3) : Value) from rfl); have hfz15_0 := blk_frozen BK357.out 0; have hfz15_1 := blk_frozen BK357.out 1; have hfz15_2 := blk_frozen BK357.out 2; have hfz15_3 := blk_frozen BK357.out 3))); go_ret; exact ⟨rE, bS⟩
   ·rw [if_neg c13] at H
    have c13b0 : (a3 == 3) = false := beq_eq_false_iff_ne.mpr c13; have c13b1 : (a3 != 3) = true := bne_iff_ne.mpr c13; by_cases c16 : a3 = 4
    ·rw [if_pos c16] at H
     have c16b0 : (a3 == 4) = true := beq_iff_eq.mpr c16; have c16b1 : (a3 != 4) = false := bne_eq_false_iff_eq.mpr c16; clear c16; by_cases c17 : a4 = true
     ·subst c17
      (have H1 : (some (wrap64 (a2 - a1_3))) = some r := by rw [if_pos rfl] at H; exact H); replace H := H1; clear H1; obtain rfl := Option.some.inj H; go_enter Try.func47, Try.ntmps47; (go_wp2_with (first | ((with_reducible refine gate_dst (N := 6) rfl ?_); refine bE 6 #[.int .i64 a1_0, .int .i64 a1_1, .int .i64 a1_2, .int .i64 a1_3] 50 ?_; intro gb357 hg w18 hbox hb; have n0_ := aM (below_step bB hb); have n1_ := aM (hbox); have n2_ := aM ((by rw [hg]; exact (below_size bB) : w.heap.size ≤ gb357)); have n3_ := aM ((by rw [hg]; exact (below_size bB) : w.heap.size ≤ gb357)); clear HB; have HB := n0_; have BK357 := n1_; have GW357 := n2_; have GE357 := n3_; clear n0_ n1_ n2_ n3_; clear hb hbox hg; have hcz19_0 := (blk_cell BK357.out 0).trans (show _ = some ((.int .i64 a1_0) : Value) from rfl); have hcz19_1 := (blk_cell BK357.out 1).trans (show _ = some ((.int .i64 a1_1) : Value) from rfl); have hcz19_2 := (blk_cell BK357.out 2).trans (show _ = some ((.int .i64 a1_2) : Value) from rfl); have hcz19_3 := (blk_cell BK357.out 3).trans (show _ = some ((.int .i64 a1_3) : Value) from rfl); have hfz19_0 := blk_frozen BK357.out 0; have hfz19_1 := blk_frozen BK357.out 1; have hfz19_2 := blk_frozen BK357.out 2; have hfz19_3 := blk_frozen BK357.out 3))); go_ret; exact ⟨rE, bS⟩
     ·replace c17 := Bool.eq_false_iff.mpr c17
      subst c17; (have H1 : (some (mx a0 (wrap64 (a2 - a1_3)))) = some r := by rw [if_neg (show ¬ (false = true) by decide)] at H; exact H); replace H := H1; clear H1; obtain ⟨ji20, hji20⟩ : ∃ j_ : Int, (mx a0 (wrap64 (a2 - a1_3))) = j_ := ⟨_, rfl⟩; (replace H : (some ji20) = some r := by first | (rw [hji20] at H; exact H) | (simp only [hji20] at H ⊢; exact H)); have hji20_ : (if a0 < (wrap64 (a2 - a1_3)) then (wrap64 (a2 - a1_3)) else a0) = ji20 := hji20; obtain rfl := Option.some.inj H; go_enter Try.func47, Try.ntmps47; (go_wp2_with (first | ((with_reducible refine gate_dst (N := 6) rfl ?_); refine bE 6 #[.int .i64 a1_0, .int .i64 a1_1, .int .i64 a1_2, .int .i64 a1_3] 50 ?_; intro gb357 hg w21 hbox hb; have n0_ := aM (below_step bB hb); have n1_ := aM (hbox); have n2_ := aM ((by rw [hg]; exact (below_size bB) : w.heap.size ≤ gb357)); have n3_ := aM ((by rw [hg]; exact (below_size bB) : w.heap.size ≤ gb357)); clear HB; have HB := n0_; have BK357 := n1_; have GW357 := n2_; have GE357 := n3_; clear n0_ n1_ n2_ n3_; clear hb hbox hg; have hcz22_0 := (blk_cell BK357.out 0).trans (show _ = some ((.int .i64 a1_0) : Value) from rfl); have hcz22_1 := (blk_cell BK357.out 1).trans (show _ = some ((.int .i64 a1_1) : Value) from rfl); have hcz22_2 := (blk_cell BK357.out 2).trans (show _ = some ((.int .i64 a1_2) : Value) from rfl); have hcz22_3 := (blk_cell BK357.out 3).trans (show _ = some ((.int .i64 a1_3) : Value) from rfl); have hfz22_0 := blk_frozen BK357.out 0; have hfz22_1 := blk_frozen BK357.out 1; have hfz22_2 := blk_frozen BK357.out 2; have hfz22_3 := blk_frozen BK357.out 3))); go_ret; (exact ⟨by first | rfl | (simp [errW_none, errW_some] <;> rfl) | (simp only [← hji20]; first | rfl | (simp [errW_none, errW_some] <;> rfl)) | (simp [*, errW_none, errW_some] <;> rfl), bS⟩)
    ·rw [if_neg c16] at H
     have c16b0 : (a3 == 4) = false := beq_eq_false_iff_ne.mpr c16; have c16b1 : (a3 != 4) = true := bne_iff_ne.mpr c16; by_cases c23 : a3 = 5
     ·rw [if_pos c23] at H
      have c23b0 : (a3 == 5) = true := beq_iff_eq.mpr c23; have c23b1 : (a3 != 5) = false := bne_eq_false_iff_eq.mpr c23; clear c23; obtain ⟨ji24, hji24⟩ : ∃ j_ : Int, (mx 0 (wrap64 (a2 - a1_3))) = j_ := ⟨_, rfl⟩; (replace H : (some (wrap64 (a0 + (ji24)))) = some r := by first | (rw [hji24] at H; exact H) | (simp only [hji24] at H ⊢; exact H)); ((try (have hji24l : 0 ≤ ji24 := by (rw [← hji24]; unfold mx; (repeat' split) <;> omega)))); (try (have hji24m : 0 ≤ ji24 := by omega)); have hji24_ : (if 0 < (wrap64 (a2 - a1_3)) then (wrap64 (a2 - a1_3)) else 0) = ji24 := hji24; obtain rfl := Option.some.inj H; go_enter Try.func47, Try.ntmps47; (go_wp2_with (first | ((with_reducible refine gate_dst (N := 6) rfl ?_); refine bE 6 #[.int .i64 a1_0, .int .i64 a1_1, .int .i64 a1_2, .int .i64 a1_3] 50 ?_; intro gb357 hg w25 hbox hb; have n0_ := aM (below_step bB hb); have n1_ := aM (hbox); have n2_ := aM ((by rw [hg]; exact (below_size bB) : w.heap.size ≤ gb357)); have n3_ := aM ((by rw [hg]; exact (below_size bB) : w.heap.size ≤ gb357)); clear HB; have HB := n0_; have BK357 := n1_; have GW357 := n2_; have GE357 := n3_; clear n0_ n1_ n2_ n3_; clear hb hbox hg; have hcz26_0 := (blk_cell BK357.out 0).trans (show _ = some ((.int .i64 a1_0) : Value) from rfl); have hcz26_1 := (blk_cell BK357.out 1).trans (show _ = some ((.int .i64 a1_1) : Value) from rfl); have hcz26_2 := (blk_cell BK357.out 2).trans (show _ = some ((.int .i64 a1_2) : Value) from rfl); have hcz26_3 := (blk_cell BK357.out 3).trans (show _ = some ((.int .i64 a1_3) : Value) from rfl); have hfz26_0 := blk_frozen BK357.out 0; have hfz26_1 := blk_frozen BK357.out 1; have hfz26_2 := blk_frozen BK357.out 2; have hfz26_3 := blk_frozen BK357.out 3))); go_ret; (exact ⟨by first | rfl | (simp [errW_none, errW_some] <;> rfl) | (simp only [← hji24]; first | rfl | (simp [errW_none, errW_some] <;> rfl)) | (simp [*, errW_none, errW_some] <;> rfl), bS⟩)
     ·rw [if_neg c23] at H
      have c23b0 : (a3 == 5) = false := beq_eq_false_iff_ne.mpr c23; have c23b1 : (a3 != 5) = true := bne_iff_ne.mpr c23; by_cases c27 : a3 = 6
      ·rw [if_pos c27] at H
       have c27b0 : (a3 == 6) = true := beq_iff_eq.mpr c27; have c27b1 : (a3 != 6) = false := bne_eq_false_iff_eq.mpr c27; clear c27; obtain ⟨ji28, hji28⟩ : ∃ j_ : Int, (mx 0 (wrap64 (a2 - a1_3))) = j_ := ⟨_, rfl⟩; (replace H : (some (wrap64 (a0 + (wrap64 (a1_1 * (ji28)))))) = some r := by first | (rw [hji28] at H; exact H) | (simp only [hji28] at H ⊢; exact H)); ((try (have hji28l : 0 ≤ ji28 := by (rw [← hji28]; unfold mx; (repeat' split) <;> omega)))); (try (have hji28m : 0 ≤ ji28 := by omega)); have hji28_ : (if 0 < (wrap64 (a2 - a1_3)) then (wrap64 (a2 - a1_3)) else 0) = ji28 := hji28; obtain rfl := Option.some.inj H; go_enter Try.func47, Try.ntmps47; (go_wp2_with (first | ((with_reducible refine gate_dst (N := 6) rfl ?_); refine bE 6 #[.int .i64 a1_0, .int .i64 a1_1, .int .i64 a1_2, .int .i64 a1_3] 50 ?_; intro gb357 hg w29 hbox hb; have n0_ := aM (below_step bB hb); have n1_ := aM (hbox); have n2_ := aM ((by rw [hg]; exact (below_size bB) : w.heap.size ≤ gb357)); have n3_ := aM ((by rw [hg]; exact (below_size bB) : w.heap.size ≤ gb357)); clear HB; have HB := n0_; have BK357 := n1_; have GW357 := n2_; have GE357 := n3_; clear n0_ n1_ n2_ n3_; clear hb hbox hg; have hcz30_0 := (blk_cell BK357.out 0).trans (show _ = some ((.int .i64 a1_0) : Value) from rfl); have hcz30_1 := (blk_cell BK357.out 1).trans (show _ = some ((.int .i64 a1_1) : Value) from rfl); have hcz30_2 := (blk_cell BK357.out 2).trans (show _ = some ((.int .i64 a1_2) : Value) from rfl); have hcz30_3 := (blk_cell BK357.out 3).trans (show _ = some ((.int .i64 a1_3) : Value) from rfl); have hfz30_0 := blk_frozen BK357.out 0; have hfz30_1 := blk_frozen BK357.out 1; have hfz30_2 := blk_frozen BK357.out 2; have hfz30_3 := blk_frozen BK357.out 3))); go_ret; (exact ⟨by first | rfl | (simp [errW_none, errW_some] <;> rfl) | (simp only [← hji28]; first | rfl | (simp [errW_none, errW_some] <;> rfl)) | (simp [*, errW_none, errW_some] <;> rfl), bS⟩)
      ·rw [if_neg c27] at H
       have c27b0 : (a3 == 6) = false := beq_eq_false_iff_ne.mpr c27; have c27b1 : (a3 != 6) = true := bne_iff_ne.mpr c27; by_cases c31 : (wrap64 (a2 - a1_3)) ≤ 0
       ·rw [if_pos c31] at H
        have c31b0 : decide ((wrap64 (a2 - a1_3)) ≤ 0) = true := decide_eq_true c31; clear c31; obtain rfl := Option.some.inj H; go_enter Try.func47, Try.ntmps47; (go_wp2_with (first | ((with_reducible refine gate_dst (N := 6) rfl ?_); refine bE 6 #[.int .i64 a1_0, .int .i64 a1_1, .int .i64 a1_2, .int .i64 a1_3] 50 ?_; intro gb357 hg w32 hbox hb; have n0_ := aM (below_step bB hb); have n1_ := aM (hbox); have n2_ := aM ((by rw [hg]; exact (below_size bB) : w.heap.size ≤ gb357)); have n3_ := aM ((by rw [hg]; exact (below_size bB) : w.heap.size ≤ gb357)); clear HB; have HB := n0_; have BK357 := n1_; have GW357 := n2_; have GE357 := n3_; clear n0_ n1_ n2_ n3_; clear hb hbox hg; have hcz33_0 := (blk_cell BK357.out 0).trans (show _ = some ((.int .i64 a1_0) : Value) from rfl); have hcz33_1 := (blk_cell BK357.out 1).trans (show _ = some ((.int .i64 a1_1) : Value) from rfl); have hcz33_2 := (blk_cell BK357.out 2).trans (show _ = some ((.int .i64 a1_2) : Value) from rfl); have hcz33_3 := (blk_cell BK357.out 3).trans (show _ = some ((.int .i64 a1_3) : Value) from rfl); have hfz33_0 := blk_frozen BK357.out 0; have hfz33_1 := blk_frozen BK357.out 1; have hfz33_2 := blk_frozen BK357.out 2; have hfz33_3 := blk_frozen BK357.out 3))); go_ret; exact ⟨rE, bS⟩
       ·rw [if_neg c31] at H
        have c31b0 : decide ((wrap64 (a2 - a1_3)) ≤ 0) = false := decide_eq_false c31; clear c31; by_cases c34 : a3 = 7
        ·rw [if_pos c34] at H
         have c34b0 : (a3 == 7) = true := beq_iff_eq.mpr c34; have c34b1 : (a3 != 7) = false := bne_eq_false_iff_eq.mpr c34; clear c34; obtain rfl := Option.some.inj H; go_enter Try.func47, Try.ntmps47; (go_wp2_with (first | ((with_reducible refine gate_dst (N := 6) rfl ?_); refine bE 6 #[.int .i64 a1_0, .int .i64 a1_1, .int .i64 a1_2, .int .i64 a1_3] 50 ?_; intro gb357 hg w35 hbox hb; have n0_ := aM (below_step bB hb); have n1_ := aM (hbox); have n2_ := aM ((by rw [hg]; exact (below_size bB) : w.heap.size ≤ gb357)); have n3_ := aM ((by rw [hg]; exact (below_size bB) : w.heap.size ≤ gb357)); clear HB; have HB := n0_; have BK357 := n1_; have GW357 := n2_; have GE357 := n3_; clear n0_ n1_ n2_ n3_; clear hb hbox hg; have hcz36_0 := (blk_cell BK357.out 0).trans (show _ = some ((.int .i64 a1_0) : Value) from rfl); have hcz36_1 := (blk_cell BK357.out 1).trans (show _ = some ((.int .i64 a1_1) : Value) from rfl); have hcz36_2 := (blk_cell BK357.out 2).trans (show _ = some ((.int .i64 a1_2) : Value) from rfl); have hcz36_3 := (blk_cell BK357.out 3).trans (show _ = some ((.int .i64 a1_3) : Value) from rfl); have hfz36_0 := blk_frozen BK357.out 0; have hfz36_1 := blk_frozen BK357.out 1; have hfz36_2 := blk_frozen BK357.out 2; have hfz36_3 := blk_frozen BK357.out 3))); go_ret; exact ⟨rE, bS⟩
        ·rw [if_neg c34] at H
         have c34b0 : (a3 == 7) = false := beq_eq_false_iff_ne.mpr c34; have c34b1 : (a3 != 7) = true := bne_iff_ne.mpr c34; obtain rfl := Option.some.inj H; go_enter Try.func47, Try.ntmps47; (go_wp2_with (first | ((with_reducible refine gate_dst (N := 6) rfl ?_); refine bE 6 #[.int .i64 a1_0, .int .i64 a1_1, .int .i64 a1_2, .int .i64 a1_3] 50 ?_; intro gb357 hg w37 hbox hb; have n0_ := aM (below_step bB hb); have n1_ := aM (hbox); have n2_ := aM ((by rw [hg]; exact (below_size bB) : w.heap.size ≤ gb357)); have n3_ := aM ((by rw [hg]; exact (below_size bB) : w.heap.size ≤ gb357)); clear HB; have HB := n0_; have BK357 := n1_; have GW357 := n2_; have GE357 := n3_; clear n0_ n1_ n2_ n3_; clear hb hbox hg; have hcz38_0 := (blk_cell BK357.out 0).trans (show _ = some ((.int .i64 a1_0) : Value) from rfl); have hcz38_1 := (blk_cell BK357.out 1).trans (show _ = some ((.int .i64 a1_1) : Value) from rfl); have hcz38_2 := (blk_cell BK357.out 2).trans (show _ = some ((.int .i64 a1_2) : Value) from rfl); have hcz38_3 := (blk_cell BK357.out 3).trans (show _ = some ((.int .i64 a1_3) : Value) from rfl); have hfz38_0 := blk_frozen BK357.out 0; have hfz38_1 := blk_frozen BK357.out 1; have hfz38_2 := blk_frozen BK357.out 2; have hfz38_3 := blk_frozen BK357.out 3))); go_ret; exact ⟨rE, bS⟩

/-! ### impl_valueOfEnds: function 83 -/
def impl_valueOfEnds.l0 : Nat → List Int → Int → Int → List (S50) → Int → Int → Option (Int)
 | 0, _, _, _, _, _, _ => none
 | k + 1, x1, x2, x7, x10, x11, x12 => if x12 < x11 then (if 0 ≤ x12 then (if x12 < (x10.length : Int) then (if x12 < (x1.length : Int) then ((impl_add.f x7 ((rd_T50 x10 x12).f0) ((rd_T50 x10 x12).f1) ((rd_T50 x10 x12).f2) ((rd_T50 x10 x12).f3) (rd x1 x12) x2 (x12 == 0)).bind fun t361 => (impl_valueOfEnds.l0 k x1 x2 t361 x10 x11 (wrap64 (x12 + 1)))) else (none)) else (none)) else (none)) else (some x7)
def impl_valueOfEnds.f (k : Nat) (l0 : List (S50)) (l1 : List Int) (a2 : Int) : Option (Int) := impl_valueOfEnds.l0 k l1 a2 0 l0 (l0.length : Int) 0
theorem impl_valueOfEnds.mono_l : ∀ k, (∀ y0 y1 y2 y3 y4 y5, LeO (impl_valueOfEnds.l0 k y0 y1 y2 y3 y4 y5) (impl_valueOfEnds.l0 (k + 1) y0 y1 y2 y3 y4 y5))
 | 0 => fun _ _ _ _ _ _ r h => by simp [impl_valueOfEnds.l0] at h
 | k + 1 => by
  have ih0 := impl_valueOfEnds.mono_l k
  ·intro y0 y1 y2 y3 y4 y5
   unfold impl_valueOfEnds.l0
   repeat' first
   | (with_reducible exact ih0 _ _ _ _ _ _)
   | (with_reducible exact LeO.refl _)
   | (with_reducible exact LeO.none _)
   | (with_reducible refine LeO.ite ?_ ?_)
   | (with_reducible refine LeO.bind ?_ (fun _ => ?_))
   | exact ih0 _ _ _ _ _ _
   | exact LeO.none _
   | refine LeO.ite ?_ ?_
   | refine LeO.bind ?_ (fun _ => ?_)
theorem impl_valueOfEnds.mono : ∀ a0 a1 a2 k, LeO (impl_valueOfEnds.f k a0 a1 a2) (impl_valueOfEnds.f (k + 1) a0 a1 a2) := by
 intro a0 a1 a2 k; have ih0 := impl_valueOfEnds.mono_l k; unfold impl_valueOfEnds.f
 repeat' first
   | (with_reducible exact ih0 _ _ _ _ _ _)
   | (with_reducible exact LeO.refl _)
   | (with_reducible exact LeO.none _)
   | (with_reducible refine LeO.ite ?_ ?_)
   | (with_reducible refine LeO.bind ?_ (fun _ => ?_))
   | exact ih0 _ _ _ _ _ _
   | exact LeO.none _
   | refine LeO.ite ?_ ?_
   | refine LeO.bind ?_ (fun _ => ?_)
def impl_valueOfEnds.T5 : Bool × List (List Nat × List Nat) := (true, [([], []), ([], []), ([], []), ([], []), ([2, 3], [2, 3]), ([4], [4]), ([], []), ([], []), ([7], [7]), ([0, 1, 5, 6, 8], [0, 1, 5, 6, 8]), ([9, 9, 0, 1, 2, 3, 4, 5, 6, 7, 8, 9], [0, 9])])
def impl_valueOfEnds.B5 : List Nat := [0, 0, 0, 0, 12, 28, 0, 0, 128, 511, 1023]
theorem impl_valueOfEnds.tab5 : rtab .any (opsOf Try.f83 5) = impl_valueOfEnds.T5 := by kernel_rfl
theorem impl_valueOfEnds.bits5 : waitsOk impl_valueOfEnds.T5.2 impl_valueOfEnds.B5 = true := by kernel_rfl
set_option maxHeartbeats 8000000 in
set_option maxRecDepth 100000 in
theorem impl_valueOfEnds.calls (k : Nat) (A0 : Option Addr) (c0 : Nat) (l0 : List (S50)) (A1 : Option Addr) (c1 : Nat) (l1 : List Int) (a2 : Int) (r : Int) (w : World) (hr0 : Kd.C k50 w A0 l0.length l0) (hc0 : l0.length ≤ c0) (hr1 : Kd.C (Kd.int .i64) w A1 l1.length l1) (hc1 : l1.length ≤ c1) (h : impl_valueOfEnds.f k l0 l1 a2 = some r) :
  Calls Try.prog 83 #[.slice A0 l0.length c0, .slice A1 l1.length c1, .int .i64 a2] w fun e w' => e = .returned (.int .i64 r) ∧ Below w.heap.size w w' := by
 have hu50 := Try.underlying50; have HR0 := aM hr0; have HC0 := aM hc0; clear hr0 hc0; have HR1 := aM hr1; have HC1 := aM hc1; clear hr1 hc1; have HB := aM (Below.refl w.heap.size w); have H : (impl_valueOfEnds.l0 k l1 a2 0 l0 (l0.length : Int) 0) = some r := h; clear h; have H' := aM H; clear H; go_enter Try.func83, Try.ntmps83; go_wp2; go_loopg [7, 12] k (fun kq v7 v12 w' => ∃ (x7_1 : Int) (x12_1 : Int), v7 = .int .i64 x7_1 ∧ v12 = .int .i64 x12_1 ∧ Aside0 (impl_valueOfEnds.l0 kq l1 a2 x7_1 l0 (l0.length : Int) x12_1 = some r) ∧ Aside0 (kq ≤ k) ∧ Aside0 (Below w.heap.size w w'))
 case atStart => exact ⟨(0), (0), sD, sD, H', ⟨Nat.le_refl _⟩, ⟨by repeat (first | (with_reducible first | exact HB.out | apply below_alloc | apply pw_below_drewN | apply below_drew1) | exact HB.out)⟩⟩
 case round =>
  clear H'; (try clear c1); obtain ⟨x7_1, x12_1, rfl, rfl, HA, HK1, HB⟩ := hrel
  cases gk with
  | zero => exact absurd HA.out (by simp [impl_valueOfEnds.l0])
  | succ k1 =>
   have H := HA.out; clear HA; simp only [impl_valueOfEnds.l0] at H; by_cases c4 : x12_1 < (l0.length : Int)
   ·rw [if_pos c4] at H
    have c4b0 : decide (x12_1 < (l0.length : Int)) = true := decide_eq_true c4; clear c4; by_cases c5 : 0 ≤ x12_1; rotate_left
    ·rw [if_neg c5] at H; exact absurd H (by simp)
    rw [if_pos c5] at H; have c5b0 : decide (0 ≤ x12_1) = true := decide_eq_true c5; clear c5; by_cases c6 : x12_1 < (l0.length : Int); rotate_left
    ·rw [if_neg c6] at H; exact absurd H (by simp)
    rw [if_pos c6] at H; have c6b0 : decide (x12_1 < (l0.length : Int)) = true := decide_eq_true c6; clear c6; by_cases c7 : x12_1 < (l1.length : Int); rotate_left
    ·rw [if_neg c7] at H; exact absurd H (by simp)
    rw [if_pos c7] at H; have c7b0 : decide (x12_1 < (l1.length : Int)) = true := decide_eq_true c7; clear c7; replace H := oB H; obtain ⟨t361, A80, H⟩ := H; replace H : (impl_valueOfEnds.l0 k1 l1 a2 t361 l0 (l0.length : Int) (wrap64 (x12_1 + 1))) = some r := H; have A8 := aM A80; clear A80; have H' := aM H; clear H; have p358 : 0 ≤ (x12_1 : Int) := oD; have q358 : x12_1 < (l0.length : Int) := oD; obtain ⟨ad358, e358, hx358_0, hx358_1, hx358_2, hx358_3⟩ := at_T50 HR0.out x12_1 p358 q358; cases e358; replace hx358_0 := (cB HB.out hx358_0 :); replace hx358_1 := (cB HB.out hx358_1 :); replace hx358_2 := (cB HB.out hx358_2 :); replace hx358_3 := (cB HB.out hx358_3 :); replace p358 := eq_true p358; replace q358 := eq_true q358; (try go_wp2_with (first | ((with_reducible refine gate_dst (N := 9) rfl ?_); refine bE 9 #[.int .i64 0, .int .i64 0, .int .i64 0, .int .i64 0] 50 ?_; intro gb359 hg w9 hbox hb; have n0_ := aM (below_step bB hb); have n1_ := aM (hbox); have n2_ := aM ((by rw [hg]; exact (below_size bB) : w.heap.size ≤ gb359)); have n3_ := aM ((by rw [hg]; exact (below_size bB) : w.heap.size ≤ gb359)); clear HB; have HB := n0_; have BK359 := n1_; have GW359 := n2_; have GE359 := n3_; clear n0_ n1_ n2_ n3_; clear hb hbox hg; have hcz10_0 := (blk_cell BK359.out 0).trans (show _ = some ((.int .i64 0) : Value) from rfl); have hcz10_1 := (blk_cell BK359.out 1).trans (show _ = some ((.int .i64 0) : Value) from rfl); have hcz10_2 := (blk_cell BK359.out 2).trans (show _ = some ((.int .i64 0) : Value) from rfl); have hcz10_3 := (blk_cell BK359.out 3).trans (show _ = some ((.int .i64 0) : Value) from rfl); have hfz10_0 := blk_frozen BK359.out 0; have hfz10_1 := blk_frozen BK359.out 1; have hfz10_2 := blk_frozen BK359.out 2; have hfz10_3 := blk_frozen BK359.out 3))); have n0_ : Aside0 (((((w9.setCell ⟨gb359, 0, none⟩ (.int .i64 ((rd_T50 l0 x12_1).f0))).setCell ⟨gb359, 1, none⟩ (.int .i64 ((rd_T50 l0 x12_1).f1))).setCell ⟨gb359, 2, none⟩ (.int .i64 ((rd_T50 l0 x12_1).f2))).setCell ⟨gb359, 3, none⟩ (.int .i64 ((rd_T50 l0 x12_1).f3))).heap[gb359]? = some (.cells #[.int .i64 ((rd_T50 l0 x12_1).f0), .int .i64 ((rd_T50 l0 x12_1).f1), .int .i64 ((rd_T50 l0 x12_1).f2), .int .i64 ((rd_T50 l0 x12_1).f3)] 50 (0, 0))) := ⟨by refine blk_put (cs := #[.int .i64 ((rd_T50 l0 x12_1).f0), .int .i64 ((rd_T50 l0 x12_1).f1), .int .i64 ((rd_T50 l0 x12_1).f2), .int .i64 0]) ?_ 3 _ rfl; refine blk_put (cs := #[.int .i64 ((rd_T50 l0 x12_1).f0), .int .i64 ((rd_T50 l0 x12_1).f1), .int .i64 0, .int .i64 0]) ?_ 2 _ rfl; refine blk_put (cs := #[.int .i64 ((rd_T50 l0 x12_1).f0), .int .i64 0, .int .i64 0, .int .i64 0]) ?_ 1 _ rfl; refine blk_put (cs := #[.int .i64 0, .int .i64 0, .int .i64 0, .int .i64 0]) ?_ 0 _ rfl; exact BK359.out⟩; have n1_ : Aside0 (Below w.heap.size w ((((w9.setCell ⟨gb359, 0, none⟩ (.int .i64 ((rd_T50 l0 x12_1).f0))).setCell ⟨gb359, 1, none⟩ (.int .i64 ((rd_T50 l0 x12_1).f1))).setCell ⟨gb359, 2, none⟩ (.int .i64 ((rd_T50 l0 x12_1).f2))).setCell ⟨gb359, 3, none⟩ (.int .i64 ((rd_T50 l0 x12_1).f3)))) := ⟨by repeat (first | (with_reducible first | exact HB.out | apply below_alloc | apply pw_below_drewN | apply below_drew1 | refine below_set ?_ GE359.out) | exact HB.out)⟩; (try clear BK359); (try clear HB); generalize ((((w9.setCell ⟨gb359, 0, none⟩ (.int .i64 ((rd_T50 l0 x12_1).f0))).setCell ⟨gb359, 1, none⟩ (.int .i64 ((rd_T50 l0 x12_1).f1))).setCell ⟨gb359, 2, none⟩ (.int .i64 ((rd_T50 l0 x12_1).f2))).setCell ⟨gb359, 3, none⟩ (.int .i64 ((rd_T50 l0 x12_1).f3))) = w11 at n0_ n1_ ⊢; have BK359 := n0_; have HB := n1_; clear n0_ n1_; have n0_ := aM (blk_drew BK359.out); have n1_ := aM (below_drew1 HB.out); clear BK359; clear HB; have BK359 := n0_; have HB := n1_; clear n0_ n1_; have p360 : 0 ≤ (x12_1 : Int) := oD; have q360 : x12_1 < (l1.length : Int) := oD; obtain ⟨ad360, e360, hx360_0⟩ := Kd.at_int HR1.out x12_1 p360 q360; have hw360_0 := hx360_0; cases e360; replace hx360_0 := (cB HB.out hx360_0 :); replace p360 := eq_true p360; replace q360 := eq_true q360; refine start_ (n := 11) (S := fun w' => w'.cell? ⟨gb359, 0, none⟩ = some (.int .i64 ((rd_T50 l0 x12_1).f0)) ∧ w'.cell? ⟨gb359, 1, none⟩ = some (.int .i64 ((rd_T50 l0 x12_1).f1)) ∧ w'.cell? ⟨gb359, 2, none⟩ = some (.int .i64 ((rd_T50 l0 x12_1).f2)) ∧ w'.cell? ⟨gb359, 3, none⟩ = some (.int .i64 ((rd_T50 l0 x12_1).f3)) ∧ w'.cell? (ad360.add (x12_1).toNat) = some (.int .i64 (rd l1 x12_1))) (ds := []) #[false, false, false, false, false, false, false, false, false, false, false] (by kernel_rfl) rfl rfl ⟨(blk_cell BK359.out 0).trans rfl, (blk_cell BK359.out 1).trans rfl, (blk_cell BK359.out 2).trans rfl, (blk_cell BK359.out 3).trans rfl, (cB HB.out hw360_0 :)⟩ (fun hHeld => ?_); refine with_tabW impl_valueOfEnds.tab5 impl_valueOfEnds.bits5 (fun HT_ HW_ => ?_); generalize w11.drew = w12 at BK359 HB hx360_0 hHeld ⊢; refine pU 0 17 #[true, false, false, false, false, false, false, false, false, false, false] ?_; refine pU 2 19 #[true, false, true, false, false, false, false, false, false, false, false] ?_; refine pU 3 20 #[true, false, true, true, false, false, false, false, false, false, false] ?_; refine pU 4 21 #[true, false, true, true, true, false, false, false, false, false, false] ?_; refine pU 6 23 #[true, false, true, true, true, false, true, false, false, false, false] ?_; refine pU 7 24 #[true, false, true, true, true, false, true, true, false, false, false] ?_; refine pU 8 25 #[true, false, true, true, true, false, true, true, true, false, false] ?_; refine tU 1 18 #[true, true, true, true, true, false, true, true, true, false, false] ?_; refine tU 5 22 #[true, true, true, true, true, true, true, true, true, false, false] ?_; refine one_ (i := 9) (N := some 26) #[true, true, true, true, true, true, true, true, true, true, false] rfl rfl (one_of HT_.out (by kernel_rfl)) (by decide) (fun K hK => ?_); refine goes_ Try.func47 (by kernel_rfl) rfl #[.int .i64 x7_1, .agg #[.int .i64 ((rd_T50 l0 x12_1).f0), .int .i64 ((rd_T50 l0 x12_1).f1), .int .i64 ((rd_T50 l0 x12_1).f2), .int .i64 ((rd_T50 l0 x12_1).f3)], .int .i64 (rd l1 x12_1), .int .i64 a2, .bool (x12_1 == 0)] (by rfl) rfl rfl aE ?_; (with_reducible refine (impl_add.calls x7_1 ((rd_T50 l0 x12_1).f0) ((rd_T50 l0 x12_1).f1) ((rd_T50 l0 x12_1).f2) ((rd_T50 l0 x12_1).f3) (rd l1 x12_1) a2 (x12_1 == 0) t361 _ A8.out).mono ?_); rintro e w13 ⟨rfl, hb⟩; refine ⟨_, rfl, ?_⟩; have n0_ := aM (blk_below (g := gb359) (o := .cells #[.int .i64 ((rd_T50 l0 x12_1).f0), .int .i64 ((rd_T50 l0 x12_1).f1), .int .i64 ((rd_T50 l0 x12_1).f2), .int .i64 ((rd_T50 l0 x12_1).f3)] 50 (0, 0)) kB hb); have n1_ := aM (below_step bS hb); clear BK359; clear HB; have BK359 := n0_; have HB := n1_; clear n0_ n1_; (try clear hb); refine hK.out _ _ ⟨(blk_cell BK359.out 0).trans rfl, (blk_cell BK359.out 1).trans rfl, (blk_cell BK359.out 2).trans rfl, (blk_cell BK359.out 3).trans rfl, (cB HB.out hw360_0 :)⟩ (fun hHeld => ?_); clear hK K; refine norm_ (a' := ?_) ?_ ?_; rotate_left
    ·show Act.put _ (some 26) _ = _
     simp only [Act.put, sA, sZ, sS, i64_w, i32_w]; rfl
    refine pU 10 7 #[true, true, true, true, true, true, true, true, true, true, true] ?_; refine done_ (done_of HT_.out (by kernel_rfl)) ?_; (try go_wp2); go_roundg k1
    case measure => have := HK1.out; omega
    case rel => exact ⟨(t361), (wrap64 (x12_1 + 1)), sD, sD, H', ⟨by have := HK1.out; omega⟩, ⟨by repeat (first | (with_reducible first | exact HB.out | apply below_alloc | apply pw_below_drewN | apply below_drew1 | refine below_set ?_ GE359.out) | exact HB.out)⟩⟩
   ·rw [if_neg c4] at H
    have c4b0 : decide (x12_1 < (l0.length : Int)) = false := decide_eq_false c4; clear c4; obtain rfl := Option.some.inj H; go_wp2; go_ret; exact ⟨rE, bB⟩

/-! ### impl_endsOf: function 84 -/
def impl_endsOf.l0 : Nat → List (S50) → List Int → Int → List Int → Int → Int → Option (List Int)
 | 0, _, _, _, _, _, _ => none
 | k + 1, x0, x5, x6, x12, x13, x14 => if x14 < x13 then (if 0 ≤ x14 then (if x14 < (x12.length : Int) then (if 0 ≤ (rd x12 x14) then (if (rd x12 x14) < (x0.length : Int) then (if (rd x12 x14) < (x5.length : Int) then (impl_endsOf.l0 k x0 (x5.set ((rd x12 x14) : Int).toNat (wrap64 ((mx x6 ((rd_T50 x0 (rd x12 x14)).f2)) + ((rd_T50 x0 (rd x12 x14)).f0)))) (wrap64 ((mx x6 ((rd_T50 x0 (rd x12 x14)).f2)) + ((rd_T50 x0 (rd x12 x14)).f0))) x12 x13 (wrap64 (x14 + 1))) else (none)) else (none)) else (none)) else (none)) else (none)) else (some x5)
def impl_endsOf.f (k : Nat) (l0 : List (S50)) (l1 : List Int) : Option (List Int) := if 0 ≤ (l0.length : Int) then (if ((l0.length : Int) : Int).toNat ≤ 35184372088832 then (impl_endsOf.l0 k l0 (List.replicate ((l0.length : Int) : Int).toNat 0) 0 l1 (l1.length : Int) 0) else (none)) else (none)
theorem impl_endsOf.mono_l : ∀ k, (∀ y0 y1 y2 y3 y4 y5, LeO (impl_endsOf.l0 k y0 y1 y2 y3 y4 y5) (impl_endsOf.l0 (k + 1) y0 y1 y2 y3 y4 y5))
 | 0 => fun _ _ _ _ _ _ r h => by simp [impl_endsOf.l0] at h
 | k + 1 => by
  have ih0 := impl_endsOf.mono_l k
  ·intro y0 y1 y2 y3 y4 y5
   unfold impl_endsOf.l0
   repeat' first
   | (with_reducible exact ih0 _ _ _ _ _ _)
   | (with_reducible exact LeO.refl _)
   | (with_reducible exact LeO.none _)
   | (with_reducible refine LeO.ite ?_ ?_)
   | (with_reducible refine LeO.bind ?_ (fun _ => ?_))
   | exact ih0 _ _ _ _ _ _
   | exact LeO.none _
   | refine LeO.ite ?_ ?_
   | refine LeO.bind ?_ (fun _ => ?_)
theorem impl_endsOf.mono : ∀ a0 a1 k, LeO (impl_endsOf.f k a0 a1) (impl_endsOf.f (k + 1) a0 a1) := by
 intro a0 a1 k; have ih0 := impl_endsOf.mono_l k; unfold impl_endsOf.f
 repeat' first
   | (with_reducible exact ih0 _ _ _ _ _ _)
   | (with_reducible exact LeO.refl _)
   | (with_reducible exact LeO.none _)
   | (with_reducible refine LeO.ite ?_ ?_)
   | (with_reducible refine LeO.bind ?_ (fun _ => ?_))
   | exact ih0 _ _ _ _ _ _
   | exact LeO.none _
   | refine LeO.ite ?_ ?_
   | refine LeO.bind ?_ (fun _ => ?_)
set_option maxHeartbeats 8000000 in
set_option maxRecDepth 100000 in
theorem impl_endsOf.calls (k : Nat) (A0 : Option Addr) (c0 : Nat) (l0 : List (S50)) (A1 : Option Addr) (c1 : Nat) (l1 : List Int) (r : List Int) (w : World) (hr0 : Kd.C k50 w A0 l0.length l0) (hc0 : l0.length ≤ c0) (hr1 : Kd.C (Kd.int .i64) w A1 l1.length l1) (hc1 : l1.length ≤ c1) (h : impl_endsOf.f k l0 l1 = some r) :
  Calls Try.prog 84 #[.slice A0 l0.length c0, .slice A1 l1.length c1] w fun e w' => ∃ v0_ : Value, e = .returned (v0_) ∧ Kd.R (Kd.int .i64) 3 w' w.heap.size (fun _ => True) v0_ r ∧ Below w.heap.size w w' := by
 have HR0 := aM hr0; have HC0 := aM hc0; clear hr0 hc0; have HR1 := aM hr1; have HC1 := aM hc1; clear hr1 hc1; have HB := aM (Below.refl w.heap.size w); have H : (if 0 ≤ (l0.length : Int) then (if ((l0.length : Int) : Int).toNat ≤ 35184372088832 then (impl_endsOf.l0 k l0 (List.replicate ((l0.length : Int) : Int).toNat 0) 0 l1 (l1.length : Int) 0) else (none)) else (none)) = some r := h; clear h; by_cases c3 : 0 ≤ (l0.length : Int); rotate_left
 ·rw [if_neg c3] at H; exact absurd H (by simp)
 rw [if_pos c3] at H; have c3b0 := eq_true c3; have c3b1 : decide (0 ≤ (l0.length : Int)) = true := decide_eq_true c3; clear c3; by_cases c4 : ((l0.length : Int) : Int).toNat ≤ 35184372088832; rotate_left
 ·rw [if_neg c4] at H; exact absurd H (by simp)
 rw [if_pos c4] at H; have c4b0 := eq_true c4; have c4b1 : decide (((l0.length : Int) : Int).toNat ≤ 35184372088832) = true := decide_eq_true c4; clear c4; obtain ⟨y362, hy362⟩ : ∃ y_ : List Int, y_ = (List.replicate ((l0.length : Int) : Int).toNat 0) := ⟨_, rfl⟩; (replace H : (impl_endsOf.l0 k l0 y362 0 l1 (l1.length : Int) 0) = some r := by first | (rw [hy362]; with_reducible exact H) | (have H2_ := (Option.bind_some _ _).symm.trans H; rw [hy362]; with_reducible exact H2_) | (have H2_ := (Option.bind_some _ _).symm.trans H; with_reducible exact H2_) | with_reducible exact H | (rw [hy362]; exact H) | exact H); have Ny362 := aM hy362; clear hy362; have H' := aM H; clear H; go_enter Try.func84, Try.ntmps84; (go_wp2_with (first | ((with_reducible refine gate_dst (N := 11) rfl ?_); refine Kd.R_make (Kd.int .i64) _ 3 rfl (N := 11) rfl 38 _ _ rfl (l0.length : Int) rfl rfl Try.underlying38 (.int .i64 0) 8 info3 rfl (by decide) (by omega) 0 (ok := fun _ => True) (okp := fun _ => True) rfl (fun _ hk => hk) trivial (oD) (Nat.le_trans (Nat.mul_le_mul_right _ (oD : (l0.length : Int).toNat ≤ 35184372088832)) (by omega)) (Below.refl _ _) (Nat.le_refl _) ?_; intro v363 w5 ho6 hb hg_ hnew_; clear hg_ hnew_; (first | rw [← Ny362.out] at ho6 | (simp only [Int.reduceToNat] at ho6; rw [← Ny362.out] at ho6)); have n0_ := aM (Kd.R_lower ho6 (below_size bB)); have n1_ := aM (below_step bB hb); clear HB; have HO364 := n0_; have HB := n1_; clear n0_ n1_; clear hb ho6))); (repeat (go_quiet (first | ((with_reducible refine gate_dst (N := 11) rfl ?_); refine Kd.R_make (Kd.int .i64) _ 3 rfl (N := 11) rfl 38 _ _ rfl (l0.length : Int) rfl rfl Try.underlying38 (.int .i64 0) 8 info3 rfl (by decide) (by omega) 0 (ok := fun _ => True) (okp := fun _ => True) rfl (fun _ hk => hk) trivial (oD) (Nat.le_trans (Nat.mul_le_mul_right _ (oD : (l0.length : Int).toNat ≤ 35184372088832)) (by omega)) (Below.refl _ _) (Nat.le_refl _) ?_; intro v363 w5 ho6 hb hg_ hnew_; clear hg_ hnew_; (first | rw [← Ny362.out] at ho6 | (simp only [Int.reduceToNat] at ho6; rw [← Ny362.out] at ho6)); have n0_ := aM (Kd.R_lower ho6 (below_size bB)); have n1_ := aM (below_step bB hb); clear HB; have HO364 := n0_; have HB := n1_; clear n0_ n1_; clear hb ho6)); try go_wp2_with (first | ((with_reducible refine gate_dst (N := 11) rfl ?_); refine Kd.R_make (Kd.int .i64) _ 3 rfl (N := 11) rfl 38 _ _ rfl (l0.length : Int) rfl rfl Try.underlying38 (.int .i64 0) 8 info3 rfl (by decide) (by omega) 0 (ok := fun _ => True) (okp := fun _ => True) rfl (fun _ hk => hk) trivial (oD) (Nat.le_trans (Nat.mul_le_mul_right _ (oD : (l0.length : Int).toNat ≤ 35184372088832)) (by omega)) (Below.refl _ _) (Nat.le_refl _) ?_; intro v363 w5 ho6 hb hg_ hnew_; clear hg_ hnew_; (first | rw [← Ny362.out] at ho6 | (simp only [Int.reduceToNat] at ho6; rw [← Ny362.out] at ho6)); have n0_ := aM (Kd.R_lower ho6 (below_size bB)); have n1_ := aM (below_step bB hb); clear HB; have HO364 := n0_; have HB := n1_; clear n0_ n1_; clear hb ho6)))); go_loopg [6, 14] k (fun kq v6 v14 w' => ∃ (x5_1 : List Int) (x6_1 : Int) (x14_1 : Int), v6 = .int .i64 x6_1 ∧ v14 = .int .i64 x14_1 ∧ Aside0 (impl_endsOf.l0 kq l0 x5_1 x6_1 l1 (l1.length : Int) x14_1 = some r) ∧ Aside0 (kq ≤ k) ∧ Aside0 (Kd.R (Kd.int .i64) 3 w' w.heap.size (fun _ => True) v363 x5_1) ∧ Aside0 (Below w.heap.size w w'))
 case atStart => exact ⟨(y362), (0), (0), sD, sD, H', ⟨Nat.le_refl _⟩, ⟨kR⟩, ⟨by repeat (first | (with_reducible first | exact HB.out | apply below_alloc | apply pw_below_drewN | apply below_drew1) | exact HB.out)⟩⟩
 case round =>
  clear H'; (try clear c1); (try clear c3); (try clear c3b0); (try clear c3b1); (try clear c4); (try clear c4b0); (try clear c4b1); obtain ⟨x5_1, x6_1, x14_1, rfl, rfl, HA, HK1, HO_5, HB⟩ := hrel
  cases gk with
  | zero => exact absurd HA.out (by simp [impl_endsOf.l0])
  | succ k1 =>
   have H := HA.out; clear HA; simp only [impl_endsOf.l0] at H; by_cases c7 : x14_1 < (l1.length : Int)
   ·rw [if_pos c7] at H
    have c7b0 : decide (x14_1 < (l1.length : Int)) = true := decide_eq_true c7; clear c7; by_cases c8 : 0 ≤ x14_1; rotate_left
    ·rw [if_neg c8] at H; exact absurd H (by simp)
    rw [if_pos c8] at H; have c8b0 : decide (0 ≤ x14_1) = true := decide_eq_true c8; clear c8; by_cases c9 : x14_1 < (l1.length : Int); rotate_left
    ·rw [if_neg c9] at H; exact absurd H (by simp)
    rw [if_pos c9] at H; have c9b0 : decide (x14_1 < (l1.length : Int)) = true := decide_eq_true c9; clear c9; by_cases c10 : 0 ≤ (rd l1 x14_1); rotate_left
    ·rw [if_neg c10] at H; exact absurd H (by simp)
    rw [if_pos c10] at H; have c10b0 : decide (0 ≤ (rd l1 x14_1)) = true := decide_eq_true c10; clear c10; by_cases c11 : (rd l1 x14_1) < (l0.length : Int); rotate_left
    ·rw [if_neg c11] at H; exact absurd H (by simp)
    rw [if_pos c11] at H; have c11b0 : decide ((rd l1 x14_1) < (l0.length : Int)) = true := decide_eq_true c11; clear c11; obtain ⟨ji12, hji12⟩ : ∃ j_ : Int, (mx x6_1 ((rd_T50 l0 (rd l1 x14_1)).f2)) = j_ := ⟨_, rfl⟩; (replace H : (if (rd l1 x14_1) < (x5_1.length : Int) then (impl_endsOf.l0 k1 l0 (x5_1.set ((rd l1 x14_1) : Int).toNat (wrap64 ((ji12) + ((rd_T50 l0 (rd l1 x14_1)).f0)))) (wrap64 ((ji12) + ((rd_T50 l0 (rd l1 x14_1)).f0))) l1 (l1.length : Int) (wrap64 (x14_1 + 1))) else (none)) = some r := by first | (rw [hji12] at H; exact H) | (simp only [hji12] at H ⊢; exact H)); have hji12_ : (if x6_1 < ((rd_T50 l0 (rd l1 x14_1)).f2) then ((rd_T50 l0 (rd l1 x14_1)).f2) else x6_1) = ji12 := hji12; by_cases c13 : (rd l1 x14_1) < (x5_1.length : Int); rotate_left
    ·rw [if_neg c13] at H; exact absurd H (by simp)
    rw [if_pos c13] at H; have c13b0 : decide ((rd l1 x14_1) < (x5_1.length : Int)) = true := decide_eq_true c13; clear c13; obtain ⟨y368, hy368⟩ : ∃ y_ : List Int, y_ = (x5_1.set ((rd l1 x14_1) : Int).toNat (wrap64 ((ji12) + ((rd_T50 l0 (rd l1 x14_1)).f0)))) := ⟨_, rfl⟩; (replace H : (impl_endsOf.l0 k1 l0 y368 (wrap64 ((ji12) + ((rd_T50 l0 (rd l1 x14_1)).f0))) l1 (l1.length : Int) (wrap64 (x14_1 + 1))) = some r := by first | (rw [hy368]; with_reducible exact H) | (have H2_ := (Option.bind_some _ _).symm.trans H; rw [hy368]; with_reducible exact H2_) | (have H2_ := (Option.bind_some _ _).symm.trans H; with_reducible exact H2_) | with_reducible exact H | (rw [hy368]; exact H) | exact H); have Ny368 := aM hy368; clear hy368; have H' := aM H; clear H; have p365 : 0 ≤ (x14_1 : Int) := oD; have q365 : x14_1 < (l1.length : Int) := oD; obtain ⟨ad365, e365, hx365_0⟩ := Kd.at_int HR1.out x14_1 p365 q365; cases e365; replace hx365_0 := (cB HB.out hx365_0 :); replace p365 := eq_true p365; replace q365 := eq_true q365; have p366 : 0 ≤ ((rd l1 x14_1) : Int) := oD; have q366 : (rd l1 x14_1) < (l0.length : Int) := oD; obtain ⟨ad366, e366, hx366_0, hx366_1, hx366_2, hx366_3⟩ := at_T50 HR0.out (rd l1 x14_1) p366 q366; cases e366; replace hx366_0 := (cB HB.out hx366_0 :); replace hx366_1 := (cB HB.out hx366_1 :); replace hx366_2 := (cB HB.out hx366_2 :); replace hx366_3 := (cB HB.out hx366_3 :); replace p366 := eq_true p366; replace q366 := eq_true q366; have p367 : 0 ≤ ((rd l1 x14_1) : Int) := oD; have q367 : (rd l1 x14_1) < (l0.length : Int) := oD; obtain ⟨ad367, e367, hx367_0, hx367_1, hx367_2, hx367_3⟩ := at_T50 HR0.out (rd l1 x14_1) p367 q367; obtain rfl : ad366 = ad367 := (by injection e367); replace hx367_0 := (cB HB.out hx367_0 :); replace hx367_1 := (cB HB.out hx367_1 :); replace hx367_2 := (cB HB.out hx367_2 :); replace hx367_3 := (cB HB.out hx367_3 :); replace p367 := eq_true p367; replace q367 := eq_true q367; have p14 : 0 ≤ ((rd l1 x14_1) : Int) := oD; have q14 : ((rd l1 x14_1) : Int) < ((x5_1.length : Int) : Int) := oD; obtain ⟨go14, co14, eo14, gb14, gl14, cl14, HG14⟩ := Kd.R_form HO_5.out (by omega); (first | cases eo14 | (injection eo14 with ea_ en_ ec_; (first | subst ea_ | (injection ea_ with ea_; subst ea_)); subst ec_; clear en_)); have GB14 := aM gb14; have GG14 := aM HG14; clear gb14 gl14 HG14; obtain ⟨hx14_0, hf14_0⟩ := Kd.R_celln 0 HO_5.out ((rd l1 x14_1) : Int) p14 q14; replace p14 := eq_true p14; replace q14 := eq_true q14; have HP15 := Kd.R_putg HO_5.out ((rd l1 x14_1) : Int) (wrap64 ((ji12) + ((rd_T50 l0 (rd l1 x14_1)).f0))); (go_wp2_with (first | ((with_reducible refine gate_store (t := 3) (p := 34) rfl ?_); (try (rw [drewN_self wr]; generalize hq_ : World.drewN wr _ = wr; have n0_ := aM (Kd.R_at hq_ HO_5.out); have n1_ := aM (below_at hq_ HB.out); clear hq_ HO_5 HB; have HO_5 := n0_; have HB := n1_; clear n0_ n1_; (try (have HP15 := Kd.R_putg HO_5.out ((rd l1 x14_1) : Int) (wrap64 ((ji12) + ((rd_T50 l0 (rd l1 x14_1)).f0))))))); refine store_event (t := 3) (p := 34) (v := ?vo_w16) (w1 := (wr.setCell ⟨go14, ((rd l1 x14_1) : Int).toNat, none⟩ (.int .i64 (wrap64 ((ji12) + ((rd_T50 l0 (rd l1 x14_1)).f0)))))) ?hg ?ho ?hn ?hr ?_; (case ho => rfl); (case hg => rfl); (case hn => rfl); (case hr => first | (go_simp; done) | (go_simp; rfl)); intro w16 hw; have hg : wr.grownBy w16 (some go14) := (by rw [hw]; exact HP15.2); have hp_ : Kd.R (Kd.int .i64) 3 w16 w.heap.size (fun _ => True) (.slice (some ⟨go14, 0, none⟩) x5_1.length co14) y368 := (by rw [hw, Ny368.out]; exact HP15.1); clear HP15; have n0_ := aM (hp_); have n1_ := aM ((by rw [hw]; exact below_set (HB.out) GB14.out : Below w.heap.size w w16)); clear HO_5; clear HB; have HO_5 := n0_; have HB := n1_; clear n0_ n1_; clear hg hw hp_))); (repeat (go_quiet (first | ((with_reducible refine gate_store (t := 3) (p := 34) rfl ?_); (try (rw [drewN_self wr]; generalize hq_ : World.drewN wr _ = wr; have n0_ := aM (Kd.R_at hq_ HO_5.out); have n1_ := aM (below_at hq_ HB.out); clear hq_ HO_5 HB; have HO_5 := n0_; have HB := n1_; clear n0_ n1_; (try (have HP15 := Kd.R_putg HO_5.out ((rd l1 x14_1) : Int) (wrap64 ((ji12) + ((rd_T50 l0 (rd l1 x14_1)).f0))))))); refine store_event (t := 3) (p := 34) (v := ?vo_w16) (w1 := (wr.setCell ⟨go14, ((rd l1 x14_1) : Int).toNat, none⟩ (.int .i64 (wrap64 ((ji12) + ((rd_T50 l0 (rd l1 x14_1)).f0)))))) ?hg ?ho ?hn ?hr ?_; (case ho => rfl); (case hg => rfl); (case hn => rfl); (case hr => first | (go_simp; done) | (go_simp; rfl)); intro w16 hw; have hg : wr.grownBy w16 (some go14) := (by rw [hw]; exact HP15.2); have hp_ : Kd.R (Kd.int .i64) 3 w16 w.heap.size (fun _ => True) (.slice (some ⟨go14, 0, none⟩) x5_1.length co14) y368 := (by rw [hw, Ny368.out]; exact HP15.1); clear HP15; have n0_ := aM (hp_); have n1_ := aM ((by rw [hw]; exact below_set (HB.out) GB14.out : Below w.heap.size w w16)); clear HO_5; clear HB; have HO_5 := n0_; have HB := n1_; clear n0_ n1_; clear hg hw hp_)); try go_wp2_with (first | ((with_reducible refine gate_store (t := 3) (p := 34) rfl ?_); (try (rw [drewN_self wr]; generalize hq_ : World.drewN wr _ = wr; have n0_ := aM (Kd.R_at hq_ HO_5.out); have n1_ := aM (below_at hq_ HB.out); clear hq_ HO_5 HB; have HO_5 := n0_; have HB := n1_; clear n0_ n1_; (try (have HP15 := Kd.R_putg HO_5.out ((rd l1 x14_1) : Int) (wrap64 ((ji12) + ((rd_T50 l0 (rd l1 x14_1)).f0))))))); refine store_event (t := 3) (p := 34) (v := ?vo_w16) (w1 := (wr.setCell ⟨go14, ((rd l1 x14_1) : Int).toNat, none⟩ (.int .i64 (wrap64 ((ji12) + ((rd_T50 l0 (rd l1 x14_1)).f0)))))) ?hg ?ho ?hn ?hr ?_; (case ho => rfl); (case hg => rfl); (case hn => rfl); (case hr => first | (go_simp; done) | (go_simp; rfl)); intro w16 hw; have hg : wr.grownBy w16 (some go14) := (by rw [hw]; exact HP15.2); have hp_ : Kd.R (Kd.int .i64) 3 w16 w.heap.size (fun _ => True) (.slice (some ⟨go14, 0, none⟩) x5_1.length co14) y368 := (by rw [hw, Ny368.out]; exact HP15.1); clear HP15; have n0_ := aM (hp_); have n1_ := aM ((by rw [hw]; exact below_set (HB.out) GB14.out : Below w.heap.size w w16)); clear HO_5; clear HB; have HO_5 := n0_; have HB := n1_; clear n0_ n1_; clear hg hw hp_)))); go_roundg k1
    case measure => have := HK1.out; omega
    case rel => exact ⟨(y368), (wrap64 ((ji12) + ((rd_T50 l0 (rd l1 x14_1)).f0))), (wrap64 (x14_1 + 1)), (by first | rfl | (simp; done) | (simp only [← hji12] <;> (first | rfl | simp)) | (simp [*]; done)), sD, H', ⟨by have := HK1.out; omega⟩, ⟨by (with_reducible repeat (first | apply Kd.R_alloc | apply Kd.R_drewN | apply Kd.R_drew)); first | exact HO_5.out | (rw [Ny368.out]; exact (Kd.R_putg (Kd.R_drewN HO_5.out _) _ _).1)⟩, ⟨by repeat (first | (with_reducible first | exact HB.out | apply below_alloc | apply pw_below_drewN | apply below_drew1 | refine below_set ?_ GB14.out) | exact HB.out)⟩⟩
   ·rw [if_neg c7] at H
    have c7b0 : decide (x14_1 < (l1.length : Int)) = false := decide_eq_false c7; clear c7; obtain rfl := Option.some.inj H; go_wp2; (repeat (go_quiet (fail); try go_wp2)); go_ret; (exact ⟨_, by first | rfl | (simp [errW_none, errW_some] <;> rfl) | (simp [*, errW_none, errW_some] <;> rfl), by (with_reducible repeat (first | apply Kd.R_alloc | apply Kd.R_drewN | apply Kd.R_drew)); exact HO_5.out, bB⟩)

/-! ### impl_valueOf: function 55 -/
def impl_valueOf.f (k : Nat) (l0 : List (S50)) (l1 : List Int) (a2 : Int) : Option (Int) := (impl_endsOf.f k l0 l1).bind fun t369 => ((impl_valueOfEnds.f k l0 t369 a2).bind fun t372 => (some t372))
theorem impl_valueOf.mono : ∀ a0 a1 a2 k, LeO (impl_valueOf.f k a0 a1 a2) (impl_valueOf.f (k + 1) a0 a1 a2) := by
 intro a0 a1 a2 k; unfold impl_valueOf.f
 repeat' first
   | (with_reducible exact impl_endsOf.mono _ _ _)
   | (with_reducible exact impl_valueOfEnds.mono _ _ _ _)
   | (with_reducible exact LeO.refl _)
   | (with_reducible exact LeO.none _)
   | (with_reducible refine LeO.ite ?_ ?_)
   | (with_reducible refine LeO.bind ?_ (fun _ => ?_))
   | exact impl_endsOf.mono _ _ _
   | exact impl_valueOfEnds.mono _ _ _ _
   | exact LeO.none _
   | refine LeO.ite ?_ ?_
   | refine LeO.bind ?_ (fun _ => ?_)
set_option maxHeartbeats 8000000 in
set_option maxRecDepth 100000 in
theorem impl_valueOf.calls (k : Nat) (A0 : Option Addr) (c0 : Nat) (l0 : List (S50)) (A1 : Option Addr) (c1 : Nat) (l1 : List Int) (a2 : Int) (r : Int) (w : World) (hr0 : Kd.C k50 w A0 l0.length l0) (hc0 : l0.length ≤ c0) (hr1 : Kd.C (Kd.int .i64) w A1 l1.length l1) (hc1 : l1.length ≤ c1) (h : impl_valueOf.f k l0 l1 a2 = some r) :
  Calls Try.prog 55 #[.slice A0 l0.length c0, .slice A1 l1.length c1, .int .i64 a2] w fun e w' => e = .returned (.int .i64 r) ∧ Below w.heap.size w w' := by
 have HR0 := aM hr0; have HC0 := aM hc0; clear hr0 hc0; have HR1 := aM hr1; have HC1 := aM hc1; clear hr1 hc1; have HB := aM (Below.refl w.heap.size w); have H : ((impl_endsOf.f k l0 l1).bind fun t369 => ((impl_valueOfEnds.f k l0 t369 a2).bind fun t372 => (some t372))) = some r := h; clear h; replace H := oB H; obtain ⟨t369, A40, H⟩ := H; replace H : ((impl_valueOfEnds.f k l0 t369 a2).bind fun t372 => (some t372)) = some r := H; have A4 := aM A40; clear A40; replace H := oB H; obtain ⟨t372, A50, H⟩ := H; replace H : (some t372) = some r := H; have A5 := aM A50; clear A50; obtain rfl := Option.some.inj H; go_enter Try.func55, Try.ntmps55; (go_wp2_with (first | ((with_reducible refine gate_callee (f := 84) rfl ?_); refine goesL_ (some 10) rfl rfl Try.func84 (by kernel_rfl) rfl #[.slice A0 l0.length c0, .slice A1 l1.length c1] rfl aE ?_; (with_reducible refine (impl_endsOf.calls k _ _ l0 _ _ l1 t369 _ ?side1 ?side2 ?side3 ?side4 A4.out).mono ?_); (case side1 => exact cK HR0.out); (case side2 => exact HC0.out); (case side3 => exact cK HR1.out); (case side4 => exact HC1.out); rintro e w6 ⟨v370, rfl, ho0, hb⟩; refine ⟨_, rfl, ?_⟩; have n0_ := aM (Kd.R_lower ho0 (below_size bB)); have n1_ := aM (below_step bB hb); clear HB; have HO371 := n0_; have HB := n1_; clear n0_ n1_; (try clear hb); (try clear ho0); obtain ⟨Ao7, co7, eo7⟩ := Kd.R_slice HO371.out; subst eo7) | ((with_reducible refine gate_callee (f := 83) rfl ?_); refine goesL_ (some 12) rfl rfl Try.func83 (by kernel_rfl) rfl #[.slice A0 l0.length c0, .slice Ao7 t369.length co7, .int .i64 a2] rfl aE ?_; (with_reducible refine (impl_valueOfEnds.calls k _ _ l0 _ _ t369 a2 t372 _ ?side1 ?side2 ?side3 ?side4 A5.out).mono ?_); (case side1 => exact cK ((Kd.C_below HR0.out HB.out))); (case side2 => exact HC0.out); (case side3 => exact cK ((Kd.R_reads' HO371.out).2.2)); (case side4 => exact (Kd.R_reads' HO371.out).2.1); rintro e w8 ⟨rfl, hb⟩; refine ⟨_, rfl, ?_⟩; have n0_ := aM (rB HO371 hb); have n1_ := aM (below_step bB hb); clear HO371; clear HB; have HO371 := n0_; have HB := n1_; clear n0_ n1_; (try clear hb)))); go_ret; exact ⟨rE, bB⟩

/-! ### impl_copyInts: function 56 -/
def impl_copyInts.f (l0 : List Int) : Option (List Int) := (some (([] : List Int) : List Int)).bind fun y373 => (if y373.length + l0.length < 17592186044416 then (some (y373 ++ l0)) else (none))
set_option maxHeartbeats 8000000 in
set_option maxRecDepth 100000 in
theorem impl_copyInts.calls (A0 : Option Addr) (c0 : Nat) (l0 : List Int) (r : List Int) (w : World) (hr0 : Kd.C (Kd.int .i64) w A0 l0.length l0) (hc0 : l0.length ≤ c0) (h : impl_copyInts.f l0 = some r) :
  Calls Try.prog 56 #[.slice A0 l0.length c0] w fun e w' => ∃ v0_ : Value, e = .returned (v0_) ∧ Kd.R (Kd.int .i64) 3 w' w.heap.size (fun _ => True) v0_ r ∧ Below w.heap.size w w' := by
 have HR0 := aM hr0; have HC0 := aM hc0; clear hr0 hc0; have HB := aM (Below.refl w.heap.size w); have H : ((some (([] : List Int) : List Int)).bind fun y373 => (if y373.length + l0.length < 17592186044416 then (some (y373 ++ l0)) else (none))) = some r := h; clear h; obtain ⟨y373, hy373⟩ : ∃ y_ : List Int, y_ = (([] : List Int)) := ⟨_, rfl⟩; (replace H : (if y373.length + l0.length < 17592186044416 then (some (y373 ++ l0)) else (none)) = some r := by first | (rw [hy373]; with_reducible exact H) | (have H2_ := (Option.bind_some _ _).symm.trans H; rw [hy373]; with_reducible exact H2_) | (have H2_ := (Option.bind_some _ _).symm.trans H; with_reducible exact H2_) | with_reducible exact H | (rw [hy373]; exact H) | exact H); have Ny373 := aM hy373; clear hy373; by_cases c2 : y373.length + l0.length < 17592186044416; rotate_left
 ·rw [if_neg c2] at H; exact absurd H (by simp)
 rw [if_pos c2] at H; have LMc2 := aM c2; clear c2; obtain ⟨y376, hy376⟩ : ∃ y_ : List Int, y_ = (y373 ++ l0) := ⟨_, rfl⟩; (replace H : (some y376) = some r := by first | (rw [hy376]; with_reducible exact H) | (have H2_ := (Option.bind_some _ _).symm.trans H; rw [hy376]; with_reducible exact H2_) | (have H2_ := (Option.bind_some _ _).symm.trans H; with_reducible exact H2_) | with_reducible exact H | (rw [hy376]; exact H) | exact H); have Ny376 := aM hy376; clear hy376; obtain rfl := Option.some.inj H; go_enter Try.func56, Try.ntmps56; (go_wp2_with (first | ((with_reducible refine gate_dst (N := 3) rfl ?_); refine Kd.R_lit (Kd.int .i64) _ 3 ?hg (N := 3) ?hd (xs := ([] : List Int)) (inner := []) (ok := fun _ => True) (okp := fun _ => True) ?hr ?hp (fun _ hk => hk) trivial (Below.refl _ _) (Nat.le_refl _) (by simp) ?_; (case hd => rfl); (case hg => rfl); (case hr => first | (go_simp; done) | (go_simp; rfl)); (case hp => exact (Reps.none _ _)); intro v374 w3 ho4 hb hg_ hnew_; clear hg_ hnew_; (first | rw [← Ny373.out] at ho4 | (simp only [Int.reduceToNat] at ho4; rw [← Ny373.out] at ho4)); have n0_ := aM (Kd.R_lower ho4 (below_size bB)); have n1_ := aM (below_step bB hb); clear HB; have HO375 := n0_; have HB := n1_; clear n0_ n1_; clear hb ho4) | ((with_reducible refine gate_builtin (b := .append) (xs := #[.tmp 3, .tmp 4]) rfl ?_); at_builtin; refine Kd.R_append_rows (Kd.int .i64) (w0 := w) w.heap.size rfl (.tmp 3) (.tmp 4) 38 3 (.int .i64 0) 8 rfl Try.underlying38 info3 rfl (by decide) (by omega) v374 y373 l0 _ _ _ (fun _ => True) (fun _ => False) rfl rfl ?aO ?aR (fun _ _ h => h) (fun _ h => h.elim) ?aF ?aB ?aS ?aL ?_; (case aR => exact cK ((Kd.C_below HR0.out HB.out))); (case aB => exact bB); (case aF => exact (fun _ _ => trivial)); (case aO => exact (by (with_reducible repeat (first | apply Kd.R_alloc | apply Kd.R_drewN | apply Kd.R_drew)); exact HO375.out)); (case aS => exact (below_size bB)); (case aL => have := LMc2.out; omega); intro v377 w5 ho hb hg hat; rw [← Ny376.out] at ho; have n0_ := aM (hb); have n1_ := aM (ho); clear HB; clear HO375; have HB := n0_; have HO378 := n1_; clear n0_ n1_; clear ho hb hg hat))); go_ret; (exact ⟨_, by first | rfl | (simp [errW_none, errW_some] <;> rfl) | (simp [*, errW_none, errW_some] <;> rfl), by (with_reducible repeat (first | apply Kd.R_alloc | apply Kd.R_drewN | apply Kd.R_drew)); exact HO378.out, bB⟩)

/-! ### BestExtension's literal: with BestExtension, by hand -/

/-! ### eachOrder: what a literal makes of a state, order after order -/
def eoL {σ : Type} (st : Nat → σ → List Int → Option σ) : Nat → σ → List Int → Option σ
  | 0, _, _ => none
  | k + 1, s, o => (st k s o).bind fun s' => (impl_nextOrder.f k o).bind fun t => if t.1 = true then eoL st k s' t.2 else some s'
def eoF {σ : Type} (st : Nat → σ → List Int → Option σ) (k : Nat) (n : Int) (s : σ) : Option σ := (impl_numbersTo.f k n).bind fun o => eoL st k s o
theorem eoL_mono {σ : Type} (st : Nat → σ → List Int → Option σ) (hst : ∀ k s o, LeO (st k s o) (st (k + 1) s o)) : ∀ k s o, LeO (eoL st k s o) (eoL st (k + 1) s o)
 | 0 => fun _ _ r h => by simp [eoL] at h
 | k + 1 => fun s o => by
  rw [eoL, eoL]
  exact LeO.bind (hst k s o) (fun s' => LeO.bind (impl_nextOrder.mono o k) (fun t => LeO.ite (eoL_mono st hst k s' t.2) (LeO.refl _)))
theorem eoF_mono {σ : Type} (st : Nat → σ → List Int → Option σ) (hst : ∀ k s o, LeO (st k s o) (st (k + 1) s o)) (k : Nat) (n : Int) (s : σ) : LeO (eoF st k n s) (eoF st (k + 1) n s) := LeO.bind (impl_numbersTo.mono n k) (fun o => eoL_mono st hst k s o)
set_option maxHeartbeats 8000000 in
set_option maxRecDepth 100000 in
theorem eo_calls_53 (g0 g1 g2 g3 g4 g5 : Value) {σ : Type} (st : Nat → σ → List Int → Option σ) (Inv : (Nat → Prop) → World → σ → Prop) (k : Nat) (n : Int) (s r : σ) (w0 w : World) (hB : Below w0.heap.size w0 w)
  (hst : ∀ (P : Nat → Prop) (k' : Nat) (s s' : σ) (w' : World) (A : Option Addr) (m c : Nat) (o : List Int), m = o.length → Below w0.heap.size w0 w' → (∀ q, P q → q < w'.heap.size) → Inv P w' s → Kd.C (Kd.int .i64) w' A m o → m ≤ c → st k' s o = some s' →
    Calls Try.prog 53 #[.slice A m c, g0, g1, g2, g3, g4, g5] w' fun e w'' => e = .returned (.tuple #[]) ∧ Inv P w'' s' ∧ Below w0.heap.size w0 w'' ∧ Kept w' w'' (fun q => q < w.heap.size))
  (hset : ∀ (P : Nat → Prop) (w' w'' : World) (s : σ), Inv P w' s → Kept w' w'' P → Inv P w'' s)
  (hin : ∀ (P : Nat → Prop) (w' : World), (∀ q, P q → w.heap.size ≤ q) → Below w.heap.size w w' → Inv P w' s)
  (h : eoF st k n s = some r) :
  Calls Try.prog 52 #[.int .i64 n, .func (.func 53) #[] #[g0, g1, g2, g3, g4, g5]] w fun e w' => e = .returned (.tuple #[]) ∧ Below w0.heap.size w0 w' ∧ ∃ P, Inv P w' r := by
 have HB := aM hB
 clear hB
 have HST := aM hst
 have HSET := aM hset
 have HIN := aM hin
 clear hst hset hin
 obtain ⟨o, ho, h⟩ := oB h
 have HN := aM ho
 have H' := aM h
 clear h ho
 go_enter Try.func52, Try.ntmps52
 go_wp2_with (go_at_call 43; (with_reducible refine (impl_numbersTo.calls k n o _ HN.out).mono ?_); rintro e w1 ⟨v0, rfl, ho0, hb⟩; have HO := aM ho0; have HBW := aM hb; clear ho0 hb)
 obtain ⟨A0, c0, e0⟩ := Kd.R_slice HO.out
 generalize o.length = n0 at e0
 have HP := aM (show ∀ q, some q = v0.ownBlock → w.heap.size ≤ q ∧ q < w1.heap.size from fun q hq => ⟨Kd.R_base HO.out q hq.symm, Kd.R_lt HO.out q hq.symm⟩)
 have HO1 := aM (Kd.R_lower (Kd.R_tight rfl HO.out) HB.out.size)
 have HI1 := aM (HIN.out (fun q => some q = v0.ownBlock) w1 (fun q hq => (HP.out q hq).1) HBW.out)
 have HB1 := aM (below_step HB.out HBW.out)
 have HWW := aM HBW.out.size
 clear HO HBW HN h HIN HB
 go_loopg [] k (fun kq w' => ∃ (o : List Int) (s : σ), Aside0 (eoL st kq s o = some r) ∧ Aside0 (kq ≤ k) ∧ Aside0 (Kd.R (Kd.int .i64) 3 w' w0.heap.size (fun q => some q = v0.ownBlock) v0 o) ∧ Aside0 (Inv (fun q => some q = v0.ownBlock) w' s) ∧ Aside0 (Below w0.heap.size w0 w') ∧ Aside0 (w1.heap.size ≤ w'.heap.size))
 case atStart => exact ⟨o, s, H', ⟨Nat.le_refl _⟩, HO1, HI1, HB1, ⟨Nat.le_refl _⟩⟩
 case round =>
  clear H' HO1 HI1 HB1
  obtain ⟨o, s, HA, HK1, HO, HI, HB, HS⟩ := hrel
  cases gk with
  | zero => exact absurd HA.out (by simp [eoL])
  | succ k1 =>
   have H := HA.out
   clear HA
   rw [eoL] at H
   obtain ⟨s', hs', H⟩ := oB H
   obtain ⟨⟨b, o2⟩, hb2, H⟩ := oB H
   have HS1 := aM hs'
   have HN1 := aM hb2
   have H' := aM H
   clear H hs' hb2
   subst e0
   cases b with
   | true =>
    go_wp2_with (first | (go_at_call 53; (refine (HST.out _ k1 s s' _ A0 n0 c0 o (Kd.R_reads' HO.out).1 HB.out (fun q hq => Nat.lt_of_lt_of_le (HP.out q hq).2 HS.out) HI.out (by have e_ := (Kd.R_reads' HO.out).1; have h_ := (Kd.R_reads' HO.out).2.2; rw [← e_] at h_; exact h_) (Kd.R_reads' HO.out).2.1 HS1.out).mono ?_); rintro e w2 ⟨rfl, hi, hb, hk⟩; have n0_ := aM (Kd.R_step HO.out (fun q hq hlt => hk.2 q hlt (fun h_ => Nat.not_le.2 h_ (HP.out q hq).1))); have n1_ := aM hi; have n2_ := aM hb; have n3_ := aM (Nat.le_trans HS.out hk.1); clear HO HI HB HS; have HO := n0_; have HI := n1_; have HB := n2_; have HS := n3_; clear n0_ n1_ n2_ n3_ hi hb hk) | (go_at_call 82; (refine (impl_nextOrder.calls k1 (fun q => some q = (Value.slice A0 n0 c0).ownBlock) _ o true o2 w0 _ HB.out HO.out HN1.out).mono ?_); rintro e w3 ⟨rfl, ho, hb, hk⟩; have n0_ := aM (Kd.R_tight rfl ho); have n1_ := aM (HSET.out _ _ _ _ HI.out hk); have n2_ := aM hb; have n3_ := aM (Nat.le_trans HS.out hk.1); clear HO HI HB HS; have HO := n0_; have HI := n1_; have HB := n2_; have HS := n3_; clear n0_ n1_ n2_ n3_ ho hb hk))
    go_roundg k1
    case measure => have := HK1.out; omega
    case rel => exact ⟨o2, s', by have h_ := H'.out; simp only [if_true] at h_; exact ⟨h_⟩, ⟨by have := HK1.out; omega⟩, HO, HI, HB, HS⟩
   | false =>
    have H := H'.out
    clear H'
    simp only [Bool.false_eq_true, if_false, Option.some.injEq] at H
    subst H
    go_wp2_with (first | (go_at_call 53; (refine (HST.out _ k1 s s' _ A0 n0 c0 o (Kd.R_reads' HO.out).1 HB.out (fun q hq => Nat.lt_of_lt_of_le (HP.out q hq).2 HS.out) HI.out (by have e_ := (Kd.R_reads' HO.out).1; have h_ := (Kd.R_reads' HO.out).2.2; rw [← e_] at h_; exact h_) (Kd.R_reads' HO.out).2.1 HS1.out).mono ?_); rintro e w2 ⟨rfl, hi, hb, hk⟩; have n0_ := aM (Kd.R_step HO.out (fun q hq hlt => hk.2 q hlt (fun h_ => Nat.not_le.2 h_ (HP.out q hq).1))); have n1_ := aM hi; have n2_ := aM hb; have n3_ := aM (Nat.le_trans HS.out hk.1); clear HO HI HB HS; have HO := n0_; have HI := n1_; have HB := n2_; have HS := n3_; clear n0_ n1_ n2_ n3_ hi hb hk) | (go_at_call 82; (refine (impl_nextOrder.calls k1 (fun q => some q = (Value.slice A0 n0 c0).ownBlock) _ o false o2 w0 _ HB.out HO.out HN1.out).mono ?_); rintro e w3 ⟨rfl, ho, hb, hk⟩; have n0_ := aM (Kd.R_tight rfl ho); have n1_ := aM (HSET.out _ _ _ _ HI.out hk); have n2_ := aM hb; have n3_ := aM (Nat.le_trans HS.out hk.1); clear HO HI HB HS; have HO := n0_; have HI := n1_; have HB := n2_; have HS := n3_; clear n0_ n1_ n2_ n3_ ho hb hk))
    ((try simp only [Exit.inBlock, Exit.then]); refine bodyPost_ret (results_none rfl _ _ _) rfl ?_)
    exact ⟨rfl, HB.out, _, HI.out⟩
/-! ### BestExtension$1: what it makes of what is found, the least value and the first order -/
def impl_BestExtension_1.f (k : Nat) (t : List (List Bool)) (l : List S50) (ob : Int) (s : Bool × Int × List Int) (o : List Int) : Option (Bool × Int × List Int) :=
  (impl_extends.f k t o).bind fun e => if e = true then (impl_valueOf.f k l o ob).bind fun v => if s.1 = false ∨ v < s.2.1 then (impl_copyInts.f o).bind fun c => some (true, v, c) else some s else some s
theorem impl_BestExtension_1.mono (t : List (List Bool)) (l : List S50) (ob : Int) (k : Nat) (s : Bool × Int × List Int) (o : List Int) : LeO (impl_BestExtension_1.f k t l ob s o) (impl_BestExtension_1.f (k + 1) t l ob s o) := LeO.bind (impl_extends.mono t o k) (fun _ => LeO.ite (LeO.bind (impl_valueOf.mono l o ob k) (fun _ => LeO.refl _)) (LeO.refl _))
def ExtAt (b0 gB gJ gO gN gL gF : Nat) (AB : Option Addr) (nB cB : Nat) (AJ : Option Addr) (nJ cJ : Nat) (ob : Int) (P : Nat → Prop) (w : World) (s : Bool × Int × List Int) : Prop :=
  w.heap[gB]? = some (.cells #[.slice AB nB cB] 71 (0, 0)) ∧ w.heap[gJ]? = some (.cells #[.slice AJ nJ cJ] 29 (0, 0)) ∧ w.heap[gO]? = some (.cells #[.int .i64 ob] 3 (0, 0)) ∧ w.heap[gN]? = some (.cells #[.bool s.1] 4 (0, 0)) ∧ w.heap[gL]? = some (.cells #[.int .i64 s.2.1] 3 (0, 0)) ∧
  (∃ vF, w.heap[gF]? = some (.cells #[vF] 38 (0, 0)) ∧ Kd.R (Kd.int .i64) 3 w b0 (fun q => ¬ P q ∧ q ≠ gB ∧ q ≠ gJ ∧ q ≠ gO ∧ q ≠ gN ∧ q ≠ gL ∧ q ≠ gF) vF s.2.2) ∧ ∀ q, P q → q ≠ gB ∧ q ≠ gJ ∧ q ≠ gO ∧ q ≠ gN ∧ q ≠ gL ∧ q ≠ gF
theorem ExtAt.below {b0 gB gJ gO gN gL gF : Nat} {AB : Option Addr} {nB cB : Nat} {AJ : Option Addr} {nJ cJ : Nat} {ob : Int} {P : Nat → Prop} {w w' : World} {s : Bool × Int × List Int} (h : ExtAt b0 gB gJ gO gN gL gF AB nB cB AJ nJ cJ ob P w s) (hb : Below w.heap.size w w') : ExtAt b0 gB gJ gO gN gL gF AB nB cB AJ nJ cJ ob P w' s := by
  obtain ⟨bB, bJ, bO, bN, bL, ⟨vF, bF, hF⟩, hq⟩ := h
  exact ⟨blk_below bB hb, blk_below bJ hb, blk_below bO hb, blk_below bN hb, blk_below bL hb, ⟨vF, blk_below bF hb, Kd.R_below hF hb⟩, hq⟩
theorem ExtAt.kept {b0 gB gJ gO gN gL gF : Nat} {AB : Option Addr} {nB cB : Nat} {AJ : Option Addr} {nJ cJ : Nat} {ob : Int} {P : Nat → Prop} {w w' : World} {s : Bool × Int × List Int} (h : ExtAt b0 gB gJ gO gN gL gF AB nB cB AJ nJ cJ ob P w s) (hk : Kept w w' P) : ExtAt b0 gB gJ gO gN gL gF AB nB cB AJ nJ cJ ob P w' s := by
  obtain ⟨bB, bJ, bO, bN, bL, ⟨vF, bF, hF⟩, hq⟩ := h
  exact ⟨blk_kept bB hk (fun hp => (hq _ hp).1 rfl), blk_kept bJ hk (fun hp => (hq _ hp).2.1 rfl), blk_kept bO hk (fun hp => (hq _ hp).2.2.1 rfl), blk_kept bN hk (fun hp => (hq _ hp).2.2.2.1 rfl), blk_kept bL hk (fun hp => (hq _ hp).2.2.2.2.1 rfl), ⟨vF, blk_kept bF hk (fun hp => (hq _ hp).2.2.2.2.2 rfl), Kd.R_kept hF hk (fun _ hq => hq.1)⟩, hq⟩
theorem ExtAt.start {b0 gB gJ gO gN gL gF : Nat} {AB : Option Addr} {nB cB : Nat} {AJ : Option Addr} {nJ cJ : Nat} {ob : Int} {P : Nat → Prop} {w w' : World} {fd : Bool} {le : Int}
    (h : w.heap[gB]? = some (.cells #[.slice AB nB cB] 71 (0, 0)) ∧ w.heap[gJ]? = some (.cells #[.slice AJ nJ cJ] 29 (0, 0)) ∧ w.heap[gO]? = some (.cells #[.int .i64 ob] 3 (0, 0)) ∧ w.heap[gN]? = some (.cells #[.bool fd] 4 (0, 0)) ∧ w.heap[gL]? = some (.cells #[.int .i64 le] 3 (0, 0)) ∧ w.heap[gF]? = some (.cells #[.slice none 0 0] 38 (0, 0)))
    (hP : ∀ q, P q → w.heap.size ≤ q) (hb : Below w.heap.size w w') : ExtAt b0 gB gJ gO gN gL gF AB nB cB AJ nJ cJ ob P w' (fd, le, []) := by
  obtain ⟨bB, bJ, bO, bN, bL, bF⟩ := h
  have ne : ∀ {g : Nat} {o : Obj}, w.heap[g]? = some o → ∀ q, P q → q ≠ g := fun hg q hp e_ => Nat.not_le.2 (blk_lt hg) (e_ ▸ hP q hp)
  exact ⟨blk_below bB hb, blk_below bJ hb, blk_below bO hb, blk_below bN hb, blk_below bL hb, ⟨_, blk_below bF hb, Kd.R_nil _ _ _ _ _⟩, fun q hp => ⟨ne bB q hp, ne bJ q hp, ne bO q hp, ne bN q hp, ne bL q hp, ne bF q hp⟩⟩
set_option maxHeartbeats 8000000 in
set_option maxRecDepth 100000 in
theorem impl_BestExtension_1.step (gB gJ gO gN gL gF : Nat) (AB : Option Addr) (cB : Nat) (t : List (List Bool)) (AJ : Option Addr) (cJ : Nat) (l : List S50) (ob : Int) (w0 wE : World) (hd : gL ≠ gO) (hge : w0.heap.size ≤ gN ∧ w0.heap.size ≤ gL ∧ w0.heap.size ≤ gF) (hlt : gN < wE.heap.size ∧ gL < wE.heap.size ∧ gF < wE.heap.size)
  (hT : Kd.C (Kd.slice 4 Kd.bool) w0 AB t.length t) (hcB : t.length ≤ cB) (hJ : Kd.C k50 w0 AJ l.length l) (hcJ : l.length ≤ cJ)
  (P : Nat → Prop) (k : Nat) (s s' : Bool × Int × List Int) (w : World) (A : Option Addr) (m c : Nat) (o : List Int) (hm : m = o.length) (hB : Below w0.heap.size w0 w) (hP : ∀ q, P q → q < w.heap.size) (hI : ExtAt w0.heap.size gB gJ gO gN gL gF AB t.length cB AJ l.length cJ ob P w s)
  (hC : Kd.C (Kd.int .i64) w A m o) (hc : m ≤ c) (h : impl_BestExtension_1.f k t l ob s o = some s') :
  Calls Try.prog 53 #[.slice A m c, .pointer (some ⟨gB, 0, none⟩), .pointer (some ⟨gJ, 0, none⟩), .pointer (some ⟨gO, 0, none⟩), .pointer (some ⟨gN, 0, none⟩), .pointer (some ⟨gL, 0, none⟩), .pointer (some ⟨gF, 0, none⟩)] w fun e w' => e = .returned (.tuple #[]) ∧ ExtAt w0.heap.size gB gJ gO gN gL gF AB t.length cB AJ l.length cJ ob P w' s' ∧ Below w0.heap.size w0 w' ∧ Kept w w' (fun q => q < wE.heap.size) := by
 subst hm
 obtain ⟨fd, le, fi⟩ := s
 obtain ⟨eb, he, h⟩ := oB h
 have HE := aM he
 have HT := aM hT
 have HJ := aM hJ
 have HC := aM hC
 have HB := aM hB
 have HI := aM hI
 have HPL := aM hP
 have HS := aM (Nat.le_refl w.heap.size)
 have HGE := aM hge
 have HD := aM hd
 have HLT := aM hlt
 have HX := aM (And.intro hcB (And.intro hcJ hc))
 have HW := aM (Kept.refl w (fun q => q < wE.heap.size))
 have hxB : w.cell? ⟨gB, 0, none⟩ = some (.slice AB t.length cB) := (blk_cell HI.out.1 0).trans rfl
 clear he hT hJ hC hB hI hP hge hd hlt hcB hcJ hc
 cases eb with
 | false =>
   simp only [Bool.false_eq_true, if_false, Option.some.injEq] at h
   subst h
   go_enter Try.func53, Try.ntmps53
   go_wp2_with (first | (go_at_call 54; (refine (impl_extends.calls k AB cB t A c o false _ (Kd.C_below HT.out HB.out) HX.out.1 HC.out HX.out.2.2 HE.out).mono ?_); rintro e w1 ⟨rfl, hb⟩; have n0_ := aM (ExtAt.below HI.out hb); have n1_ := aM (Kd.C_below HC.out hb); have n2_ := aM (below_step HB.out hb); have n3_ := aM (Kept.below HW.out hb); have n4_ := aM (Nat.le_trans HS.out hb.size); clear HI HC HB HW HS; have HI := n0_; have HC := n1_; have HB := n2_; have HW := n3_; have HS := n4_; clear n0_ n1_ n2_ n3_ n4_; clear hb; have hxJ : w1.cell? ⟨gJ, 0, none⟩ = some (.slice AJ l.length cJ) := (blk_cell HI.out.2.1 0).trans rfl; have hxO : w1.cell? ⟨gO, 0, none⟩ = some (.int .i64 ob) := (blk_cell HI.out.2.2.1 0).trans rfl))
   ((try simp only [Exit.inBlock, Exit.then]); refine bodyPost_ret (results_none rfl _ _ _) rfl ?_)
   exact ⟨rfl, HI.out, HB.out, HW.out⟩
 | true =>
   simp only [if_true] at h
   obtain ⟨v, hv, h⟩ := oB h
   have HV := aM hv
   have HH := aM h
   clear hv h
   go_enter Try.func53, Try.ntmps53
   go_upto_region 2 with (first | (go_at_call 54; (refine (impl_extends.calls k AB cB t A c o true _ (Kd.C_below HT.out HB.out) HX.out.1 HC.out HX.out.2.2 HE.out).mono ?_); rintro e w1 ⟨rfl, hb⟩; have n0_ := aM (ExtAt.below HI.out hb); have n1_ := aM (Kd.C_below HC.out hb); have n2_ := aM (below_step HB.out hb); have n3_ := aM (Kept.below HW.out hb); have n4_ := aM (Nat.le_trans HS.out hb.size); clear HI HC HB HW HS; have HI := n0_; have HC := n1_; have HB := n2_; have HW := n3_; have HS := n4_; clear n0_ n1_ n2_ n3_ n4_; clear hb; have hxJ : w1.cell? ⟨gJ, 0, none⟩ = some (.slice AJ l.length cJ) := (blk_cell HI.out.2.1 0).trans rfl; have hxO : w1.cell? ⟨gO, 0, none⟩ = some (.int .i64 ob) := (blk_cell HI.out.2.2.1 0).trans rfl) | (go_at_call 55; (refine (impl_valueOf.calls k AJ cJ l A c o ob v _ (Kd.C_below HJ.out HB.out) HX.out.2.1 HC.out HX.out.2.2 HV.out).mono ?_); rintro e w2 ⟨rfl, hb⟩; have n0_ := aM (ExtAt.below HI.out hb); have n1_ := aM (Kd.C_below HC.out hb); have n2_ := aM (below_step HB.out hb); have n3_ := aM (Kept.below HW.out hb); have n4_ := aM (Nat.le_trans HS.out hb.size); clear HI HC HB HW HS; have HI := n0_; have HC := n1_; have HB := n2_; have HW := n3_; have HS := n4_; clear n0_ n1_ n2_ n3_ n4_; clear hb; have hxN : w2.cell? ⟨gN, 0, none⟩ = some (.bool fd) := (blk_cell HI.out.2.2.2.1 0).trans rfl; have hxL : w2.cell? ⟨gL, 0, none⟩ = some (.int .i64 le) := (blk_cell HI.out.2.2.2.2.1 0).trans rfl))
   cases fd with
   | false =>
     have H := HH.out
     rw [if_pos (Or.inl rfl)] at H
     obtain ⟨cp, hcp, H⟩ := oB H
     have HCP := aM hcp
     clear HH hcp
     obtain rfl := Option.some.inj H
     go_wp2_with (first | (go_at_call 56; (refine (impl_copyInts.calls A c o cp _ HC.out HX.out.2.2 HCP.out).mono ?_); rintro e w3 ⟨vN, rfl, hN, hb⟩; obtain ⟨bB, bJ, bO, bN, bL, ⟨vF, bF, hF⟩, hq⟩ := HI.out; have n5_ := aM (Kd.R_mono (ok' := fun q => ¬ P q ∧ q ≠ gB ∧ q ≠ gJ ∧ q ≠ gO ∧ q ≠ gN ∧ q ≠ gL ∧ q ≠ gF) (Kd.R_lower (Kd.R_bound hN) HB.out.size) (fun q hq => ⟨fun hp => Nat.not_le.2 (Nat.lt_of_lt_of_le (HPL.out q hp) HS.out) hq.2.1, fun e_ => Nat.not_le.2 (blk_lt bB) (e_ ▸ hq.2.1), fun e_ => Nat.not_le.2 (blk_lt bJ) (e_ ▸ hq.2.1), fun e_ => Nat.not_le.2 (blk_lt bO) (e_ ▸ hq.2.1), fun e_ => Nat.not_le.2 (blk_lt bN) (e_ ▸ hq.2.1), fun e_ => Nat.not_le.2 (blk_lt bL) (e_ ▸ hq.2.1), fun e_ => Nat.not_le.2 (blk_lt bF) (e_ ▸ hq.2.1)⟩)); have BB := aM (blk_below bB hb); have BJ := aM (blk_below bJ hb); have BO := aM (blk_below bO hb); have BN := aM (blk_below bN hb); have BL := aM (blk_below bL hb); have BF := aM (blk_below bF hb); have HQ := aM hq; have n7_ := aM (below_step HB.out hb); have n8_ := aM (Kept.below HW.out hb); clear HB HW HI HC HS hN bB bJ bO bN bL bF hF hq; have HF := n5_; have HB := n7_; have HW := n8_; clear n5_ n7_ n8_ hb; (obtain ⟨AN, cN, eN⟩ := Kd.R_slice HF.out); subst eN; have hfF : w3.frozen? ⟨gF, 0, none⟩ = false := blk_frozen BF.out 0; have hxF : w3.cell? ⟨gF, 0, none⟩ = some vF := (blk_cell BF.out 0).trans rfl; have NE := aM (show gL ≠ gF ∧ gN ≠ gF ∧ gO ≠ gF ∧ gJ ≠ gF ∧ gB ≠ gF ∧ gN ≠ gL ∧ gJ ≠ gL ∧ gB ≠ gL ∧ gJ ≠ gN ∧ gB ≠ gN ∧ gO ≠ gN from ⟨blk_ne BL.out BF.out (by decide), blk_ne BN.out BF.out (by decide), blk_ne BO.out BF.out (by decide), blk_ne BJ.out BF.out (by decide), blk_ne BB.out BF.out (by decide), blk_ne BN.out BL.out (by decide), blk_ne BJ.out BL.out (by decide), blk_ne BB.out BL.out (by decide), blk_ne BJ.out BN.out (by decide), blk_ne BB.out BN.out (by decide), blk_ne BO.out BN.out (by decide)⟩); have L4 := aM (blk_far BL.out (p := ⟨gF, 0, none⟩) NE.out.1 (.slice AN cp.length cN)); have N4 := aM (blk_far BN.out (p := ⟨gF, 0, none⟩) NE.out.2.1 (.slice AN cp.length cN)); have N5 := aM (blk_far N4.out (p := ⟨gL, 0, none⟩) NE.out.2.2.2.2.2.1 (.int .i64 v)); have hxL4 : (w3.setCell ⟨gF, 0, none⟩ (.slice AN cp.length cN)).cell? ⟨gL, 0, none⟩ = some (.int .i64 le) := (blk_cell L4.out 0).trans rfl; have hfL4 : (w3.setCell ⟨gF, 0, none⟩ (.slice AN cp.length cN)).frozen? ⟨gL, 0, none⟩ = false := blk_frozen L4.out 0; have hxN5 : ((w3.setCell ⟨gF, 0, none⟩ (.slice AN cp.length cN)).setCell ⟨gL, 0, none⟩ (.int .i64 v)).cell? ⟨gN, 0, none⟩ = some (.bool false) := (blk_cell N5.out 0).trans rfl; have hfN5 : ((w3.setCell ⟨gF, 0, none⟩ (.slice AN cp.length cN)).setCell ⟨gL, 0, none⟩ (.int .i64 v)).frozen? ⟨gN, 0, none⟩ = false := blk_frozen N5.out 0))
     go_end0
     refine ⟨rfl, ⟨blk_far (blk_far (blk_far BB.out NE.out.2.2.2.2.1 _) NE.out.2.2.2.2.2.2.2.1 _) NE.out.2.2.2.2.2.2.2.2.2.1 _, blk_far (blk_far (blk_far BJ.out NE.out.2.2.2.1 _) NE.out.2.2.2.2.2.2.1 _) NE.out.2.2.2.2.2.2.2.2.1 _, blk_far (blk_far (blk_far BO.out NE.out.2.2.1 _) (Ne.symm HD.out) _) NE.out.2.2.2.2.2.2.2.2.2.2 _, blk_put N5.out 0 _ rfl, blk_far (blk_put L4.out 0 _ rfl) (Ne.symm NE.out.2.2.2.2.2.1) _, ⟨_, blk_far (blk_far (blk_put BF.out 0 _ rfl) (Ne.symm NE.out.1) _) (Ne.symm NE.out.2.1) _, Kd.R_far (Kd.R_far (Kd.R_far HF.out (fun _ hk => hk.2.2.2.2.2.2) _) (fun _ hk => hk.2.2.2.2.2.1) _) (fun _ hk => hk.2.2.2.2.1) _⟩, HQ.out⟩, below_set (below_set (below_set HB.out HGE.out.2.2) HGE.out.2.1) HGE.out.1, Kept.setCell (Kept.setCell (Kept.setCell HW.out (.inl HLT.out.2.2) _) (.inl HLT.out.2.1) _) (.inl HLT.out.1) _⟩
   | true =>
     by_cases d1 : v < le
     ·
       have H := HH.out
       rw [if_pos (Or.inr d1)] at H
       obtain ⟨cp, hcp, H⟩ := oB H
       have HCP := aM hcp
       clear HH hcp
       obtain rfl := Option.some.inj H
       have c2 : decide (v < le) = true := decide_eq_true d1
       go_wp2_with (first | (go_at_call 56; (refine (impl_copyInts.calls A c o cp _ HC.out HX.out.2.2 HCP.out).mono ?_); rintro e w3 ⟨vN, rfl, hN, hb⟩; obtain ⟨bB, bJ, bO, bN, bL, ⟨vF, bF, hF⟩, hq⟩ := HI.out; have n5_ := aM (Kd.R_mono (ok' := fun q => ¬ P q ∧ q ≠ gB ∧ q ≠ gJ ∧ q ≠ gO ∧ q ≠ gN ∧ q ≠ gL ∧ q ≠ gF) (Kd.R_lower (Kd.R_bound hN) HB.out.size) (fun q hq => ⟨fun hp => Nat.not_le.2 (Nat.lt_of_lt_of_le (HPL.out q hp) HS.out) hq.2.1, fun e_ => Nat.not_le.2 (blk_lt bB) (e_ ▸ hq.2.1), fun e_ => Nat.not_le.2 (blk_lt bJ) (e_ ▸ hq.2.1), fun e_ => Nat.not_le.2 (blk_lt bO) (e_ ▸ hq.2.1), fun e_ => Nat.not_le.2 (blk_lt bN) (e_ ▸ hq.2.1), fun e_ => Nat.not_le.2 (blk_lt bL) (e_ ▸ hq.2.1), fun e_ => Nat.not_le.2 (blk_lt bF) (e_ ▸ hq.2.1)⟩)); have BB := aM (blk_below bB hb); have BJ := aM (blk_below bJ hb); have BO := aM (blk_below bO hb); have BN := aM (blk_below bN hb); have BL := aM (blk_below bL hb); have BF := aM (blk_below bF hb); have HQ := aM hq; have n7_ := aM (below_step HB.out hb); have n8_ := aM (Kept.below HW.out hb); clear HB HW HI HC HS hN bB bJ bO bN bL bF hF hq; have HF := n5_; have HB := n7_; have HW := n8_; clear n5_ n7_ n8_ hb; (obtain ⟨AN, cN, eN⟩ := Kd.R_slice HF.out); subst eN; have hfF : w3.frozen? ⟨gF, 0, none⟩ = false := blk_frozen BF.out 0; have hxF : w3.cell? ⟨gF, 0, none⟩ = some vF := (blk_cell BF.out 0).trans rfl; have NE := aM (show gL ≠ gF ∧ gN ≠ gF ∧ gO ≠ gF ∧ gJ ≠ gF ∧ gB ≠ gF ∧ gN ≠ gL ∧ gJ ≠ gL ∧ gB ≠ gL ∧ gJ ≠ gN ∧ gB ≠ gN ∧ gO ≠ gN from ⟨blk_ne BL.out BF.out (by decide), blk_ne BN.out BF.out (by decide), blk_ne BO.out BF.out (by decide), blk_ne BJ.out BF.out (by decide), blk_ne BB.out BF.out (by decide), blk_ne BN.out BL.out (by decide), blk_ne BJ.out BL.out (by decide), blk_ne BB.out BL.out (by decide), blk_ne BJ.out BN.out (by decide), blk_ne BB.out BN.out (by decide), blk_ne BO.out BN.out (by decide)⟩); have L4 := aM (blk_far BL.out (p := ⟨gF, 0, none⟩) NE.out.1 (.slice AN cp.length cN)); have N4 := aM (blk_far BN.out (p := ⟨gF, 0, none⟩) NE.out.2.1 (.slice AN cp.length cN)); have N5 := aM (blk_far N4.out (p := ⟨gL, 0, none⟩) NE.out.2.2.2.2.2.1 (.int .i64 v)); have hxL4 : (w3.setCell ⟨gF, 0, none⟩ (.slice AN cp.length cN)).cell? ⟨gL, 0, none⟩ = some (.int .i64 le) := (blk_cell L4.out 0).trans rfl; have hfL4 : (w3.setCell ⟨gF, 0, none⟩ (.slice AN cp.length cN)).frozen? ⟨gL, 0, none⟩ = false := blk_frozen L4.out 0; have hxN5 : ((w3.setCell ⟨gF, 0, none⟩ (.slice AN cp.length cN)).setCell ⟨gL, 0, none⟩ (.int .i64 v)).cell? ⟨gN, 0, none⟩ = some (.bool true) := (blk_cell N5.out 0).trans rfl; have hfN5 : ((w3.setCell ⟨gF, 0, none⟩ (.slice AN cp.length cN)).setCell ⟨gL, 0, none⟩ (.int .i64 v)).frozen? ⟨gN, 0, none⟩ = false := blk_frozen N5.out 0))
       go_end0
       refine ⟨rfl, ⟨blk_far (blk_far (blk_far BB.out NE.out.2.2.2.2.1 _) NE.out.2.2.2.2.2.2.2.1 _) NE.out.2.2.2.2.2.2.2.2.2.1 _, blk_far (blk_far (blk_far BJ.out NE.out.2.2.2.1 _) NE.out.2.2.2.2.2.2.1 _) NE.out.2.2.2.2.2.2.2.2.1 _, blk_far (blk_far (blk_far BO.out NE.out.2.2.1 _) (Ne.symm HD.out) _) NE.out.2.2.2.2.2.2.2.2.2.2 _, blk_put N5.out 0 _ rfl, blk_far (blk_put L4.out 0 _ rfl) (Ne.symm NE.out.2.2.2.2.2.1) _, ⟨_, blk_far (blk_far (blk_put BF.out 0 _ rfl) (Ne.symm NE.out.1) _) (Ne.symm NE.out.2.1) _, Kd.R_far (Kd.R_far (Kd.R_far HF.out (fun _ hk => hk.2.2.2.2.2.2) _) (fun _ hk => hk.2.2.2.2.2.1) _) (fun _ hk => hk.2.2.2.2.1) _⟩, HQ.out⟩, below_set (below_set (below_set HB.out HGE.out.2.2) HGE.out.2.1) HGE.out.1, Kept.setCell (Kept.setCell (Kept.setCell HW.out (.inl HLT.out.2.2) _) (.inl HLT.out.2.1) _) (.inl HLT.out.1) _⟩
     · have c2 : decide (v < le) = false := decide_eq_false d1
       have H := HH.out
       rw [if_neg (fun h_ => h_.elim (fun h2_ => by simp at h2_) d1)] at H
       clear HH
       obtain rfl := Option.some.inj H
       go_wp2
       go_end0
       exact ⟨rfl, HI.out, HB.out, HW.out⟩
/-! ### BestExtension: function 25 -/
def impl_BestExtension.f (k : Nat) (l0 : List (S50)) (l1 : List (S53)) (a2 : Int) : Option (List Int × Bool) := (impl_isPreceded.f k l0 l1).bind fun tp => if tp = true then ((impl_isObjective.f a2).bind fun tob => if tob = true then ((impl_closure.f k (l0.length : Int) l1).bind fun tb => (eoF (fun k s o => impl_BestExtension_1.f k tb l0 a2 s o) k (l0.length : Int) (false, 0, ([] : List Int))).bind fun s => some (s.2.2, true)) else some (([] : List Int), false)) else some (([] : List Int), false)
theorem impl_BestExtension.mono : ∀ a0 a1 a2 k, LeO (impl_BestExtension.f k a0 a1 a2) (impl_BestExtension.f (k + 1) a0 a1 a2) := fun a0 a1 a2 k =>
  LeO.bind (impl_isPreceded.mono a0 a1 k) (fun _ => LeO.ite (LeO.bind (LeO.refl _) (fun _ => LeO.ite (LeO.bind (impl_closure.mono _ a1 k) (fun tb => LeO.bind (eoF_mono _ (fun k s o => impl_BestExtension_1.mono tb a0 a2 k s o) k _ _) (fun _ => LeO.refl _))) (LeO.refl _))) (LeO.refl _))
set_option maxHeartbeats 8000000 in
set_option maxRecDepth 100000 in
theorem impl_BestExtension.calls (k : Nat) (A0 : Option Addr) (c0 : Nat) (l0 : List (S50)) (A1 : Option Addr) (c1 : Nat) (l1 : List (S53)) (a2 : Int) (r1 : List Int) (r2 : Bool) (w : World) (hr0 : Kd.C k50 w A0 l0.length l0) (hc0 : l0.length ≤ c0) (hr1 : Kd.C k53 w A1 l1.length l1) (hc1 : l1.length ≤ c1) (h : impl_BestExtension.f k l0 l1 a2 = some (r1, r2)) :
  Calls Try.prog 25 #[.slice A0 l0.length c0, .slice A1 l1.length c1, .int .i64 a2] w fun e w' => ∃ v0_ : Value, e = .returned (.tuple #[v0_, .bool r2]) ∧ Kd.R (Kd.int .i64) 3 w' w.heap.size (fun _ => True) v0_ r1 ∧ Below w.heap.size w w' := by
 have HR0 := aM hr0
 have HC0 := aM hc0
 have HR1 := aM hr1
 have HC1 := aM hc1
 clear hr0 hc0 hr1 hc1
 have HB := aM (Below.refl w.heap.size w)
 obtain ⟨tp, htp, h⟩ := oB h
 have HTP := aM htp
 clear htp
 cases tp with
 | false =>
   simp only [Bool.false_eq_true, if_false, Option.some.injEq, Prod.mk.injEq] at h
   obtain ⟨rfl, rfl⟩ := h
   go_enter Try.func25, Try.ntmps25
   go_wp2_with (first | ((with_reducible refine gate_dst (N := 3) rfl ?_); refine bE 3 #[.slice A0 l0.length c0] 29 ?_; intro g3 hg w3 hbox hb; have n0_ := aM (below_step HB.out hb); have n1_ := aM hbox; have n2_ := aM (show w.heap.size ≤ g3 by rw [hg]; exact HB.out.size); clear HB ; have HB := n0_; have B3 := n1_; have G3 := n2_; clear n0_ n1_ n2_  hb hbox hg) | ((with_reducible refine gate_dst (N := 5) rfl ?_); refine bE 5 #[.int .i64 a2] 3 ?_; intro g5 hg w5 hbox hb; have n0_ := aM (below_step HB.out hb); have n1_ := aM hbox; have n2_ := aM (show w.heap.size ≤ g5 by rw [hg]; exact HB.out.size); have m0_ := aM (blk_below B3.out hb); have d3_5 := aM (show g3 ≠ g5 by rw [hg]; exact Nat.ne_of_lt (blk_lt B3.out)); clear HB B3; have HB := n0_; have B5 := n1_; have G5 := n2_; have B3 := m0_; clear n0_ n1_ n2_ m0_ hb hbox hg; have hx3 : w5.cell? ⟨g3, 0, none⟩ = some (.slice A0 l0.length c0) := (blk_cell B3.out 0).trans rfl) | (go_at_call 30; (refine (impl_isPreceded.calls k A0 c0 l0 A1 c1 l1 false _ (Kd.C_below HR0.out HB.out) HC0.out (Kd.C_below HR1.out HB.out) HC1.out HTP.out).mono ?_); rintro e wp ⟨rfl, hb⟩; have n0_ := aM (below_step HB.out hb); have m0_ := aM (blk_below B3.out hb); have m1_ := aM (blk_below B5.out hb); clear HB B3 B5 hx3; have HB := n0_; have B3 := m0_; have B5 := m1_; clear n0_ m0_ m1_; have hx5 : wp.cell? ⟨g5, 0, none⟩ = some (.int .i64 a2) := (blk_cell B5.out 0).trans rfl; have hx3 : wp.cell? ⟨g3, 0, none⟩ = some (.slice A0 l0.length c0) := (blk_cell B3.out 0).trans rfl; clear hb))
   go_ret2
   exact ⟨_, rfl, Kd.R_nil _ _ _ _ _, HB.out⟩
 | true =>
   simp only [if_true] at h
   obtain ⟨tob, hto, h⟩ := oB h
   have HTO := aM hto
   clear hto
   cases tob with
   | false =>
     simp only [Bool.false_eq_true, if_false, Option.some.injEq, Prod.mk.injEq] at h
     obtain ⟨rfl, rfl⟩ := h
     go_enter Try.func25, Try.ntmps25
     go_wp2_with (first | ((with_reducible refine gate_dst (N := 3) rfl ?_); refine bE 3 #[.slice A0 l0.length c0] 29 ?_; intro g3 hg w3 hbox hb; have n0_ := aM (below_step HB.out hb); have n1_ := aM hbox; have n2_ := aM (show w.heap.size ≤ g3 by rw [hg]; exact HB.out.size); clear HB ; have HB := n0_; have B3 := n1_; have G3 := n2_; clear n0_ n1_ n2_  hb hbox hg) | ((with_reducible refine gate_dst (N := 5) rfl ?_); refine bE 5 #[.int .i64 a2] 3 ?_; intro g5 hg w5 hbox hb; have n0_ := aM (below_step HB.out hb); have n1_ := aM hbox; have n2_ := aM (show w.heap.size ≤ g5 by rw [hg]; exact HB.out.size); have m0_ := aM (blk_below B3.out hb); have d3_5 := aM (show g3 ≠ g5 by rw [hg]; exact Nat.ne_of_lt (blk_lt B3.out)); clear HB B3; have HB := n0_; have B5 := n1_; have G5 := n2_; have B3 := m0_; clear n0_ n1_ n2_ m0_ hb hbox hg; have hx3 : w5.cell? ⟨g3, 0, none⟩ = some (.slice A0 l0.length c0) := (blk_cell B3.out 0).trans rfl) | (go_at_call 30; (refine (impl_isPreceded.calls k A0 c0 l0 A1 c1 l1 true _ (Kd.C_below HR0.out HB.out) HC0.out (Kd.C_below HR1.out HB.out) HC1.out HTP.out).mono ?_); rintro e wp ⟨rfl, hb⟩; have n0_ := aM (below_step HB.out hb); have m0_ := aM (blk_below B3.out hb); have m1_ := aM (blk_below B5.out hb); clear HB B3 B5 hx3; have HB := n0_; have B3 := m0_; have B5 := m1_; clear n0_ m0_ m1_; have hx5 : wp.cell? ⟨g5, 0, none⟩ = some (.int .i64 a2) := (blk_cell B5.out 0).trans rfl; have hx3 : wp.cell? ⟨g3, 0, none⟩ = some (.slice A0 l0.length c0) := (blk_cell B3.out 0).trans rfl; clear hb) | (go_at_call 50; (refine (impl_isObjective.calls a2 false _ HTO.out).mono ?_); rintro e wq ⟨rfl, hd⟩; have hb : Below wp.heap.size wp wq := (by obtain ⟨n_, rfl⟩ := hd.out; exact pw_below_drewN (Below.refl _ _) n_); have n0_ := aM (below_step HB.out hb); have m0_ := aM (blk_below B3.out hb); have m1_ := aM (blk_below B5.out hb); clear HB B3 B5 hx3; have HB := n0_; have B3 := m0_; have B5 := m1_; clear n0_ m0_ m1_; clear hx5; have hx3 : wq.cell? ⟨g3, 0, none⟩ = some (.slice A0 l0.length c0) := (blk_cell B3.out 0).trans rfl; clear hd hb))
     go_ret2
     exact ⟨_, rfl, Kd.R_nil _ _ _ _ _, HB.out⟩
   | true =>
     simp only [if_true] at h
     obtain ⟨tb, htb, h⟩ := oB h
     obtain ⟨⟨fd, le, fi⟩, hs, h⟩ := oB h
     have HTB := aM htb
     have HS := aM hs
     clear htb hs
     simp only [Option.some.injEq, Prod.mk.injEq] at h
     obtain ⟨rfl, rfl⟩ := h
     go_enter Try.func25, Try.ntmps25
     go_wp2_with (first | ((with_reducible refine gate_dst (N := 3) rfl ?_); refine bE 3 #[.slice A0 l0.length c0] 29 ?_; intro g3 hg w3 hbox hb; have n0_ := aM (below_step HB.out hb); have n1_ := aM hbox; have n2_ := aM (show w.heap.size ≤ g3 by rw [hg]; exact HB.out.size); clear HB ; have HB := n0_; have B3 := n1_; have G3 := n2_; clear n0_ n1_ n2_  hb hbox hg) | ((with_reducible refine gate_dst (N := 5) rfl ?_); refine bE 5 #[.int .i64 a2] 3 ?_; intro g5 hg w5 hbox hb; have n0_ := aM (below_step HB.out hb); have n1_ := aM hbox; have n2_ := aM (show w.heap.size ≤ g5 by rw [hg]; exact HB.out.size); have m0_ := aM (blk_below B3.out hb); have d3_5 := aM (show g3 ≠ g5 by rw [hg]; exact Nat.ne_of_lt (blk_lt B3.out)); clear HB B3; have HB := n0_; have B5 := n1_; have G5 := n2_; have B3 := m0_; clear n0_ n1_ n2_ m0_ hb hbox hg; have hx3 : w5.cell? ⟨g3, 0, none⟩ = some (.slice A0 l0.length c0) := (blk_cell B3.out 0).trans rfl) | (go_at_call 30; (refine (impl_isPreceded.calls k A0 c0 l0 A1 c1 l1 true _ (Kd.C_below HR0.out HB.out) HC0.out (Kd.C_below HR1.out HB.out) HC1.out HTP.out).mono ?_); rintro e wp ⟨rfl, hb⟩; have n0_ := aM (below_step HB.out hb); have m0_ := aM (blk_below B3.out hb); have m1_ := aM (blk_below B5.out hb); clear HB B3 B5 hx3; have HB := n0_; have B3 := m0_; have B5 := m1_; clear n0_ m0_ m1_; have hx5 : wp.cell? ⟨g5, 0, none⟩ = some (.int .i64 a2) := (blk_cell B5.out 0).trans rfl; have hx3 : wp.cell? ⟨g3, 0, none⟩ = some (.slice A0 l0.length c0) := (blk_cell B3.out 0).trans rfl; clear hb) | (go_at_call 50; (refine (impl_isObjective.calls a2 true _ HTO.out).mono ?_); rintro e wq ⟨rfl, hd⟩; have hb : Below wp.heap.size wp wq := (by obtain ⟨n_, rfl⟩ := hd.out; exact pw_below_drewN (Below.refl _ _) n_); have n0_ := aM (below_step HB.out hb); have m0_ := aM (blk_below B3.out hb); have m1_ := aM (blk_below B5.out hb); clear HB B3 B5 hx3; have HB := n0_; have B3 := m0_; have B5 := m1_; clear n0_ m0_ m1_; clear hx5; have hx3 : wq.cell? ⟨g3, 0, none⟩ = some (.slice A0 l0.length c0) := (blk_cell B3.out 0).trans rfl; clear hd hb) | (go_at_call 51; (refine (impl_closure.calls k (l0.length : Int) A1 c1 l1 tb _ (Kd.C_below HR1.out HB.out) HC1.out HTB.out).mono ?_); rintro e wt ⟨vt, rfl, ht, hb⟩; (obtain ⟨AT, cT, eT⟩ := Kd.S_slice ht); subst eT; have HST := aM ht; have n0_ := aM (below_step HB.out hb); have m0_ := aM (blk_below B3.out hb); have m1_ := aM (blk_below B5.out hb); clear HB B3 B5 hx3; have HB := n0_; have B3 := m0_; have B5 := m1_; clear n0_ m0_ m1_; clear ht hb) | ((with_reducible refine gate_dst (N := 8) rfl ?_); refine bE 8 #[.slice none 0 0] 71 ?_; intro g8 hg w8 hbox hb; have n0_ := aM (below_step HB.out hb); have n1_ := aM hbox; have n2_ := aM (show w.heap.size ≤ g8 by rw [hg]; exact HB.out.size); have m0_ := aM (blk_below B3.out hb); have d3_8 := aM (show g3 ≠ g8 by rw [hg]; exact Nat.ne_of_lt (blk_lt B3.out)); have m1_ := aM (blk_below B5.out hb); have d5_8 := aM (show g5 ≠ g8 by rw [hg]; exact Nat.ne_of_lt (blk_lt B5.out)); clear HB B3 B5; have HB := n0_; have B8 := n1_; have G8 := n2_; have B3 := m0_; have B5 := m1_; have HST8 := aM (Kd.S_below HST.out hb); clear n0_ n1_ n2_ m0_ m1_ hb hbox hg; have hx8 : w8.cell? ⟨g8, 0, none⟩ = some (.slice none 0 0) := (blk_cell B8.out 0).trans rfl; have hf8 : w8.frozen? ⟨g8, 0, none⟩ = false := blk_frozen B8.out 0; have n0_ := aM (below_set (j := 0) (v := .slice AT tb.length cT) HB.out G8.out); have n3_ := aM (blk_far B3.out (p := ⟨g8, 0, none⟩) d3_8.out (.slice AT tb.length cT)); have n5_ := aM (blk_far B5.out (p := ⟨g8, 0, none⟩) d5_8.out (.slice AT tb.length cT)); have n8_ := aM (blk_put B8.out 0 (.slice AT tb.length cT) rfl); have HTC := aM (Kd.S_reads' (Kd.S_set HST8.out B8.out (by decide) 0 (.slice AT tb.length cT))); clear HST HST8 B3 B5 B8; have HBW := n0_; have B3 := n3_; have B5 := n5_; have B8 := n8_; clear n0_ n3_ n5_ n8_; have HZ := aM (Below.refl (w8.setCell ⟨g8, 0, none⟩ (.slice AT tb.length cT)).heap.size (w8.setCell ⟨g8, 0, none⟩ (.slice AT tb.length cT)))) | ((with_reducible refine gate_dst (N := 9) rfl ?_); refine bE 9 #[.slice none 0 0] 38 ?_; intro g9 hg w9 hbox hb; have n0_ := aM (below_step HZ.out hb); have n1_ := aM hbox; have n2_ := aM (show (w8.setCell ⟨g8, 0, none⟩ (.slice AT tb.length cT)).heap.size ≤ g9 by rw [hg]; exact HZ.out.size); have m0_ := aM (blk_below B3.out hb); have d3_9 := aM (show g3 ≠ g9 by rw [hg]; exact Nat.ne_of_lt (blk_lt B3.out)); have m1_ := aM (blk_below B5.out hb); have d5_9 := aM (show g5 ≠ g9 by rw [hg]; exact Nat.ne_of_lt (blk_lt B5.out)); have m2_ := aM (blk_below B8.out hb); have d8_9 := aM (show g8 ≠ g9 by rw [hg]; exact Nat.ne_of_lt (blk_lt B8.out)); clear HZ B3 B5 B8; have HZ := n0_; have B9 := n1_; have G9 := n2_; have B3 := m0_; have B5 := m1_; have B8 := m2_; clear n0_ n1_ n2_ m0_ m1_ m2_ hb hbox hg) | ((with_reducible refine gate_dst (N := 10) rfl ?_); refine bE 10 #[.int .i64 0] 3 ?_; intro g10 hg w10 hbox hb; have n0_ := aM (below_step HZ.out hb); have n1_ := aM hbox; have n2_ := aM (show (w8.setCell ⟨g8, 0, none⟩ (.slice AT tb.length cT)).heap.size ≤ g10 by rw [hg]; exact HZ.out.size); have m0_ := aM (blk_below B3.out hb); have d3_10 := aM (show g3 ≠ g10 by rw [hg]; exact Nat.ne_of_lt (blk_lt B3.out)); have m1_ := aM (blk_below B5.out hb); have d5_10 := aM (show g5 ≠ g10 by rw [hg]; exact Nat.ne_of_lt (blk_lt B5.out)); have m2_ := aM (blk_below B8.out hb); have d8_10 := aM (show g8 ≠ g10 by rw [hg]; exact Nat.ne_of_lt (blk_lt B8.out)); have m3_ := aM (blk_below B9.out hb); have d9_10 := aM (show g9 ≠ g10 by rw [hg]; exact Nat.ne_of_lt (blk_lt B9.out)); clear HZ B3 B5 B8 B9; have HZ := n0_; have B10 := n1_; have G10 := n2_; have B3 := m0_; have B5 := m1_; have B8 := m2_; have B9 := m3_; clear n0_ n1_ n2_ m0_ m1_ m2_ m3_ hb hbox hg) | ((with_reducible refine gate_dst (N := 11) rfl ?_); refine bE 11 #[.bool false] 4 ?_; intro g11 hg w11 hbox hb; have n0_ := aM (below_step HZ.out hb); have n1_ := aM hbox; have n2_ := aM (show (w8.setCell ⟨g8, 0, none⟩ (.slice AT tb.length cT)).heap.size ≤ g11 by rw [hg]; exact HZ.out.size); have m0_ := aM (blk_below B3.out hb); have d3_11 := aM (show g3 ≠ g11 by rw [hg]; exact Nat.ne_of_lt (blk_lt B3.out)); have m1_ := aM (blk_below B5.out hb); have d5_11 := aM (show g5 ≠ g11 by rw [hg]; exact Nat.ne_of_lt (blk_lt B5.out)); have m2_ := aM (blk_below B8.out hb); have d8_11 := aM (show g8 ≠ g11 by rw [hg]; exact Nat.ne_of_lt (blk_lt B8.out)); have m3_ := aM (blk_below B9.out hb); have d9_11 := aM (show g9 ≠ g11 by rw [hg]; exact Nat.ne_of_lt (blk_lt B9.out)); have m4_ := aM (blk_below B10.out hb); have d10_11 := aM (show g10 ≠ g11 by rw [hg]; exact Nat.ne_of_lt (blk_lt B10.out)); clear HZ B3 B5 B8 B9 B10; have HZ := n0_; have B11 := n1_; have G11 := n2_; have B3 := m0_; have B5 := m1_; have B8 := m2_; have B9 := m3_; have B10 := m4_; clear n0_ n1_ n2_ m0_ m1_ m2_ m3_ m4_ hb hbox hg; have hx10 : w11.cell? ⟨g10, 0, none⟩ = some (.int .i64 0) := (blk_cell B10.out 0).trans rfl; have hf10 : w11.frozen? ⟨g10, 0, none⟩ = false := blk_frozen B10.out 0; have C11 := aM (blk_far B11.out (p := ⟨g10, 0, none⟩) (Ne.symm d10_11.out) (.int .i64 0)); have hx11 : (w11.setCell ⟨g10, 0, none⟩ (.int .i64 0)).cell? ⟨g11, 0, none⟩ = some (.bool false) := (blk_cell C11.out 0).trans rfl; have hf11 : (w11.setCell ⟨g10, 0, none⟩ (.int .i64 0)).frozen? ⟨g11, 0, none⟩ = false := blk_frozen C11.out 0; have D3 := aM (blk_far (blk_far B3.out (p := ⟨g10, 0, none⟩) d3_10.out (.int .i64 0)) (p := ⟨g11, 0, none⟩) d3_11.out (.bool false)); have D5 := aM (blk_far (blk_far B5.out (p := ⟨g10, 0, none⟩) d5_10.out (.int .i64 0)) (p := ⟨g11, 0, none⟩) d5_11.out (.bool false)); have D8 := aM (blk_far (blk_far B8.out (p := ⟨g10, 0, none⟩) d8_10.out (.int .i64 0)) (p := ⟨g11, 0, none⟩) d8_11.out (.bool false)); have D9 := aM (blk_far (blk_far B9.out (p := ⟨g10, 0, none⟩) d9_10.out (.int .i64 0)) (p := ⟨g11, 0, none⟩) d9_11.out (.bool false)); have D10 := aM (blk_far (blk_put B10.out 0 (.int .i64 0) rfl) (p := ⟨g11, 0, none⟩) d10_11.out (.bool false)); have D11 := aM (blk_put C11.out 0 (.bool false) rfl); have HZ2 := aM (below_set (j := 0) (v := .bool false) (below_set (j := 0) (v := .int .i64 0) HZ.out G10.out) G11.out); have hx3 : ((w11.setCell ⟨g10, 0, none⟩ (.int .i64 0)).setCell ⟨g11, 0, none⟩ (.bool false)).cell? ⟨g3, 0, none⟩ = some (.slice A0 l0.length c0) := (blk_cell D3.out 0).trans rfl) | (go_at_call 52; (refine (eo_calls_53 _ _ _ _ _ _ (fun k s o => impl_BestExtension_1.f k tb l0 a2 s o) (ExtAt (w8.setCell ⟨g8, 0, none⟩ (.slice AT tb.length cT)).heap.size g8 g3 g5 g11 g10 g9 AT tb.length cT A0 l0.length c0 a2) k _ (false, 0, []) (fd, le, fi) (w8.setCell ⟨g8, 0, none⟩ (.slice AT tb.length cT)) _ HZ2.out (fun P k' s s' w' A m c o hm hB' hP hI hC hc h => impl_BestExtension_1.step g8 g3 g5 g11 g10 g9 AT cT tb A0 c0 l0 a2 (w8.setCell ⟨g8, 0, none⟩ (.slice AT tb.length cT)) _ (Ne.symm d5_10.out) ⟨G11.out, G10.out, G9.out⟩ ⟨blk_lt D11.out, blk_lt D10.out, blk_lt D9.out⟩ HTC.out.2.2 HTC.out.2.1 (Kd.C_below HR0.out HBW.out) HC0.out P k' s s' w' A m c o hm hB' hP hI hC hc h) (fun P w' w'' s hI hk => ExtAt.kept hI hk) (fun P w' hP hb => ExtAt.start ⟨D8.out, D3.out, D5.out, D11.out, D10.out, D9.out⟩ hP hb) HS.out).mono ?_); rintro e wz ⟨rfl, hb, P, hI⟩; obtain ⟨_, _, _, _, _, ⟨vF, bF, hF⟩, _⟩ := hI; dsimp only at hF; (obtain ⟨AF, cF, eF⟩ := Kd.R_slice hF); subst eF; have hx9' : wz.cell? ⟨g9, 0, none⟩ = some (.slice AF fi.length cF) := (blk_cell bF 0).trans rfl; have HF := aM (Kd.R_lower hF HBW.out.size); have HB3 := aM (below_step HBW.out hb); clear bF hF hb))
     go_ret2
     exact ⟨_, rfl, Kd.R_mono HF.out (fun _ _ => trivial), HB3.out⟩

end Go.Proofs.Ytlhppclbokkfmaa.OFnExactBestExtension
