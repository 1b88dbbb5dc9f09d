/- Functions of the program as plain Lean functions, with their contracts: written by this session's program ownprint.py. Conditions: none. -/
import Derived.Test.YthhmembnhnghiaaOFnExactLeftAfterx0
import Derived.Test.YthhmembnhnghiaaOFnExactLeftAfterx2
import Derived.Test.YthhmembnhnghiaaOFnExactLeftAfterx4
import Derived.Test.YthhmembnhnghiaaOFnExactLeftAfterx5
namespace Go.Proofs.Ythhmembnhnghiaa.OFnExactLeftAfter
open Go.RowKit Go.Proofs.YthhmembnhnghiaaW.PrintWords Go.Proofs.YthhmembnhnghiaaW.PrintLast Go.Proofs.YthhmembnhnghiaaW.PrintMore
attribute [local go_sem] max2_int min2_int max_two min_two max_three min_three max_four min_four   -- for this text's walks alone
set_option linter.unusedVariables false
set_option linter.unusedSimpArgs false

/-! ### spec_l3Rule: function 87 -/
def spec_l3Rule.l0 : Nat → List (S59) → List Int → Int → List Int → List Int → List (S64) → Option (List Int × List Int × (List (S64)))
 | 0, _, _, _, _, _, _ => none
 | k + 1, x0, x4, x5, x216000, x216001, x216002 => if x5 < (x4.length : Int) then (if 0 ≤ x5 then (if x216000.length < 17592186044416 then ((some (x216000 ++ [rd x4 x5] : List Int)).bind fun y220 => ((spec_l3Total.f k x0 y220).bind fun t223 => (if 0 ≤ (rd x4 x5) then (if (rd x4 x5) < (x0.length : Int) then (if t223 > ((rd_T59 x0 (rd x4 x5)).f3) then ((spec_l3Longest.f k x0 y220).bind fun t226 => (if 0 ≤ t226 then (if t226 < (y220.length : Int) then ((spec_l3Without.f y220 t226).bind fun t228 => (if x216001.length < 17592186044416 then (if x216002.length < 8796093022208 then (spec_l3Rule.l0 k x0 x4 (wrap64 (x5 + 1)) t228 (x216001 ++ [rd y220 t226]) (x216002 ++ [(⟨rd x4 x5, rd y220 t226⟩ : S64)])) else (none)) else (none))) else (none)) else (none))) else (if x216002.length < 8796093022208 then (spec_l3Rule.l0 k x0 x4 (wrap64 (x5 + 1)) y220 x216001 (x216002 ++ [(⟨rd x4 x5, (-1)⟩ : S64)])) else (none))) else (none)) else (none)))) else (none)) else (none)) else (some (x216000, x216001, x216002))
def spec_l3Rule.f (k : Nat) (l0 : List (S59)) : Option (List Int × List Int × (List (S64))) := (spec_l3Order.f k l0 4).bind fun t216 => (spec_l3Rule.l0 k l0 t216 0 (([] : List Int)) (([] : List Int)) (([] : List (S64))))
theorem spec_l3Rule.mono_l : ∀ k, (∀ y0 y1 y2 y3 y4 y5, LeO (spec_l3Rule.l0 k y0 y1 y2 y3 y4 y5) (spec_l3Rule.l0 (k + 1) y0 y1 y2 y3 y4 y5))
 | 0 => fun _ _ _ _ _ _ r h => by simp [spec_l3Rule.l0] at h
 | k + 1 => by
  have ih0 := spec_l3Rule.mono_l k
  ·intro y0 y1 y2 y3 y4 y5
   unfold spec_l3Rule.l0
   repeat' first
   | (with_reducible exact ih0 _ _ _ _ _ _)
   | (with_reducible exact spec_l3Longest.mono _ _ _)
   | (with_reducible exact spec_l3Order.mono _ _ _)
   | (with_reducible exact spec_l3Total.mono _ _ _)
   | (with_reducible exact LeO.refl _)
   | (with_reducible exact LeO.none _)
   | (with_reducible refine LeO.ite ?_ ?_)
   | (with_reducible refine LeO.bind ?_ (fun _ => ?_))
   | exact ih0 _ _ _ _ _ _
   | exact spec_l3Longest.mono _ _ _
   | exact spec_l3Order.mono _ _ _
   | exact spec_l3Total.mono _ _ _
   | exact LeO.none _
   | refine LeO.ite ?_ ?_
   | refine LeO.bind ?_ (fun _ => ?_)
theorem spec_l3Rule.mono : ∀ a0 k, LeO (spec_l3Rule.f k a0) (spec_l3Rule.f (k + 1) a0) := by
 intro a0 k
 have ih0 := spec_l3Rule.mono_l k
 unfold spec_l3Rule.f
 repeat' first
   | (with_reducible exact ih0 _ _ _ _ _ _)
   | (with_reducible exact spec_l3Longest.mono _ _ _)
   | (with_reducible exact spec_l3Order.mono _ _ _)
   | (with_reducible exact spec_l3Total.mono _ _ _)
   | (with_reducible exact LeO.refl _)
   | (with_reducible exact LeO.none _)
   | (with_reducible refine LeO.ite ?_ ?_)
   | (with_reducible refine LeO.bind ?_ (fun _ => ?_))
   | exact ih0 _ _ _ _ _ _
   | exact spec_l3Longest.mono _ _ _
   | exact spec_l3Order.mono _ _ _
   | exact spec_l3Total.mono _ _ _
   | exact LeO.none _
   | refine LeO.ite ?_ ?_
   | refine LeO.bind ?_ (fun _ => ?_)
def spec_l3Rule.T6 : Bool × List (List Nat × List Nat) := (true, [([], []), ([0], [0]), ([], []), ([], []), ([2, 3], [2, 3]), ([4], [4]), ([5], [5]), ([1, 6], [1, 6]), ([0, 1, 2, 3, 4, 5, 6, 7], []), ([8, 7, 7, 0, 1, 2, 3, 4, 5, 6, 7], [7, 8])])
def spec_l3Rule.B6 : List Nat := [0, 1, 0, 0, 12, 28, 60, 127, 255, 511]
theorem spec_l3Rule.tab6 : rtab .any (opsOf Try.f87 6) = spec_l3Rule.T6 := by kernel_rfl
theorem spec_l3Rule.bits6 : waitsOk spec_l3Rule.T6.2 spec_l3Rule.B6 = true := by kernel_rfl
def spec_l3Rule.T8 : Bool × List (List Nat × List Nat) := (true, [([], []), ([], []), ([1], [1]), ([0, 2], [0, 2]), ([], []), ([], []), ([], []), ([5, 6], [5, 6]), ([7], [7]), ([4, 8], [4, 8]), ([9], [9]), ([10], [10]), ([3, 11], [3, 11])])
def spec_l3Rule.B8 : List Nat := [0, 0, 2, 7, 0, 0, 0, 96, 224, 496, 1008, 2032, 4095]
theorem spec_l3Rule.tab8 : rtab .any (opsOf Try.f87 8) = spec_l3Rule.T8 := by kernel_rfl
theorem spec_l3Rule.bits8 : waitsOk spec_l3Rule.T8.2 spec_l3Rule.B8 = true := by kernel_rfl
def spec_l3Rule.T13 : Bool × List (List Nat × List Nat) := (true, [([], []), ([0], [0]), ([], []), ([], []), ([2, 3], [2, 3]), ([4], [4]), ([], []), ([5, 6], [5, 6]), ([7], [7]), ([1, 8], [1, 8]), ([0, 1, 2, 3, 4, 5, 6, 7, 8, 9], []), ([10, 9, 9, 0, 1, 2, 3, 4, 5, 6, 7, 8, 9], [9, 10])])
def spec_l3Rule.B13 : List Nat := [0, 1, 0, 0, 12, 28, 0, 124, 252, 511, 1023, 2047]
theorem spec_l3Rule.tab13 : rtab .any (opsOf Try.f87 13) = spec_l3Rule.T13 := by kernel_rfl
theorem spec_l3Rule.bits13 : waitsOk spec_l3Rule.T13.2 spec_l3Rule.B13 = true := by kernel_rfl
set_option maxHeartbeats 8000000 in
set_option maxRecDepth 100000 in
theorem spec_l3Rule.calls (k : Nat) (A0 : Option Addr) (c0 : Nat) (l0 : List (S59)) (r1 : List Int) (r2 : List Int) (r3 : List (S64)) (w : World) (hr0 : Kd.C k59 w A0 l0.length l0) (hc0 : l0.length ≤ c0) (h : spec_l3Rule.f k l0 = some (r1, r2, r3)) :
  Calls Try.prog 87 #[.slice A0 l0.length c0] w fun e w' => ∃ v0_ v1_ v2_ : Value, e = .returned (.agg #[v0_, v1_, v2_]) ∧ Kd.R (Kd.int .i64) 3 w' w.heap.size (fun k_ => some k_ ≠ (v1_ : Value).ownBlock) v0_ r1 ∧ Kd.R (Kd.int .i64) 3 w' w.heap.size (fun k_ => some k_ ≠ (v0_ : Value).ownBlock) v1_ r2 ∧ Kd.R k64 64 w' w.heap.size (fun _ => True) v2_ r3 ∧ Below w.heap.size w w' := by
 have hu84 := Try.underlying84
 have hu64 := Try.underlying64
 have HR0 := Aside0.mk hr0
 have HC0 := Aside0.mk hc0
 clear hr0 hc0
 have HB := Aside0.mk (Below.refl w.heap.size w)
 have H : ((spec_l3Order.f k l0 4).bind fun t216 => (spec_l3Rule.l0 k l0 t216 0 (([] : List Int)) (([] : List Int)) (([] : List (S64))))) = some (r1, r2, r3) := h
 clear h
 obtain ⟨y206, hy206⟩ : ∃ y_ : List Int, y_ = (([] : List Int)) := ⟨_, rfl⟩
 replace H : ((spec_l3Order.f k l0 4).bind fun t216 => (spec_l3Rule.l0 k l0 t216 0 y206 (([] : List Int)) (([] : List (S64))))) = some (r1, r2, r3) := by first | (rw [hy206]; with_reducible exact H) | (have H2_ := (Option.bind_some _ _).symm.trans H; rw [hy206]; with_reducible exact H2_) | (have H2_ := (Option.bind_some _ _).symm.trans H; with_reducible exact H2_) | with_reducible exact H | (rw [hy206]; exact H) | exact H
 have Ny206 := Aside0.mk hy206
 clear hy206
 obtain ⟨y209, hy209⟩ : ∃ y_ : List Int, y_ = (([] : List Int)) := ⟨_, rfl⟩
 replace H : ((spec_l3Order.f k l0 4).bind fun t216 => (spec_l3Rule.l0 k l0 t216 0 y206 y209 (([] : List (S64))))) = some (r1, r2, r3) := by first | (rw [hy209]; with_reducible exact H) | (have H2_ := (Option.bind_some _ _).symm.trans H; rw [hy209]; with_reducible exact H2_) | (have H2_ := (Option.bind_some _ _).symm.trans H; with_reducible exact H2_) | with_reducible exact H | (rw [hy209]; exact H) | exact H
 have Ny209 := Aside0.mk hy209
 clear hy209
 obtain ⟨y212, hy212⟩ : ∃ y_ : List (S64), y_ = (([] : List (S64))) := ⟨_, rfl⟩
 replace H : ((spec_l3Order.f k l0 4).bind fun t216 => (spec_l3Rule.l0 k l0 t216 0 y206 y209 y212)) = some (r1, r2, r3) := by first | (rw [hy212]; with_reducible exact H) | (have H2_ := (Option.bind_some _ _).symm.trans H; rw [hy212]; with_reducible exact H2_) | (have H2_ := (Option.bind_some _ _).symm.trans H; with_reducible exact H2_) | with_reducible exact H | (rw [hy212]; exact H) | exact H
 have Ny212 := Aside0.mk hy212
 clear hy212
 replace H := Option.bind_eq_some_iff.mp H
 obtain ⟨t216, A20, H⟩ := H
 replace H : (spec_l3Rule.l0 k l0 t216 0 y206 y209 y212) = some (r1, r2, r3) := H
 have A2 := Aside0.mk A20
 clear A20
 have H' := Aside0.mk H
 clear H
 go_enter Try.func87, Try.ntmps87
 go_wp2_with (first | ((with_reducible refine gate_dst (N := 2) rfl ?_); refine bE 2 #[.slice none 0 0, .slice none 0 0, .slice none 0 0] 84 ?_; intro gb205 hg w3 hbox hb; have n0_ := Aside0.mk (below_step bB hb); have n1_ := Aside0.mk (hbox); have n2_ := Aside0.mk ((by rw [hg]; exact (below_size bB) : w.heap.size ≤ gb205)); have n3_ := Aside0.mk ((by rw [hg]; exact (below_size bB) : w.heap.size ≤ gb205)); clear HB; have HB := n0_; have BK205 := n1_; have GW205 := n2_; have GE205 := n3_; clear n0_ n1_ n2_ n3_; clear hb hbox hg) | ((with_reducible refine gate_dst (N := 8) rfl ?_); refine Kd.R_lit (Kd.int .i64) _ 3 ?hg (N := 8) ?hd (xs := ([] : List Int)) (inner := []) (ok := fun _ => True) (okp := fun _ => True) ?hr ?hp (fun _ hk => hk) trivial (Below.refl _ _) (Nat.le_refl _) (by simp) ?_; (case hd => rfl); (case hg => rfl); (case hr => first | (go_simp; done) | (go_simp; rfl)); (case hp => exact (Reps.none _ _)); intro v207 w4 ho5 hb hg_ hnew_; clear hg_ hnew_; (first | rw [← Ny206.out] at ho5 | (simp only [Int.reduceToNat] at ho5; rw [← Ny206.out] at ho5)); have n0_ := Aside0.mk (Kd.R_lower ho5 (below_size bS)); have n1_ := Aside0.mk (blk_below (g := gb205) (o := .cells #[.slice none 0 0, .slice none 0 0, .slice none 0 0] 84 (0, 0)) (by (with_reducible repeat (first | refine blk_drewN ?_ _ | refine blk_drew ?_ | refine blk_alloc ?_ _)); exact BK205.out) hb); have n2_ := Aside0.mk (below_step bS hb); clear BK205; clear HB; have HO208 := n0_; have BK205 := n1_; have HB := n2_; clear n0_ n1_ n2_; clear hb ho5) | ((with_reducible refine gate_dst (N := 9) rfl ?_); refine Kd.R_lit (Kd.int .i64) _ 3 ?hg (N := 9) ?hd (xs := ([] : List Int)) (inner := []) (ok := fun _ => True) (okp := fun _ => True) ?hr ?hp (fun _ hk => hk) trivial (Below.refl _ _) (Nat.le_refl _) (by simp) ?_; (case hd => rfl); (case hg => rfl); (case hr => first | (go_simp; done) | (go_simp; rfl)); (case hp => exact (Reps.none _ _)); intro v210 w6 ho7 hb hg_ hnew_; clear hg_ hnew_; (first | rw [← Ny209.out] at ho7 | (simp only [Int.reduceToNat] at ho7; rw [← Ny209.out] at ho7)); have n0_ := Aside0.mk (Kd.R_elder' (by (with_reducible repeat (first | apply Kd.R_alloc | apply Kd.R_drewN | apply Kd.R_drew)); exact HO208.out) (Kd.R_base ho7) hb); have n1_ := Aside0.mk (Kd.R_lower (Kd.R_new' ho7 (Kd.R_lt (by (with_reducible repeat (first | apply Kd.R_alloc | apply Kd.R_drewN | apply Kd.R_drew)); exact HO208.out))) (below_size bS)); have n2_ := Aside0.mk (blk_below (g := gb205) (o := .cells #[.slice none 0 0, .slice none 0 0, .slice none 0 0] 84 (0, 0)) (by (with_reducible repeat (first | refine blk_drewN ?_ _ | refine blk_drew ?_ | refine blk_alloc ?_ _)); exact BK205.out) hb); have n3_ := Aside0.mk (below_step bS hb); clear HO208; clear BK205; clear HB; have HO208 := n0_; have HO211 := n1_; have BK205 := n2_; have HB := n3_; clear n0_ n1_ n2_ n3_; clear hb ho7) | ((with_reducible refine gate_dst (N := 10) rfl ?_); refine Kd.R_lit k64 _ 64 ?hg (N := 10) ?hd (xs := ([] : List (S64))) (inner := []) (ok := fun _ => True) (okp := fun _ => True) ?hr ?hp (fun _ hk => hk) trivial (Below.refl _ _) (Nat.le_refl _) (by simp) ?_; (case hd => rfl); (case hg => rfl); (case hr => first | (go_simp; done) | (go_simp; rfl)); (case hp => exact (Reps.none _ _)); intro v213 w8 ho9 hb hg_ hnew_; clear hg_ hnew_; (first | rw [← Ny212.out] at ho9 | (simp only [Int.reduceToNat] at ho9; rw [← Ny212.out] at ho9)); have n0_ := Aside0.mk (Kd.R_below (by (with_reducible repeat (first | apply Kd.R_alloc | apply Kd.R_drewN | apply Kd.R_drew)); exact HO208.out) hb); have n1_ := Aside0.mk (Kd.R_below (by (with_reducible repeat (first | apply Kd.R_alloc | apply Kd.R_drewN | apply Kd.R_drew)); exact HO211.out) hb); have n2_ := Aside0.mk (Kd.R_lower ho9 (below_size bS)); have n3_ := Aside0.mk (blk_below (g := gb205) (o := .cells #[.slice none 0 0, .slice none 0 0, .slice none 0 0] 84 (0, 0)) (by (with_reducible repeat (first | refine blk_drewN ?_ _ | refine blk_drew ?_ | refine blk_alloc ?_ _)); exact BK205.out) hb); have n4_ := Aside0.mk (below_step bS hb); clear HO208; clear HO211; clear BK205; clear HB; have HO208 := n0_; have HO211 := n1_; have HO214 := n2_; have BK205 := n3_; have HB := n4_; clear n0_ n1_ n2_ n3_ n4_; clear hb ho9; obtain ⟨Ao10, co10, eo10⟩ := Kd.R_slice HO214.out; subst eo10; obtain ⟨Ao11, co11, eo11⟩ := Kd.R_slice HO211.out; subst eo11; obtain ⟨Ao12, co12, eo12⟩ := Kd.R_slice HO208.out; subst eo12) | ((with_reducible refine gate_dst (N := 3) rfl ?_); refine bE 3 #[.slice none 0 0, .slice none 0 0, .slice none 0 0] 84 ?_; intro gb215 hg w13 hbox hb; have n0_ := Aside0.mk (Kd.R_below (by (with_reducible repeat (first | apply Kd.R_alloc | apply Kd.R_drewN | apply Kd.R_drew)); exact HO208.out) hb); have n1_ := Aside0.mk (Kd.R_below (by (with_reducible repeat (first | apply Kd.R_alloc | apply Kd.R_drewN | apply Kd.R_drew)); exact HO211.out) hb); have n2_ := Aside0.mk (Kd.R_below (by (with_reducible repeat (first | apply Kd.R_alloc | apply Kd.R_drewN | apply Kd.R_drew)); exact HO214.out) hb); have n3_ := Aside0.mk (blk_below (g := gb205) (o := .cells #[.slice none 0 0, .slice none 0 0, .slice none 0 0] 84 (0, 0)) (by (with_reducible repeat (first | refine blk_drewN ?_ _ | refine blk_drew ?_ | refine blk_alloc ?_ _)); exact BK205.out) hb); have n4_ := Aside0.mk (below_step bS hb); have n5_ := Aside0.mk (hbox); have n6_ := Aside0.mk ((by rw [hg]; exact (below_size bS) : w.heap.size ≤ gb215)); have n7_ := Aside0.mk ((by rw [hg]; exact (below_size bS) : w.heap.size ≤ gb215)); have n8_ := Aside0.mk ((by rw [hg]; exact Nat.ne_of_lt (blk_lt (g := gb205) (o := .cells #[.slice none 0 0, .slice none 0 0, .slice none 0 0] 84 (0, 0)) (by (with_reducible repeat (first | refine blk_drewN ?_ _ | refine blk_drew ?_ | refine blk_alloc ?_ _)); exact BK205.out)) : gb205 ≠ gb215)); have n9_ := Aside0.mk ((by rw [hg]; exact Nat.ne_of_gt (blk_lt (g := gb205) (o := .cells #[.slice none 0 0, .slice none 0 0, .slice none 0 0] 84 (0, 0)) (by (with_reducible repeat (first | refine blk_drewN ?_ _ | refine blk_drew ?_ | refine blk_alloc ?_ _)); exact BK205.out)) : gb215 ≠ gb205)); clear HO208; clear HO211; clear HO214; clear BK205; clear HB; have HO208 := n0_; have HO211 := n1_; have HO214 := n2_; have BK205 := n3_; have HB := n4_; have BK215 := n5_; have GW215 := n6_; have GE215 := n7_; have NB205_215 := n8_; have NB215_205 := n9_; clear n0_ n1_ n2_ n3_ n4_ n5_ n6_ n7_ n8_ n9_; clear hb hbox hg; have hnb14 := NB215_205.out; have hnc14 := NB205_215.out; have hcz15_0 : w13.cell? ⟨gb215, 0, none⟩ = some (.slice none 0 0) := (blk_cell BK215.out 0).trans rfl; have hcz15_1 : w13.cell? ⟨gb215, 1, none⟩ = some (.slice none 0 0) := (blk_cell BK215.out 1).trans rfl; have hcz15_2 : w13.cell? ⟨gb215, 2, none⟩ = some (.slice none 0 0) := (blk_cell BK215.out 2).trans rfl; have hfz15_0 := blk_frozen BK215.out 0; have hfz15_1 := blk_frozen BK215.out 1; have hfz15_2 := blk_frozen BK215.out 2) | ((with_reducible refine gate_callee (f := 118) rfl ?_); refine goesL_ (some 13) rfl rfl Try.func118 (by kernel_rfl) rfl #[.slice A0 l0.length c0, .int .i64 4] rfl aE ?_; (with_reducible refine (spec_l3Order.calls k _ _ l0 4 t216 _ ?side1 ?side2 A2.out).mono ?_); (case side1 => exact Kd.C_below HR0.out bS); (case side2 => exact HC0.out); rintro e w16 ⟨v217, rfl, ho0, hb⟩; refine ⟨_, rfl, ?_⟩; have n0_ := Aside0.mk (Kd.R_elder' (by (with_reducible repeat (first | apply Kd.R_alloc | apply Kd.R_drewN | apply Kd.R_drew)); exact (Kd.R_mono (Kd.R_far (p := ⟨gb215, 2, none⟩) (Kd.R_far (p := ⟨gb215, 1, none⟩) (Kd.R_far (p := ⟨gb215, 0, none⟩) (Kd.R_types HO208.out BK215.out (by decide)) (fun _ hk => hk.2) (.slice Ao12 y206.length co12)) (fun _ hk => hk.2) (.slice Ao11 y209.length co11)) (fun _ hk => hk.2) (.slice Ao10 y212.length co10)) (fun _ h_ => h_.1))) (Kd.R_base ho0) hb); have n1_ := Aside0.mk (Kd.R_elder' (by (with_reducible repeat (first | apply Kd.R_alloc | apply Kd.R_drewN | apply Kd.R_drew)); exact (Kd.R_mono (Kd.R_far (p := ⟨gb215, 2, none⟩) (Kd.R_far (p := ⟨gb215, 1, none⟩) (Kd.R_far (p := ⟨gb215, 0, none⟩) (Kd.R_types HO211.out BK215.out (by decide)) (fun _ hk => hk.2) (.slice Ao12 y206.length co12)) (fun _ hk => hk.2) (.slice Ao11 y209.length co11)) (fun _ hk => hk.2) (.slice Ao10 y212.length co10)) (fun _ h_ => h_.1))) (Kd.R_base ho0) hb); have n2_ := Aside0.mk (Kd.R_below (by (with_reducible repeat (first | apply Kd.R_alloc | apply Kd.R_drewN | apply Kd.R_drew)); exact (Kd.R_mono (Kd.R_far (p := ⟨gb215, 2, none⟩) (Kd.R_far (p := ⟨gb215, 1, none⟩) (Kd.R_far (p := ⟨gb215, 0, none⟩) (Kd.R_types HO214.out BK215.out (by decide)) (fun _ hk => hk.2) (.slice Ao12 y206.length co12)) (fun _ hk => hk.2) (.slice Ao11 y209.length co11)) (fun _ hk => hk.2) (.slice Ao10 y212.length co10)) (fun _ h_ => h_.1))) hb); have n3_ := Aside0.mk (Kd.R_lower (Kd.R_new' (Kd.R_new' ho0 (Kd.R_lt (by (with_reducible repeat (first | apply Kd.R_alloc | apply Kd.R_drewN | apply Kd.R_drew)); exact (Kd.R_mono (Kd.R_far (p := ⟨gb215, 2, none⟩) (Kd.R_far (p := ⟨gb215, 1, none⟩) (Kd.R_far (p := ⟨gb215, 0, none⟩) (Kd.R_types HO208.out BK215.out (by decide)) (fun _ hk => hk.2) (.slice Ao12 y206.length co12)) (fun _ hk => hk.2) (.slice Ao11 y209.length co11)) (fun _ hk => hk.2) (.slice Ao10 y212.length co10)) (fun _ h_ => h_.1))))) (Kd.R_lt (by (with_reducible repeat (first | apply Kd.R_alloc | apply Kd.R_drewN | apply Kd.R_drew)); exact (Kd.R_mono (Kd.R_far (p := ⟨gb215, 2, none⟩) (Kd.R_far (p := ⟨gb215, 1, none⟩) (Kd.R_far (p := ⟨gb215, 0, none⟩) (Kd.R_types HO211.out BK215.out (by decide)) (fun _ hk => hk.2) (.slice Ao12 y206.length co12)) (fun _ hk => hk.2) (.slice Ao11 y209.length co11)) (fun _ hk => hk.2) (.slice Ao10 y212.length co10)) (fun _ h_ => h_.1))))) (below_size bS)); have n4_ := Aside0.mk (blk_below (g := gb205) (o := .cells #[.slice none 0 0, .slice none 0 0, .slice none 0 0] 84 (0, 0)) (by (with_reducible repeat (first | refine blk_drewN ?_ _ | refine blk_drew ?_ | refine blk_alloc ?_ _)); refine blk_far ?_ NB205_215.out _; (with_reducible repeat (first | refine blk_drewN ?_ _ | refine blk_drew ?_ | refine blk_alloc ?_ _)); refine blk_far ?_ NB205_215.out _; (with_reducible repeat (first | refine blk_drewN ?_ _ | refine blk_drew ?_ | refine blk_alloc ?_ _)); refine blk_far ?_ NB205_215.out _; (with_reducible repeat (first | refine blk_drewN ?_ _ | refine blk_drew ?_ | refine blk_alloc ?_ _)); exact BK205.out) hb); have n5_ := Aside0.mk (blk_below (g := gb215) (o := .cells #[.slice Ao12 y206.length co12, .slice Ao11 y209.length co11, .slice Ao10 y212.length co10] 84 (0, 0)) (by (with_reducible repeat (first | refine blk_drewN ?_ _ | refine blk_drew ?_ | refine blk_alloc ?_ _)); refine blk_put (cs := #[.slice Ao12 y206.length co12, .slice Ao11 y209.length co11, .slice none 0 0]) ?_ 2 _ rfl; (with_reducible repeat (first | refine blk_drewN ?_ _ | refine blk_drew ?_ | refine blk_alloc ?_ _)); refine blk_put (cs := #[.slice Ao12 y206.length co12, .slice none 0 0, .slice none 0 0]) ?_ 1 _ rfl; (with_reducible repeat (first | refine blk_drewN ?_ _ | refine blk_drew ?_ | refine blk_alloc ?_ _)); refine blk_put (cs := #[.slice none 0 0, .slice none 0 0, .slice none 0 0]) ?_ 0 _ rfl; (with_reducible repeat (first | refine blk_drewN ?_ _ | refine blk_drew ?_ | refine blk_alloc ?_ _)); exact BK215.out) hb); have n6_ := Aside0.mk (below_step bS hb); clear HO208; clear HO211; clear HO214; clear BK205; clear BK215; clear HB; have HO208 := n0_; have HO211 := n1_; have HO214 := n2_; have HO218 := n3_; have BK205 := n4_; have BK215 := n5_; have HB := n6_; clear n0_ n1_ n2_ n3_ n4_ n5_ n6_; (try clear hb); (try clear hb2); (try clear hk); (try clear hi); (try clear ho0)))
 go_loopg [5] k (fun kq v5 w' => ∃ (x5_1 : Int) (x216000_1 : List Int) (x216001_1 : List Int) (x216002_1 : List (S64)) (u216000 : Value) (u216001 : Value) (u216002 : Value), v5 = .int .i64 x5_1 ∧ Aside0 (spec_l3Rule.l0 kq l0 t216 x5_1 x216000_1 x216001_1 x216002_1 = some (r1, r2, r3)) ∧ Aside0 (kq ≤ k) ∧ Aside0 (Kd.R (Kd.int .i64) 3 w' w.heap.size (fun k_ => some k_ ≠ (u216000 : Value).ownBlock ∧ some k_ ≠ (u216001 : Value).ownBlock) v217 t216) ∧ Aside0 (Kd.R (Kd.int .i64) 3 w' w.heap.size (fun k_ => some k_ ≠ (v217 : Value).ownBlock ∧ some k_ ≠ (u216001 : Value).ownBlock) u216000 x216000_1) ∧ Aside0 (Kd.R (Kd.int .i64) 3 w' w.heap.size (fun k_ => some k_ ≠ (v217 : Value).ownBlock ∧ some k_ ≠ (u216000 : Value).ownBlock) u216001 x216001_1) ∧ Aside0 (Kd.R k64 64 w' w.heap.size (fun _ => True) u216002 x216002_1) ∧ Aside0 (w'.heap[gb205]? = some (.cells #[(.slice none 0 0), (.slice none 0 0), (.slice none 0 0)] 84 (0, 0))) ∧ Aside0 (w'.heap[gb215]? = some (.cells #[u216000, u216001, u216002] 84 (0, 0))) ∧ Aside0 (Below w.heap.size w w'))
 case atStart => exact ⟨(0), (y206), (y209), (y212), (.slice Ao12 y206.length co12), (.slice Ao11 y209.length co11), (.slice Ao10 y212.length co10), sD, H', ⟨Nat.le_refl _⟩, ⟨by (with_reducible repeat (first | apply Kd.R_alloc | apply Kd.R_drewN | apply Kd.R_drew)); exact Kd.R_mono HO218.out (fun _ hk => ⟨hk.1.2, hk.2⟩)⟩, ⟨by (with_reducible repeat (first | apply Kd.R_alloc | apply Kd.R_drewN | apply Kd.R_drew)); exact Kd.R_mono HO208.out (fun _ hk => ⟨hk.2, hk.1.2⟩)⟩, ⟨by (with_reducible repeat (first | apply Kd.R_alloc | apply Kd.R_drewN | apply Kd.R_drew)); exact Kd.R_mono HO211.out (fun _ hk => ⟨hk.2, hk.1.2⟩)⟩, ⟨kR⟩, ⟨kB⟩, ⟨kB⟩, ⟨by repeat (first | (with_reducible first | exact HB.out | apply below_alloc | apply pw_below_drewN | apply below_drew1 | refine below_set ?_ GE205.out | refine below_set ?_ GE215.out) | exact HB.out)⟩⟩
 case round =>
  clear H'
  try clear c1
  try clear p2
  try clear c8
  try clear c11
  try clear c14
  try clear hcz15_0
  try clear hcz15_1
  try clear hcz15_2
  try clear hfz15_0
  try clear hfz15_1
  try clear hfz15_2
  obtain ⟨x5_1, x216000_1, x216001_1, x216002_1, u216000, u216001, u216002, rfl, HA, HK1, HO_4, HO_216000, HO_216001, HO_216002, BK205, BK215, HB⟩ := hrel
  cases gk with
  | zero => exact absurd HA.out (by simp [spec_l3Rule.l0])
  | succ k1 =>
   have H := HA.out
   clear HA
   simp only [spec_l3Rule.l0] at H
   by_cases c17 : x5_1 < (t216.length : Int)
   ·rw [if_pos c17] at H
    have c17b0 : decide (x5_1 < (t216.length : Int)) = true := decide_eq_true c17
    clear c17
    by_cases c18 : 0 ≤ x5_1; rotate_left
    ·rw [if_neg c18] at H; exact absurd H (by simp)
    rw [if_pos c18] at H
    have c18b0 : decide (0 ≤ x5_1) = true := decide_eq_true c18
    clear c18
    by_cases c19 : x216000_1.length < 17592186044416; rotate_left
    ·rw [if_neg c19] at H; exact absurd H (by simp)
    rw [if_pos c19] at H
    have LMc19 := Aside0.mk c19
    clear c19
    obtain ⟨y220, hy220⟩ : ∃ y_ : List Int, y_ = (x216000_1 ++ [rd t216 x5_1]) := ⟨_, rfl⟩
    replace H : ((spec_l3Total.f k1 l0 y220).bind fun t223 => (if 0 ≤ (rd t216 x5_1) then (if (rd t216 x5_1) < (l0.length : Int) then (if t223 > ((rd_T59 l0 (rd t216 x5_1)).f3) then ((spec_l3Longest.f k1 l0 y220).bind fun t226 => (if 0 ≤ t226 then (if t226 < (y220.length : Int) then ((spec_l3Without.f y220 t226).bind fun t228 => (if x216001_1.length < 17592186044416 then (if x216002_1.length < 8796093022208 then (spec_l3Rule.l0 k1 l0 t216 (wrap64 (x5_1 + 1)) t228 (x216001_1 ++ [rd y220 t226]) (x216002_1 ++ [(⟨rd t216 x5_1, rd y220 t226⟩ : S64)])) else (none)) else (none))) else (none)) else (none))) else (if x216002_1.length < 8796093022208 then (spec_l3Rule.l0 k1 l0 t216 (wrap64 (x5_1 + 1)) y220 x216001_1 (x216002_1 ++ [(⟨rd t216 x5_1, (-1)⟩ : S64)])) else (none))) else (none)) else (none))) = some (r1, r2, r3) := by first | (rw [hy220]; with_reducible exact H) | (have H2_ := (Option.bind_some _ _).symm.trans H; rw [hy220]; with_reducible exact H2_) | (have H2_ := (Option.bind_some _ _).symm.trans H; with_reducible exact H2_) | with_reducible exact H | (rw [hy220]; exact H) | exact H
    have Ny220 := Aside0.mk hy220
    clear hy220
    replace H := Option.bind_eq_some_iff.mp H
    obtain ⟨t223, A200, H⟩ := H
    replace H : (if 0 ≤ (rd t216 x5_1) then (if (rd t216 x5_1) < (l0.length : Int) then (if t223 > ((rd_T59 l0 (rd t216 x5_1)).f3) then ((spec_l3Longest.f k1 l0 y220).bind fun t226 => (if 0 ≤ t226 then (if t226 < (y220.length : Int) then ((spec_l3Without.f y220 t226).bind fun t228 => (if x216001_1.length < 17592186044416 then (if x216002_1.length < 8796093022208 then (spec_l3Rule.l0 k1 l0 t216 (wrap64 (x5_1 + 1)) t228 (x216001_1 ++ [rd y220 t226]) (x216002_1 ++ [(⟨rd t216 x5_1, rd y220 t226⟩ : S64)])) else (none)) else (none))) else (none)) else (none))) else (if x216002_1.length < 8796093022208 then (spec_l3Rule.l0 k1 l0 t216 (wrap64 (x5_1 + 1)) y220 x216001_1 (x216002_1 ++ [(⟨rd t216 x5_1, (-1)⟩ : S64)])) else (none))) else (none)) else (none)) = some (r1, r2, r3) := H
    have A20 := Aside0.mk A200
    clear A200
    by_cases c21 : 0 ≤ (rd t216 x5_1); rotate_left
    ·rw [if_neg c21] at H; exact absurd H (by simp)
    rw [if_pos c21] at H
    have c21b0 : decide (0 ≤ (rd t216 x5_1)) = true := decide_eq_true c21
    clear c21
    by_cases c22 : (rd t216 x5_1) < (l0.length : Int); rotate_left
    ·rw [if_neg c22] at H; exact absurd H (by simp)
    rw [if_pos c22] at H
    have c22b0 : decide ((rd t216 x5_1) < (l0.length : Int)) = true := decide_eq_true c22
    clear c22
    by_cases c23 : t223 > ((rd_T59 l0 (rd t216 x5_1)).f3)
    ·rw [if_pos c23] at H
     have c23b0 : decide (((rd_T59 l0 (rd t216 x5_1)).f3) < t223) = true := decide_eq_true c23
     clear c23
     replace H := Option.bind_eq_some_iff.mp H
     obtain ⟨t226, A240, H⟩ := H
     replace H : (if 0 ≤ t226 then (if t226 < (y220.length : Int) then ((spec_l3Without.f y220 t226).bind fun t228 => (if x216001_1.length < 17592186044416 then (if x216002_1.length < 8796093022208 then (spec_l3Rule.l0 k1 l0 t216 (wrap64 (x5_1 + 1)) t228 (x216001_1 ++ [rd y220 t226]) (x216002_1 ++ [(⟨rd t216 x5_1, rd y220 t226⟩ : S64)])) else (none)) else (none))) else (none)) else (none)) = some (r1, r2, r3) := H
     have A24 := Aside0.mk A240
     clear A240
     by_cases c25 : 0 ≤ t226; rotate_left
     ·rw [if_neg c25] at H; exact absurd H (by simp)
     rw [if_pos c25] at H
     have c25b0 : decide (0 ≤ t226) = true := decide_eq_true c25
     clear c25
     by_cases c26 : t226 < (y220.length : Int); rotate_left
     ·rw [if_neg c26] at H; exact absurd H (by simp)
     rw [if_pos c26] at H
     have c26b0 : decide (t226 < (y220.length : Int)) = true := decide_eq_true c26
     clear c26
     replace H := Option.bind_eq_some_iff.mp H
     obtain ⟨t228, A270, H⟩ := H
     replace H : (if x216001_1.length < 17592186044416 then (if x216002_1.length < 8796093022208 then (spec_l3Rule.l0 k1 l0 t216 (wrap64 (x5_1 + 1)) t228 (x216001_1 ++ [rd y220 t226]) (x216002_1 ++ [(⟨rd t216 x5_1, rd y220 t226⟩ : S64)])) else (none)) else (none)) = some (r1, r2, r3) := H
     have A27 := Aside0.mk A270
     clear A270
     by_cases c28 : x216001_1.length < 17592186044416; rotate_left
     ·rw [if_neg c28] at H; exact absurd H (by simp)
     rw [if_pos c28] at H
     have LMc28 := Aside0.mk c28
     clear c28
     obtain ⟨y231, hy231⟩ : ∃ y_ : List Int, y_ = (x216001_1 ++ [rd y220 t226]) := ⟨_, rfl⟩
     replace H : (if x216002_1.length < 8796093022208 then (spec_l3Rule.l0 k1 l0 t216 (wrap64 (x5_1 + 1)) t228 y231 (x216002_1 ++ [(⟨rd t216 x5_1, rd y220 t226⟩ : S64)])) else (none)) = some (r1, r2, r3) := by first | (rw [hy231]; with_reducible exact H) | (have H2_ := (Option.bind_some _ _).symm.trans H; rw [hy231]; with_reducible exact H2_) | (have H2_ := (Option.bind_some _ _).symm.trans H; with_reducible exact H2_) | with_reducible exact H | (rw [hy231]; exact H) | exact H
     have Ny231 := Aside0.mk hy231
     clear hy231
     by_cases c29 : x216002_1.length < 8796093022208; rotate_left
     ·rw [if_neg c29] at H; exact absurd H (by simp)
     rw [if_pos c29] at H
     have LMc29 := Aside0.mk c29
     clear c29
     obtain ⟨y235, hy235⟩ : ∃ y_ : List (S64), y_ = (x216002_1 ++ [(⟨rd t216 x5_1, rd y220 t226⟩ : S64)]) := ⟨_, rfl⟩
     replace H : (spec_l3Rule.l0 k1 l0 t216 (wrap64 (x5_1 + 1)) t228 y231 y235) = some (r1, r2, r3) := by first | (rw [hy235]; with_reducible exact H) | (have H2_ := (Option.bind_some _ _).symm.trans H; rw [hy235]; with_reducible exact H2_) | (have H2_ := (Option.bind_some _ _).symm.trans H; with_reducible exact H2_) | with_reducible exact H | (rw [hy235]; exact H) | exact H
     have Ny235 := Aside0.mk hy235
     clear hy235
     have H' := Aside0.mk H
     clear H
     obtain ⟨Ao30, co30, eo30⟩ := Kd.R_slice HO_4.out
     subst eo30
     try go_wp2
     have n0_ := Aside0.mk (Kd.R_drew HO_4.out)
     have n1_ := Aside0.mk (Kd.R_drew HO_216000.out)
     have n2_ := Aside0.mk (Kd.R_drew HO_216001.out)
     have n3_ := Aside0.mk (Kd.R_drew HO_216002.out)
     have n4_ := Aside0.mk (blk_drew BK205.out)
     have n5_ := Aside0.mk (blk_drew BK215.out)
     have n6_ := Aside0.mk (below_drew1 HB.out)
     clear HO_4
     clear HO_216000
     clear HO_216001
     clear HO_216002
     clear BK205
     clear BK215
     clear HB
     have HO_4 := n0_
     have HO_216000 := n1_
     have HO_216001 := n2_
     have HO_216002 := n3_
     have BK205 := n4_
     have BK215 := n5_
     have HB := n6_
     clear n0_ n1_ n2_ n3_ n4_ n5_ n6_
     have p219 : 0 ≤ (x5_1 : Int) := oD
     have q219 : x5_1 < (t216.length : Int) := oD
     obtain ⟨ad219, e219, hx219_0⟩ := Kd.at_int (Kd.R_reads' HO_4.out).2.2 x5_1 p219 q219
     cases e219
     replace p219 := eq_true p219
     replace q219 := eq_true q219
     refine start_ (n := 10) (S := fun w' => w'.cell? ⟨gb215, 0, none⟩ = some (u216000) ∧ w'.cell? ⟨gb215, 1, none⟩ = some (u216001) ∧ w'.cell? ⟨gb215, 2, none⟩ = some (u216002) ∧ w'.cell? (ad219.add (x5_1).toNat) = some (.int .i64 (rd t216 x5_1))) (ds := [7, 9]) #[false, false, false, false, false, false, false, false, false, false] (by kernel_rfl) rfl rfl ⟨(blk_cell BK215.out 0).trans rfl, (blk_cell BK215.out 1).trans rfl, (blk_cell BK215.out 2).trans rfl, hx219_0⟩ (fun hHeld => ?_); refine with_tabW spec_l3Rule.tab6 spec_l3Rule.bits6 (fun HT_ HW_ => ?_)
     generalize wr.drew = w31 at HO_4 HO_216000 HO_216001 HO_216002 BK205 BK215 HB hx219_0 hHeld ⊢
     refine pU 0 20 #[true, false, false, false, false, false, false, false, false, false] ?_
     refine pU 2 22 #[true, false, true, false, false, false, false, false, false, false] ?_
     refine pU 3 23 #[true, false, true, true, false, false, false, false, false, false] ?_
     refine pU 4 24 #[true, false, true, true, true, false, false, false, false, false] ?_
     refine tU 1 21 #[true, true, true, true, true, false, false, false, false, false] ?_
     refine tU 5 25 #[true, true, true, true, true, true, false, false, false, false] ?_
     refine one_ (i := 6) (N := some 26) #[true, true, true, true, true, true, true, false, false, false] rfl rfl (one_of HT_.out (by kernel_rfl)) (by decide) (fun K hK => ?_)
     refine value_ (w1 := ?_) (v := ?_) (by rfl) rfl ?_ ?_
     rotate_left 2
     ·go_simp
      constructor
      ·rfl
      ·rfl
     refine hK.out _ _ ⟨(blk_cell (blk_alloc BK215.out _) 0).trans rfl, (blk_cell (blk_alloc BK215.out _) 1).trans rfl, (blk_cell (blk_alloc BK215.out _) 2).trans rfl, (World.cell?_alloc_lt _ _ _ (World.block_lt_of_cell? _ _ (hHeld.2.2.2))).trans (hHeld.2.2.2)⟩ (fun hHeld => ?_)
     clear hK K
     refine norm_ (a' := ?_) ?_ ?_
     rotate_left
     ·show Act.put _ (some 26) _ = _
      simp only [Act.put, sA, sZ, sS, i64_w, i32_w]
      rfl
     refine last_ (i := 7) (N := some 27) #[true, true, true, true, true, true, true, true, false, false] rfl rfl (one_of HT_.out (by kernel_rfl)) (by decide) (fun K hK => ?_)
     refine Kd.R_append_step (Kd.int .i64) (w0 := w) w.heap.size (by rfl) (.tmp 21) (.tmp 26) 37 3 (.int .i64 0) 8 rfl Try.underlying37 info3 rfl (by decide) (by omega) u216000 x216000_1 (rd t216 x5_1) [.int .i64 (rd t216 x5_1)] (fun k_ => some k_ ≠ (.slice (some ad219) t216.length co30 : Value).ownBlock ∧ some k_ ≠ (u216001 : Value).ownBlock) (fun _ => False) rfl rfl ?aP (fun _ hk => hk.elim) ?aF ?aO ?aB ?aS ?aL ?_
     (case aP => exact rfl)
     (case aB => exact bS)
     (case aF => exact (fun k_ hk => ⟨Kd.fresh' (Kd.R_lt (by (with_reducible repeat (first | apply Kd.R_alloc | apply Kd.R_drewN | apply Kd.R_drew)); exact HO_4.out)) k_ hk, Kd.fresh' (Kd.R_lt (by (with_reducible repeat (first | apply Kd.R_alloc | apply Kd.R_drewN | apply Kd.R_drew)); exact HO_216001.out)) k_ hk⟩))
     (case aO => exact (by (with_reducible repeat (first | apply Kd.R_alloc | apply Kd.R_drewN | apply Kd.R_drew)); exact HO_216000.out))
     (case aS => exact (below_size bS))
     (case aL => have := LMc19.out; omega)
     intro v221 w32 ho hb hg hat
     rw [← Ny220.out] at ho
     have n0_ := Aside0.mk (Kd.R_after (ok := (fun k_ => some k_ ≠ (u216001 : Value).ownBlock)) (by (with_reducible repeat (first | apply Kd.R_alloc | apply Kd.R_drewN | apply Kd.R_drew)); exact Kd.R_mono HO_4.out (fun _ hk => ⟨hk.2, hk.1⟩)) hg hat)
     have n1_ := Aside0.mk (Kd.R_after (ok := (fun k_ => some k_ ≠ (.slice (some ad219) t216.length co30 : Value).ownBlock)) (by (with_reducible repeat (first | apply Kd.R_alloc | apply Kd.R_drewN | apply Kd.R_drew)); exact HO_216001.out) hg hat)
     have n2_ := Aside0.mk (Kd.R_over' (by (with_reducible repeat (first | apply Kd.R_alloc | apply Kd.R_drewN | apply Kd.R_drew)); exact HO_216002.out) (Kd.R_typed (by (with_reducible repeat (first | apply Kd.R_alloc | apply Kd.R_drewN | apply Kd.R_drew)); exact HO_216000.out)) (by decide) hg)
     have n3_ := Aside0.mk (blk_grown (g := gb205) (o := .cells #[.slice none 0 0, .slice none 0 0, .slice none 0 0] 84 (0, 0)) (by (with_reducible repeat (first | refine blk_drewN ?_ _ | refine blk_drew ?_ | refine blk_alloc ?_ _)); exact BK205.out) hg (Kd.R_ne HO_216000.out BK205.out (by decide)))
     have n4_ := Aside0.mk (blk_grown (g := gb215) (o := .cells #[u216000, u216001, u216002] 84 (0, 0)) (by (with_reducible repeat (first | refine blk_drewN ?_ _ | refine blk_drew ?_ | refine blk_alloc ?_ _)); exact BK215.out) hg (Kd.R_ne HO_216000.out BK215.out (by decide)))
     have n5_ := Aside0.mk (hb)
     have n6_ := Aside0.mk (ho)
     clear HO_4
     clear HO_216001
     clear HO_216002
     clear BK205
     clear BK215
     clear HB
     clear HO_216000
     have HO_4 := n0_
     have HO_216001 := n1_
     have HO_216002 := n2_
     have BK205 := n3_
     have BK215 := n4_
     have HB := n5_
     have HO222 := n6_
     clear n0_ n1_ n2_ n3_ n4_ n5_ n6_
     clear ho hb hg hat
     obtain ⟨Ao33, co33, eo33⟩ := Kd.R_slice HO222.out
     (first | subst eo33 | (injection eo33 with f1_ f2_ f3_; have f4_ := f1_.symm; have f5_ := f3_.symm; clear f1_ f2_ f3_; subst f4_; subst f5_))
     refine hK.out _ _ ?_
     clear hK K
     refine norm_ (a' := ?_) ?_ ?_
     rotate_left
     ·show Act.put _ (some 27) _ = _
      simp only [Act.put, sA, sZ, sS, i64_w, i32_w]
      rfl
     refine pU 8 28 #[true, true, true, true, true, true, true, true, true, false] ?_
     refine last_ (i := 9) (N := none) #[true, true, true, true, true, true, true, true, true, true] rfl rfl (one_of HT_.out (by kernel_rfl)) (by decide) (fun K hK => ?_)
     have hs34 : w32.cell? ⟨gb215, 0, none⟩ = some (u216000) := (blk_cell BK215.out 0).trans rfl
     have hfs34 := blk_frozen BK215.out 0
     have hns34_0 := NB205_215.out
     have hms34_0 := NB215_205.out
     refine skip_ (w1 := ?_) (by rfl) rfl ?_ ?_
     rotate_left
     ·go_simp
      rfl
     refine hK.out _ _ ?_
     clear hK K
     refine done_ (done_of HT_.out (by kernel_rfl)) ?_
     try go_wp2
     have n0_ : Aside0 (Kd.R (Kd.int .i64) 3 (w32.setCell ⟨gb215, 0, none⟩ (.slice Ao33 y220.length co33)) w.heap.size (fun k_ => some k_ ≠ (u216001 : Value).ownBlock ∧ some k_ ≠ (.slice Ao33 y220.length co33 : Value).ownBlock) (.slice (some ad219) t216.length co30) t216) := ⟨by exact Kd.R_mono (Kd.R_far (p := ⟨gb215, 0, none⟩) (Kd.R_types HO_4.out BK215.out (by decide)) (fun _ hk => hk.2) (.slice Ao33 y220.length co33)) (fun _ hk => ⟨hk.1.1, hk.1.2⟩)⟩
     have n1_ : Aside0 (Kd.R (Kd.int .i64) 3 (w32.setCell ⟨gb215, 0, none⟩ (.slice Ao33 y220.length co33)) w.heap.size (fun k_ => some k_ ≠ (.slice (some ad219) t216.length co30 : Value).ownBlock ∧ some k_ ≠ (.slice Ao33 y220.length co33 : Value).ownBlock) u216001 x216001_1) := ⟨by exact Kd.R_mono (Kd.R_far (p := ⟨gb215, 0, none⟩) (Kd.R_types HO_216001.out BK215.out (by decide)) (fun _ hk => hk.2) (.slice Ao33 y220.length co33)) (fun _ hk => ⟨hk.1.1, hk.1.2⟩)⟩
     have n2_ : Aside0 (Kd.R k64 64 (w32.setCell ⟨gb215, 0, none⟩ (.slice Ao33 y220.length co33)) w.heap.size (fun _ => True) u216002 x216002_1) := ⟨by exact Kd.R_mono (Kd.R_far (p := ⟨gb215, 0, none⟩) (Kd.R_types HO_216002.out BK215.out (by decide)) (fun _ hk => hk.2) (.slice Ao33 y220.length co33)) (fun _ hk => trivial)⟩
     have n3_ : Aside0 (Kd.R (Kd.int .i64) 3 (w32.setCell ⟨gb215, 0, none⟩ (.slice Ao33 y220.length co33)) w.heap.size (fun k_ => some k_ ≠ (.slice (some ad219) t216.length co30 : Value).ownBlock ∧ some k_ ≠ (u216001 : Value).ownBlock) (.slice Ao33 y220.length co33) y220) := ⟨by exact Kd.R_mono (Kd.R_far (p := ⟨gb215, 0, none⟩) (Kd.R_types HO222.out BK215.out (by decide)) (fun _ hk => hk.2) (.slice Ao33 y220.length co33)) (fun _ hk => ⟨hk.1.1, hk.1.2⟩)⟩
     have n4_ : Aside0 ((w32.setCell ⟨gb215, 0, none⟩ (.slice Ao33 y220.length co33)).heap[gb205]? = some (.cells #[.slice none 0 0, .slice none 0 0, .slice none 0 0] 84 (0, 0))) := ⟨by refine blk_far ?_ NB205_215.out _; exact BK205.out⟩
     have n5_ : Aside0 ((w32.setCell ⟨gb215, 0, none⟩ (.slice Ao33 y220.length co33)).heap[gb215]? = some (.cells #[.slice Ao33 y220.length co33, u216001, u216002] 84 (0, 0))) := ⟨by refine blk_put (cs := #[u216000, u216001, u216002]) ?_ 0 _ rfl; exact BK215.out⟩
     have n6_ : Aside0 (Below w.heap.size w (w32.setCell ⟨gb215, 0, none⟩ (.slice Ao33 y220.length co33))) := ⟨by repeat (first | (with_reducible first | exact HB.out | apply below_alloc | apply pw_below_drewN | apply below_drew1 | refine below_set ?_ GE205.out | refine below_set ?_ GE215.out) | exact HB.out)⟩
     (try clear HO_4)
     (try clear HO_216001)
     (try clear HO_216002)
     (try clear HO222)
     (try clear BK205)
     (try clear BK215)
     (try clear HB)
     generalize (w32.setCell ⟨gb215, 0, none⟩ (.slice Ao33 y220.length co33)) = w35 at n0_ n1_ n2_ n3_ n4_ n5_ n6_ ⊢
     have HO_4 := n0_
     have HO_216001 := n1_
     have HO_216002 := n2_
     have HO222 := n3_
     have BK205 := n4_
     have BK215 := n5_
     have HB := n6_
     clear n0_ n1_ n2_ n3_ n4_ n5_ n6_
     have n0_ := Aside0.mk (Kd.R_drew HO_4.out)
     have n1_ := Aside0.mk (Kd.R_drew HO_216001.out)
     have n2_ := Aside0.mk (Kd.R_drew HO_216002.out)
     have n3_ := Aside0.mk (Kd.R_drew HO222.out)
     have n4_ := Aside0.mk (blk_drew BK205.out)
     have n5_ := Aside0.mk (blk_drew BK215.out)
     have n6_ := Aside0.mk (below_drew1 HB.out)
     clear HO_4
     clear HO_216001
     clear HO_216002
     clear HO222
     clear BK205
     clear BK215
     clear HB
     have HO_4 := n0_
     have HO_216001 := n1_
     have HO_216002 := n2_
     have HO222 := n3_
     have BK205 := n4_
     have BK215 := n5_
     have HB := n6_
     clear n0_ n1_ n2_ n3_ n4_ n5_ n6_
     have p224 : 0 ≤ (x5_1 : Int) := oD
     have q224 : x5_1 < (t216.length : Int) := oD
     obtain ⟨ad224, e224, hx224_0⟩ := Kd.at_int (Kd.R_reads' HO_4.out).2.2 x5_1 p224 q224
     obtain rfl : ad219 = ad224 := (by injection e224)
     replace p224 := eq_true p224
     replace q224 := eq_true q224
     have p225 : 0 ≤ ((rd t216 x5_1) : Int) := oD
     have q225 : (rd t216 x5_1) < (l0.length : Int) := oD
     obtain ⟨ad225, e225, hx225_0, hx225_1, hx225_2, hx225_3⟩ := at_T59 HR0.out (rd t216 x5_1) p225 q225
     have hw225_3 := hx225_3
     have hw225_2 := hx225_2
     have hw225_1 := hx225_1
     have hw225_0 := hx225_0
     cases e225
     replace hx225_0 := (cB HB.out hx225_0 :)
     replace hx225_1 := (cB HB.out hx225_1 :)
     replace hx225_2 := (cB HB.out hx225_2 :)
     replace hx225_3 := (cB HB.out hx225_3 :)
     replace p225 := eq_true p225
     replace q225 := eq_true q225
     refine start_ (n := 13) (S := fun w' => w'.cell? ⟨gb215, 0, none⟩ = some (.slice Ao33 y220.length co33) ∧ w'.cell? ⟨gb215, 1, none⟩ = some (u216001) ∧ w'.cell? ⟨gb215, 2, none⟩ = some (u216002) ∧ w'.cell? (ad219.add (x5_1).toNat) = some (.int .i64 (rd t216 x5_1)) ∧ w'.cell? (ad225.add (((rd t216 x5_1)).toNat * 4)) = some (.int .i64 ((rd_T59 l0 (rd t216 x5_1)).f0)) ∧ w'.cell? ⟨(ad225.add (((rd t216 x5_1)).toNat * 4)).block, (ad225.add (((rd t216 x5_1)).toNat * 4)).off + 1, none⟩ = some (.int .i64 ((rd_T59 l0 (rd t216 x5_1)).f1)) ∧ w'.cell? ⟨(ad225.add (((rd t216 x5_1)).toNat * 4)).block, (ad225.add (((rd t216 x5_1)).toNat * 4)).off + 2, none⟩ = some (.int .i64 ((rd_T59 l0 (rd t216 x5_1)).f2)) ∧ w'.cell? ⟨(ad225.add (((rd t216 x5_1)).toNat * 4)).block, (ad225.add (((rd t216 x5_1)).toNat * 4)).off + 3, none⟩ = some (.int .i64 ((rd_T59 l0 (rd t216 x5_1)).f3))) (ds := []) (bA 13 0) (by kernel_rfl) rfl rfl ⟨(blk_cell BK215.out 0).trans rfl, (blk_cell BK215.out 1).trans rfl, (blk_cell BK215.out 2).trans rfl, hx224_0, ((cB HB.out hw225_0 :)), ((cB HB.out hw225_1 :)), ((cB HB.out hw225_2 :)), ((cB HB.out hw225_3 :))⟩ (fun hHeld => ?_); refine with_tabW spec_l3Rule.tab8 spec_l3Rule.bits8 (fun HT_ HW_ => ?_)
     generalize w35.drew = w36 at HO_4 HO_216001 HO_216002 HO222 BK205 BK215 HB hx224_0 hx225_0 hx225_1 hx225_2 hx225_3 hHeld ⊢
     refine pU 0 29 (bA 13 1) ?_
     refine pU 1 30 (bA 13 3) ?_
     refine pU 4 33 (bA 13 19) ?_
     refine pU 5 34 (bA 13 51) ?_
     refine pU 6 35 (bA 13 115) ?_
     refine pU 7 36 (bA 13 243) ?_
     refine tU 2 31 (bA 13 247) ?_
     refine tU 8 37 (bA 13 503) ?_
     refine pU 9 38 (bA 13 1015) ?_
     refine pU 10 39 (bA 13 2039) ?_
     refine tU 11 40 (bA 13 4087) ?_
     refine one_ (i := 3) (N := some 32) (bA 13 4095) rfl rfl (one_of HT_.out (by kernel_rfl)) (by decide) (fun K hK => ?_)
     refine goes_ Try.func131 (by kernel_rfl) rfl #[.slice (some ad225) l0.length c0, .slice Ao33 y220.length co33] (by rfl) rfl rfl aE ?_
     with_reducible refine (spec_l3Total.calls k1 _ _ l0 _ _ y220 t223 _ ?side1 ?side2 ?side3 ?side4 A20.out).mono ?_
     (case side1 => repeat (first | exact (Kd.C_below HR0.out HB.out) | (with_reducible refine Kd.C_alloc ?_ _) | (with_reducible refine Kd.C_drewN ?_ _) | (with_reducible refine Kd.C_drew ?_)))
     (case side2 => exact HC0.out)
     (case side3 => repeat (first | exact (Kd.R_reads' HO222.out).2.2 | (with_reducible refine Kd.C_alloc ?_ _) | (with_reducible refine Kd.C_drewN ?_ _) | (with_reducible refine Kd.C_drew ?_)))
     (case side4 => exact (Kd.R_reads' HO222.out).2.1)
     rintro e w' ⟨rfl, ⟨nd, rfl⟩⟩
     refine ⟨_, rfl, ?_⟩
     refine hK.out _ _ ⟨(blk_cell BK215.out 0).trans rfl, (blk_cell BK215.out 1).trans rfl, (blk_cell BK215.out 2).trans rfl, hHeld.2.2.2.1, ((cB HB.out hw225_0 :)), ((cB HB.out hw225_1 :)), ((cB HB.out hw225_2 :)), ((cB HB.out hw225_3 :))⟩ (fun hHeld => ?_)
     clear hK K
     refine norm_ (a' := ?_) ?_ ?_
     rotate_left
     ·show Act.put _ (some 32) _ = _
      simp only [Act.put, sA, sZ, sS, i64_w, i32_w]
      rfl
     refine pU 12 41 (bA 13 8191) ?_
     refine done_ (done_of HT_.out (by kernel_rfl)) ?_
     have hnb37 := NB215_205.out
     have hnc37 := NB205_215.out
     have hcz38_0 : w36.cell? ⟨gb215, 0, none⟩ = some (.slice Ao33 y220.length co33) := (blk_cell BK215.out 0).trans rfl
     have hcz38_1 : w36.cell? ⟨gb215, 1, none⟩ = some (u216001) := (blk_cell BK215.out 1).trans rfl
     have hcz38_2 : w36.cell? ⟨gb215, 2, none⟩ = some (u216002) := (blk_cell BK215.out 2).trans rfl
     have hfz38_0 := blk_frozen BK215.out 0
     have hfz38_1 := blk_frozen BK215.out 1
     have hfz38_2 := blk_frozen BK215.out 2
     try go_wp2_with (first | ((with_reducible refine gate_callee (f := 132) rfl ?_); refine goesL_ (some 45) rfl rfl Try.func132 (by kernel_rfl) rfl #[.slice (some ad225) l0.length c0, .slice Ao33 y220.length co33] rfl aE ?_; (with_reducible refine (spec_l3Longest.calls k1 _ _ l0 _ _ y220 t226 _ ?side1 ?side2 ?side3 ?side4 A24.out).mono ?_); (case side1 => repeat (first | exact (Kd.C_below HR0.out bS) | (with_reducible refine Kd.C_alloc ?_ _) | (with_reducible refine Kd.C_drewN ?_ _) | (with_reducible refine Kd.C_drew ?_))); (case side2 => exact HC0.out); (case side3 => repeat (first | exact (Kd.R_reads' HO222.out).2.2 | (with_reducible refine Kd.C_alloc ?_ _) | (with_reducible refine Kd.C_drewN ?_ _) | (with_reducible refine Kd.C_drew ?_))); (case side4 => exact (Kd.R_reads' HO222.out).2.1); rintro e w' ⟨rfl, ⟨nd, rfl⟩⟩; refine ⟨_, rfl, ?_⟩; (try (rw [drewN_self w36]; generalize hq_ : World.drewN w36 _ = w36; have n0_ : Aside0 (Kd.R (Kd.int .i64) 3 w36 w.heap.size (fun k_ => (some k_ ≠ (.slice (some ad219) t216.length co30 : Value).ownBlock ∧ some k_ ≠ (u216001 : Value).ownBlock)) (.slice Ao33 y220.length co33) y220) := ⟨by rw [← hq_]; exact (by (with_reducible repeat (first | apply Kd.R_alloc | apply Kd.R_drewN | apply Kd.R_drew)); exact HO222.out)⟩; have n1_ : Aside0 (Kd.R (Kd.int .i64) 3 w36 w.heap.size (fun k_ => (some k_ ≠ (.slice (some ad219) t216.length co30 : Value).ownBlock ∧ some k_ ≠ (.slice Ao33 y220.length co33 : Value).ownBlock)) u216001 x216001_1) := ⟨by rw [← hq_]; exact (by (with_reducible repeat (first | apply Kd.R_alloc | apply Kd.R_drewN | apply Kd.R_drew)); exact HO_216001.out)⟩; have n2_ : Aside0 (Kd.R k64 64 w36 w.heap.size (fun _ => True) u216002 x216002_1) := ⟨by rw [← hq_]; exact (by (with_reducible repeat (first | apply Kd.R_alloc | apply Kd.R_drewN | apply Kd.R_drew)); exact HO_216002.out)⟩; have n3_ : Aside0 (Kd.R (Kd.int .i64) 3 w36 w.heap.size (fun k_ => (some k_ ≠ (u216001 : Value).ownBlock ∧ some k_ ≠ (.slice Ao33 y220.length co33 : Value).ownBlock)) (.slice (some ad219) t216.length co30) t216) := ⟨by rw [← hq_]; exact (by (with_reducible repeat (first | apply Kd.R_alloc | apply Kd.R_drewN | apply Kd.R_drew)); exact HO_4.out)⟩; have n4_ : Aside0 (w36.heap[gb205]? = some (.cells #[.slice none 0 0, .slice none 0 0, .slice none 0 0] 84 (0, 0))) := ⟨by rw [← hq_]; exact (by (with_reducible repeat (first | refine blk_drewN ?_ _ | refine blk_drew ?_ | refine blk_alloc ?_ _)); exact BK205.out)⟩; have n5_ : Aside0 (w36.heap[gb215]? = some (.cells #[.slice Ao33 y220.length co33, u216001, u216002] 84 (0, 0))) := ⟨by rw [← hq_]; exact (by (with_reducible repeat (first | refine blk_drewN ?_ _ | refine blk_drew ?_ | refine blk_alloc ?_ _)); exact BK215.out)⟩; have n6_ : Aside0 (Below w.heap.size w w36) := ⟨by rw [← hq_]; exact bS⟩; clear HO222 HO_216001 HO_216002 HO_4 BK205 BK215 HB hq_; have HO222 := n0_; have HO_216001 := n1_; have HO_216002 := n2_; have HO_4 := n3_; have BK205 := n4_; have BK215 := n5_; have HB := n6_; clear n0_ n1_ n2_ n3_ n4_ n5_ n6_; have hczq205_0 : w36.cell? ⟨gb205, 0, none⟩ = some (.slice none 0 0) := (blk_cell BK205.out 0).trans rfl; have hfzq205_0 := blk_frozen BK205.out 0; have hczq205_1 : w36.cell? ⟨gb205, 1, none⟩ = some (.slice none 0 0) := (blk_cell BK205.out 1).trans rfl; have hfzq205_1 := blk_frozen BK205.out 1; have hczq205_2 : w36.cell? ⟨gb205, 2, none⟩ = some (.slice none 0 0) := (blk_cell BK205.out 2).trans rfl; have hfzq205_2 := blk_frozen BK205.out 2; have hczq215_0 : w36.cell? ⟨gb215, 0, none⟩ = some (.slice Ao33 y220.length co33) := (blk_cell BK215.out 0).trans rfl; have hfzq215_0 := blk_frozen BK215.out 0; have hczq215_1 : w36.cell? ⟨gb215, 1, none⟩ = some (u216001) := (blk_cell BK215.out 1).trans rfl; have hfzq215_1 := blk_frozen BK215.out 1; have hczq215_2 : w36.cell? ⟨gb215, 2, none⟩ = some (u216002) := (blk_cell BK215.out 2).trans rfl; have hfzq215_2 := blk_frozen BK215.out 2)); have p227 : 0 ≤ (t226 : Int) := oD; have q227 : t226 < (y220.length : Int) := oD; obtain ⟨ad227, e227, hx227_0⟩ := Kd.at_int (Kd.R_reads' HO222.out).2.2 t226 p227 q227; cases e227; replace p227 := eq_true p227; replace q227 := eq_true q227) | ((with_reducible refine gate_callee (f := 101) rfl ?_); refine goesL_ (some 54) rfl rfl Try.func101 (by kernel_rfl) rfl #[.slice (some ad227) y220.length co33, .int .i64 t226] rfl aE ?_; (with_reducible refine (spec_l3Without.calls _ _ y220 t226 t228 _ ?side1 ?side2 A27.out).mono ?_); (case side1 => repeat (first | exact (Kd.R_reads' HO222.out).2.2 | (with_reducible refine Kd.C_alloc ?_ _) | (with_reducible refine Kd.C_drewN ?_ _) | (with_reducible refine Kd.C_drew ?_))); (case side2 => exact (Kd.R_reads' HO222.out).2.1); rintro e w39 ⟨v229, rfl, ho0, hb⟩; refine ⟨_, rfl, ?_⟩; have n0_ := Aside0.mk (Kd.R_elder' (by (with_reducible repeat (first | apply Kd.R_alloc | apply Kd.R_drewN | apply Kd.R_drew)); exact HO_4.out) (Kd.R_base ho0) hb); have n1_ := Aside0.mk (Kd.R_elder' (by (with_reducible repeat (first | apply Kd.R_alloc | apply Kd.R_drewN | apply Kd.R_drew)); exact HO_216001.out) (Kd.R_base ho0) hb); have n2_ := Aside0.mk (Kd.R_below (by (with_reducible repeat (first | apply Kd.R_alloc | apply Kd.R_drewN | apply Kd.R_drew)); exact HO_216002.out) hb); have n3_ := Aside0.mk (Kd.R_elder' (by (with_reducible repeat (first | apply Kd.R_alloc | apply Kd.R_drewN | apply Kd.R_drew)); exact HO222.out) (Kd.R_base ho0) hb); have n4_ := Aside0.mk (Kd.R_lower (Kd.R_new' (Kd.R_new' (Kd.R_new' ho0 (Kd.R_lt (by (with_reducible repeat (first | apply Kd.R_alloc | apply Kd.R_drewN | apply Kd.R_drew)); exact HO_4.out))) (Kd.R_lt (by (with_reducible repeat (first | apply Kd.R_alloc | apply Kd.R_drewN | apply Kd.R_drew)); exact HO_216001.out))) (Kd.R_lt (by (with_reducible repeat (first | apply Kd.R_alloc | apply Kd.R_drewN | apply Kd.R_drew)); exact HO222.out))) (below_size bS)); have n5_ := Aside0.mk (blk_below (g := gb205) (o := .cells #[.slice none 0 0, .slice none 0 0, .slice none 0 0] 84 (0, 0)) (by (with_reducible repeat (first | refine blk_drewN ?_ _ | refine blk_drew ?_ | refine blk_alloc ?_ _)); exact BK205.out) hb); have n6_ := Aside0.mk (blk_below (g := gb215) (o := .cells #[.slice (some ad227) y220.length co33, u216001, u216002] 84 (0, 0)) (by (with_reducible repeat (first | refine blk_drewN ?_ _ | refine blk_drew ?_ | refine blk_alloc ?_ _)); exact BK215.out) hb); have n7_ := Aside0.mk (below_step bS hb); clear HO_4; clear HO_216001; clear HO_216002; clear HO222; clear BK205; clear BK215; clear HB; have HO_4 := n0_; have HO_216001 := n1_; have HO_216002 := n2_; have HO222 := n3_; have HO230 := n4_; have BK205 := n5_; have BK215 := n6_; have HB := n7_; clear n0_ n1_ n2_ n3_ n4_ n5_ n6_ n7_; (try clear hb); (try clear hb2); (try clear hk); (try clear hi); (try clear ho0); obtain ⟨Ao40, co40, eo40⟩ := Kd.R_slice HO230.out; subst eo40; have hcz41_0 : w39.cell? ⟨gb215, 0, none⟩ = some (.slice (some ad227) y220.length co33) := (blk_cell BK215.out 0).trans rfl; have hcz41_1 : w39.cell? ⟨gb215, 1, none⟩ = some (u216001) := (blk_cell BK215.out 1).trans rfl; have hcz41_2 : w39.cell? ⟨gb215, 2, none⟩ = some (u216002) := (blk_cell BK215.out 2).trans rfl; have hfz41_0 := blk_frozen BK215.out 0; have hfz41_1 := blk_frozen BK215.out 1; have hfz41_2 := blk_frozen BK215.out 2) | ((with_reducible refine gate_builtin (b := .append) (xs := #[.tmp 57, .tmp 59]) rfl ?_); at_builtin; refine Kd.R_append (Kd.int .i64) (w0 := w) w.heap.size rfl (.tmp 57) (.tmp 59) 37 3 (.int .i64 0) 8 rfl Try.underlying37 info3 rfl (by decide) (by omega) u216001 x216001_1 (rd y220 t226) [.int .i64 (rd y220 t226)] (fun k_ => some k_ ≠ (.slice (some ad219) t216.length co30 : Value).ownBlock ∧ some k_ ≠ (.slice (some ad227) y220.length co33 : Value).ownBlock ∧ some k_ ≠ (.slice Ao40 t228.length co40 : Value).ownBlock) (fun _ => False) rfl (by first | (go_simp; done) | (go_simp; rfl)) ?aP (fun _ hk => hk.elim) ?aF ?aO ?aB ?aS ?aL ?_; (case aP => exact rfl); (case aB => exact bS); (case aF => exact (fun k_ hk => ⟨Kd.fresh' (Kd.R_lt (by (with_reducible repeat (first | apply Kd.R_alloc | apply Kd.R_drewN | apply Kd.R_drew)); exact (Kd.R_mono (Kd.R_far (p := ⟨gb215, 0, none⟩) (Kd.R_types HO_4.out BK215.out (by decide)) (fun _ hk => hk.2) (.slice Ao40 t228.length co40)) (fun _ h_ => h_.1)))) k_ hk, Kd.fresh' (Kd.R_lt (by (with_reducible repeat (first | apply Kd.R_alloc | apply Kd.R_drewN | apply Kd.R_drew)); exact (Kd.R_mono (Kd.R_far (p := ⟨gb215, 0, none⟩) (Kd.R_types HO222.out BK215.out (by decide)) (fun _ hk => hk.2) (.slice Ao40 t228.length co40)) (fun _ h_ => h_.1)))) k_ hk, Kd.fresh' (Kd.R_lt (by (with_reducible repeat (first | apply Kd.R_alloc | apply Kd.R_drewN | apply Kd.R_drew)); exact (Kd.R_mono (Kd.R_far (p := ⟨gb215, 0, none⟩) (Kd.R_types HO230.out BK215.out (by decide)) (fun _ hk => hk.2) (.slice Ao40 t228.length co40)) (fun _ h_ => h_.1)))) k_ hk⟩)); (case aO => exact (by (with_reducible repeat (first | apply Kd.R_alloc | apply Kd.R_drewN | apply Kd.R_drew)); exact Kd.R_mono (Kd.R_far (p := ⟨gb215, 0, none⟩) (Kd.R_types HO_216001.out BK215.out (by decide)) (fun _ hk => hk.2) (.slice Ao40 t228.length co40)) (fun _ hk => ⟨hk.1.1.1, ⟨hk.1.1.2, hk.1.2⟩⟩))); (case aS => exact (below_size bS)); (case aL => have := LMc28.out; omega); intro v232 w42 ho hb hg hat; rw [← Ny231.out] at ho; have n0_ := Aside0.mk (Kd.R_after (ok := (fun k_ => some k_ ≠ (.slice (some ad227) y220.length co33 : Value).ownBlock ∧ some k_ ≠ (.slice Ao40 t228.length co40 : Value).ownBlock)) (by (with_reducible repeat (first | apply Kd.R_alloc | apply Kd.R_drewN | apply Kd.R_drew)); exact Kd.R_mono (Kd.R_far (p := ⟨gb215, 0, none⟩) (Kd.R_types HO_4.out BK215.out (by decide)) (fun _ hk => hk.2) (.slice Ao40 t228.length co40)) (fun _ hk => ⟨⟨hk.1.1.2, hk.1.2⟩, hk.1.1.1⟩)) hg hat); have n1_ := Aside0.mk (Kd.R_over' (by (with_reducible repeat (first | apply Kd.R_alloc | apply Kd.R_drewN | apply Kd.R_drew)); exact (Kd.R_mono (Kd.R_far (p := ⟨gb215, 0, none⟩) (Kd.R_types HO_216002.out BK215.out (by decide)) (fun _ hk => hk.2) (.slice Ao40 t228.length co40)) (fun _ h_ => h_.1))) (Kd.R_typed (by (with_reducible repeat (first | apply Kd.R_alloc | apply Kd.R_drewN | apply Kd.R_drew)); exact (Kd.R_mono (Kd.R_far (p := ⟨gb215, 0, none⟩) (Kd.R_types HO_216001.out BK215.out (by decide)) (fun _ hk => hk.2) (.slice Ao40 t228.length co40)) (fun _ h_ => h_.1)))) (by decide) hg); have n2_ := Aside0.mk (blk_grown (g := gb205) (o := .cells #[.slice none 0 0, .slice none 0 0, .slice none 0 0] 84 (0, 0)) (by (with_reducible repeat (first | refine blk_drewN ?_ _ | refine blk_drew ?_ | refine blk_alloc ?_ _)); refine blk_far ?_ NB205_215.out _; (with_reducible repeat (first | refine blk_drewN ?_ _ | refine blk_drew ?_ | refine blk_alloc ?_ _)); exact BK205.out) hg (Kd.R_ne HO_216001.out BK205.out (by decide))); have n3_ := Aside0.mk (blk_grown (g := gb215) (o := .cells #[.slice Ao40 t228.length co40, u216001, u216002] 84 (0, 0)) (by (with_reducible repeat (first | refine blk_drewN ?_ _ | refine blk_drew ?_ | refine blk_alloc ?_ _)); refine blk_put (cs := #[.slice (some ad227) y220.length co33, u216001, u216002]) ?_ 0 _ rfl; (with_reducible repeat (first | refine blk_drewN ?_ _ | refine blk_drew ?_ | refine blk_alloc ?_ _)); exact BK215.out) hg (Kd.R_ne HO_216001.out BK215.out (by decide))); have n4_ := Aside0.mk (Kd.R_after (ok := (fun k_ => some k_ ≠ (.slice (some ad219) t216.length co30 : Value).ownBlock ∧ some k_ ≠ (.slice Ao40 t228.length co40 : Value).ownBlock)) (by (with_reducible repeat (first | apply Kd.R_alloc | apply Kd.R_drewN | apply Kd.R_drew)); exact Kd.R_mono (Kd.R_far (p := ⟨gb215, 0, none⟩) (Kd.R_types HO222.out BK215.out (by decide)) (fun _ hk => hk.2) (.slice Ao40 t228.length co40)) (fun _ hk => ⟨⟨hk.1.1.1, hk.1.2⟩, hk.1.1.2⟩)) hg hat); have n5_ := Aside0.mk (Kd.R_after (ok := (fun k_ => some k_ ≠ (.slice (some ad219) t216.length co30 : Value).ownBlock ∧ some k_ ≠ (.slice (some ad227) y220.length co33 : Value).ownBlock)) (by (with_reducible repeat (first | apply Kd.R_alloc | apply Kd.R_drewN | apply Kd.R_drew)); exact Kd.R_mono (Kd.R_far (p := ⟨gb215, 0, none⟩) (Kd.R_types HO230.out BK215.out (by decide)) (fun _ hk => hk.2) (.slice Ao40 t228.length co40)) (fun _ hk => ⟨⟨hk.1.1.1.2, hk.1.2⟩, hk.1.1.2⟩)) hg hat); have n6_ := Aside0.mk (hb); have n7_ := Aside0.mk (ho); clear HO_4; clear HO_216002; clear BK205; clear BK215; clear HO222; clear HO230; clear HB; clear HO_216001; have HO_4 := n0_; have HO_216002 := n1_; have BK205 := n2_; have BK215 := n3_; have HO222 := n4_; have HO230 := n5_; have HB := n6_; have HO233 := n7_; clear n0_ n1_ n2_ n3_ n4_ n5_ n6_ n7_; clear ho hb hg hat; obtain ⟨Ao43, co43, eo43⟩ := Kd.R_slice HO233.out; subst eo43; have hcz44_0 : w42.cell? ⟨gb215, 0, none⟩ = some (.slice Ao40 t228.length co40) := (blk_cell BK215.out 0).trans rfl; have hcz44_1 : w42.cell? ⟨gb215, 1, none⟩ = some (u216001) := (blk_cell BK215.out 1).trans rfl; have hcz44_2 : w42.cell? ⟨gb215, 2, none⟩ = some (u216002) := (blk_cell BK215.out 2).trans rfl; have hfz44_0 := blk_frozen BK215.out 0; have hfz44_1 := blk_frozen BK215.out 1; have hfz44_2 := blk_frozen BK215.out 2))
     have n0_ : Aside0 (Kd.R (Kd.int .i64) 3 (w42.setCell ⟨gb215, 1, none⟩ (.slice Ao43 y231.length co43)) w.heap.size (fun k_ => some k_ ≠ (.slice (some ad227) y220.length co33 : Value).ownBlock ∧ some k_ ≠ (.slice Ao40 t228.length co40 : Value).ownBlock ∧ some k_ ≠ (.slice Ao43 y231.length co43 : Value).ownBlock) (.slice (some ad219) t216.length co30) t216) := ⟨by exact Kd.R_mono (Kd.R_far (p := ⟨gb215, 1, none⟩) (Kd.R_types HO_4.out BK215.out (by decide)) (fun _ hk => hk.2) (.slice Ao43 y231.length co43)) (fun _ hk => ⟨hk.1.1.1, ⟨hk.1.1.2, hk.1.2⟩⟩)⟩
     have n1_ : Aside0 (Kd.R k64 64 (w42.setCell ⟨gb215, 1, none⟩ (.slice Ao43 y231.length co43)) w.heap.size (fun _ => True) u216002 x216002_1) := ⟨by exact Kd.R_mono (Kd.R_far (p := ⟨gb215, 1, none⟩) (Kd.R_types HO_216002.out BK215.out (by decide)) (fun _ hk => hk.2) (.slice Ao43 y231.length co43)) (fun _ hk => trivial)⟩
     have n2_ : Aside0 (Kd.R (Kd.int .i64) 3 (w42.setCell ⟨gb215, 1, none⟩ (.slice Ao43 y231.length co43)) w.heap.size (fun k_ => some k_ ≠ (.slice (some ad219) t216.length co30 : Value).ownBlock ∧ some k_ ≠ (.slice Ao40 t228.length co40 : Value).ownBlock ∧ some k_ ≠ (.slice Ao43 y231.length co43 : Value).ownBlock) (.slice (some ad227) y220.length co33) y220) := ⟨by exact Kd.R_mono (Kd.R_far (p := ⟨gb215, 1, none⟩) (Kd.R_types HO222.out BK215.out (by decide)) (fun _ hk => hk.2) (.slice Ao43 y231.length co43)) (fun _ hk => ⟨hk.1.1.1, ⟨hk.1.1.2, hk.1.2⟩⟩)⟩
     have n3_ : Aside0 (Kd.R (Kd.int .i64) 3 (w42.setCell ⟨gb215, 1, none⟩ (.slice Ao43 y231.length co43)) w.heap.size (fun k_ => some k_ ≠ (.slice (some ad219) t216.length co30 : Value).ownBlock ∧ some k_ ≠ (.slice (some ad227) y220.length co33 : Value).ownBlock ∧ some k_ ≠ (.slice Ao43 y231.length co43 : Value).ownBlock) (.slice Ao40 t228.length co40) t228) := ⟨by exact Kd.R_mono (Kd.R_far (p := ⟨gb215, 1, none⟩) (Kd.R_types HO230.out BK215.out (by decide)) (fun _ hk => hk.2) (.slice Ao43 y231.length co43)) (fun _ hk => ⟨hk.1.1.1, ⟨hk.1.1.2, hk.1.2⟩⟩)⟩
     have n4_ : Aside0 (Kd.R (Kd.int .i64) 3 (w42.setCell ⟨gb215, 1, none⟩ (.slice Ao43 y231.length co43)) w.heap.size (fun k_ => some k_ ≠ (.slice (some ad219) t216.length co30 : Value).ownBlock ∧ some k_ ≠ (.slice (some ad227) y220.length co33 : Value).ownBlock ∧ some k_ ≠ (.slice Ao40 t228.length co40 : Value).ownBlock) (.slice Ao43 y231.length co43) y231) := ⟨by exact Kd.R_mono (Kd.R_far (p := ⟨gb215, 1, none⟩) (Kd.R_types HO233.out BK215.out (by decide)) (fun _ hk => hk.2) (.slice Ao43 y231.length co43)) (fun _ hk => ⟨hk.1.1, ⟨hk.1.2.1, hk.1.2.2⟩⟩)⟩
     have n5_ : Aside0 ((w42.setCell ⟨gb215, 1, none⟩ (.slice Ao43 y231.length co43)).heap[gb205]? = some (.cells #[.slice none 0 0, .slice none 0 0, .slice none 0 0] 84 (0, 0))) := ⟨by refine blk_far ?_ NB205_215.out _; exact BK205.out⟩
     have n6_ : Aside0 ((w42.setCell ⟨gb215, 1, none⟩ (.slice Ao43 y231.length co43)).heap[gb215]? = some (.cells #[.slice Ao40 t228.length co40, .slice Ao43 y231.length co43, u216002] 84 (0, 0))) := ⟨by refine blk_put (cs := #[.slice Ao40 t228.length co40, u216001, u216002]) ?_ 1 _ rfl; exact BK215.out⟩
     have n7_ : Aside0 (Below w.heap.size w (w42.setCell ⟨gb215, 1, none⟩ (.slice Ao43 y231.length co43))) := ⟨by repeat (first | (with_reducible first | exact HB.out | apply below_alloc | apply pw_below_drewN | apply below_drew1 | refine below_set ?_ GE205.out | refine below_set ?_ GE215.out) | exact HB.out)⟩
     (try clear HO_4)
     (try clear HO_216002)
     (try clear HO222)
     (try clear HO230)
     (try clear HO233)
     (try clear BK205)
     (try clear BK215)
     (try clear HB)
     generalize (w42.setCell ⟨gb215, 1, none⟩ (.slice Ao43 y231.length co43)) = w45 at n0_ n1_ n2_ n3_ n4_ n5_ n6_ n7_ ⊢
     have HO_4 := n0_
     have HO_216002 := n1_
     have HO222 := n2_
     have HO230 := n3_
     have HO233 := n4_
     have BK205 := n5_
     have BK215 := n6_
     have HB := n7_
     clear n0_ n1_ n2_ n3_ n4_ n5_ n6_ n7_
     have n0_ := Aside0.mk (Kd.R_drew HO_4.out)
     have n1_ := Aside0.mk (Kd.R_drew HO_216002.out)
     have n2_ := Aside0.mk (Kd.R_drew HO222.out)
     have n3_ := Aside0.mk (Kd.R_drew HO230.out)
     have n4_ := Aside0.mk (Kd.R_drew HO233.out)
     have n5_ := Aside0.mk (blk_drew BK205.out)
     have n6_ := Aside0.mk (blk_drew BK215.out)
     have n7_ := Aside0.mk (below_drew1 HB.out)
     clear HO_4
     clear HO_216002
     clear HO222
     clear HO230
     clear HO233
     clear BK205
     clear BK215
     clear HB
     have HO_4 := n0_
     have HO_216002 := n1_
     have HO222 := n2_
     have HO230 := n3_
     have HO233 := n4_
     have BK205 := n5_
     have BK215 := n6_
     have HB := n7_
     clear n0_ n1_ n2_ n3_ n4_ n5_ n6_ n7_
     have p234 : 0 ≤ (x5_1 : Int) := oD
     have q234 : x5_1 < (t216.length : Int) := oD
     obtain ⟨ad234, e234, hx234_0⟩ := Kd.at_int (Kd.R_reads' HO_4.out).2.2 x5_1 p234 q234
     obtain rfl : ad219 = ad234 := (by injection e234)
     replace p234 := eq_true p234
     replace q234 := eq_true q234
     refine start_ (n := 12) (S := fun w' => w'.cell? ⟨gb215, 0, none⟩ = some (.slice Ao40 t228.length co40) ∧ w'.cell? ⟨gb215, 1, none⟩ = some (.slice Ao43 y231.length co43) ∧ w'.cell? ⟨gb215, 2, none⟩ = some (u216002) ∧ w'.cell? (ad219.add (x5_1).toNat) = some (.int .i64 (rd t216 x5_1))) (ds := [9, 11]) (bA 12 0) (by kernel_rfl) rfl rfl ⟨(blk_cell BK215.out 0).trans rfl, (blk_cell BK215.out 1).trans rfl, (blk_cell BK215.out 2).trans rfl, hx234_0⟩ (fun hHeld => ?_); refine with_tabW spec_l3Rule.tab13 spec_l3Rule.bits13 (fun HT_ HW_ => ?_)
     generalize w45.drew = w46 at HO_4 HO_216002 HO222 HO230 HO233 BK205 BK215 HB hx234_0 hHeld ⊢
     refine pU 0 62 (bA 12 1) ?_
     refine pU 2 64 (bA 12 5) ?_
     refine pU 3 65 (bA 12 13) ?_
     refine pU 4 66 (bA 12 29) ?_
     refine pU 6 68 (bA 12 93) ?_
     refine tU 1 63 (bA 12 95) ?_
     refine tU 5 67 (bA 12 127) ?_
     refine pU 7 69 (bA 12 255) ?_
     refine one_ (i := 8) (N := some 70) (bA 12 511) rfl rfl (one_of HT_.out (by kernel_rfl)) (by decide) (fun K hK => ?_)
     refine value_ (w1 := ?_) (v := ?_) (by rfl) rfl ?_ ?_
     rotate_left 2
     ·go_simp
      constructor
      ·rfl
      ·rfl
     refine hK.out _ _ ⟨(blk_cell (blk_alloc BK215.out _) 0).trans rfl, (blk_cell (blk_alloc BK215.out _) 1).trans rfl, (blk_cell (blk_alloc BK215.out _) 2).trans rfl, (World.cell?_alloc_lt _ _ _ (World.block_lt_of_cell? _ _ (hHeld.2.2.2))).trans (hHeld.2.2.2)⟩ (fun hHeld => ?_)
     clear hK K
     refine norm_ (a' := ?_) ?_ ?_
     rotate_left
     ·show Act.put _ (some 70) _ = _
      simp only [Act.put, sA, sZ, sS, i64_w, i32_w]
      rfl
     refine last_ (i := 9) (N := some 71) (bA 12 1023) rfl rfl (one_of HT_.out (by kernel_rfl)) (by decide) (fun K hK => ?_)
     refine Kd.R_append_step k64 (w0 := w) w.heap.size (by rfl) (.tmp 63) (.tmp 70) 50 64 (.agg #[(.int .i64 0), (.int .i64 0)]) 16 rfl Try.underlying50 info64 rfl (by decide) (by omega) u216002 x216002_1 (⟨rd t216 x5_1, rd y220 t226⟩ : S64) [.int .i64 (rd t216 x5_1), .int .i64 (rd y220 t226)] (fun _ => True) (fun _ => False) rfl rfl ?aP (fun _ hk => hk.elim) ?aF ?aO ?aB ?aS ?aL ?_
     (case aP => exact k64_mkM _ _ _ (⟨rd t216 x5_1, rd y220 t226⟩ : S64))
     (case aB => exact bS)
     (case aF => exact (fun _ _ => trivial))
     (case aO => exact (by (with_reducible repeat (first | apply Kd.R_alloc | apply Kd.R_drewN | apply Kd.R_drew)); exact HO_216002.out))
     (case aS => exact (below_size bS))
     (case aL => have := LMc29.out; omega)
     intro v236 w47 ho hb hg hat
     rw [← Ny235.out] at ho
     have n0_ := Aside0.mk (Kd.R_over' (by (with_reducible repeat (first | apply Kd.R_alloc | apply Kd.R_drewN | apply Kd.R_drew)); exact HO_4.out) (Kd.R_typed (by (with_reducible repeat (first | apply Kd.R_alloc | apply Kd.R_drewN | apply Kd.R_drew)); exact HO_216002.out)) (by decide) hg)
     have n1_ := Aside0.mk (blk_grown (g := gb205) (o := .cells #[.slice none 0 0, .slice none 0 0, .slice none 0 0] 84 (0, 0)) (by (with_reducible repeat (first | refine blk_drewN ?_ _ | refine blk_drew ?_ | refine blk_alloc ?_ _)); exact BK205.out) hg (Kd.R_ne HO_216002.out BK205.out (by decide)))
     have n2_ := Aside0.mk (blk_grown (g := gb215) (o := .cells #[.slice Ao40 t228.length co40, .slice Ao43 y231.length co43, u216002] 84 (0, 0)) (by (with_reducible repeat (first | refine blk_drewN ?_ _ | refine blk_drew ?_ | refine blk_alloc ?_ _)); exact BK215.out) hg (Kd.R_ne HO_216002.out BK215.out (by decide)))
     have n3_ := Aside0.mk (Kd.R_over' (by (with_reducible repeat (first | apply Kd.R_alloc | apply Kd.R_drewN | apply Kd.R_drew)); exact HO222.out) (Kd.R_typed (by (with_reducible repeat (first | apply Kd.R_alloc | apply Kd.R_drewN | apply Kd.R_drew)); exact HO_216002.out)) (by decide) hg)
     have n4_ := Aside0.mk (Kd.R_over' (by (with_reducible repeat (first | apply Kd.R_alloc | apply Kd.R_drewN | apply Kd.R_drew)); exact HO230.out) (Kd.R_typed (by (with_reducible repeat (first | apply Kd.R_alloc | apply Kd.R_drewN | apply Kd.R_drew)); exact HO_216002.out)) (by decide) hg)
     have n5_ := Aside0.mk (Kd.R_over' (by (with_reducible repeat (first | apply Kd.R_alloc | apply Kd.R_drewN | apply Kd.R_drew)); exact HO233.out) (Kd.R_typed (by (with_reducible repeat (first | apply Kd.R_alloc | apply Kd.R_drewN | apply Kd.R_drew)); exact HO_216002.out)) (by decide) hg)
     have n6_ := Aside0.mk (hb)
     have n7_ := Aside0.mk (ho)
     clear HO_4
     clear BK205
     clear BK215
     clear HO222
     clear HO230
     clear HO233
     clear HB
     clear HO_216002
     have HO_4 := n0_
     have BK205 := n1_
     have BK215 := n2_
     have HO222 := n3_
     have HO230 := n4_
     have HO233 := n5_
     have HB := n6_
     have HO237 := n7_
     clear n0_ n1_ n2_ n3_ n4_ n5_ n6_ n7_
     clear ho hb hg hat
     obtain ⟨Ao48, co48, eo48⟩ := Kd.R_slice HO237.out
     (first | subst eo48 | (injection eo48 with f1_ f2_ f3_; have f4_ := f1_.symm; have f5_ := f3_.symm; clear f1_ f2_ f3_; subst f4_; subst f5_))
     refine hK.out _ _ ?_
     clear hK K
     refine norm_ (a' := ?_) ?_ ?_
     rotate_left
     ·show Act.put _ (some 71) _ = _
      simp only [Act.put, sA, sZ, sS, i64_w, i32_w]
      rfl
     refine pU 10 72 (bA 12 2047) ?_
     refine last_ (i := 11) (N := none) (bA 12 4095) rfl rfl (one_of HT_.out (by kernel_rfl)) (by decide) (fun K hK => ?_)
     have hs49 : w47.cell? ⟨gb215, 2, none⟩ = some (u216002) := (blk_cell BK215.out 2).trans rfl
     have hfs49 := blk_frozen BK215.out 2
     have hns49_0 := NB205_215.out
     have hms49_0 := NB215_205.out
     refine skip_ (w1 := ?_) (by rfl) rfl ?_ ?_
     rotate_left
     ·go_simp
      rfl
     refine hK.out _ _ ?_
     clear hK K
     refine done_ (done_of HT_.out (by kernel_rfl)) ?_
     try go_wp2
     go_roundg k1
     case measure => have := HK1.out; omega
     case rel => exact ⟨(wrap64 (x5_1 + 1)), (t228), (y231), (y235), (.slice Ao40 t228.length co40), (.slice Ao43 y231.length co43), (.slice Ao48 y235.length co48), sD, H', ⟨by have := HK1.out; omega⟩, ⟨by (with_reducible repeat (first | apply Kd.R_alloc | apply Kd.R_drewN | apply Kd.R_drew)); exact Kd.R_mono (Kd.R_far (p := ⟨gb215, 2, none⟩) (Kd.R_types HO_4.out BK215.out (by decide)) (fun _ hk => hk.2) (.slice Ao48 y235.length co48)) (fun _ hk => ⟨hk.1.2.1, hk.1.2.2⟩)⟩, ⟨by (with_reducible repeat (first | apply Kd.R_alloc | apply Kd.R_drewN | apply Kd.R_drew)); exact Kd.R_mono (Kd.R_far (p := ⟨gb215, 2, none⟩) (Kd.R_types HO230.out BK215.out (by decide)) (fun _ hk => hk.2) (.slice Ao48 y235.length co48)) (fun _ hk => ⟨hk.1.1, hk.1.2.2⟩)⟩, ⟨by (with_reducible repeat (first | apply Kd.R_alloc | apply Kd.R_drewN | apply Kd.R_drew)); exact Kd.R_mono (Kd.R_far (p := ⟨gb215, 2, none⟩) (Kd.R_types HO233.out BK215.out (by decide)) (fun _ hk => hk.2) (.slice Ao48 y235.length co48)) (fun _ hk => ⟨hk.1.1, hk.1.2.2⟩)⟩, ⟨by (with_reducible repeat (first | apply Kd.R_alloc | apply Kd.R_drewN | apply Kd.R_drew)); exact Kd.R_mono (Kd.R_far (p := ⟨gb215, 2, none⟩) (Kd.R_types HO237.out BK215.out (by decide)) (fun _ hk => hk.2) (.slice Ao48 y235.length co48)) (fun _ hk => trivial)⟩, ⟨by (with_reducible repeat (first | refine blk_drewN ?_ _ | refine blk_drew ?_ | refine blk_alloc ?_ _)); refine blk_far ?_ NB205_215.out _; (with_reducible repeat (first | refine blk_drewN ?_ _ | refine blk_drew ?_ | refine blk_alloc ?_ _)); exact BK205.out⟩, ⟨by (with_reducible repeat (first | refine blk_drewN ?_ _ | refine blk_drew ?_ | refine blk_alloc ?_ _)); refine blk_put (cs := #[.slice Ao40 t228.length co40, .slice Ao43 y231.length co43, u216002]) ?_ 2 _ rfl; (with_reducible repeat (first | refine blk_drewN ?_ _ | refine blk_drew ?_ | refine blk_alloc ?_ _)); exact BK215.out⟩, ⟨by repeat (first | (with_reducible first | exact HB.out | apply below_alloc | apply pw_below_drewN | apply below_drew1 | refine below_set ?_ GE205.out | refine below_set ?_ GE215.out) | exact HB.out)⟩⟩
    ·rw [if_neg c23] at H
     have c23b0 : decide (((rd_T59 l0 (rd t216 x5_1)).f3) < t223) = false := decide_eq_false c23
     clear c23
     by_cases c50 : x216002_1.length < 8796093022208; rotate_left
     ·rw [if_neg c50] at H; exact absurd H (by simp)
     rw [if_pos c50] at H
     have LMc50 := Aside0.mk c50
     clear c50
     obtain ⟨y239, hy239⟩ : ∃ y_ : List (S64), y_ = (x216002_1 ++ [(⟨rd t216 x5_1, (-1)⟩ : S64)]) := ⟨_, rfl⟩
     replace H : (spec_l3Rule.l0 k1 l0 t216 (wrap64 (x5_1 + 1)) y220 x216001_1 y239) = some (r1, r2, r3) := by first | (rw [hy239]; with_reducible exact H) | (have H2_ := (Option.bind_some _ _).symm.trans H; rw [hy239]; with_reducible exact H2_) | (have H2_ := (Option.bind_some _ _).symm.trans H; with_reducible exact H2_) | with_reducible exact H | (rw [hy239]; exact H) | exact H
     have Ny239 := Aside0.mk hy239
     clear hy239
     have H' := Aside0.mk H
     clear H
     obtain ⟨Ao51, co51, eo51⟩ := Kd.R_slice HO_4.out
     subst eo51
     try go_wp2
     have n0_ := Aside0.mk (Kd.R_drew HO_4.out)
     have n1_ := Aside0.mk (Kd.R_drew HO_216000.out)
     have n2_ := Aside0.mk (Kd.R_drew HO_216001.out)
     have n3_ := Aside0.mk (Kd.R_drew HO_216002.out)
     have n4_ := Aside0.mk (blk_drew BK205.out)
     have n5_ := Aside0.mk (blk_drew BK215.out)
     have n6_ := Aside0.mk (below_drew1 HB.out)
     clear HO_4
     clear HO_216000
     clear HO_216001
     clear HO_216002
     clear BK205
     clear BK215
     clear HB
     have HO_4 := n0_
     have HO_216000 := n1_
     have HO_216001 := n2_
     have HO_216002 := n3_
     have BK205 := n4_
     have BK215 := n5_
     have HB := n6_
     clear n0_ n1_ n2_ n3_ n4_ n5_ n6_
     have p219 : 0 ≤ (x5_1 : Int) := oD
     have q219 : x5_1 < (t216.length : Int) := oD
     obtain ⟨ad219, e219, hx219_0⟩ := Kd.at_int (Kd.R_reads' HO_4.out).2.2 x5_1 p219 q219
     cases e219
     replace p219 := eq_true p219
     replace q219 := eq_true q219
     refine start_ (n := 10) (S := fun w' => w'.cell? ⟨gb215, 0, none⟩ = some (u216000) ∧ w'.cell? ⟨gb215, 1, none⟩ = some (u216001) ∧ w'.cell? ⟨gb215, 2, none⟩ = some (u216002) ∧ w'.cell? (ad219.add (x5_1).toNat) = some (.int .i64 (rd t216 x5_1))) (ds := [7, 9]) #[false, false, false, false, false, false, false, false, false, false] (by kernel_rfl) rfl rfl ⟨(blk_cell BK215.out 0).trans rfl, (blk_cell BK215.out 1).trans rfl, (blk_cell BK215.out 2).trans rfl, hx219_0⟩ (fun hHeld => ?_); refine with_tabW spec_l3Rule.tab6 spec_l3Rule.bits6 (fun HT_ HW_ => ?_)
     generalize wr.drew = w52 at HO_4 HO_216000 HO_216001 HO_216002 BK205 BK215 HB hx219_0 hHeld ⊢
     refine pU 0 20 #[true, false, false, false, false, false, false, false, false, false] ?_
     refine pU 2 22 #[true, false, true, false, false, false, false, false, false, false] ?_
     refine pU 3 23 #[true, false, true, true, false, false, false, false, false, false] ?_
     refine pU 4 24 #[true, false, true, true, true, false, false, false, false, false] ?_
     refine tU 1 21 #[true, true, true, true, true, false, false, false, false, false] ?_
     refine tU 5 25 #[true, true, true, true, true, true, false, false, false, false] ?_
     refine one_ (i := 6) (N := some 26) #[true, true, true, true, true, true, true, false, false, false] rfl rfl (one_of HT_.out (by kernel_rfl)) (by decide) (fun K hK => ?_)
     refine value_ (w1 := ?_) (v := ?_) (by rfl) rfl ?_ ?_
     rotate_left 2
     ·go_simp
      constructor
      ·rfl
      ·rfl
     refine hK.out _ _ ⟨(blk_cell (blk_alloc BK215.out _) 0).trans rfl, (blk_cell (blk_alloc BK215.out _) 1).trans rfl, (blk_cell (blk_alloc BK215.out _) 2).trans rfl, (World.cell?_alloc_lt _ _ _ (World.block_lt_of_cell? _ _ (hHeld.2.2.2))).trans (hHeld.2.2.2)⟩ (fun hHeld => ?_)
     clear hK K
     refine norm_ (a' := ?_) ?_ ?_
     rotate_left
     ·show Act.put _ (some 26) _ = _
      simp only [Act.put, sA, sZ, sS, i64_w, i32_w]
      rfl
     refine last_ (i := 7) (N := some 27) #[true, true, true, true, true, true, true, true, false, false] rfl rfl (one_of HT_.out (by kernel_rfl)) (by decide) (fun K hK => ?_)
     refine Kd.R_append_step (Kd.int .i64) (w0 := w) w.heap.size (by rfl) (.tmp 21) (.tmp 26) 37 3 (.int .i64 0) 8 rfl Try.underlying37 info3 rfl (by decide) (by omega) u216000 x216000_1 (rd t216 x5_1) [.int .i64 (rd t216 x5_1)] (fun k_ => some k_ ≠ (.slice (some ad219) t216.length co51 : Value).ownBlock ∧ some k_ ≠ (u216001 : Value).ownBlock) (fun _ => False) rfl rfl ?aP (fun _ hk => hk.elim) ?aF ?aO ?aB ?aS ?aL ?_
     (case aP => exact rfl)
     (case aB => exact bS)
     (case aF => exact (fun k_ hk => ⟨Kd.fresh' (Kd.R_lt (by (with_reducible repeat (first | apply Kd.R_alloc | apply Kd.R_drewN | apply Kd.R_drew)); exact HO_4.out)) k_ hk, Kd.fresh' (Kd.R_lt (by (with_reducible repeat (first | apply Kd.R_alloc | apply Kd.R_drewN | apply Kd.R_drew)); exact HO_216001.out)) k_ hk⟩))
     (case aO => exact (by (with_reducible repeat (first | apply Kd.R_alloc | apply Kd.R_drewN | apply Kd.R_drew)); exact HO_216000.out))
     (case aS => exact (below_size bS))
     (case aL => have := LMc19.out; omega)
     intro v221 w53 ho hb hg hat
     rw [← Ny220.out] at ho
     have n0_ := Aside0.mk (Kd.R_after (ok := (fun k_ => some k_ ≠ (u216001 : Value).ownBlock)) (by (with_reducible repeat (first | apply Kd.R_alloc | apply Kd.R_drewN | apply Kd.R_drew)); exact Kd.R_mono HO_4.out (fun _ hk => ⟨hk.2, hk.1⟩)) hg hat)
     have n1_ := Aside0.mk (Kd.R_after (ok := (fun k_ => some k_ ≠ (.slice (some ad219) t216.length co51 : Value).ownBlock)) (by (with_reducible repeat (first | apply Kd.R_alloc | apply Kd.R_drewN | apply Kd.R_drew)); exact HO_216001.out) hg hat)
     have n2_ := Aside0.mk (Kd.R_over' (by (with_reducible repeat (first | apply Kd.R_alloc | apply Kd.R_drewN | apply Kd.R_drew)); exact HO_216002.out) (Kd.R_typed (by (with_reducible repeat (first | apply Kd.R_alloc | apply Kd.R_drewN | apply Kd.R_drew)); exact HO_216000.out)) (by decide) hg)
     have n3_ := Aside0.mk (blk_grown (g := gb205) (o := .cells #[.slice none 0 0, .slice none 0 0, .slice none 0 0] 84 (0, 0)) (by (with_reducible repeat (first | refine blk_drewN ?_ _ | refine blk_drew ?_ | refine blk_alloc ?_ _)); exact BK205.out) hg (Kd.R_ne HO_216000.out BK205.out (by decide)))
     have n4_ := Aside0.mk (blk_grown (g := gb215) (o := .cells #[u216000, u216001, u216002] 84 (0, 0)) (by (with_reducible repeat (first | refine blk_drewN ?_ _ | refine blk_drew ?_ | refine blk_alloc ?_ _)); exact BK215.out) hg (Kd.R_ne HO_216000.out BK215.out (by decide)))
     have n5_ := Aside0.mk (hb)
     have n6_ := Aside0.mk (ho)
     clear HO_4
     clear HO_216001
     clear HO_216002
     clear BK205
     clear BK215
     clear HB
     clear HO_216000
     have HO_4 := n0_
     have HO_216001 := n1_
     have HO_216002 := n2_
     have BK205 := n3_
     have BK215 := n4_
     have HB := n5_
     have HO222 := n6_
     clear n0_ n1_ n2_ n3_ n4_ n5_ n6_
     clear ho hb hg hat
     obtain ⟨Ao54, co54, eo54⟩ := Kd.R_slice HO222.out
     (first | subst eo54 | (injection eo54 with f1_ f2_ f3_; have f4_ := f1_.symm; have f5_ := f3_.symm; clear f1_ f2_ f3_; subst f4_; subst f5_))
     refine hK.out _ _ ?_
     clear hK K
     refine norm_ (a' := ?_) ?_ ?_
     rotate_left
     ·show Act.put _ (some 27) _ = _
      simp only [Act.put, sA, sZ, sS, i64_w, i32_w]
      rfl
     refine pU 8 28 #[true, true, true, true, true, true, true, true, true, false] ?_
     refine last_ (i := 9) (N := none) #[true, true, true, true, true, true, true, true, true, true] rfl rfl (one_of HT_.out (by kernel_rfl)) (by decide) (fun K hK => ?_)
     have hs55 : w53.cell? ⟨gb215, 0, none⟩ = some (u216000) := (blk_cell BK215.out 0).trans rfl
     have hfs55 := blk_frozen BK215.out 0
     have hns55_0 := NB205_215.out
     have hms55_0 := NB215_205.out
     refine skip_ (w1 := ?_) (by rfl) rfl ?_ ?_
     rotate_left
     ·go_simp
      rfl
     refine hK.out _ _ ?_
     clear hK K
     refine done_ (done_of HT_.out (by kernel_rfl)) ?_
     try go_wp2
     have n0_ : Aside0 (Kd.R (Kd.int .i64) 3 (w53.setCell ⟨gb215, 0, none⟩ (.slice Ao54 y220.length co54)) w.heap.size (fun k_ => some k_ ≠ (u216001 : Value).ownBlock ∧ some k_ ≠ (.slice Ao54 y220.length co54 : Value).ownBlock) (.slice (some ad219) t216.length co51) t216) := ⟨by exact Kd.R_mono (Kd.R_far (p := ⟨gb215, 0, none⟩) (Kd.R_types HO_4.out BK215.out (by decide)) (fun _ hk => hk.2) (.slice Ao54 y220.length co54)) (fun _ hk => ⟨hk.1.1, hk.1.2⟩)⟩
     have n1_ : Aside0 (Kd.R (Kd.int .i64) 3 (w53.setCell ⟨gb215, 0, none⟩ (.slice Ao54 y220.length co54)) w.heap.size (fun k_ => some k_ ≠ (.slice (some ad219) t216.length co51 : Value).ownBlock ∧ some k_ ≠ (.slice Ao54 y220.length co54 : Value).ownBlock) u216001 x216001_1) := ⟨by exact Kd.R_mono (Kd.R_far (p := ⟨gb215, 0, none⟩) (Kd.R_types HO_216001.out BK215.out (by decide)) (fun _ hk => hk.2) (.slice Ao54 y220.length co54)) (fun _ hk => ⟨hk.1.1, hk.1.2⟩)⟩
     have n2_ : Aside0 (Kd.R k64 64 (w53.setCell ⟨gb215, 0, none⟩ (.slice Ao54 y220.length co54)) w.heap.size (fun _ => True) u216002 x216002_1) := ⟨by exact Kd.R_mono (Kd.R_far (p := ⟨gb215, 0, none⟩) (Kd.R_types HO_216002.out BK215.out (by decide)) (fun _ hk => hk.2) (.slice Ao54 y220.length co54)) (fun _ hk => trivial)⟩
     have n3_ : Aside0 (Kd.R (Kd.int .i64) 3 (w53.setCell ⟨gb215, 0, none⟩ (.slice Ao54 y220.length co54)) w.heap.size (fun k_ => some k_ ≠ (.slice (some ad219) t216.length co51 : Value).ownBlock ∧ some k_ ≠ (u216001 : Value).ownBlock) (.slice Ao54 y220.length co54) y220) := ⟨by exact Kd.R_mono (Kd.R_far (p := ⟨gb215, 0, none⟩) (Kd.R_types HO222.out BK215.out (by decide)) (fun _ hk => hk.2) (.slice Ao54 y220.length co54)) (fun _ hk => ⟨hk.1.1, hk.1.2⟩)⟩
     have n4_ : Aside0 ((w53.setCell ⟨gb215, 0, none⟩ (.slice Ao54 y220.length co54)).heap[gb205]? = some (.cells #[.slice none 0 0, .slice none 0 0, .slice none 0 0] 84 (0, 0))) := ⟨by refine blk_far ?_ NB205_215.out _; exact BK205.out⟩
     have n5_ : Aside0 ((w53.setCell ⟨gb215, 0, none⟩ (.slice Ao54 y220.length co54)).heap[gb215]? = some (.cells #[.slice Ao54 y220.length co54, u216001, u216002] 84 (0, 0))) := ⟨by refine blk_put (cs := #[u216000, u216001, u216002]) ?_ 0 _ rfl; exact BK215.out⟩
     have n6_ : Aside0 (Below w.heap.size w (w53.setCell ⟨gb215, 0, none⟩ (.slice Ao54 y220.length co54))) := ⟨by repeat (first | (with_reducible first | exact HB.out | apply below_alloc | apply pw_below_drewN | apply below_drew1 | refine below_set ?_ GE205.out | refine below_set ?_ GE215.out) | exact HB.out)⟩
     (try clear HO_4)
     (try clear HO_216001)
     (try clear HO_216002)
     (try clear HO222)
     (try clear BK205)
     (try clear BK215)
     (try clear HB)
     generalize (w53.setCell ⟨gb215, 0, none⟩ (.slice Ao54 y220.length co54)) = w56 at n0_ n1_ n2_ n3_ n4_ n5_ n6_ ⊢
     have HO_4 := n0_
     have HO_216001 := n1_
     have HO_216002 := n2_
     have HO222 := n3_
     have BK205 := n4_
     have BK215 := n5_
     have HB := n6_
     clear n0_ n1_ n2_ n3_ n4_ n5_ n6_
     have n0_ := Aside0.mk (Kd.R_drew HO_4.out)
     have n1_ := Aside0.mk (Kd.R_drew HO_216001.out)
     have n2_ := Aside0.mk (Kd.R_drew HO_216002.out)
     have n3_ := Aside0.mk (Kd.R_drew HO222.out)
     have n4_ := Aside0.mk (blk_drew BK205.out)
     have n5_ := Aside0.mk (blk_drew BK215.out)
     have n6_ := Aside0.mk (below_drew1 HB.out)
     clear HO_4
     clear HO_216001
     clear HO_216002
     clear HO222
     clear BK205
     clear BK215
     clear HB
     have HO_4 := n0_
     have HO_216001 := n1_
     have HO_216002 := n2_
     have HO222 := n3_
     have BK205 := n4_
     have BK215 := n5_
     have HB := n6_
     clear n0_ n1_ n2_ n3_ n4_ n5_ n6_
     have p224 : 0 ≤ (x5_1 : Int) := oD
     have q224 : x5_1 < (t216.length : Int) := oD
     obtain ⟨ad224, e224, hx224_0⟩ := Kd.at_int (Kd.R_reads' HO_4.out).2.2 x5_1 p224 q224
     obtain rfl : ad219 = ad224 := (by injection e224)
     replace p224 := eq_true p224
     replace q224 := eq_true q224
     have p225 : 0 ≤ ((rd t216 x5_1) : Int) := oD
     have q225 : (rd t216 x5_1) < (l0.length : Int) := oD
     obtain ⟨ad225, e225, hx225_0, hx225_1, hx225_2, hx225_3⟩ := at_T59 HR0.out (rd t216 x5_1) p225 q225
     have hw225_3 := hx225_3
     have hw225_2 := hx225_2
     have hw225_1 := hx225_1
     have hw225_0 := hx225_0
     cases e225
     replace hx225_0 := (cB HB.out hx225_0 :)
     replace hx225_1 := (cB HB.out hx225_1 :)
     replace hx225_2 := (cB HB.out hx225_2 :)
     replace hx225_3 := (cB HB.out hx225_3 :)
     replace p225 := eq_true p225
     replace q225 := eq_true q225
     refine start_ (n := 13) (S := fun w' => w'.cell? ⟨gb215, 0, none⟩ = some (.slice Ao54 y220.length co54) ∧ w'.cell? ⟨gb215, 1, none⟩ = some (u216001) ∧ w'.cell? ⟨gb215, 2, none⟩ = some (u216002) ∧ w'.cell? (ad219.add (x5_1).toNat) = some (.int .i64 (rd t216 x5_1)) ∧ w'.cell? (ad225.add (((rd t216 x5_1)).toNat * 4)) = some (.int .i64 ((rd_T59 l0 (rd t216 x5_1)).f0)) ∧ w'.cell? ⟨(ad225.add (((rd t216 x5_1)).toNat * 4)).block, (ad225.add (((rd t216 x5_1)).toNat * 4)).off + 1, none⟩ = some (.int .i64 ((rd_T59 l0 (rd t216 x5_1)).f1)) ∧ w'.cell? ⟨(ad225.add (((rd t216 x5_1)).toNat * 4)).block, (ad225.add (((rd t216 x5_1)).toNat * 4)).off + 2, none⟩ = some (.int .i64 ((rd_T59 l0 (rd t216 x5_1)).f2)) ∧ w'.cell? ⟨(ad225.add (((rd t216 x5_1)).toNat * 4)).block, (ad225.add (((rd t216 x5_1)).toNat * 4)).off + 3, none⟩ = some (.int .i64 ((rd_T59 l0 (rd t216 x5_1)).f3))) (ds := []) (bA 13 0) (by kernel_rfl) rfl rfl ⟨(blk_cell BK215.out 0).trans rfl, (blk_cell BK215.out 1).trans rfl, (blk_cell BK215.out 2).trans rfl, hx224_0, ((cB HB.out hw225_0 :)), ((cB HB.out hw225_1 :)), ((cB HB.out hw225_2 :)), ((cB HB.out hw225_3 :))⟩ (fun hHeld => ?_); refine with_tabW spec_l3Rule.tab8 spec_l3Rule.bits8 (fun HT_ HW_ => ?_)
     generalize w56.drew = w57 at HO_4 HO_216001 HO_216002 HO222 BK205 BK215 HB hx224_0 hx225_0 hx225_1 hx225_2 hx225_3 hHeld ⊢
     refine pU 0 29 (bA 13 1) ?_
     refine pU 1 30 (bA 13 3) ?_
     refine pU 4 33 (bA 13 19) ?_
     refine pU 5 34 (bA 13 51) ?_
     refine pU 6 35 (bA 13 115) ?_
     refine pU 7 36 (bA 13 243) ?_
     refine tU 2 31 (bA 13 247) ?_
     refine tU 8 37 (bA 13 503) ?_
     refine pU 9 38 (bA 13 1015) ?_
     refine pU 10 39 (bA 13 2039) ?_
     refine tU 11 40 (bA 13 4087) ?_
     refine one_ (i := 3) (N := some 32) (bA 13 4095) rfl rfl (one_of HT_.out (by kernel_rfl)) (by decide) (fun K hK => ?_)
     refine goes_ Try.func131 (by kernel_rfl) rfl #[.slice (some ad225) l0.length c0, .slice Ao54 y220.length co54] (by rfl) rfl rfl aE ?_
     with_reducible refine (spec_l3Total.calls k1 _ _ l0 _ _ y220 t223 _ ?side1 ?side2 ?side3 ?side4 A20.out).mono ?_
     (case side1 => repeat (first | exact (Kd.C_below HR0.out HB.out) | (with_reducible refine Kd.C_alloc ?_ _) | (with_reducible refine Kd.C_drewN ?_ _) | (with_reducible refine Kd.C_drew ?_)))
     (case side2 => exact HC0.out)
     (case side3 => repeat (first | exact (Kd.R_reads' HO222.out).2.2 | (with_reducible refine Kd.C_alloc ?_ _) | (with_reducible refine Kd.C_drewN ?_ _) | (with_reducible refine Kd.C_drew ?_)))
     (case side4 => exact (Kd.R_reads' HO222.out).2.1)
     rintro e w' ⟨rfl, ⟨nd, rfl⟩⟩
     refine ⟨_, rfl, ?_⟩
     refine hK.out _ _ ⟨(blk_cell BK215.out 0).trans rfl, (blk_cell BK215.out 1).trans rfl, (blk_cell BK215.out 2).trans rfl, hHeld.2.2.2.1, ((cB HB.out hw225_0 :)), ((cB HB.out hw225_1 :)), ((cB HB.out hw225_2 :)), ((cB HB.out hw225_3 :))⟩ (fun hHeld => ?_)
     clear hK K
     refine norm_ (a' := ?_) ?_ ?_
     rotate_left
     ·show Act.put _ (some 32) _ = _
      simp only [Act.put, sA, sZ, sS, i64_w, i32_w]
      rfl
     refine pU 12 41 (bA 13 8191) ?_
     refine done_ (done_of HT_.out (by kernel_rfl)) ?_
     try go_wp2
     (try (rw [drewN_self w57]; generalize hq_ : World.drewN w57 _ = w57; have n0_ : Aside0 (Kd.R (Kd.int .i64) 3 w57 w.heap.size (fun k_ => (some k_ ≠ (.slice (some ad219) t216.length co51 : Value).ownBlock ∧ some k_ ≠ (u216001 : Value).ownBlock)) (.slice Ao54 y220.length co54) y220) := ⟨by rw [← hq_]; exact (by (with_reducible repeat (first | apply Kd.R_alloc | apply Kd.R_drewN | apply Kd.R_drew)); exact HO222.out)⟩; have n1_ : Aside0 (Kd.R (Kd.int .i64) 3 w57 w.heap.size (fun k_ => (some k_ ≠ (.slice (some ad219) t216.length co51 : Value).ownBlock ∧ some k_ ≠ (.slice Ao54 y220.length co54 : Value).ownBlock)) u216001 x216001_1) := ⟨by rw [← hq_]; exact (by (with_reducible repeat (first | apply Kd.R_alloc | apply Kd.R_drewN | apply Kd.R_drew)); exact HO_216001.out)⟩; have n2_ : Aside0 (Kd.R k64 64 w57 w.heap.size (fun _ => True) u216002 x216002_1) := ⟨by rw [← hq_]; exact (by (with_reducible repeat (first | apply Kd.R_alloc | apply Kd.R_drewN | apply Kd.R_drew)); exact HO_216002.out)⟩; have n3_ : Aside0 (Kd.R (Kd.int .i64) 3 w57 w.heap.size (fun k_ => (some k_ ≠ (u216001 : Value).ownBlock ∧ some k_ ≠ (.slice Ao54 y220.length co54 : Value).ownBlock)) (.slice (some ad219) t216.length co51) t216) := ⟨by rw [← hq_]; exact (by (with_reducible repeat (first | apply Kd.R_alloc | apply Kd.R_drewN | apply Kd.R_drew)); exact HO_4.out)⟩; have n4_ : Aside0 (w57.heap[gb205]? = some (.cells #[.slice none 0 0, .slice none 0 0, .slice none 0 0] 84 (0, 0))) := ⟨by rw [← hq_]; exact (by (with_reducible repeat (first | refine blk_drewN ?_ _ | refine blk_drew ?_ | refine blk_alloc ?_ _)); exact BK205.out)⟩; have n5_ : Aside0 (w57.heap[gb215]? = some (.cells #[.slice Ao54 y220.length co54, u216001, u216002] 84 (0, 0))) := ⟨by rw [← hq_]; exact (by (with_reducible repeat (first | refine blk_drewN ?_ _ | refine blk_drew ?_ | refine blk_alloc ?_ _)); exact BK215.out)⟩; have n6_ : Aside0 (Below w.heap.size w w57) := ⟨by rw [← hq_]; exact bS⟩; clear HO222 HO_216001 HO_216002 HO_4 BK205 BK215 HB hq_; have HO222 := n0_; have HO_216001 := n1_; have HO_216002 := n2_; have HO_4 := n3_; have BK205 := n4_; have BK215 := n5_; have HB := n6_; clear n0_ n1_ n2_ n3_ n4_ n5_ n6_; have hczq205_0 : w57.cell? ⟨gb205, 0, none⟩ = some (.slice none 0 0) := (blk_cell BK205.out 0).trans rfl; have hfzq205_0 := blk_frozen BK205.out 0; have hczq205_1 : w57.cell? ⟨gb205, 1, none⟩ = some (.slice none 0 0) := (blk_cell BK205.out 1).trans rfl; have hfzq205_1 := blk_frozen BK205.out 1; have hczq205_2 : w57.cell? ⟨gb205, 2, none⟩ = some (.slice none 0 0) := (blk_cell BK205.out 2).trans rfl; have hfzq205_2 := blk_frozen BK205.out 2; have hczq215_0 : w57.cell? ⟨gb215, 0, none⟩ = some (.slice Ao54 y220.length co54) := (blk_cell BK215.out 0).trans rfl; have hfzq215_0 := blk_frozen BK215.out 0; have hczq215_1 : w57.cell? ⟨gb215, 1, none⟩ = some (u216001) := (blk_cell BK215.out 1).trans rfl; have hfzq215_1 := blk_frozen BK215.out 1; have hczq215_2 : w57.cell? ⟨gb215, 2, none⟩ = some (u216002) := (blk_cell BK215.out 2).trans rfl; have hfzq215_2 := blk_frozen BK215.out 2))
     have n0_ := Aside0.mk (Kd.R_drew HO_4.out)
     have n1_ := Aside0.mk (Kd.R_drew HO_216001.out)
     have n2_ := Aside0.mk (Kd.R_drew HO_216002.out)
     have n3_ := Aside0.mk (Kd.R_drew HO222.out)
     have n4_ := Aside0.mk (blk_drew BK205.out)
     have n5_ := Aside0.mk (blk_drew BK215.out)
     have n6_ := Aside0.mk (below_drew1 HB.out)
     clear HO_4
     clear HO_216001
     clear HO_216002
     clear HO222
     clear BK205
     clear BK215
     clear HB
     have HO_4 := n0_
     have HO_216001 := n1_
     have HO_216002 := n2_
     have HO222 := n3_
     have BK205 := n4_
     have BK215 := n5_
     have HB := n6_
     clear n0_ n1_ n2_ n3_ n4_ n5_ n6_
     have p238 : 0 ≤ (x5_1 : Int) := oD
     have q238 : x5_1 < (t216.length : Int) := oD
     obtain ⟨ad238, e238, hx238_0⟩ := Kd.at_int (Kd.R_reads' HO_4.out).2.2 x5_1 p238 q238
     obtain rfl : ad219 = ad238 := (by injection e238)
     replace p238 := eq_true p238
     replace q238 := eq_true q238
     refine start_ (n := 12) (S := fun w' => w'.cell? ⟨gb215, 0, none⟩ = some (.slice Ao54 y220.length co54) ∧ w'.cell? ⟨gb215, 1, none⟩ = some (u216001) ∧ w'.cell? ⟨gb215, 2, none⟩ = some (u216002) ∧ w'.cell? (ad219.add (x5_1).toNat) = some (.int .i64 (rd t216 x5_1))) (ds := [9, 11]) (bA 12 0) (by kernel_rfl) rfl rfl ⟨(blk_cell BK215.out 0).trans rfl, (blk_cell BK215.out 1).trans rfl, (blk_cell BK215.out 2).trans rfl, hx238_0⟩ (fun hHeld => ?_); refine with_tabW spec_l3Rule.tab13 spec_l3Rule.bits13 (fun HT_ HW_ => ?_)
     generalize w57.drew = w58 at HO_4 HO_216001 HO_216002 HO222 BK205 BK215 HB hx238_0 hHeld ⊢
     refine pU 0 62 (bA 12 1) ?_
     refine pU 2 64 (bA 12 5) ?_
     refine pU 3 65 (bA 12 13) ?_
     refine pU 4 66 (bA 12 29) ?_
     refine pU 6 68 (bA 12 93) ?_
     refine tU 1 63 (bA 12 95) ?_
     refine tU 5 67 (bA 12 127) ?_
     refine pU 7 69 (bA 12 255) ?_
     refine one_ (i := 8) (N := some 70) (bA 12 511) rfl rfl (one_of HT_.out (by kernel_rfl)) (by decide) (fun K hK => ?_)
     refine value_ (w1 := ?_) (v := ?_) (by rfl) rfl ?_ ?_
     rotate_left 2
     ·go_simp
      constructor
      ·rfl
      ·rfl
     refine hK.out _ _ ⟨(blk_cell (blk_alloc BK215.out _) 0).trans rfl, (blk_cell (blk_alloc BK215.out _) 1).trans rfl, (blk_cell (blk_alloc BK215.out _) 2).trans rfl, (World.cell?_alloc_lt _ _ _ (World.block_lt_of_cell? _ _ (hHeld.2.2.2))).trans (hHeld.2.2.2)⟩ (fun hHeld => ?_)
     clear hK K
     refine norm_ (a' := ?_) ?_ ?_
     rotate_left
     ·show Act.put _ (some 70) _ = _
      simp only [Act.put, sA, sZ, sS, i64_w, i32_w]
      rfl
     refine last_ (i := 9) (N := some 71) (bA 12 1023) rfl rfl (one_of HT_.out (by kernel_rfl)) (by decide) (fun K hK => ?_)
     refine Kd.R_append_step k64 (w0 := w) w.heap.size (by rfl) (.tmp 63) (.tmp 70) 50 64 (.agg #[(.int .i64 0), (.int .i64 0)]) 16 rfl Try.underlying50 info64 rfl (by decide) (by omega) u216002 x216002_1 (⟨rd t216 x5_1, (-1)⟩ : S64) [.int .i64 (rd t216 x5_1), .int .i64 (-1)] (fun _ => True) (fun _ => False) rfl rfl ?aP (fun _ hk => hk.elim) ?aF ?aO ?aB ?aS ?aL ?_
     (case aP => exact k64_mkM _ _ _ (⟨rd t216 x5_1, (-1)⟩ : S64))
     (case aB => exact bS)
     (case aF => exact (fun _ _ => trivial))
     (case aO => exact (by (with_reducible repeat (first | apply Kd.R_alloc | apply Kd.R_drewN | apply Kd.R_drew)); exact HO_216002.out))
     (case aS => exact (below_size bS))
     (case aL => have := LMc50.out; omega)
     intro v240 w59 ho hb hg hat
     rw [← Ny239.out] at ho
     have n0_ := Aside0.mk (Kd.R_over' (by (with_reducible repeat (first | apply Kd.R_alloc | apply Kd.R_drewN | apply Kd.R_drew)); exact HO_4.out) (Kd.R_typed (by (with_reducible repeat (first | apply Kd.R_alloc | apply Kd.R_drewN | apply Kd.R_drew)); exact HO_216002.out)) (by decide) hg)
     have n1_ := Aside0.mk (Kd.R_over' (by (with_reducible repeat (first | apply Kd.R_alloc | apply Kd.R_drewN | apply Kd.R_drew)); exact HO_216001.out) (Kd.R_typed (by (with_reducible repeat (first | apply Kd.R_alloc | apply Kd.R_drewN | apply Kd.R_drew)); exact HO_216002.out)) (by decide) hg)
     have n2_ := Aside0.mk (blk_grown (g := gb205) (o := .cells #[.slice none 0 0, .slice none 0 0, .slice none 0 0] 84 (0, 0)) (by (with_reducible repeat (first | refine blk_drewN ?_ _ | refine blk_drew ?_ | refine blk_alloc ?_ _)); exact BK205.out) hg (Kd.R_ne HO_216002.out BK205.out (by decide)))
     have n3_ := Aside0.mk (blk_grown (g := gb215) (o := .cells #[.slice Ao54 y220.length co54, u216001, u216002] 84 (0, 0)) (by (with_reducible repeat (first | refine blk_drewN ?_ _ | refine blk_drew ?_ | refine blk_alloc ?_ _)); exact BK215.out) hg (Kd.R_ne HO_216002.out BK215.out (by decide)))
     have n4_ := Aside0.mk (Kd.R_over' (by (with_reducible repeat (first | apply Kd.R_alloc | apply Kd.R_drewN | apply Kd.R_drew)); exact HO222.out) (Kd.R_typed (by (with_reducible repeat (first | apply Kd.R_alloc | apply Kd.R_drewN | apply Kd.R_drew)); exact HO_216002.out)) (by decide) hg)
     have n5_ := Aside0.mk (hb)
     have n6_ := Aside0.mk (ho)
     clear HO_4
     clear HO_216001
     clear BK205
     clear BK215
     clear HO222
     clear HB
     clear HO_216002
     have HO_4 := n0_
     have HO_216001 := n1_
     have BK205 := n2_
     have BK215 := n3_
     have HO222 := n4_
     have HB := n5_
     have HO241 := n6_
     clear n0_ n1_ n2_ n3_ n4_ n5_ n6_
     clear ho hb hg hat
     obtain ⟨Ao60, co60, eo60⟩ := Kd.R_slice HO241.out
     (first | subst eo60 | (injection eo60 with f1_ f2_ f3_; have f4_ := f1_.symm; have f5_ := f3_.symm; clear f1_ f2_ f3_; subst f4_; subst f5_))
     refine hK.out _ _ ?_
     clear hK K
     refine norm_ (a' := ?_) ?_ ?_
     rotate_left
     ·show Act.put _ (some 71) _ = _
      simp only [Act.put, sA, sZ, sS, i64_w, i32_w]
      rfl
     refine pU 10 72 (bA 12 2047) ?_
     refine last_ (i := 11) (N := none) (bA 12 4095) rfl rfl (one_of HT_.out (by kernel_rfl)) (by decide) (fun K hK => ?_)
     have hs61 : w59.cell? ⟨gb215, 2, none⟩ = some (u216002) := (blk_cell BK215.out 2).trans rfl
     have hfs61 := blk_frozen BK215.out 2
     have hns61_0 := NB205_215.out
     have hms61_0 := NB215_205.out
     refine skip_ (w1 := ?_) (by rfl) rfl ?_ ?_
     rotate_left
     ·go_simp
      rfl
     refine hK.out _ _ ?_
     clear hK K
     refine done_ (done_of HT_.out (by kernel_rfl)) ?_
     try go_wp2
     go_roundg k1
     case measure => have := HK1.out; omega
     case rel => exact ⟨(wrap64 (x5_1 + 1)), (y220), (x216001_1), (y239), (.slice Ao54 y220.length co54), (u216001), (.slice Ao60 y239.length co60), sD, H', ⟨by have := HK1.out; omega⟩, ⟨by (with_reducible repeat (first | apply Kd.R_alloc | apply Kd.R_drewN | apply Kd.R_drew)); exact Kd.R_mono (Kd.R_far (p := ⟨gb215, 2, none⟩) (Kd.R_types HO_4.out BK215.out (by decide)) (fun _ hk => hk.2) (.slice Ao60 y239.length co60)) (fun _ hk => ⟨hk.1.2, hk.1.1⟩)⟩, ⟨by (with_reducible repeat (first | apply Kd.R_alloc | apply Kd.R_drewN | apply Kd.R_drew)); exact Kd.R_mono (Kd.R_far (p := ⟨gb215, 2, none⟩) (Kd.R_types HO222.out BK215.out (by decide)) (fun _ hk => hk.2) (.slice Ao60 y239.length co60)) (fun _ hk => ⟨hk.1.1, hk.1.2⟩)⟩, ⟨by (with_reducible repeat (first | apply Kd.R_alloc | apply Kd.R_drewN | apply Kd.R_drew)); exact Kd.R_mono (Kd.R_far (p := ⟨gb215, 2, none⟩) (Kd.R_types HO_216001.out BK215.out (by decide)) (fun _ hk => hk.2) (.slice Ao60 y239.length co60)) (fun _ hk => ⟨hk.1.1, hk.1.2⟩)⟩, ⟨by (with_reducible repeat (first | apply Kd.R_alloc | apply Kd.R_drewN | apply Kd.R_drew)); exact Kd.R_mono (Kd.R_far (p := ⟨gb215, 2, none⟩) (Kd.R_types HO241.out BK215.out (by decide)) (fun _ hk => hk.2) (.slice Ao60 y239.length co60)) (fun _ hk => trivial)⟩, ⟨by (with_reducible repeat (first | refine blk_drewN ?_ _ | refine blk_drew ?_ | refine blk_alloc ?_ _)); refine blk_far ?_ NB205_215.out _; (with_reducible repeat (first | refine blk_drewN ?_ _ | refine blk_drew ?_ | refine blk_alloc ?_ _)); exact BK205.out⟩, ⟨by (with_reducible repeat (first | refine blk_drewN ?_ _ | refine blk_drew ?_ | refine blk_alloc ?_ _)); refine blk_put (cs := #[.slice Ao54 y220.length co54, u216001, u216002]) ?_ 2 _ rfl; (with_reducible repeat (first | refine blk_drewN ?_ _ | refine blk_drew ?_ | refine blk_alloc ?_ _)); exact BK215.out⟩, ⟨by repeat (first | (with_reducible first | exact HB.out | apply below_alloc | apply pw_below_drewN | apply below_drew1 | refine below_set ?_ GE205.out | refine below_set ?_ GE215.out) | exact HB.out)⟩⟩
   ·rw [if_neg c17] at H
    have c17b0 : decide (x5_1 < (t216.length : Int)) = false := decide_eq_false c17
    clear c17
    simp only [Option.some.injEq, Prod.mk.injEq] at H
    obtain ⟨rfl, rfl, rfl⟩ := H
    obtain ⟨Ao62, co62, eo62⟩ := Kd.R_slice HO_4.out
    subst eo62
    have hnb63 := NB215_205.out
    have hnc63 := NB205_215.out
    have hcz64_0 : wr.cell? ⟨gb215, 0, none⟩ = some (u216000) := (blk_cell BK215.out 0).trans rfl
    have hcz64_1 : wr.cell? ⟨gb215, 1, none⟩ = some (u216001) := (blk_cell BK215.out 1).trans rfl
    have hcz64_2 : wr.cell? ⟨gb215, 2, none⟩ = some (u216002) := (blk_cell BK215.out 2).trans rfl
    have hfz64_0 := blk_frozen BK215.out 0
    have hfz64_1 := blk_frozen BK215.out 1
    have hfz64_2 := blk_frozen BK215.out 2
    obtain ⟨Ao65, co65, eo65⟩ := Kd.R_slice HO_216000.out
    subst eo65
    have hcz66_0 : wr.cell? ⟨gb205, 0, none⟩ = some (.slice none 0 0) := (blk_cell BK205.out 0).trans rfl
    have hcz66_1 : wr.cell? ⟨gb205, 1, none⟩ = some (.slice none 0 0) := (blk_cell BK205.out 1).trans rfl
    have hcz66_2 : wr.cell? ⟨gb205, 2, none⟩ = some (.slice none 0 0) := (blk_cell BK205.out 2).trans rfl
    have hfz66_0 := blk_frozen BK205.out 0
    have hfz66_1 := blk_frozen BK205.out 1
    have hfz66_2 := blk_frozen BK205.out 2
    obtain ⟨Ao67, co67, eo67⟩ := Kd.R_slice HO_216001.out
    subst eo67
    obtain ⟨Ao68, co68, eo68⟩ := Kd.R_slice HO_216002.out
    subst eo68
    go_wp2
    refine bodyPost_ret (results_cell_row rfl _ _ gb205 84 #[.slice Ao65 x216000_1.length co65, .slice Ao67 x216001_1.length co67, .slice Ao68 x216002_1.length co68] (0, 0) _ rfl (by (with_reducible repeat (first | refine blk_drewN ?_ _ | refine blk_drew ?_ | refine blk_alloc ?_ _)); refine blk_put (cs := #[.slice Ao65 x216000_1.length co65, .slice Ao67 x216001_1.length co67, .slice none 0 0]) ?_ 2 _ rfl; (with_reducible repeat (first | refine blk_drewN ?_ _ | refine blk_drew ?_ | refine blk_alloc ?_ _)); refine blk_put (cs := #[.slice Ao65 x216000_1.length co65, .slice none 0 0, .slice none 0 0]) ?_ 1 _ rfl; (with_reducible repeat (first | refine blk_drewN ?_ _ | refine blk_drew ?_ | refine blk_alloc ?_ _)); refine blk_put (cs := #[.slice none 0 0, .slice none 0 0, .slice none 0 0]) ?_ 0 _ rfl; (with_reducible repeat (first | refine blk_drewN ?_ _ | refine blk_drew ?_ | refine blk_alloc ?_ _)); exact BK205.out) Try.underlying84 rfl (by kernel_rfl)) rfl ?_
    exact ⟨_, _, _, by first | rfl | (simp [errW_none, errW_some] <;> rfl) | (simp [*, errW_none, errW_some] <;> rfl), by (with_reducible repeat (first | apply Kd.R_alloc | apply Kd.R_drewN | apply Kd.R_drew)); exact Kd.R_mono (Kd.R_far (p := ⟨gb205, 2, none⟩) (Kd.R_far (p := ⟨gb205, 1, none⟩) (Kd.R_far (p := ⟨gb205, 0, none⟩) (Kd.R_types HO_216000.out BK205.out (by decide)) (fun _ hk => hk.2) (.slice Ao65 x216000_1.length co65)) (fun _ hk => hk.2) (.slice Ao67 x216001_1.length co67)) (fun _ hk => hk.2) (.slice Ao68 x216002_1.length co68)) (fun _ hk => hk.1.2), by (with_reducible repeat (first | apply Kd.R_alloc | apply Kd.R_drewN | apply Kd.R_drew)); exact Kd.R_mono (Kd.R_far (p := ⟨gb205, 2, none⟩) (Kd.R_far (p := ⟨gb205, 1, none⟩) (Kd.R_far (p := ⟨gb205, 0, none⟩) (Kd.R_types HO_216001.out BK205.out (by decide)) (fun _ hk => hk.2) (.slice Ao65 x216000_1.length co65)) (fun _ hk => hk.2) (.slice Ao67 x216001_1.length co67)) (fun _ hk => hk.2) (.slice Ao68 x216002_1.length co68)) (fun _ hk => hk.1.2), by (with_reducible repeat (first | apply Kd.R_alloc | apply Kd.R_drewN | apply Kd.R_drew)); exact Kd.R_mono (Kd.R_far (p := ⟨gb205, 2, none⟩) (Kd.R_far (p := ⟨gb205, 1, none⟩) (Kd.R_far (p := ⟨gb205, 0, none⟩) (Kd.R_types HO_216002.out BK205.out (by decide)) (fun _ hk => hk.2) (.slice Ao65 x216000_1.length co65)) (fun _ hk => hk.2) (.slice Ao67 x216001_1.length co67)) (fun _ hk => hk.2) (.slice Ao68 x216002_1.length co68)) (fun _ hk => trivial), bS⟩

end Go.Proofs.Ythhmembnhnghiaa.OFnExactLeftAfter
