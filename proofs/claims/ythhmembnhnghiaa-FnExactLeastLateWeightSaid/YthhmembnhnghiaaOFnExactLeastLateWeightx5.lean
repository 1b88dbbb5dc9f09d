/- Functions of the program as plain Lean functions, with their contracts: written by this session's program ownprint.py. Conditions: none. -/
import Derived.Test.YthhmembnhnghiaaOFnExactLeastLateWeightx0
namespace Go.Proofs.Ythhmembnhnghiaa.OFnExactLeastLateWeight
open Go.RowKit Go.Proofs.YthhmembnhnghiaaW.PrintWords Go.Proofs.YthhmembnhnghiaaW.PrintLast Go.Proofs.YthhmembnhnghiaaW.PrintMore
attribute [local go_sem] max2_int min2_int max_two min_two max_three min_three max_four min_four   -- for this text's walks alone
set_option linter.unusedVariables false
set_option linter.unusedSimpArgs false

/-! ### impl_ratioOf: function 61 -/
def impl_ratioOf.l0 : Nat → List (S59) → List Int → Int → Int → Int → Int → Option (Int × Int)
 | 0, _, _, _, _, _, _ => none
 | k + 1, x0, x8, x9, x10, x238000, x238001 => if x10 < x9 then (if 0 ≤ x10 then (if x10 < (x8.length : Int) then (if 0 ≤ (rd x8 x10) then (if (rd x8 x10) < (x0.length : Int) then (impl_ratioOf.l0 k x0 x8 x9 (wrap64 (x10 + 1)) (wrap64 (x238000 + ((rd_T59 x0 (rd x8 x10)).f1))) (wrap64 (x238001 + ((rd_T59 x0 (rd x8 x10)).f0)))) else (none)) else (none)) else (none)) else (none)) else (some (x238000, x238001))
def impl_ratioOf.f (k : Nat) (l0 : List (S59)) (l1 : List Int) : Option (Int × Int) := impl_ratioOf.l0 k l0 l1 (l1.length : Int) 0 0 0
theorem impl_ratioOf.mono_l : ∀ k, (∀ y0 y1 y2 y3 y4 y5, LeO (impl_ratioOf.l0 k y0 y1 y2 y3 y4 y5) (impl_ratioOf.l0 (k + 1) y0 y1 y2 y3 y4 y5))
 | 0 => fun _ _ _ _ _ _ r h => by simp [impl_ratioOf.l0] at h
 | k + 1 => by
  have ih0 := impl_ratioOf.mono_l k
  ·intro y0 y1 y2 y3 y4 y5
   unfold impl_ratioOf.l0
   repeat' first
   | (with_reducible exact ih0 _ _ _ _ _ _)
   | (with_reducible exact LeO.refl _)
   | (with_reducible exact LeO.none _)
   | (with_reducible refine LeO.ite ?_ ?_)
   | (with_reducible refine LeO.bind ?_ (fun _ => ?_))
   | exact ih0 _ _ _ _ _ _
   | exact LeO.none _
   | refine LeO.ite ?_ ?_
   | refine LeO.bind ?_ (fun _ => ?_)
theorem impl_ratioOf.mono : ∀ a0 a1 k, LeO (impl_ratioOf.f k a0 a1) (impl_ratioOf.f (k + 1) a0 a1) := by
 intro a0 a1 k
 have ih0 := impl_ratioOf.mono_l k
 unfold impl_ratioOf.f
 repeat' first
   | (with_reducible exact ih0 _ _ _ _ _ _)
   | (with_reducible exact LeO.refl _)
   | (with_reducible exact LeO.none _)
   | (with_reducible refine LeO.ite ?_ ?_)
   | (with_reducible refine LeO.bind ?_ (fun _ => ?_))
   | exact ih0 _ _ _ _ _ _
   | exact LeO.none _
   | refine LeO.ite ?_ ?_
   | refine LeO.bind ?_ (fun _ => ?_)
def impl_ratioOf.T5 : Bool × List (List Nat × List Nat) := (true, [([], []), ([0], [0]), ([], []), ([], []), ([2, 3], [2, 3]), ([4], [4]), ([5], [5]), ([1, 6], [1, 6]), ([0, 1, 2, 3, 4, 5, 6, 7], []), ([8, 7, 0, 1, 2, 3, 4, 5, 6, 7], [7, 8])])
def impl_ratioOf.B5 : List Nat := [0, 1, 0, 0, 12, 28, 60, 127, 255, 511]
theorem impl_ratioOf.tab5 : rtab .any (opsOf Try.f61 5) = impl_ratioOf.T5 := by kernel_rfl
theorem impl_ratioOf.bits5 : waitsOk impl_ratioOf.T5.2 impl_ratioOf.B5 = true := by kernel_rfl
def impl_ratioOf.T6 : Bool × List (List Nat × List Nat) := (true, [([], []), ([0], [0]), ([], []), ([], []), ([2, 3], [2, 3]), ([4], [4]), ([5], [5]), ([1, 6], [1, 6]), ([0, 1, 2, 3, 4, 5, 6, 7], []), ([8, 7, 0, 1, 2, 3, 4, 5, 6, 7], [7, 8])])
def impl_ratioOf.B6 : List Nat := [0, 1, 0, 0, 12, 28, 60, 127, 255, 511]
theorem impl_ratioOf.tab6 : rtab .any (opsOf Try.f61 6) = impl_ratioOf.T6 := by kernel_rfl
theorem impl_ratioOf.bits6 : waitsOk impl_ratioOf.T6.2 impl_ratioOf.B6 = true := by kernel_rfl
set_option maxHeartbeats 8000000 in
set_option maxRecDepth 100000 in
theorem impl_ratioOf.calls (k : Nat) (A0 : Option Addr) (c0 : Nat) (l0 : List (S59)) (A1 : Option Addr) (c1 : Nat) (l1 : List Int) (r1 : Int) (r2 : Int) (w : World) (hr0 : Kd.C k59 w A0 l0.length l0) (hc0 : l0.length ≤ c0) (hr1 : Kd.C (Kd.int .i64) w A1 l1.length l1) (hc1 : l1.length ≤ c1) (h : impl_ratioOf.f k l0 l1 = some (r1, r2)) :
  Calls Try.prog 61 #[.slice A0 l0.length c0, .slice A1 l1.length c1] w fun e w' => e = .returned (.agg #[.int .i64 r1, .int .i64 r2]) ∧ Below w.heap.size w w' := by
 have hu64 := Try.underlying64
 have HR0 := Aside0.mk hr0
 have HC0 := Aside0.mk hc0
 clear hr0 hc0
 have HR1 := Aside0.mk hr1
 have HC1 := Aside0.mk hc1
 clear hr1 hc1
 have HB := Aside0.mk (Below.refl w.heap.size w)
 have H : (impl_ratioOf.l0 k l0 l1 (l1.length : Int) 0 0 0) = some (r1, r2) := h
 clear h
 have H' := Aside0.mk H
 clear H
 go_enter Try.func61, Try.ntmps61
 go_wp2_with (first | ((with_reducible refine gate_dst (N := 4) rfl ?_); refine box_event ?hg (N := 4) ?hd (cs := #[.int .i64 0, .int .i64 0]) (t := 64) ?hr ?_; (case hd => rfl); (case hg => rfl); (case hr => first | (go_simp; done) | (go_simp; rfl)); intro gb236 hg w3 hbox hb; have n0_ := Aside0.mk (below_step bB hb); have n1_ := Aside0.mk (hbox); have n2_ := Aside0.mk ((by rw [hg]; exact (below_size bB) : w.heap.size ≤ gb236)); have n3_ := Aside0.mk ((by rw [hg]; exact (below_size bB) : w.heap.size ≤ gb236)); clear HB; have HB := n0_; have BK236 := n1_; have GW236 := n2_; have GE236 := n3_; clear n0_ n1_ n2_ n3_; clear hb hbox hg) | ((with_reducible refine gate_dst (N := 5) rfl ?_); refine box_event ?hg (N := 5) ?hd (cs := #[.int .i64 0, .int .i64 0]) (t := 64) ?hr ?_; (case hd => rfl); (case hg => rfl); (case hr => first | (go_simp; done) | (go_simp; rfl)); intro gb237 hg w4 hbox hb; have n0_ := Aside0.mk (blk_below (g := gb236) (o := .cells #[.int .i64 0, .int .i64 0] 64 (0, 0)) (by (with_reducible repeat (first | refine blk_drewN ?_ _ | refine blk_drew ?_ | refine blk_alloc ?_ _)); exact BK236.out) hb); have n1_ := Aside0.mk (below_step bS hb); have n2_ := Aside0.mk (hbox); have n3_ := Aside0.mk ((by rw [hg]; exact (below_size bS) : w.heap.size ≤ gb237)); have n4_ := Aside0.mk ((by rw [hg]; exact (below_size bS) : w.heap.size ≤ gb237)); have n5_ := Aside0.mk ((by rw [hg]; exact Nat.ne_of_lt (blk_lt (g := gb236) (o := .cells #[.int .i64 0, .int .i64 0] 64 (0, 0)) (by (with_reducible repeat (first | refine blk_drewN ?_ _ | refine blk_drew ?_ | refine blk_alloc ?_ _)); exact BK236.out)) : gb236 ≠ gb237)); have n6_ := Aside0.mk ((by rw [hg]; exact Nat.ne_of_gt (blk_lt (g := gb236) (o := .cells #[.int .i64 0, .int .i64 0] 64 (0, 0)) (by (with_reducible repeat (first | refine blk_drewN ?_ _ | refine blk_drew ?_ | refine blk_alloc ?_ _)); exact BK236.out)) : gb237 ≠ gb236)); clear BK236; clear HB; have BK236 := n0_; have HB := n1_; have BK237 := n2_; have GW237 := n3_; have GE237 := n4_; have NB236_237 := n5_; have NB237_236 := n6_; clear n0_ n1_ n2_ n3_ n4_ n5_ n6_; clear hb hbox hg))
 go_loopg [10] k (fun kq v10 w' => ∃ (x10_1 : Int) (x238000_1 : Int) (x238001_1 : Int), v10 = .int .i64 x10_1 ∧ Aside0 (impl_ratioOf.l0 kq l0 l1 (l1.length : Int) x10_1 x238000_1 x238001_1 = some (r1, r2)) ∧ Aside0 (kq ≤ k) ∧ Aside0 (w'.heap[gb236]? = some (.cells #[.int .i64 0, .int .i64 0] 64 (0, 0))) ∧ Aside0 (w'.heap[gb237]? = some (.cells #[.int .i64 x238000_1, .int .i64 x238001_1] 64 (0, 0))) ∧ Aside0 (Below w.heap.size w w'))
 case atStart => exact ⟨(0), (0), (0), (by first | rfl | (simp; done) | (simp [*]; done)), H', ⟨Nat.le_refl _⟩, ⟨by (with_reducible repeat (first | refine blk_drewN ?_ _ | refine blk_drew ?_ | refine blk_alloc ?_ _)); exact BK236.out⟩, ⟨by (with_reducible repeat (first | refine blk_drewN ?_ _ | refine blk_drew ?_ | refine blk_alloc ?_ _)); exact BK237.out⟩, ⟨by repeat (first | (with_reducible first | exact HB.out | apply below_alloc | apply pw_below_drewN | apply below_drew1 | refine below_set ?_ GE236.out | refine below_set ?_ GE237.out) | exact HB.out)⟩⟩
 case round =>
  clear H'
  try clear c1
  try clear p2
  obtain ⟨x10_1, x238000_1, x238001_1, rfl, HA, HK1, BK236, BK237, HB⟩ := hrel
  cases gk with
  | zero => exact absurd HA.out (by simp [impl_ratioOf.l0])
  | succ k1 =>
   have H := HA.out
   clear HA
   simp only [impl_ratioOf.l0] at H
   by_cases c5 : x10_1 < (l1.length : Int)
   ·rw [if_pos c5] at H
    have c5b0 : decide (x10_1 < (l1.length : Int)) = true := decide_eq_true c5
    clear c5
    by_cases c6 : 0 ≤ x10_1
    ·rw [if_pos c6] at H
     have c6b0 : decide (0 ≤ x10_1) = true := decide_eq_true c6
     clear c6
     by_cases c7 : x10_1 < (l1.length : Int)
     ·rw [if_pos c7] at H
      have c7b0 : decide (x10_1 < (l1.length : Int)) = true := decide_eq_true c7
      clear c7
      by_cases c8 : 0 ≤ (rd l1 x10_1)
      ·rw [if_pos c8] at H
       have c8b0 : decide (0 ≤ (rd l1 x10_1)) = true := decide_eq_true c8
       clear c8
       by_cases c9 : (rd l1 x10_1) < (l0.length : Int)
       ·rw [if_pos c9] at H
        have c9b0 : decide ((rd l1 x10_1) < (l0.length : Int)) = true := decide_eq_true c9
        clear c9
        have H' := Aside0.mk H
        clear H
        have p238 : 0 ≤ (x10_1 : Int) := oD
        have q238 : x10_1 < (l1.length : Int) := oD
        obtain ⟨ad238, e238, hx238_0⟩ := Kd.at_int HR1.out x10_1 p238 q238
        cases e238
        replace hx238_0 := (cB HB.out hx238_0 :)
        replace p238 := eq_true p238
        replace q238 := eq_true q238
        try go_wp2
        have n0_ := Aside0.mk (blk_drew BK236.out)
        have n1_ := Aside0.mk (blk_drew BK237.out)
        have n2_ := Aside0.mk (below_drew1 HB.out)
        clear BK236
        clear BK237
        clear HB
        have BK236 := n0_
        have BK237 := n1_
        have HB := n2_
        clear n0_ n1_ n2_
        have p239 : 0 ≤ ((rd l1 x10_1) : Int) := oD
        have q239 : (rd l1 x10_1) < (l0.length : Int) := oD
        obtain ⟨ad239, e239, hx239_0, hx239_1, hx239_2, hx239_3⟩ := at_T59 HR0.out (rd l1 x10_1) p239 q239
        have hw239_3 := hx239_3
        have hw239_2 := hx239_2
        have hw239_1 := hx239_1
        have hw239_0 := hx239_0
        cases e239
        replace hx239_0 := (cB HB.out hx239_0 :)
        replace hx239_1 := (cB HB.out hx239_1 :)
        replace hx239_2 := (cB HB.out hx239_2 :)
        replace hx239_3 := (cB HB.out hx239_3 :)
        replace p239 := eq_true p239
        replace q239 := eq_true q239
        refine start_ (n := 10) (S := fun w' => w'.cell? ⟨gb237, 0, none⟩ = some (.int .i64 x238000_1) ∧ w'.cell? ⟨gb237, 1, none⟩ = some (.int .i64 x238001_1) ∧ w'.cell? (ad239.add (((rd l1 x10_1)).toNat * 4)) = some (.int .i64 ((rd_T59 l0 (rd l1 x10_1)).f0)) ∧ w'.cell? ⟨(ad239.add (((rd l1 x10_1)).toNat * 4)).block, (ad239.add (((rd l1 x10_1)).toNat * 4)).off + 1, none⟩ = some (.int .i64 ((rd_T59 l0 (rd l1 x10_1)).f1)) ∧ w'.cell? ⟨(ad239.add (((rd l1 x10_1)).toNat * 4)).block, (ad239.add (((rd l1 x10_1)).toNat * 4)).off + 2, none⟩ = some (.int .i64 ((rd_T59 l0 (rd l1 x10_1)).f2)) ∧ w'.cell? ⟨(ad239.add (((rd l1 x10_1)).toNat * 4)).block, (ad239.add (((rd l1 x10_1)).toNat * 4)).off + 3, none⟩ = some (.int .i64 ((rd_T59 l0 (rd l1 x10_1)).f3))) (ds := [9]) #[false, false, false, false, false, false, false, false, false, false] (by kernel_rfl) rfl rfl ⟨(blk_cell BK237.out 0).trans rfl, (blk_cell BK237.out 1).trans rfl, ((cB HB.out hw239_0 :)), ((cB HB.out hw239_1 :)), ((cB HB.out hw239_2 :)), ((cB HB.out hw239_3 :))⟩ (fun hHeld => ?_); refine with_tabW impl_ratioOf.tab5 impl_ratioOf.bits5 (fun HT_ HW_ => ?_)
        generalize wr.drew = w10 at BK236 BK237 HB hx239_0 hx239_1 hx239_2 hx239_3 hHeld ⊢
        refine pU 0 14 #[true, false, false, false, false, false, false, false, false, false] ?_
        refine pU 2 16 #[true, false, true, false, false, false, false, false, false, false] ?_
        refine pU 3 17 #[true, false, true, true, false, false, false, false, false, false] ?_
        refine pU 4 18 #[true, false, true, true, true, false, false, false, false, false] ?_
        refine pU 5 19 #[true, false, true, true, true, true, false, false, false, false] ?_
        refine tU 1 15 #[true, true, true, true, true, true, false, false, false, false] ?_
        refine tU 6 20 #[true, true, true, true, true, true, true, false, false, false] ?_
        refine pU 7 21 #[true, true, true, true, true, true, true, true, false, false] ?_
        refine pU 8 22 #[true, true, true, true, true, true, true, true, true, false] ?_
        refine last_ (i := 9) (N := none) #[true, true, true, true, true, true, true, true, true, true] rfl rfl (one_of HT_.out (by kernel_rfl)) (by decide) (fun K hK => ?_)
        have hs11 : w10.cell? ⟨gb237, 0, none⟩ = some (.int .i64 x238000_1) := (blk_cell BK237.out 0).trans rfl
        have hfs11 := blk_frozen BK237.out 0
        have hns11_0 := NB236_237.out
        have hms11_0 := NB237_236.out
        refine skip_ (w1 := ?_) (by rfl) rfl ?_ ?_
        rotate_left
        ·go_simp
         rfl
        refine hK.out _ _ ?_
        clear hK K
        refine done_ (done_of HT_.out (by kernel_rfl)) ?_
        try go_wp2
        have n0_ : Aside0 ((w10.setCell ⟨gb237, 0, none⟩ (.int .i64 (wrap64 (x238000_1 + ((rd_T59 l0 (rd l1 x10_1)).f1))))).heap[gb236]? = some (.cells #[.int .i64 0, .int .i64 0] 64 (0, 0))) := ⟨by (with_reducible repeat (first | refine blk_drewN ?_ _ | refine blk_drew ?_ | refine blk_alloc ?_ _)); refine blk_far ?_ NB236_237.out _; (with_reducible repeat (first | refine blk_drewN ?_ _ | refine blk_drew ?_ | refine blk_alloc ?_ _)); exact BK236.out⟩
        have n1_ : Aside0 ((w10.setCell ⟨gb237, 0, none⟩ (.int .i64 (wrap64 (x238000_1 + ((rd_T59 l0 (rd l1 x10_1)).f1))))).heap[gb237]? = some (.cells #[.int .i64 (wrap64 (x238000_1 + ((rd_T59 l0 (rd l1 x10_1)).f1))), .int .i64 x238001_1] 64 (0, 0))) := ⟨by (with_reducible repeat (first | refine blk_drewN ?_ _ | refine blk_drew ?_ | refine blk_alloc ?_ _)); refine blk_put (cs := #[.int .i64 x238000_1, .int .i64 x238001_1]) ?_ 0 _ rfl; (with_reducible repeat (first | refine blk_drewN ?_ _ | refine blk_drew ?_ | refine blk_alloc ?_ _)); exact BK237.out⟩
        have n2_ : Aside0 (Below w.heap.size w (w10.setCell ⟨gb237, 0, none⟩ (.int .i64 (wrap64 (x238000_1 + ((rd_T59 l0 (rd l1 x10_1)).f1)))))) := ⟨by repeat (first | (with_reducible first | exact HB.out | apply below_alloc | apply pw_below_drewN | apply below_drew1 | refine below_set ?_ GE236.out | refine below_set ?_ GE237.out) | exact HB.out)⟩
        (try clear BK236)
        (try clear BK237)
        (try clear HB)
        generalize (w10.setCell ⟨gb237, 0, none⟩ (.int .i64 (wrap64 (x238000_1 + ((rd_T59 l0 (rd l1 x10_1)).f1))))) = w12 at n0_ n1_ n2_ ⊢
        have BK236 := n0_
        have BK237 := n1_
        have HB := n2_
        clear n0_ n1_ n2_
        have n0_ := Aside0.mk (blk_drew BK236.out)
        have n1_ := Aside0.mk (blk_drew BK237.out)
        have n2_ := Aside0.mk (below_drew1 HB.out)
        clear BK236
        clear BK237
        clear HB
        have BK236 := n0_
        have BK237 := n1_
        have HB := n2_
        clear n0_ n1_ n2_
        have p240 : 0 ≤ ((rd l1 x10_1) : Int) := oD
        have q240 : (rd l1 x10_1) < (l0.length : Int) := oD
        obtain ⟨ad240, e240, hx240_0, hx240_1, hx240_2, hx240_3⟩ := at_T59 HR0.out (rd l1 x10_1) p240 q240
        have hw240_3 := hx240_3
        have hw240_2 := hx240_2
        have hw240_1 := hx240_1
        have hw240_0 := hx240_0
        obtain rfl : ad239 = ad240 := (by injection e240)
        replace hx240_0 := (cB HB.out hx240_0 :)
        replace hx240_1 := (cB HB.out hx240_1 :)
        replace hx240_2 := (cB HB.out hx240_2 :)
        replace hx240_3 := (cB HB.out hx240_3 :)
        replace p240 := eq_true p240
        replace q240 := eq_true q240
        refine start_ (n := 10) (S := fun w' => w'.cell? ⟨gb237, 0, none⟩ = some (.int .i64 (wrap64 (x238000_1 + ((rd_T59 l0 (rd l1 x10_1)).f1)))) ∧ w'.cell? ⟨gb237, 1, none⟩ = some (.int .i64 x238001_1) ∧ w'.cell? (ad239.add (((rd l1 x10_1)).toNat * 4)) = some (.int .i64 ((rd_T59 l0 (rd l1 x10_1)).f0)) ∧ w'.cell? ⟨(ad239.add (((rd l1 x10_1)).toNat * 4)).block, (ad239.add (((rd l1 x10_1)).toNat * 4)).off + 1, none⟩ = some (.int .i64 ((rd_T59 l0 (rd l1 x10_1)).f1)) ∧ w'.cell? ⟨(ad239.add (((rd l1 x10_1)).toNat * 4)).block, (ad239.add (((rd l1 x10_1)).toNat * 4)).off + 2, none⟩ = some (.int .i64 ((rd_T59 l0 (rd l1 x10_1)).f2)) ∧ w'.cell? ⟨(ad239.add (((rd l1 x10_1)).toNat * 4)).block, (ad239.add (((rd l1 x10_1)).toNat * 4)).off + 3, none⟩ = some (.int .i64 ((rd_T59 l0 (rd l1 x10_1)).f3))) (ds := [9]) #[false, false, false, false, false, false, false, false, false, false] (by kernel_rfl) rfl rfl ⟨(blk_cell BK237.out 0).trans rfl, (blk_cell BK237.out 1).trans rfl, ((cB HB.out hw240_0 :)), ((cB HB.out hw240_1 :)), ((cB HB.out hw240_2 :)), ((cB HB.out hw240_3 :))⟩ (fun hHeld => ?_); refine with_tabW impl_ratioOf.tab6 impl_ratioOf.bits6 (fun HT_ HW_ => ?_)
        generalize w12.drew = w13 at BK236 BK237 HB hx240_0 hx240_1 hx240_2 hx240_3 hHeld ⊢
        refine pU 0 23 #[true, false, false, false, false, false, false, false, false, false] ?_
        refine pU 2 25 #[true, false, true, false, false, false, false, false, false, false] ?_
        refine pU 3 26 #[true, false, true, true, false, false, false, false, false, false] ?_
        refine pU 4 27 #[true, false, true, true, true, false, false, false, false, false] ?_
        refine pU 5 28 #[true, false, true, true, true, true, false, false, false, false] ?_
        refine tU 1 24 #[true, true, true, true, true, true, false, false, false, false] ?_
        refine tU 6 29 #[true, true, true, true, true, true, true, false, false, false] ?_
        refine pU 7 30 #[true, true, true, true, true, true, true, true, false, false] ?_
        refine pU 8 31 #[true, true, true, true, true, true, true, true, true, false] ?_
        refine last_ (i := 9) (N := none) #[true, true, true, true, true, true, true, true, true, true] rfl rfl (one_of HT_.out (by kernel_rfl)) (by decide) (fun K hK => ?_)
        have hs14 : w13.cell? ⟨gb237, 1, none⟩ = some (.int .i64 x238001_1) := (blk_cell BK237.out 1).trans rfl
        have hfs14 := blk_frozen BK237.out 1
        have hns14_0 := NB236_237.out
        have hms14_0 := NB237_236.out
        refine skip_ (w1 := ?_) (by rfl) rfl ?_ ?_
        rotate_left
        ·go_simp
         rfl
        refine hK.out _ _ ?_
        clear hK K
        refine done_ (done_of HT_.out (by kernel_rfl)) ?_
        try go_wp2
        go_roundg k1
        case measure => have := HK1.out; omega
        case rel => exact ⟨(wrap64 (x10_1 + 1)), (wrap64 (x238000_1 + ((rd_T59 l0 (rd l1 x10_1)).f1))), (wrap64 (x238001_1 + ((rd_T59 l0 (rd l1 x10_1)).f0))), (by first | rfl | (simp; done) | (simp [*]; done)), H', ⟨by have := HK1.out; omega⟩, ⟨by (with_reducible repeat (first | refine blk_drewN ?_ _ | refine blk_drew ?_ | refine blk_alloc ?_ _)); refine blk_far ?_ NB236_237.out _; (with_reducible repeat (first | refine blk_drewN ?_ _ | refine blk_drew ?_ | refine blk_alloc ?_ _)); exact BK236.out⟩, ⟨by (with_reducible repeat (first | refine blk_drewN ?_ _ | refine blk_drew ?_ | refine blk_alloc ?_ _)); refine blk_put (cs := #[.int .i64 (wrap64 (x238000_1 + ((rd_T59 l0 (rd l1 x10_1)).f1))), .int .i64 x238001_1]) ?_ 1 _ rfl; (with_reducible repeat (first | refine blk_drewN ?_ _ | refine blk_drew ?_ | refine blk_alloc ?_ _)); exact BK237.out⟩, ⟨by repeat (first | (with_reducible first | exact HB.out | apply below_alloc | apply pw_below_drewN | apply below_drew1 | refine below_set ?_ GE236.out | refine below_set ?_ GE237.out) | exact HB.out)⟩⟩
       ·rw [if_neg c9] at H
        exact absurd H (by simp)
      ·rw [if_neg c8] at H
       exact absurd H (by simp)
     ·rw [if_neg c7] at H
      exact absurd H (by simp)
    ·rw [if_neg c6] at H
     exact absurd H (by simp)
   ·rw [if_neg c5] at H
    have c5b0 : decide (x10_1 < (l1.length : Int)) = false := decide_eq_false c5
    clear c5
    simp only [Option.some.injEq, Prod.mk.injEq] at H
    obtain ⟨rfl, rfl⟩ := H
    have hnb15 := NB237_236.out
    have hnc15 := NB236_237.out
    have hcz16_0 : wr.cell? ⟨gb237, 0, none⟩ = some (.int .i64 x238000_1) := (blk_cell BK237.out 0).trans rfl
    have hcz16_1 : wr.cell? ⟨gb237, 1, none⟩ = some (.int .i64 x238001_1) := (blk_cell BK237.out 1).trans rfl
    have hfz16_0 := blk_frozen BK237.out 0
    have hfz16_1 := blk_frozen BK237.out 1
    have hcz17_0 : wr.cell? ⟨gb236, 0, none⟩ = some (.int .i64 0) := (blk_cell BK236.out 0).trans rfl
    have hcz17_1 : wr.cell? ⟨gb236, 1, none⟩ = some (.int .i64 0) := (blk_cell BK236.out 1).trans rfl
    have hfz17_0 := blk_frozen BK236.out 0
    have hfz17_1 := blk_frozen BK236.out 1
    go_wp2
    refine bodyPost_ret (results_cell_row rfl _ _ gb236 64 #[.int .i64 x238000_1, .int .i64 x238001_1] (0, 0) _ rfl (by (with_reducible repeat (first | refine blk_drewN ?_ _ | refine blk_drew ?_ | refine blk_alloc ?_ _)); refine blk_put (cs := #[.int .i64 x238000_1, .int .i64 0]) ?_ 1 _ rfl; (with_reducible repeat (first | refine blk_drewN ?_ _ | refine blk_drew ?_ | refine blk_alloc ?_ _)); refine blk_put (cs := #[.int .i64 0, .int .i64 0]) ?_ 0 _ rfl; (with_reducible repeat (first | refine blk_drewN ?_ _ | refine blk_drew ?_ | refine blk_alloc ?_ _)); exact BK236.out) Try.underlying64 rfl (by kernel_rfl)) rfl ?_
    exact ⟨rE, bS⟩

/-! ### impl_listOf: function 95 -/
def impl_listOf.l0 : Nat → Int → List Int → Int → Option (List Int)
 | 0, _, _, _ => none
 | k + 1, x0, x3, x4 => if 0 ≤ x4 then (if (shr .i64 x0 x4) > 0 then (if (Go.bits .and .i64 (shr .i64 x0 x4) 1) = 1 then (if x3.length < 17592186044416 then (impl_listOf.l0 k x0 (x3 ++ [x4]) (wrap64 (x4 + 1))) else (none)) else (impl_listOf.l0 k x0 x3 (wrap64 (x4 + 1)))) else (some x3)) else (none)
def impl_listOf.f (k : Nat) (a0 : Int) : Option (List Int) := impl_listOf.l0 k a0 ([] : List Int) 0
theorem impl_listOf.mono_l : ∀ k, (∀ y0 y1 y2, LeO (impl_listOf.l0 k y0 y1 y2) (impl_listOf.l0 (k + 1) y0 y1 y2))
 | 0 => fun _ _ _ r h => by simp [impl_listOf.l0] at h
 | k + 1 => by
  have ih0 := impl_listOf.mono_l k
  ·intro y0 y1 y2
   unfold impl_listOf.l0
   repeat' first
   | (with_reducible exact ih0 _ _ _)
   | (with_reducible exact LeO.refl _)
   | (with_reducible exact LeO.none _)
   | (with_reducible refine LeO.ite ?_ ?_)
   | (with_reducible refine LeO.bind ?_ (fun _ => ?_))
   | exact ih0 _ _ _
   | exact LeO.none _
   | refine LeO.ite ?_ ?_
   | refine LeO.bind ?_ (fun _ => ?_)
theorem impl_listOf.mono : ∀ a0 k, LeO (impl_listOf.f k a0) (impl_listOf.f (k + 1) a0) := by
 intro a0 k
 have ih0 := impl_listOf.mono_l k
 unfold impl_listOf.f
 repeat' first
   | (with_reducible exact ih0 _ _ _)
   | (with_reducible exact LeO.refl _)
   | (with_reducible exact LeO.none _)
   | (with_reducible refine LeO.ite ?_ ?_)
   | (with_reducible refine LeO.bind ?_ (fun _ => ?_))
   | exact ih0 _ _ _
   | exact LeO.none _
   | refine LeO.ite ?_ ?_
   | refine LeO.bind ?_ (fun _ => ?_)
set_option maxHeartbeats 8000000 in
set_option maxRecDepth 100000 in
theorem impl_listOf.calls (k : Nat) (a0 : Int) (r : List Int) (w : World) (h : impl_listOf.f k a0 = some r) :
  Calls Try.prog 95 #[.int .i64 a0] w fun e w' => ∃ v0_ : Value, e = .returned (v0_) ∧ Kd.R (Kd.int .i64) 3 w' w.heap.size (fun _ => True) v0_ r ∧ Below w.heap.size w w' := by
 have HB := Aside0.mk (Below.refl w.heap.size w)
 have H : (impl_listOf.l0 k a0 ([] : List Int) 0) = some r := h
 clear h
 have H' := Aside0.mk H
 clear H
 go_enter Try.func95, Try.ntmps95
 go_wp2
 go_loopg [3, 4] k (fun kq v3 v4 w' => ∃ (x3_1 : List Int) (x4_1 : Int), v4 = .int .i64 x4_1 ∧ Aside0 (impl_listOf.l0 kq a0 x3_1 x4_1 = some r) ∧ Aside0 (kq ≤ k) ∧ Aside0 (Kd.R (Kd.int .i64) 3 w' w.heap.size (fun _ => True) v3 x3_1) ∧ Aside0 (Below w.heap.size w w'))
 case atStart => exact ⟨(([] : List Int)), (0), (by first | rfl | (simp; done) | (simp [*]; done)), H', ⟨Nat.le_refl _⟩, ⟨by first | exact Kd.R_nil _ _ _ _ _ | exact Kd.N_nil _ _ _ _ _ | exact Kd.V_nil _ _ _ _ _ | exact Kd.Q_nil _ _ _ _ _ | exact Kd.S_nil _ _ _ _ _⟩, ⟨by repeat (first | (with_reducible first | exact HB.out | apply below_alloc | apply pw_below_drewN | apply below_drew1) | exact HB.out)⟩⟩
 case round =>
  clear H'
  obtain ⟨x3_1, x4_1, rfl, HA, HK1, HO_3, HB⟩ := hrel
  cases gk with
  | zero => exact absurd HA.out (by simp [impl_listOf.l0])
  | succ k1 =>
   have H := HA.out
   clear HA
   simp only [impl_listOf.l0] at H
   by_cases c2 : 0 ≤ x4_1
   ·rw [if_pos c2] at H
    have c2b0 := eq_true c2
    have c2b1 : decide (0 ≤ x4_1) = true := decide_eq_true c2
    clear c2
    obtain ⟨ji3, hji3⟩ : ∃ j_ : Int, (shr .i64 a0 x4_1) = j_ := ⟨_, rfl⟩
    replace H : (if (ji3) > 0 then (if (Go.bits .and .i64 (ji3) 1) = 1 then (if x3_1.length < 17592186044416 then (impl_listOf.l0 k1 a0 (x3_1 ++ [x4_1]) (wrap64 (x4_1 + 1))) else (none)) else (impl_listOf.l0 k1 a0 x3_1 (wrap64 (x4_1 + 1)))) else (some x3_1)) = some r := by first | (rw [hji3] at H; exact H) | (simp only [hji3] at H ⊢; exact H)
    have hji3_ : (a0 / 2 ^ min x4_1.toNat 64) = ji3 := hji3
    have hji3z : x4_1 ≤ 64 → (a0 / 2 ^ x4_1.toNat) = ji3 := shr_small hji3
    by_cases c4 : (ji3) > 0
    ·rw [if_pos c4] at H
     have c4b0 : decide (0 < (ji3)) = true := decide_eq_true c4
     clear c4
     have c5b0 := eq_true (oD : 0 ≤ x4_1)
     by_cases c6 : (Go.bits .and .i64 (ji3) 1) = 1
     ·rw [if_pos c6] at H
      have c6b0 : ((Go.bits .and .i64 (ji3) 1) == 1) = true := beq_iff_eq.mpr c6
      have c6b1 : ((Go.bits .and .i64 (ji3) 1) != 1) = false := bne_eq_false_iff_eq.mpr c6
      clear c6
      by_cases c7 : x3_1.length < 17592186044416
      ·rw [if_pos c7] at H
       have LMc7 := Aside0.mk c7
       clear c7
       obtain ⟨y241, hy241⟩ : ∃ y_ : List Int, y_ = (x3_1 ++ [x4_1]) := ⟨_, rfl⟩
       replace H : (impl_listOf.l0 k1 a0 y241 (wrap64 (x4_1 + 1))) = some r := by first | (rw [hy241]; with_reducible exact H) | (have H2_ := (Option.bind_some _ _).symm.trans H; rw [hy241]; with_reducible exact H2_) | (have H2_ := (Option.bind_some _ _).symm.trans H; with_reducible exact H2_) | with_reducible exact H | (rw [hy241]; exact H) | exact H
       have Ny241 := Aside0.mk hy241
       clear hy241
       have H' := Aside0.mk H
       clear H
       go_wp2_with (first | ((with_reducible refine gate_builtin (b := .append) (xs := #[.tmp 16, .tmp 18]) rfl ?_); at_builtin; refine Kd.R_append (Kd.int .i64) (w0 := w) w.heap.size rfl (.tmp 16) (.tmp 18) 37 3 (.int .i64 0) 8 rfl Try.underlying37 info3 rfl (by decide) (by omega) u3 x3_1 x4_1 [.int .i64 x4_1] (fun _ => True) (fun _ => False) rfl rfl ?aP (fun _ hk => hk.elim) ?aF ?aO ?aB ?aS ?aL ?_; (case aP => exact rfl); (case aB => exact bB); (case aF => exact (fun _ _ => trivial)); (case aO => exact (by (with_reducible repeat (first | apply Kd.R_alloc | apply Kd.R_drewN | apply Kd.R_drew)); exact HO_3.out)); (case aS => exact (below_size bB)); (case aL => have := LMc7.out; omega); intro v242 w8 ho hb hg hat; rw [← Ny241.out] at ho; have n0_ := Aside0.mk (hb); have n1_ := Aside0.mk (ho); clear HB; clear HO_3; have HB := n0_; have HO243 := n1_; clear n0_ n1_; clear ho hb hg hat))
       go_roundg k1
       case measure => have := HK1.out; omega
       case rel => exact ⟨(y241), (wrap64 (x4_1 + 1)), (by first | rfl | (simp; done) | (simp [*]; done)), H', ⟨by have := HK1.out; omega⟩, ⟨by (with_reducible repeat (first | apply Kd.R_alloc | apply Kd.R_drewN | apply Kd.R_drew)); exact HO243.out⟩, ⟨by repeat (first | (with_reducible first | exact HB.out | apply below_alloc | apply pw_below_drewN | apply below_drew1) | exact HB.out)⟩⟩
      ·rw [if_neg c7] at H
       exact absurd H (by simp)
     ·rw [if_neg c6] at H
      have c6b0 : ((Go.bits .and .i64 (ji3) 1) == 1) = false := beq_eq_false_iff_ne.mpr c6
      have c6b1 : ((Go.bits .and .i64 (ji3) 1) != 1) = true := bne_iff_ne.mpr c6
      have H' := Aside0.mk H
      clear H
      go_wp2
      go_roundg k1
      case measure => have := HK1.out; omega
      case rel => exact ⟨(x3_1), (wrap64 (x4_1 + 1)), (by first | rfl | (simp; done) | (simp [*]; done)), H', ⟨by have := HK1.out; omega⟩, ⟨by (with_reducible repeat (first | apply Kd.R_alloc | apply Kd.R_drewN | apply Kd.R_drew)); exact HO_3.out⟩, ⟨by repeat (first | (with_reducible first | exact HB.out | apply below_alloc | apply pw_below_drewN | apply below_drew1) | exact HB.out)⟩⟩
    ·rw [if_neg c4] at H
     have c4b0 : decide (0 < (ji3)) = false := decide_eq_false c4
     clear c4
     obtain rfl := Option.some.inj H
     go_wp2
     go_ret
     exact ⟨_, by first | rfl | (simp [errW_none, errW_some] <;> rfl) | (simp only [← hji3]; first | rfl | (simp [errW_none, errW_some] <;> rfl)) | (simp [*, errW_none, errW_some] <;> rfl), by (with_reducible repeat (first | apply Kd.R_alloc | apply Kd.R_drewN | apply Kd.R_drew)); exact HO_3.out, bB⟩
   ·rw [if_neg c2] at H
    exact absurd H (by simp)

-- NOT PRINTED: function 129 (impl_sortedBy)

/-! ### impl_onTime_1: function 141 -/
def impl_onTime_1.f (a0 : Int) (a1 : Int) (l2 : List (S59)) : Option (Bool) := if 0 ≤ a0 then (if a0 < (l2.length : Int) then (if 0 ≤ a1 then (if a1 < (l2.length : Int) then (some (decide (((rd_T59 l2 a0).f3) < ((rd_T59 l2 a1).f3)))) else (none)) else (none)) else (none)) else (none)
set_option maxHeartbeats 8000000 in
set_option maxRecDepth 100000 in
theorem impl_onTime_1.calls {gb244 : Nat} (a0 : Int) (a1 : Int) (A2 : Option Addr) (c2 : Nat) (l2 : List (S59)) (r : Bool) (w : World) (hr2 : Kd.C k59 w A2 l2.length l2) (hc2 : l2.length ≤ c2) (hb244 : w.heap[gb244]? = some (.cells #[.slice A2 l2.length c2] 26 (0, 0))) (h : impl_onTime_1.f a0 a1 l2 = some r) :
  Calls Try.prog 141 #[.int .i64 a0, .int .i64 a1, .pointer (some ⟨gb244, 0, none⟩)] w fun e w' => e = .returned (.bool r) ∧ Drawn0 w w' := by
 have HR2 := Aside0.mk hr2
 have HC2 := Aside0.mk hc2
 clear hr2 hc2
 have BK244 := Aside0.mk hb244
 clear hb244
 have H : (if 0 ≤ a0 then (if a0 < (l2.length : Int) then (if 0 ≤ a1 then (if a1 < (l2.length : Int) then (some (decide (((rd_T59 l2 a0).f3) < ((rd_T59 l2 a1).f3)))) else (none)) else (none)) else (none)) else (none)) = some r := h
 clear h
 by_cases c4 : 0 ≤ a0
 ·rw [if_pos c4] at H
  have c4b0 : decide (0 ≤ a0) = true := decide_eq_true c4
  clear c4
  by_cases c5 : a0 < (l2.length : Int)
  ·rw [if_pos c5] at H
   have c5b0 : decide (a0 < (l2.length : Int)) = true := decide_eq_true c5
   clear c5
   by_cases c6 : 0 ≤ a1
   ·rw [if_pos c6] at H
    have c6b0 : decide (0 ≤ a1) = true := decide_eq_true c6
    clear c6
    by_cases c7 : a1 < (l2.length : Int)
    ·rw [if_pos c7] at H
     have c7b0 : decide (a1 < (l2.length : Int)) = true := decide_eq_true c7
     clear c7
     obtain rfl := Option.some.inj H
     have hcz8_0 : w.cell? ⟨gb244, 0, none⟩ = some (.slice A2 l2.length c2) := (blk_cell BK244.out 0).trans rfl
     have hfz8_0 := blk_frozen BK244.out 0
     have p245 : 0 ≤ (a0 : Int) := oD
     have q245 : a0 < (l2.length : Int) := oD
     obtain ⟨ad245, e245, hx245_0, hx245_1, hx245_2, hx245_3⟩ := at_T59 HR2.out a0 p245 q245
     cases e245
     replace p245 := eq_true p245
     replace q245 := eq_true q245
     have p246 : 0 ≤ (a1 : Int) := oD
     have q246 : a1 < (l2.length : Int) := oD
     obtain ⟨ad246, e246, hx246_0, hx246_1, hx246_2, hx246_3⟩ := at_T59 HR2.out a1 p246 q246
     obtain rfl : ad245 = ad246 := (by injection e246)
     replace p246 := eq_true p246
     replace q246 := eq_true q246
     go_enter Try.func141, Try.ntmps141
     go_wp2
     repeat (go_quiet (fail); try go_wp2)
     go_ret
     exact ⟨by first | rfl | (simp; done) | (simp [*]; done), by repeat (first | exact Drawn0.refl _ | apply Drawn0.step)⟩
    ·rw [if_neg c7] at H
     exact absurd H (by simp)
   ·rw [if_neg c6] at H
    exact absurd H (by simp)
  ·rw [if_neg c5] at H
   exact absurd H (by simp)
 ·rw [if_neg c4] at H
  exact absurd H (by simp)

/-! ### sortedBy: words -/
theorem encs_drop {α : Type} (enc : α → Value) (xs : List α) (i : Nat) : encs enc (xs.drop i) = (encs enc xs).drop i := by simp [encs, List.map_drop]
theorem encs_take {α : Type} (enc : α → Value) (xs : List α) (i : Nat) : encs enc (xs.take i) = (encs enc xs).take i := by simp [encs, List.map_take]
/-- copy(v[i:], v[j:]) of a row of one's own. -/
theorem R_shift {α : Type} {P : Program} {enc : α → Value} {h1 : ∀ x, (enc x).oneCell' = true} (d : α) {W : World} {base : Nat} {ok : Nat → Prop} {g n cap : Nat} {xs : List α} {e t t' ty : TypeId} (ht : P.underlying t = some (.slice e)) (hinfo : (P.info? e).map (·.size) = some 1)
    (HO : (Kd.scalar enc h1).R e W base ok (.slice (some ⟨g, 0, none⟩) n cap) xs) (i j k dc sc : Nat) (hi : i + k ≤ n) (hj : j + k ≤ n) (hk : k = min (n - j) (n - i)) (A B : Option Addr) (hA : 0 < k → A = some ⟨g, i, none⟩) (hB : 0 < k → B = some ⟨g, j, none⟩) :
    ∃ w1, (Builtin.copy_ #[t, t'] ty #[.slice A (n - i) dc, .slice B (n - j) sc]).run P W = .ok (.int .i64 (k : Int)) w1 ∧
      (Kd.scalar enc h1).R e w1 base ok (.slice (some ⟨g, 0, none⟩) n cap) (xs.take i ++ (xs.drop j).take k ++ xs.drop (i + k)) ∧ W.grownBy w1 (some g) := by
  obtain ⟨hn, hcapn, _⟩ := Kd.R_reads' HO
  rcases Nat.eq_zero_or_pos k with h0 | hp
  · refine ⟨W, ?_, ?_, World.grownBy.refl W _⟩
    · have hz := run_copy_none (P := P) W t t' ty e A B (n - i) dc (n - j) sc ht hinfo (by have h_ : Nat.min (n - j) (n - i) = min (n - j) (n - i) := rfl; omega)
      rw [hz, h0]; rfl
    · subst h0
      simpa using HO
  · have hown := Kd.own_of_R HO
    rcases hown.2 with ⟨he, hx0⟩ | ⟨g', cap', cur, hv, hb, hh, hnc, hcm, hcs, htake⟩
    · cases he
    · obtain ⟨rfl, rfl⟩ : g' = g ∧ cap' = cap := by injection hv with a b c; injection a with a; injection a with a; exact ⟨a.symm, c.symm⟩
      have htk : cur.toList.take xs.length = encs enc xs := by rw [← htake, Nat.mul_one]
      have hkl : (encs enc ((xs.drop j).take k)).length = k := by rw [encs_length, List.length_take, List.length_drop]; omega
      have hsrc : ∀ q u, (encs enc ((xs.drop j).take k))[q]? = some u → W.cell? ((⟨g', j, none⟩ : Addr).add q) = some u := by
        intro q u hu
        have hq : q < k := by
          rcases Nat.lt_or_ge q k with h | h
          · exact h
          · rw [List.getElem?_eq_none (by omega)] at hu; cases hu
        rw [show (⟨g', j, none⟩ : Addr).add q = ⟨g', j + q, none⟩ by unfold Addr.add; simp, cell_of_row W g' _ cur e (0, 0) hh]
        rw [encs_take, encs_drop, ← htk] at hu
        rw [List.getElem?_take_of_lt hq, List.getElem?_drop, List.getElem?_take_of_lt (by omega)] at hu
        simpa using hu
      have hr := run_copy_cells (P := P) W t t' ty e g' i (n - i) dc ⟨g', j, none⟩ (n - j) sc (encs enc ((xs.drop j).take k)) ht hinfo (by rw [hkl, hk]) hsrc
        (fun q hq => by rw [cell_of_row W g' _ cur e (0, 0) hh]; simp; omega) (fun q _ => blk_frozen hh _) (by intro u hu; simp only [encs, List.mem_map] at hu; obtain ⟨q, _, rfl⟩ := hu; exact h1 q)
      obtain ⟨cur', h3, h4, h5⟩ := setCells_row (encs enc ((xs.drop j).take k)) i W cur hh (by rw [hkl]; omega)
      obtain ⟨s1, s2, s3, s4⟩ := setCells_same g' (encs enc ((xs.drop j).take k)) i W
      refine ⟨_, by rw [hA hp, hB hp, hr, hkl]; exact rfl, Kd.R_of_own ?_ HO.1, ⟨s1, s2, s3, by rw [s4]; exact Nat.le_refl _, fun q _ hq => setCells_far _ _ q (fun he => hq (by rw [he]))⟩⟩
      have hln : (xs.take i ++ (xs.drop j).take k ++ xs.drop (i + k)).length = xs.length := by
        simp only [List.length_append, List.length_take, List.length_drop]
        omega
      rw [hln]
      refine ⟨by rw [encs_length, hln, Nat.mul_one], .inr ⟨g', cap', cur', by rw [hn], hb, h3, by omega, hcm, by rw [h4, hcs], ?_⟩⟩
      rw [h5, hkl, Nat.mul_one, encs_append, encs_append, encs_take, encs_drop, ← htk]
      have e1 : (cur.toList.take xs.length).take i = cur.toList.take i := by rw [List.take_take, Nat.min_eq_left (by omega)]
      have e2 : (cur.toList.take xs.length).drop (i + k) = (cur.toList.drop (i + k)).take (xs.length - (i + k)) := by rw [List.drop_take]
      have hcl : xs.length ≤ cur.toList.length := by have h_ : cur.toList.length = cur.size := Array.length_toList; omega
      rw [encs_take, encs_drop, ← htk, e1, e2]
      have l1 : (cur.toList.take i ++ ((cur.toList.take xs.length).drop j).take k).length = i + k := by
        simp only [List.length_append, List.length_take, List.length_drop]; omega
      rw [List.take_append, l1, List.take_of_length_le (by omega)]

/-- Where a number goes among numbers that are sorted by a test. -/
def sbK (p : Int → Option Bool) (o : List Int) : Nat → Option Nat
  | 0 => some 0
  | k + 1 => (p (rd o k)).bind fun b => if b = true then sbK p o k else some (k + 1)
/-- Numbers sorted by insertion. -/
def sbL (p : Int → Int → Option Bool) : List Int → List Int → Option (List Int)
  | [], o => some o
  | i :: t, o => (sbK (p i) o o.length).bind fun m => sbL p t (o.take m ++ i :: o.drop m)
theorem sbK_le {p : Int → Option Bool} {o : List Int} : ∀ (n : Nat) {m : Nat}, sbK p o n = some m → m ≤ n
  | 0, m, h => by simp only [sbK, Option.some.injEq] at h; omega
  | n + 1, m, h => by
    simp only [sbK] at h
    cases hp : p (rd o (n : Int)) with
    | none => rw [hp] at h; simp at h
    | some b =>
      rw [hp] at h
      cases b with
      | true => have := sbK_le n (show sbK p o n = some m by simpa using h); omega
      | false => simp at h; omega
theorem sb_shift' (a b : List Int) (i : Int) : ((((a ++ (b ++ [0])).take (a.length + 1) ++ ((a ++ (b ++ [0])).drop a.length).take b.length ++ (a ++ (b ++ [0])).drop (a.length + 1 + b.length))).set a.length i) = a ++ i :: b := by
  have e1 : (a ++ (b ++ [0])).take (a.length + 1) = a ++ [(b ++ [0]).head (by simp)] := by
    rw [List.take_append]
    simp
    cases b <;> simp [List.take_of_length_le]
  have e2 : ((a ++ (b ++ [0])).drop a.length).take b.length = b := by
    rw [List.drop_left]
    simp
  have e3 : (a ++ (b ++ [0])).drop (a.length + 1 + b.length) = [] := by
    apply List.drop_eq_nil_of_le
    simp; omega
  rw [e1, e2, e3]
  simp
theorem sb_shift (o : List Int) (m : Nat) (i : Int) (hm : m ≤ o.length) : (((o ++ [0]).take (m + 1) ++ ((o ++ [0]).drop m).take (o.length - m) ++ (o ++ [0]).drop (m + 1 + (o.length - m))).set m i) = o.take m ++ i :: o.drop m := by
  have h1 : (o.take m).length = m := by rw [List.length_take]; omega
  have h2 : (o.drop m).length = o.length - m := by rw [List.length_drop]
  have h := sb_shift' (o.take m) (o.drop m) i
  rw [h1, h2, ← List.append_assoc, List.take_append_drop] at h
  exact h
theorem sb_copy {P : Program} {oi : Oper} {a : Act} {w w1 : World} {v u u' : Value} {s x : Operand} {t t' : TypeId} (hop : oi.op = .call { callee := .builtin .copy, args := #[s, x], argTypes := #[t, t'] }) (hs : a.eval s = u) (hx : a.eval x = u') (hr : (Builtin.copy_ #[t, t'] oi.type #[u, u']).run P w = .ok v w1) : (execOp a.eval oi).run P w = .ok (.value v) w1 := by
  unfold execOp
  simp only [hop, resolve, invoke, builtin, Sem.run_bind, Sem.run_pure, Result.andThen_ok, List.map_toArray, List.map_cons, List.map_nil, hs, hx, hr]
def sb_T9 : Bool × List (List Nat × List Nat) := (true, [([], []), ([], []), ([1], [1]), ([0, 2], [0, 2]), ([], []), ([], []), ([4, 5], [4, 5]), ([3, 6], [3, 6])])
def sb_B9 : List Nat := [0, 0, 2, 7, 0, 0, 48, 127]
theorem sb_tab9 : rtab .any (opsOf Try.f129 9) = sb_T9 := by kernel_rfl
theorem sb_bits9 : waitsOk sb_T9.2 sb_B9 = true := by kernel_rfl

/-! ### sortedBy by impl_onTime_1 -/
set_option maxHeartbeats 8000000 in
set_option maxRecDepth 100000 in
theorem sb_calls_141 (q0 : Value) (A0 : Option Addr) (c0 : Nat) (l0 : List Int) (r : List Int) (w : World) (hr0 : Kd.C (Kd.int .i64) w A0 l0.length l0) (hc0 : l0.length ≤ c0) (p : Int → Int → Option Bool)
    (hcl : ∀ (a b : Int) (t : Bool) (w' : World), Below w.heap.size w w' → p a b = some t → Calls Try.prog 141 #[.int .i64 a, .int .i64 b, q0] w' fun e w'' => e = .returned (.bool t) ∧ Below w'.heap.size w' w'')
    (hlen : l0.length < 17592186044416) (h : sbL p l0 [] = some r) : Calls Try.prog 129 #[.slice A0 l0.length c0, .func (.func 141) #[] #[q0]] w fun e w' => ∃ v0_ : Value, e = .returned (v0_) ∧ Kd.R (Kd.int .i64) 3 w' w.heap.size (fun _ => True) v0_ r ∧ Below w.heap.size w w' := by
 have HR0 := Aside0.mk hr0
 have HC0 := Aside0.mk hc0
 clear hr0 hc0
 have HB := Aside0.mk (Below.refl w.heap.size w)
 have HCL := Aside0.mk hcl
 clear hcl
 have HL := Aside0.mk hlen
 clear hlen
 have H' := Aside0.mk h
 clear h
 go_enter Try.func129, Try.ntmps129
 go_wp2
 go_loopg [5, 11] l0.length (fun kq v5 v11 w' => ∃ (j : Nat) (o : List Int) (x11 : Int), v11 = .int .i64 x11 ∧ Aside0 (x11 = j) ∧ Aside0 (j + kq = l0.length ∧ o.length = j) ∧ Aside0 (sbL p (l0.drop j) o = some r) ∧ Aside0 (Kd.R (Kd.int .i64) 3 w' w.heap.size (fun _ => True) v5 o) ∧ Aside0 (Below w.heap.size w w'))
 case atStart => exact ⟨0, [], 0, rfl, ⟨rfl⟩, ⟨by omega, rfl⟩, H', ⟨Kd.R_nil _ _ _ _ _⟩, ⟨bB⟩⟩
 case round =>
  clear H'
  obtain ⟨j, o, x11, rfl, HJ, HK, H', HO, HB⟩ := hrel
  cases gk with
  | zero =>
   have c0b : decide (x11 < (l0.length : Int)) = false := decide_eq_false (by have := HJ.out; have := HK.out; omega)
   have H := H'.out
   clear H'
   rw [List.drop_eq_nil_of_le (by have := HK.out; omega), sbL] at H
   obtain rfl := Option.some.inj H
   go_wp2
   go_ret
   exact ⟨_, rfl, by (with_reducible repeat (first | apply Kd.R_alloc | apply Kd.R_drewN | apply Kd.R_drew)); exact HO.out, bB⟩
  | succ k1 =>
   have c0b : decide (x11 < (l0.length : Int)) = true := decide_eq_true (by have := HJ.out; have := HK.out; omega)
   have p1 : 0 ≤ x11 := by have := HJ.out; omega
   have q1 : x11 < (l0.length : Int) := by have := HJ.out; have := HK.out; omega
   obtain ⟨ad1, e1, hx1⟩ := Kd.at_int HR0.out x11 p1 q1
   cases e1
   replace hx1 := (cB HB.out hx1 :)
   replace p1 := eq_true p1
   replace q1 := eq_true q1
   obtain ⟨Ao, co, eo⟩ := Kd.R_slice HO.out
   subst eo
   have H := H'.out
   clear H'
   rw [List.drop_eq_getElem_cons (by have := HK.out; omega), sbL] at H
   have hrd : l0[j]'(by have := HK.out; omega) = rd l0 x11 := by have h1 := HJ.out; have h2 := HK.out; subst h1; simp [rd]; rw [List.getElem?_eq_getElem (by omega)]; rfl
   rw [hrd] at H
   clear hrd
   obtain ⟨m, hm, H⟩ := Option.bind_eq_some_iff.mp H
   have HM := Aside0.mk hm
   have H' := Aside0.mk H
   clear H hm
   go_wp2
   go_loopg [8] o.length (fun kq v8 w' => ∃ (x8 : Int), v8 = .int .i64 x8 ∧ Aside0 (x8 = (kq : Nat)) ∧ Aside0 (kq ≤ o.length) ∧ Aside0 (sbK (p (rd l0 x11)) o kq = some m) ∧ Aside0 (Kd.R (Kd.int .i64) 3 w' w.heap.size (fun _ => True) (.slice Ao o.length co) o) ∧ Aside0 (Below w.heap.size w w'))
   case atStart => exact ⟨(o.length : Int), (by first | rfl | (simp; done)), ⟨rfl⟩, ⟨Nat.le_refl _⟩, HM, ⟨by (with_reducible repeat (first | apply Kd.R_alloc | apply Kd.R_drewN | apply Kd.R_drew)); exact HO.out⟩, ⟨bB⟩⟩
   case round =>
    clear HM HO
    obtain ⟨x8, rfl, HX, HQ, HM, HO, HB⟩ := hrel
    cases gk with
    | zero =>
     have c1 : decide (0 < x8) = false := decide_eq_false (by have := HX.out; omega)
     have H := HM.out
     clear HM
     simp only [sbK, Option.some.injEq] at H
     have HM1 := Aside0.mk (show (m : Int) = x8 by have := HX.out; omega)
     clear H
     obtain ⟨hx, hm_⟩ : x8 = (m : Int) ∧ m ≤ o.length := ⟨by have := HX.out; have := HM1.out; omega, by have h1 := HM1.out; have h2 := HX.out; have h3 := HQ.out; omega⟩
     have HX2 := Aside0.mk (And.intro hx hm_)
     clear hx hm_
     have LM := Aside0.mk (show o.length < 17592186044416 by have := HL.out; have := HK.out; omega)
     go_wp2_with (first | ((with_reducible refine gate_builtin (b := .append) (xs := #[.tmp 31, .tmp 32]) rfl ?_); at_builtin; refine Kd.R_append (Kd.int .i64) (w0 := w) w.heap.size rfl (.tmp 31) (.tmp 32) 37 3 (.int .i64 0) 8 rfl Try.underlying37 info3 rfl (by decide) (by omega) (.slice Ao o.length co) o 0 [.int .i64 0] (fun _ => True) (fun _ => False) rfl rfl ?aP (fun _ hk => hk.elim) ?aF ?aO ?aB ?aS ?aL ?_; (case aP => exact rfl); (case aB => exact bB); (case aF => exact (fun _ _ => trivial)); (case aO => exact (by (with_reducible repeat (first | apply Kd.R_alloc | apply Kd.R_drewN | apply Kd.R_drew)); exact HO.out)); (case aS => exact (below_size bB)); (case aL => have := LM.out; omega); intro v5 w8 ho hb hg hat; have n0_ := Aside0.mk (hb); have n1_ := Aside0.mk (ho); clear HB; clear HO; have HB := n0_; have HO := n1_; clear n0_ n1_; clear ho hb hg hat))
     obtain ⟨go, cp, eo, gb, gl, cl, HG⟩ := Kd.R_form HO.out (by rw [List.length_append]; simp)
     (first | subst eo | cases eo)
     have GB := Aside0.mk gb
     clear gb gl HG cl
     have hw1 : wrap64 (x8 + 1) = ((m + 1 : Nat) : Int) := by have h1 := HX2.out; have h4 := LM.out; unfold wrap64; omega
     have p4 : 0 ≤ wrap64 (x8 + 1) := by omega
     have q4 : wrap64 (x8 + 1) ≤ (((o ++ [0]).length : Nat) : Int) := by have h1 := HX2.out; rw [List.length_append, List.length_singleton]; omega
     have p5 : 0 ≤ x8 := by have h1 := HX2.out; omega
     have q5 : x8 ≤ (((o ++ [0]).length : Nat) : Int) := by have h1 := HX2.out; rw [List.length_append, List.length_singleton]; omega
     have q6 : x8 < (((o ++ [0]).length : Nat) : Int) := by have h1 := HX2.out; rw [List.length_append, List.length_singleton]; omega
     have ew1 : (wrap64 (x8 + 1)).toNat = m + 1 := by rw [hw1]; rfl
     have ex8 : x8.toNat = m := by rw [HX2.out.1]; rfl
     have EW := Aside0.mk (And.intro ew1 ex8)
     clear hw1 ew1 ex8
     have ln : (o ++ [0]).length = o.length + 1 := by simp
     have LN := Aside0.mk ln
     clear ln
     generalize hoo : o ++ [0] = oo at *
     have OO := Aside0.mk hoo
     clear hoo
     refine start_ (n := 8) (S := fun w' => True) (ds := [7]) #[false, false, false, false, false, false, false, false] (by kernel_rfl) rfl rfl trivial (fun hHeld => ?_); refine with_tabW sb_tab9 sb_bits9 (fun HT_ HW_ => ?_)
     have n0_ := Aside0.mk (Kd.R_drew HO.out)
     have n1_ := Aside0.mk (below_drew1 HB.out)
     clear HO HB
     have HO := n0_
     have HB := n1_
     clear n0_ n1_
     generalize w8.drew = w9 at HO HB ⊢
     refine pU 0 34 #[true, false, false, false, false, false, false, false] ?_
     refine pU 1 35 #[true, true, false, false, false, false, false, false] ?_
     refine pU 2 36 #[true, true, true, false, false, false, false, false] ?_
     refine pU 4 38 #[true, true, true, false, true, false, false, false] ?_
     refine pU 5 39 #[true, true, true, false, true, true, false, false] ?_
     refine pU 3 37 #[true, true, true, true, true, true, false, false] ?_
     refine pU 6 40 #[true, true, true, true, true, true, true, false] ?_
     refine last_ (i := 7) (N := some 41) #[true, true, true, true, true, true, true, true] rfl rfl (one_of HT_.out (by kernel_rfl)) (by decide) (fun K hK => ?_)
     obtain ⟨w10, hrun, ho, hg⟩ := R_shift (P := Try.prog) (ty := 3) (t' := 37) (0 : Int) Try.underlying37 (by rw [show (Try.prog.info? 3).map (·.size) = some 1 from by kernel_rfl]) HO.out (m + 1) m (o.length - m) (cp - (m + 1)) (cp - m) (by have := HX2.out; have := LN.out; omega) (by have := HX2.out; have := LN.out; omega) (by have := HX2.out; have := LN.out; omega)
       (if cp = m + 1 then some ⟨go, 0, none⟩ else some ⟨go, m + 1, none⟩) (if cp = m then some ⟨go, 0, none⟩ else some ⟨go, m, none⟩) (fun h_ => if_neg (by have h1 := (Kd.R_reads' HO.out).2.1; have := LN.out; omega)) (fun h_ => if_neg (by have h1 := (Kd.R_reads' HO.out).2.1; have := LN.out; omega))
     refine value_ (w1 := w10) (v := .int .i64 ((o.length - m : Nat) : Int)) (by rfl) rfl ?_ ?_
     ·refine sb_copy (s := .tmp 37) (x := .tmp 40) (t := 37) (t' := 37) rfl rfl rfl ?_
      simp only [EW.out.1, EW.out.2]
      exact hrun
     refine hK.out _ _ ?_
     clear hK K
     have n0_ := Aside0.mk ho
     have n1_ := Aside0.mk (HB.out.grown hg (below_size HB.out) (fun k_ e_ => by injection e_ with e_; subst e_; exact GB.out))
     clear HO HB ho hrun hg
     have HO := n0_
     have HB := n1_
     clear n0_ n1_
     have p7 := eq_true p5
     have q7 := eq_true q6
     have hl3 : (oo.take (m + 1) ++ (oo.drop m).take (o.length - m) ++ oo.drop (m + 1 + (o.length - m))).length = oo.length := by have := HX2.out; have := LN.out; simp only [List.length_append, List.length_take, List.length_drop]; omega
     obtain ⟨hx9, hf9⟩ := Kd.R_celln 0 HO.out x8 p5 q6
     have HP := Kd.R_putn HO.out x8 (rd l0 x11)
     have HQ9 := Aside0.mk HP
     clear HP p5 q5 q6 p4 q4
     refine done_ (done_of HT_.out (by kernel_rfl)) ?_
     generalize (if cp = (wrap64 (x8 + 1)).toNat then (some ⟨go, 0, none⟩ : Option Addr) else some ⟨go, (wrap64 (x8 + 1)).toNat, none⟩) = ad37
     generalize (if cp = x8.toNat then (some ⟨go, 0, none⟩ : Option Addr) else some ⟨go, x8.toNat, none⟩) = ad40
     go_wp2
     all_goals (go_roundg k1; (case measure => omega); (case rel => exact ⟨j + 1, o.take m ++ rd l0 x11 :: o.drop m, wrap64 (x11 + 1), (by first | rfl | (simp; done)), ⟨by have h1 := HJ.out; have h2 := HK.out; have h3 := HL.out; unfold wrap64; omega⟩, ⟨by have h2 := HK.out; omega, by have h2 := HK.out; have h4 := HX2.out; simp only [List.length_append, List.length_cons, List.length_take, List.length_drop]; omega⟩, H', ⟨by (with_reducible repeat (first | apply Kd.R_alloc | apply Kd.R_drewN | apply Kd.R_drew)); have h8 := HQ9.out; have e9 := sb_shift o m (rd l0 x11) HX2.out.2; rw [OO.out] at e9; rw [EW.out.2, e9] at h8; rw [EW.out.2]; exact h8⟩, ⟨by repeat (first | (with_reducible first | exact HB.out | apply below_alloc | apply pw_below_drewN | apply below_drew1 | refine below_set ?_ GB.out) | exact HB.out)⟩⟩))
    | succ k2 =>
     have c1 : decide (0 < x8) = true := decide_eq_true (by have := HX.out; omega)
     have hw : wrap64 (x8 - 1) = (k2 : Int) := by have h1 := HX.out; have h2 := HQ.out; have h3 := HK.out; have h4 := HL.out; unfold wrap64; omega
     have p2 : 0 ≤ wrap64 (x8 - 1) := by omega
     have q2 : wrap64 (x8 - 1) < (o.length : Int) := by have h2 := HQ.out; omega
     obtain ⟨ad2, e2, hx2⟩ := Kd.at_int (Kd.R_reads' HO.out).2.2 (wrap64 (x8 - 1)) p2 q2
     cases e2
     have H := HM.out
     clear HM
     rw [sbK, ← hw] at H
     have HW := Aside0.mk hw
     clear hw
     replace p2 := eq_true p2
     replace q2 := eq_true q2
     obtain ⟨b, hb, H⟩ := Option.bind_eq_some_iff.mp H
     have HP := Aside0.mk hb
     have HM := Aside0.mk H
     clear H hb
     cases b with
     | true =>
      go_wp2_with (go_at_call 141; refine (HCL.out (rd l0 x11) (rd o (wrap64 (x8 - 1))) true _ bB HP.out).mono ?_; rintro e w' ⟨rfl, hbz⟩; have n0_ := Aside0.mk (Kd.R_below (by (with_reducible repeat (first | apply Kd.R_alloc | apply Kd.R_drewN | apply Kd.R_drew)); exact HO.out) hbz); have n1_ := Aside0.mk (below_step bB hbz); clear HO HB; have HO := n0_; have HB := n1_; clear n0_ n1_ hbz)
      go_roundg k2
      case measure => omega
      case rel => exact ⟨wrap64 (x8 - 1), (by first | rfl | (simp; done)), ⟨HW.out⟩, ⟨by have := HQ.out; omega⟩, ⟨by have := HM.out; simpa using this⟩, ⟨by (with_reducible repeat (first | apply Kd.R_alloc | apply Kd.R_drewN | apply Kd.R_drew)); exact HO.out⟩, ⟨bB⟩⟩
     | false =>
      have H := HM.out
      clear HM
      simp only [Bool.false_eq_true, if_false, Option.some.injEq] at H
      have HM1 := Aside0.mk (show (m : Int) = x8 by have := HX.out; omega)
      clear H
      obtain ⟨hx, hm_⟩ : x8 = (m : Int) ∧ m ≤ o.length := ⟨by have := HX.out; have := HM1.out; omega, by have h1 := HM1.out; have h2 := HX.out; have h3 := HQ.out; omega⟩
      have HX2 := Aside0.mk (And.intro hx hm_)
      clear hx hm_
      have LM := Aside0.mk (show o.length < 17592186044416 by have := HL.out; have := HK.out; omega)
      go_wp2_with (first | (go_at_call 141; refine (HCL.out (rd l0 x11) (rd o (wrap64 (x8 - 1))) false _ bB HP.out).mono ?_; rintro e w' ⟨rfl, hbz⟩; have n0_ := Aside0.mk (Kd.R_below (by (with_reducible repeat (first | apply Kd.R_alloc | apply Kd.R_drewN | apply Kd.R_drew)); exact HO.out) hbz); have n1_ := Aside0.mk (below_step bB hbz); clear HO HB; have HO := n0_; have HB := n1_; clear n0_ n1_ hbz) | ((with_reducible refine gate_builtin (b := .append) (xs := #[.tmp 31, .tmp 32]) rfl ?_); at_builtin; refine Kd.R_append (Kd.int .i64) (w0 := w) w.heap.size rfl (.tmp 31) (.tmp 32) 37 3 (.int .i64 0) 8 rfl Try.underlying37 info3 rfl (by decide) (by omega) (.slice (some ad2) o.length co) o 0 [.int .i64 0] (fun _ => True) (fun _ => False) rfl rfl ?aP (fun _ hk => hk.elim) ?aF ?aO ?aB ?aS ?aL ?_; (case aP => exact rfl); (case aB => exact bB); (case aF => exact (fun _ _ => trivial)); (case aO => exact (by (with_reducible repeat (first | apply Kd.R_alloc | apply Kd.R_drewN | apply Kd.R_drew)); exact HO.out)); (case aS => exact (below_size bB)); (case aL => have := LM.out; omega); intro v5 w8 ho hb hg hat; have n0_ := Aside0.mk (hb); have n1_ := Aside0.mk (ho); clear HB; clear HO; have HB := n0_; have HO := n1_; clear n0_ n1_; clear ho hb hg hat))
      obtain ⟨go, cp, eo, gb, gl, cl, HG⟩ := Kd.R_form HO.out (by rw [List.length_append]; simp)
      (first | subst eo | cases eo)
      have GB := Aside0.mk gb
      clear gb gl HG cl
      have hw1 : wrap64 (x8 + 1) = ((m + 1 : Nat) : Int) := by have h1 := HX2.out; have h4 := LM.out; unfold wrap64; omega
      have p4 : 0 ≤ wrap64 (x8 + 1) := by omega
      have q4 : wrap64 (x8 + 1) ≤ (((o ++ [0]).length : Nat) : Int) := by have h1 := HX2.out; rw [List.length_append, List.length_singleton]; omega
      have p5 : 0 ≤ x8 := by have h1 := HX2.out; omega
      have q5 : x8 ≤ (((o ++ [0]).length : Nat) : Int) := by have h1 := HX2.out; rw [List.length_append, List.length_singleton]; omega
      have q6 : x8 < (((o ++ [0]).length : Nat) : Int) := by have h1 := HX2.out; rw [List.length_append, List.length_singleton]; omega
      have ew1 : (wrap64 (x8 + 1)).toNat = m + 1 := by rw [hw1]; rfl
      have ex8 : x8.toNat = m := by rw [HX2.out.1]; rfl
      have EW := Aside0.mk (And.intro ew1 ex8)
      clear hw1 ew1 ex8
      have ln : (o ++ [0]).length = o.length + 1 := by simp
      have LN := Aside0.mk ln
      clear ln
      generalize hoo : o ++ [0] = oo at *
      have OO := Aside0.mk hoo
      clear hoo
      refine start_ (n := 8) (S := fun w' => True) (ds := [7]) #[false, false, false, false, false, false, false, false] (by kernel_rfl) rfl rfl trivial (fun hHeld => ?_); refine with_tabW sb_tab9 sb_bits9 (fun HT_ HW_ => ?_)
      have n0_ := Aside0.mk (Kd.R_drew HO.out)
      have n1_ := Aside0.mk (below_drew1 HB.out)
      clear HO HB
      have HO := n0_
      have HB := n1_
      clear n0_ n1_
      generalize w8.drew = w9 at HO HB ⊢
      refine pU 0 34 #[true, false, false, false, false, false, false, false] ?_
      refine pU 1 35 #[true, true, false, false, false, false, false, false] ?_
      refine pU 2 36 #[true, true, true, false, false, false, false, false] ?_
      refine pU 4 38 #[true, true, true, false, true, false, false, false] ?_
      refine pU 5 39 #[true, true, true, false, true, true, false, false] ?_
      refine pU 3 37 #[true, true, true, true, true, true, false, false] ?_
      refine pU 6 40 #[true, true, true, true, true, true, true, false] ?_
      refine last_ (i := 7) (N := some 41) #[true, true, true, true, true, true, true, true] rfl rfl (one_of HT_.out (by kernel_rfl)) (by decide) (fun K hK => ?_)
      obtain ⟨w10, hrun, ho, hg⟩ := R_shift (P := Try.prog) (ty := 3) (t' := 37) (0 : Int) Try.underlying37 (by rw [show (Try.prog.info? 3).map (·.size) = some 1 from by kernel_rfl]) HO.out (m + 1) m (o.length - m) (cp - (m + 1)) (cp - m) (by have := HX2.out; have := LN.out; omega) (by have := HX2.out; have := LN.out; omega) (by have := HX2.out; have := LN.out; omega)
        (if cp = m + 1 then some ⟨go, 0, none⟩ else some ⟨go, m + 1, none⟩) (if cp = m then some ⟨go, 0, none⟩ else some ⟨go, m, none⟩) (fun h_ => if_neg (by have h1 := (Kd.R_reads' HO.out).2.1; have := LN.out; omega)) (fun h_ => if_neg (by have h1 := (Kd.R_reads' HO.out).2.1; have := LN.out; omega))
      refine value_ (w1 := w10) (v := .int .i64 ((o.length - m : Nat) : Int)) (by rfl) rfl ?_ ?_
      ·refine sb_copy (s := .tmp 37) (x := .tmp 40) (t := 37) (t' := 37) rfl rfl rfl ?_
       simp only [EW.out.1, EW.out.2]
       exact hrun
      refine hK.out _ _ ?_
      clear hK K
      have n0_ := Aside0.mk ho
      have n1_ := Aside0.mk (HB.out.grown hg (below_size HB.out) (fun k_ e_ => by injection e_ with e_; subst e_; exact GB.out))
      clear HO HB ho hrun hg
      have HO := n0_
      have HB := n1_
      clear n0_ n1_
      have p7 := eq_true p5
      have q7 := eq_true q6
      have hl3 : (oo.take (m + 1) ++ (oo.drop m).take (o.length - m) ++ oo.drop (m + 1 + (o.length - m))).length = oo.length := by have := HX2.out; have := LN.out; simp only [List.length_append, List.length_take, List.length_drop]; omega
      obtain ⟨hx9, hf9⟩ := Kd.R_celln 0 HO.out x8 p5 q6
      have HP := Kd.R_putn HO.out x8 (rd l0 x11)
      have HQ9 := Aside0.mk HP
      clear HP p5 q5 q6 p4 q4
      refine done_ (done_of HT_.out (by kernel_rfl)) ?_
      generalize (if cp = (wrap64 (x8 + 1)).toNat then (some ⟨go, 0, none⟩ : Option Addr) else some ⟨go, (wrap64 (x8 + 1)).toNat, none⟩) = ad37
      generalize (if cp = x8.toNat then (some ⟨go, 0, none⟩ : Option Addr) else some ⟨go, x8.toNat, none⟩) = ad40
      go_wp2
      all_goals (go_roundg k1; (case measure => omega); (case rel => exact ⟨j + 1, o.take m ++ rd l0 x11 :: o.drop m, wrap64 (x11 + 1), (by first | rfl | (simp; done)), ⟨by have h1 := HJ.out; have h2 := HK.out; have h3 := HL.out; unfold wrap64; omega⟩, ⟨by have h2 := HK.out; omega, by have h2 := HK.out; have h4 := HX2.out; simp only [List.length_append, List.length_cons, List.length_take, List.length_drop]; omega⟩, H', ⟨by (with_reducible repeat (first | apply Kd.R_alloc | apply Kd.R_drewN | apply Kd.R_drew)); have h8 := HQ9.out; have e9 := sb_shift o m (rd l0 x11) HX2.out.2; rw [OO.out] at e9; rw [EW.out.2, e9] at h8; rw [EW.out.2]; exact h8⟩, ⟨by repeat (first | (with_reducible first | exact HB.out | apply below_alloc | apply pw_below_drewN | apply below_drew1 | refine below_set ?_ GB.out) | exact HB.out)⟩⟩))

/-! ### impl_sortedBy_141: a function of its own -/
def impl_sortedBy_141.f (l0 : List (Int)) (l1 : List (S59)) : Option (List Int) := if l0.length < 17592186044416 then sbL (fun a b => impl_onTime_1.f a b l1) l0 ([] : List Int) else none
theorem impl_sortedBy_141.calls {g1 : Nat} (A0 : Option Addr) (c0 : Nat) (l0 : List (Int)) (A1 : Option Addr) (c1 : Nat) (l1 : List (S59)) (r : List Int) (w : World) (hr0 : Kd.C (Kd.int .i64) w A0 l0.length l0) (hc0 : l0.length ≤ c0) (hr1 : Kd.C k59 w A1 l1.length l1) (hc1 : l1.length ≤ c1) (hb1 : w.heap[g1]? = some (.cells #[.slice A1 l1.length c1] 26 (0, 0))) (h : impl_sortedBy_141.f l0 l1 = some r) :
  Calls Try.prog 129 #[.slice A0 l0.length c0, .func (.func 141) #[] #[.pointer (some ⟨g1, 0, none⟩)]] w fun e w' => ∃ v0_ : Value, e = .returned (v0_) ∧ Kd.R (Kd.int .i64) 3 w' w.heap.size (fun _ => True) v0_ r ∧ Below w.heap.size w w' := by
 unfold impl_sortedBy_141.f at h
 split at h
 · rename_i hl
   refine sb_calls_141 _ A0 c0 l0 r w hr0 hc0 _ (fun a b t w' hB hp => ?_) hl h
   exact (impl_onTime_1.calls a b _ _ l1 t w' (Kd.C_below hr1 hB) hc1 (blk_below hb1 hB) hp).mono fun e w'' h_ => ⟨h_.1, by obtain ⟨n_, rfl⟩ := h_.2; exact pw_below_drewN (Below.refl _ _) n_⟩
 · cases h

end Go.Proofs.Ythhmembnhnghiaa.OFnExactLeastLateWeight
