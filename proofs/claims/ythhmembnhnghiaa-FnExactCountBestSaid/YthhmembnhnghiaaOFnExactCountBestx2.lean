/- Functions of the program as plain Lean functions, with their contracts: written by this session's program ownprint.py. Conditions: none. -/
import Derived.Test.YthhmembnhnghiaaOFnExactCountBestx0
import Derived.Test.YthhmembnhnghiaaOFnExactCountBestx1
namespace Go.Proofs.Ythhmembnhnghiaa.OFnExactCountBest
open Go.RowKit Go.Proofs.YthhmembnhnghiaaW.PrintWords Go.Proofs.YthhmembnhnghiaaW.PrintLast Go.Proofs.YthhmembnhnghiaaW.PrintMore
attribute [local go_sem] max2_int min2_int max_two min_two max_three min_three max_four min_four   -- for this text's walks alone
set_option linter.unusedVariables false
set_option linter.unusedSimpArgs false

/-! ### spec_l2Cost: function 124 -/
def spec_l2Cost.f (a0_0 : Int) (a0_1 : Int) (a0_2 : Int) (a0_3 : Int) (a1 : Int) (a2 : Int) : Option (Int) := (spec_l1Most.f (wrap64 (a1 - a0_3)) 0).bind fun t127 => (if a2 = 2 then (some a1) else (if a2 = 3 then (some (wrap64 (a0_1 * a1))) else (if a2 = 5 then (some t127) else (if a2 = 6 then (some (wrap64 (a0_1 * t127))) else (if t127 = 0 then (some 0) else (if a2 = 7 then (some 1) else (some a0_1)))))))
set_option maxHeartbeats 8000000 in
set_option maxRecDepth 100000 in
theorem spec_l2Cost.calls (a0_0 : Int) (a0_1 : Int) (a0_2 : Int) (a0_3 : Int) (a1 : Int) (a2 : Int) (r : Int) (w : World) (h : spec_l2Cost.f a0_0 a0_1 a0_2 a0_3 a1 a2 = some r) :
  Calls Try.prog 124 #[.agg #[.int .i64 a0_0, .int .i64 a0_1, .int .i64 a0_2, .int .i64 a0_3], .int .i64 a1, .int .i64 a2] w fun e w' => e = .returned (.int .i64 r) ∧ Below w.heap.size w w' := by
 have hu59 := Try.underlying59
 have HB := Aside0.mk (Below.refl w.heap.size w)
 have H : ((spec_l1Most.f (wrap64 (a1 - a0_3)) 0).bind fun t127 => (if a2 = 2 then (some a1) else (if a2 = 3 then (some (wrap64 (a0_1 * a1))) else (if a2 = 5 then (some t127) else (if a2 = 6 then (some (wrap64 (a0_1 * t127))) else (if t127 = 0 then (some 0) else (if a2 = 7 then (some 1) else (some a0_1)))))))) = some r := h
 clear h
 replace H := Option.bind_eq_some_iff.mp H
 obtain ⟨t127, A40, H⟩ := H
 replace H : (if a2 = 2 then (some a1) else (if a2 = 3 then (some (wrap64 (a0_1 * a1))) else (if a2 = 5 then (some t127) else (if a2 = 6 then (some (wrap64 (a0_1 * t127))) else (if t127 = 0 then (some 0) else (if a2 = 7 then (some 1) else (some a0_1))))))) = some r := H
 have A4 := Aside0.mk A40
 clear A40
 by_cases c5 : a2 = 2
 ·rw [if_pos c5] at H
  have c5b0 : (a2 == 2) = true := beq_iff_eq.mpr c5
  have c5b1 : (a2 != 2) = false := bne_eq_false_iff_eq.mpr c5
  clear c5
  obtain rfl := Option.some.inj H
  go_enter Try.func124, Try.ntmps124
  go_wp2_with (first | ((with_reducible refine gate_dst (N := 3) rfl ?_); refine bE 3 #[.int .i64 a0_0, .int .i64 a0_1, .int .i64 a0_2, .int .i64 a0_3] 59 ?_; intro gb126 hg w6 hbox hb; have n0_ := Aside0.mk (below_step bB hb); have n1_ := Aside0.mk (hbox); have n2_ := Aside0.mk ((by rw [hg]; exact (below_size bB) : w.heap.size ≤ gb126)); have n3_ := Aside0.mk ((by rw [hg]; exact (below_size bB) : w.heap.size ≤ gb126)); clear HB; have HB := n0_; have BK126 := n1_; have GW126 := n2_; have GE126 := n3_; clear n0_ n1_ n2_ n3_; clear hb hbox hg; have hcz7_0 : w6.cell? ⟨gb126, 0, none⟩ = some (.int .i64 a0_0) := (blk_cell BK126.out 0).trans rfl; have hcz7_1 : w6.cell? ⟨gb126, 1, none⟩ = some (.int .i64 a0_1) := (blk_cell BK126.out 1).trans rfl; have hcz7_2 : w6.cell? ⟨gb126, 2, none⟩ = some (.int .i64 a0_2) := (blk_cell BK126.out 2).trans rfl; have hcz7_3 : w6.cell? ⟨gb126, 3, none⟩ = some (.int .i64 a0_3) := (blk_cell BK126.out 3).trans rfl; have hfz7_0 := blk_frozen BK126.out 0; have hfz7_1 := blk_frozen BK126.out 1; have hfz7_2 := blk_frozen BK126.out 2; have hfz7_3 := blk_frozen BK126.out 3) | ((with_reducible refine gate_callee (f := 110) rfl ?_); refine goesL_ (some 12) rfl rfl Try.func110 (by kernel_rfl) rfl #[.int .i64 (wrap64 (a1 - a0_3)), .int .i64 0] rfl aE ?_; (with_reducible refine (spec_l1Most.calls (wrap64 (a1 - a0_3)) 0 t127 _ A4.out).mono ?_); rintro e w' ⟨rfl, ⟨nd, rfl⟩⟩; refine ⟨_, rfl, ?_⟩))
  go_ret
  exact ⟨rE, bS⟩
 ·rw [if_neg c5] at H
  have c5b0 : (a2 == 2) = false := beq_eq_false_iff_ne.mpr c5
  have c5b1 : (a2 != 2) = true := bne_iff_ne.mpr c5
  by_cases c8 : a2 = 3
  ·rw [if_pos c8] at H
   have c8b0 : (a2 == 3) = true := beq_iff_eq.mpr c8
   have c8b1 : (a2 != 3) = false := bne_eq_false_iff_eq.mpr c8
   clear c8
   obtain rfl := Option.some.inj H
   go_enter Try.func124, Try.ntmps124
   go_wp2_with (first | ((with_reducible refine gate_dst (N := 3) rfl ?_); refine bE 3 #[.int .i64 a0_0, .int .i64 a0_1, .int .i64 a0_2, .int .i64 a0_3] 59 ?_; intro gb126 hg w9 hbox hb; have n0_ := Aside0.mk (below_step bB hb); have n1_ := Aside0.mk (hbox); have n2_ := Aside0.mk ((by rw [hg]; exact (below_size bB) : w.heap.size ≤ gb126)); have n3_ := Aside0.mk ((by rw [hg]; exact (below_size bB) : w.heap.size ≤ gb126)); clear HB; have HB := n0_; have BK126 := n1_; have GW126 := n2_; have GE126 := n3_; clear n0_ n1_ n2_ n3_; clear hb hbox hg; have hcz10_0 : w9.cell? ⟨gb126, 0, none⟩ = some (.int .i64 a0_0) := (blk_cell BK126.out 0).trans rfl; have hcz10_1 : w9.cell? ⟨gb126, 1, none⟩ = some (.int .i64 a0_1) := (blk_cell BK126.out 1).trans rfl; have hcz10_2 : w9.cell? ⟨gb126, 2, none⟩ = some (.int .i64 a0_2) := (blk_cell BK126.out 2).trans rfl; have hcz10_3 : w9.cell? ⟨gb126, 3, none⟩ = some (.int .i64 a0_3) := (blk_cell BK126.out 3).trans rfl; have hfz10_0 := blk_frozen BK126.out 0; have hfz10_1 := blk_frozen BK126.out 1; have hfz10_2 := blk_frozen BK126.out 2; have hfz10_3 := blk_frozen BK126.out 3) | ((with_reducible refine gate_callee (f := 110) rfl ?_); refine goesL_ (some 12) rfl rfl Try.func110 (by kernel_rfl) rfl #[.int .i64 (wrap64 (a1 - a0_3)), .int .i64 0] rfl aE ?_; (with_reducible refine (spec_l1Most.calls (wrap64 (a1 - a0_3)) 0 t127 _ A4.out).mono ?_); rintro e w' ⟨rfl, ⟨nd, rfl⟩⟩; refine ⟨_, rfl, ?_⟩))
   go_ret
   exact ⟨rE, bS⟩
  ·rw [if_neg c8] at H
   have c8b0 : (a2 == 3) = false := beq_eq_false_iff_ne.mpr c8
   have c8b1 : (a2 != 3) = true := bne_iff_ne.mpr c8
   by_cases c11 : a2 = 5
   ·rw [if_pos c11] at H
    have c11b0 : (a2 == 5) = true := beq_iff_eq.mpr c11
    have c11b1 : (a2 != 5) = false := bne_eq_false_iff_eq.mpr c11
    clear c11
    obtain rfl := Option.some.inj H
    go_enter Try.func124, Try.ntmps124
    go_wp2_with (first | ((with_reducible refine gate_dst (N := 3) rfl ?_); refine bE 3 #[.int .i64 a0_0, .int .i64 a0_1, .int .i64 a0_2, .int .i64 a0_3] 59 ?_; intro gb126 hg w12 hbox hb; have n0_ := Aside0.mk (below_step bB hb); have n1_ := Aside0.mk (hbox); have n2_ := Aside0.mk ((by rw [hg]; exact (below_size bB) : w.heap.size ≤ gb126)); have n3_ := Aside0.mk ((by rw [hg]; exact (below_size bB) : w.heap.size ≤ gb126)); clear HB; have HB := n0_; have BK126 := n1_; have GW126 := n2_; have GE126 := n3_; clear n0_ n1_ n2_ n3_; clear hb hbox hg; have hcz13_0 : w12.cell? ⟨gb126, 0, none⟩ = some (.int .i64 a0_0) := (blk_cell BK126.out 0).trans rfl; have hcz13_1 : w12.cell? ⟨gb126, 1, none⟩ = some (.int .i64 a0_1) := (blk_cell BK126.out 1).trans rfl; have hcz13_2 : w12.cell? ⟨gb126, 2, none⟩ = some (.int .i64 a0_2) := (blk_cell BK126.out 2).trans rfl; have hcz13_3 : w12.cell? ⟨gb126, 3, none⟩ = some (.int .i64 a0_3) := (blk_cell BK126.out 3).trans rfl; have hfz13_0 := blk_frozen BK126.out 0; have hfz13_1 := blk_frozen BK126.out 1; have hfz13_2 := blk_frozen BK126.out 2; have hfz13_3 := blk_frozen BK126.out 3) | ((with_reducible refine gate_callee (f := 110) rfl ?_); refine goesL_ (some 12) rfl rfl Try.func110 (by kernel_rfl) rfl #[.int .i64 (wrap64 (a1 - a0_3)), .int .i64 0] rfl aE ?_; (with_reducible refine (spec_l1Most.calls (wrap64 (a1 - a0_3)) 0 t127 _ A4.out).mono ?_); rintro e w' ⟨rfl, ⟨nd, rfl⟩⟩; refine ⟨_, rfl, ?_⟩))
    go_ret
    exact ⟨rE, bS⟩
   ·rw [if_neg c11] at H
    have c11b0 : (a2 == 5) = false := beq_eq_false_iff_ne.mpr c11
    have c11b1 : (a2 != 5) = true := bne_iff_ne.mpr c11
    by_cases c14 : a2 = 6
    ·rw [if_pos c14] at H
     have c14b0 : (a2 == 6) = true := beq_iff_eq.mpr c14
     have c14b1 : (a2 != 6) = false := bne_eq_false_iff_eq.mpr c14
     clear c14
     obtain rfl := Option.some.inj H
     go_enter Try.func124, Try.ntmps124
     go_wp2_with (first | ((with_reducible refine gate_dst (N := 3) rfl ?_); refine bE 3 #[.int .i64 a0_0, .int .i64 a0_1, .int .i64 a0_2, .int .i64 a0_3] 59 ?_; intro gb126 hg w15 hbox hb; have n0_ := Aside0.mk (below_step bB hb); have n1_ := Aside0.mk (hbox); have n2_ := Aside0.mk ((by rw [hg]; exact (below_size bB) : w.heap.size ≤ gb126)); have n3_ := Aside0.mk ((by rw [hg]; exact (below_size bB) : w.heap.size ≤ gb126)); clear HB; have HB := n0_; have BK126 := n1_; have GW126 := n2_; have GE126 := n3_; clear n0_ n1_ n2_ n3_; clear hb hbox hg; have hcz16_0 : w15.cell? ⟨gb126, 0, none⟩ = some (.int .i64 a0_0) := (blk_cell BK126.out 0).trans rfl; have hcz16_1 : w15.cell? ⟨gb126, 1, none⟩ = some (.int .i64 a0_1) := (blk_cell BK126.out 1).trans rfl; have hcz16_2 : w15.cell? ⟨gb126, 2, none⟩ = some (.int .i64 a0_2) := (blk_cell BK126.out 2).trans rfl; have hcz16_3 : w15.cell? ⟨gb126, 3, none⟩ = some (.int .i64 a0_3) := (blk_cell BK126.out 3).trans rfl; have hfz16_0 := blk_frozen BK126.out 0; have hfz16_1 := blk_frozen BK126.out 1; have hfz16_2 := blk_frozen BK126.out 2; have hfz16_3 := blk_frozen BK126.out 3) | ((with_reducible refine gate_callee (f := 110) rfl ?_); refine goesL_ (some 12) rfl rfl Try.func110 (by kernel_rfl) rfl #[.int .i64 (wrap64 (a1 - a0_3)), .int .i64 0] rfl aE ?_; (with_reducible refine (spec_l1Most.calls (wrap64 (a1 - a0_3)) 0 t127 _ A4.out).mono ?_); rintro e w' ⟨rfl, ⟨nd, rfl⟩⟩; refine ⟨_, rfl, ?_⟩))
     go_ret
     exact ⟨rE, bS⟩
    ·rw [if_neg c14] at H
     have c14b0 : (a2 == 6) = false := beq_eq_false_iff_ne.mpr c14
     have c14b1 : (a2 != 6) = true := bne_iff_ne.mpr c14
     by_cases c17 : t127 = 0
     ·rw [if_pos c17] at H
      have c17b0 : (t127 == 0) = true := beq_iff_eq.mpr c17
      have c17b1 : (t127 != 0) = false := bne_eq_false_iff_eq.mpr c17
      clear c17
      obtain rfl := Option.some.inj H
      go_enter Try.func124, Try.ntmps124
      go_wp2_with (first | ((with_reducible refine gate_dst (N := 3) rfl ?_); refine bE 3 #[.int .i64 a0_0, .int .i64 a0_1, .int .i64 a0_2, .int .i64 a0_3] 59 ?_; intro gb126 hg w18 hbox hb; have n0_ := Aside0.mk (below_step bB hb); have n1_ := Aside0.mk (hbox); have n2_ := Aside0.mk ((by rw [hg]; exact (below_size bB) : w.heap.size ≤ gb126)); have n3_ := Aside0.mk ((by rw [hg]; exact (below_size bB) : w.heap.size ≤ gb126)); clear HB; have HB := n0_; have BK126 := n1_; have GW126 := n2_; have GE126 := n3_; clear n0_ n1_ n2_ n3_; clear hb hbox hg; have hcz19_0 : w18.cell? ⟨gb126, 0, none⟩ = some (.int .i64 a0_0) := (blk_cell BK126.out 0).trans rfl; have hcz19_1 : w18.cell? ⟨gb126, 1, none⟩ = some (.int .i64 a0_1) := (blk_cell BK126.out 1).trans rfl; have hcz19_2 : w18.cell? ⟨gb126, 2, none⟩ = some (.int .i64 a0_2) := (blk_cell BK126.out 2).trans rfl; have hcz19_3 : w18.cell? ⟨gb126, 3, none⟩ = some (.int .i64 a0_3) := (blk_cell BK126.out 3).trans rfl; have hfz19_0 := blk_frozen BK126.out 0; have hfz19_1 := blk_frozen BK126.out 1; have hfz19_2 := blk_frozen BK126.out 2; have hfz19_3 := blk_frozen BK126.out 3) | ((with_reducible refine gate_callee (f := 110) rfl ?_); refine goesL_ (some 12) rfl rfl Try.func110 (by kernel_rfl) rfl #[.int .i64 (wrap64 (a1 - a0_3)), .int .i64 0] rfl aE ?_; (with_reducible refine (spec_l1Most.calls (wrap64 (a1 - a0_3)) 0 t127 _ A4.out).mono ?_); rintro e w' ⟨rfl, ⟨nd, rfl⟩⟩; refine ⟨_, rfl, ?_⟩))
      go_ret
      exact ⟨rE, bS⟩
     ·rw [if_neg c17] at H
      have c17b0 : (t127 == 0) = false := beq_eq_false_iff_ne.mpr c17
      have c17b1 : (t127 != 0) = true := bne_iff_ne.mpr c17
      by_cases c20 : a2 = 7
      ·rw [if_pos c20] at H
       have c20b0 : (a2 == 7) = true := beq_iff_eq.mpr c20
       have c20b1 : (a2 != 7) = false := bne_eq_false_iff_eq.mpr c20
       clear c20
       obtain rfl := Option.some.inj H
       go_enter Try.func124, Try.ntmps124
       go_wp2_with (first | ((with_reducible refine gate_dst (N := 3) rfl ?_); refine bE 3 #[.int .i64 a0_0, .int .i64 a0_1, .int .i64 a0_2, .int .i64 a0_3] 59 ?_; intro gb126 hg w21 hbox hb; have n0_ := Aside0.mk (below_step bB hb); have n1_ := Aside0.mk (hbox); have n2_ := Aside0.mk ((by rw [hg]; exact (below_size bB) : w.heap.size ≤ gb126)); have n3_ := Aside0.mk ((by rw [hg]; exact (below_size bB) : w.heap.size ≤ gb126)); clear HB; have HB := n0_; have BK126 := n1_; have GW126 := n2_; have GE126 := n3_; clear n0_ n1_ n2_ n3_; clear hb hbox hg; have hcz22_0 : w21.cell? ⟨gb126, 0, none⟩ = some (.int .i64 a0_0) := (blk_cell BK126.out 0).trans rfl; have hcz22_1 : w21.cell? ⟨gb126, 1, none⟩ = some (.int .i64 a0_1) := (blk_cell BK126.out 1).trans rfl; have hcz22_2 : w21.cell? ⟨gb126, 2, none⟩ = some (.int .i64 a0_2) := (blk_cell BK126.out 2).trans rfl; have hcz22_3 : w21.cell? ⟨gb126, 3, none⟩ = some (.int .i64 a0_3) := (blk_cell BK126.out 3).trans rfl; have hfz22_0 := blk_frozen BK126.out 0; have hfz22_1 := blk_frozen BK126.out 1; have hfz22_2 := blk_frozen BK126.out 2; have hfz22_3 := blk_frozen BK126.out 3) | ((with_reducible refine gate_callee (f := 110) rfl ?_); refine goesL_ (some 12) rfl rfl Try.func110 (by kernel_rfl) rfl #[.int .i64 (wrap64 (a1 - a0_3)), .int .i64 0] rfl aE ?_; (with_reducible refine (spec_l1Most.calls (wrap64 (a1 - a0_3)) 0 t127 _ A4.out).mono ?_); rintro e w' ⟨rfl, ⟨nd, rfl⟩⟩; refine ⟨_, rfl, ?_⟩))
       go_ret
       exact ⟨rE, bS⟩
      ·rw [if_neg c20] at H
       have c20b0 : (a2 == 7) = false := beq_eq_false_iff_ne.mpr c20
       have c20b1 : (a2 != 7) = true := bne_iff_ne.mpr c20
       obtain rfl := Option.some.inj H
       go_enter Try.func124, Try.ntmps124
       go_wp2_with (first | ((with_reducible refine gate_dst (N := 3) rfl ?_); refine bE 3 #[.int .i64 a0_0, .int .i64 a0_1, .int .i64 a0_2, .int .i64 a0_3] 59 ?_; intro gb126 hg w23 hbox hb; have n0_ := Aside0.mk (below_step bB hb); have n1_ := Aside0.mk (hbox); have n2_ := Aside0.mk ((by rw [hg]; exact (below_size bB) : w.heap.size ≤ gb126)); have n3_ := Aside0.mk ((by rw [hg]; exact (below_size bB) : w.heap.size ≤ gb126)); clear HB; have HB := n0_; have BK126 := n1_; have GW126 := n2_; have GE126 := n3_; clear n0_ n1_ n2_ n3_; clear hb hbox hg; have hcz24_0 : w23.cell? ⟨gb126, 0, none⟩ = some (.int .i64 a0_0) := (blk_cell BK126.out 0).trans rfl; have hcz24_1 : w23.cell? ⟨gb126, 1, none⟩ = some (.int .i64 a0_1) := (blk_cell BK126.out 1).trans rfl; have hcz24_2 : w23.cell? ⟨gb126, 2, none⟩ = some (.int .i64 a0_2) := (blk_cell BK126.out 2).trans rfl; have hcz24_3 : w23.cell? ⟨gb126, 3, none⟩ = some (.int .i64 a0_3) := (blk_cell BK126.out 3).trans rfl; have hfz24_0 := blk_frozen BK126.out 0; have hfz24_1 := blk_frozen BK126.out 1; have hfz24_2 := blk_frozen BK126.out 2; have hfz24_3 := blk_frozen BK126.out 3) | ((with_reducible refine gate_callee (f := 110) rfl ?_); refine goesL_ (some 12) rfl rfl Try.func110 (by kernel_rfl) rfl #[.int .i64 (wrap64 (a1 - a0_3)), .int .i64 0] rfl aE ?_; (with_reducible refine (spec_l1Most.calls (wrap64 (a1 - a0_3)) 0 t127 _ A4.out).mono ?_); rintro e w' ⟨rfl, ⟨nd, rfl⟩⟩; refine ⟨_, rfl, ?_⟩))
       go_ret
       exact ⟨rE, bS⟩

/-! ### spec_l2Of: function 74 -/
def spec_l2Of.l0 : Nat → List (S59) → List Int → Int → Int → Int → Option (Int)
 | 0, _, _, _, _, _ => none
 | k + 1, x0, x1, x2, x7, x8 => if x8 < (x0.length : Int) then ((spec_l2Greatest.f x2).bind fun t128 => (if t128 = true then (if 0 ≤ x8 then (if x8 < (x1.length : Int) then (if x2 = 4 then (if x8 = 0 then (spec_l2Of.l0 k x0 x1 x2 (wrap64 ((rd x1 x8) - ((rd_T59 x0 x8).f3))) (wrap64 (x8 + 1))) else (if (wrap64 ((rd x1 x8) - ((rd_T59 x0 x8).f3))) > x7 then (spec_l2Of.l0 k x0 x1 x2 (wrap64 ((rd x1 x8) - ((rd_T59 x0 x8).f3))) (wrap64 (x8 + 1))) else (spec_l2Of.l0 k x0 x1 x2 x7 (wrap64 (x8 + 1))))) else (if x8 = 0 then (spec_l2Of.l0 k x0 x1 x2 (rd x1 x8) (wrap64 (x8 + 1))) else (if (rd x1 x8) > x7 then (spec_l2Of.l0 k x0 x1 x2 (rd x1 x8) (wrap64 (x8 + 1))) else (spec_l2Of.l0 k x0 x1 x2 x7 (wrap64 (x8 + 1)))))) else (none)) else (none)) else (if 0 ≤ x8 then (if x8 < (x1.length : Int) then ((spec_l2Cost.f ((rd_T59 x0 x8).f0) ((rd_T59 x0 x8).f1) ((rd_T59 x0 x8).f2) ((rd_T59 x0 x8).f3) (rd x1 x8) x2).bind fun t131 => (spec_l2Of.l0 k x0 x1 x2 (wrap64 (x7 + t131)) (wrap64 (x8 + 1)))) else (none)) else (none)))) else (some x7)
def spec_l2Of.f (k : Nat) (l0 : List (S59)) (l1 : List Int) (a2 : Int) : Option (Int) := spec_l2Of.l0 k l0 l1 a2 0 0
theorem spec_l2Of.mono_l : ∀ k, (∀ y0 y1 y2 y3 y4, LeO (spec_l2Of.l0 k y0 y1 y2 y3 y4) (spec_l2Of.l0 (k + 1) y0 y1 y2 y3 y4))
 | 0 => fun _ _ _ _ _ r h => by simp [spec_l2Of.l0] at h
 | k + 1 => by
  have ih0 := spec_l2Of.mono_l k
  ·intro y0 y1 y2 y3 y4
   unfold spec_l2Of.l0
   repeat' first
   | (with_reducible exact ih0 _ _ _ _ _)
   | (with_reducible exact LeO.refl _)
   | (with_reducible exact LeO.none _)
   | (with_reducible refine LeO.ite ?_ ?_)
   | (with_reducible refine LeO.bind ?_ (fun _ => ?_))
   | exact ih0 _ _ _ _ _
   | exact LeO.none _
   | refine LeO.ite ?_ ?_
   | refine LeO.bind ?_ (fun _ => ?_)
theorem spec_l2Of.mono : ∀ a0 a1 a2 k, LeO (spec_l2Of.f k a0 a1 a2) (spec_l2Of.f (k + 1) a0 a1 a2) := by
 intro a0 a1 a2 k
 have ih0 := spec_l2Of.mono_l k
 unfold spec_l2Of.f
 repeat' first
   | (with_reducible exact ih0 _ _ _ _ _)
   | (with_reducible exact LeO.refl _)
   | (with_reducible exact LeO.none _)
   | (with_reducible refine LeO.ite ?_ ?_)
   | (with_reducible refine LeO.bind ?_ (fun _ => ?_))
   | exact ih0 _ _ _ _ _
   | exact LeO.none _
   | refine LeO.ite ?_ ?_
   | refine LeO.bind ?_ (fun _ => ?_)
def spec_l2Of.T6 : Bool × List (List Nat × List Nat) := (true, [([], []), ([], []), ([], []), ([1, 2], [1, 2]), ([3], [3]), ([], []), ([], []), ([5, 6], [5, 6]), ([7], [7]), ([], []), ([4, 8, 9], [4, 8, 9]), ([0, 10], [0, 10]), ([11, 10, 0, 1, 2, 3, 4, 5, 6, 7, 8, 9, 10, 11], [0, 11])])
def spec_l2Of.B6 : List Nat := [0, 0, 0, 6, 14, 0, 0, 96, 224, 0, 1022, 2047, 4095]
theorem spec_l2Of.tab6 : rtab .any (opsOf Try.f74 6) = spec_l2Of.T6 := by kernel_rfl
theorem spec_l2Of.bits6 : waitsOk spec_l2Of.T6.2 spec_l2Of.B6 = true := by kernel_rfl
set_option maxHeartbeats 8000000 in
set_option maxRecDepth 100000 in
theorem spec_l2Of.calls (k : Nat) (A0 : Option Addr) (c0 : Nat) (l0 : List (S59)) (A1 : Option Addr) (c1 : Nat) (l1 : List Int) (a2 : Int) (r : Int) (w : World) (hr0 : Kd.C k59 w A0 l0.length l0) (hc0 : l0.length ≤ c0) (hr1 : Kd.C (Kd.int .i64) w A1 l1.length l1) (hc1 : l1.length ≤ c1) (h : spec_l2Of.f k l0 l1 a2 = some r) :
  Calls Try.prog 74 #[.slice A0 l0.length c0, .slice A1 l1.length c1, .int .i64 a2] w fun e w' => e = .returned (.int .i64 r) ∧ Below w.heap.size w w' := by
 have hu59 := Try.underlying59
 have HR0 := Aside0.mk hr0
 have HC0 := Aside0.mk hc0
 clear hr0 hc0
 have HR1 := Aside0.mk hr1
 have HC1 := Aside0.mk hc1
 clear hr1 hc1
 have HB := Aside0.mk (Below.refl w.heap.size w)
 have H : (spec_l2Of.l0 k l0 l1 a2 0 0) = some r := h
 clear h
 have H' := Aside0.mk H
 clear H
 go_enter Try.func74, Try.ntmps74
 go_wp2
 go_loopg [7, 8] k (fun kq v7 v8 w' => ∃ (x7_1 : Int) (x8_1 : Int), v7 = .int .i64 x7_1 ∧ v8 = .int .i64 x8_1 ∧ Aside0 (spec_l2Of.l0 kq l0 l1 a2 x7_1 x8_1 = some r) ∧ Aside0 (kq ≤ k) ∧ Aside0 (Below w.heap.size w w'))
 case atStart => exact ⟨(0), (0), sD, sD, H', ⟨Nat.le_refl _⟩, ⟨by repeat (first | (with_reducible first | exact HB.out | apply below_alloc | apply pw_below_drewN | apply below_drew1) | exact HB.out)⟩⟩
 case round =>
  clear H'
  try clear c1
  try clear p2
  obtain ⟨x7_1, x8_1, rfl, rfl, HA, HK1, HB⟩ := hrel
  cases gk with
  | zero => exact absurd HA.out (by simp [spec_l2Of.l0])
  | succ k1 =>
   have H := HA.out
   clear HA
   simp only [spec_l2Of.l0] at H
   by_cases c4 : x8_1 < (l0.length : Int)
   ·rw [if_pos c4] at H
    have c4b0 : decide (x8_1 < (l0.length : Int)) = true := decide_eq_true c4
    clear c4
    replace H := Option.bind_eq_some_iff.mp H
    obtain ⟨t128, A50, H⟩ := H
    replace H : (if t128 = true then (if 0 ≤ x8_1 then (if x8_1 < (l1.length : Int) then (if a2 = 4 then (if x8_1 = 0 then (spec_l2Of.l0 k1 l0 l1 a2 (wrap64 ((rd l1 x8_1) - ((rd_T59 l0 x8_1).f3))) (wrap64 (x8_1 + 1))) else (if (wrap64 ((rd l1 x8_1) - ((rd_T59 l0 x8_1).f3))) > x7_1 then (spec_l2Of.l0 k1 l0 l1 a2 (wrap64 ((rd l1 x8_1) - ((rd_T59 l0 x8_1).f3))) (wrap64 (x8_1 + 1))) else (spec_l2Of.l0 k1 l0 l1 a2 x7_1 (wrap64 (x8_1 + 1))))) else (if x8_1 = 0 then (spec_l2Of.l0 k1 l0 l1 a2 (rd l1 x8_1) (wrap64 (x8_1 + 1))) else (if (rd l1 x8_1) > x7_1 then (spec_l2Of.l0 k1 l0 l1 a2 (rd l1 x8_1) (wrap64 (x8_1 + 1))) else (spec_l2Of.l0 k1 l0 l1 a2 x7_1 (wrap64 (x8_1 + 1)))))) else (none)) else (none)) else (if 0 ≤ x8_1 then (if x8_1 < (l1.length : Int) then ((spec_l2Cost.f ((rd_T59 l0 x8_1).f0) ((rd_T59 l0 x8_1).f1) ((rd_T59 l0 x8_1).f2) ((rd_T59 l0 x8_1).f3) (rd l1 x8_1) a2).bind fun t131 => (spec_l2Of.l0 k1 l0 l1 a2 (wrap64 (x7_1 + t131)) (wrap64 (x8_1 + 1)))) else (none)) else (none))) = some r := H
    have A5 := Aside0.mk A50
    clear A50
    by_cases c6 : t128 = true
    ·subst c6
     have H1 : (if 0 ≤ x8_1 then (if x8_1 < (l1.length : Int) then (if a2 = 4 then (if x8_1 = 0 then (spec_l2Of.l0 k1 l0 l1 a2 (wrap64 ((rd l1 x8_1) - ((rd_T59 l0 x8_1).f3))) (wrap64 (x8_1 + 1))) else (if (wrap64 ((rd l1 x8_1) - ((rd_T59 l0 x8_1).f3))) > x7_1 then (spec_l2Of.l0 k1 l0 l1 a2 (wrap64 ((rd l1 x8_1) - ((rd_T59 l0 x8_1).f3))) (wrap64 (x8_1 + 1))) else (spec_l2Of.l0 k1 l0 l1 a2 x7_1 (wrap64 (x8_1 + 1))))) else (if x8_1 = 0 then (spec_l2Of.l0 k1 l0 l1 a2 (rd l1 x8_1) (wrap64 (x8_1 + 1))) else (if (rd l1 x8_1) > x7_1 then (spec_l2Of.l0 k1 l0 l1 a2 (rd l1 x8_1) (wrap64 (x8_1 + 1))) else (spec_l2Of.l0 k1 l0 l1 a2 x7_1 (wrap64 (x8_1 + 1)))))) else (none)) else (none)) = some r := by rw [if_pos rfl] at H; exact H
     clear H
     have H := H1
     clear H1
     by_cases c7 : 0 ≤ x8_1; rotate_left
     ·rw [if_neg c7] at H; exact absurd H (by simp)
     rw [if_pos c7] at H
     have c7b0 : decide (0 ≤ x8_1) = true := decide_eq_true c7
     clear c7
     by_cases c8 : x8_1 < (l1.length : Int); rotate_left
     ·rw [if_neg c8] at H; exact absurd H (by simp)
     rw [if_pos c8] at H
     have c8b0 : decide (x8_1 < (l1.length : Int)) = true := decide_eq_true c8
     clear c8
     by_cases c9 : a2 = 4
     ·rw [if_pos c9] at H
      have c9b0 : (a2 == 4) = true := beq_iff_eq.mpr c9
      have c9b1 : (a2 != 4) = false := bne_eq_false_iff_eq.mpr c9
      clear c9
      by_cases c10 : x8_1 = 0
      ·rw [if_pos c10] at H
       have c10b0 : (x8_1 == 0) = true := beq_iff_eq.mpr c10
       have c10b1 : (x8_1 != 0) = false := bne_eq_false_iff_eq.mpr c10
       clear c10
       have H' := Aside0.mk H
       clear H
       go_wp2_with (first | ((with_reducible refine gate_callee (f := 122) rfl ?_); refine goesL_ (some 17) rfl rfl Try.func122 (by kernel_rfl) rfl #[.int .i64 a2] rfl aE ?_; (with_reducible refine (spec_l2Greatest.calls a2 true _ A5.out).mono ?_); rintro e w' ⟨rfl, ⟨nd, rfl⟩⟩; refine ⟨_, rfl, ?_⟩; have p132 : 0 ≤ (x8_1 : Int) := oD; have q132 : x8_1 < (l1.length : Int) := oD; obtain ⟨ad132, e132, hx132_0⟩ := Kd.at_int HR1.out x8_1 p132 q132; cases e132; replace hx132_0 := (cB HB.out hx132_0 :); replace p132 := eq_true p132; replace q132 := eq_true q132; have p133 : 0 ≤ (x8_1 : Int) := oD; have q133 : x8_1 < (l0.length : Int) := oD; obtain ⟨ad133, e133, hx133_0, hx133_1, hx133_2, hx133_3⟩ := at_T59 HR0.out x8_1 p133 q133; cases e133; replace hx133_0 := (cB HB.out hx133_0 :); replace hx133_1 := (cB HB.out hx133_1 :); replace hx133_2 := (cB HB.out hx133_2 :); replace hx133_3 := (cB HB.out hx133_3 :); replace p133 := eq_true p133; replace q133 := eq_true q133))
       go_roundg k1
       case measure => have := HK1.out; omega
       case rel => exact ⟨(wrap64 ((rd l1 x8_1) - ((rd_T59 l0 x8_1).f3))), (wrap64 (x8_1 + 1)), sD, sD, H', ⟨by have := HK1.out; omega⟩, ⟨by repeat (first | (with_reducible first | exact HB.out | apply below_alloc | apply pw_below_drewN | apply below_drew1) | exact HB.out)⟩⟩
      ·rw [if_neg c10] at H
       have c10b0 : (x8_1 == 0) = false := beq_eq_false_iff_ne.mpr c10
       have c10b1 : (x8_1 != 0) = true := bne_iff_ne.mpr c10
       by_cases c11 : (wrap64 ((rd l1 x8_1) - ((rd_T59 l0 x8_1).f3))) > x7_1
       ·rw [if_pos c11] at H
        have c11b0 : decide (x7_1 < (wrap64 ((rd l1 x8_1) - ((rd_T59 l0 x8_1).f3)))) = true := decide_eq_true c11
        clear c11
        have H' := Aside0.mk H
        clear H
        go_wp2_with (first | ((with_reducible refine gate_callee (f := 122) rfl ?_); refine goesL_ (some 17) rfl rfl Try.func122 (by kernel_rfl) rfl #[.int .i64 a2] rfl aE ?_; (with_reducible refine (spec_l2Greatest.calls a2 true _ A5.out).mono ?_); rintro e w' ⟨rfl, ⟨nd, rfl⟩⟩; refine ⟨_, rfl, ?_⟩; have p132 : 0 ≤ (x8_1 : Int) := oD; have q132 : x8_1 < (l1.length : Int) := oD; obtain ⟨ad132, e132, hx132_0⟩ := Kd.at_int HR1.out x8_1 p132 q132; cases e132; replace hx132_0 := (cB HB.out hx132_0 :); replace p132 := eq_true p132; replace q132 := eq_true q132; have p133 : 0 ≤ (x8_1 : Int) := oD; have q133 : x8_1 < (l0.length : Int) := oD; obtain ⟨ad133, e133, hx133_0, hx133_1, hx133_2, hx133_3⟩ := at_T59 HR0.out x8_1 p133 q133; cases e133; replace hx133_0 := (cB HB.out hx133_0 :); replace hx133_1 := (cB HB.out hx133_1 :); replace hx133_2 := (cB HB.out hx133_2 :); replace hx133_3 := (cB HB.out hx133_3 :); replace p133 := eq_true p133; replace q133 := eq_true q133))
        go_roundg k1
        case measure => have := HK1.out; omega
        case rel => exact ⟨(wrap64 ((rd l1 x8_1) - ((rd_T59 l0 x8_1).f3))), (wrap64 (x8_1 + 1)), sD, sD, H', ⟨by have := HK1.out; omega⟩, ⟨by repeat (first | (with_reducible first | exact HB.out | apply below_alloc | apply pw_below_drewN | apply below_drew1) | exact HB.out)⟩⟩
       ·rw [if_neg c11] at H
        have c11b0 : decide (x7_1 < (wrap64 ((rd l1 x8_1) - ((rd_T59 l0 x8_1).f3)))) = false := decide_eq_false c11
        clear c11
        have H' := Aside0.mk H
        clear H
        go_wp2_with (first | ((with_reducible refine gate_callee (f := 122) rfl ?_); refine goesL_ (some 17) rfl rfl Try.func122 (by kernel_rfl) rfl #[.int .i64 a2] rfl aE ?_; (with_reducible refine (spec_l2Greatest.calls a2 true _ A5.out).mono ?_); rintro e w' ⟨rfl, ⟨nd, rfl⟩⟩; refine ⟨_, rfl, ?_⟩; have p132 : 0 ≤ (x8_1 : Int) := oD; have q132 : x8_1 < (l1.length : Int) := oD; obtain ⟨ad132, e132, hx132_0⟩ := Kd.at_int HR1.out x8_1 p132 q132; cases e132; replace hx132_0 := (cB HB.out hx132_0 :); replace p132 := eq_true p132; replace q132 := eq_true q132; have p133 : 0 ≤ (x8_1 : Int) := oD; have q133 : x8_1 < (l0.length : Int) := oD; obtain ⟨ad133, e133, hx133_0, hx133_1, hx133_2, hx133_3⟩ := at_T59 HR0.out x8_1 p133 q133; cases e133; replace hx133_0 := (cB HB.out hx133_0 :); replace hx133_1 := (cB HB.out hx133_1 :); replace hx133_2 := (cB HB.out hx133_2 :); replace hx133_3 := (cB HB.out hx133_3 :); replace p133 := eq_true p133; replace q133 := eq_true q133))
        go_roundg k1
        case measure => have := HK1.out; omega
        case rel => exact ⟨(x7_1), (wrap64 (x8_1 + 1)), sD, sD, H', ⟨by have := HK1.out; omega⟩, ⟨by repeat (first | (with_reducible first | exact HB.out | apply below_alloc | apply pw_below_drewN | apply below_drew1) | exact HB.out)⟩⟩
     ·rw [if_neg c9] at H
      have c9b0 : (a2 == 4) = false := beq_eq_false_iff_ne.mpr c9
      have c9b1 : (a2 != 4) = true := bne_iff_ne.mpr c9
      by_cases c12 : x8_1 = 0
      ·rw [if_pos c12] at H
       have c12b0 : (x8_1 == 0) = true := beq_iff_eq.mpr c12
       have c12b1 : (x8_1 != 0) = false := bne_eq_false_iff_eq.mpr c12
       clear c12
       have H' := Aside0.mk H
       clear H
       go_wp2_with (first | ((with_reducible refine gate_callee (f := 122) rfl ?_); refine goesL_ (some 17) rfl rfl Try.func122 (by kernel_rfl) rfl #[.int .i64 a2] rfl aE ?_; (with_reducible refine (spec_l2Greatest.calls a2 true _ A5.out).mono ?_); rintro e w' ⟨rfl, ⟨nd, rfl⟩⟩; refine ⟨_, rfl, ?_⟩; have p132 : 0 ≤ (x8_1 : Int) := oD; have q132 : x8_1 < (l1.length : Int) := oD; obtain ⟨ad132, e132, hx132_0⟩ := Kd.at_int HR1.out x8_1 p132 q132; cases e132; replace hx132_0 := (cB HB.out hx132_0 :); replace p132 := eq_true p132; replace q132 := eq_true q132))
       go_roundg k1
       case measure => have := HK1.out; omega
       case rel => exact ⟨(rd l1 x8_1), (wrap64 (x8_1 + 1)), sD, sD, H', ⟨by have := HK1.out; omega⟩, ⟨by repeat (first | (with_reducible first | exact HB.out | apply below_alloc | apply pw_below_drewN | apply below_drew1) | exact HB.out)⟩⟩
      ·rw [if_neg c12] at H
       have c12b0 : (x8_1 == 0) = false := beq_eq_false_iff_ne.mpr c12
       have c12b1 : (x8_1 != 0) = true := bne_iff_ne.mpr c12
       by_cases c13 : (rd l1 x8_1) > x7_1
       ·rw [if_pos c13] at H
        have c13b0 : decide (x7_1 < (rd l1 x8_1)) = true := decide_eq_true c13
        clear c13
        have H' := Aside0.mk H
        clear H
        go_wp2_with (first | ((with_reducible refine gate_callee (f := 122) rfl ?_); refine goesL_ (some 17) rfl rfl Try.func122 (by kernel_rfl) rfl #[.int .i64 a2] rfl aE ?_; (with_reducible refine (spec_l2Greatest.calls a2 true _ A5.out).mono ?_); rintro e w' ⟨rfl, ⟨nd, rfl⟩⟩; refine ⟨_, rfl, ?_⟩; have p132 : 0 ≤ (x8_1 : Int) := oD; have q132 : x8_1 < (l1.length : Int) := oD; obtain ⟨ad132, e132, hx132_0⟩ := Kd.at_int HR1.out x8_1 p132 q132; cases e132; replace hx132_0 := (cB HB.out hx132_0 :); replace p132 := eq_true p132; replace q132 := eq_true q132))
        go_roundg k1
        case measure => have := HK1.out; omega
        case rel => exact ⟨(rd l1 x8_1), (wrap64 (x8_1 + 1)), sD, sD, H', ⟨by have := HK1.out; omega⟩, ⟨by repeat (first | (with_reducible first | exact HB.out | apply below_alloc | apply pw_below_drewN | apply below_drew1) | exact HB.out)⟩⟩
       ·rw [if_neg c13] at H
        have c13b0 : decide (x7_1 < (rd l1 x8_1)) = false := decide_eq_false c13
        clear c13
        have H' := Aside0.mk H
        clear H
        go_wp2_with (first | ((with_reducible refine gate_callee (f := 122) rfl ?_); refine goesL_ (some 17) rfl rfl Try.func122 (by kernel_rfl) rfl #[.int .i64 a2] rfl aE ?_; (with_reducible refine (spec_l2Greatest.calls a2 true _ A5.out).mono ?_); rintro e w' ⟨rfl, ⟨nd, rfl⟩⟩; refine ⟨_, rfl, ?_⟩; have p132 : 0 ≤ (x8_1 : Int) := oD; have q132 : x8_1 < (l1.length : Int) := oD; obtain ⟨ad132, e132, hx132_0⟩ := Kd.at_int HR1.out x8_1 p132 q132; cases e132; replace hx132_0 := (cB HB.out hx132_0 :); replace p132 := eq_true p132; replace q132 := eq_true q132))
        go_roundg k1
        case measure => have := HK1.out; omega
        case rel => exact ⟨(x7_1), (wrap64 (x8_1 + 1)), sD, sD, H', ⟨by have := HK1.out; omega⟩, ⟨by repeat (first | (with_reducible first | exact HB.out | apply below_alloc | apply pw_below_drewN | apply below_drew1) | exact HB.out)⟩⟩
    ·replace c6 := Bool.eq_false_iff.mpr c6
     subst c6
     have H1 : (if 0 ≤ x8_1 then (if x8_1 < (l1.length : Int) then ((spec_l2Cost.f ((rd_T59 l0 x8_1).f0) ((rd_T59 l0 x8_1).f1) ((rd_T59 l0 x8_1).f2) ((rd_T59 l0 x8_1).f3) (rd l1 x8_1) a2).bind fun t131 => (spec_l2Of.l0 k1 l0 l1 a2 (wrap64 (x7_1 + t131)) (wrap64 (x8_1 + 1)))) else (none)) else (none)) = some r := by rw [if_neg (show ¬ (false = true) by decide)] at H; exact H
     clear H
     have H := H1
     clear H1
     by_cases c14 : 0 ≤ x8_1; rotate_left
     ·rw [if_neg c14] at H; exact absurd H (by simp)
     rw [if_pos c14] at H
     have c14b0 : decide (0 ≤ x8_1) = true := decide_eq_true c14
     clear c14
     by_cases c15 : x8_1 < (l1.length : Int); rotate_left
     ·rw [if_neg c15] at H; exact absurd H (by simp)
     rw [if_pos c15] at H
     have c15b0 : decide (x8_1 < (l1.length : Int)) = true := decide_eq_true c15
     clear c15
     replace H := Option.bind_eq_some_iff.mp H
     obtain ⟨t131, A160, H⟩ := H
     replace H : (spec_l2Of.l0 k1 l0 l1 a2 (wrap64 (x7_1 + t131)) (wrap64 (x8_1 + 1))) = some r := H
     have A16 := Aside0.mk A160
     clear A160
     have H' := Aside0.mk H
     clear H
     try go_wp2_with (first | ((with_reducible refine gate_callee (f := 122) rfl ?_); refine goesL_ (some 17) rfl rfl Try.func122 (by kernel_rfl) rfl #[.int .i64 a2] rfl aE ?_; (with_reducible refine (spec_l2Greatest.calls a2 false _ A5.out).mono ?_); rintro e w' ⟨rfl, ⟨nd, rfl⟩⟩; refine ⟨_, rfl, ?_⟩))
     (try (rw [drewN_self wr]; generalize hq_ : World.drewN wr _ = wr; have n0_ : Aside0 (Below w.heap.size w wr) := ⟨by rw [← hq_]; exact bB⟩; clear HB hq_; have HB := n0_; clear n0_))
     have n0_ := Aside0.mk (below_drew1 HB.out)
     clear HB
     have HB := n0_
     clear n0_
     have p129 : 0 ≤ (x8_1 : Int) := oD
     have q129 : x8_1 < (l0.length : Int) := oD
     obtain ⟨ad129, e129, hx129_0, hx129_1, hx129_2, hx129_3⟩ := at_T59 HR0.out x8_1 p129 q129
     have hw129_3 := hx129_3
     have hw129_2 := hx129_2
     have hw129_1 := hx129_1
     have hw129_0 := hx129_0
     cases e129
     replace hx129_0 := (cB HB.out hx129_0 :)
     replace hx129_1 := (cB HB.out hx129_1 :)
     replace hx129_2 := (cB HB.out hx129_2 :)
     replace hx129_3 := (cB HB.out hx129_3 :)
     replace p129 := eq_true p129
     replace q129 := eq_true q129
     have p130 : 0 ≤ (x8_1 : Int) := oD
     have q130 : x8_1 < (l1.length : Int) := oD
     obtain ⟨ad130, e130, hx130_0⟩ := Kd.at_int HR1.out x8_1 p130 q130
     have hw130_0 := hx130_0
     cases e130
     replace hx130_0 := (cB HB.out hx130_0 :)
     replace p130 := eq_true p130
     replace q130 := eq_true q130
     refine start_ (n := 13) (S := fun w' => w'.cell? (ad129.add ((x8_1).toNat * 4)) = some (.int .i64 ((rd_T59 l0 x8_1).f0)) ∧ w'.cell? ⟨(ad129.add ((x8_1).toNat * 4)).block, (ad129.add ((x8_1).toNat * 4)).off + 1, none⟩ = some (.int .i64 ((rd_T59 l0 x8_1).f1)) ∧ w'.cell? ⟨(ad129.add ((x8_1).toNat * 4)).block, (ad129.add ((x8_1).toNat * 4)).off + 2, none⟩ = some (.int .i64 ((rd_T59 l0 x8_1).f2)) ∧ w'.cell? ⟨(ad129.add ((x8_1).toNat * 4)).block, (ad129.add ((x8_1).toNat * 4)).off + 3, none⟩ = some (.int .i64 ((rd_T59 l0 x8_1).f3)) ∧ w'.cell? (ad130.add (x8_1).toNat) = some (.int .i64 (rd l1 x8_1))) (ds := []) (bA 13 0) (by kernel_rfl) rfl rfl ⟨((cB HB.out hw129_0 :)), ((cB HB.out hw129_1 :)), ((cB HB.out hw129_2 :)), ((cB HB.out hw129_3 :)), ((cB HB.out hw130_0 :))⟩ (fun hHeld => ?_); refine with_tabW spec_l2Of.tab6 spec_l2Of.bits6 (fun HT_ HW_ => ?_)
     generalize wr.drew = w17 at HB hx129_0 hx129_1 hx129_2 hx129_3 hx130_0 hHeld ⊢
     refine pU 0 19 (bA 13 1) ?_
     refine pU 1 20 (bA 13 3) ?_
     refine pU 2 21 (bA 13 7) ?_
     refine pU 3 22 (bA 13 15) ?_
     refine pU 5 24 (bA 13 47) ?_
     refine pU 6 25 (bA 13 111) ?_
     refine pU 7 26 (bA 13 239) ?_
     refine pU 9 28 (bA 13 751) ?_
     refine tU 4 23 (bA 13 767) ?_
     refine tU 8 27 (bA 13 1023) ?_
     refine one_ (i := 10) (N := some 29) (bA 13 2047) rfl rfl (one_of HT_.out (by kernel_rfl)) (by decide) (fun K hK => ?_)
     refine goes_ Try.func124 (by kernel_rfl) rfl #[.agg #[.int .i64 ((rd_T59 l0 x8_1).f0), .int .i64 ((rd_T59 l0 x8_1).f1), .int .i64 ((rd_T59 l0 x8_1).f2), .int .i64 ((rd_T59 l0 x8_1).f3)], .int .i64 (rd l1 x8_1), .int .i64 a2] (by rfl) rfl rfl aE ?_
     with_reducible refine (spec_l2Cost.calls ((rd_T59 l0 x8_1).f0) ((rd_T59 l0 x8_1).f1) ((rd_T59 l0 x8_1).f2) ((rd_T59 l0 x8_1).f3) (rd l1 x8_1) a2 t131 _ A16.out).mono ?_
     rintro e w18 ⟨rfl, hb⟩
     refine ⟨_, rfl, ?_⟩
     have n0_ := Aside0.mk (below_step bB hb)
     clear HB
     have HB := n0_
     clear n0_
     (try clear hb)
     (try clear hb2)
     (try clear hk)
     (try clear hi)
     refine hK.out _ _ ⟨((cB HB.out hw129_0 :)), ((cB HB.out hw129_1 :)), ((cB HB.out hw129_2 :)), ((cB HB.out hw129_3 :)), ((cB HB.out hw130_0 :))⟩ (fun hHeld => ?_)
     clear hK K
     refine norm_ (a' := ?_) ?_ ?_
     rotate_left
     ·show Act.put _ (some 29) _ = _
      simp only [Act.put, sA, sZ, sS, i64_w, i32_w]
      rfl
     refine pU 11 30 (bA 13 4095) ?_
     refine pU 12 7 (bA 13 8191) ?_
     refine done_ (done_of HT_.out (by kernel_rfl)) ?_
     try go_wp2
     go_roundg k1
     case measure => have := HK1.out; omega
     case rel => exact ⟨(wrap64 (x7_1 + t131)), (wrap64 (x8_1 + 1)), sD, sD, H', ⟨by have := HK1.out; omega⟩, ⟨by repeat (first | (with_reducible first | exact HB.out | apply below_alloc | apply pw_below_drewN | apply below_drew1) | exact HB.out)⟩⟩
   ·rw [if_neg c4] at H
    have c4b0 : decide (x8_1 < (l0.length : Int)) = false := decide_eq_false c4
    clear c4
    obtain rfl := Option.some.inj H
    go_wp2
    go_ret
    exact ⟨rE, bB⟩

/-! ### spec_l2Starts: function 149 -/
def spec_l2Starts.l0 : Nat → List (S59) → List Int → List Int → Int → Int → Option (List Int)
 | 0, _, _, _, _, _ => none
 | k + 1, x0, x1, x5, x6, x7 => if x7 < (x1.length : Int) then (if 0 ≤ x7 then (if 0 ≤ (rd x1 x7) then (if (rd x1 x7) < (x0.length : Int) then ((spec_l1Most.f x6 ((rd_T59 x0 (rd x1 x7)).f2)).bind fun t140 => (if (rd x1 x7) < (x5.length : Int) then ((some (x5.set ((rd x1 x7) : Int).toNat t140 : List Int)).bind fun y141 => (spec_l2Starts.l0 k x0 x1 y141 (wrap64 ((rd y141 (rd x1 x7)) + ((rd_T59 x0 (rd x1 x7)).f0))) (wrap64 (x7 + 1)))) else (none))) else (none)) else (none)) else (none)) else (some x5)
def spec_l2Starts.f (k : Nat) (l0 : List (S59)) (l1 : List Int) : Option (List Int) := if 0 ≤ (l0.length : Int) then (if ((l0.length : Int) : Int).toNat ≤ 35184372088832 then (spec_l2Starts.l0 k l0 l1 (List.replicate ((l0.length : Int) : Int).toNat 0) 0 0) else (none)) else (none)
theorem spec_l2Starts.mono_l : ∀ k, (∀ y0 y1 y2 y3 y4, LeO (spec_l2Starts.l0 k y0 y1 y2 y3 y4) (spec_l2Starts.l0 (k + 1) y0 y1 y2 y3 y4))
 | 0 => fun _ _ _ _ _ r h => by simp [spec_l2Starts.l0] at h
 | k + 1 => by
  have ih0 := spec_l2Starts.mono_l k
  ·intro y0 y1 y2 y3 y4
   unfold spec_l2Starts.l0
   repeat' first
   | (with_reducible exact ih0 _ _ _ _ _)
   | (with_reducible exact LeO.refl _)
   | (with_reducible exact LeO.none _)
   | (with_reducible refine LeO.ite ?_ ?_)
   | (with_reducible refine LeO.bind ?_ (fun _ => ?_))
   | exact ih0 _ _ _ _ _
   | exact LeO.none _
   | refine LeO.ite ?_ ?_
   | refine LeO.bind ?_ (fun _ => ?_)
theorem spec_l2Starts.mono : ∀ a0 a1 k, LeO (spec_l2Starts.f k a0 a1) (spec_l2Starts.f (k + 1) a0 a1) := by
 intro a0 a1 k
 have ih0 := spec_l2Starts.mono_l k
 unfold spec_l2Starts.f
 repeat' first
   | (with_reducible exact ih0 _ _ _ _ _)
   | (with_reducible exact LeO.refl _)
   | (with_reducible exact LeO.none _)
   | (with_reducible refine LeO.ite ?_ ?_)
   | (with_reducible refine LeO.bind ?_ (fun _ => ?_))
   | exact ih0 _ _ _ _ _
   | exact LeO.none _
   | refine LeO.ite ?_ ?_
   | refine LeO.bind ?_ (fun _ => ?_)
def spec_l2Starts.T5 : Bool × List (List Nat × List Nat) := (true, [([], []), ([], []), ([], []), ([1, 2], [1, 2]), ([3], [3]), ([], []), ([], []), ([], []), ([], []), ([7, 8], [7, 8]), ([9], [9]), ([6, 10], [6, 10]), ([11], [11]), ([12], [12]), ([5, 13], [5, 13]), ([0, 4, 0, 1, 2, 3, 4, 5, 6, 7, 8, 9, 10, 11, 12, 13, 14], [0, 4]), ([15, 14, 14, 0, 1, 2, 3, 4, 5, 6, 7, 8, 9, 10, 11, 12, 13, 14], [14, 15])])
def spec_l2Starts.B5 : List Nat := [0, 0, 0, 6, 14, 0, 0, 0, 0, 384, 896, 1984, 4032, 8128, 16352, 32767, 65535]
theorem spec_l2Starts.tab5 : rtab .any (opsOf Try.f149 5) = spec_l2Starts.T5 := by kernel_rfl
theorem spec_l2Starts.bits5 : waitsOk spec_l2Starts.T5.2 spec_l2Starts.B5 = true := by kernel_rfl
def spec_l2Starts.T6 : Bool × List (List Nat × List Nat) := (true, [([], []), ([], []), ([], []), ([1, 2], [1, 2]), ([3], [3]), ([0, 4], [0, 4]), ([5], [5]), ([], []), ([], []), ([], []), ([8, 9], [8, 9]), ([10], [10]), ([7, 11], [7, 11]), ([12], [12]), ([13], [13]), ([6, 14], [6, 14]), ([15, 0, 1, 2, 3, 4, 5, 6, 7, 8, 9, 10, 11, 12, 13, 14, 15], [15])])
def spec_l2Starts.B6 : List Nat := [0, 0, 0, 6, 14, 31, 63, 0, 0, 0, 768, 1792, 3968, 8064, 16256, 32767, 65535]
theorem spec_l2Starts.tab6 : rtab .any (opsOf Try.f149 6) = spec_l2Starts.T6 := by kernel_rfl
theorem spec_l2Starts.bits6 : waitsOk spec_l2Starts.T6.2 spec_l2Starts.B6 = true := by kernel_rfl
set_option maxHeartbeats 8000000 in
set_option maxRecDepth 100000 in
theorem spec_l2Starts.calls (k : Nat) (A0 : Option Addr) (c0 : Nat) (l0 : List (S59)) (A1 : Option Addr) (c1 : Nat) (l1 : List Int) (r : List Int) (w : World) (hr0 : Kd.C k59 w A0 l0.length l0) (hc0 : l0.length ≤ c0) (hr1 : Kd.C (Kd.int .i64) w A1 l1.length l1) (hc1 : l1.length ≤ c1) (h : spec_l2Starts.f k l0 l1 = some r) :
  Calls Try.prog 149 #[.slice A0 l0.length c0, .slice A1 l1.length c1] w fun e w' => ∃ v0_ : Value, e = .returned (v0_) ∧ Kd.R (Kd.int .i64) 3 w' w.heap.size (fun _ => True) v0_ r ∧ Below w.heap.size w w' := by
 have HR0 := Aside0.mk hr0
 have HC0 := Aside0.mk hc0
 clear hr0 hc0
 have HR1 := Aside0.mk hr1
 have HC1 := Aside0.mk hc1
 clear hr1 hc1
 have HB := Aside0.mk (Below.refl w.heap.size w)
 have H : (if 0 ≤ (l0.length : Int) then (if ((l0.length : Int) : Int).toNat ≤ 35184372088832 then (spec_l2Starts.l0 k l0 l1 (List.replicate ((l0.length : Int) : Int).toNat 0) 0 0) else (none)) else (none)) = some r := h
 clear h
 by_cases c3 : 0 ≤ (l0.length : Int); rotate_left
 ·rw [if_neg c3] at H; exact absurd H (by simp)
 rw [if_pos c3] at H
 have c3b0 := eq_true c3
 have c3b1 : decide (0 ≤ (l0.length : Int)) = true := decide_eq_true c3
 clear c3
 by_cases c4 : ((l0.length : Int) : Int).toNat ≤ 35184372088832; rotate_left
 ·rw [if_neg c4] at H; exact absurd H (by simp)
 rw [if_pos c4] at H
 have c4b0 := eq_true c4
 have c4b1 : decide (((l0.length : Int) : Int).toNat ≤ 35184372088832) = true := decide_eq_true c4
 clear c4
 obtain ⟨y134, hy134⟩ : ∃ y_ : List Int, y_ = (List.replicate ((l0.length : Int) : Int).toNat 0) := ⟨_, rfl⟩
 replace H : (spec_l2Starts.l0 k l0 l1 y134 0 0) = some r := by first | (rw [hy134]; with_reducible exact H) | (have H2_ := (Option.bind_some _ _).symm.trans H; rw [hy134]; with_reducible exact H2_) | (have H2_ := (Option.bind_some _ _).symm.trans H; with_reducible exact H2_) | with_reducible exact H | (rw [hy134]; exact H) | exact H
 have Ny134 := Aside0.mk hy134
 clear hy134
 have H' := Aside0.mk H
 clear H
 go_enter Try.func149, Try.ntmps149
 go_wp2_with (first | ((with_reducible refine gate_dst (N := 10) rfl ?_); refine Kd.R_make (Kd.int .i64) _ 3 rfl (N := 10) rfl 37 _ _ rfl (l0.length : Int) rfl rfl Try.underlying37 (.int .i64 0) 8 info3 rfl (by decide) (by omega) 0 (ok := fun _ => True) (okp := fun _ => True) rfl (fun _ hk => hk) trivial (oD) (Nat.le_trans (Nat.mul_le_mul_right _ (oD : (l0.length : Int).toNat ≤ 35184372088832)) (by omega)) (Below.refl _ _) (Nat.le_refl _) ?_; intro v135 w5 ho6 hb hg_ hnew_; clear hg_ hnew_; (first | rw [← Ny134.out] at ho6 | (simp only [Int.reduceToNat] at ho6; rw [← Ny134.out] at ho6)); have n0_ := Aside0.mk (Kd.R_lower ho6 (below_size bB)); have n1_ := Aside0.mk (below_step bB hb); clear HB; have HO136 := n0_; have HB := n1_; clear n0_ n1_; clear hb ho6))
 go_loopg [6, 7] k (fun kq v6 v7 w' => ∃ (x5_1 : List Int) (x6_1 : Int) (x7_1 : Int), v6 = .int .i64 x6_1 ∧ v7 = .int .i64 x7_1 ∧ Aside0 (spec_l2Starts.l0 kq l0 l1 x5_1 x6_1 x7_1 = some r) ∧ Aside0 (kq ≤ k) ∧ Aside0 (Kd.R (Kd.int .i64) 3 w' w.heap.size (fun _ => True) v135 x5_1) ∧ Aside0 (Below w.heap.size w w'))
 case atStart => exact ⟨(y134), (0), (0), sD, sD, H', ⟨Nat.le_refl _⟩, ⟨kR⟩, ⟨by repeat (first | (with_reducible first | exact HB.out | apply below_alloc | apply pw_below_drewN | apply below_drew1) | exact HB.out)⟩⟩
 case round =>
  clear H'
  try clear c1
  try clear p2
  try clear c3
  try clear c3b0
  try clear c3b1
  try clear c4
  try clear c4b0
  try clear c4b1
  obtain ⟨x5_1, x6_1, x7_1, rfl, rfl, HA, HK1, HO_5, HB⟩ := hrel
  cases gk with
  | zero => exact absurd HA.out (by simp [spec_l2Starts.l0])
  | succ k1 =>
   have H := HA.out
   clear HA
   simp only [spec_l2Starts.l0] at H
   by_cases c7 : x7_1 < (l1.length : Int)
   ·rw [if_pos c7] at H
    have c7b0 : decide (x7_1 < (l1.length : Int)) = true := decide_eq_true c7
    clear c7
    by_cases c8 : 0 ≤ x7_1; rotate_left
    ·rw [if_neg c8] at H; exact absurd H (by simp)
    rw [if_pos c8] at H
    have c8b0 : decide (0 ≤ x7_1) = true := decide_eq_true c8
    clear c8
    by_cases c9 : 0 ≤ (rd l1 x7_1); rotate_left
    ·rw [if_neg c9] at H; exact absurd H (by simp)
    rw [if_pos c9] at H
    have c9b0 : decide (0 ≤ (rd l1 x7_1)) = true := decide_eq_true c9
    clear c9
    by_cases c10 : (rd l1 x7_1) < (l0.length : Int); rotate_left
    ·rw [if_neg c10] at H; exact absurd H (by simp)
    rw [if_pos c10] at H
    have c10b0 : decide ((rd l1 x7_1) < (l0.length : Int)) = true := decide_eq_true c10
    clear c10
    replace H := Option.bind_eq_some_iff.mp H
    obtain ⟨t140, A110, H⟩ := H
    replace H : (if (rd l1 x7_1) < (x5_1.length : Int) then ((some (x5_1.set ((rd l1 x7_1) : Int).toNat t140 : List Int)).bind fun y141 => (spec_l2Starts.l0 k1 l0 l1 y141 (wrap64 ((rd y141 (rd l1 x7_1)) + ((rd_T59 l0 (rd l1 x7_1)).f0))) (wrap64 (x7_1 + 1)))) else (none)) = some r := H
    have A11 := Aside0.mk A110
    clear A110
    by_cases c12 : (rd l1 x7_1) < (x5_1.length : Int); rotate_left
    ·rw [if_neg c12] at H; exact absurd H (by simp)
    rw [if_pos c12] at H
    have c12b0 : decide ((rd l1 x7_1) < (x5_1.length : Int)) = true := decide_eq_true c12
    clear c12
    obtain ⟨y141, hy141⟩ : ∃ y_ : List Int, y_ = (x5_1.set ((rd l1 x7_1) : Int).toNat t140) := ⟨_, rfl⟩
    replace H : (spec_l2Starts.l0 k1 l0 l1 y141 (wrap64 ((rd y141 (rd l1 x7_1)) + ((rd_T59 l0 (rd l1 x7_1)).f0))) (wrap64 (x7_1 + 1))) = some r := by first | (rw [hy141]; with_reducible exact H) | (have H2_ := (Option.bind_some _ _).symm.trans H; rw [hy141]; with_reducible exact H2_) | (have H2_ := (Option.bind_some _ _).symm.trans H; with_reducible exact H2_) | with_reducible exact H | (rw [hy141]; exact H) | exact H
    have Ny141 := Aside0.mk hy141
    clear hy141
    have H' := Aside0.mk H
    clear H
    try go_wp2
    have n0_ := Aside0.mk (Kd.R_drew HO_5.out)
    have n1_ := Aside0.mk (below_drew1 HB.out)
    clear HO_5
    clear HB
    have HO_5 := n0_
    have HB := n1_
    clear n0_ n1_
    have p137 : 0 ≤ (x7_1 : Int) := oD
    have q137 : x7_1 < (l1.length : Int) := oD
    obtain ⟨ad137, e137, hx137_0⟩ := Kd.at_int HR1.out x7_1 p137 q137
    have hw137_0 := hx137_0
    cases e137
    replace hx137_0 := (cB HB.out hx137_0 :)
    replace p137 := eq_true p137
    replace q137 := eq_true q137
    have p138 : 0 ≤ (x7_1 : Int) := oD
    have q138 : x7_1 < (l1.length : Int) := oD
    obtain ⟨ad138, e138, hx138_0⟩ := Kd.at_int HR1.out x7_1 p138 q138
    have hw138_0 := hx138_0
    obtain rfl : ad137 = ad138 := (by injection e138)
    replace hx138_0 := (cB HB.out hx138_0 :)
    replace p138 := eq_true p138
    replace q138 := eq_true q138
    have p139 : 0 ≤ ((rd l1 x7_1) : Int) := oD
    have q139 : (rd l1 x7_1) < (l0.length : Int) := oD
    obtain ⟨ad139, e139, hx139_0, hx139_1, hx139_2, hx139_3⟩ := at_T59 HR0.out (rd l1 x7_1) p139 q139
    have hw139_3 := hx139_3
    have hw139_2 := hx139_2
    have hw139_1 := hx139_1
    have hw139_0 := hx139_0
    cases e139
    replace hx139_0 := (cB HB.out hx139_0 :)
    replace hx139_1 := (cB HB.out hx139_1 :)
    replace hx139_2 := (cB HB.out hx139_2 :)
    replace hx139_3 := (cB HB.out hx139_3 :)
    replace p139 := eq_true p139
    replace q139 := eq_true q139
    refine start_ (n := 17) (S := fun w' => w'.cell? (ad137.add (x7_1).toNat) = some (.int .i64 (rd l1 x7_1)) ∧ w'.cell? (ad137.add (x7_1).toNat) = some (.int .i64 (rd l1 x7_1)) ∧ w'.cell? (ad139.add (((rd l1 x7_1)).toNat * 4)) = some (.int .i64 ((rd_T59 l0 (rd l1 x7_1)).f0)) ∧ w'.cell? ⟨(ad139.add (((rd l1 x7_1)).toNat * 4)).block, (ad139.add (((rd l1 x7_1)).toNat * 4)).off + 1, none⟩ = some (.int .i64 ((rd_T59 l0 (rd l1 x7_1)).f1)) ∧ w'.cell? ⟨(ad139.add (((rd l1 x7_1)).toNat * 4)).block, (ad139.add (((rd l1 x7_1)).toNat * 4)).off + 2, none⟩ = some (.int .i64 ((rd_T59 l0 (rd l1 x7_1)).f2)) ∧ w'.cell? ⟨(ad139.add (((rd l1 x7_1)).toNat * 4)).block, (ad139.add (((rd l1 x7_1)).toNat * 4)).off + 3, none⟩ = some (.int .i64 ((rd_T59 l0 (rd l1 x7_1)).f3))) (ds := [16]) (bA 17 0) (by kernel_rfl) rfl rfl ⟨((cB HB.out hw137_0 :)), ((cB HB.out hw138_0 :)), ((cB HB.out hw139_0 :)), ((cB HB.out hw139_1 :)), ((cB HB.out hw139_2 :)), ((cB HB.out hw139_3 :))⟩ (fun hHeld => ?_); refine with_tabW spec_l2Starts.tab5 spec_l2Starts.bits5 (fun HT_ HW_ => ?_)
    generalize wr.drew = w14 at HO_5 HB hx137_0 hx138_0 hx139_0 hx139_1 hx139_2 hx139_3 hHeld ⊢
    refine pU 0 17 (bA 17 1) ?_
    refine pU 1 18 (bA 17 3) ?_
    refine pU 2 19 (bA 17 7) ?_
    refine pU 3 20 (bA 17 15) ?_
    refine pU 5 22 (bA 17 47) ?_
    refine pU 6 23 (bA 17 111) ?_
    refine pU 7 24 (bA 17 239) ?_
    refine pU 8 25 (bA 17 495) ?_
    refine pU 9 26 (bA 17 1007) ?_
    refine tU 4 21 (bA 17 1023) ?_
    refine tU 10 27 (bA 17 2047) ?_
    refine pU 11 28 (bA 17 4095) ?_
    refine pU 12 29 (bA 17 8191) ?_
    refine tU 13 30 (bA 17 16383) ?_
    refine one_ (i := 14) (N := some 31) (bA 17 32767) rfl rfl (one_of HT_.out (by kernel_rfl)) (by decide) (fun K hK => ?_)
    refine goes_ Try.func110 (by kernel_rfl) rfl #[.int .i64 x6_1, .int .i64 ((rd_T59 l0 (rd l1 x7_1)).f2)] (by rfl) rfl rfl aE ?_
    with_reducible refine (spec_l1Most.calls x6_1 ((rd_T59 l0 (rd l1 x7_1)).f2) t140 _ A11.out).mono ?_
    rintro e w' ⟨rfl, ⟨nd, rfl⟩⟩
    refine ⟨_, rfl, ?_⟩
    have p13 : 0 ≤ ((rd l1 x7_1) : Int) := oD
    have q13 : ((rd l1 x7_1) : Int) < ((x5_1.length : Int) : Int) := oD
    obtain ⟨go13, co13, eo13, gb13, gl13, cl13, HG13⟩ := Kd.R_form HO_5.out (by omega)
    (first | cases eo13 | (injection eo13 with ea_ en_ ec_; (first | subst ea_ | (injection ea_ with ea_; subst ea_)); subst ec_; clear en_))
    have GB13 := Aside0.mk gb13
    have GG13 := Aside0.mk HG13
    clear gb13 gl13 HG13
    obtain ⟨hx13_0, hf13_0⟩ := Kd.R_celln 0 HO_5.out ((rd l1 x7_1) : Int) p13 q13
    replace p13 := eq_true p13
    replace q13 := eq_true q13
    have HP15 := Kd.R_putn (Kd.R_drewN HO_5.out nd) ((rd l1 x7_1) : Int) t140
    rw [← Ny141.out] at HP15
    have HQ15 := Aside0.mk HP15
    clear HP15
    refine hK.out _ _ ⟨((cB HB.out hw137_0 :)), ((cB HB.out hw138_0 :)), ((cB HB.out hw139_0 :)), ((cB HB.out hw139_1 :)), ((cB HB.out hw139_2 :)), ((cB HB.out hw139_3 :))⟩ (fun hHeld => ?_)
    clear hK K
    refine norm_ (a' := ?_) ?_ ?_
    rotate_left
    ·show Act.put _ (some 31) _ = _
     simp only [Act.put, sA, sZ, sS, i64_w, i32_w]
     rfl
    refine pU 15 32 (bA 17 65535) ?_
    refine last_ (i := 16) (N := none) (bA 17 131071) rfl rfl (one_of HT_.out (by kernel_rfl)) (by decide) (fun K hK => ?_)
    refine skip_ (w1 := ?_) (by rfl) rfl ?_ ?_
    rotate_left
    ·go_simp
     rfl
    refine hK.out _ _ ?_
    clear hK K
    refine done_ (done_of HT_.out (by kernel_rfl)) ?_
    try go_wp2
    have n0_ : Aside0 (Kd.R (Kd.int .i64) 3 ((w14.drewN nd).setCell ⟨go13, ((rd l1 x7_1) : Int).toNat, none⟩ (.int .i64 t140)) w.heap.size (fun _ => True) (.slice (some ⟨go13, 0, none⟩) x5_1.length co13) y141) := ⟨by (with_reducible repeat (first | apply Kd.R_alloc | apply Kd.R_drewN | apply Kd.R_drew)); exact HQ15.out⟩
    have n1_ : Aside0 (Below w.heap.size w ((w14.drewN nd).setCell ⟨go13, ((rd l1 x7_1) : Int).toNat, none⟩ (.int .i64 t140))) := ⟨by repeat (first | (with_reducible first | exact HB.out | apply below_alloc | apply pw_below_drewN | apply below_drew1 | refine below_set ?_ GB13.out) | exact HB.out)⟩
    (try clear HO_5)
    (try clear HB)
    generalize ((w14.drewN nd).setCell ⟨go13, ((rd l1 x7_1) : Int).toNat, none⟩ (.int .i64 t140)) = w16 at n0_ n1_ ⊢
    have HO_5 := n0_
    have HB := n1_
    clear n0_ n1_
    (try (rw [drewN_self w16]; generalize hq_ : World.drewN w16 _ = w16; have n0_ : Aside0 (Kd.R (Kd.int .i64) 3 w16 w.heap.size (fun _ => True) (.slice (some ⟨go13, 0, none⟩) x5_1.length co13) y141) := ⟨by rw [← hq_]; exact (by (with_reducible repeat (first | apply Kd.R_alloc | apply Kd.R_drewN | apply Kd.R_drew)); exact HO_5.out)⟩; have n1_ : Aside0 (Below w.heap.size w w16) := ⟨by rw [← hq_]; exact bB⟩; clear HO_5 HB hq_; have HO_5 := n0_; have HB := n1_; clear n0_ n1_))
    have n0_ := Aside0.mk (Kd.R_drew HO_5.out)
    have n1_ := Aside0.mk (below_drew1 HB.out)
    clear HO_5
    clear HB
    have HO_5 := n0_
    have HB := n1_
    clear n0_ n1_
    have p142 : 0 ≤ (x7_1 : Int) := oD
    have q142 : x7_1 < (l1.length : Int) := oD
    obtain ⟨ad142, e142, hx142_0⟩ := Kd.at_int HR1.out x7_1 p142 q142
    have hw142_0 := hx142_0
    obtain rfl : ad137 = ad142 := (by injection e142)
    replace hx142_0 := (cB HB.out hx142_0 :)
    replace p142 := eq_true p142
    replace q142 := eq_true q142
    have p143 : 0 ≤ ((rd l1 x7_1) : Int) := oD
    have q143 : (rd l1 x7_1) < (y141.length : Int) := (by have h_ : ((rd l1 x7_1) : Int) < ((x5_1.length : Int) : Int) := oD; first | (have e_ := (Kd.R_reads' HO_5.out).1; omega) | simpa only [Ny141.out, List.length_set] using h_)
    have ql143 : (((rd l1 x7_1) : Int) < ((x5_1.length : Int) : Int)) = True := eq_true (oD)
    obtain ⟨ad143, e143, hx143_0⟩ := Kd.at_int (Kd.R_reads' HO_5.out).2.2 (rd l1 x7_1) p143 q143
    obtain rfl : (⟨go13, 0, none⟩ : Addr) = ad143 := (by injection e143)
    (first | simp only [add_plain] at hx143_0 | simp only [add_at] at hx143_0 | simp only [Addr.add, Nat.zero_add] at hx143_0 | skip)
    replace p143 := eq_true p143
    replace q143 := eq_true q143
    have p144 : 0 ≤ (x7_1 : Int) := oD
    have q144 : x7_1 < (l1.length : Int) := oD
    obtain ⟨ad144, e144, hx144_0⟩ := Kd.at_int HR1.out x7_1 p144 q144
    have hw144_0 := hx144_0
    obtain rfl : ad137 = ad144 := (by injection e144)
    replace hx144_0 := (cB HB.out hx144_0 :)
    replace p144 := eq_true p144
    replace q144 := eq_true q144
    have p145 : 0 ≤ ((rd l1 x7_1) : Int) := oD
    have q145 : (rd l1 x7_1) < (l0.length : Int) := oD
    obtain ⟨ad145, e145, hx145_0, hx145_1, hx145_2, hx145_3⟩ := at_T59 HR0.out (rd l1 x7_1) p145 q145
    have hw145_3 := hx145_3
    have hw145_2 := hx145_2
    have hw145_1 := hx145_1
    have hw145_0 := hx145_0
    obtain rfl : ad139 = ad145 := (by injection e145)
    replace hx145_0 := (cB HB.out hx145_0 :)
    replace hx145_1 := (cB HB.out hx145_1 :)
    replace hx145_2 := (cB HB.out hx145_2 :)
    replace hx145_3 := (cB HB.out hx145_3 :)
    replace p145 := eq_true p145
    replace q145 := eq_true q145
    refine start_ (n := 17) (S := fun w' => w'.cell? (ad137.add (x7_1).toNat) = some (.int .i64 (rd l1 x7_1)) ∧ w'.cell? ⟨go13, ((rd l1 x7_1)).toNat, none⟩ = some (.int .i64 (rd y141 (rd l1 x7_1))) ∧ w'.cell? (ad137.add (x7_1).toNat) = some (.int .i64 (rd l1 x7_1)) ∧ w'.cell? (ad139.add (((rd l1 x7_1)).toNat * 4)) = some (.int .i64 ((rd_T59 l0 (rd l1 x7_1)).f0)) ∧ w'.cell? ⟨(ad139.add (((rd l1 x7_1)).toNat * 4)).block, (ad139.add (((rd l1 x7_1)).toNat * 4)).off + 1, none⟩ = some (.int .i64 ((rd_T59 l0 (rd l1 x7_1)).f1)) ∧ w'.cell? ⟨(ad139.add (((rd l1 x7_1)).toNat * 4)).block, (ad139.add (((rd l1 x7_1)).toNat * 4)).off + 2, none⟩ = some (.int .i64 ((rd_T59 l0 (rd l1 x7_1)).f2)) ∧ w'.cell? ⟨(ad139.add (((rd l1 x7_1)).toNat * 4)).block, (ad139.add (((rd l1 x7_1)).toNat * 4)).off + 3, none⟩ = some (.int .i64 ((rd_T59 l0 (rd l1 x7_1)).f3))) (ds := []) (bA 17 0) (by kernel_rfl) rfl rfl ⟨((cB HB.out hw142_0 :)), hx143_0, ((cB HB.out hw144_0 :)), ((cB HB.out hw145_0 :)), ((cB HB.out hw145_1 :)), ((cB HB.out hw145_2 :)), ((cB HB.out hw145_3 :))⟩ (fun hHeld => ?_); refine with_tabW spec_l2Starts.tab6 spec_l2Starts.bits6 (fun HT_ HW_ => ?_)
    generalize w16.drew = w17 at HO_5 HB HQ15 hx142_0 hx143_0 hx144_0 hx145_0 hx145_1 hx145_2 hx145_3 hHeld ⊢
    refine pU 0 33 (bA 17 1) ?_
    refine pU 1 34 (bA 17 3) ?_
    refine pU 2 35 (bA 17 7) ?_
    refine pU 3 36 (bA 17 15) ?_
    refine pU 7 40 (bA 17 143) ?_
    refine pU 8 41 (bA 17 399) ?_
    refine pU 9 42 (bA 17 911) ?_
    refine pU 10 43 (bA 17 1935) ?_
    refine tU 4 37 (bA 17 1951) ?_
    refine pU 5 38 (bA 17 1983) ?_
    refine tU 6 39 (bA 17 2047) ?_
    refine tU 11 44 (bA 17 4095) ?_
    refine pU 12 45 (bA 17 8191) ?_
    refine pU 13 46 (bA 17 16383) ?_
    refine tU 14 47 (bA 17 32767) ?_
    refine pU 15 48 (bA 17 65535) ?_
    refine pU 16 6 (bA 17 131071) ?_
    refine done_ (done_of HT_.out (by kernel_rfl)) ?_
    try go_wp2
    go_roundg k1
    case measure => have := HK1.out; omega
    case rel => exact ⟨(y141), (wrap64 ((rd y141 (rd l1 x7_1)) + ((rd_T59 l0 (rd l1 x7_1)).f0))), (wrap64 (x7_1 + 1)), sD, sD, H', ⟨by have := HK1.out; omega⟩, ⟨kR⟩, ⟨by repeat (first | (with_reducible first | exact HB.out | apply below_alloc | apply pw_below_drewN | apply below_drew1) | exact HB.out)⟩⟩
   ·rw [if_neg c7] at H
    have c7b0 : decide (x7_1 < (l1.length : Int)) = false := decide_eq_false c7
    clear c7
    obtain rfl := Option.some.inj H
    go_wp2
    go_ret
    exact ⟨_, by first | rfl | (simp [errW_none, errW_some] <;> rfl) | (simp [*, errW_none, errW_some] <;> rfl), by (with_reducible repeat (first | apply Kd.R_alloc | apply Kd.R_drewN | apply Kd.R_drew)); exact HO_5.out, bB⟩

/-! ### spec_l2Ends: function 146 -/
def spec_l2Ends.l0 : Nat → List (S59) → List Int → Int → Option (List Int)
 | 0, _, _, _ => none
 | k + 1, x0, x5, x6 => if x6 < (x0.length : Int) then (if 0 ≤ x6 then (if x6 < (x5.length : Int) then (spec_l2Ends.l0 k x0 (x5.set (x6 : Int).toNat (wrap64 ((rd x5 x6) + ((rd_T59 x0 x6).f0)))) (wrap64 (x6 + 1))) else (none)) else (none)) else (some x5)
def spec_l2Ends.f (k : Nat) (l0 : List (S59)) (l1 : List Int) : Option (List Int) := (spec_l2Starts.f k l0 l1).bind fun t146 => (spec_l2Ends.l0 k l0 t146 0)
theorem spec_l2Ends.mono_l : ∀ k, (∀ y0 y1 y2, LeO (spec_l2Ends.l0 k y0 y1 y2) (spec_l2Ends.l0 (k + 1) y0 y1 y2))
 | 0 => fun _ _ _ r h => by simp [spec_l2Ends.l0] at h
 | k + 1 => by
  have ih0 := spec_l2Ends.mono_l k
  ·intro y0 y1 y2
   unfold spec_l2Ends.l0
   repeat' first
   | (with_reducible exact ih0 _ _ _)
   | (with_reducible exact spec_l2Starts.mono _ _ _)
   | (with_reducible exact LeO.refl _)
   | (with_reducible exact LeO.none _)
   | (with_reducible refine LeO.ite ?_ ?_)
   | (with_reducible refine LeO.bind ?_ (fun _ => ?_))
   | exact ih0 _ _ _
   | exact spec_l2Starts.mono _ _ _
   | exact LeO.none _
   | refine LeO.ite ?_ ?_
   | refine LeO.bind ?_ (fun _ => ?_)
theorem spec_l2Ends.mono : ∀ a0 a1 k, LeO (spec_l2Ends.f k a0 a1) (spec_l2Ends.f (k + 1) a0 a1) := by
 intro a0 a1 k
 have ih0 := spec_l2Ends.mono_l k
 unfold spec_l2Ends.f
 repeat' first
   | (with_reducible exact ih0 _ _ _)
   | (with_reducible exact spec_l2Starts.mono _ _ _)
   | (with_reducible exact LeO.refl _)
   | (with_reducible exact LeO.none _)
   | (with_reducible refine LeO.ite ?_ ?_)
   | (with_reducible refine LeO.bind ?_ (fun _ => ?_))
   | exact ih0 _ _ _
   | exact spec_l2Starts.mono _ _ _
   | exact LeO.none _
   | refine LeO.ite ?_ ?_
   | refine LeO.bind ?_ (fun _ => ?_)
def spec_l2Ends.T5 : Bool × List (List Nat × List Nat) := (true, [([], []), ([], []), ([], []), ([], []), ([2, 3], [2, 3]), ([4], [4]), ([], []), ([], []), ([6, 7], [6, 7]), ([8], [8]), ([9], [9]), ([5, 10], [5, 10]), ([0, 1, 0, 1, 2, 3, 4, 5, 6, 7, 8, 9, 10, 11], [0, 1]), ([12, 11, 0, 1, 2, 3, 4, 5, 6, 7, 8, 9, 10, 11], [11, 12])])
def spec_l2Ends.B5 : List Nat := [0, 0, 0, 0, 12, 28, 0, 0, 192, 448, 960, 2044, 4095, 8191]
theorem spec_l2Ends.tab5 : rtab .any (opsOf Try.f146 5) = spec_l2Ends.T5 := by kernel_rfl
theorem spec_l2Ends.bits5 : waitsOk spec_l2Ends.T5.2 spec_l2Ends.B5 = true := by kernel_rfl
set_option maxHeartbeats 8000000 in
set_option maxRecDepth 100000 in
theorem spec_l2Ends.calls (k : Nat) (A0 : Option Addr) (c0 : Nat) (l0 : List (S59)) (A1 : Option Addr) (c1 : Nat) (l1 : List Int) (r : List Int) (w : World) (hr0 : Kd.C k59 w A0 l0.length l0) (hc0 : l0.length ≤ c0) (hr1 : Kd.C (Kd.int .i64) w A1 l1.length l1) (hc1 : l1.length ≤ c1) (h : spec_l2Ends.f k l0 l1 = some r) :
  Calls Try.prog 146 #[.slice A0 l0.length c0, .slice A1 l1.length c1] w fun e w' => ∃ v0_ : Value, e = .returned (v0_) ∧ Kd.R (Kd.int .i64) 3 w' w.heap.size (fun _ => True) v0_ r ∧ Below w.heap.size w w' := by
 have HR0 := Aside0.mk hr0
 have HC0 := Aside0.mk hc0
 clear hr0 hc0
 have HR1 := Aside0.mk hr1
 have HC1 := Aside0.mk hc1
 clear hr1 hc1
 have HB := Aside0.mk (Below.refl w.heap.size w)
 have H : ((spec_l2Starts.f k l0 l1).bind fun t146 => (spec_l2Ends.l0 k l0 t146 0)) = some r := h
 clear h
 replace H := Option.bind_eq_some_iff.mp H
 obtain ⟨t146, A30, H⟩ := H
 replace H : (spec_l2Ends.l0 k l0 t146 0) = some r := H
 have A3 := Aside0.mk A30
 clear A30
 have H' := Aside0.mk H
 clear H
 go_enter Try.func146, Try.ntmps146
 go_wp2_with (first | ((with_reducible refine gate_callee (f := 149) rfl ?_); refine goesL_ (some 9) rfl rfl Try.func149 (by kernel_rfl) rfl #[.slice A0 l0.length c0, .slice A1 l1.length c1] rfl aE ?_; (with_reducible refine (spec_l2Starts.calls k _ _ l0 _ _ l1 t146 _ ?side1 ?side2 ?side3 ?side4 A3.out).mono ?_); (case side1 => repeat (first | exact HR0.out | (with_reducible refine Kd.C_alloc ?_ _) | (with_reducible refine Kd.C_drewN ?_ _) | (with_reducible refine Kd.C_drew ?_))); (case side2 => exact HC0.out); (case side3 => repeat (first | exact HR1.out | (with_reducible refine Kd.C_alloc ?_ _) | (with_reducible refine Kd.C_drewN ?_ _) | (with_reducible refine Kd.C_drew ?_))); (case side4 => exact HC1.out); rintro e w4 ⟨v147, rfl, ho0, hb⟩; refine ⟨_, rfl, ?_⟩; have n0_ := Aside0.mk (Kd.R_lower ho0 (below_size bB)); have n1_ := Aside0.mk (below_step bB hb); clear HB; have HO148 := n0_; have HB := n1_; clear n0_ n1_; (try clear hb); (try clear hb2); (try clear hk); (try clear hi); (try clear ho0)))
 go_loopg [6] k (fun kq v6 w' => ∃ (x5_1 : List Int) (x6_1 : Int), v6 = .int .i64 x6_1 ∧ Aside0 (spec_l2Ends.l0 kq l0 x5_1 x6_1 = some r) ∧ Aside0 (kq ≤ k) ∧ Aside0 (Kd.R (Kd.int .i64) 3 w' w.heap.size (fun _ => True) v147 x5_1) ∧ Aside0 (Below w.heap.size w w'))
 case atStart => exact ⟨(t146), (0), sD, H', ⟨Nat.le_refl _⟩, ⟨kR⟩, ⟨by repeat (first | (with_reducible first | exact HB.out | apply below_alloc | apply pw_below_drewN | apply below_drew1) | exact HB.out)⟩⟩
 case round =>
  clear H'
  try clear c1
  try clear p2
  obtain ⟨x5_1, x6_1, rfl, HA, HK1, HO_5, HB⟩ := hrel
  cases gk with
  | zero => exact absurd HA.out (by simp [spec_l2Ends.l0])
  | succ k1 =>
   have H := HA.out
   clear HA
   simp only [spec_l2Ends.l0] at H
   by_cases c5 : x6_1 < (l0.length : Int)
   ·rw [if_pos c5] at H
    have c5b0 : decide (x6_1 < (l0.length : Int)) = true := decide_eq_true c5
    clear c5
    by_cases c6 : 0 ≤ x6_1; rotate_left
    ·rw [if_neg c6] at H; exact absurd H (by simp)
    rw [if_pos c6] at H
    have c6b0 : decide (0 ≤ x6_1) = true := decide_eq_true c6
    clear c6
    by_cases c7 : x6_1 < (x5_1.length : Int); rotate_left
    ·rw [if_neg c7] at H; exact absurd H (by simp)
    rw [if_pos c7] at H
    have c7b0 : decide (x6_1 < (x5_1.length : Int)) = true := decide_eq_true c7
    clear c7
    obtain ⟨y151, hy151⟩ : ∃ y_ : List Int, y_ = (x5_1.set (x6_1 : Int).toNat (wrap64 ((rd x5_1 x6_1) + ((rd_T59 l0 x6_1).f0)))) := ⟨_, rfl⟩
    replace H : (spec_l2Ends.l0 k1 l0 y151 (wrap64 (x6_1 + 1))) = some r := by first | (rw [hy151]; with_reducible exact H) | (have H2_ := (Option.bind_some _ _).symm.trans H; rw [hy151]; with_reducible exact H2_) | (have H2_ := (Option.bind_some _ _).symm.trans H; with_reducible exact H2_) | with_reducible exact H | (rw [hy151]; exact H) | exact H
    have Ny151 := Aside0.mk hy151
    clear hy151
    have H' := Aside0.mk H
    clear H
    try go_wp2
    have n0_ := Aside0.mk (Kd.R_drew HO_5.out)
    have n1_ := Aside0.mk (below_drew1 HB.out)
    clear HO_5
    clear HB
    have HO_5 := n0_
    have HB := n1_
    clear n0_ n1_
    obtain ⟨Ao10, co10, eo10⟩ := Kd.R_slice HO_5.out
    (first | subst eo10 | (injection eo10 with f1_ f2_ f3_; have f4_ := f1_.symm; have f5_ := f3_.symm; clear f1_ f2_ f3_; subst f4_; subst f5_))
    have p149 : 0 ≤ (x6_1 : Int) := oD
    have q149 : x6_1 < (x5_1.length : Int) := oD
    obtain ⟨ad149, e149, hx149_0⟩ := Kd.at_int (Kd.R_reads' HO_5.out).2.2 x6_1 p149 q149
    cases e149
    replace p149 := eq_true p149
    replace q149 := eq_true q149
    have p150 : 0 ≤ (x6_1 : Int) := oD
    have q150 : x6_1 < (l0.length : Int) := oD
    obtain ⟨ad150, e150, hx150_0, hx150_1, hx150_2, hx150_3⟩ := at_T59 HR0.out x6_1 p150 q150
    have hw150_3 := hx150_3
    have hw150_2 := hx150_2
    have hw150_1 := hx150_1
    have hw150_0 := hx150_0
    cases e150
    replace hx150_0 := (cB HB.out hx150_0 :)
    replace hx150_1 := (cB HB.out hx150_1 :)
    replace hx150_2 := (cB HB.out hx150_2 :)
    replace hx150_3 := (cB HB.out hx150_3 :)
    replace p150 := eq_true p150
    replace q150 := eq_true q150
    have p8 : 0 ≤ (x6_1 : Int) := oD
    have q8 : (x6_1 : Int) < ((x5_1.length : Int) : Int) := oD
    obtain ⟨go8, co8, eo8, gb8, gl8, cl8, HG8⟩ := Kd.R_form HO_5.out (by omega)
    (first | cases eo8 | (injection eo8 with ea_ en_ ec_; (first | subst ea_ | (injection ea_ with ea_; subst ea_)); subst ec_; clear en_))
    have GB8 := Aside0.mk gb8
    have GG8 := Aside0.mk HG8
    clear gb8 gl8 HG8
    (first | simp only [add_plain] at hx149_0 | skip)
    obtain ⟨hx8_0, hf8_0⟩ := Kd.R_celln 0 HO_5.out (x6_1 : Int) p8 q8
    replace p8 := eq_true p8
    replace q8 := eq_true q8
    have HP11 := Kd.R_putn HO_5.out (x6_1 : Int) (wrap64 ((rd x5_1 x6_1) + ((rd_T59 l0 x6_1).f0)))
    rw [← Ny151.out] at HP11
    have HQ11 := Aside0.mk HP11
    clear HP11
    refine start_ (n := 14) (S := fun w' => w'.cell? ⟨go8, (x6_1).toNat, none⟩ = some (.int .i64 (rd x5_1 x6_1)) ∧ w'.cell? (ad150.add ((x6_1).toNat * 4)) = some (.int .i64 ((rd_T59 l0 x6_1).f0)) ∧ w'.cell? ⟨(ad150.add ((x6_1).toNat * 4)).block, (ad150.add ((x6_1).toNat * 4)).off + 1, none⟩ = some (.int .i64 ((rd_T59 l0 x6_1).f1)) ∧ w'.cell? ⟨(ad150.add ((x6_1).toNat * 4)).block, (ad150.add ((x6_1).toNat * 4)).off + 2, none⟩ = some (.int .i64 ((rd_T59 l0 x6_1).f2)) ∧ w'.cell? ⟨(ad150.add ((x6_1).toNat * 4)).block, (ad150.add ((x6_1).toNat * 4)).off + 3, none⟩ = some (.int .i64 ((rd_T59 l0 x6_1).f3))) (ds := [13]) (bA 14 0) (by kernel_rfl) rfl rfl ⟨hx149_0, ((cB HB.out hw150_0 :)), ((cB HB.out hw150_1 :)), ((cB HB.out hw150_2 :)), ((cB HB.out hw150_3 :))⟩ (fun hHeld => ?_); refine with_tabW spec_l2Ends.tab5 spec_l2Ends.bits5 (fun HT_ HW_ => ?_)
    generalize wr.drew = w9 at HO_5 HB GG8 HQ11 hf8_0 hx149_0 hx150_0 hx150_1 hx150_2 hx150_3 hx8_0 hHeld ⊢
    refine pU 0 16 (bA 14 1) ?_
    refine pU 1 17 (bA 14 3) ?_
    refine pU 2 18 (bA 14 7) ?_
    refine pU 3 19 (bA 14 15) ?_
    refine pU 4 20 (bA 14 31) ?_
    refine pU 6 22 (bA 14 95) ?_
    refine pU 7 23 (bA 14 223) ?_
    refine pU 8 24 (bA 14 479) ?_
    refine pU 9 25 (bA 14 991) ?_
    refine tU 5 21 (bA 14 1023) ?_
    refine tU 10 26 (bA 14 2047) ?_
    refine pU 11 27 (bA 14 4095) ?_
    refine pU 12 28 (bA 14 8191) ?_
    refine last_ (i := 13) (N := none) (bA 14 16383) rfl rfl (one_of HT_.out (by kernel_rfl)) (by decide) (fun K hK => ?_)
    refine skip_ (w1 := ?_) (by rfl) rfl ?_ ?_
    rotate_left
    ·go_simp
     rfl
    refine hK.out _ _ ?_
    clear hK K
    refine done_ (done_of HT_.out (by kernel_rfl)) ?_
    try go_wp2
    go_roundg k1
    case measure => have := HK1.out; omega
    case rel => exact ⟨(y151), (wrap64 (x6_1 + 1)), sD, H', ⟨by have := HK1.out; omega⟩, ⟨by (with_reducible repeat (first | apply Kd.R_alloc | apply Kd.R_drewN | apply Kd.R_drew)); exact HQ11.out⟩, ⟨by repeat (first | (with_reducible first | exact HB.out | apply below_alloc | apply pw_below_drewN | apply below_drew1 | refine below_set ?_ GB8.out) | exact HB.out)⟩⟩
   ·rw [if_neg c5] at H
    have c5b0 : decide (x6_1 < (l0.length : Int)) = false := decide_eq_false c5
    clear c5
    obtain rfl := Option.some.inj H
    go_wp2
    go_ret
    exact ⟨_, by first | rfl | (simp [errW_none, errW_some] <;> rfl) | (simp [*, errW_none, errW_some] <;> rfl), by (with_reducible repeat (first | apply Kd.R_alloc | apply Kd.R_drewN | apply Kd.R_drew)); exact HO_5.out, bB⟩

/-! ### spec_l2Value: function 127 -/
def spec_l2Value.f (k : Nat) (l0 : List (S59)) (l1 : List Int) (a2 : Int) : Option (Int) := (spec_l2Ends.f k l0 l1).bind fun t152 => ((spec_l2Of.f k l0 t152 a2).bind fun t155 => (some t155))
theorem spec_l2Value.mono : ∀ a0 a1 a2 k, LeO (spec_l2Value.f k a0 a1 a2) (spec_l2Value.f (k + 1) a0 a1 a2) := by
 intro a0 a1 a2 k
 unfold spec_l2Value.f
 repeat' first
   | (with_reducible exact spec_l2Ends.mono _ _ _)
   | (with_reducible exact spec_l2Of.mono _ _ _ _)
   | (with_reducible exact LeO.refl _)
   | (with_reducible exact LeO.none _)
   | (with_reducible refine LeO.ite ?_ ?_)
   | (with_reducible refine LeO.bind ?_ (fun _ => ?_))
   | exact spec_l2Ends.mono _ _ _
   | exact spec_l2Of.mono _ _ _ _
   | exact LeO.none _
   | refine LeO.ite ?_ ?_
   | refine LeO.bind ?_ (fun _ => ?_)
set_option maxHeartbeats 8000000 in
set_option maxRecDepth 100000 in
theorem spec_l2Value.calls (k : Nat) (A0 : Option Addr) (c0 : Nat) (l0 : List (S59)) (A1 : Option Addr) (c1 : Nat) (l1 : List Int) (a2 : Int) (r : Int) (w : World) (hr0 : Kd.C k59 w A0 l0.length l0) (hc0 : l0.length ≤ c0) (hr1 : Kd.C (Kd.int .i64) w A1 l1.length l1) (hc1 : l1.length ≤ c1) (h : spec_l2Value.f k l0 l1 a2 = some r) :
  Calls Try.prog 127 #[.slice A0 l0.length c0, .slice A1 l1.length c1, .int .i64 a2] w fun e w' => e = .returned (.int .i64 r) ∧ Below w.heap.size w w' := by
 have HR0 := Aside0.mk hr0
 have HC0 := Aside0.mk hc0
 clear hr0 hc0
 have HR1 := Aside0.mk hr1
 have HC1 := Aside0.mk hc1
 clear hr1 hc1
 have HB := Aside0.mk (Below.refl w.heap.size w)
 have H : ((spec_l2Ends.f k l0 l1).bind fun t152 => ((spec_l2Of.f k l0 t152 a2).bind fun t155 => (some t155))) = some r := h
 clear h
 replace H := Option.bind_eq_some_iff.mp H
 obtain ⟨t152, A40, H⟩ := H
 replace H : ((spec_l2Of.f k l0 t152 a2).bind fun t155 => (some t155)) = some r := H
 have A4 := Aside0.mk A40
 clear A40
 replace H := Option.bind_eq_some_iff.mp H
 obtain ⟨t155, A50, H⟩ := H
 replace H : (some t155) = some r := H
 have A5 := Aside0.mk A50
 clear A50
 obtain rfl := Option.some.inj H
 go_enter Try.func127, Try.ntmps127
 go_wp2_with (first | ((with_reducible refine gate_callee (f := 146) rfl ?_); refine goesL_ (some 10) rfl rfl Try.func146 (by kernel_rfl) rfl #[.slice A0 l0.length c0, .slice A1 l1.length c1] rfl aE ?_; (with_reducible refine (spec_l2Ends.calls k _ _ l0 _ _ l1 t152 _ ?side1 ?side2 ?side3 ?side4 A4.out).mono ?_); (case side1 => repeat (first | exact HR0.out | (with_reducible refine Kd.C_alloc ?_ _) | (with_reducible refine Kd.C_drewN ?_ _) | (with_reducible refine Kd.C_drew ?_))); (case side2 => exact HC0.out); (case side3 => repeat (first | exact HR1.out | (with_reducible refine Kd.C_alloc ?_ _) | (with_reducible refine Kd.C_drewN ?_ _) | (with_reducible refine Kd.C_drew ?_))); (case side4 => exact HC1.out); rintro e w6 ⟨v153, rfl, ho0, hb⟩; refine ⟨_, rfl, ?_⟩; have n0_ := Aside0.mk (Kd.R_lower ho0 (below_size bB)); have n1_ := Aside0.mk (below_step bB hb); clear HB; have HO154 := n0_; have HB := n1_; clear n0_ n1_; (try clear hb); (try clear hb2); (try clear hk); (try clear hi); (try clear ho0); obtain ⟨Ao7, co7, eo7⟩ := Kd.R_slice HO154.out; subst eo7) | ((with_reducible refine gate_callee (f := 74) rfl ?_); refine goesL_ (some 12) rfl rfl Try.func74 (by kernel_rfl) rfl #[.slice A0 l0.length c0, .slice Ao7 t152.length co7, .int .i64 a2] rfl aE ?_; (with_reducible refine (spec_l2Of.calls k _ _ l0 _ _ t152 a2 t155 _ ?side1 ?side2 ?side3 ?side4 A5.out).mono ?_); (case side1 => repeat (first | exact (Kd.C_below HR0.out HB.out) | (with_reducible refine Kd.C_alloc ?_ _) | (with_reducible refine Kd.C_drewN ?_ _) | (with_reducible refine Kd.C_drew ?_))); (case side2 => exact HC0.out); (case side3 => repeat (first | exact (Kd.R_reads' HO154.out).2.2 | (with_reducible refine Kd.C_alloc ?_ _) | (with_reducible refine Kd.C_drewN ?_ _) | (with_reducible refine Kd.C_drew ?_))); (case side4 => exact (Kd.R_reads' HO154.out).2.1); rintro e w8 ⟨rfl, hb⟩; refine ⟨_, rfl, ?_⟩; have n0_ := Aside0.mk (Kd.R_below (by (with_reducible repeat (first | apply Kd.R_alloc | apply Kd.R_drewN | apply Kd.R_drew)); exact HO154.out) hb); have n1_ := Aside0.mk (below_step bB hb); clear HO154; clear HB; have HO154 := n0_; have HB := n1_; clear n0_ n1_; (try clear hb); (try clear hb2); (try clear hk); (try clear hi)))
 go_ret
 exact ⟨rE, bB⟩

end Go.Proofs.Ythhmembnhnghiaa.OFnExactCountBest
