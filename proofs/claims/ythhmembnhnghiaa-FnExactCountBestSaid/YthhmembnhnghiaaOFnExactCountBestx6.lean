/- Functions of the program as plain Lean functions, with their contracts: written by this session's program ownprint.py. Conditions: none. -/
import Derived.Test.YthhmembnhnghiaaOFnExactCountBestx0
import Derived.Test.YthhmembnhnghiaaOFnExactCountBestx4
import Derived.Test.YthhmembnhnghiaaOFnExactCountBestx5
namespace Go.Proofs.Ythhmembnhnghiaa.OFnExactCountBest
open Go.RowKit Go.Proofs.YthhmembnhnghiaaW.PrintWords Go.Proofs.YthhmembnhnghiaaW.PrintLast Go.Proofs.YthhmembnhnghiaaW.PrintMore
attribute [local go_sem] max2_int min2_int max_two min_two max_three min_three max_four min_four   -- for this text's walks alone
set_option linter.unusedVariables false
set_option linter.unusedSimpArgs false

/-! ### impl_add: function 96 -/
def impl_add.f (a0 : Int) (a1_0 : Int) (a1_1 : Int) (a1_2 : Int) (a1_3 : Int) (a2 : Int) (a3 : Int) (a4 : Bool) : Option (Int) := if a3 = 1 then (some (mx a0 a2)) else (if a3 = 2 then (some (wrap64 (a0 + a2))) else (if a3 = 3 then (some (wrap64 (a0 + (wrap64 (a1_1 * a2))))) else (if a3 = 4 then (if a4 = true then (some (wrap64 (a2 - a1_3))) else (some (mx a0 (wrap64 (a2 - a1_3))))) else (if a3 = 5 then (some (wrap64 (a0 + (mx 0 (wrap64 (a2 - a1_3)))))) else (if a3 = 6 then (some (wrap64 (a0 + (wrap64 (a1_1 * (mx 0 (wrap64 (a2 - a1_3)))))))) else (if (wrap64 (a2 - a1_3)) ≤ 0 then (some a0) else (if a3 = 7 then (some (wrap64 (a0 + 1))) else (some (wrap64 (a0 + a1_1))))))))))
set_option maxHeartbeats 8000000 in
set_option maxRecDepth 100000 in
theorem impl_add.calls (a0 : Int) (a1_0 : Int) (a1_1 : Int) (a1_2 : Int) (a1_3 : Int) (a2 : Int) (a3 : Int) (a4 : Bool) (r : Int) (w : World) (h : impl_add.f a0 a1_0 a1_1 a1_2 a1_3 a2 a3 a4 = some r) :
  Calls Try.prog 96 #[.int .i64 a0, .agg #[.int .i64 a1_0, .int .i64 a1_1, .int .i64 a1_2, .int .i64 a1_3], .int .i64 a2, .int .i64 a3, .bool a4] w fun e w' => e = .returned (.int .i64 r) ∧ Below w.heap.size w w' := by
 have hu59 := Try.underlying59
 have HB := Aside0.mk (Below.refl w.heap.size w)
 have H : (if a3 = 1 then (some (mx a0 a2)) else (if a3 = 2 then (some (wrap64 (a0 + a2))) else (if a3 = 3 then (some (wrap64 (a0 + (wrap64 (a1_1 * a2))))) else (if a3 = 4 then (if a4 = true then (some (wrap64 (a2 - a1_3))) else (some (mx a0 (wrap64 (a2 - a1_3))))) else (if a3 = 5 then (some (wrap64 (a0 + (mx 0 (wrap64 (a2 - a1_3)))))) else (if a3 = 6 then (some (wrap64 (a0 + (wrap64 (a1_1 * (mx 0 (wrap64 (a2 - a1_3)))))))) else (if (wrap64 (a2 - a1_3)) ≤ 0 then (some a0) else (if a3 = 7 then (some (wrap64 (a0 + 1))) else (some (wrap64 (a0 + a1_1))))))))))) = some r := h
 clear h
 by_cases c6 : a3 = 1
 ·rw [if_pos c6] at H
  have c6b0 : (a3 == 1) = true := beq_iff_eq.mpr c6
  have c6b1 : (a3 != 1) = false := bne_eq_false_iff_eq.mpr c6
  clear c6
  obtain ⟨ji7, hji7⟩ : ∃ j_ : Int, (mx a0 a2) = j_ := ⟨_, rfl⟩
  replace H : (some ji7) = some r := by first | (rw [hji7] at H; exact H) | (simp only [hji7] at H ⊢; exact H)
  have hji7_ : (if a0 < a2 then a2 else a0) = ji7 := hji7
  obtain rfl := Option.some.inj H
  go_enter Try.func96, Try.ntmps96
  go_wp2_with (first | ((with_reducible refine gate_dst (N := 6) rfl ?_); refine bE 6 #[.int .i64 a1_0, .int .i64 a1_1, .int .i64 a1_2, .int .i64 a1_3] 59 ?_; intro gb223 hg w8 hbox hb; have n0_ := Aside0.mk (below_step bB hb); have n1_ := Aside0.mk (hbox); have n2_ := Aside0.mk ((by rw [hg]; exact (below_size bB) : w.heap.size ≤ gb223)); have n3_ := Aside0.mk ((by rw [hg]; exact (below_size bB) : w.heap.size ≤ gb223)); clear HB; have HB := n0_; have BK223 := n1_; have GW223 := n2_; have GE223 := n3_; clear n0_ n1_ n2_ n3_; clear hb hbox hg; have hcz9_0 : w8.cell? ⟨gb223, 0, none⟩ = some (.int .i64 a1_0) := (blk_cell BK223.out 0).trans rfl; have hcz9_1 : w8.cell? ⟨gb223, 1, none⟩ = some (.int .i64 a1_1) := (blk_cell BK223.out 1).trans rfl; have hcz9_2 : w8.cell? ⟨gb223, 2, none⟩ = some (.int .i64 a1_2) := (blk_cell BK223.out 2).trans rfl; have hcz9_3 : w8.cell? ⟨gb223, 3, none⟩ = some (.int .i64 a1_3) := (blk_cell BK223.out 3).trans rfl; have hfz9_0 := blk_frozen BK223.out 0; have hfz9_1 := blk_frozen BK223.out 1; have hfz9_2 := blk_frozen BK223.out 2; have hfz9_3 := blk_frozen BK223.out 3))
  go_ret
  exact ⟨by first | rfl | (simp [errW_none, errW_some] <;> rfl) | (simp only [← hji7]; first | rfl | (simp [errW_none, errW_some] <;> rfl)) | (simp [*, errW_none, errW_some] <;> rfl), bS⟩
 ·rw [if_neg c6] at H
  have c6b0 : (a3 == 1) = false := beq_eq_false_iff_ne.mpr c6
  have c6b1 : (a3 != 1) = true := bne_iff_ne.mpr c6
  by_cases c10 : a3 = 2
  ·rw [if_pos c10] at H
   have c10b0 : (a3 == 2) = true := beq_iff_eq.mpr c10
   have c10b1 : (a3 != 2) = false := bne_eq_false_iff_eq.mpr c10
   clear c10
   obtain rfl := Option.some.inj H
   go_enter Try.func96, Try.ntmps96
   go_wp2_with (first | ((with_reducible refine gate_dst (N := 6) rfl ?_); refine bE 6 #[.int .i64 a1_0, .int .i64 a1_1, .int .i64 a1_2, .int .i64 a1_3] 59 ?_; intro gb223 hg w11 hbox hb; have n0_ := Aside0.mk (below_step bB hb); have n1_ := Aside0.mk (hbox); have n2_ := Aside0.mk ((by rw [hg]; exact (below_size bB) : w.heap.size ≤ gb223)); have n3_ := Aside0.mk ((by rw [hg]; exact (below_size bB) : w.heap.size ≤ gb223)); clear HB; have HB := n0_; have BK223 := n1_; have GW223 := n2_; have GE223 := n3_; clear n0_ n1_ n2_ n3_; clear hb hbox hg; have hcz12_0 : w11.cell? ⟨gb223, 0, none⟩ = some (.int .i64 a1_0) := (blk_cell BK223.out 0).trans rfl; have hcz12_1 : w11.cell? ⟨gb223, 1, none⟩ = some (.int .i64 a1_1) := (blk_cell BK223.out 1).trans rfl; have hcz12_2 : w11.cell? ⟨gb223, 2, none⟩ = some (.int .i64 a1_2) := (blk_cell BK223.out 2).trans rfl; have hcz12_3 : w11.cell? ⟨gb223, 3, none⟩ = some (.int .i64 a1_3) := (blk_cell BK223.out 3).trans rfl; have hfz12_0 := blk_frozen BK223.out 0; have hfz12_1 := blk_frozen BK223.out 1; have hfz12_2 := blk_frozen BK223.out 2; have hfz12_3 := blk_frozen BK223.out 3))
   go_ret
   exact ⟨rE, bS⟩
  ·rw [if_neg c10] at H
   have c10b0 : (a3 == 2) = false := beq_eq_false_iff_ne.mpr c10
   have c10b1 : (a3 != 2) = true := bne_iff_ne.mpr c10
   by_cases c13 : a3 = 3
   ·rw [if_pos c13] at H
    have c13b0 : (a3 == 3) = true := beq_iff_eq.mpr c13
    have c13b1 : (a3 != 3) = false := bne_eq_false_iff_eq.mpr c13
    clear c13
    obtain rfl := Option.some.inj H
    go_enter Try.func96, Try.ntmps96
    go_wp2_with (first | ((with_reducible refine gate_dst (N := 6) rfl ?_); refine bE 6 #[.int .i64 a1_0, .int .i64 a1_1, .int .i64 a1_2, .int .i64 a1_3] 59 ?_; intro gb223 hg w14 hbox hb; have n0_ := Aside0.mk (below_step bB hb); have n1_ := Aside0.mk (hbox); have n2_ := Aside0.mk ((by rw [hg]; exact (below_size bB) : w.heap.size ≤ gb223)); have n3_ := Aside0.mk ((by rw [hg]; exact (below_size bB) : w.heap.size ≤ gb223)); clear HB; have HB := n0_; have BK223 := n1_; have GW223 := n2_; have GE223 := n3_; clear n0_ n1_ n2_ n3_; clear hb hbox hg; have hcz15_0 : w14.cell? ⟨gb223, 0, none⟩ = some (.int .i64 a1_0) := (blk_cell BK223.out 0).trans rfl; have hcz15_1 : w14.cell? ⟨gb223, 1, none⟩ = some (.int .i64 a1_1) := (blk_cell BK223.out 1).trans rfl; have hcz15_2 : w14.cell? ⟨gb223, 2, none⟩ = some (.int .i64 a1_2) := (blk_cell BK223.out 2).trans rfl; have hcz15_3 : w14.cell? ⟨gb223, 3, none⟩ = some (.int .i64 a1_3) := (blk_cell BK223.out 3).trans rfl; have hfz15_0 := blk_frozen BK223.out 0; have hfz15_1 := blk_frozen BK223.out 1; have hfz15_2 := blk_frozen BK223.out 2; have hfz15_3 := blk_frozen BK223.out 3))
    go_ret
    exact ⟨rE, bS⟩
   ·rw [if_neg c13] at H
    have c13b0 : (a3 == 3) = false := beq_eq_false_iff_ne.mpr c13
    have c13b1 : (a3 != 3) = true := bne_iff_ne.mpr c13
    by_cases c16 : a3 = 4
    ·rw [if_pos c16] at H
     have c16b0 : (a3 == 4) = true := beq_iff_eq.mpr c16
     have c16b1 : (a3 != 4) = false := bne_eq_false_iff_eq.mpr c16
     clear c16
     by_cases c17 : a4 = true
     ·subst c17
      have H1 : (some (wrap64 (a2 - a1_3))) = some r := by rw [if_pos rfl] at H; exact H
      clear H
      have H := H1
      clear H1
      obtain rfl := Option.some.inj H
      go_enter Try.func96, Try.ntmps96
      go_wp2_with (first | ((with_reducible refine gate_dst (N := 6) rfl ?_); refine bE 6 #[.int .i64 a1_0, .int .i64 a1_1, .int .i64 a1_2, .int .i64 a1_3] 59 ?_; intro gb223 hg w18 hbox hb; have n0_ := Aside0.mk (below_step bB hb); have n1_ := Aside0.mk (hbox); have n2_ := Aside0.mk ((by rw [hg]; exact (below_size bB) : w.heap.size ≤ gb223)); have n3_ := Aside0.mk ((by rw [hg]; exact (below_size bB) : w.heap.size ≤ gb223)); clear HB; have HB := n0_; have BK223 := n1_; have GW223 := n2_; have GE223 := n3_; clear n0_ n1_ n2_ n3_; clear hb hbox hg; have hcz19_0 : w18.cell? ⟨gb223, 0, none⟩ = some (.int .i64 a1_0) := (blk_cell BK223.out 0).trans rfl; have hcz19_1 : w18.cell? ⟨gb223, 1, none⟩ = some (.int .i64 a1_1) := (blk_cell BK223.out 1).trans rfl; have hcz19_2 : w18.cell? ⟨gb223, 2, none⟩ = some (.int .i64 a1_2) := (blk_cell BK223.out 2).trans rfl; have hcz19_3 : w18.cell? ⟨gb223, 3, none⟩ = some (.int .i64 a1_3) := (blk_cell BK223.out 3).trans rfl; have hfz19_0 := blk_frozen BK223.out 0; have hfz19_1 := blk_frozen BK223.out 1; have hfz19_2 := blk_frozen BK223.out 2; have hfz19_3 := blk_frozen BK223.out 3))
      go_ret
      exact ⟨rE, bS⟩
     ·replace c17 := Bool.eq_false_iff.mpr c17
      subst c17
      have H1 : (some (mx a0 (wrap64 (a2 - a1_3)))) = some r := by rw [if_neg (show ¬ (false = true) by decide)] at H; exact H
      clear H
      have H := H1
      clear H1
      obtain ⟨ji20, hji20⟩ : ∃ j_ : Int, (mx a0 (wrap64 (a2 - a1_3))) = j_ := ⟨_, rfl⟩
      replace H : (some ji20) = some r := by first | (rw [hji20] at H; exact H) | (simp only [hji20] at H ⊢; exact H)
      have hji20_ : (if a0 < (wrap64 (a2 - a1_3)) then (wrap64 (a2 - a1_3)) else a0) = ji20 := hji20
      obtain rfl := Option.some.inj H
      go_enter Try.func96, Try.ntmps96
      go_wp2_with (first | ((with_reducible refine gate_dst (N := 6) rfl ?_); refine bE 6 #[.int .i64 a1_0, .int .i64 a1_1, .int .i64 a1_2, .int .i64 a1_3] 59 ?_; intro gb223 hg w21 hbox hb; have n0_ := Aside0.mk (below_step bB hb); have n1_ := Aside0.mk (hbox); have n2_ := Aside0.mk ((by rw [hg]; exact (below_size bB) : w.heap.size ≤ gb223)); have n3_ := Aside0.mk ((by rw [hg]; exact (below_size bB) : w.heap.size ≤ gb223)); clear HB; have HB := n0_; have BK223 := n1_; have GW223 := n2_; have GE223 := n3_; clear n0_ n1_ n2_ n3_; clear hb hbox hg; have hcz22_0 : w21.cell? ⟨gb223, 0, none⟩ = some (.int .i64 a1_0) := (blk_cell BK223.out 0).trans rfl; have hcz22_1 : w21.cell? ⟨gb223, 1, none⟩ = some (.int .i64 a1_1) := (blk_cell BK223.out 1).trans rfl; have hcz22_2 : w21.cell? ⟨gb223, 2, none⟩ = some (.int .i64 a1_2) := (blk_cell BK223.out 2).trans rfl; have hcz22_3 : w21.cell? ⟨gb223, 3, none⟩ = some (.int .i64 a1_3) := (blk_cell BK223.out 3).trans rfl; have hfz22_0 := blk_frozen BK223.out 0; have hfz22_1 := blk_frozen BK223.out 1; have hfz22_2 := blk_frozen BK223.out 2; have hfz22_3 := blk_frozen BK223.out 3))
      go_ret
      exact ⟨by first | rfl | (simp [errW_none, errW_some] <;> rfl) | (simp only [← hji20]; first | rfl | (simp [errW_none, errW_some] <;> rfl)) | (simp [*, errW_none, errW_some] <;> rfl), bS⟩
    ·rw [if_neg c16] at H
     have c16b0 : (a3 == 4) = false := beq_eq_false_iff_ne.mpr c16
     have c16b1 : (a3 != 4) = true := bne_iff_ne.mpr c16
     by_cases c23 : a3 = 5
     ·rw [if_pos c23] at H
      have c23b0 : (a3 == 5) = true := beq_iff_eq.mpr c23
      have c23b1 : (a3 != 5) = false := bne_eq_false_iff_eq.mpr c23
      clear c23
      obtain ⟨ji24, hji24⟩ : ∃ j_ : Int, (mx 0 (wrap64 (a2 - a1_3))) = j_ := ⟨_, rfl⟩
      replace H : (some (wrap64 (a0 + (ji24)))) = some r := by first | (rw [hji24] at H; exact H) | (simp only [hji24] at H ⊢; exact H)
      (try (have hji24l : 0 ≤ ji24 := by (rw [← hji24]; unfold mx; (repeat' split) <;> omega)))
      (try (have hji24m : 0 ≤ ji24 := by omega))
      have hji24_ : (if 0 < (wrap64 (a2 - a1_3)) then (wrap64 (a2 - a1_3)) else 0) = ji24 := hji24
      obtain rfl := Option.some.inj H
      go_enter Try.func96, Try.ntmps96
      go_wp2_with (first | ((with_reducible refine gate_dst (N := 6) rfl ?_); refine bE 6 #[.int .i64 a1_0, .int .i64 a1_1, .int .i64 a1_2, .int .i64 a1_3] 59 ?_; intro gb223 hg w25 hbox hb; have n0_ := Aside0.mk (below_step bB hb); have n1_ := Aside0.mk (hbox); have n2_ := Aside0.mk ((by rw [hg]; exact (below_size bB) : w.heap.size ≤ gb223)); have n3_ := Aside0.mk ((by rw [hg]; exact (below_size bB) : w.heap.size ≤ gb223)); clear HB; have HB := n0_; have BK223 := n1_; have GW223 := n2_; have GE223 := n3_; clear n0_ n1_ n2_ n3_; clear hb hbox hg; have hcz26_0 : w25.cell? ⟨gb223, 0, none⟩ = some (.int .i64 a1_0) := (blk_cell BK223.out 0).trans rfl; have hcz26_1 : w25.cell? ⟨gb223, 1, none⟩ = some (.int .i64 a1_1) := (blk_cell BK223.out 1).trans rfl; have hcz26_2 : w25.cell? ⟨gb223, 2, none⟩ = some (.int .i64 a1_2) := (blk_cell BK223.out 2).trans rfl; have hcz26_3 : w25.cell? ⟨gb223, 3, none⟩ = some (.int .i64 a1_3) := (blk_cell BK223.out 3).trans rfl; have hfz26_0 := blk_frozen BK223.out 0; have hfz26_1 := blk_frozen BK223.out 1; have hfz26_2 := blk_frozen BK223.out 2; have hfz26_3 := blk_frozen BK223.out 3))
      go_ret
      exact ⟨by first | rfl | (simp [errW_none, errW_some] <;> rfl) | (simp only [← hji24]; first | rfl | (simp [errW_none, errW_some] <;> rfl)) | (simp [*, errW_none, errW_some] <;> rfl), bS⟩
     ·rw [if_neg c23] at H
      have c23b0 : (a3 == 5) = false := beq_eq_false_iff_ne.mpr c23
      have c23b1 : (a3 != 5) = true := bne_iff_ne.mpr c23
      by_cases c27 : a3 = 6
      ·rw [if_pos c27] at H
       have c27b0 : (a3 == 6) = true := beq_iff_eq.mpr c27
       have c27b1 : (a3 != 6) = false := bne_eq_false_iff_eq.mpr c27
       clear c27
       obtain ⟨ji28, hji28⟩ : ∃ j_ : Int, (mx 0 (wrap64 (a2 - a1_3))) = j_ := ⟨_, rfl⟩
       replace H : (some (wrap64 (a0 + (wrap64 (a1_1 * (ji28)))))) = some r := by first | (rw [hji28] at H; exact H) | (simp only [hji28] at H ⊢; exact H)
       (try (have hji28l : 0 ≤ ji28 := by (rw [← hji28]; unfold mx; (repeat' split) <;> omega)))
       (try (have hji28m : 0 ≤ ji28 := by omega))
       have hji28_ : (if 0 < (wrap64 (a2 - a1_3)) then (wrap64 (a2 - a1_3)) else 0) = ji28 := hji28
       obtain rfl := Option.some.inj H
       go_enter Try.func96, Try.ntmps96
       go_wp2_with (first | ((with_reducible refine gate_dst (N := 6) rfl ?_); refine bE 6 #[.int .i64 a1_0, .int .i64 a1_1, .int .i64 a1_2, .int .i64 a1_3] 59 ?_; intro gb223 hg w29 hbox hb; have n0_ := Aside0.mk (below_step bB hb); have n1_ := Aside0.mk (hbox); have n2_ := Aside0.mk ((by rw [hg]; exact (below_size bB) : w.heap.size ≤ gb223)); have n3_ := Aside0.mk ((by rw [hg]; exact (below_size bB) : w.heap.size ≤ gb223)); clear HB; have HB := n0_; have BK223 := n1_; have GW223 := n2_; have GE223 := n3_; clear n0_ n1_ n2_ n3_; clear hb hbox hg; have hcz30_0 : w29.cell? ⟨gb223, 0, none⟩ = some (.int .i64 a1_0) := (blk_cell BK223.out 0).trans rfl; have hcz30_1 : w29.cell? ⟨gb223, 1, none⟩ = some (.int .i64 a1_1) := (blk_cell BK223.out 1).trans rfl; have hcz30_2 : w29.cell? ⟨gb223, 2, none⟩ = some (.int .i64 a1_2) := (blk_cell BK223.out 2).trans rfl; have hcz30_3 : w29.cell? ⟨gb223, 3, none⟩ = some (.int .i64 a1_3) := (blk_cell BK223.out 3).trans rfl; have hfz30_0 := blk_frozen BK223.out 0; have hfz30_1 := blk_frozen BK223.out 1; have hfz30_2 := blk_frozen BK223.out 2; have hfz30_3 := blk_frozen BK223.out 3))
       go_ret
       exact ⟨by first | rfl | (simp [errW_none, errW_some] <;> rfl) | (simp only [← hji28]; first | rfl | (simp [errW_none, errW_some] <;> rfl)) | (simp [*, errW_none, errW_some] <;> rfl), bS⟩
      ·rw [if_neg c27] at H
       have c27b0 : (a3 == 6) = false := beq_eq_false_iff_ne.mpr c27
       have c27b1 : (a3 != 6) = true := bne_iff_ne.mpr c27
       by_cases c31 : (wrap64 (a2 - a1_3)) ≤ 0
       ·rw [if_pos c31] at H
        have c31b0 : decide ((wrap64 (a2 - a1_3)) ≤ 0) = true := decide_eq_true c31
        clear c31
        obtain rfl := Option.some.inj H
        go_enter Try.func96, Try.ntmps96
        go_wp2_with (first | ((with_reducible refine gate_dst (N := 6) rfl ?_); refine bE 6 #[.int .i64 a1_0, .int .i64 a1_1, .int .i64 a1_2, .int .i64 a1_3] 59 ?_; intro gb223 hg w32 hbox hb; have n0_ := Aside0.mk (below_step bB hb); have n1_ := Aside0.mk (hbox); have n2_ := Aside0.mk ((by rw [hg]; exact (below_size bB) : w.heap.size ≤ gb223)); have n3_ := Aside0.mk ((by rw [hg]; exact (below_size bB) : w.heap.size ≤ gb223)); clear HB; have HB := n0_; have BK223 := n1_; have GW223 := n2_; have GE223 := n3_; clear n0_ n1_ n2_ n3_; clear hb hbox hg; have hcz33_0 : w32.cell? ⟨gb223, 0, none⟩ = some (.int .i64 a1_0) := (blk_cell BK223.out 0).trans rfl; have hcz33_1 : w32.cell? ⟨gb223, 1, none⟩ = some (.int .i64 a1_1) := (blk_cell BK223.out 1).trans rfl; have hcz33_2 : w32.cell? ⟨gb223, 2, none⟩ = some (.int .i64 a1_2) := (blk_cell BK223.out 2).trans rfl; have hcz33_3 : w32.cell? ⟨gb223, 3, none⟩ = some (.int .i64 a1_3) := (blk_cell BK223.out 3).trans rfl; have hfz33_0 := blk_frozen BK223.out 0; have hfz33_1 := blk_frozen BK223.out 1; have hfz33_2 := blk_frozen BK223.out 2; have hfz33_3 := blk_frozen BK223.out 3))
        go_ret
        exact ⟨rE, bS⟩
       ·rw [if_neg c31] at H
        have c31b0 : decide ((wrap64 (a2 - a1_3)) ≤ 0) = false := decide_eq_false c31
        clear c31
        by_cases c34 : a3 = 7
        ·rw [if_pos c34] at H
         have c34b0 : (a3 == 7) = true := beq_iff_eq.mpr c34
         have c34b1 : (a3 != 7) = false := bne_eq_false_iff_eq.mpr c34
         clear c34
         obtain rfl := Option.some.inj H
         go_enter Try.func96, Try.ntmps96
         go_wp2_with (first | ((with_reducible refine gate_dst (N := 6) rfl ?_); refine bE 6 #[.int .i64 a1_0, .int .i64 a1_1, .int .i64 a1_2, .int .i64 a1_3] 59 ?_; intro gb223 hg w35 hbox hb; have n0_ := Aside0.mk (below_step bB hb); have n1_ := Aside0.mk (hbox); have n2_ := Aside0.mk ((by rw [hg]; exact (below_size bB) : w.heap.size ≤ gb223)); have n3_ := Aside0.mk ((by rw [hg]; exact (below_size bB) : w.heap.size ≤ gb223)); clear HB; have HB := n0_; have BK223 := n1_; have GW223 := n2_; have GE223 := n3_; clear n0_ n1_ n2_ n3_; clear hb hbox hg; have hcz36_0 : w35.cell? ⟨gb223, 0, none⟩ = some (.int .i64 a1_0) := (blk_cell BK223.out 0).trans rfl; have hcz36_1 : w35.cell? ⟨gb223, 1, none⟩ = some (.int .i64 a1_1) := (blk_cell BK223.out 1).trans rfl; have hcz36_2 : w35.cell? ⟨gb223, 2, none⟩ = some (.int .i64 a1_2) := (blk_cell BK223.out 2).trans rfl; have hcz36_3 : w35.cell? ⟨gb223, 3, none⟩ = some (.int .i64 a1_3) := (blk_cell BK223.out 3).trans rfl; have hfz36_0 := blk_frozen BK223.out 0; have hfz36_1 := blk_frozen BK223.out 1; have hfz36_2 := blk_frozen BK223.out 2; have hfz36_3 := blk_frozen BK223.out 3))
         go_ret
         exact ⟨rE, bS⟩
        ·rw [if_neg c34] at H
         have c34b0 : (a3 == 7) = false := beq_eq_false_iff_ne.mpr c34
         have c34b1 : (a3 != 7) = true := bne_iff_ne.mpr c34
         obtain rfl := Option.some.inj H
         go_enter Try.func96, Try.ntmps96
         go_wp2_with (first | ((with_reducible refine gate_dst (N := 6) rfl ?_); refine bE 6 #[.int .i64 a1_0, .int .i64 a1_1, .int .i64 a1_2, .int .i64 a1_3] 59 ?_; intro gb223 hg w37 hbox hb; have n0_ := Aside0.mk (below_step bB hb); have n1_ := Aside0.mk (hbox); have n2_ := Aside0.mk ((by rw [hg]; exact (below_size bB) : w.heap.size ≤ gb223)); have n3_ := Aside0.mk ((by rw [hg]; exact (below_size bB) : w.heap.size ≤ gb223)); clear HB; have HB := n0_; have BK223 := n1_; have GW223 := n2_; have GE223 := n3_; clear n0_ n1_ n2_ n3_; clear hb hbox hg; have hcz38_0 : w37.cell? ⟨gb223, 0, none⟩ = some (.int .i64 a1_0) := (blk_cell BK223.out 0).trans rfl; have hcz38_1 : w37.cell? ⟨gb223, 1, none⟩ = some (.int .i64 a1_1) := (blk_cell BK223.out 1).trans rfl; have hcz38_2 : w37.cell? ⟨gb223, 2, none⟩ = some (.int .i64 a1_2) := (blk_cell BK223.out 2).trans rfl; have hcz38_3 : w37.cell? ⟨gb223, 3, none⟩ = some (.int .i64 a1_3) := (blk_cell BK223.out 3).trans rfl; have hfz38_0 := blk_frozen BK223.out 0; have hfz38_1 := blk_frozen BK223.out 1; have hfz38_2 := blk_frozen BK223.out 2; have hfz38_3 := blk_frozen BK223.out 3))
         go_ret
         exact ⟨rE, bS⟩

/-! ### impl_valueOfEnds: function 80 -/
def impl_valueOfEnds.l0 : Nat → List Int → Int → Int → List (S59) → Int → Int → Option (Int)
 | 0, _, _, _, _, _, _ => none
 | k + 1, x1, x2, x7, x10, x11, x12 => if x12 < x11 then (if 0 ≤ x12 then (if x12 < (x10.length : Int) then (if x12 < (x1.length : Int) then ((impl_add.f x7 ((rd_T59 x10 x12).f0) ((rd_T59 x10 x12).f1) ((rd_T59 x10 x12).f2) ((rd_T59 x10 x12).f3) (rd x1 x12) x2 (x12 == 0)).bind fun t227 => (impl_valueOfEnds.l0 k x1 x2 t227 x10 x11 (wrap64 (x12 + 1)))) else (none)) else (none)) else (none)) else (some x7)
def impl_valueOfEnds.f (k : Nat) (l0 : List (S59)) (l1 : List Int) (a2 : Int) : Option (Int) := impl_valueOfEnds.l0 k l1 a2 0 l0 (l0.length : Int) 0
theorem impl_valueOfEnds.mono_l : ∀ k, (∀ y0 y1 y2 y3 y4 y5, LeO (impl_valueOfEnds.l0 k y0 y1 y2 y3 y4 y5) (impl_valueOfEnds.l0 (k + 1) y0 y1 y2 y3 y4 y5))
 | 0 => fun _ _ _ _ _ _ r h => by simp [impl_valueOfEnds.l0] at h
 | k + 1 => by
  have ih0 := impl_valueOfEnds.mono_l k
  ·intro y0 y1 y2 y3 y4 y5
   unfold impl_valueOfEnds.l0
   repeat' first
   | (with_reducible exact ih0 _ _ _ _ _ _)
   | (with_reducible exact LeO.refl _)
   | (with_reducible exact LeO.none _)
   | (with_reducible refine LeO.ite ?_ ?_)
   | (with_reducible refine LeO.bind ?_ (fun _ => ?_))
   | exact ih0 _ _ _ _ _ _
   | exact LeO.none _
   | refine LeO.ite ?_ ?_
   | refine LeO.bind ?_ (fun _ => ?_)
theorem impl_valueOfEnds.mono : ∀ a0 a1 a2 k, LeO (impl_valueOfEnds.f k a0 a1 a2) (impl_valueOfEnds.f (k + 1) a0 a1 a2) := by
 intro a0 a1 a2 k
 have ih0 := impl_valueOfEnds.mono_l k
 unfold impl_valueOfEnds.f
 repeat' first
   | (with_reducible exact ih0 _ _ _ _ _ _)
   | (with_reducible exact LeO.refl _)
   | (with_reducible exact LeO.none _)
   | (with_reducible refine LeO.ite ?_ ?_)
   | (with_reducible refine LeO.bind ?_ (fun _ => ?_))
   | exact ih0 _ _ _ _ _ _
   | exact LeO.none _
   | refine LeO.ite ?_ ?_
   | refine LeO.bind ?_ (fun _ => ?_)
def impl_valueOfEnds.T5 : Bool × List (List Nat × List Nat) := (true, [([], []), ([], []), ([], []), ([], []), ([2, 3], [2, 3]), ([4], [4]), ([], []), ([], []), ([7], [7]), ([0, 1, 5, 6, 8], [0, 1, 5, 6, 8]), ([9, 9, 0, 1, 2, 3, 4, 5, 6, 7, 8, 9], [0, 9])])
def impl_valueOfEnds.B5 : List Nat := [0, 0, 0, 0, 12, 28, 0, 0, 128, 511, 1023]
theorem impl_valueOfEnds.tab5 : rtab .any (opsOf Try.f80 5) = impl_valueOfEnds.T5 := by kernel_rfl
theorem impl_valueOfEnds.bits5 : waitsOk impl_valueOfEnds.T5.2 impl_valueOfEnds.B5 = true := by kernel_rfl
set_option maxHeartbeats 8000000 in
set_option maxRecDepth 100000 in
theorem impl_valueOfEnds.calls (k : Nat) (A0 : Option Addr) (c0 : Nat) (l0 : List (S59)) (A1 : Option Addr) (c1 : Nat) (l1 : List Int) (a2 : Int) (r : Int) (w : World) (hr0 : Kd.C k59 w A0 l0.length l0) (hc0 : l0.length ≤ c0) (hr1 : Kd.C (Kd.int .i64) w A1 l1.length l1) (hc1 : l1.length ≤ c1) (h : impl_valueOfEnds.f k l0 l1 a2 = some r) :
  Calls Try.prog 80 #[.slice A0 l0.length c0, .slice A1 l1.length c1, .int .i64 a2] w fun e w' => e = .returned (.int .i64 r) ∧ Below w.heap.size w w' := by
 have hu59 := Try.underlying59
 have HR0 := Aside0.mk hr0
 have HC0 := Aside0.mk hc0
 clear hr0 hc0
 have HR1 := Aside0.mk hr1
 have HC1 := Aside0.mk hc1
 clear hr1 hc1
 have HB := Aside0.mk (Below.refl w.heap.size w)
 have H : (impl_valueOfEnds.l0 k l1 a2 0 l0 (l0.length : Int) 0) = some r := h
 clear h
 have H' := Aside0.mk H
 clear H
 go_enter Try.func80, Try.ntmps80
 go_wp2
 go_loopg [7, 12] k (fun kq v7 v12 w' => ∃ (x7_1 : Int) (x12_1 : Int), v7 = .int .i64 x7_1 ∧ v12 = .int .i64 x12_1 ∧ Aside0 (impl_valueOfEnds.l0 kq l1 a2 x7_1 l0 (l0.length : Int) x12_1 = some r) ∧ Aside0 (kq ≤ k) ∧ Aside0 (Below w.heap.size w w'))
 case atStart => exact ⟨(0), (0), sD, sD, H', ⟨Nat.le_refl _⟩, ⟨by repeat (first | (with_reducible first | exact HB.out | apply below_alloc | apply pw_below_drewN | apply below_drew1) | exact HB.out)⟩⟩
 case round =>
  clear H'
  try clear c1
  try clear p2
  obtain ⟨x7_1, x12_1, rfl, rfl, HA, HK1, HB⟩ := hrel
  cases gk with
  | zero => exact absurd HA.out (by simp [impl_valueOfEnds.l0])
  | succ k1 =>
   have H := HA.out
   clear HA
   simp only [impl_valueOfEnds.l0] at H
   by_cases c4 : x12_1 < (l0.length : Int)
   ·rw [if_pos c4] at H
    have c4b0 : decide (x12_1 < (l0.length : Int)) = true := decide_eq_true c4
    clear c4
    by_cases c5 : 0 ≤ x12_1; rotate_left
    ·rw [if_neg c5] at H; exact absurd H (by simp)
    rw [if_pos c5] at H
    have c5b0 : decide (0 ≤ x12_1) = true := decide_eq_true c5
    clear c5
    by_cases c6 : x12_1 < (l0.length : Int); rotate_left
    ·rw [if_neg c6] at H; exact absurd H (by simp)
    rw [if_pos c6] at H
    have c6b0 : decide (x12_1 < (l0.length : Int)) = true := decide_eq_true c6
    clear c6
    by_cases c7 : x12_1 < (l1.length : Int); rotate_left
    ·rw [if_neg c7] at H; exact absurd H (by simp)
    rw [if_pos c7] at H
    have c7b0 : decide (x12_1 < (l1.length : Int)) = true := decide_eq_true c7
    clear c7
    replace H := Option.bind_eq_some_iff.mp H
    obtain ⟨t227, A80, H⟩ := H
    replace H : (impl_valueOfEnds.l0 k1 l1 a2 t227 l0 (l0.length : Int) (wrap64 (x12_1 + 1))) = some r := H
    have A8 := Aside0.mk A80
    clear A80
    have H' := Aside0.mk H
    clear H
    have p224 : 0 ≤ (x12_1 : Int) := oD
    have q224 : x12_1 < (l0.length : Int) := oD
    obtain ⟨ad224, e224, hx224_0, hx224_1, hx224_2, hx224_3⟩ := at_T59 HR0.out x12_1 p224 q224
    cases e224
    replace hx224_0 := (cB HB.out hx224_0 :)
    replace hx224_1 := (cB HB.out hx224_1 :)
    replace hx224_2 := (cB HB.out hx224_2 :)
    replace hx224_3 := (cB HB.out hx224_3 :)
    replace p224 := eq_true p224
    replace q224 := eq_true q224
    try go_wp2_with (first | ((with_reducible refine gate_dst (N := 9) rfl ?_); refine bE 9 #[.int .i64 0, .int .i64 0, .int .i64 0, .int .i64 0] 59 ?_; intro gb225 hg w9 hbox hb; have n0_ := Aside0.mk (below_step bB hb); have n1_ := Aside0.mk (hbox); have n2_ := Aside0.mk ((by rw [hg]; exact (below_size bB) : w.heap.size ≤ gb225)); have n3_ := Aside0.mk ((by rw [hg]; exact (below_size bB) : w.heap.size ≤ gb225)); clear HB; have HB := n0_; have BK225 := n1_; have GW225 := n2_; have GE225 := n3_; clear n0_ n1_ n2_ n3_; clear hb hbox hg; have hcz10_0 : w9.cell? ⟨gb225, 0, none⟩ = some (.int .i64 0) := (blk_cell BK225.out 0).trans rfl; have hcz10_1 : w9.cell? ⟨gb225, 1, none⟩ = some (.int .i64 0) := (blk_cell BK225.out 1).trans rfl; have hcz10_2 : w9.cell? ⟨gb225, 2, none⟩ = some (.int .i64 0) := (blk_cell BK225.out 2).trans rfl; have hcz10_3 : w9.cell? ⟨gb225, 3, none⟩ = some (.int .i64 0) := (blk_cell BK225.out 3).trans rfl; have hfz10_0 := blk_frozen BK225.out 0; have hfz10_1 := blk_frozen BK225.out 1; have hfz10_2 := blk_frozen BK225.out 2; have hfz10_3 := blk_frozen BK225.out 3))
    have n0_ : Aside0 (((((w9.setCell ⟨gb225, 0, none⟩ (.int .i64 ((rd_T59 l0 x12_1).f0))).setCell ⟨gb225, 1, none⟩ (.int .i64 ((rd_T59 l0 x12_1).f1))).setCell ⟨gb225, 2, none⟩ (.int .i64 ((rd_T59 l0 x12_1).f2))).setCell ⟨gb225, 3, none⟩ (.int .i64 ((rd_T59 l0 x12_1).f3))).heap[gb225]? = some (.cells #[.int .i64 ((rd_T59 l0 x12_1).f0), .int .i64 ((rd_T59 l0 x12_1).f1), .int .i64 ((rd_T59 l0 x12_1).f2), .int .i64 ((rd_T59 l0 x12_1).f3)] 59 (0, 0))) := ⟨by refine blk_put (cs := #[.int .i64 ((rd_T59 l0 x12_1).f0), .int .i64 ((rd_T59 l0 x12_1).f1), .int .i64 ((rd_T59 l0 x12_1).f2), .int .i64 0]) ?_ 3 _ rfl; refine blk_put (cs := #[.int .i64 ((rd_T59 l0 x12_1).f0), .int .i64 ((rd_T59 l0 x12_1).f1), .int .i64 0, .int .i64 0]) ?_ 2 _ rfl; refine blk_put (cs := #[.int .i64 ((rd_T59 l0 x12_1).f0), .int .i64 0, .int .i64 0, .int .i64 0]) ?_ 1 _ rfl; refine blk_put (cs := #[.int .i64 0, .int .i64 0, .int .i64 0, .int .i64 0]) ?_ 0 _ rfl; exact BK225.out⟩
    have n1_ : Aside0 (Below w.heap.size w ((((w9.setCell ⟨gb225, 0, none⟩ (.int .i64 ((rd_T59 l0 x12_1).f0))).setCell ⟨gb225, 1, none⟩ (.int .i64 ((rd_T59 l0 x12_1).f1))).setCell ⟨gb225, 2, none⟩ (.int .i64 ((rd_T59 l0 x12_1).f2))).setCell ⟨gb225, 3, none⟩ (.int .i64 ((rd_T59 l0 x12_1).f3)))) := ⟨by repeat (first | (with_reducible first | exact HB.out | apply below_alloc | apply pw_below_drewN | apply below_drew1 | refine below_set ?_ GE225.out) | exact HB.out)⟩
    (try clear BK225)
    (try clear HB)
    generalize ((((w9.setCell ⟨gb225, 0, none⟩ (.int .i64 ((rd_T59 l0 x12_1).f0))).setCell ⟨gb225, 1, none⟩ (.int .i64 ((rd_T59 l0 x12_1).f1))).setCell ⟨gb225, 2, none⟩ (.int .i64 ((rd_T59 l0 x12_1).f2))).setCell ⟨gb225, 3, none⟩ (.int .i64 ((rd_T59 l0 x12_1).f3))) = w11 at n0_ n1_ ⊢
    have BK225 := n0_
    have HB := n1_
    clear n0_ n1_
    have n0_ := Aside0.mk (blk_drew BK225.out)
    have n1_ := Aside0.mk (below_drew1 HB.out)
    clear BK225
    clear HB
    have BK225 := n0_
    have HB := n1_
    clear n0_ n1_
    have p226 : 0 ≤ (x12_1 : Int) := oD
    have q226 : x12_1 < (l1.length : Int) := oD
    obtain ⟨ad226, e226, hx226_0⟩ := Kd.at_int HR1.out x12_1 p226 q226
    have hw226_0 := hx226_0
    cases e226
    replace hx226_0 := (cB HB.out hx226_0 :)
    replace p226 := eq_true p226
    replace q226 := eq_true q226
    refine start_ (n := 11) (S := fun w' => w'.cell? ⟨gb225, 0, none⟩ = some (.int .i64 ((rd_T59 l0 x12_1).f0)) ∧ w'.cell? ⟨gb225, 1, none⟩ = some (.int .i64 ((rd_T59 l0 x12_1).f1)) ∧ w'.cell? ⟨gb225, 2, none⟩ = some (.int .i64 ((rd_T59 l0 x12_1).f2)) ∧ w'.cell? ⟨gb225, 3, none⟩ = some (.int .i64 ((rd_T59 l0 x12_1).f3)) ∧ w'.cell? (ad226.add (x12_1).toNat) = some (.int .i64 (rd l1 x12_1))) (ds := []) #[false, false, false, false, false, false, false, false, false, false, false] (by kernel_rfl) rfl rfl ⟨(blk_cell BK225.out 0).trans rfl, (blk_cell BK225.out 1).trans rfl, (blk_cell BK225.out 2).trans rfl, (blk_cell BK225.out 3).trans rfl, ((cB HB.out hw226_0 :))⟩ (fun hHeld => ?_); refine with_tabW impl_valueOfEnds.tab5 impl_valueOfEnds.bits5 (fun HT_ HW_ => ?_)
    generalize w11.drew = w12 at BK225 HB hx226_0 hHeld ⊢
    refine pU 0 17 #[true, false, false, false, false, false, false, false, false, false, false] ?_
    refine pU 2 19 #[true, false, true, false, false, false, false, false, false, false, false] ?_
    refine pU 3 20 #[true, false, true, true, false, false, false, false, false, false, false] ?_
    refine pU 4 21 #[true, false, true, true, true, false, false, false, false, false, false] ?_
    refine pU 6 23 #[true, false, true, true, true, false, true, false, false, false, false] ?_
    refine pU 7 24 #[true, false, true, true, true, false, true, true, false, false, false] ?_
    refine pU 8 25 #[true, false, true, true, true, false, true, true, true, false, false] ?_
    refine tU 1 18 #[true, true, true, true, true, false, true, true, true, false, false] ?_
    refine tU 5 22 #[true, true, true, true, true, true, true, true, true, false, false] ?_
    refine one_ (i := 9) (N := some 26) #[true, true, true, true, true, true, true, true, true, true, false] rfl rfl (one_of HT_.out (by kernel_rfl)) (by decide) (fun K hK => ?_)
    refine goes_ Try.func96 (by kernel_rfl) rfl #[.int .i64 x7_1, .agg #[.int .i64 ((rd_T59 l0 x12_1).f0), .int .i64 ((rd_T59 l0 x12_1).f1), .int .i64 ((rd_T59 l0 x12_1).f2), .int .i64 ((rd_T59 l0 x12_1).f3)], .int .i64 (rd l1 x12_1), .int .i64 a2, .bool (x12_1 == 0)] (by rfl) rfl rfl aE ?_
    with_reducible refine (impl_add.calls x7_1 ((rd_T59 l0 x12_1).f0) ((rd_T59 l0 x12_1).f1) ((rd_T59 l0 x12_1).f2) ((rd_T59 l0 x12_1).f3) (rd l1 x12_1) a2 (x12_1 == 0) t227 _ A8.out).mono ?_
    rintro e w13 ⟨rfl, hb⟩
    refine ⟨_, rfl, ?_⟩
    have n0_ := Aside0.mk (blk_below (g := gb225) (o := .cells #[.int .i64 ((rd_T59 l0 x12_1).f0), .int .i64 ((rd_T59 l0 x12_1).f1), .int .i64 ((rd_T59 l0 x12_1).f2), .int .i64 ((rd_T59 l0 x12_1).f3)] 59 (0, 0)) kB hb)
    have n1_ := Aside0.mk (below_step bS hb)
    clear BK225
    clear HB
    have BK225 := n0_
    have HB := n1_
    clear n0_ n1_
    (try clear hb)
    (try clear hb2)
    (try clear hk)
    (try clear hi)
    refine hK.out _ _ ⟨(blk_cell BK225.out 0).trans rfl, (blk_cell BK225.out 1).trans rfl, (blk_cell BK225.out 2).trans rfl, (blk_cell BK225.out 3).trans rfl, ((cB HB.out hw226_0 :))⟩ (fun hHeld => ?_)
    clear hK K
    refine norm_ (a' := ?_) ?_ ?_
    rotate_left
    ·show Act.put _ (some 26) _ = _
     simp only [Act.put, sA, sZ, sS, i64_w, i32_w]
     rfl
    refine pU 10 7 #[true, true, true, true, true, true, true, true, true, true, true] ?_
    refine done_ (done_of HT_.out (by kernel_rfl)) ?_
    try go_wp2
    go_roundg k1
    case measure => have := HK1.out; omega
    case rel => exact ⟨(t227), (wrap64 (x12_1 + 1)), sD, sD, H', ⟨by have := HK1.out; omega⟩, ⟨by repeat (first | (with_reducible first | exact HB.out | apply below_alloc | apply pw_below_drewN | apply below_drew1 | refine below_set ?_ GE225.out) | exact HB.out)⟩⟩
   ·rw [if_neg c4] at H
    have c4b0 : decide (x12_1 < (l0.length : Int)) = false := decide_eq_false c4
    clear c4
    obtain rfl := Option.some.inj H
    go_wp2
    go_ret
    exact ⟨rE, bB⟩

/-! ### impl_endsOf: function 128 -/
def impl_endsOf.l0 : Nat → List (S59) → List Int → Int → List Int → Int → Int → Option (List Int)
 | 0, _, _, _, _, _, _ => none
 | k + 1, x0, x5, x6, x12, x13, x14 => if x14 < x13 then (if 0 ≤ x14 then (if x14 < (x12.length : Int) then (if 0 ≤ (rd x12 x14) then (if (rd x12 x14) < (x0.length : Int) then (if (rd x12 x14) < (x5.length : Int) then (impl_endsOf.l0 k x0 (x5.set ((rd x12 x14) : Int).toNat (wrap64 ((mx x6 ((rd_T59 x0 (rd x12 x14)).f2)) + ((rd_T59 x0 (rd x12 x14)).f0)))) (wrap64 ((mx x6 ((rd_T59 x0 (rd x12 x14)).f2)) + ((rd_T59 x0 (rd x12 x14)).f0))) x12 x13 (wrap64 (x14 + 1))) else (none)) else (none)) else (none)) else (none)) else (none)) else (some x5)
def impl_endsOf.f (k : Nat) (l0 : List (S59)) (l1 : List Int) : Option (List Int) := if 0 ≤ (l0.length : Int) then (if ((l0.length : Int) : Int).toNat ≤ 35184372088832 then (impl_endsOf.l0 k l0 (List.replicate ((l0.length : Int) : Int).toNat 0) 0 l1 (l1.length : Int) 0) else (none)) else (none)
theorem impl_endsOf.mono_l : ∀ k, (∀ y0 y1 y2 y3 y4 y5, LeO (impl_endsOf.l0 k y0 y1 y2 y3 y4 y5) (impl_endsOf.l0 (k + 1) y0 y1 y2 y3 y4 y5))
 | 0 => fun _ _ _ _ _ _ r h => by simp [impl_endsOf.l0] at h
 | k + 1 => by
  have ih0 := impl_endsOf.mono_l k
  ·intro y0 y1 y2 y3 y4 y5
   unfold impl_endsOf.l0
   repeat' first
   | (with_reducible exact ih0 _ _ _ _ _ _)
   | (with_reducible exact LeO.refl _)
   | (with_reducible exact LeO.none _)
   | (with_reducible refine LeO.ite ?_ ?_)
   | (with_reducible refine LeO.bind ?_ (fun _ => ?_))
   | exact ih0 _ _ _ _ _ _
   | exact LeO.none _
   | refine LeO.ite ?_ ?_
   | refine LeO.bind ?_ (fun _ => ?_)
theorem impl_endsOf.mono : ∀ a0 a1 k, LeO (impl_endsOf.f k a0 a1) (impl_endsOf.f (k + 1) a0 a1) := by
 intro a0 a1 k
 have ih0 := impl_endsOf.mono_l k
 unfold impl_endsOf.f
 repeat' first
   | (with_reducible exact ih0 _ _ _ _ _ _)
   | (with_reducible exact LeO.refl _)
   | (with_reducible exact LeO.none _)
   | (with_reducible refine LeO.ite ?_ ?_)
   | (with_reducible refine LeO.bind ?_ (fun _ => ?_))
   | exact ih0 _ _ _ _ _ _
   | exact LeO.none _
   | refine LeO.ite ?_ ?_
   | refine LeO.bind ?_ (fun _ => ?_)
set_option maxHeartbeats 8000000 in
set_option maxRecDepth 100000 in
theorem impl_endsOf.calls (k : Nat) (A0 : Option Addr) (c0 : Nat) (l0 : List (S59)) (A1 : Option Addr) (c1 : Nat) (l1 : List Int) (r : List Int) (w : World) (hr0 : Kd.C k59 w A0 l0.length l0) (hc0 : l0.length ≤ c0) (hr1 : Kd.C (Kd.int .i64) w A1 l1.length l1) (hc1 : l1.length ≤ c1) (h : impl_endsOf.f k l0 l1 = some r) :
  Calls Try.prog 128 #[.slice A0 l0.length c0, .slice A1 l1.length c1] w fun e w' => ∃ v0_ : Value, e = .returned (v0_) ∧ Kd.R (Kd.int .i64) 3 w' w.heap.size (fun _ => True) v0_ r ∧ Below w.heap.size w w' := by
 have HR0 := Aside0.mk hr0
 have HC0 := Aside0.mk hc0
 clear hr0 hc0
 have HR1 := Aside0.mk hr1
 have HC1 := Aside0.mk hc1
 clear hr1 hc1
 have HB := Aside0.mk (Below.refl w.heap.size w)
 have H : (if 0 ≤ (l0.length : Int) then (if ((l0.length : Int) : Int).toNat ≤ 35184372088832 then (impl_endsOf.l0 k l0 (List.replicate ((l0.length : Int) : Int).toNat 0) 0 l1 (l1.length : Int) 0) else (none)) else (none)) = some r := h
 clear h
 by_cases c3 : 0 ≤ (l0.length : Int); rotate_left
 ·rw [if_neg c3] at H; exact absurd H (by simp)
 rw [if_pos c3] at H
 have c3b0 := eq_true c3
 have c3b1 : decide (0 ≤ (l0.length : Int)) = true := decide_eq_true c3
 clear c3
 by_cases c4 : ((l0.length : Int) : Int).toNat ≤ 35184372088832; rotate_left
 ·rw [if_neg c4] at H; exact absurd H (by simp)
 rw [if_pos c4] at H
 have c4b0 := eq_true c4
 have c4b1 : decide (((l0.length : Int) : Int).toNat ≤ 35184372088832) = true := decide_eq_true c4
 clear c4
 obtain ⟨y228, hy228⟩ : ∃ y_ : List Int, y_ = (List.replicate ((l0.length : Int) : Int).toNat 0) := ⟨_, rfl⟩
 replace H : (impl_endsOf.l0 k l0 y228 0 l1 (l1.length : Int) 0) = some r := by first | (rw [hy228]; with_reducible exact H) | (have H2_ := (Option.bind_some _ _).symm.trans H; rw [hy228]; with_reducible exact H2_) | (have H2_ := (Option.bind_some _ _).symm.trans H; with_reducible exact H2_) | with_reducible exact H | (rw [hy228]; exact H) | exact H
 have Ny228 := Aside0.mk hy228
 clear hy228
 have H' := Aside0.mk H
 clear H
 go_enter Try.func128, Try.ntmps128
 go_wp2_with (first | ((with_reducible refine gate_dst (N := 11) rfl ?_); refine Kd.R_make (Kd.int .i64) _ 3 rfl (N := 11) rfl 37 _ _ rfl (l0.length : Int) rfl rfl Try.underlying37 (.int .i64 0) 8 info3 rfl (by decide) (by omega) 0 (ok := fun _ => True) (okp := fun _ => True) rfl (fun _ hk => hk) trivial (oD) (Nat.le_trans (Nat.mul_le_mul_right _ (oD : (l0.length : Int).toNat ≤ 35184372088832)) (by omega)) (Below.refl _ _) (Nat.le_refl _) ?_; intro v229 w5 ho6 hb hg_ hnew_; clear hg_ hnew_; (first | rw [← Ny228.out] at ho6 | (simp only [Int.reduceToNat] at ho6; rw [← Ny228.out] at ho6)); have n0_ := Aside0.mk (Kd.R_lower ho6 (below_size bB)); have n1_ := Aside0.mk (below_step bB hb); clear HB; have HO230 := n0_; have HB := n1_; clear n0_ n1_; clear hb ho6))
 repeat (go_quiet (first | ((with_reducible refine gate_dst (N := 11) rfl ?_); refine Kd.R_make (Kd.int .i64) _ 3 rfl (N := 11) rfl 37 _ _ rfl (l0.length : Int) rfl rfl Try.underlying37 (.int .i64 0) 8 info3 rfl (by decide) (by omega) 0 (ok := fun _ => True) (okp := fun _ => True) rfl (fun _ hk => hk) trivial (oD) (Nat.le_trans (Nat.mul_le_mul_right _ (oD : (l0.length : Int).toNat ≤ 35184372088832)) (by omega)) (Below.refl _ _) (Nat.le_refl _) ?_; intro v229 w5 ho6 hb hg_ hnew_; clear hg_ hnew_; (first | rw [← Ny228.out] at ho6 | (simp only [Int.reduceToNat] at ho6; rw [← Ny228.out] at ho6)); have n0_ := Aside0.mk (Kd.R_lower ho6 (below_size bB)); have n1_ := Aside0.mk (below_step bB hb); clear HB; have HO230 := n0_; have HB := n1_; clear n0_ n1_; clear hb ho6)); try go_wp2_with (first | ((with_reducible refine gate_dst (N := 11) rfl ?_); refine Kd.R_make (Kd.int .i64) _ 3 rfl (N := 11) rfl 37 _ _ rfl (l0.length : Int) rfl rfl Try.underlying37 (.int .i64 0) 8 info3 rfl (by decide) (by omega) 0 (ok := fun _ => True) (okp := fun _ => True) rfl (fun _ hk => hk) trivial (oD) (Nat.le_trans (Nat.mul_le_mul_right _ (oD : (l0.length : Int).toNat ≤ 35184372088832)) (by omega)) (Below.refl _ _) (Nat.le_refl _) ?_; intro v229 w5 ho6 hb hg_ hnew_; clear hg_ hnew_; (first | rw [← Ny228.out] at ho6 | (simp only [Int.reduceToNat] at ho6; rw [← Ny228.out] at ho6)); have n0_ := Aside0.mk (Kd.R_lower ho6 (below_size bB)); have n1_ := Aside0.mk (below_step bB hb); clear HB; have HO230 := n0_; have HB := n1_; clear n0_ n1_; clear hb ho6)))
 go_loopg [6, 14] k (fun kq v6 v14 w' => ∃ (x5_1 : List Int) (x6_1 : Int) (x14_1 : Int), v6 = .int .i64 x6_1 ∧ v14 = .int .i64 x14_1 ∧ Aside0 (impl_endsOf.l0 kq l0 x5_1 x6_1 l1 (l1.length : Int) x14_1 = some r) ∧ Aside0 (kq ≤ k) ∧ Aside0 (Kd.R (Kd.int .i64) 3 w' w.heap.size (fun _ => True) v229 x5_1) ∧ Aside0 (Below w.heap.size w w'))
 case atStart => exact ⟨(y228), (0), (0), sD, sD, H', ⟨Nat.le_refl _⟩, ⟨kR⟩, ⟨by repeat (first | (with_reducible first | exact HB.out | apply below_alloc | apply pw_below_drewN | apply below_drew1) | exact HB.out)⟩⟩
 case round =>
  clear H'
  try clear c1
  try clear p2
  try clear c3
  try clear c3b0
  try clear c3b1
  try clear c4
  try clear c4b0
  try clear c4b1
  obtain ⟨x5_1, x6_1, x14_1, rfl, rfl, HA, HK1, HO_5, HB⟩ := hrel
  cases gk with
  | zero => exact absurd HA.out (by simp [impl_endsOf.l0])
  | succ k1 =>
   have H := HA.out
   clear HA
   simp only [impl_endsOf.l0] at H
   by_cases c7 : x14_1 < (l1.length : Int)
   ·rw [if_pos c7] at H
    have c7b0 : decide (x14_1 < (l1.length : Int)) = true := decide_eq_true c7
    clear c7
    by_cases c8 : 0 ≤ x14_1; rotate_left
    ·rw [if_neg c8] at H; exact absurd H (by simp)
    rw [if_pos c8] at H
    have c8b0 : decide (0 ≤ x14_1) = true := decide_eq_true c8
    clear c8
    by_cases c9 : x14_1 < (l1.length : Int); rotate_left
    ·rw [if_neg c9] at H; exact absurd H (by simp)
    rw [if_pos c9] at H
    have c9b0 : decide (x14_1 < (l1.length : Int)) = true := decide_eq_true c9
    clear c9
    by_cases c10 : 0 ≤ (rd l1 x14_1); rotate_left
    ·rw [if_neg c10] at H; exact absurd H (by simp)
    rw [if_pos c10] at H
    have c10b0 : decide (0 ≤ (rd l1 x14_1)) = true := decide_eq_true c10
    clear c10
    by_cases c11 : (rd l1 x14_1) < (l0.length : Int); rotate_left
    ·rw [if_neg c11] at H; exact absurd H (by simp)
    rw [if_pos c11] at H
    have c11b0 : decide ((rd l1 x14_1) < (l0.length : Int)) = true := decide_eq_true c11
    clear c11
    obtain ⟨ji12, hji12⟩ : ∃ j_ : Int, (mx x6_1 ((rd_T59 l0 (rd l1 x14_1)).f2)) = j_ := ⟨_, rfl⟩
    replace H : (if (rd l1 x14_1) < (x5_1.length : Int) then (impl_endsOf.l0 k1 l0 (x5_1.set ((rd l1 x14_1) : Int).toNat (wrap64 ((ji12) + ((rd_T59 l0 (rd l1 x14_1)).f0)))) (wrap64 ((ji12) + ((rd_T59 l0 (rd l1 x14_1)).f0))) l1 (l1.length : Int) (wrap64 (x14_1 + 1))) else (none)) = some r := by first | (rw [hji12] at H; exact H) | (simp only [hji12] at H ⊢; exact H)
    have hji12_ : (if x6_1 < ((rd_T59 l0 (rd l1 x14_1)).f2) then ((rd_T59 l0 (rd l1 x14_1)).f2) else x6_1) = ji12 := hji12
    by_cases c13 : (rd l1 x14_1) < (x5_1.length : Int); rotate_left
    ·rw [if_neg c13] at H; exact absurd H (by simp)
    rw [if_pos c13] at H
    have c13b0 : decide ((rd l1 x14_1) < (x5_1.length : Int)) = true := decide_eq_true c13
    clear c13
    obtain ⟨y234, hy234⟩ : ∃ y_ : List Int, y_ = (x5_1.set ((rd l1 x14_1) : Int).toNat (wrap64 ((ji12) + ((rd_T59 l0 (rd l1 x14_1)).f0)))) := ⟨_, rfl⟩
    replace H : (impl_endsOf.l0 k1 l0 y234 (wrap64 ((ji12) + ((rd_T59 l0 (rd l1 x14_1)).f0))) l1 (l1.length : Int) (wrap64 (x14_1 + 1))) = some r := by first | (rw [hy234]; with_reducible exact H) | (have H2_ := (Option.bind_some _ _).symm.trans H; rw [hy234]; with_reducible exact H2_) | (have H2_ := (Option.bind_some _ _).symm.trans H; with_reducible exact H2_) | with_reducible exact H | (rw [hy234]; exact H) | exact H
    have Ny234 := Aside0.mk hy234
    clear hy234
    have H' := Aside0.mk H
    clear H
    have p231 : 0 ≤ (x14_1 : Int) := oD
    have q231 : x14_1 < (l1.length : Int) := oD
    obtain ⟨ad231, e231, hx231_0⟩ := Kd.at_int HR1.out x14_1 p231 q231
    cases e231
    replace hx231_0 := (cB HB.out hx231_0 :)
    replace p231 := eq_true p231
    replace q231 := eq_true q231
    have p232 : 0 ≤ ((rd l1 x14_1) : Int) := oD
    have q232 : (rd l1 x14_1) < (l0.length : Int) := oD
    obtain ⟨ad232, e232, hx232_0, hx232_1, hx232_2, hx232_3⟩ := at_T59 HR0.out (rd l1 x14_1) p232 q232
    cases e232
    replace hx232_0 := (cB HB.out hx232_0 :)
    replace hx232_1 := (cB HB.out hx232_1 :)
    replace hx232_2 := (cB HB.out hx232_2 :)
    replace hx232_3 := (cB HB.out hx232_3 :)
    replace p232 := eq_true p232
    replace q232 := eq_true q232
    have p233 : 0 ≤ ((rd l1 x14_1) : Int) := oD
    have q233 : (rd l1 x14_1) < (l0.length : Int) := oD
    obtain ⟨ad233, e233, hx233_0, hx233_1, hx233_2, hx233_3⟩ := at_T59 HR0.out (rd l1 x14_1) p233 q233
    obtain rfl : ad232 = ad233 := (by injection e233)
    replace hx233_0 := (cB HB.out hx233_0 :)
    replace hx233_1 := (cB HB.out hx233_1 :)
    replace hx233_2 := (cB HB.out hx233_2 :)
    replace hx233_3 := (cB HB.out hx233_3 :)
    replace p233 := eq_true p233
    replace q233 := eq_true q233
    have p14 : 0 ≤ ((rd l1 x14_1) : Int) := oD
    have q14 : ((rd l1 x14_1) : Int) < ((x5_1.length : Int) : Int) := oD
    obtain ⟨go14, co14, eo14, gb14, gl14, cl14, HG14⟩ := Kd.R_form HO_5.out (by omega)
    (first | cases eo14 | (injection eo14 with ea_ en_ ec_; (first | subst ea_ | (injection ea_ with ea_; subst ea_)); subst ec_; clear en_))
    have GB14 := Aside0.mk gb14
    have GG14 := Aside0.mk HG14
    clear gb14 gl14 HG14
    obtain ⟨hx14_0, hf14_0⟩ := Kd.R_celln 0 HO_5.out ((rd l1 x14_1) : Int) p14 q14
    replace p14 := eq_true p14
    replace q14 := eq_true q14
    have HP15 := Kd.R_putg HO_5.out ((rd l1 x14_1) : Int) (wrap64 ((ji12) + ((rd_T59 l0 (rd l1 x14_1)).f0)))
    go_wp2_with (first | ((with_reducible refine gate_store (t := 3) (p := 34) rfl ?_); (try (rw [drewN_self wr]; generalize hq_ : World.drewN wr _ = wr; have n0_ := Aside0.mk (Kd.R_at hq_ HO_5.out); have n1_ := Aside0.mk (below_at hq_ HB.out); clear hq_ HO_5 HB; have HO_5 := n0_; have HB := n1_; clear n0_ n1_; (try (have HP15 := Kd.R_putg HO_5.out ((rd l1 x14_1) : Int) (wrap64 ((ji12) + ((rd_T59 l0 (rd l1 x14_1)).f0))))))); refine store_event (t := 3) (p := 34) (v := ?vo_w16) (w1 := (wr.setCell ⟨go14, ((rd l1 x14_1) : Int).toNat, none⟩ (.int .i64 (wrap64 ((ji12) + ((rd_T59 l0 (rd l1 x14_1)).f0)))))) ?hg ?ho ?hn ?hr ?_; (case ho => rfl); (case hg => rfl); (case hn => rfl); (case hr => first | (go_simp; done) | (go_simp; rfl)); intro w16 hw; have hg : wr.grownBy w16 (some go14) := (by rw [hw]; exact HP15.2); have hp_ : Kd.R (Kd.int .i64) 3 w16 w.heap.size (fun _ => True) (.slice (some ⟨go14, 0, none⟩) x5_1.length co14) y234 := (by rw [hw, Ny234.out]; exact HP15.1); clear HP15; have n0_ := Aside0.mk (hp_); have n1_ := Aside0.mk ((by rw [hw]; exact below_set (HB.out) GB14.out : Below w.heap.size w w16)); clear HO_5; clear HB; have HO_5 := n0_; have HB := n1_; clear n0_ n1_; clear hg hw hp_))
    repeat (go_quiet (first | ((with_reducible refine gate_store (t := 3) (p := 34) rfl ?_); (try (rw [drewN_self wr]; generalize hq_ : World.drewN wr _ = wr; have n0_ := Aside0.mk (Kd.R_at hq_ HO_5.out); have n1_ := Aside0.mk (below_at hq_ HB.out); clear hq_ HO_5 HB; have HO_5 := n0_; have HB := n1_; clear n0_ n1_; (try (have HP15 := Kd.R_putg HO_5.out ((rd l1 x14_1) : Int) (wrap64 ((ji12) + ((rd_T59 l0 (rd l1 x14_1)).f0))))))); refine store_event (t := 3) (p := 34) (v := ?vo_w16) (w1 := (wr.setCell ⟨go14, ((rd l1 x14_1) : Int).toNat, none⟩ (.int .i64 (wrap64 ((ji12) + ((rd_T59 l0 (rd l1 x14_1)).f0)))))) ?hg ?ho ?hn ?hr ?_; (case ho => rfl); (case hg => rfl); (case hn => rfl); (case hr => first | (go_simp; done) | (go_simp; rfl)); intro w16 hw; have hg : wr.grownBy w16 (some go14) := (by rw [hw]; exact HP15.2); have hp_ : Kd.R (Kd.int .i64) 3 w16 w.heap.size (fun _ => True) (.slice (some ⟨go14, 0, none⟩) x5_1.length co14) y234 := (by rw [hw, Ny234.out]; exact HP15.1); clear HP15; have n0_ := Aside0.mk (hp_); have n1_ := Aside0.mk ((by rw [hw]; exact below_set (HB.out) GB14.out : Below w.heap.size w w16)); clear HO_5; clear HB; have HO_5 := n0_; have HB := n1_; clear n0_ n1_; clear hg hw hp_)); try go_wp2_with (first | ((with_reducible refine gate_store (t := 3) (p := 34) rfl ?_); (try (rw [drewN_self wr]; generalize hq_ : World.drewN wr _ = wr; have n0_ := Aside0.mk (Kd.R_at hq_ HO_5.out); have n1_ := Aside0.mk (below_at hq_ HB.out); clear hq_ HO_5 HB; have HO_5 := n0_; have HB := n1_; clear n0_ n1_; (try (have HP15 := Kd.R_putg HO_5.out ((rd l1 x14_1) : Int) (wrap64 ((ji12) + ((rd_T59 l0 (rd l1 x14_1)).f0))))))); refine store_event (t := 3) (p := 34) (v := ?vo_w16) (w1 := (wr.setCell ⟨go14, ((rd l1 x14_1) : Int).toNat, none⟩ (.int .i64 (wrap64 ((ji12) + ((rd_T59 l0 (rd l1 x14_1)).f0)))))) ?hg ?ho ?hn ?hr ?_; (case ho => rfl); (case hg => rfl); (case hn => rfl); (case hr => first | (go_simp; done) | (go_simp; rfl)); intro w16 hw; have hg : wr.grownBy w16 (some go14) := (by rw [hw]; exact HP15.2); have hp_ : Kd.R (Kd.int .i64) 3 w16 w.heap.size (fun _ => True) (.slice (some ⟨go14, 0, none⟩) x5_1.length co14) y234 := (by rw [hw, Ny234.out]; exact HP15.1); clear HP15; have n0_ := Aside0.mk (hp_); have n1_ := Aside0.mk ((by rw [hw]; exact below_set (HB.out) GB14.out : Below w.heap.size w w16)); clear HO_5; clear HB; have HO_5 := n0_; have HB := n1_; clear n0_ n1_; clear hg hw hp_)))
    go_roundg k1
    case measure => have := HK1.out; omega
    case rel => exact ⟨(y234), (wrap64 ((ji12) + ((rd_T59 l0 (rd l1 x14_1)).f0))), (wrap64 (x14_1 + 1)), (by first | rfl | (simp; done) | (simp only [← hji12] <;> (first | rfl | simp)) | (simp [*]; done)), sD, H', ⟨by have := HK1.out; omega⟩, ⟨by (with_reducible repeat (first | apply Kd.R_alloc | apply Kd.R_drewN | apply Kd.R_drew)); first | exact HO_5.out | (rw [Ny234.out]; exact (Kd.R_putg (Kd.R_drewN HO_5.out _) _ _).1)⟩, ⟨by repeat (first | (with_reducible first | exact HB.out | apply below_alloc | apply pw_below_drewN | apply below_drew1 | refine below_set ?_ GB14.out) | exact HB.out)⟩⟩
   ·rw [if_neg c7] at H
    have c7b0 : decide (x14_1 < (l1.length : Int)) = false := decide_eq_false c7
    clear c7
    obtain rfl := Option.some.inj H
    go_wp2
    repeat (go_quiet (fail); try go_wp2)
    go_ret
    exact ⟨_, by first | rfl | (simp [errW_none, errW_some] <;> rfl) | (simp [*, errW_none, errW_some] <;> rfl), by (with_reducible repeat (first | apply Kd.R_alloc | apply Kd.R_drewN | apply Kd.R_drew)); exact HO_5.out, bB⟩

/-! ### impl_valueOf: function 84 -/
def impl_valueOf.f (k : Nat) (l0 : List (S59)) (l1 : List Int) (a2 : Int) : Option (Int) := (impl_endsOf.f k l0 l1).bind fun t235 => ((impl_valueOfEnds.f k l0 t235 a2).bind fun t238 => (some t238))
theorem impl_valueOf.mono : ∀ a0 a1 a2 k, LeO (impl_valueOf.f k a0 a1 a2) (impl_valueOf.f (k + 1) a0 a1 a2) := by
 intro a0 a1 a2 k
 unfold impl_valueOf.f
 repeat' first
   | (with_reducible exact impl_endsOf.mono _ _ _)
   | (with_reducible exact impl_valueOfEnds.mono _ _ _ _)
   | (with_reducible exact LeO.refl _)
   | (with_reducible exact LeO.none _)
   | (with_reducible refine LeO.ite ?_ ?_)
   | (with_reducible refine LeO.bind ?_ (fun _ => ?_))
   | exact impl_endsOf.mono _ _ _
   | exact impl_valueOfEnds.mono _ _ _ _
   | exact LeO.none _
   | refine LeO.ite ?_ ?_
   | refine LeO.bind ?_ (fun _ => ?_)
set_option maxHeartbeats 8000000 in
set_option maxRecDepth 100000 in
theorem impl_valueOf.calls (k : Nat) (A0 : Option Addr) (c0 : Nat) (l0 : List (S59)) (A1 : Option Addr) (c1 : Nat) (l1 : List Int) (a2 : Int) (r : Int) (w : World) (hr0 : Kd.C k59 w A0 l0.length l0) (hc0 : l0.length ≤ c0) (hr1 : Kd.C (Kd.int .i64) w A1 l1.length l1) (hc1 : l1.length ≤ c1) (h : impl_valueOf.f k l0 l1 a2 = some r) :
  Calls Try.prog 84 #[.slice A0 l0.length c0, .slice A1 l1.length c1, .int .i64 a2] w fun e w' => e = .returned (.int .i64 r) ∧ Below w.heap.size w w' := by
 have HR0 := Aside0.mk hr0
 have HC0 := Aside0.mk hc0
 clear hr0 hc0
 have HR1 := Aside0.mk hr1
 have HC1 := Aside0.mk hc1
 clear hr1 hc1
 have HB := Aside0.mk (Below.refl w.heap.size w)
 have H : ((impl_endsOf.f k l0 l1).bind fun t235 => ((impl_valueOfEnds.f k l0 t235 a2).bind fun t238 => (some t238))) = some r := h
 clear h
 replace H := Option.bind_eq_some_iff.mp H
 obtain ⟨t235, A40, H⟩ := H
 replace H : ((impl_valueOfEnds.f k l0 t235 a2).bind fun t238 => (some t238)) = some r := H
 have A4 := Aside0.mk A40
 clear A40
 replace H := Option.bind_eq_some_iff.mp H
 obtain ⟨t238, A50, H⟩ := H
 replace H : (some t238) = some r := H
 have A5 := Aside0.mk A50
 clear A50
 obtain rfl := Option.some.inj H
 go_enter Try.func84, Try.ntmps84
 go_wp2_with (first | ((with_reducible refine gate_callee (f := 128) rfl ?_); refine goesL_ (some 10) rfl rfl Try.func128 (by kernel_rfl) rfl #[.slice A0 l0.length c0, .slice A1 l1.length c1] rfl aE ?_; (with_reducible refine (impl_endsOf.calls k _ _ l0 _ _ l1 t235 _ ?side1 ?side2 ?side3 ?side4 A4.out).mono ?_); (case side1 => repeat (first | exact HR0.out | (with_reducible refine Kd.C_alloc ?_ _) | (with_reducible refine Kd.C_drewN ?_ _) | (with_reducible refine Kd.C_drew ?_))); (case side2 => exact HC0.out); (case side3 => repeat (first | exact HR1.out | (with_reducible refine Kd.C_alloc ?_ _) | (with_reducible refine Kd.C_drewN ?_ _) | (with_reducible refine Kd.C_drew ?_))); (case side4 => exact HC1.out); rintro e w6 ⟨v236, rfl, ho0, hb⟩; refine ⟨_, rfl, ?_⟩; have n0_ := Aside0.mk (Kd.R_lower ho0 (below_size bB)); have n1_ := Aside0.mk (below_step bB hb); clear HB; have HO237 := n0_; have HB := n1_; clear n0_ n1_; (try clear hb); (try clear hb2); (try clear hk); (try clear hi); (try clear ho0); obtain ⟨Ao7, co7, eo7⟩ := Kd.R_slice HO237.out; subst eo7) | ((with_reducible refine gate_callee (f := 80) rfl ?_); refine goesL_ (some 12) rfl rfl Try.func80 (by kernel_rfl) rfl #[.slice A0 l0.length c0, .slice Ao7 t235.length co7, .int .i64 a2] rfl aE ?_; (with_reducible refine (impl_valueOfEnds.calls k _ _ l0 _ _ t235 a2 t238 _ ?side1 ?side2 ?side3 ?side4 A5.out).mono ?_); (case side1 => repeat (first | exact (Kd.C_below HR0.out HB.out) | (with_reducible refine Kd.C_alloc ?_ _) | (with_reducible refine Kd.C_drewN ?_ _) | (with_reducible refine Kd.C_drew ?_))); (case side2 => exact HC0.out); (case side3 => repeat (first | exact (Kd.R_reads' HO237.out).2.2 | (with_reducible refine Kd.C_alloc ?_ _) | (with_reducible refine Kd.C_drewN ?_ _) | (with_reducible refine Kd.C_drew ?_))); (case side4 => exact (Kd.R_reads' HO237.out).2.1); rintro e w8 ⟨rfl, hb⟩; refine ⟨_, rfl, ?_⟩; have n0_ := Aside0.mk (Kd.R_below (by (with_reducible repeat (first | apply Kd.R_alloc | apply Kd.R_drewN | apply Kd.R_drew)); exact HO237.out) hb); have n1_ := Aside0.mk (below_step bB hb); clear HO237; clear HB; have HO237 := n0_; have HB := n1_; clear n0_ n1_; (try clear hb); (try clear hb2); (try clear hk); (try clear hi)))
 go_ret
 exact ⟨rE, bB⟩

/-! ### impl_copyInts: function 137 -/
def impl_copyInts.f (l0 : List Int) : Option (List Int) := (some (([] : List Int) : List Int)).bind fun y239 => (if y239.length + l0.length < 17592186044416 then (some (y239 ++ l0)) else (none))
set_option maxHeartbeats 8000000 in
set_option maxRecDepth 100000 in
theorem impl_copyInts.calls (A0 : Option Addr) (c0 : Nat) (l0 : List Int) (r : List Int) (w : World) (hr0 : Kd.C (Kd.int .i64) w A0 l0.length l0) (hc0 : l0.length ≤ c0) (h : impl_copyInts.f l0 = some r) :
  Calls Try.prog 137 #[.slice A0 l0.length c0] w fun e w' => ∃ v0_ : Value, e = .returned (v0_) ∧ Kd.R (Kd.int .i64) 3 w' w.heap.size (fun _ => True) v0_ r ∧ Below w.heap.size w w' := by
 have HR0 := Aside0.mk hr0
 have HC0 := Aside0.mk hc0
 clear hr0 hc0
 have HB := Aside0.mk (Below.refl w.heap.size w)
 have H : ((some (([] : List Int) : List Int)).bind fun y239 => (if y239.length + l0.length < 17592186044416 then (some (y239 ++ l0)) else (none))) = some r := h
 clear h
 obtain ⟨y239, hy239⟩ : ∃ y_ : List Int, y_ = (([] : List Int)) := ⟨_, rfl⟩
 replace H : (if y239.length + l0.length < 17592186044416 then (some (y239 ++ l0)) else (none)) = some r := by first | (rw [hy239]; with_reducible exact H) | (have H2_ := (Option.bind_some _ _).symm.trans H; rw [hy239]; with_reducible exact H2_) | (have H2_ := (Option.bind_some _ _).symm.trans H; with_reducible exact H2_) | with_reducible exact H | (rw [hy239]; exact H) | exact H
 have Ny239 := Aside0.mk hy239
 clear hy239
 by_cases c2 : y239.length + l0.length < 17592186044416; rotate_left
 ·rw [if_neg c2] at H; exact absurd H (by simp)
 rw [if_pos c2] at H
 have LMc2 := Aside0.mk c2
 clear c2
 obtain ⟨y242, hy242⟩ : ∃ y_ : List Int, y_ = (y239 ++ l0) := ⟨_, rfl⟩
 replace H : (some y242) = some r := by first | (rw [hy242]; with_reducible exact H) | (have H2_ := (Option.bind_some _ _).symm.trans H; rw [hy242]; with_reducible exact H2_) | (have H2_ := (Option.bind_some _ _).symm.trans H; with_reducible exact H2_) | with_reducible exact H | (rw [hy242]; exact H) | exact H
 have Ny242 := Aside0.mk hy242
 clear hy242
 obtain rfl := Option.some.inj H
 go_enter Try.func137, Try.ntmps137
 go_wp2_with (first | ((with_reducible refine gate_dst (N := 3) rfl ?_); refine Kd.R_lit (Kd.int .i64) _ 3 ?hg (N := 3) ?hd (xs := ([] : List Int)) (inner := []) (ok := fun _ => True) (okp := fun _ => True) ?hr ?hp (fun _ hk => hk) trivial (Below.refl _ _) (Nat.le_refl _) (by simp) ?_; (case hd => rfl); (case hg => rfl); (case hr => first | (go_simp; done) | (go_simp; rfl)); (case hp => exact (Reps.none _ _)); intro v240 w3 ho4 hb hg_ hnew_; clear hg_ hnew_; (first | rw [← Ny239.out] at ho4 | (simp only [Int.reduceToNat] at ho4; rw [← Ny239.out] at ho4)); have n0_ := Aside0.mk (Kd.R_lower ho4 (below_size bB)); have n1_ := Aside0.mk (below_step bB hb); clear HB; have HO241 := n0_; have HB := n1_; clear n0_ n1_; clear hb ho4) | ((with_reducible refine gate_builtin (b := .append) (xs := #[.tmp 3, .tmp 4]) rfl ?_); at_builtin; refine Kd.R_append_rows (Kd.int .i64) (w0 := w) w.heap.size rfl (.tmp 3) (.tmp 4) 37 3 (.int .i64 0) 8 rfl Try.underlying37 info3 rfl (by decide) (by omega) v240 y239 l0 _ _ _ (fun _ => True) (fun _ => False) rfl rfl ?aO ?aR (fun _ _ h => h) (fun _ h => h.elim) ?aF ?aB ?aS ?aL ?_; (case aR => repeat (first | exact (Kd.C_below HR0.out HB.out) | (with_reducible refine Kd.C_alloc ?_ _) | (with_reducible refine Kd.C_drewN ?_ _) | (with_reducible refine Kd.C_drew ?_))); (case aB => exact bB); (case aF => exact (fun _ _ => trivial)); (case aO => exact (by (with_reducible repeat (first | apply Kd.R_alloc | apply Kd.R_drewN | apply Kd.R_drew)); exact HO241.out)); (case aS => exact (below_size bB)); (case aL => have := LMc2.out; omega); intro v243 w5 ho hb hg hat; rw [← Ny242.out] at ho; have n0_ := Aside0.mk (hb); have n1_ := Aside0.mk (ho); clear HB; clear HO241; have HB := n0_; have HO244 := n1_; clear n0_ n1_; clear ho hb hg hat))
 go_ret
 exact ⟨_, by first | rfl | (simp [errW_none, errW_some] <;> rfl) | (simp [*, errW_none, errW_some] <;> rfl), by (with_reducible repeat (first | apply Kd.R_alloc | apply Kd.R_drewN | apply Kd.R_drew)); exact HO244.out, bB⟩

/-! ### best's literal: with best, by hand -/

/-! ### eachOrder: what a literal makes of a state, order after order -/
def eoL {σ : Type} (st : Nat → σ → List Int → Option σ) : Nat → σ → List Int → Option σ
  | 0, _, _ => none
  | k + 1, s, o => (st k s o).bind fun s' => (impl_nextOrder.f k o).bind fun t => if t.1 = true then eoL st k s' t.2 else some s'
def eoF {σ : Type} (st : Nat → σ → List Int → Option σ) (k : Nat) (n : Int) (s : σ) : Option σ := (impl_numbersTo.f k n).bind fun o => eoL st k s o
theorem eoL_mono {σ : Type} (st : Nat → σ → List Int → Option σ) (hst : ∀ k s o, LeO (st k s o) (st (k + 1) s o)) : ∀ k s o, LeO (eoL st k s o) (eoL st (k + 1) s o)
 | 0 => fun _ _ r h => by simp [eoL] at h
 | k + 1 => fun s o => by
  rw [eoL, eoL]
  exact LeO.bind (hst k s o) (fun s' => LeO.bind (impl_nextOrder.mono o k) (fun t => LeO.ite (eoL_mono st hst k s' t.2) (LeO.refl _)))
theorem eoF_mono {σ : Type} (st : Nat → σ → List Int → Option σ) (hst : ∀ k s o, LeO (st k s o) (st (k + 1) s o)) (k : Nat) (n : Int) (s : σ) : LeO (eoF st k n s) (eoF st (k + 1) n s) := LeO.bind (impl_numbersTo.mono n k) (fun o => eoL_mono st hst k s o)
set_option maxHeartbeats 8000000 in
set_option maxRecDepth 100000 in
theorem eo_calls_136 (g0 g1 g2 g3 g4 : Value) {σ : Type} (st : Nat → σ → List Int → Option σ) (Inv : (Nat → Prop) → World → σ → Prop) (k : Nat) (n : Int) (s r : σ) (w0 w : World) (hB : Below w0.heap.size w0 w)
  (hst : ∀ (P : Nat → Prop) (k' : Nat) (s s' : σ) (w' : World) (A : Option Addr) (m c : Nat) (o : List Int), m = o.length → Below w0.heap.size w0 w' → (∀ q, P q → q < w'.heap.size) → Inv P w' s → Kd.C (Kd.int .i64) w' A m o → m ≤ c → st k' s o = some s' →
    Calls Try.prog 136 #[.slice A m c, g0, g1, g2, g3, g4] w' fun e w'' => e = .returned (.tuple #[]) ∧ Inv P w'' s' ∧ Below w0.heap.size w0 w'' ∧ Kept w' w'' (fun q => q < w.heap.size))
  (hset : ∀ (P : Nat → Prop) (w' w'' : World) (s : σ), Inv P w' s → Kept w' w'' P → Inv P w'' s)
  (hin : ∀ (P : Nat → Prop) (w' : World), (∀ q, P q → w.heap.size ≤ q) → Below w.heap.size w w' → Inv P w' s)
  (h : eoF st k n s = some r) :
  Calls Try.prog 135 #[.int .i64 n, .func (.func 136) #[] #[g0, g1, g2, g3, g4]] w fun e w' => e = .returned (.tuple #[]) ∧ Below w0.heap.size w0 w' ∧ ∃ P, Inv P w' r := by
 have HB := Aside0.mk hB
 clear hB
 have HST := Aside0.mk hst
 have HSET := Aside0.mk hset
 have HIN := Aside0.mk hin
 clear hst hset hin
 obtain ⟨o, ho, h⟩ := Option.bind_eq_some_iff.mp h
 have HN := Aside0.mk ho
 have H' := Aside0.mk h
 clear h ho
 go_enter Try.func135, Try.ntmps135
 go_wp2_with (go_at_call 62; (with_reducible refine (impl_numbersTo.calls k n o _ HN.out).mono ?_); rintro e w1 ⟨v0, rfl, ho0, hb⟩; have HO := Aside0.mk ho0; have HBW := Aside0.mk hb; clear ho0 hb)
 obtain ⟨A0, c0, e0⟩ := Kd.R_slice HO.out
 generalize o.length = n0 at e0
 have HP := Aside0.mk (show ∀ q, some q = v0.ownBlock → w.heap.size ≤ q ∧ q < w1.heap.size from fun q hq => ⟨Kd.R_base HO.out q hq.symm, Kd.R_lt HO.out q hq.symm⟩)
 have HO1 := Aside0.mk (Kd.R_lower (Kd.R_tight rfl HO.out) HB.out.size)
 have HI1 := Aside0.mk (HIN.out (fun q => some q = v0.ownBlock) w1 (fun q hq => (HP.out q hq).1) HBW.out)
 have HB1 := Aside0.mk (below_step HB.out HBW.out)
 have HWW := Aside0.mk HBW.out.size
 clear HO HBW HN h HIN HB
 go_loopg [] k (fun kq w' => ∃ (o : List Int) (s : σ), Aside0 (eoL st kq s o = some r) ∧ Aside0 (kq ≤ k) ∧ Aside0 (Kd.R (Kd.int .i64) 3 w' w0.heap.size (fun q => some q = v0.ownBlock) v0 o) ∧ Aside0 (Inv (fun q => some q = v0.ownBlock) w' s) ∧ Aside0 (Below w0.heap.size w0 w') ∧ Aside0 (w1.heap.size ≤ w'.heap.size))
 case atStart => exact ⟨o, s, H', ⟨Nat.le_refl _⟩, HO1, HI1, HB1, ⟨Nat.le_refl _⟩⟩
 case round =>
  clear H' HO1 HI1 HB1
  obtain ⟨o, s, HA, HK1, HO, HI, HB, HS⟩ := hrel
  cases gk with
  | zero => exact absurd HA.out (by simp [eoL])
  | succ k1 =>
   have H := HA.out
   clear HA
   rw [eoL] at H
   obtain ⟨s', hs', H⟩ := Option.bind_eq_some_iff.mp H
   obtain ⟨⟨b, o2⟩, hb2, H⟩ := Option.bind_eq_some_iff.mp H
   have HS1 := Aside0.mk hs'
   have HN1 := Aside0.mk hb2
   have H' := Aside0.mk H
   clear H hs' hb2
   subst e0
   cases b with
   | true =>
    go_wp2_with (first | (go_at_call 136; (refine (HST.out _ k1 s s' _ A0 n0 c0 o (Kd.R_reads' HO.out).1 HB.out (fun q hq => Nat.lt_of_lt_of_le (HP.out q hq).2 HS.out) HI.out (by have e_ := (Kd.R_reads' HO.out).1; have h_ := (Kd.R_reads' HO.out).2.2; rw [← e_] at h_; exact h_) (Kd.R_reads' HO.out).2.1 HS1.out).mono ?_); rintro e w2 ⟨rfl, hi, hb, hk⟩; have n0_ := Aside0.mk (Kd.R_step HO.out (fun q hq hlt => hk.2 q hlt (fun h_ => Nat.not_le.2 h_ (HP.out q hq).1))); have n1_ := Aside0.mk hi; have n2_ := Aside0.mk hb; have n3_ := Aside0.mk (Nat.le_trans HS.out hk.1); clear HO HI HB HS; have HO := n0_; have HI := n1_; have HB := n2_; have HS := n3_; clear n0_ n1_ n2_ n3_ hi hb hk) | (go_at_call 148; (refine (impl_nextOrder.calls k1 (fun q => some q = (Value.slice A0 n0 c0).ownBlock) _ o true o2 w0 _ HB.out HO.out HN1.out).mono ?_); rintro e w3 ⟨rfl, ho, hb, hk⟩; have n0_ := Aside0.mk (Kd.R_tight rfl ho); have n1_ := Aside0.mk (HSET.out _ _ _ _ HI.out hk); have n2_ := Aside0.mk hb; have n3_ := Aside0.mk (Nat.le_trans HS.out hk.1); clear HO HI HB HS; have HO := n0_; have HI := n1_; have HB := n2_; have HS := n3_; clear n0_ n1_ n2_ n3_ ho hb hk))
    go_roundg k1
    case measure => have := HK1.out; omega
    case rel => exact ⟨o2, s', by have h_ := H'.out; simp only [if_true] at h_; exact ⟨h_⟩, ⟨by have := HK1.out; omega⟩, HO, HI, HB, HS⟩
   | false =>
    have H := H'.out
    clear H'
    simp only [Bool.false_eq_true, if_false, Option.some.injEq] at H
    subst H
    go_wp2_with (first | (go_at_call 136; (refine (HST.out _ k1 s s' _ A0 n0 c0 o (Kd.R_reads' HO.out).1 HB.out (fun q hq => Nat.lt_of_lt_of_le (HP.out q hq).2 HS.out) HI.out (by have e_ := (Kd.R_reads' HO.out).1; have h_ := (Kd.R_reads' HO.out).2.2; rw [← e_] at h_; exact h_) (Kd.R_reads' HO.out).2.1 HS1.out).mono ?_); rintro e w2 ⟨rfl, hi, hb, hk⟩; have n0_ := Aside0.mk (Kd.R_step HO.out (fun q hq hlt => hk.2 q hlt (fun h_ => Nat.not_le.2 h_ (HP.out q hq).1))); have n1_ := Aside0.mk hi; have n2_ := Aside0.mk hb; have n3_ := Aside0.mk (Nat.le_trans HS.out hk.1); clear HO HI HB HS; have HO := n0_; have HI := n1_; have HB := n2_; have HS := n3_; clear n0_ n1_ n2_ n3_ hi hb hk) | (go_at_call 148; (refine (impl_nextOrder.calls k1 (fun q => some q = (Value.slice A0 n0 c0).ownBlock) _ o false o2 w0 _ HB.out HO.out HN1.out).mono ?_); rintro e w3 ⟨rfl, ho, hb, hk⟩; have n0_ := Aside0.mk (Kd.R_tight rfl ho); have n1_ := Aside0.mk (HSET.out _ _ _ _ HI.out hk); have n2_ := Aside0.mk hb; have n3_ := Aside0.mk (Nat.le_trans HS.out hk.1); clear HO HI HB HS; have HO := n0_; have HI := n1_; have HB := n2_; have HS := n3_; clear n0_ n1_ n2_ n3_ ho hb hk))
    ((try simp only [Exit.inBlock, Exit.then]); refine bodyPost_ret (results_none rfl _ _ _) rfl ?_)
    exact ⟨rfl, HB.out, _, HI.out⟩
/-! ### best$1: what it makes of the count, the least value and the first order -/
def impl_best_1.f (k : Nat) (l : List S59) (ob : Int) (s : Int × Int × List Int) (o : List Int) : Option (Int × Int × List Int) :=
  (impl_valueOf.f k l o ob).bind fun t => if s.1 = 0 ∨ t < s.2.1 then (impl_copyInts.f o).bind fun c => some (1, t, c) else if t = s.2.1 then some (wrap64 (s.1 + 1), s.2.1, s.2.2) else some s
def BestAt (b0 gJ gO gC gL gF : Nat) (AJ : Option Addr) (nJ cJ : Nat) (ob : Int) (P : Nat → Prop) (w : World) (s : Int × Int × List Int) : Prop :=
  w.heap[gJ]? = some (.cells #[.slice AJ nJ cJ] 26 (0, 0)) ∧ w.heap[gO]? = some (.cells #[.int .i64 ob] 3 (0, 0)) ∧ w.heap[gC]? = some (.cells #[.int .i64 s.1] 3 (0, 0)) ∧ w.heap[gL]? = some (.cells #[.int .i64 s.2.1] 3 (0, 0)) ∧
  (∃ vF, w.heap[gF]? = some (.cells #[vF] 37 (0, 0)) ∧ Kd.R (Kd.int .i64) 3 w b0 (fun q => ¬ P q ∧ q ≠ gJ ∧ q ≠ gO ∧ q ≠ gC ∧ q ≠ gL ∧ q ≠ gF) vF s.2.2) ∧ ∀ q, P q → q ≠ gJ ∧ q ≠ gO ∧ q ≠ gC ∧ q ≠ gL ∧ q ≠ gF
set_option maxHeartbeats 8000000 in
set_option maxRecDepth 100000 in
theorem impl_best_1.step (gJ gO gC gL gF : Nat) (AJ : Option Addr) (cJ : Nat) (l : List S59) (ob : Int) (w0 wE : World) (hd : gC ≠ gL ∧ gC ≠ gO ∧ gL ≠ gO) (hge : w0.heap.size ≤ gC ∧ w0.heap.size ≤ gL ∧ w0.heap.size ≤ gF) (hlt : gC < wE.heap.size ∧ gL < wE.heap.size ∧ gF < wE.heap.size)
  (hJ : Kd.C k59 w0 AJ l.length l) (hcJ : l.length ≤ cJ)
  (P : Nat → Prop) (k : Nat) (s s' : Int × Int × List Int) (w : World) (A : Option Addr) (m c : Nat) (o : List Int) (hm : m = o.length) (hB : Below w0.heap.size w0 w) (hP : ∀ q, P q → q < w.heap.size) (hI : BestAt w0.heap.size gJ gO gC gL gF AJ l.length cJ ob P w s)
  (hC : Kd.C (Kd.int .i64) w A m o) (hc : m ≤ c) (h : impl_best_1.f k l ob s o = some s') :
  Calls Try.prog 136 #[.slice A m c, .pointer (some ⟨gJ, 0, none⟩), .pointer (some ⟨gO, 0, none⟩), .pointer (some ⟨gC, 0, none⟩), .pointer (some ⟨gL, 0, none⟩), .pointer (some ⟨gF, 0, none⟩)] w fun e w' => e = .returned (.tuple #[]) ∧ BestAt w0.heap.size gJ gO gC gL gF AJ l.length cJ ob P w' s' ∧ Below w0.heap.size w0 w' ∧ Kept w w' (fun q => q < wE.heap.size) := by
 subst hm
 obtain ⟨cn, le, fi⟩ := s
 obtain ⟨bJ, bO, bC, bL, ⟨vF, bF, hF⟩, hq⟩ := hI
 obtain ⟨t, ht, h⟩ := Option.bind_eq_some_iff.mp h
 dsimp only at bC bL hF h
 have HT := Aside0.mk ht
 have HJ := Aside0.mk (Kd.C_below hJ hB)
 have HC := Aside0.mk hC
 have HB := Aside0.mk hB
 have BJ := Aside0.mk bJ
 have BO := Aside0.mk bO
 have BC := Aside0.mk bC
 have BL := Aside0.mk bL
 have BF := Aside0.mk bF
 have HF := Aside0.mk hF
 have HQ := Aside0.mk hq
 have HPL := Aside0.mk hP
 have HGE := Aside0.mk hge
 have HD := Aside0.mk hd
 have HLT := Aside0.mk hlt
 have HH := Aside0.mk h
 have HX := Aside0.mk (And.intro hcJ hc)
 clear hJ ht hC hB hF hq hP hge hd hlt h
 have hxJ : w.cell? ⟨gJ, 0, none⟩ = some (.slice AJ l.length cJ) := (blk_cell BJ.out 0).trans rfl
 have hxO : w.cell? ⟨gO, 0, none⟩ = some (.int .i64 ob) := (blk_cell BO.out 0).trans rfl
 clear bJ bO bC bL bF
 have HW := Aside0.mk (Kept.refl w (fun q => q < wE.heap.size))
 by_cases d0 : cn = 0
 ·
   have H := HH.out
   rw [if_pos (Or.inl d0)] at H
   obtain ⟨cp, hcp, H⟩ := Option.bind_eq_some_iff.mp H
   have HCP := Aside0.mk hcp
   clear HH hcp
   obtain rfl := Option.some.inj H
   have c1 : (cn == 0) = true := beq_iff_eq.mpr d0
   go_enter Try.func136, Try.ntmps136
   go_wp2_with (first | (go_at_call 84; (refine (impl_valueOf.calls k AJ cJ l A c o ob t _ HJ.out HX.out.1 HC.out HX.out.2 HT.out).mono ?_); rintro e w2 ⟨rfl, hb⟩; have n0_ := Aside0.mk (blk_below BJ.out hb); have n1_ := Aside0.mk (blk_below BO.out hb); have n2_ := Aside0.mk (blk_below BC.out hb); have n3_ := Aside0.mk (blk_below BL.out hb); have n4_ := Aside0.mk (blk_below BF.out hb); have n5_ := Aside0.mk (Kd.R_below HF.out hb); have n6_ := Aside0.mk (Kd.C_below HC.out hb); have n7_ := Aside0.mk (below_step HB.out hb); have n8_ := Aside0.mk (Kept.below HW.out hb); have n9_ := Aside0.mk (show ∀ q, P q → q < w2.heap.size from fun q hq => Nat.lt_of_lt_of_le (HPL.out q hq) hb.size); clear HJ hxJ hxO BJ BO BC BL BF HF HC HB HW HPL; have BJ := n0_; have BO := n1_; have BC := n2_; have BL := n3_; have BF := n4_; have HF := n5_; have HC := n6_; have HB := n7_; have HW := n8_; have HPL := n9_; clear n0_ n1_ n2_ n3_ n4_ n5_ n6_ n7_ n8_ n9_ hb; have hxC : w2.cell? ⟨gC, 0, none⟩ = some (.int .i64 cn) := (blk_cell BC.out 0).trans rfl; have hxL : w2.cell? ⟨gL, 0, none⟩ = some (.int .i64 le) := (blk_cell BL.out 0).trans rfl) | (go_at_call 137; (refine (impl_copyInts.calls A c o cp _ HC.out HX.out.2 HCP.out).mono ?_); rintro e w3 ⟨vN, rfl, hN, hb⟩; have n0_ := Aside0.mk (blk_below BJ.out hb); have n1_ := Aside0.mk (blk_below BO.out hb); have n2_ := Aside0.mk (blk_below BC.out hb); have n3_ := Aside0.mk (blk_below BL.out hb); have n4_ := Aside0.mk (blk_below BF.out hb); have n5_ := Aside0.mk (Kd.R_mono (ok' := fun q => ¬ P q ∧ q ≠ gJ ∧ q ≠ gO ∧ q ≠ gC ∧ q ≠ gL ∧ q ≠ gF) (Kd.R_lower (Kd.R_bound hN) HB.out.size) (fun q hq => ⟨fun hp => Nat.not_le.2 (HPL.out q hp) hq.2.1, fun e_ => Nat.not_le.2 (blk_lt BJ.out) (e_ ▸ hq.2.1), fun e_ => Nat.not_le.2 (blk_lt BO.out) (e_ ▸ hq.2.1), fun e_ => Nat.not_le.2 (blk_lt BC.out) (e_ ▸ hq.2.1), fun e_ => Nat.not_le.2 (blk_lt BL.out) (e_ ▸ hq.2.1), fun e_ => Nat.not_le.2 (blk_lt BF.out) (e_ ▸ hq.2.1)⟩)); have n7_ := Aside0.mk (below_step HB.out hb); have n8_ := Aside0.mk (Kept.below HW.out hb); clear BJ BO BC BL BF HF HC HB HW HPL hN; have BJ := n0_; have BO := n1_; have BC := n2_; have BL := n3_; have BF := n4_; have HF := n5_; have HB := n7_; have HW := n8_; clear n0_ n1_ n2_ n3_ n4_ n5_ n7_ n8_ hb; (obtain ⟨AN, cN, eN⟩ := Kd.R_slice HF.out); subst eN; have hfF : w3.frozen? ⟨gF, 0, none⟩ = false := blk_frozen BF.out 0; have hfL : w3.frozen? ⟨gL, 0, none⟩ = false := blk_frozen BL.out 0; have hfC : w3.frozen? ⟨gC, 0, none⟩ = false := blk_frozen BC.out 0; have hxC : w3.cell? ⟨gC, 0, none⟩ = some (.int .i64 cn) := (blk_cell BC.out 0).trans rfl; have hxL : w3.cell? ⟨gL, 0, none⟩ = some (.int .i64 le) := (blk_cell BL.out 0).trans rfl; have hxF : w3.cell? ⟨gF, 0, none⟩ = some vF := (blk_cell BF.out 0).trans rfl; have HNF := Aside0.mk (show gL ≠ gF ∧ gC ≠ gF ∧ gO ≠ gF ∧ gJ ≠ gL ∧ gJ ≠ gC ∧ gJ ≠ gF ∧ gC ≠ gL ∧ gC ≠ gO ∧ gL ≠ gO from ⟨blk_ne BL.out BF.out (by decide), blk_ne BC.out BF.out (by decide), blk_ne BO.out BF.out (by decide), blk_ne BJ.out BL.out (by decide), blk_ne BJ.out BC.out (by decide), blk_ne BJ.out BF.out (by decide), HD.out⟩); have L4 := Aside0.mk (blk_far BL.out (p := ⟨gF, 0, none⟩) HNF.out.1 (.slice AN cp.length cN)); have C4 := Aside0.mk (blk_far BC.out (p := ⟨gF, 0, none⟩) HNF.out.2.1 (.slice AN cp.length cN)); have C5 := Aside0.mk (blk_far C4.out (p := ⟨gL, 0, none⟩) HD.out.1 (.int .i64 t)); have hxL4 : (w3.setCell ⟨gF, 0, none⟩ (.slice AN cp.length cN)).cell? ⟨gL, 0, none⟩ = some (.int .i64 le) := (blk_cell L4.out 0).trans rfl; have hfL4 : (w3.setCell ⟨gF, 0, none⟩ (.slice AN cp.length cN)).frozen? ⟨gL, 0, none⟩ = false := blk_frozen L4.out 0; have hxC5 : ((w3.setCell ⟨gF, 0, none⟩ (.slice AN cp.length cN)).setCell ⟨gL, 0, none⟩ (.int .i64 t)).cell? ⟨gC, 0, none⟩ = some (.int .i64 cn) := (blk_cell C5.out 0).trans rfl; have hfC5 : ((w3.setCell ⟨gF, 0, none⟩ (.slice AN cp.length cN)).setCell ⟨gL, 0, none⟩ (.int .i64 t)).frozen? ⟨gC, 0, none⟩ = false := blk_frozen C5.out 0))
   go_end0
   refine ⟨rfl, ⟨blk_far (blk_far (blk_far BJ.out HNF.out.2.2.2.2.2.1 _) HNF.out.2.2.2.1 _) HNF.out.2.2.2.2.1 _, blk_far (blk_far (blk_far BO.out HNF.out.2.2.1 _) (Ne.symm HNF.out.2.2.2.2.2.2.2.2) _) (Ne.symm HNF.out.2.2.2.2.2.2.2.1) _, blk_put C5.out 0 _ rfl, blk_far (blk_put L4.out 0 _ rfl) (Ne.symm HD.out.1) _, ⟨_, blk_far (blk_far (blk_put BF.out 0 _ rfl) (Ne.symm HNF.out.1) _) (Ne.symm HNF.out.2.1) _, Kd.R_far (Kd.R_far (Kd.R_far HF.out (fun _ hk => hk.2.2.2.2.2) _) (fun _ hk => hk.2.2.2.2.1) _) (fun _ hk => hk.2.2.2.1) _⟩, HQ.out⟩, below_set (below_set (below_set HB.out HGE.out.2.2) HGE.out.2.1) HGE.out.1, Kept.setCell (Kept.setCell (Kept.setCell HW.out (.inl HLT.out.2.2) _) (.inl HLT.out.2.1) _) (.inl HLT.out.1) _⟩
 · have c1 : (cn == 0) = false := beq_eq_false_iff_ne.mpr d0
   by_cases d1 : t < le
   ·
     have H := HH.out
     rw [if_pos (Or.inr d1)] at H
     obtain ⟨cp, hcp, H⟩ := Option.bind_eq_some_iff.mp H
     have HCP := Aside0.mk hcp
     clear HH hcp
     obtain rfl := Option.some.inj H
     have c2 : decide (t < le) = true := decide_eq_true d1
     go_enter Try.func136, Try.ntmps136
     go_wp2_with (first | (go_at_call 84; (refine (impl_valueOf.calls k AJ cJ l A c o ob t _ HJ.out HX.out.1 HC.out HX.out.2 HT.out).mono ?_); rintro e w2 ⟨rfl, hb⟩; have n0_ := Aside0.mk (blk_below BJ.out hb); have n1_ := Aside0.mk (blk_below BO.out hb); have n2_ := Aside0.mk (blk_below BC.out hb); have n3_ := Aside0.mk (blk_below BL.out hb); have n4_ := Aside0.mk (blk_below BF.out hb); have n5_ := Aside0.mk (Kd.R_below HF.out hb); have n6_ := Aside0.mk (Kd.C_below HC.out hb); have n7_ := Aside0.mk (below_step HB.out hb); have n8_ := Aside0.mk (Kept.below HW.out hb); have n9_ := Aside0.mk (show ∀ q, P q → q < w2.heap.size from fun q hq => Nat.lt_of_lt_of_le (HPL.out q hq) hb.size); clear HJ hxJ hxO BJ BO BC BL BF HF HC HB HW HPL; have BJ := n0_; have BO := n1_; have BC := n2_; have BL := n3_; have BF := n4_; have HF := n5_; have HC := n6_; have HB := n7_; have HW := n8_; have HPL := n9_; clear n0_ n1_ n2_ n3_ n4_ n5_ n6_ n7_ n8_ n9_ hb; have hxC : w2.cell? ⟨gC, 0, none⟩ = some (.int .i64 cn) := (blk_cell BC.out 0).trans rfl; have hxL : w2.cell? ⟨gL, 0, none⟩ = some (.int .i64 le) := (blk_cell BL.out 0).trans rfl) | (go_at_call 137; (refine (impl_copyInts.calls A c o cp _ HC.out HX.out.2 HCP.out).mono ?_); rintro e w3 ⟨vN, rfl, hN, hb⟩; have n0_ := Aside0.mk (blk_below BJ.out hb); have n1_ := Aside0.mk (blk_below BO.out hb); have n2_ := Aside0.mk (blk_below BC.out hb); have n3_ := Aside0.mk (blk_below BL.out hb); have n4_ := Aside0.mk (blk_below BF.out hb); have n5_ := Aside0.mk (Kd.R_mono (ok' := fun q => ¬ P q ∧ q ≠ gJ ∧ q ≠ gO ∧ q ≠ gC ∧ q ≠ gL ∧ q ≠ gF) (Kd.R_lower (Kd.R_bound hN) HB.out.size) (fun q hq => ⟨fun hp => Nat.not_le.2 (HPL.out q hp) hq.2.1, fun e_ => Nat.not_le.2 (blk_lt BJ.out) (e_ ▸ hq.2.1), fun e_ => Nat.not_le.2 (blk_lt BO.out) (e_ ▸ hq.2.1), fun e_ => Nat.not_le.2 (blk_lt BC.out) (e_ ▸ hq.2.1), fun e_ => Nat.not_le.2 (blk_lt BL.out) (e_ ▸ hq.2.1), fun e_ => Nat.not_le.2 (blk_lt BF.out) (e_ ▸ hq.2.1)⟩)); have n7_ := Aside0.mk (below_step HB.out hb); have n8_ := Aside0.mk (Kept.below HW.out hb); clear BJ BO BC BL BF HF HC HB HW HPL hN; have BJ := n0_; have BO := n1_; have BC := n2_; have BL := n3_; have BF := n4_; have HF := n5_; have HB := n7_; have HW := n8_; clear n0_ n1_ n2_ n3_ n4_ n5_ n7_ n8_ hb; (obtain ⟨AN, cN, eN⟩ := Kd.R_slice HF.out); subst eN; have hfF : w3.frozen? ⟨gF, 0, none⟩ = false := blk_frozen BF.out 0; have hfL : w3.frozen? ⟨gL, 0, none⟩ = false := blk_frozen BL.out 0; have hfC : w3.frozen? ⟨gC, 0, none⟩ = false := blk_frozen BC.out 0; have hxC : w3.cell? ⟨gC, 0, none⟩ = some (.int .i64 cn) := (blk_cell BC.out 0).trans rfl; have hxL : w3.cell? ⟨gL, 0, none⟩ = some (.int .i64 le) := (blk_cell BL.out 0).trans rfl; have hxF : w3.cell? ⟨gF, 0, none⟩ = some vF := (blk_cell BF.out 0).trans rfl; have HNF := Aside0.mk (show gL ≠ gF ∧ gC ≠ gF ∧ gO ≠ gF ∧ gJ ≠ gL ∧ gJ ≠ gC ∧ gJ ≠ gF ∧ gC ≠ gL ∧ gC ≠ gO ∧ gL ≠ gO from ⟨blk_ne BL.out BF.out (by decide), blk_ne BC.out BF.out (by decide), blk_ne BO.out BF.out (by decide), blk_ne BJ.out BL.out (by decide), blk_ne BJ.out BC.out (by decide), blk_ne BJ.out BF.out (by decide), HD.out⟩); have L4 := Aside0.mk (blk_far BL.out (p := ⟨gF, 0, none⟩) HNF.out.1 (.slice AN cp.length cN)); have C4 := Aside0.mk (blk_far BC.out (p := ⟨gF, 0, none⟩) HNF.out.2.1 (.slice AN cp.length cN)); have C5 := Aside0.mk (blk_far C4.out (p := ⟨gL, 0, none⟩) HD.out.1 (.int .i64 t)); have hxL4 : (w3.setCell ⟨gF, 0, none⟩ (.slice AN cp.length cN)).cell? ⟨gL, 0, none⟩ = some (.int .i64 le) := (blk_cell L4.out 0).trans rfl; have hfL4 : (w3.setCell ⟨gF, 0, none⟩ (.slice AN cp.length cN)).frozen? ⟨gL, 0, none⟩ = false := blk_frozen L4.out 0; have hxC5 : ((w3.setCell ⟨gF, 0, none⟩ (.slice AN cp.length cN)).setCell ⟨gL, 0, none⟩ (.int .i64 t)).cell? ⟨gC, 0, none⟩ = some (.int .i64 cn) := (blk_cell C5.out 0).trans rfl; have hfC5 : ((w3.setCell ⟨gF, 0, none⟩ (.slice AN cp.length cN)).setCell ⟨gL, 0, none⟩ (.int .i64 t)).frozen? ⟨gC, 0, none⟩ = false := blk_frozen C5.out 0))
     go_end0
     refine ⟨rfl, ⟨blk_far (blk_far (blk_far BJ.out HNF.out.2.2.2.2.2.1 _) HNF.out.2.2.2.1 _) HNF.out.2.2.2.2.1 _, blk_far (blk_far (blk_far BO.out HNF.out.2.2.1 _) (Ne.symm HNF.out.2.2.2.2.2.2.2.2) _) (Ne.symm HNF.out.2.2.2.2.2.2.2.1) _, blk_put C5.out 0 _ rfl, blk_far (blk_put L4.out 0 _ rfl) (Ne.symm HD.out.1) _, ⟨_, blk_far (blk_far (blk_put BF.out 0 _ rfl) (Ne.symm HNF.out.1) _) (Ne.symm HNF.out.2.1) _, Kd.R_far (Kd.R_far (Kd.R_far HF.out (fun _ hk => hk.2.2.2.2.2) _) (fun _ hk => hk.2.2.2.2.1) _) (fun _ hk => hk.2.2.2.1) _⟩, HQ.out⟩, below_set (below_set (below_set HB.out HGE.out.2.2) HGE.out.2.1) HGE.out.1, Kept.setCell (Kept.setCell (Kept.setCell HW.out (.inl HLT.out.2.2) _) (.inl HLT.out.2.1) _) (.inl HLT.out.1) _⟩
   · have c2 : decide (t < le) = false := decide_eq_false d1
     have H := HH.out
     rw [if_neg (fun h_ => h_.elim d0 d1)] at H
     clear HH
     have HNF := Aside0.mk (show gC ≠ gF ∧ gJ ≠ gC from ⟨blk_ne BC.out BF.out (by decide), blk_ne BJ.out BC.out (by decide)⟩)
     by_cases d2 : t = le
     · have c3 : (t == le) = true := beq_iff_eq.mpr d2
       rw [if_pos d2] at H
       obtain rfl := Option.some.inj H
       go_enter Try.func136, Try.ntmps136
       go_wp2_with (first | (go_at_call 84; (refine (impl_valueOf.calls k AJ cJ l A c o ob t _ HJ.out HX.out.1 HC.out HX.out.2 HT.out).mono ?_); rintro e w2 ⟨rfl, hb⟩; have n0_ := Aside0.mk (blk_below BJ.out hb); have n1_ := Aside0.mk (blk_below BO.out hb); have n2_ := Aside0.mk (blk_below BC.out hb); have n3_ := Aside0.mk (blk_below BL.out hb); have n4_ := Aside0.mk (blk_below BF.out hb); have n5_ := Aside0.mk (Kd.R_below HF.out hb); have n6_ := Aside0.mk (Kd.C_below HC.out hb); have n7_ := Aside0.mk (below_step HB.out hb); have n8_ := Aside0.mk (Kept.below HW.out hb); have n9_ := Aside0.mk (show ∀ q, P q → q < w2.heap.size from fun q hq => Nat.lt_of_lt_of_le (HPL.out q hq) hb.size); clear HJ hxJ hxO BJ BO BC BL BF HF HC HB HW HPL; have BJ := n0_; have BO := n1_; have BC := n2_; have BL := n3_; have BF := n4_; have HF := n5_; have HC := n6_; have HB := n7_; have HW := n8_; have HPL := n9_; clear n0_ n1_ n2_ n3_ n4_ n5_ n6_ n7_ n8_ n9_ hb; have hxC : w2.cell? ⟨gC, 0, none⟩ = some (.int .i64 cn) := (blk_cell BC.out 0).trans rfl; have hxL : w2.cell? ⟨gL, 0, none⟩ = some (.int .i64 le) := (blk_cell BL.out 0).trans rfl; have hfC : w2.frozen? ⟨gC, 0, none⟩ = false := blk_frozen BC.out 0))
       go_end0
       exact ⟨rfl, ⟨blk_far BJ.out HNF.out.2 _, blk_far BO.out (Ne.symm HD.out.2.1) _, blk_put BC.out 0 _ rfl, blk_far BL.out (Ne.symm HD.out.1) _, ⟨_, blk_far BF.out (Ne.symm HNF.out.1) _, Kd.R_far HF.out (fun _ hk => hk.2.2.2.1) _⟩, HQ.out⟩, below_set HB.out HGE.out.1, Kept.setCell HW.out (.inl HLT.out.1) _⟩
     · have c3 : (t == le) = false := beq_eq_false_iff_ne.mpr d2
       rw [if_neg d2] at H
       obtain rfl := Option.some.inj H
       go_enter Try.func136, Try.ntmps136
       go_wp2_with (first | (go_at_call 84; (refine (impl_valueOf.calls k AJ cJ l A c o ob t _ HJ.out HX.out.1 HC.out HX.out.2 HT.out).mono ?_); rintro e w2 ⟨rfl, hb⟩; have n0_ := Aside0.mk (blk_below BJ.out hb); have n1_ := Aside0.mk (blk_below BO.out hb); have n2_ := Aside0.mk (blk_below BC.out hb); have n3_ := Aside0.mk (blk_below BL.out hb); have n4_ := Aside0.mk (blk_below BF.out hb); have n5_ := Aside0.mk (Kd.R_below HF.out hb); have n6_ := Aside0.mk (Kd.C_below HC.out hb); have n7_ := Aside0.mk (below_step HB.out hb); have n8_ := Aside0.mk (Kept.below HW.out hb); have n9_ := Aside0.mk (show ∀ q, P q → q < w2.heap.size from fun q hq => Nat.lt_of_lt_of_le (HPL.out q hq) hb.size); clear HJ hxJ hxO BJ BO BC BL BF HF HC HB HW HPL; have BJ := n0_; have BO := n1_; have BC := n2_; have BL := n3_; have BF := n4_; have HF := n5_; have HC := n6_; have HB := n7_; have HW := n8_; have HPL := n9_; clear n0_ n1_ n2_ n3_ n4_ n5_ n6_ n7_ n8_ n9_ hb; have hxC : w2.cell? ⟨gC, 0, none⟩ = some (.int .i64 cn) := (blk_cell BC.out 0).trans rfl; have hxL : w2.cell? ⟨gL, 0, none⟩ = some (.int .i64 le) := (blk_cell BL.out 0).trans rfl))
       go_end0
       exact ⟨rfl, ⟨BJ.out, BO.out, BC.out, BL.out, ⟨_, BF.out, HF.out⟩, HQ.out⟩, HB.out, HW.out⟩
theorem impl_best_1.mono (l : List S59) (ob : Int) (k : Nat) (s : Int × Int × List Int) (o : List Int) : LeO (impl_best_1.f k l ob s o) (impl_best_1.f (k + 1) l ob s o) := LeO.bind (impl_valueOf.mono l o ob k) (fun t => LeO.refl _)
theorem BestAt.kept {b0 gJ gO gC gL gF : Nat} {AJ : Option Addr} {nJ cJ : Nat} {ob : Int} {P : Nat → Prop} {w w' : World} {s : Int × Int × List Int} (h : BestAt b0 gJ gO gC gL gF AJ nJ cJ ob P w s) (hk : Kept w w' P) : BestAt b0 gJ gO gC gL gF AJ nJ cJ ob P w' s := by
  obtain ⟨bJ, bO, bC, bL, ⟨vF, bF, hF⟩, hq⟩ := h
  exact ⟨blk_kept bJ hk (fun hp => (hq _ hp).1 rfl), blk_kept bO hk (fun hp => (hq _ hp).2.1 rfl), blk_kept bC hk (fun hp => (hq _ hp).2.2.1 rfl), blk_kept bL hk (fun hp => (hq _ hp).2.2.2.1 rfl), ⟨vF, blk_kept bF hk (fun hp => (hq _ hp).2.2.2.2 rfl), Kd.R_kept hF hk (fun _ hq => hq.1)⟩, hq⟩
theorem BestAt.start {b0 gJ gO gC gL gF : Nat} {AJ : Option Addr} {nJ cJ : Nat} {ob : Int} {P : Nat → Prop} {w w' : World} {cn le : Int}
    (h : w.heap[gJ]? = some (.cells #[.slice AJ nJ cJ] 26 (0, 0)) ∧ w.heap[gO]? = some (.cells #[.int .i64 ob] 3 (0, 0)) ∧ w.heap[gC]? = some (.cells #[.int .i64 cn] 3 (0, 0)) ∧ w.heap[gL]? = some (.cells #[.int .i64 le] 3 (0, 0)) ∧ w.heap[gF]? = some (.cells #[.slice none 0 0] 37 (0, 0)))
    (hP : ∀ q, P q → w.heap.size ≤ q) (hb : Below w.heap.size w w') : BestAt b0 gJ gO gC gL gF AJ nJ cJ ob P w' (cn, le, []) := by
  obtain ⟨bJ, bO, bC, bL, bF⟩ := h
  have ne : ∀ {g : Nat} {o : Obj}, w.heap[g]? = some o → ∀ q, P q → q ≠ g := fun hg q hp e_ => Nat.not_le.2 (blk_lt hg) (e_ ▸ hP q hp)
  exact ⟨blk_below bJ hb, blk_below bO hb, blk_below bC hb, blk_below bL hb, ⟨_, blk_below bF hb, Kd.R_nil _ _ _ _ _⟩, fun q hp => ⟨ne bJ q hp, ne bO q hp, ne bC q hp, ne bL q hp, ne bF q hp⟩⟩
/-! ### best: function 92 -/
def impl_best.T4 : Bool × List (List Nat × List Nat) := (true, [([], []), ([], []), ([], []), ([0, 0], [0]), ([1, 3, 0, 1, 3], [1]), ([2, 4, 0, 1, 2, 3, 4], [2])])
def impl_best.B4 : List Nat := [0, 0, 0, 1, 11, 31]
theorem impl_best.tab4 : rtab .any (opsOf Try.f92 4) = impl_best.T4 := by kernel_rfl
theorem impl_best.bits4 : waitsOk impl_best.T4.2 impl_best.B4 = true := by kernel_rfl
def impl_best.f (k : Nat) (l0 : List (S59)) (a1 : Int) : Option (List Int × Int × Int) := (eoF (fun k s o => impl_best_1.f k l0 a1 s o) k (l0.length : Int) (0, 0, ([] : List Int))).bind fun s => some (s.2.2, s.2.1, s.1)
theorem impl_best.mono : ∀ a0 a1 k, LeO (impl_best.f k a0 a1) (impl_best.f (k + 1) a0 a1) := fun a0 a1 k => LeO.bind (eoF_mono _ (fun k s o => impl_best_1.mono a0 a1 k s o) k _ _) (fun _ => LeO.refl _)
set_option maxHeartbeats 8000000 in
set_option maxRecDepth 100000 in
theorem impl_best.calls (k : Nat) (A0 : Option Addr) (c0 : Nat) (l0 : List (S59)) (a1 : Int) (r1 : List Int) (r2 : Int) (r3 : Int) (w : World) (hr0 : Kd.C k59 w A0 l0.length l0) (hc0 : l0.length ≤ c0) (h : impl_best.f k l0 a1 = some (r1, r2, r3)) :
  Calls Try.prog 92 #[.slice A0 l0.length c0, .int .i64 a1] w fun e w' => ∃ v0_ : Value, e = .returned (.tuple #[v0_, .int .i64 r2, .int .i64 r3]) ∧ Kd.R (Kd.int .i64) 3 w' w.heap.size (fun _ => True) v0_ r1 ∧ Below w.heap.size w w' := by
 have HR0 := Aside0.mk hr0
 have HC0 := Aside0.mk hc0
 clear hr0 hc0
 have HB := Aside0.mk (Below.refl w.heap.size w)
 obtain ⟨⟨cn, le, fi⟩, hs, h⟩ := Option.bind_eq_some_iff.mp h
 have HS := Aside0.mk hs
 clear hs
 obtain ⟨rfl, rfl, rfl⟩ : fi = r1 ∧ le = r2 ∧ cn = r3 := by simpa using h
 clear h
 go_enter Try.func92, Try.ntmps92
 go_wp2_with (first | ((with_reducible refine gate_dst (N := 2) rfl ?_); refine bE 2 #[.slice A0 l0.length c0] 26 ?_; intro g2 hg w2 hbox hb; have n0_ := Aside0.mk (below_step bB hb); have n1_ := Aside0.mk hbox; have n2_ := Aside0.mk ((by rw [hg]; exact (below_size bB) : w.heap.size ≤ g2)); clear HB ; have HB := n0_; have B2 := n1_; have G2 := n2_; clear n0_ n1_ n2_  hb hbox hg) | ((with_reducible refine gate_dst (N := 3) rfl ?_); refine bE 3 #[.int .i64 a1] 3 ?_; intro g3 hg w3 hbox hb; have n0_ := Aside0.mk (below_step bB hb); have n1_ := Aside0.mk hbox; have n2_ := Aside0.mk ((by rw [hg]; exact (below_size bB) : w.heap.size ≤ g3)); have m0_ := Aside0.mk (blk_below B2.out hb); have d2_3 := Aside0.mk (show g2 ≠ g3 by rw [hg]; exact Nat.ne_of_lt (blk_lt B2.out)); clear HB B2; have HB := n0_; have B3 := n1_; have G3 := n2_; have B2 := m0_; clear n0_ n1_ n2_ m0_ hb hbox hg) | ((with_reducible refine gate_dst (N := 7) rfl ?_); refine bE 7 #[.slice none 0 0] 37 ?_; intro g7 hg w7 hbox hb; have n0_ := Aside0.mk (below_step bB hb); have n1_ := Aside0.mk hbox; have n2_ := Aside0.mk ((by rw [hg]; exact (below_size bB) : w.heap.size ≤ g7)); have m0_ := Aside0.mk (blk_below B2.out hb); have d2_7 := Aside0.mk (show g2 ≠ g7 by rw [hg]; exact Nat.ne_of_lt (blk_lt B2.out)); have m1_ := Aside0.mk (blk_below B3.out hb); have d3_7 := Aside0.mk (show g3 ≠ g7 by rw [hg]; exact Nat.ne_of_lt (blk_lt B3.out)); clear HB B2 B3; have HB := n0_; have B7 := n1_; have G7 := n2_; have B2 := m0_; have B3 := m1_; clear n0_ n1_ n2_ m0_ m1_ hb hbox hg) | ((with_reducible refine gate_dst (N := 8) rfl ?_); refine bE 8 #[.int .i64 0] 3 ?_; intro g8 hg w8 hbox hb; have n0_ := Aside0.mk (below_step bB hb); have n1_ := Aside0.mk hbox; have n2_ := Aside0.mk ((by rw [hg]; exact (below_size bB) : w.heap.size ≤ g8)); have m0_ := Aside0.mk (blk_below B2.out hb); have d2_8 := Aside0.mk (show g2 ≠ g8 by rw [hg]; exact Nat.ne_of_lt (blk_lt B2.out)); have m1_ := Aside0.mk (blk_below B3.out hb); have d3_8 := Aside0.mk (show g3 ≠ g8 by rw [hg]; exact Nat.ne_of_lt (blk_lt B3.out)); have m2_ := Aside0.mk (blk_below B7.out hb); have d7_8 := Aside0.mk (show g7 ≠ g8 by rw [hg]; exact Nat.ne_of_lt (blk_lt B7.out)); clear HB B2 B3 B7; have HB := n0_; have B8 := n1_; have G8 := n2_; have B2 := m0_; have B3 := m1_; have B7 := m2_; clear n0_ n1_ n2_ m0_ m1_ m2_ hb hbox hg) | ((with_reducible refine gate_dst (N := 9) rfl ?_); refine bE 9 #[.int .i64 0] 3 ?_; intro g9 hg w9 hbox hb; have n0_ := Aside0.mk (below_step bB hb); have n1_ := Aside0.mk hbox; have n2_ := Aside0.mk ((by rw [hg]; exact (below_size bB) : w.heap.size ≤ g9)); have m0_ := Aside0.mk (blk_below B2.out hb); have d2_9 := Aside0.mk (show g2 ≠ g9 by rw [hg]; exact Nat.ne_of_lt (blk_lt B2.out)); have m1_ := Aside0.mk (blk_below B3.out hb); have d3_9 := Aside0.mk (show g3 ≠ g9 by rw [hg]; exact Nat.ne_of_lt (blk_lt B3.out)); have m2_ := Aside0.mk (blk_below B7.out hb); have d7_9 := Aside0.mk (show g7 ≠ g9 by rw [hg]; exact Nat.ne_of_lt (blk_lt B7.out)); have m3_ := Aside0.mk (blk_below B8.out hb); have d8_9 := Aside0.mk (show g8 ≠ g9 by rw [hg]; exact Nat.ne_of_lt (blk_lt B8.out)); clear HB B2 B3 B7 B8; have HB := n0_; have B9 := n1_; have G9 := n2_; have B2 := m0_; have B3 := m1_; have B7 := m2_; have B8 := m3_; clear n0_ n1_ n2_ m0_ m1_ m2_ m3_ hb hbox hg; have hx8 : w9.cell? ⟨g8, 0, none⟩ = some (.int .i64 0) := (blk_cell B8.out 0).trans rfl; have hf8 : w9.frozen? ⟨g8, 0, none⟩ = false := blk_frozen B8.out 0; have C9 := Aside0.mk (blk_far B9.out (p := ⟨g8, 0, none⟩) (Ne.symm d8_9.out) (.int .i64 0)); have hx9 : (w9.setCell ⟨g8, 0, none⟩ (.int .i64 0)).cell? ⟨g9, 0, none⟩ = some (.int .i64 0) := (blk_cell C9.out 0).trans rfl; have hf9 : (w9.setCell ⟨g8, 0, none⟩ (.int .i64 0)).frozen? ⟨g9, 0, none⟩ = false := blk_frozen C9.out 0; have D2 := Aside0.mk (blk_far (blk_far B2.out (p := ⟨g8, 0, none⟩) d2_8.out (.int .i64 0)) (p := ⟨g9, 0, none⟩) d2_9.out (.int .i64 0)); have hx2 : ((w9.setCell ⟨g8, 0, none⟩ (.int .i64 0)).setCell ⟨g9, 0, none⟩ (.int .i64 0)).cell? ⟨g2, 0, none⟩ = some (.slice A0 l0.length c0) := (blk_cell D2.out 0).trans rfl; have D3 := Aside0.mk (blk_far (blk_far B3.out (p := ⟨g8, 0, none⟩) d3_8.out (.int .i64 0)) (p := ⟨g9, 0, none⟩) d3_9.out (.int .i64 0)); have D7 := Aside0.mk (blk_far (blk_far B7.out (p := ⟨g8, 0, none⟩) d7_8.out (.int .i64 0)) (p := ⟨g9, 0, none⟩) d7_9.out (.int .i64 0)); have D8 := Aside0.mk (blk_far (blk_put B8.out 0 (.int .i64 0) rfl) (p := ⟨g9, 0, none⟩) d8_9.out (.int .i64 0)); have D9 := Aside0.mk (blk_put C9.out 0 (.int .i64 0) rfl); have HB2 := Aside0.mk (below_set (j := 0) (v := .int .i64 0) (below_set (j := 0) (v := .int .i64 0) HB.out G8.out) G9.out)) | (go_at_call 135; (refine (eo_calls_136 _ _ _ _ _ (fun k s o => impl_best_1.f k l0 a1 s o) (BestAt w.heap.size g2 g3 g9 g8 g7 A0 l0.length c0 a1) k _ (0, 0, []) (cn, le, fi) w _ HB2.out (fun P k' s s' w' A m c o hm hB' hP hI hC hc h => impl_best_1.step g2 g3 g9 g8 g7 A0 c0 l0 a1 w _ ⟨Ne.symm d8_9.out, Ne.symm d3_9.out, Ne.symm d3_8.out⟩ ⟨G9.out, G8.out, G7.out⟩ ⟨blk_lt D9.out, blk_lt D8.out, blk_lt D7.out⟩ HR0.out HC0.out P k' s s' w' A m c o hm hB' hP hI hC hc h) (fun P w' w'' s hI hk => BestAt.kept hI hk) (fun P w' hP hb => BestAt.start ⟨D2.out, D3.out, D9.out, D8.out, D7.out⟩ hP hb) HS.out).mono ?_); rintro e w10 ⟨rfl, hb, P, hI⟩; obtain ⟨_, _, bC, bL, ⟨vF, bF, hF⟩, _⟩ := hI; dsimp only at bC bL hF; (obtain ⟨AF, cF, eF⟩ := Kd.R_slice hF); subst eF; have hx7' : w10.cell? ⟨g7, 0, none⟩ = some (.slice AF fi.length cF) := (blk_cell bF 0).trans rfl; have hx8' : w10.cell? ⟨g8, 0, none⟩ = some (.int .i64 le) := (blk_cell bL 0).trans rfl; have hx9' : w10.cell? ⟨g9, 0, none⟩ = some (.int .i64 cn) := (blk_cell bC 0).trans rfl; have HF := Aside0.mk hF; have HB3 := Aside0.mk hb; clear bC bL bF hF hb))
 refine start_ (n := 6) (S := fun w' => w'.cell? ⟨g7, 0, none⟩ = some (.slice AF fi.length cF) ∧ w'.cell? ⟨g8, 0, none⟩ = some (.int .i64 le) ∧ w'.cell? ⟨g9, 0, none⟩ = some (.int .i64 cn)) (ds := []) (bA 6 0) (by kernel_rfl) rfl rfl ⟨hx7', hx8', hx9'⟩ (fun hHeld => ?_)
 refine with_tabW impl_best.tab4 impl_best.bits4 (fun HT_ HW_ => ?_)
 have n0_ := Aside0.mk (Kd.R_drew HF.out)
 have n1_ := Aside0.mk (below_drew1 HB3.out)
 clear HF HB3
 have HF := n0_
 have HB3 := n1_
 clear n0_ n1_
 generalize w10.drew = w11 at HF HB3 hHeld ⊢
 refine tU 0 14 (bA 6 1) ?_
 refine tU 1 15 (bA 6 3) ?_
 refine tU 2 16 (bA 6 7) ?_
 refine pU 3 4 (bA 6 15) ?_
 refine pU 4 5 (bA 6 31) ?_
 refine pU 5 6 (bA 6 63) ?_
 refine done_ (done_of HT_.out (by kernel_rfl)) ?_
 go_wp2
 go_ret3
 exact ⟨_, rfl, Kd.R_mono HF.out (fun _ _ => trivial), HB3.out⟩

/-! ### impl_CountBest: function 46 -/
def impl_CountBest.f (k : Nat) (l0 : List (S59)) (a1 : Int) : Option (Int × Bool) := (impl_IsJobs.f k l0).bind fun t245 => (if t245 = true then ((impl_isObjective.f a1).bind fun t246 => (if t246 = true then ((impl_best.f k l0 a1).bind fun bt247 => (some (bt247.2.2, true))) else (some (0, false)))) else (some (0, false)))
theorem impl_CountBest.mono : ∀ a0 a1 k, LeO (impl_CountBest.f k a0 a1) (impl_CountBest.f (k + 1) a0 a1) := by
 intro a0 a1 k
 unfold impl_CountBest.f
 repeat' first
   | (with_reducible exact impl_IsJobs.mono _ _)
   | (with_reducible exact impl_best.mono _ _ _)
   | (with_reducible exact LeO.refl _)
   | (with_reducible exact LeO.none _)
   | (with_reducible refine LeO.ite ?_ ?_)
   | (with_reducible refine LeO.bind ?_ (fun _ => ?_))
   | exact impl_IsJobs.mono _ _
   | exact impl_best.mono _ _ _
   | exact LeO.none _
   | refine LeO.ite ?_ ?_
   | refine LeO.bind ?_ (fun _ => ?_)
set_option maxHeartbeats 8000000 in
set_option maxRecDepth 100000 in
theorem impl_CountBest.calls (k : Nat) (A0 : Option Addr) (c0 : Nat) (l0 : List (S59)) (a1 : Int) (r1 : Int) (r2 : Bool) (w : World) (hr0 : Kd.C k59 w A0 l0.length l0) (hc0 : l0.length ≤ c0) (h : impl_CountBest.f k l0 a1 = some (r1, r2)) :
  Calls Try.prog 46 #[.slice A0 l0.length c0, .int .i64 a1] w fun e w' => e = .returned (.tuple #[.int .i64 r1, .bool r2]) ∧ Below w.heap.size w w' := by
 have HR0 := Aside0.mk hr0
 have HC0 := Aside0.mk hc0
 clear hr0 hc0
 have HB := Aside0.mk (Below.refl w.heap.size w)
 have H : ((impl_IsJobs.f k l0).bind fun t245 => (if t245 = true then ((impl_isObjective.f a1).bind fun t246 => (if t246 = true then ((impl_best.f k l0 a1).bind fun bt247 => (some (bt247.2.2, true))) else (some (0, false)))) else (some (0, false)))) = some (r1, r2) := h
 clear h
 replace H := Option.bind_eq_some_iff.mp H
 obtain ⟨t245, A30, H⟩ := H
 replace H : (if t245 = true then ((impl_isObjective.f a1).bind fun t246 => (if t246 = true then ((impl_best.f k l0 a1).bind fun bt247 => (some (bt247.2.2, true))) else (some (0, false)))) else (some (0, false))) = some (r1, r2) := H
 have A3 := Aside0.mk A30
 clear A30
 by_cases c4 : t245 = true
 ·subst c4
  have H1 : ((impl_isObjective.f a1).bind fun t246 => (if t246 = true then ((impl_best.f k l0 a1).bind fun bt247 => (some (bt247.2.2, true))) else (some (0, false)))) = some (r1, r2) := by rw [if_pos rfl] at H; exact H
  clear H
  have H := H1
  clear H1
  replace H := Option.bind_eq_some_iff.mp H
  obtain ⟨t246, A50, H⟩ := H
  replace H : (if t246 = true then ((impl_best.f k l0 a1).bind fun bt247 => (some (bt247.2.2, true))) else (some (0, false))) = some (r1, r2) := H
  have A5 := Aside0.mk A50
  clear A50
  by_cases c6 : t246 = true
  ·subst c6
   have H1 : ((impl_best.f k l0 a1).bind fun bt247 => (some (bt247.2.2, true))) = some (r1, r2) := by rw [if_pos rfl] at H; exact H
   clear H
   have H := H1
   clear H1
   replace H := Option.bind_eq_some_iff.mp H
   obtain ⟨⟨t247, t248, t249⟩, A70, H⟩ := H
   replace H : (some (t249, true)) = some (r1, r2) := H
   have A7 := Aside0.mk A70
   clear A70
   simp only [Option.some.injEq, Prod.mk.injEq] at H
   obtain ⟨rfl, rfl⟩ := H
   go_enter Try.func46, Try.ntmps46
   go_wp2_with (first | ((with_reducible refine gate_callee (f := 77) rfl ?_); refine goesL_ (some 10) rfl rfl Try.func77 (by kernel_rfl) rfl #[.slice A0 l0.length c0] rfl aE ?_; (with_reducible refine (impl_IsJobs.calls k _ _ l0 true _ ?side1 ?side2 A3.out).mono ?_); (case side1 => repeat (first | exact HR0.out | (with_reducible refine Kd.C_alloc ?_ _) | (with_reducible refine Kd.C_drewN ?_ _) | (with_reducible refine Kd.C_drew ?_))); (case side2 => exact HC0.out); rintro e w8 ⟨rfl, hb⟩; refine ⟨_, rfl, ?_⟩; have n0_ := Aside0.mk (below_step bB hb); clear HB; have HB := n0_; clear n0_; (try clear hb); (try clear hb2); (try clear hk); (try clear hi)) | (go_at_call 79; (with_reducible refine (impl_isObjective.calls a1 true _ A5.out).mono ?_); rintro e w' ⟨rfl, ⟨nd, rfl⟩⟩) | ((with_reducible refine gate_callee (f := 92) rfl ?_); refine goesL_ (some 20) rfl rfl Try.func92 (by kernel_rfl) rfl #[.slice A0 l0.length c0, .int .i64 a1] rfl aE ?_; (with_reducible refine (impl_best.calls k _ _ l0 a1 t247 t248 t249 _ ?side1 ?side2 A7.out).mono ?_); (case side1 => repeat (first | exact (Kd.C_below HR0.out bB) | (with_reducible refine Kd.C_alloc ?_ _) | (with_reducible refine Kd.C_drewN ?_ _) | (with_reducible refine Kd.C_drew ?_))); (case side2 => exact HC0.out); rintro e w9 ⟨v250, rfl, ho0, hb⟩; refine ⟨_, rfl, ?_⟩; have n0_ := Aside0.mk (Kd.R_lower ho0 (below_size bB)); have n1_ := Aside0.mk (below_step bB hb); clear HB; have HO251 := n0_; have HB := n1_; clear n0_ n1_; (try clear hb); (try clear hb2); (try clear hk); (try clear hi); (try clear ho0)))
   go_ret2
   exact ⟨rE, bB⟩
  ·replace c6 := Bool.eq_false_iff.mpr c6
   subst c6
   have H1 : (some (0, false)) = some (r1, r2) := by rw [if_neg (show ¬ (false = true) by decide)] at H; exact H
   clear H
   have H := H1
   clear H1
   simp only [Option.some.injEq, Prod.mk.injEq] at H
   obtain ⟨rfl, rfl⟩ := H
   go_enter Try.func46, Try.ntmps46
   go_wp2_with (first | ((with_reducible refine gate_callee (f := 77) rfl ?_); refine goesL_ (some 10) rfl rfl Try.func77 (by kernel_rfl) rfl #[.slice A0 l0.length c0] rfl aE ?_; (with_reducible refine (impl_IsJobs.calls k _ _ l0 true _ ?side1 ?side2 A3.out).mono ?_); (case side1 => repeat (first | exact HR0.out | (with_reducible refine Kd.C_alloc ?_ _) | (with_reducible refine Kd.C_drewN ?_ _) | (with_reducible refine Kd.C_drew ?_))); (case side2 => exact HC0.out); rintro e w10 ⟨rfl, hb⟩; refine ⟨_, rfl, ?_⟩; have n0_ := Aside0.mk (below_step bB hb); clear HB; have HB := n0_; clear n0_; (try clear hb); (try clear hb2); (try clear hk); (try clear hi)) | (go_at_call 79; (with_reducible refine (impl_isObjective.calls a1 false _ A5.out).mono ?_); rintro e w' ⟨rfl, ⟨nd, rfl⟩⟩))
   go_ret2
   exact ⟨rE, bB⟩
 ·replace c4 := Bool.eq_false_iff.mpr c4
  subst c4
  have H1 : (some (0, false)) = some (r1, r2) := by rw [if_neg (show ¬ (false = true) by decide)] at H; exact H
  clear H
  have H := H1
  clear H1
  simp only [Option.some.injEq, Prod.mk.injEq] at H
  obtain ⟨rfl, rfl⟩ := H
  go_enter Try.func46, Try.ntmps46
  go_wp2_with (first | ((with_reducible refine gate_callee (f := 77) rfl ?_); refine goesL_ (some 10) rfl rfl Try.func77 (by kernel_rfl) rfl #[.slice A0 l0.length c0] rfl aE ?_; (with_reducible refine (impl_IsJobs.calls k _ _ l0 false _ ?side1 ?side2 A3.out).mono ?_); (case side1 => repeat (first | exact HR0.out | (with_reducible refine Kd.C_alloc ?_ _) | (with_reducible refine Kd.C_drewN ?_ _) | (with_reducible refine Kd.C_drew ?_))); (case side2 => exact HC0.out); rintro e w11 ⟨rfl, hb⟩; refine ⟨_, rfl, ?_⟩; have n0_ := Aside0.mk (below_step bB hb); clear HB; have HB := n0_; clear n0_; (try clear hb); (try clear hb2); (try clear hk); (try clear hi)))
  go_ret2
  exact ⟨rE, bB⟩

end Go.Proofs.Ythhmembnhnghiaa.OFnExactCountBest
