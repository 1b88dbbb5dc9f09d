/- Functions of the program as plain Lean functions, with their contracts: written by this session's program ownprint.py. Conditions: none. -/
import Derived.Test.YthhmembnhnghiaaOFnExactTieGroupsx0
namespace Go.Proofs.Ythhmembnhnghiaa.OFnExactTieGroups
open Go.RowKit Go.Proofs.YthhmembnhnghiaaW.PrintWords Go.Proofs.YthhmembnhnghiaaW.PrintLast Go.Proofs.YthhmembnhnghiaaW.PrintMore
attribute [local go_sem] max2_int min2_int max_two min_two max_three min_three max_four min_four   -- for this text's walks alone
set_option linter.unusedVariables false
set_option linter.unusedSimpArgs false

/-! ### spec_l3Gap: function 119 -/
def spec_l3Gap.f (l0 : List (S59)) (a1 : Int) (a2 : Int) (a3 : Int) : Option (Int) := if 0 ≤ a2 then (if a2 < (l0.length : Int) then (if 0 ≤ a3 then (if a3 < (l0.length : Int) then (if a1 = 1 then (some (wrap64 (((rd_T59 l0 a2).f2) - ((rd_T59 l0 a3).f2)))) else (if a1 = 2 then (some (wrap64 (((rd_T59 l0 a2).f0) - ((rd_T59 l0 a3).f0)))) else (if a1 = 3 then (some (wrap64 ((wrap64 (((rd_T59 l0 a2).f0) * ((rd_T59 l0 a3).f1))) - (wrap64 (((rd_T59 l0 a3).f0) * ((rd_T59 l0 a2).f1)))))) else (some (wrap64 (((rd_T59 l0 a2).f3) - ((rd_T59 l0 a3).f3))))))) else (none)) else (none)) else (none)) else (none)
def spec_l3Gap.T1 : Bool × List (List Nat × List Nat) := (true, [([], []), ([], []), ([0, 1], [0, 1]), ([2], [2]), ([], []), ([], []), ([4, 5], [4, 5]), ([6], [6]), ([], []), ([], []), ([8, 3, 0, 1, 2, 3, 8, 9], [3, 8]), ([9, 7, 10, 0, 1, 2, 3, 4, 5, 6, 7, 8, 9, 10], [7, 9])])
def spec_l3Gap.B1 : List Nat := [0, 0, 3, 7, 0, 0, 48, 112, 0, 0, 783, 2047]
theorem spec_l3Gap.tab1 : rtab .any (opsOf Try.f119 1) = spec_l3Gap.T1 := by kernel_rfl
theorem spec_l3Gap.bits1 : waitsOk spec_l3Gap.T1.2 spec_l3Gap.B1 = true := by kernel_rfl
set_option maxHeartbeats 8000000 in
set_option maxRecDepth 100000 in
theorem spec_l3Gap.calls (A0 : Option Addr) (c0 : Nat) (l0 : List (S59)) (a1 : Int) (a2 : Int) (a3 : Int) (r : Int) (w : World) (hr0 : Kd.C k59 w A0 l0.length l0) (hc0 : l0.length ≤ c0) (h : spec_l3Gap.f l0 a1 a2 a3 = some r) :
  Calls Try.prog 119 #[.slice A0 l0.length c0, .int .i64 a1, .int .i64 a2, .int .i64 a3] w fun e w' => e = .returned (.int .i64 r) ∧ Below w.heap.size w w' := by
 have hu59 := Try.underlying59
 have HR0 := Aside0.mk hr0
 have HC0 := Aside0.mk hc0
 clear hr0 hc0
 have HB := Aside0.mk (Below.refl w.heap.size w)
 have H : (if 0 ≤ a2 then (if a2 < (l0.length : Int) then (if 0 ≤ a3 then (if a3 < (l0.length : Int) then (if a1 = 1 then (some (wrap64 (((rd_T59 l0 a2).f2) - ((rd_T59 l0 a3).f2)))) else (if a1 = 2 then (some (wrap64 (((rd_T59 l0 a2).f0) - ((rd_T59 l0 a3).f0)))) else (if a1 = 3 then (some (wrap64 ((wrap64 (((rd_T59 l0 a2).f0) * ((rd_T59 l0 a3).f1))) - (wrap64 (((rd_T59 l0 a3).f0) * ((rd_T59 l0 a2).f1)))))) else (some (wrap64 (((rd_T59 l0 a2).f3) - ((rd_T59 l0 a3).f3))))))) else (none)) else (none)) else (none)) else (none)) = some r := h
 clear h
 by_cases c5 : 0 ≤ a2; rotate_left
 ·rw [if_neg c5] at H; exact absurd H (by simp)
 rw [if_pos c5] at H
 have c5b0 : decide (0 ≤ a2) = true := decide_eq_true c5
 clear c5
 by_cases c6 : a2 < (l0.length : Int); rotate_left
 ·rw [if_neg c6] at H; exact absurd H (by simp)
 rw [if_pos c6] at H
 have c6b0 : decide (a2 < (l0.length : Int)) = true := decide_eq_true c6
 clear c6
 by_cases c7 : 0 ≤ a3; rotate_left
 ·rw [if_neg c7] at H; exact absurd H (by simp)
 rw [if_pos c7] at H
 have c7b0 : decide (0 ≤ a3) = true := decide_eq_true c7
 clear c7
 by_cases c8 : a3 < (l0.length : Int); rotate_left
 ·rw [if_neg c8] at H; exact absurd H (by simp)
 rw [if_pos c8] at H
 have c8b0 : decide (a3 < (l0.length : Int)) = true := decide_eq_true c8
 clear c8
 by_cases c9 : a1 = 1
 ·rw [if_pos c9] at H
  have c9b0 : (a1 == 1) = true := beq_iff_eq.mpr c9
  have c9b1 : (a1 != 1) = false := bne_eq_false_iff_eq.mpr c9
  clear c9
  obtain rfl := Option.some.inj H
  go_enter Try.func119, Try.ntmps119
  try go_wp2
  have n0_ := Aside0.mk (below_drew1 HB.out)
  clear HB
  have HB := n0_
  clear n0_
  have p129 : 0 ≤ (a2 : Int) := oD
  have q129 : a2 < (l0.length : Int) := oD
  obtain ⟨ad129, e129, hx129_0, hx129_1, hx129_2, hx129_3⟩ := at_T59 HR0.out a2 p129 q129
  have hw129_3 := hx129_3
  have hw129_2 := hx129_2
  have hw129_1 := hx129_1
  have hw129_0 := hx129_0
  cases e129
  replace hx129_0 := (cB HB.out hx129_0 :)
  replace hx129_1 := (cB HB.out hx129_1 :)
  replace hx129_2 := (cB HB.out hx129_2 :)
  replace hx129_3 := (cB HB.out hx129_3 :)
  replace p129 := eq_true p129
  replace q129 := eq_true q129
  have p130 : 0 ≤ (a3 : Int) := oD
  have q130 : a3 < (l0.length : Int) := oD
  obtain ⟨ad130, e130, hx130_0, hx130_1, hx130_2, hx130_3⟩ := at_T59 HR0.out a3 p130 q130
  have hw130_3 := hx130_3
  have hw130_2 := hx130_2
  have hw130_1 := hx130_1
  have hw130_0 := hx130_0
  obtain rfl : ad129 = ad130 := (by injection e130)
  replace hx130_0 := (cB HB.out hx130_0 :)
  replace hx130_1 := (cB HB.out hx130_1 :)
  replace hx130_2 := (cB HB.out hx130_2 :)
  replace hx130_3 := (cB HB.out hx130_3 :)
  replace p130 := eq_true p130
  replace q130 := eq_true q130
  refine start_ (n := 12) (S := fun w' => w'.cell? (ad129.add ((a2).toNat * 4)) = some (.int .i64 ((rd_T59 l0 a2).f0)) ∧ w'.cell? ⟨(ad129.add ((a2).toNat * 4)).block, (ad129.add ((a2).toNat * 4)).off + 1, none⟩ = some (.int .i64 ((rd_T59 l0 a2).f1)) ∧ w'.cell? ⟨(ad129.add ((a2).toNat * 4)).block, (ad129.add ((a2).toNat * 4)).off + 2, none⟩ = some (.int .i64 ((rd_T59 l0 a2).f2)) ∧ w'.cell? ⟨(ad129.add ((a2).toNat * 4)).block, (ad129.add ((a2).toNat * 4)).off + 3, none⟩ = some (.int .i64 ((rd_T59 l0 a2).f3)) ∧ w'.cell? (ad129.add ((a3).toNat * 4)) = some (.int .i64 ((rd_T59 l0 a3).f0)) ∧ w'.cell? ⟨(ad129.add ((a3).toNat * 4)).block, (ad129.add ((a3).toNat * 4)).off + 1, none⟩ = some (.int .i64 ((rd_T59 l0 a3).f1)) ∧ w'.cell? ⟨(ad129.add ((a3).toNat * 4)).block, (ad129.add ((a3).toNat * 4)).off + 2, none⟩ = some (.int .i64 ((rd_T59 l0 a3).f2)) ∧ w'.cell? ⟨(ad129.add ((a3).toNat * 4)).block, (ad129.add ((a3).toNat * 4)).off + 3, none⟩ = some (.int .i64 ((rd_T59 l0 a3).f3))) (ds := []) (bA 12 0) (by kernel_rfl) rfl rfl ⟨(cB HB.out hw129_0 :), (cB HB.out hw129_1 :), (cB HB.out hw129_2 :), (cB HB.out hw129_3 :), (cB HB.out hw130_0 :), (cB HB.out hw130_1 :), (cB HB.out hw130_2 :), (cB HB.out hw130_3 :)⟩ (fun hHeld => ?_); refine with_tabW spec_l3Gap.tab1 spec_l3Gap.bits1 (fun HT_ HW_ => ?_)
  generalize w.drew = w10 at HB hx129_0 hx129_1 hx129_2 hx129_3 hx130_0 hx130_1 hx130_2 hx130_3 hHeld ⊢
  refine pU 0 11 (bA 12 1) ?_
  refine pU 1 12 (bA 12 3) ?_
  refine pU 2 13 (bA 12 7) ?_
  refine pU 4 15 (bA 12 23) ?_
  refine pU 5 16 (bA 12 55) ?_
  refine pU 6 17 (bA 12 119) ?_
  refine tU 3 14 (bA 12 127) ?_
  refine tU 7 18 (bA 12 255) ?_
  refine join_ (σ := Nat × Nat) 2 (bA 12 1023) (fun s_ => [(9, .pointer (some ⟨s_.1, 0, none⟩)), (10, .pointer (some ⟨s_.2, 0, none⟩))]) (fun s_ w' => (w'.cell? (ad129.add ((a2).toNat * 4)) = some (.int .i64 ((rd_T59 l0 a2).f0)) ∧ w'.cell? ⟨(ad129.add ((a2).toNat * 4)).block, (ad129.add ((a2).toNat * 4)).off + 1, none⟩ = some (.int .i64 ((rd_T59 l0 a2).f1)) ∧ w'.cell? ⟨(ad129.add ((a2).toNat * 4)).block, (ad129.add ((a2).toNat * 4)).off + 2, none⟩ = some (.int .i64 ((rd_T59 l0 a2).f2)) ∧ w'.cell? ⟨(ad129.add ((a2).toNat * 4)).block, (ad129.add ((a2).toNat * 4)).off + 3, none⟩ = some (.int .i64 ((rd_T59 l0 a2).f3)) ∧ w'.cell? (ad129.add ((a3).toNat * 4)) = some (.int .i64 ((rd_T59 l0 a3).f0)) ∧ w'.cell? ⟨(ad129.add ((a3).toNat * 4)).block, (ad129.add ((a3).toNat * 4)).off + 1, none⟩ = some (.int .i64 ((rd_T59 l0 a3).f1)) ∧ w'.cell? ⟨(ad129.add ((a3).toNat * 4)).block, (ad129.add ((a3).toNat * 4)).off + 2, none⟩ = some (.int .i64 ((rd_T59 l0 a3).f2)) ∧ w'.cell? ⟨(ad129.add ((a3).toNat * 4)).block, (ad129.add ((a3).toNat * 4)).off + 3, none⟩ = some (.int .i64 ((rd_T59 l0 a3).f3))) ∧ (w'.heap[s_.1]? = some (.cells #[.int .i64 0, .int .i64 0, .int .i64 0, .int .i64 0] 59 (0, 0))) ∧ (w'.heap[s_.2]? = some (.cells #[.int .i64 0, .int .i64 0, .int .i64 0, .int .i64 0] 59 (0, 0))) ∧ (w.heap.size ≤ s_.1) ∧ (w.heap.size ≤ s_.1) ∧ (s_.2 ≠ s_.1) ∧ (s_.1 ≠ s_.2) ∧ (w.heap.size ≤ s_.2) ∧ (w.heap.size ≤ s_.2) ∧ (Below w.heap.size w w')) ?_ ?_
  rotate_left
  ·intro hCont
   refine two_ (i := 8) (j := 9) (Ni := some 9) (Nj := some 10) (bA 12 511) (bA 12 767) rfl rfl rfl rfl (two_of HT_.out (by kernel_rfl)) (by decide) (by decide) (fun K hK => ?_) (fun K hK => ?_)
   ·skip
    refine box_step ?hg (N := 9) ?hd (cs := #[.int .i64 0, .int .i64 0, .int .i64 0, .int .i64 0]) (t := 59) ?hr ?_; (case hd => rfl); (case hg => rfl); (case hr => first | (go_simp; done) | (go_simp; rfl))
    intro gb131 hg w11 hbox hb
    have n0_ := Aside0.mk (below_step bB hb)
    have n1_ := Aside0.mk (hbox)
    have n2_ := Aside0.mk ((by rw [hg]; exact (below_size bB) : w.heap.size ≤ gb131))
    have n3_ := Aside0.mk ((by rw [hg]; exact (below_size bB) : w.heap.size ≤ gb131))
    clear HB
    have HB := n0_
    have BK131 := n1_
    have GW131 := n2_
    have GE131 := n3_
    clear n0_ n1_ n2_ n3_
    clear hb hbox hg
    refine hK.out _ _ ⟨(cB HB.out hw129_0 :), (cB HB.out hw129_1 :), (cB HB.out hw129_2 :), (cB HB.out hw129_3 :), (cB HB.out hw130_0 :), (cB HB.out hw130_1 :), (cB HB.out hw130_2 :), (cB HB.out hw130_3 :)⟩ (fun hHeld => ?_)
    clear hK K
    refine norm_ (a' := ?_) ?_ ?_
    rotate_left
    ·show Act.put _ (some 9) _ = _
     simp only [Act.put, sA, sZ, sS, i64_w, i32_w]
     rfl
    refine one_ (i := 9) (N := some 10) (bA 12 1023) rfl rfl (one_of HT_.out (by kernel_rfl)) (by decide) (fun K hK => ?_)
    refine box_step ?hg (N := 10) ?hd (cs := #[.int .i64 0, .int .i64 0, .int .i64 0, .int .i64 0]) (t := 59) ?hr ?_; (case hd => rfl); (case hg => rfl); (case hr => first | (go_simp; done) | (go_simp; rfl))
    intro gb132 hg w12 hbox hb
    have n0_ := Aside0.mk (blk_below (g := gb131) (o := .cells #[.int .i64 0, .int .i64 0, .int .i64 0, .int .i64 0] 59 (0, 0)) kB hb)
    have n1_ := Aside0.mk (below_step bS hb)
    have n2_ := Aside0.mk (hbox)
    have n3_ := Aside0.mk ((by rw [hg]; exact (below_size bS) : w.heap.size ≤ gb132))
    have n4_ := Aside0.mk ((by rw [hg]; exact (below_size bS) : w.heap.size ≤ gb132))
    have n5_ := Aside0.mk ((by rw [hg]; exact Nat.ne_of_lt (blk_lt (g := gb131) (o := .cells #[.int .i64 0, .int .i64 0, .int .i64 0, .int .i64 0] 59 (0, 0)) kB) : gb131 ≠ gb132))
    have n6_ := Aside0.mk ((by rw [hg]; exact Nat.ne_of_gt (blk_lt (g := gb131) (o := .cells #[.int .i64 0, .int .i64 0, .int .i64 0, .int .i64 0] 59 (0, 0)) kB) : gb132 ≠ gb131))
    clear BK131
    clear HB
    have BK131 := n0_
    have HB := n1_
    have BK132 := n2_
    have GW132 := n3_
    have GE132 := n4_
    have NB131_132 := n5_
    have NB132_131 := n6_
    clear n0_ n1_ n2_ n3_ n4_ n5_ n6_
    clear hb hbox hg
    refine hK.out _ _ ⟨(cB HB.out hw129_0 :), (cB HB.out hw129_1 :), (cB HB.out hw129_2 :), (cB HB.out hw129_3 :), (cB HB.out hw130_0 :), (cB HB.out hw130_1 :), (cB HB.out hw130_2 :), (cB HB.out hw130_3 :)⟩ (fun hHeld => ?_)
    clear hK K
    refine norm_ (a' := ?_) ?_ ?_
    rotate_left
    ·show Act.put _ (some 10) _ = _
     simp only [Act.put, sA, sZ, sS, i64_w, i32_w]
     rfl
    exact norm_ (by simp only [putAll, Act.put, sA, sZ, sS]) (hCont (gb131, gb132) _ ⟨hHeld, kB, kB, GW131.out, GE131.out, NB132_131.out, NB131_132.out, GW132.out, GE132.out, bS⟩)
   ·skip
    refine box_step ?hg (N := 10) ?hd (cs := #[.int .i64 0, .int .i64 0, .int .i64 0, .int .i64 0]) (t := 59) ?hr ?_; (case hd => rfl); (case hg => rfl); (case hr => first | (go_simp; done) | (go_simp; rfl))
    intro gb132 hg w11 hbox hb
    have n0_ := Aside0.mk (below_step bB hb)
    have n1_ := Aside0.mk (hbox)
    have n2_ := Aside0.mk ((by rw [hg]; exact (below_size bB) : w.heap.size ≤ gb132))
    have n3_ := Aside0.mk ((by rw [hg]; exact (below_size bB) : w.heap.size ≤ gb132))
    clear HB
    have HB := n0_
    have BK132 := n1_
    have GW132 := n2_
    have GE132 := n3_
    clear n0_ n1_ n2_ n3_
    clear hb hbox hg
    refine hK.out _ _ ⟨(cB HB.out hw129_0 :), (cB HB.out hw129_1 :), (cB HB.out hw129_2 :), (cB HB.out hw129_3 :), (cB HB.out hw130_0 :), (cB HB.out hw130_1 :), (cB HB.out hw130_2 :), (cB HB.out hw130_3 :)⟩ (fun hHeld => ?_)
    clear hK K
    refine norm_ (a' := ?_) ?_ ?_
    rotate_left
    ·show Act.put _ (some 10) _ = _
     simp only [Act.put, sA, sZ, sS, i64_w, i32_w]
     rfl
    refine one_ (i := 8) (N := some 9) (bA 12 1023) rfl rfl (one_of HT_.out (by kernel_rfl)) (by decide) (fun K hK => ?_)
    refine box_step ?hg (N := 9) ?hd (cs := #[.int .i64 0, .int .i64 0, .int .i64 0, .int .i64 0]) (t := 59) ?hr ?_; (case hd => rfl); (case hg => rfl); (case hr => first | (go_simp; done) | (go_simp; rfl))
    intro gb131 hg w12 hbox hb
    have n0_ := Aside0.mk (blk_below (g := gb132) (o := .cells #[.int .i64 0, .int .i64 0, .int .i64 0, .int .i64 0] 59 (0, 0)) kB hb)
    have n1_ := Aside0.mk (below_step bS hb)
    have n2_ := Aside0.mk (hbox)
    have n3_ := Aside0.mk ((by rw [hg]; exact (below_size bS) : w.heap.size ≤ gb131))
    have n4_ := Aside0.mk ((by rw [hg]; exact (below_size bS) : w.heap.size ≤ gb131))
    have n5_ := Aside0.mk ((by rw [hg]; exact Nat.ne_of_lt (blk_lt (g := gb132) (o := .cells #[.int .i64 0, .int .i64 0, .int .i64 0, .int .i64 0] 59 (0, 0)) kB) : gb132 ≠ gb131))
    have n6_ := Aside0.mk ((by rw [hg]; exact Nat.ne_of_gt (blk_lt (g := gb132) (o := .cells #[.int .i64 0, .int .i64 0, .int .i64 0, .int .i64 0] 59 (0, 0)) kB) : gb131 ≠ gb132))
    clear BK132
    clear HB
    have BK132 := n0_
    have HB := n1_
    have BK131 := n2_
    have GW131 := n3_
    have GE131 := n4_
    have NB132_131 := n5_
    have NB131_132 := n6_
    clear n0_ n1_ n2_ n3_ n4_ n5_ n6_
    clear hb hbox hg
    refine hK.out _ _ ⟨(cB HB.out hw129_0 :), (cB HB.out hw129_1 :), (cB HB.out hw129_2 :), (cB HB.out hw129_3 :), (cB HB.out hw130_0 :), (cB HB.out hw130_1 :), (cB HB.out hw130_2 :), (cB HB.out hw130_3 :)⟩ (fun hHeld => ?_)
    clear hK K
    refine norm_ (a' := ?_) ?_ ?_
    rotate_left
    ·show Act.put _ (some 9) _ = _
     simp only [Act.put, sA, sZ, sS, i64_w, i32_w]
     rfl
    exact norm_ (by simp only [putAll, Act.put, sA, sZ, sS]) (hCont (gb131, gb132) _ ⟨hHeld, kB, kB, GW131.out, GE131.out, NB132_131.out, NB131_132.out, GW132.out, GE132.out, bS⟩)
  rintro ⟨gb131, gb132⟩ w13 ⟨hS_, h0_, h1_, h2_, h3_, h4_, h5_, h6_, h7_, h8_⟩
  have n0_ : Aside0 (w13.heap[gb131]? = some (.cells #[.int .i64 0, .int .i64 0, .int .i64 0, .int .i64 0] 59 (0, 0))) := ⟨h0_⟩
  have n1_ : Aside0 (w13.heap[gb132]? = some (.cells #[.int .i64 0, .int .i64 0, .int .i64 0, .int .i64 0] 59 (0, 0))) := ⟨h1_⟩
  have n2_ : Aside0 (w.heap.size ≤ gb131) := ⟨h2_⟩
  have n3_ : Aside0 (w.heap.size ≤ gb131) := ⟨h3_⟩
  have n4_ : Aside0 (gb132 ≠ gb131) := ⟨h4_⟩
  have n5_ : Aside0 (gb131 ≠ gb132) := ⟨h5_⟩
  have n6_ : Aside0 (w.heap.size ≤ gb132) := ⟨h6_⟩
  have n7_ : Aside0 (w.heap.size ≤ gb132) := ⟨h7_⟩
  have n8_ : Aside0 (Below w.heap.size w w13) := ⟨h8_⟩
  clear HB
  clear h0_ h1_ h2_ h3_ h4_ h5_ h6_ h7_ h8_
  have BK131 := n0_
  have BK132 := n1_
  have GW131 := n2_
  have GE131 := n3_
  have NB132_131 := n4_
  have NB131_132 := n5_
  have GW132 := n6_
  have GE132 := n7_
  have HB := n8_
  clear n0_ n1_ n2_ n3_ n4_ n5_ n6_ n7_ n8_
  have hHeld : w13.cell? (ad129.add ((a2).toNat * 4)) = some (.int .i64 ((rd_T59 l0 a2).f0)) ∧ w13.cell? ⟨(ad129.add ((a2).toNat * 4)).block, (ad129.add ((a2).toNat * 4)).off + 1, none⟩ = some (.int .i64 ((rd_T59 l0 a2).f1)) ∧ w13.cell? ⟨(ad129.add ((a2).toNat * 4)).block, (ad129.add ((a2).toNat * 4)).off + 2, none⟩ = some (.int .i64 ((rd_T59 l0 a2).f2)) ∧ w13.cell? ⟨(ad129.add ((a2).toNat * 4)).block, (ad129.add ((a2).toNat * 4)).off + 3, none⟩ = some (.int .i64 ((rd_T59 l0 a2).f3)) ∧ w13.cell? (ad129.add ((a3).toNat * 4)) = some (.int .i64 ((rd_T59 l0 a3).f0)) ∧ w13.cell? ⟨(ad129.add ((a3).toNat * 4)).block, (ad129.add ((a3).toNat * 4)).off + 1, none⟩ = some (.int .i64 ((rd_T59 l0 a3).f1)) ∧ w13.cell? ⟨(ad129.add ((a3).toNat * 4)).block, (ad129.add ((a3).toNat * 4)).off + 2, none⟩ = some (.int .i64 ((rd_T59 l0 a3).f2)) ∧ w13.cell? ⟨(ad129.add ((a3).toNat * 4)).block, (ad129.add ((a3).toNat * 4)).off + 3, none⟩ = some (.int .i64 ((rd_T59 l0 a3).f3)) := hS_
  refine norm_ (a' := ?_) ?_ ?_
  rotate_left
  ·simp only [putAll, Act.put, sA, sZ, sS]
   rfl
  refine one_ (i := 10) (N := none) (bA 12 2047) rfl rfl (one_of HT_.out (by kernel_rfl)) (by decide) (fun K hK => ?_)
  have hs14 : w13.cell? ⟨gb131, 0, none⟩ = some (.int .i64 0) := (blk_cell BK131.out 0).trans rfl
  have hfs14 := blk_frozen BK131.out 0
  have hns14_1 := NB132_131.out
  have hms14_1 := NB131_132.out
  have hs15 : w13.cell? ⟨gb131, 1, none⟩ = some (.int .i64 0) := (blk_cell BK131.out 1).trans rfl
  have hfs15 := blk_frozen BK131.out 1
  have hns15_1 := NB132_131.out
  have hms15_1 := NB131_132.out
  have hs16 : w13.cell? ⟨gb131, 2, none⟩ = some (.int .i64 0) := (blk_cell BK131.out 2).trans rfl
  have hfs16 := blk_frozen BK131.out 2
  have hns16_1 := NB132_131.out
  have hms16_1 := NB131_132.out
  have hs17 : w13.cell? ⟨gb131, 3, none⟩ = some (.int .i64 0) := (blk_cell BK131.out 3).trans rfl
  have hfs17 := blk_frozen BK131.out 3
  have hns17_1 := NB132_131.out
  have hms17_1 := NB131_132.out
  refine skip_ (w1 := ?_) (by rfl) rfl ?_ ?_
  rotate_left
  ·go_simp
   rfl
  refine hK.out _ _ ⟨((cell_far (p := ⟨gb131, _, none⟩) (nB hw129_0 GW131.out) _).trans (((cell_far (p := ⟨gb131, _, none⟩) (nB hw129_0 GW131.out) _).trans (((cell_far (p := ⟨gb131, _, none⟩) (nB hw129_0 GW131.out) _).trans (((cell_far (p := ⟨gb131, _, none⟩) (nB hw129_0 GW131.out) _).trans (hHeld.1)))))))), ((cell_far (p := ⟨gb131, _, none⟩) (nB hw129_1 GW131.out) _).trans (((cell_far (p := ⟨gb131, _, none⟩) (nB hw129_1 GW131.out) _).trans (((cell_far (p := ⟨gb131, _, none⟩) (nB hw129_1 GW131.out) _).trans (((cell_far (p := ⟨gb131, _, none⟩) (nB hw129_1 GW131.out) _).trans (hHeld.2.1)))))))), ((cell_far (p := ⟨gb131, _, none⟩) (nB hw129_2 GW131.out) _).trans (((cell_far (p := ⟨gb131, _, none⟩) (nB hw129_2 GW131.out) _).trans (((cell_far (p := ⟨gb131, _, none⟩) (nB hw129_2 GW131.out) _).trans (((cell_far (p := ⟨gb131, _, none⟩) (nB hw129_2 GW131.out) _).trans (hHeld.2.2.1)))))))), ((cell_far (p := ⟨gb131, _, none⟩) (nB hw129_3 GW131.out) _).trans (((cell_far (p := ⟨gb131, _, none⟩) (nB hw129_3 GW131.out) _).trans (((cell_far (p := ⟨gb131, _, none⟩) (nB hw129_3 GW131.out) _).trans (((cell_far (p := ⟨gb131, _, none⟩) (nB hw129_3 GW131.out) _).trans (hHeld.2.2.2.1)))))))), ((cell_far (p := ⟨gb131, _, none⟩) (nB hw130_0 GW131.out) _).trans (((cell_far (p := ⟨gb131, _, none⟩) (nB hw130_0 GW131.out) _).trans (((cell_far (p := ⟨gb131, _, none⟩) (nB hw130_0 GW131.out) _).trans (((cell_far (p := ⟨gb131, _, none⟩) (nB hw130_0 GW131.out) _).trans (hHeld.2.2.2.2.1)))))))), ((cell_far (p := ⟨gb131, _, none⟩) (nB hw130_1 GW131.out) _).trans (((cell_far (p := ⟨gb131, _, none⟩) (nB hw130_1 GW131.out) _).trans (((cell_far (p := ⟨gb131, _, none⟩) (nB hw130_1 GW131.out) _).trans (((cell_far (p := ⟨gb131, _, none⟩) (nB hw130_1 GW131.out) _).trans (hHeld.2.2.2.2.2.1)))))))), ((cell_far (p := ⟨gb131, _, none⟩) (nB hw130_2 GW131.out) _).trans (((cell_far (p := ⟨gb131, _, none⟩) (nB hw130_2 GW131.out) _).trans (((cell_far (p := ⟨gb131, _, none⟩) (nB hw130_2 GW131.out) _).trans (((cell_far (p := ⟨gb131, _, none⟩) (nB hw130_2 GW131.out) _).trans (hHeld.2.2.2.2.2.2.1)))))))), ((cell_far (p := ⟨gb131, _, none⟩) (nB hw130_3 GW131.out) _).trans (((cell_far (p := ⟨gb131, _, none⟩) (nB hw130_3 GW131.out) _).trans (((cell_far (p := ⟨gb131, _, none⟩) (nB hw130_3 GW131.out) _).trans (((cell_far (p := ⟨gb131, _, none⟩) (nB hw130_3 GW131.out) _).trans (hHeld.2.2.2.2.2.2.2))))))))⟩ (fun hHeld => ?_)
  clear hK K
  refine one_ (i := 11) (N := none) (bA 12 4095) rfl rfl (one_of HT_.out (by kernel_rfl)) (by decide) (fun K hK => ?_)
  have hs18 : w13.cell? ⟨gb132, 0, none⟩ = some (.int .i64 0) := (blk_cell BK132.out 0).trans rfl
  have hfs18 := blk_frozen BK132.out 0
  have hns18_0 := NB131_132.out
  have hms18_0 := NB132_131.out
  have hs19 : w13.cell? ⟨gb132, 1, none⟩ = some (.int .i64 0) := (blk_cell BK132.out 1).trans rfl
  have hfs19 := blk_frozen BK132.out 1
  have hns19_0 := NB131_132.out
  have hms19_0 := NB132_131.out
  have hs20 : w13.cell? ⟨gb132, 2, none⟩ = some (.int .i64 0) := (blk_cell BK132.out 2).trans rfl
  have hfs20 := blk_frozen BK132.out 2
  have hns20_0 := NB131_132.out
  have hms20_0 := NB132_131.out
  have hs21 : w13.cell? ⟨gb132, 3, none⟩ = some (.int .i64 0) := (blk_cell BK132.out 3).trans rfl
  have hfs21 := blk_frozen BK132.out 3
  have hns21_0 := NB131_132.out
  have hms21_0 := NB132_131.out
  refine skip_ (w1 := ?_) (by rfl) rfl ?_ ?_
  rotate_left
  ·go_simp
   rfl
  refine hK.out _ _ ⟨((cell_far (p := ⟨gb132, _, none⟩) (nB hw129_0 GW132.out) _).trans (((cell_far (p := ⟨gb132, _, none⟩) (nB hw129_0 GW132.out) _).trans (((cell_far (p := ⟨gb132, _, none⟩) (nB hw129_0 GW132.out) _).trans (((cell_far (p := ⟨gb132, _, none⟩) (nB hw129_0 GW132.out) _).trans (hHeld.1)))))))), ((cell_far (p := ⟨gb132, _, none⟩) (nB hw129_1 GW132.out) _).trans (((cell_far (p := ⟨gb132, _, none⟩) (nB hw129_1 GW132.out) _).trans (((cell_far (p := ⟨gb132, _, none⟩) (nB hw129_1 GW132.out) _).trans (((cell_far (p := ⟨gb132, _, none⟩) (nB hw129_1 GW132.out) _).trans (hHeld.2.1)))))))), ((cell_far (p := ⟨gb132, _, none⟩) (nB hw129_2 GW132.out) _).trans (((cell_far (p := ⟨gb132, _, none⟩) (nB hw129_2 GW132.out) _).trans (((cell_far (p := ⟨gb132, _, none⟩) (nB hw129_2 GW132.out) _).trans (((cell_far (p := ⟨gb132, _, none⟩) (nB hw129_2 GW132.out) _).trans (hHeld.2.2.1)))))))), ((cell_far (p := ⟨gb132, _, none⟩) (nB hw129_3 GW132.out) _).trans (((cell_far (p := ⟨gb132, _, none⟩) (nB hw129_3 GW132.out) _).trans (((cell_far (p := ⟨gb132, _, none⟩) (nB hw129_3 GW132.out) _).trans (((cell_far (p := ⟨gb132, _, none⟩) (nB hw129_3 GW132.out) _).trans (hHeld.2.2.2.1)))))))), ((cell_far (p := ⟨gb132, _, none⟩) (nB hw130_0 GW132.out) _).trans (((cell_far (p := ⟨gb132, _, none⟩) (nB hw130_0 GW132.out) _).trans (((cell_far (p := ⟨gb132, _, none⟩) (nB hw130_0 GW132.out) _).trans (((cell_far (p := ⟨gb132, _, none⟩) (nB hw130_0 GW132.out) _).trans (hHeld.2.2.2.2.1)))))))), ((cell_far (p := ⟨gb132, _, none⟩) (nB hw130_1 GW132.out) _).trans (((cell_far (p := ⟨gb132, _, none⟩) (nB hw130_1 GW132.out) _).trans (((cell_far (p := ⟨gb132, _, none⟩) (nB hw130_1 GW132.out) _).trans (((cell_far (p := ⟨gb132, _, none⟩) (nB hw130_1 GW132.out) _).trans (hHeld.2.2.2.2.2.1)))))))), ((cell_far (p := ⟨gb132, _, none⟩) (nB hw130_2 GW132.out) _).trans (((cell_far (p := ⟨gb132, _, none⟩) (nB hw130_2 GW132.out) _).trans (((cell_far (p := ⟨gb132, _, none⟩) (nB hw130_2 GW132.out) _).trans (((cell_far (p := ⟨gb132, _, none⟩) (nB hw130_2 GW132.out) _).trans (hHeld.2.2.2.2.2.2.1)))))))), ((cell_far (p := ⟨gb132, _, none⟩) (nB hw130_3 GW132.out) _).trans (((cell_far (p := ⟨gb132, _, none⟩) (nB hw130_3 GW132.out) _).trans (((cell_far (p := ⟨gb132, _, none⟩) (nB hw130_3 GW132.out) _).trans (((cell_far (p := ⟨gb132, _, none⟩) (nB hw130_3 GW132.out) _).trans (hHeld.2.2.2.2.2.2.2))))))))⟩ (fun hHeld => ?_)
  clear hK K
  refine done_ (done_of HT_.out (by kernel_rfl)) ?_
  have hnb22 := NB131_132.out
  have hnc22 := NB132_131.out
  have hcz23_0 : w13.cell? ⟨gb131, 0, none⟩ = some (.int .i64 0) := (blk_cell BK131.out 0).trans rfl
  have hcz23_1 : w13.cell? ⟨gb131, 1, none⟩ = some (.int .i64 0) := (blk_cell BK131.out 1).trans rfl
  have hcz23_2 : w13.cell? ⟨gb131, 2, none⟩ = some (.int .i64 0) := (blk_cell BK131.out 2).trans rfl
  have hcz23_3 : w13.cell? ⟨gb131, 3, none⟩ = some (.int .i64 0) := (blk_cell BK131.out 3).trans rfl
  have hfz23_0 := blk_frozen BK131.out 0
  have hfz23_1 := blk_frozen BK131.out 1
  have hfz23_2 := blk_frozen BK131.out 2
  have hfz23_3 := blk_frozen BK131.out 3
  have hcz24_0 : w13.cell? ⟨gb132, 0, none⟩ = some (.int .i64 0) := (blk_cell BK132.out 0).trans rfl
  have hcz24_1 : w13.cell? ⟨gb132, 1, none⟩ = some (.int .i64 0) := (blk_cell BK132.out 1).trans rfl
  have hcz24_2 : w13.cell? ⟨gb132, 2, none⟩ = some (.int .i64 0) := (blk_cell BK132.out 2).trans rfl
  have hcz24_3 : w13.cell? ⟨gb132, 3, none⟩ = some (.int .i64 0) := (blk_cell BK132.out 3).trans rfl
  have hfz24_0 := blk_frozen BK132.out 0
  have hfz24_1 := blk_frozen BK132.out 1
  have hfz24_2 := blk_frozen BK132.out 2
  have hfz24_3 := blk_frozen BK132.out 3
  try go_wp2
  go_ret
  exact ⟨rE, bS⟩
 ·rw [if_neg c9] at H
  have c9b0 : (a1 == 1) = false := beq_eq_false_iff_ne.mpr c9
  have c9b1 : (a1 != 1) = true := bne_iff_ne.mpr c9
  by_cases c25 : a1 = 2
  ·rw [if_pos c25] at H
   have c25b0 : (a1 == 2) = true := beq_iff_eq.mpr c25
   have c25b1 : (a1 != 2) = false := bne_eq_false_iff_eq.mpr c25
   clear c25
   obtain rfl := Option.some.inj H
   go_enter Try.func119, Try.ntmps119
   try go_wp2
   have n0_ := Aside0.mk (below_drew1 HB.out)
   clear HB
   have HB := n0_
   clear n0_
   have p129 : 0 ≤ (a2 : Int) := oD
   have q129 : a2 < (l0.length : Int) := oD
   obtain ⟨ad129, e129, hx129_0, hx129_1, hx129_2, hx129_3⟩ := at_T59 HR0.out a2 p129 q129
   have hw129_3 := hx129_3
   have hw129_2 := hx129_2
   have hw129_1 := hx129_1
   have hw129_0 := hx129_0
   cases e129
   replace hx129_0 := (cB HB.out hx129_0 :)
   replace hx129_1 := (cB HB.out hx129_1 :)
   replace hx129_2 := (cB HB.out hx129_2 :)
   replace hx129_3 := (cB HB.out hx129_3 :)
   replace p129 := eq_true p129
   replace q129 := eq_true q129
   have p130 : 0 ≤ (a3 : Int) := oD
   have q130 : a3 < (l0.length : Int) := oD
   obtain ⟨ad130, e130, hx130_0, hx130_1, hx130_2, hx130_3⟩ := at_T59 HR0.out a3 p130 q130
   have hw130_3 := hx130_3
   have hw130_2 := hx130_2
   have hw130_1 := hx130_1
   have hw130_0 := hx130_0
   obtain rfl : ad129 = ad130 := (by injection e130)
   replace hx130_0 := (cB HB.out hx130_0 :)
   replace hx130_1 := (cB HB.out hx130_1 :)
   replace hx130_2 := (cB HB.out hx130_2 :)
   replace hx130_3 := (cB HB.out hx130_3 :)
   replace p130 := eq_true p130
   replace q130 := eq_true q130
   refine start_ (n := 12) (S := fun w' => w'.cell? (ad129.add ((a2).toNat * 4)) = some (.int .i64 ((rd_T59 l0 a2).f0)) ∧ w'.cell? ⟨(ad129.add ((a2).toNat * 4)).block, (ad129.add ((a2).toNat * 4)).off + 1, none⟩ = some (.int .i64 ((rd_T59 l0 a2).f1)) ∧ w'.cell? ⟨(ad129.add ((a2).toNat * 4)).block, (ad129.add ((a2).toNat * 4)).off + 2, none⟩ = some (.int .i64 ((rd_T59 l0 a2).f2)) ∧ w'.cell? ⟨(ad129.add ((a2).toNat * 4)).block, (ad129.add ((a2).toNat * 4)).off + 3, none⟩ = some (.int .i64 ((rd_T59 l0 a2).f3)) ∧ w'.cell? (ad129.add ((a3).toNat * 4)) = some (.int .i64 ((rd_T59 l0 a3).f0)) ∧ w'.cell? ⟨(ad129.add ((a3).toNat * 4)).block, (ad129.add ((a3).toNat * 4)).off + 1, none⟩ = some (.int .i64 ((rd_T59 l0 a3).f1)) ∧ w'.cell? ⟨(ad129.add ((a3).toNat * 4)).block, (ad129.add ((a3).toNat * 4)).off + 2, none⟩ = some (.int .i64 ((rd_T59 l0 a3).f2)) ∧ w'.cell? ⟨(ad129.add ((a3).toNat * 4)).block, (ad129.add ((a3).toNat * 4)).off + 3, none⟩ = some (.int .i64 ((rd_T59 l0 a3).f3))) (ds := []) (bA 12 0) (by kernel_rfl) rfl rfl ⟨(cB HB.out hw129_0 :), (cB HB.out hw129_1 :), (cB HB.out hw129_2 :), (cB HB.out hw129_3 :), (cB HB.out hw130_0 :), (cB HB.out hw130_1 :), (cB HB.out hw130_2 :), (cB HB.out hw130_3 :)⟩ (fun hHeld => ?_); refine with_tabW spec_l3Gap.tab1 spec_l3Gap.bits1 (fun HT_ HW_ => ?_)
   generalize w.drew = w26 at HB hx129_0 hx129_1 hx129_2 hx129_3 hx130_0 hx130_1 hx130_2 hx130_3 hHeld ⊢
   refine pU 0 11 (bA 12 1) ?_
   refine pU 1 12 (bA 12 3) ?_
   refine pU 2 13 (bA 12 7) ?_
   refine pU 4 15 (bA 12 23) ?_
   refine pU 5 16 (bA 12 55) ?_
   refine pU 6 17 (bA 12 119) ?_
   refine tU 3 14 (bA 12 127) ?_
   refine tU 7 18 (bA 12 255) ?_
   refine join_ (σ := Nat × Nat) 2 (bA 12 1023) (fun s_ => [(9, .pointer (some ⟨s_.1, 0, none⟩)), (10, .pointer (some ⟨s_.2, 0, none⟩))]) (fun s_ w' => (w'.cell? (ad129.add ((a2).toNat * 4)) = some (.int .i64 ((rd_T59 l0 a2).f0)) ∧ w'.cell? ⟨(ad129.add ((a2).toNat * 4)).block, (ad129.add ((a2).toNat * 4)).off + 1, none⟩ = some (.int .i64 ((rd_T59 l0 a2).f1)) ∧ w'.cell? ⟨(ad129.add ((a2).toNat * 4)).block, (ad129.add ((a2).toNat * 4)).off + 2, none⟩ = some (.int .i64 ((rd_T59 l0 a2).f2)) ∧ w'.cell? ⟨(ad129.add ((a2).toNat * 4)).block, (ad129.add ((a2).toNat * 4)).off + 3, none⟩ = some (.int .i64 ((rd_T59 l0 a2).f3)) ∧ w'.cell? (ad129.add ((a3).toNat * 4)) = some (.int .i64 ((rd_T59 l0 a3).f0)) ∧ w'.cell? ⟨(ad129.add ((a3).toNat * 4)).block, (ad129.add ((a3).toNat * 4)).off + 1, none⟩ = some (.int .i64 ((rd_T59 l0 a3).f1)) ∧ w'.cell? ⟨(ad129.add ((a3).toNat * 4)).block, (ad129.add ((a3).toNat * 4)).off + 2, none⟩ = some (.int .i64 ((rd_T59 l0 a3).f2)) ∧ w'.cell? ⟨(ad129.add ((a3).toNat * 4)).block, (ad129.add ((a3).toNat * 4)).off + 3, none⟩ = some (.int .i64 ((rd_T59 l0 a3).f3))) ∧ (w'.heap[s_.1]? = some (.cells #[.int .i64 0, .int .i64 0, .int .i64 0, .int .i64 0] 59 (0, 0))) ∧ (w'.heap[s_.2]? = some (.cells #[.int .i64 0, .int .i64 0, .int .i64 0, .int .i64 0] 59 (0, 0))) ∧ (w.heap.size ≤ s_.1) ∧ (w.heap.size ≤ s_.1) ∧ (s_.2 ≠ s_.1) ∧ (s_.1 ≠ s_.2) ∧ (w.heap.size ≤ s_.2) ∧ (w.heap.size ≤ s_.2) ∧ (Below w.heap.size w w')) ?_ ?_
   rotate_left
   ·intro hCont
    refine two_ (i := 8) (j := 9) (Ni := some 9) (Nj := some 10) (bA 12 511) (bA 12 767) rfl rfl rfl rfl (two_of HT_.out (by kernel_rfl)) (by decide) (by decide) (fun K hK => ?_) (fun K hK => ?_)
    ·skip
     refine box_step ?hg (N := 9) ?hd (cs := #[.int .i64 0, .int .i64 0, .int .i64 0, .int .i64 0]) (t := 59) ?hr ?_; (case hd => rfl); (case hg => rfl); (case hr => first | (go_simp; done) | (go_simp; rfl))
     intro gb131 hg w27 hbox hb
     have n0_ := Aside0.mk (below_step bB hb)
     have n1_ := Aside0.mk (hbox)
     have n2_ := Aside0.mk ((by rw [hg]; exact (below_size bB) : w.heap.size ≤ gb131))
     have n3_ := Aside0.mk ((by rw [hg]; exact (below_size bB) : w.heap.size ≤ gb131))
     clear HB
     have HB := n0_
     have BK131 := n1_
     have GW131 := n2_
     have GE131 := n3_
     clear n0_ n1_ n2_ n3_
     clear hb hbox hg
     refine hK.out _ _ ⟨(cB HB.out hw129_0 :), (cB HB.out hw129_1 :), (cB HB.out hw129_2 :), (cB HB.out hw129_3 :), (cB HB.out hw130_0 :), (cB HB.out hw130_1 :), (cB HB.out hw130_2 :), (cB HB.out hw130_3 :)⟩ (fun hHeld => ?_)
     clear hK K
     refine norm_ (a' := ?_) ?_ ?_
     rotate_left
     ·show Act.put _ (some 9) _ = _
      simp only [Act.put, sA, sZ, sS, i64_w, i32_w]
      rfl
     refine one_ (i := 9) (N := some 10) (bA 12 1023) rfl rfl (one_of HT_.out (by kernel_rfl)) (by decide) (fun K hK => ?_)
     refine box_step ?hg (N := 10) ?hd (cs := #[.int .i64 0, .int .i64 0, .int .i64 0, .int .i64 0]) (t := 59) ?hr ?_; (case hd => rfl); (case hg => rfl); (case hr => first | (go_simp; done) | (go_simp; rfl))
     intro gb132 hg w28 hbox hb
     have n0_ := Aside0.mk (blk_below (g := gb131) (o := .cells #[.int .i64 0, .int .i64 0, .int .i64 0, .int .i64 0] 59 (0, 0)) kB hb)
     have n1_ := Aside0.mk (below_step bS hb)
     have n2_ := Aside0.mk (hbox)
     have n3_ := Aside0.mk ((by rw [hg]; exact (below_size bS) : w.heap.size ≤ gb132))
     have n4_ := Aside0.mk ((by rw [hg]; exact (below_size bS) : w.heap.size ≤ gb132))
     have n5_ := Aside0.mk ((by rw [hg]; exact Nat.ne_of_lt (blk_lt (g := gb131) (o := .cells #[.int .i64 0, .int .i64 0, .int .i64 0, .int .i64 0] 59 (0, 0)) kB) : gb131 ≠ gb132))
     have n6_ := Aside0.mk ((by rw [hg]; exact Nat.ne_of_gt (blk_lt (g := gb131) (o := .cells #[.int .i64 0, .int .i64 0, .int .i64 0, .int .i64 0] 59 (0, 0)) kB) : gb132 ≠ gb131))
     clear BK131
     clear HB
     have BK131 := n0_
     have HB := n1_
     have BK132 := n2_
     have GW132 := n3_
     have GE132 := n4_
     have NB131_132 := n5_
     have NB132_131 := n6_
     clear n0_ n1_ n2_ n3_ n4_ n5_ n6_
     clear hb hbox hg
     refine hK.out _ _ ⟨(cB HB.out hw129_0 :), (cB HB.out hw129_1 :), (cB HB.out hw129_2 :), (cB HB.out hw129_3 :), (cB HB.out hw130_0 :), (cB HB.out hw130_1 :), (cB HB.out hw130_2 :), (cB HB.out hw130_3 :)⟩ (fun hHeld => ?_)
     clear hK K
     refine norm_ (a' := ?_) ?_ ?_
     rotate_left
     ·show Act.put _ (some 10) _ = _
      simp only [Act.put, sA, sZ, sS, i64_w, i32_w]
      rfl
     exact norm_ (by simp only [putAll, Act.put, sA, sZ, sS]) (hCont (gb131, gb132) _ ⟨hHeld, kB, kB, GW131.out, GE131.out, NB132_131.out, NB131_132.out, GW132.out, GE132.out, bS⟩)
    ·skip
     refine box_step ?hg (N := 10) ?hd (cs := #[.int .i64 0, .int .i64 0, .int .i64 0, .int .i64 0]) (t := 59) ?hr ?_; (case hd => rfl); (case hg => rfl); (case hr => first | (go_simp; done) | (go_simp; rfl))
     intro gb132 hg w27 hbox hb
     have n0_ := Aside0.mk (below_step bB hb)
     have n1_ := Aside0.mk (hbox)
     have n2_ := Aside0.mk ((by rw [hg]; exact (below_size bB) : w.heap.size ≤ gb132))
     have n3_ := Aside0.mk ((by rw [hg]; exact (below_size bB) : w.heap.size ≤ gb132))
     clear HB
     have HB := n0_
     have BK132 := n1_
     have GW132 := n2_
     have GE132 := n3_
     clear n0_ n1_ n2_ n3_
     clear hb hbox hg
     refine hK.out _ _ ⟨(cB HB.out hw129_0 :), (cB HB.out hw129_1 :), (cB HB.out hw129_2 :), (cB HB.out hw129_3 :), (cB HB.out hw130_0 :), (cB HB.out hw130_1 :), (cB HB.out hw130_2 :), (cB HB.out hw130_3 :)⟩ (fun hHeld => ?_)
     clear hK K
     refine norm_ (a' := ?_) ?_ ?_
     rotate_left
     ·show Act.put _ (some 10) _ = _
      simp only [Act.put, sA, sZ, sS, i64_w, i32_w]
      rfl
     refine one_ (i := 8) (N := some 9) (bA 12 1023) rfl rfl (one_of HT_.out (by kernel_rfl)) (by decide) (fun K hK => ?_)
     refine box_step ?hg (N := 9) ?hd (cs := #[.int .i64 0, .int .i64 0, .int .i64 0, .int .i64 0]) (t := 59) ?hr ?_; (case hd => rfl); (case hg => rfl); (case hr => first | (go_simp; done) | (go_simp; rfl))
     intro gb131 hg w28 hbox hb
     have n0_ := Aside0.mk (blk_below (g := gb132) (o := .cells #[.int .i64 0, .int .i64 0, .int .i64 0, .int .i64 0] 59 (0, 0)) kB hb)
     have n1_ := Aside0.mk (below_step bS hb)
     have n2_ := Aside0.mk (hbox)
     have n3_ := Aside0.mk ((by rw [hg]; exact (below_size bS) : w.heap.size ≤ gb131))
     have n4_ := Aside0.mk ((by rw [hg]; exact (below_size bS) : w.heap.size ≤ gb131))
     have n5_ := Aside0.mk ((by rw [hg]; exact Nat.ne_of_lt (blk_lt (g := gb132) (o := .cells #[.int .i64 0, .int .i64 0, .int .i64 0, .int .i64 0] 59 (0, 0)) kB) : gb132 ≠ gb131))
     have n6_ := Aside0.mk ((by rw [hg]; exact Nat.ne_of_gt (blk_lt (g := gb132) (o := .cells #[.int .i64 0, .int .i64 0, .int .i64 0, .int .i64 0] 59 (0, 0)) kB) : gb131 ≠ gb132))
     clear BK132
     clear HB
     have BK132 := n0_
     have HB := n1_
     have BK131 := n2_
     have GW131 := n3_
     have GE131 := n4_
     have NB132_131 := n5_
     have NB131_132 := n6_
     clear n0_ n1_ n2_ n3_ n4_ n5_ n6_
     clear hb hbox hg
     refine hK.out _ _ ⟨(cB HB.out hw129_0 :), (cB HB.out hw129_1 :), (cB HB.out hw129_2 :), (cB HB.out hw129_3 :), (cB HB.out hw130_0 :), (cB HB.out hw130_1 :), (cB HB.out hw130_2 :), (cB HB.out hw130_3 :)⟩ (fun hHeld => ?_)
     clear hK K
     refine norm_ (a' := ?_) ?_ ?_
     rotate_left
     ·show Act.put _ (some 9) _ = _
      simp only [Act.put, sA, sZ, sS, i64_w, i32_w]
      rfl
     exact norm_ (by simp only [putAll, Act.put, sA, sZ, sS]) (hCont (gb131, gb132) _ ⟨hHeld, kB, kB, GW131.out, GE131.out, NB132_131.out, NB131_132.out, GW132.out, GE132.out, bS⟩)
   rintro ⟨gb131, gb132⟩ w29 ⟨hS_, h0_, h1_, h2_, h3_, h4_, h5_, h6_, h7_, h8_⟩
   have n0_ : Aside0 (w29.heap[gb131]? = some (.cells #[.int .i64 0, .int .i64 0, .int .i64 0, .int .i64 0] 59 (0, 0))) := ⟨h0_⟩
   have n1_ : Aside0 (w29.heap[gb132]? = some (.cells #[.int .i64 0, .int .i64 0, .int .i64 0, .int .i64 0] 59 (0, 0))) := ⟨h1_⟩
   have n2_ : Aside0 (w.heap.size ≤ gb131) := ⟨h2_⟩
   have n3_ : Aside0 (w.heap.size ≤ gb131) := ⟨h3_⟩
   have n4_ : Aside0 (gb132 ≠ gb131) := ⟨h4_⟩
   have n5_ : Aside0 (gb131 ≠ gb132) := ⟨h5_⟩
   have n6_ : Aside0 (w.heap.size ≤ gb132) := ⟨h6_⟩
   have n7_ : Aside0 (w.heap.size ≤ gb132) := ⟨h7_⟩
   have n8_ : Aside0 (Below w.heap.size w w29) := ⟨h8_⟩
   clear HB
   clear h0_ h1_ h2_ h3_ h4_ h5_ h6_ h7_ h8_
   have BK131 := n0_
   have BK132 := n1_
   have GW131 := n2_
   have GE131 := n3_
   have NB132_131 := n4_
   have NB131_132 := n5_
   have GW132 := n6_
   have GE132 := n7_
   have HB := n8_
   clear n0_ n1_ n2_ n3_ n4_ n5_ n6_ n7_ n8_
   have hHeld : w29.cell? (ad129.add ((a2).toNat * 4)) = some (.int .i64 ((rd_T59 l0 a2).f0)) ∧ w29.cell? ⟨(ad129.add ((a2).toNat * 4)).block, (ad129.add ((a2).toNat * 4)).off + 1, none⟩ = some (.int .i64 ((rd_T59 l0 a2).f1)) ∧ w29.cell? ⟨(ad129.add ((a2).toNat * 4)).block, (ad129.add ((a2).toNat * 4)).off + 2, none⟩ = some (.int .i64 ((rd_T59 l0 a2).f2)) ∧ w29.cell? ⟨(ad129.add ((a2).toNat * 4)).block, (ad129.add ((a2).toNat * 4)).off + 3, none⟩ = some (.int .i64 ((rd_T59 l0 a2).f3)) ∧ w29.cell? (ad129.add ((a3).toNat * 4)) = some (.int .i64 ((rd_T59 l0 a3).f0)) ∧ w29.cell? ⟨(ad129.add ((a3).toNat * 4)).block, (ad129.add ((a3).toNat * 4)).off + 1, none⟩ = some (.int .i64 ((rd_T59 l0 a3).f1)) ∧ w29.cell? ⟨(ad129.add ((a3).toNat * 4)).block, (ad129.add ((a3).toNat * 4)).off + 2, none⟩ = some (.int .i64 ((rd_T59 l0 a3).f2)) ∧ w29.cell? ⟨(ad129.add ((a3).toNat * 4)).block, (ad129.add ((a3).toNat * 4)).off + 3, none⟩ = some (.int .i64 ((rd_T59 l0 a3).f3)) := hS_
   refine norm_ (a' := ?_) ?_ ?_
   rotate_left
   ·simp only [putAll, Act.put, sA, sZ, sS]
    rfl
   refine one_ (i := 10) (N := none) (bA 12 2047) rfl rfl (one_of HT_.out (by kernel_rfl)) (by decide) (fun K hK => ?_)
   have hs30 : w29.cell? ⟨gb131, 0, none⟩ = some (.int .i64 0) := (blk_cell BK131.out 0).trans rfl
   have hfs30 := blk_frozen BK131.out 0
   have hns30_1 := NB132_131.out
   have hms30_1 := NB131_132.out
   have hs31 : w29.cell? ⟨gb131, 1, none⟩ = some (.int .i64 0) := (blk_cell BK131.out 1).trans rfl
   have hfs31 := blk_frozen BK131.out 1
   have hns31_1 := NB132_131.out
   have hms31_1 := NB131_132.out
   have hs32 : w29.cell? ⟨gb131, 2, none⟩ = some (.int .i64 0) := (blk_cell BK131.out 2).trans rfl
   have hfs32 := blk_frozen BK131.out 2
   have hns32_1 := NB132_131.out
   have hms32_1 := NB131_132.out
   have hs33 : w29.cell? ⟨gb131, 3, none⟩ = some (.int .i64 0) := (blk_cell BK131.out 3).trans rfl
   have hfs33 := blk_frozen BK131.out 3
   have hns33_1 := NB132_131.out
   have hms33_1 := NB131_132.out
   refine skip_ (w1 := ?_) (by rfl) rfl ?_ ?_
   rotate_left
   ·go_simp
    rfl
   refine hK.out _ _ ⟨((cell_far (p := ⟨gb131, _, none⟩) (nB hw129_0 GW131.out) _).trans (((cell_far (p := ⟨gb131, _, none⟩) (nB hw129_0 GW131.out) _).trans (((cell_far (p := ⟨gb131, _, none⟩) (nB hw129_0 GW131.out) _).trans (((cell_far (p := ⟨gb131, _, none⟩) (nB hw129_0 GW131.out) _).trans (hHeld.1)))))))), ((cell_far (p := ⟨gb131, _, none⟩) (nB hw129_1 GW131.out) _).trans (((cell_far (p := ⟨gb131, _, none⟩) (nB hw129_1 GW131.out) _).trans (((cell_far (p := ⟨gb131, _, none⟩) (nB hw129_1 GW131.out) _).trans (((cell_far (p := ⟨gb131, _, none⟩) (nB hw129_1 GW131.out) _).trans (hHeld.2.1)))))))), ((cell_far (p := ⟨gb131, _, none⟩) (nB hw129_2 GW131.out) _).trans (((cell_far (p := ⟨gb131, _, none⟩) (nB hw129_2 GW131.out) _).trans (((cell_far (p := ⟨gb131, _, none⟩) (nB hw129_2 GW131.out) _).trans (((cell_far (p := ⟨gb131, _, none⟩) (nB hw129_2 GW131.out) _).trans (hHeld.2.2.1)))))))), ((cell_far (p := ⟨gb131, _, none⟩) (nB hw129_3 GW131.out) _).trans (((cell_far (p := ⟨gb131, _, none⟩) (nB hw129_3 GW131.out) _).trans (((cell_far (p := ⟨gb131, _, none⟩) (nB hw129_3 GW131.out) _).trans (((cell_far (p := ⟨gb131, _, none⟩) (nB hw129_3 GW131.out) _).trans (hHeld.2.2.2.1)))))))), ((cell_far (p := ⟨gb131, _, none⟩) (nB hw130_0 GW131.out) _).trans (((cell_far (p := ⟨gb131, _, none⟩) (nB hw130_0 GW131.out) _).trans (((cell_far (p := ⟨gb131, _, none⟩) (nB hw130_0 GW131.out) _).trans (((cell_far (p := ⟨gb131, _, none⟩) (nB hw130_0 GW131.out) _).trans (hHeld.2.2.2.2.1)))))))), ((cell_far (p := ⟨gb131, _, none⟩) (nB hw130_1 GW131.out) _).trans (((cell_far (p := ⟨gb131, _, none⟩) (nB hw130_1 GW131.out) _).trans (((cell_far (p := ⟨gb131, _, none⟩) (nB hw130_1 GW131.out) _).trans (((cell_far (p := ⟨gb131, _, none⟩) (nB hw130_1 GW131.out) _).trans (hHeld.2.2.2.2.2.1)))))))), ((cell_far (p := ⟨gb131, _, none⟩) (nB hw130_2 GW131.out) _).trans (((cell_far (p := ⟨gb131, _, none⟩) (nB hw130_2 GW131.out) _).trans (((cell_far (p := ⟨gb131, _, none⟩) (nB hw130_2 GW131.out) _).trans (((cell_far (p := ⟨gb131, _, none⟩) (nB hw130_2 GW131.out) _).trans (hHeld.2.2.2.2.2.2.1)))))))), ((cell_far (p := ⟨gb131, _, none⟩) (nB hw130_3 GW131.out) _).trans (((cell_far (p := ⟨gb131, _, none⟩) (nB hw130_3 GW131.out) _).trans (((cell_far (p := ⟨gb131, _, none⟩) (nB hw130_3 GW131.out) _).trans (((cell_far (p := ⟨gb131, _, none⟩) (nB hw130_3 GW131.out) _).trans (hHeld.2.2.2.2.2.2.2))))))))⟩ (fun hHeld => ?_)
   clear hK K
   refine one_ (i := 11) (N := none) (bA 12 4095) rfl rfl (one_of HT_.out (by kernel_rfl)) (by decide) (fun K hK => ?_)
   have hs34 : w29.cell? ⟨gb132, 0, none⟩ = some (.int .i64 0) := (blk_cell BK132.out 0).trans rfl
   have hfs34 := blk_frozen BK132.out 0
   have hns34_0 := NB131_132.out
   have hms34_0 := NB132_131.out
   have hs35 : w29.cell? ⟨gb132, 1, none⟩ = some (.int .i64 0) := (blk_cell BK132.out 1).trans rfl
   have hfs35 := blk_frozen BK132.out 1
   have hns35_0 := NB131_132.out
   have hms35_0 := NB132_131.out
   have hs36 : w29.cell? ⟨gb132, 2, none⟩ = some (.int .i64 0) := (blk_cell BK132.out 2).trans rfl
   have hfs36 := blk_frozen BK132.out 2
   have hns36_0 := NB131_132.out
   have hms36_0 := NB132_131.out
   have hs37 : w29.cell? ⟨gb132, 3, none⟩ = some (.int .i64 0) := (blk_cell BK132.out 3).trans rfl
   have hfs37 := blk_frozen BK132.out 3
   have hns37_0 := NB131_132.out
   have hms37_0 := NB132_131.out
   refine skip_ (w1 := ?_) (by rfl) rfl ?_ ?_
   rotate_left
   ·go_simp
    rfl
   refine hK.out _ _ ⟨((cell_far (p := ⟨gb132, _, none⟩) (nB hw129_0 GW132.out) _).trans (((cell_far (p := ⟨gb132, _, none⟩) (nB hw129_0 GW132.out) _).trans (((cell_far (p := ⟨gb132, _, none⟩) (nB hw129_0 GW132.out) _).trans (((cell_far (p := ⟨gb132, _, none⟩) (nB hw129_0 GW132.out) _).trans (hHeld.1)))))))), ((cell_far (p := ⟨gb132, _, none⟩) (nB hw129_1 GW132.out) _).trans (((cell_far (p := ⟨gb132, _, none⟩) (nB hw129_1 GW132.out) _).trans (((cell_far (p := ⟨gb132, _, none⟩) (nB hw129_1 GW132.out) _).trans (((cell_far (p := ⟨gb132, _, none⟩) (nB hw129_1 GW132.out) _).trans (hHeld.2.1)))))))), ((cell_far (p := ⟨gb132, _, none⟩) (nB hw129_2 GW132.out) _).trans (((cell_far (p := ⟨gb132, _, none⟩) (nB hw129_2 GW132.out) _).trans (((cell_far (p := ⟨gb132, _, none⟩) (nB hw129_2 GW132.out) _).trans (((cell_far (p := ⟨gb132, _, none⟩) (nB hw129_2 GW132.out) _).trans (hHeld.2.2.1)))))))), ((cell_far (p := ⟨gb132, _, none⟩) (nB hw129_3 GW132.out) _).trans (((cell_far (p := ⟨gb132, _, none⟩) (nB hw129_3 GW132.out) _).trans (((cell_far (p := ⟨gb132, _, none⟩) (nB hw129_3 GW132.out) _).trans (((cell_far (p := ⟨gb132, _, none⟩) (nB hw129_3 GW132.out) _).trans (hHeld.2.2.2.1)))))))), ((cell_far (p := ⟨gb132, _, none⟩) (nB hw130_0 GW132.out) _).trans (((cell_far (p := ⟨gb132, _, none⟩) (nB hw130_0 GW132.out) _).trans (((cell_far (p := ⟨gb132, _, none⟩) (nB hw130_0 GW132.out) _).trans (((cell_far (p := ⟨gb132, _, none⟩) (nB hw130_0 GW132.out) _).trans (hHeld.2.2.2.2.1)))))))), ((cell_far (p := ⟨gb132, _, none⟩) (nB hw130_1 GW132.out) _).trans (((cell_far (p := ⟨gb132, _, none⟩) (nB hw130_1 GW132.out) _).trans (((cell_far (p := ⟨gb132, _, none⟩) (nB hw130_1 GW132.out) _).trans (((cell_far (p := ⟨gb132, _, none⟩) (nB hw130_1 GW132.out) _).trans (hHeld.2.2.2.2.2.1)))))))), ((cell_far (p := ⟨gb132, _, none⟩) (nB hw130_2 GW132.out) _).trans (((cell_far (p := ⟨gb132, _, none⟩) (nB hw130_2 GW132.out) _).trans (((cell_far (p := ⟨gb132, _, none⟩) (nB hw130_2 GW132.out) _).trans (((cell_far (p := ⟨gb132, _, none⟩) (nB hw130_2 GW132.out) _).trans (hHeld.2.2.2.2.2.2.1)))))))), ((cell_far (p := ⟨gb132, _, none⟩) (nB hw130_3 GW132.out) _).trans (((cell_far (p := ⟨gb132, _, none⟩) (nB hw130_3 GW132.out) _).trans (((cell_far (p := ⟨gb132, _, none⟩) (nB hw130_3 GW132.out) _).trans (((cell_far (p := ⟨gb132, _, none⟩) (nB hw130_3 GW132.out) _).trans (hHeld.2.2.2.2.2.2.2))))))))⟩ (fun hHeld => ?_)
   clear hK K
   refine done_ (done_of HT_.out (by kernel_rfl)) ?_
   have hnb38 := NB131_132.out
   have hnc38 := NB132_131.out
   have hcz39_0 : w29.cell? ⟨gb131, 0, none⟩ = some (.int .i64 0) := (blk_cell BK131.out 0).trans rfl
   have hcz39_1 : w29.cell? ⟨gb131, 1, none⟩ = some (.int .i64 0) := (blk_cell BK131.out 1).trans rfl
   have hcz39_2 : w29.cell? ⟨gb131, 2, none⟩ = some (.int .i64 0) := (blk_cell BK131.out 2).trans rfl
   have hcz39_3 : w29.cell? ⟨gb131, 3, none⟩ = some (.int .i64 0) := (blk_cell BK131.out 3).trans rfl
   have hfz39_0 := blk_frozen BK131.out 0
   have hfz39_1 := blk_frozen BK131.out 1
   have hfz39_2 := blk_frozen BK131.out 2
   have hfz39_3 := blk_frozen BK131.out 3
   have hcz40_0 : w29.cell? ⟨gb132, 0, none⟩ = some (.int .i64 0) := (blk_cell BK132.out 0).trans rfl
   have hcz40_1 : w29.cell? ⟨gb132, 1, none⟩ = some (.int .i64 0) := (blk_cell BK132.out 1).trans rfl
   have hcz40_2 : w29.cell? ⟨gb132, 2, none⟩ = some (.int .i64 0) := (blk_cell BK132.out 2).trans rfl
   have hcz40_3 : w29.cell? ⟨gb132, 3, none⟩ = some (.int .i64 0) := (blk_cell BK132.out 3).trans rfl
   have hfz40_0 := blk_frozen BK132.out 0
   have hfz40_1 := blk_frozen BK132.out 1
   have hfz40_2 := blk_frozen BK132.out 2
   have hfz40_3 := blk_frozen BK132.out 3
   try go_wp2
   go_ret
   exact ⟨rE, bS⟩
  ·rw [if_neg c25] at H
   have c25b0 : (a1 == 2) = false := beq_eq_false_iff_ne.mpr c25
   have c25b1 : (a1 != 2) = true := bne_iff_ne.mpr c25
   by_cases c41 : a1 = 3
   ·rw [if_pos c41] at H
    have c41b0 : (a1 == 3) = true := beq_iff_eq.mpr c41
    have c41b1 : (a1 != 3) = false := bne_eq_false_iff_eq.mpr c41
    clear c41
    obtain rfl := Option.some.inj H
    go_enter Try.func119, Try.ntmps119
    try go_wp2
    have n0_ := Aside0.mk (below_drew1 HB.out)
    clear HB
    have HB := n0_
    clear n0_
    have p129 : 0 ≤ (a2 : Int) := oD
    have q129 : a2 < (l0.length : Int) := oD
    obtain ⟨ad129, e129, hx129_0, hx129_1, hx129_2, hx129_3⟩ := at_T59 HR0.out a2 p129 q129
    have hw129_3 := hx129_3
    have hw129_2 := hx129_2
    have hw129_1 := hx129_1
    have hw129_0 := hx129_0
    cases e129
    replace hx129_0 := (cB HB.out hx129_0 :)
    replace hx129_1 := (cB HB.out hx129_1 :)
    replace hx129_2 := (cB HB.out hx129_2 :)
    replace hx129_3 := (cB HB.out hx129_3 :)
    replace p129 := eq_true p129
    replace q129 := eq_true q129
    have p130 : 0 ≤ (a3 : Int) := oD
    have q130 : a3 < (l0.length : Int) := oD
    obtain ⟨ad130, e130, hx130_0, hx130_1, hx130_2, hx130_3⟩ := at_T59 HR0.out a3 p130 q130
    have hw130_3 := hx130_3
    have hw130_2 := hx130_2
    have hw130_1 := hx130_1
    have hw130_0 := hx130_0
    obtain rfl : ad129 = ad130 := (by injection e130)
    replace hx130_0 := (cB HB.out hx130_0 :)
    replace hx130_1 := (cB HB.out hx130_1 :)
    replace hx130_2 := (cB HB.out hx130_2 :)
    replace hx130_3 := (cB HB.out hx130_3 :)
    replace p130 := eq_true p130
    replace q130 := eq_true q130
    refine start_ (n := 12) (S := fun w' => w'.cell? (ad129.add ((a2).toNat * 4)) = some (.int .i64 ((rd_T59 l0 a2).f0)) ∧ w'.cell? ⟨(ad129.add ((a2).toNat * 4)).block, (ad129.add ((a2).toNat * 4)).off + 1, none⟩ = some (.int .i64 ((rd_T59 l0 a2).f1)) ∧ w'.cell? ⟨(ad129.add ((a2).toNat * 4)).block, (ad129.add ((a2).toNat * 4)).off + 2, none⟩ = some (.int .i64 ((rd_T59 l0 a2).f2)) ∧ w'.cell? ⟨(ad129.add ((a2).toNat * 4)).block, (ad129.add ((a2).toNat * 4)).off + 3, none⟩ = some (.int .i64 ((rd_T59 l0 a2).f3)) ∧ w'.cell? (ad129.add ((a3).toNat * 4)) = some (.int .i64 ((rd_T59 l0 a3).f0)) ∧ w'.cell? ⟨(ad129.add ((a3).toNat * 4)).block, (ad129.add ((a3).toNat * 4)).off + 1, none⟩ = some (.int .i64 ((rd_T59 l0 a3).f1)) ∧ w'.cell? ⟨(ad129.add ((a3).toNat * 4)).block, (ad129.add ((a3).toNat * 4)).off + 2, none⟩ = some (.int .i64 ((rd_T59 l0 a3).f2)) ∧ w'.cell? ⟨(ad129.add ((a3).toNat * 4)).block, (ad129.add ((a3).toNat * 4)).off + 3, none⟩ = some (.int .i64 ((rd_T59 l0 a3).f3))) (ds := []) (bA 12 0) (by kernel_rfl) rfl rfl ⟨(cB HB.out hw129_0 :), (cB HB.out hw129_1 :), (cB HB.out hw129_2 :), (cB HB.out hw129_3 :), (cB HB.out hw130_0 :), (cB HB.out hw130_1 :), (cB HB.out hw130_2 :), (cB HB.out hw130_3 :)⟩ (fun hHeld => ?_); refine with_tabW spec_l3Gap.tab1 spec_l3Gap.bits1 (fun HT_ HW_ => ?_)
    generalize w.drew = w42 at HB hx129_0 hx129_1 hx129_2 hx129_3 hx130_0 hx130_1 hx130_2 hx130_3 hHeld ⊢
    refine pU 0 11 (bA 12 1) ?_
    refine pU 1 12 (bA 12 3) ?_
    refine pU 2 13 (bA 12 7) ?_
    refine pU 4 15 (bA 12 23) ?_
    refine pU 5 16 (bA 12 55) ?_
    refine pU 6 17 (bA 12 119) ?_
    refine tU 3 14 (bA 12 127) ?_
    refine tU 7 18 (bA 12 255) ?_
    refine join_ (σ := Nat × Nat) 2 (bA 12 1023) (fun s_ => [(9, .pointer (some ⟨s_.1, 0, none⟩)), (10, .pointer (some ⟨s_.2, 0, none⟩))]) (fun s_ w' => (w'.cell? (ad129.add ((a2).toNat * 4)) = some (.int .i64 ((rd_T59 l0 a2).f0)) ∧ w'.cell? ⟨(ad129.add ((a2).toNat * 4)).block, (ad129.add ((a2).toNat * 4)).off + 1, none⟩ = some (.int .i64 ((rd_T59 l0 a2).f1)) ∧ w'.cell? ⟨(ad129.add ((a2).toNat * 4)).block, (ad129.add ((a2).toNat * 4)).off + 2, none⟩ = some (.int .i64 ((rd_T59 l0 a2).f2)) ∧ w'.cell? ⟨(ad129.add ((a2).toNat * 4)).block, (ad129.add ((a2).toNat * 4)).off + 3, none⟩ = some (.int .i64 ((rd_T59 l0 a2).f3)) ∧ w'.cell? (ad129.add ((a3).toNat * 4)) = some (.int .i64 ((rd_T59 l0 a3).f0)) ∧ w'.cell? ⟨(ad129.add ((a3).toNat * 4)).block, (ad129.add ((a3).toNat * 4)).off + 1, none⟩ = some (.int .i64 ((rd_T59 l0 a3).f1)) ∧ w'.cell? ⟨(ad129.add ((a3).toNat * 4)).block, (ad129.add ((a3).toNat * 4)).off + 2, none⟩ = some (.int .i64 ((rd_T59 l0 a3).f2)) ∧ w'.cell? ⟨(ad129.add ((a3).toNat * 4)).block, (ad129.add ((a3).toNat * 4)).off + 3, none⟩ = some (.int .i64 ((rd_T59 l0 a3).f3))) ∧ (w'.heap[s_.1]? = some (.cells #[.int .i64 0, .int .i64 0, .int .i64 0, .int .i64 0] 59 (0, 0))) ∧ (w'.heap[s_.2]? = some (.cells #[.int .i64 0, .int .i64 0, .int .i64 0, .int .i64 0] 59 (0, 0))) ∧ (w.heap.size ≤ s_.1) ∧ (w.heap.size ≤ s_.1) ∧ (s_.2 ≠ s_.1) ∧ (s_.1 ≠ s_.2) ∧ (w.heap.size ≤ s_.2) ∧ (w.heap.size ≤ s_.2) ∧ (Below w.heap.size w w')) ?_ ?_
    rotate_left
    ·intro hCont
     refine two_ (i := 8) (j := 9) (Ni := some 9) (Nj := some 10) (bA 12 511) (bA 12 767) rfl rfl rfl rfl (two_of HT_.out (by kernel_rfl)) (by decide) (by decide) (fun K hK => ?_) (fun K hK => ?_)
     ·skip
      refine box_step ?hg (N := 9) ?hd (cs := #[.int .i64 0, .int .i64 0, .int .i64 0, .int .i64 0]) (t := 59) ?hr ?_; (case hd => rfl); (case hg => rfl); (case hr => first | (go_simp; done) | (go_simp; rfl))
      intro gb131 hg w43 hbox hb
      have n0_ := Aside0.mk (below_step bB hb)
      have n1_ := Aside0.mk (hbox)
      have n2_ := Aside0.mk ((by rw [hg]; exact (below_size bB) : w.heap.size ≤ gb131))
      have n3_ := Aside0.mk ((by rw [hg]; exact (below_size bB) : w.heap.size ≤ gb131))
      clear HB
      have HB := n0_
      have BK131 := n1_
      have GW131 := n2_
      have GE131 := n3_
      clear n0_ n1_ n2_ n3_
      clear hb hbox hg
      refine hK.out _ _ ⟨(cB HB.out hw129_0 :), (cB HB.out hw129_1 :), (cB HB.out hw129_2 :), (cB HB.out hw129_3 :), (cB HB.out hw130_0 :), (cB HB.out hw130_1 :), (cB HB.out hw130_2 :), (cB HB.out hw130_3 :)⟩ (fun hHeld => ?_)
      clear hK K
      refine norm_ (a' := ?_) ?_ ?_
      rotate_left
      ·show Act.put _ (some 9) _ = _
       simp only [Act.put, sA, sZ, sS, i64_w, i32_w]
       rfl
      refine one_ (i := 9) (N := some 10) (bA 12 1023) rfl rfl (one_of HT_.out (by kernel_rfl)) (by decide) (fun K hK => ?_)
      refine box_step ?hg (N := 10) ?hd (cs := #[.int .i64 0, .int .i64 0, .int .i64 0, .int .i64 0]) (t := 59) ?hr ?_; (case hd => rfl); (case hg => rfl); (case hr => first | (go_simp; done) | (go_simp; rfl))
      intro gb132 hg w44 hbox hb
      have n0_ := Aside0.mk (blk_below (g := gb131) (o := .cells #[.int .i64 0, .int .i64 0, .int .i64 0, .int .i64 0] 59 (0, 0)) kB hb)
      have n1_ := Aside0.mk (below_step bS hb)
      have n2_ := Aside0.mk (hbox)
      have n3_ := Aside0.mk ((by rw [hg]; exact (below_size bS) : w.heap.size ≤ gb132))
      have n4_ := Aside0.mk ((by rw [hg]; exact (below_size bS) : w.heap.size ≤ gb132))
      have n5_ := Aside0.mk ((by rw [hg]; exact Nat.ne_of_lt (blk_lt (g := gb131) (o := .cells #[.int .i64 0, .int .i64 0, .int .i64 0, .int .i64 0] 59 (0, 0)) kB) : gb131 ≠ gb132))
      have n6_ := Aside0.mk ((by rw [hg]; exact Nat.ne_of_gt (blk_lt (g := gb131) (o := .cells #[.int .i64 0, .int .i64 0, .int .i64 0, .int .i64 0] 59 (0, 0)) kB) : gb132 ≠ gb131))
      clear BK131
      clear HB
      have BK131 := n0_
      have HB := n1_
      have BK132 := n2_
      have GW132 := n3_
      have GE132 := n4_
      have NB131_132 := n5_
      have NB132_131 := n6_
      clear n0_ n1_ n2_ n3_ n4_ n5_ n6_
      clear hb hbox hg
      refine hK.out _ _ ⟨(cB HB.out hw129_0 :), (cB HB.out hw129_1 :), (cB HB.out hw129_2 :), (cB HB.out hw129_3 :), (cB HB.out hw130_0 :), (cB HB.out hw130_1 :), (cB HB.out hw130_2 :), (cB HB.out hw130_3 :)⟩ (fun hHeld => ?_)
      clear hK K
      refine norm_ (a' := ?_) ?_ ?_
      rotate_left
      ·show Act.put _ (some 10) _ = _
       simp only [Act.put, sA, sZ, sS, i64_w, i32_w]
       rfl
      exact norm_ (by simp only [putAll, Act.put, sA, sZ, sS]) (hCont (gb131, gb132) _ ⟨hHeld, kB, kB, GW131.out, GE131.out, NB132_131.out, NB131_132.out, GW132.out, GE132.out, bS⟩)
     ·skip
      refine box_step ?hg (N := 10) ?hd (cs := #[.int .i64 0, .int .i64 0, .int .i64 0, .int .i64 0]) (t := 59) ?hr ?_; (case hd => rfl); (case hg => rfl); (case hr => first | (go_simp; done) | (go_simp; rfl))
      intro gb132 hg w43 hbox hb
      have n0_ := Aside0.mk (below_step bB hb)
      have n1_ := Aside0.mk (hbox)
      have n2_ := Aside0.mk ((by rw [hg]; exact (below_size bB) : w.heap.size ≤ gb132))
      have n3_ := Aside0.mk ((by rw [hg]; exact (below_size bB) : w.heap.size ≤ gb132))
      clear HB
      have HB := n0_
      have BK132 := n1_
      have GW132 := n2_
      have GE132 := n3_
      clear n0_ n1_ n2_ n3_
      clear hb hbox hg
      refine hK.out _ _ ⟨(cB HB.out hw129_0 :), (cB HB.out hw129_1 :), (cB HB.out hw129_2 :), (cB HB.out hw129_3 :), (cB HB.out hw130_0 :), (cB HB.out hw130_1 :), (cB HB.out hw130_2 :), (cB HB.out hw130_3 :)⟩ (fun hHeld => ?_)
      clear hK K
      refine norm_ (a' := ?_) ?_ ?_
      rotate_left
      ·show Act.put _ (some 10) _ = _
       simp only [Act.put, sA, sZ, sS, i64_w, i32_w]
       rfl
      refine one_ (i := 8) (N := some 9) (bA 12 1023) rfl rfl (one_of HT_.out (by kernel_rfl)) (by decide) (fun K hK => ?_)
      refine box_step ?hg (N := 9) ?hd (cs := #[.int .i64 0, .int .i64 0, .int .i64 0, .int .i64 0]) (t := 59) ?hr ?_; (case hd => rfl); (case hg => rfl); (case hr => first | (go_simp; done) | (go_simp; rfl))
      intro gb131 hg w44 hbox hb
      have n0_ := Aside0.mk (blk_below (g := gb132) (o := .cells #[.int .i64 0, .int .i64 0, .int .i64 0, .int .i64 0] 59 (0, 0)) kB hb)
      have n1_ := Aside0.mk (below_step bS hb)
      have n2_ := Aside0.mk (hbox)
      have n3_ := Aside0.mk ((by rw [hg]; exact (below_size bS) : w.heap.size ≤ gb131))
      have n4_ := Aside0.mk ((by rw [hg]; exact (below_size bS) : w.heap.size ≤ gb131))
      have n5_ := Aside0.mk ((by rw [hg]; exact Nat.ne_of_lt (blk_lt (g := gb132) (o := .cells #[.int .i64 0, .int .i64 0, .int .i64 0, .int .i64 0] 59 (0, 0)) kB) : gb132 ≠ gb131))
      have n6_ := Aside0.mk ((by rw [hg]; exact Nat.ne_of_gt (blk_lt (g := gb132) (o := .cells #[.int .i64 0, .int .i64 0, .int .i64 0, .int .i64 0] 59 (0, 0)) kB) : gb131 ≠ gb132))
      clear BK132
      clear HB
      have BK132 := n0_
      have HB := n1_
      have BK131 := n2_
      have GW131 := n3_
      have GE131 := n4_
      have NB132_131 := n5_
      have NB131_132 := n6_
      clear n0_ n1_ n2_ n3_ n4_ n5_ n6_
      clear hb hbox hg
      refine hK.out _ _ ⟨(cB HB.out hw129_0 :), (cB HB.out hw129_1 :), (cB HB.out hw129_2 :), (cB HB.out hw129_3 :), (cB HB.out hw130_0 :), (cB HB.out hw130_1 :), (cB HB.out hw130_2 :), (cB HB.out hw130_3 :)⟩ (fun hHeld => ?_)
      clear hK K
      refine norm_ (a' := ?_) ?_ ?_
      rotate_left
      ·show Act.put _ (some 9) _ = _
       simp only [Act.put, sA, sZ, sS, i64_w, i32_w]
       rfl
      exact norm_ (by simp only [putAll, Act.put, sA, sZ, sS]) (hCont (gb131, gb132) _ ⟨hHeld, kB, kB, GW131.out, GE131.out, NB132_131.out, NB131_132.out, GW132.out, GE132.out, bS⟩)
    rintro ⟨gb131, gb132⟩ w45 ⟨hS_, h0_, h1_, h2_, h3_, h4_, h5_, h6_, h7_, h8_⟩
    have n0_ : Aside0 (w45.heap[gb131]? = some (.cells #[.int .i64 0, .int .i64 0, .int .i64 0, .int .i64 0] 59 (0, 0))) := ⟨h0_⟩
    have n1_ : Aside0 (w45.heap[gb132]? = some (.cells #[.int .i64 0, .int .i64 0, .int .i64 0, .int .i64 0] 59 (0, 0))) := ⟨h1_⟩
    have n2_ : Aside0 (w.heap.size ≤ gb131) := ⟨h2_⟩
    have n3_ : Aside0 (w.heap.size ≤ gb131) := ⟨h3_⟩
    have n4_ : Aside0 (gb132 ≠ gb131) := ⟨h4_⟩
    have n5_ : Aside0 (gb131 ≠ gb132) := ⟨h5_⟩
    have n6_ : Aside0 (w.heap.size ≤ gb132) := ⟨h6_⟩
    have n7_ : Aside0 (w.heap.size ≤ gb132) := ⟨h7_⟩
    have n8_ : Aside0 (Below w.heap.size w w45) := ⟨h8_⟩
    clear HB
    clear h0_ h1_ h2_ h3_ h4_ h5_ h6_ h7_ h8_
    have BK131 := n0_
    have BK132 := n1_
    have GW131 := n2_
    have GE131 := n3_
    have NB132_131 := n4_
    have NB131_132 := n5_
    have GW132 := n6_
    have GE132 := n7_
    have HB := n8_
    clear n0_ n1_ n2_ n3_ n4_ n5_ n6_ n7_ n8_
    have hHeld : w45.cell? (ad129.add ((a2).toNat * 4)) = some (.int .i64 ((rd_T59 l0 a2).f0)) ∧ w45.cell? ⟨(ad129.add ((a2).toNat * 4)).block, (ad129.add ((a2).toNat * 4)).off + 1, none⟩ = some (.int .i64 ((rd_T59 l0 a2).f1)) ∧ w45.cell? ⟨(ad129.add ((a2).toNat * 4)).block, (ad129.add ((a2).toNat * 4)).off + 2, none⟩ = some (.int .i64 ((rd_T59 l0 a2).f2)) ∧ w45.cell? ⟨(ad129.add ((a2).toNat * 4)).block, (ad129.add ((a2).toNat * 4)).off + 3, none⟩ = some (.int .i64 ((rd_T59 l0 a2).f3)) ∧ w45.cell? (ad129.add ((a3).toNat * 4)) = some (.int .i64 ((rd_T59 l0 a3).f0)) ∧ w45.cell? ⟨(ad129.add ((a3).toNat * 4)).block, (ad129.add ((a3).toNat * 4)).off + 1, none⟩ = some (.int .i64 ((rd_T59 l0 a3).f1)) ∧ w45.cell? ⟨(ad129.add ((a3).toNat * 4)).block, (ad129.add ((a3).toNat * 4)).off + 2, none⟩ = some (.int .i64 ((rd_T59 l0 a3).f2)) ∧ w45.cell? ⟨(ad129.add ((a3).toNat * 4)).block, (ad129.add ((a3).toNat * 4)).off + 3, none⟩ = some (.int .i64 ((rd_T59 l0 a3).f3)) := hS_
    refine norm_ (a' := ?_) ?_ ?_
    rotate_left
    ·simp only [putAll, Act.put, sA, sZ, sS]
     rfl
    refine one_ (i := 10) (N := none) (bA 12 2047) rfl rfl (one_of HT_.out (by kernel_rfl)) (by decide) (fun K hK => ?_)
    have hs46 : w45.cell? ⟨gb131, 0, none⟩ = some (.int .i64 0) := (blk_cell BK131.out 0).trans rfl
    have hfs46 := blk_frozen BK131.out 0
    have hns46_1 := NB132_131.out
    have hms46_1 := NB131_132.out
    have hs47 : w45.cell? ⟨gb131, 1, none⟩ = some (.int .i64 0) := (blk_cell BK131.out 1).trans rfl
    have hfs47 := blk_frozen BK131.out 1
    have hns47_1 := NB132_131.out
    have hms47_1 := NB131_132.out
    have hs48 : w45.cell? ⟨gb131, 2, none⟩ = some (.int .i64 0) := (blk_cell BK131.out 2).trans rfl
    have hfs48 := blk_frozen BK131.out 2
    have hns48_1 := NB132_131.out
    have hms48_1 := NB131_132.out
    have hs49 : w45.cell? ⟨gb131, 3, none⟩ = some (.int .i64 0) := (blk_cell BK131.out 3).trans rfl
    have hfs49 := blk_frozen BK131.out 3
    have hns49_1 := NB132_131.out
    have hms49_1 := NB131_132.out
    refine skip_ (w1 := ?_) (by rfl) rfl ?_ ?_
    rotate_left
    ·go_simp
     rfl
    refine hK.out _ _ ⟨((cell_far (p := ⟨gb131, _, none⟩) (nB hw129_0 GW131.out) _).trans (((cell_far (p := ⟨gb131, _, none⟩) (nB hw129_0 GW131.out) _).trans (((cell_far (p := ⟨gb131, _, none⟩) (nB hw129_0 GW131.out) _).trans (((cell_far (p := ⟨gb131, _, none⟩) (nB hw129_0 GW131.out) _).trans (hHeld.1)))))))), ((cell_far (p := ⟨gb131, _, none⟩) (nB hw129_1 GW131.out) _).trans (((cell_far (p := ⟨gb131, _, none⟩) (nB hw129_1 GW131.out) _).trans (((cell_far (p := ⟨gb131, _, none⟩) (nB hw129_1 GW131.out) _).trans (((cell_far (p := ⟨gb131, _, none⟩) (nB hw129_1 GW131.out) _).trans (hHeld.2.1)))))))), ((cell_far (p := ⟨gb131, _, none⟩) (nB hw129_2 GW131.out) _).trans (((cell_far (p := ⟨gb131, _, none⟩) (nB hw129_2 GW131.out) _).trans (((cell_far (p := ⟨gb131, _, none⟩) (nB hw129_2 GW131.out) _).trans (((cell_far (p := ⟨gb131, _, none⟩) (nB hw129_2 GW131.out) _).trans (hHeld.2.2.1)))))))), ((cell_far (p := ⟨gb131, _, none⟩) (nB hw129_3 GW131.out) _).trans (((cell_far (p := ⟨gb131, _, none⟩) (nB hw129_3 GW131.out) _).trans (((cell_far (p := ⟨gb131, _, none⟩) (nB hw129_3 GW131.out) _).trans (((cell_far (p := ⟨gb131, _, none⟩) (nB hw129_3 GW131.out) _).trans (hHeld.2.2.2.1)))))))), ((cell_far (p := ⟨gb131, _, none⟩) (nB hw130_0 GW131.out) _).trans (((cell_far (p := ⟨gb131, _, none⟩) (nB hw130_0 GW131.out) _).trans (((cell_far (p := ⟨gb131, _, none⟩) (nB hw130_0 GW131.out) _).trans (((cell_far (p := ⟨gb131, _, none⟩) (nB hw130_0 GW131.out) _).trans (hHeld.2.2.2.2.1)))))))), ((cell_far (p := ⟨gb131, _, none⟩) (nB hw130_1 GW131.out) _).trans (((cell_far (p := ⟨gb131, _, none⟩) (nB hw130_1 GW131.out) _).trans (((cell_far (p := ⟨gb131, _, none⟩) (nB hw130_1 GW131.out) _).trans (((cell_far (p := ⟨gb131, _, none⟩) (nB hw130_1 GW131.out) _).trans (hHeld.2.2.2.2.2.1)))))))), ((cell_far (p := ⟨gb131, _, none⟩) (nB hw130_2 GW131.out) _).trans (((cell_far (p := ⟨gb131, _, none⟩) (nB hw130_2 GW131.out) _).trans (((cell_far (p := ⟨gb131, _, none⟩) (nB hw130_2 GW131.out) _).trans (((cell_far (p := ⟨gb131, _, none⟩) (nB hw130_2 GW131.out) _).trans (hHeld.2.2.2.2.2.2.1)))))))), ((cell_far (p := ⟨gb131, _, none⟩) (nB hw130_3 GW131.out) _).trans (((cell_far (p := ⟨gb131, _, none⟩) (nB hw130_3 GW131.out) _).trans (((cell_far (p := ⟨gb131, _, none⟩) (nB hw130_3 GW131.out) _).trans (((cell_far (p := ⟨gb131, _, none⟩) (nB hw130_3 GW131.out) _).trans (hHeld.2.2.2.2.2.2.2))))))))⟩ (fun hHeld => ?_)
    clear hK K
    refine one_ (i := 11) (N := none) (bA 12 4095) rfl rfl (one_of HT_.out (by kernel_rfl)) (by decide) (fun K hK => ?_)
    have hs50 : w45.cell? ⟨gb132, 0, none⟩ = some (.int .i64 0) := (blk_cell BK132.out 0).trans rfl
    have hfs50 := blk_frozen BK132.out 0
    have hns50_0 := NB131_132.out
    have hms50_0 := NB132_131.out
    have hs51 : w45.cell? ⟨gb132, 1, none⟩ = some (.int .i64 0) := (blk_cell BK132.out 1).trans rfl
    have hfs51 := blk_frozen BK132.out 1
    have hns51_0 := NB131_132.out
    have hms51_0 := NB132_131.out
    have hs52 : w45.cell? ⟨gb132, 2, none⟩ = some (.int .i64 0) := (blk_cell BK132.out 2).trans rfl
    have hfs52 := blk_frozen BK132.out 2
    have hns52_0 := NB131_132.out
    have hms52_0 := NB132_131.out
    have hs53 : w45.cell? ⟨gb132, 3, none⟩ = some (.int .i64 0) := (blk_cell BK132.out 3).trans rfl
    have hfs53 := blk_frozen BK132.out 3
    have hns53_0 := NB131_132.out
    have hms53_0 := NB132_131.out
    refine skip_ (w1 := ?_) (by rfl) rfl ?_ ?_
    rotate_left
    ·go_simp
     rfl
    refine hK.out _ _ ⟨((cell_far (p := ⟨gb132, _, none⟩) (nB hw129_0 GW132.out) _).trans (((cell_far (p := ⟨gb132, _, none⟩) (nB hw129_0 GW132.out) _).trans (((cell_far (p := ⟨gb132, _, none⟩) (nB hw129_0 GW132.out) _).trans (((cell_far (p := ⟨gb132, _, none⟩) (nB hw129_0 GW132.out) _).trans (hHeld.1)))))))), ((cell_far (p := ⟨gb132, _, none⟩) (nB hw129_1 GW132.out) _).trans (((cell_far (p := ⟨gb132, _, none⟩) (nB hw129_1 GW132.out) _).trans (((cell_far (p := ⟨gb132, _, none⟩) (nB hw129_1 GW132.out) _).trans (((cell_far (p := ⟨gb132, _, none⟩) (nB hw129_1 GW132.out) _).trans (hHeld.2.1)))))))), ((cell_far (p := ⟨gb132, _, none⟩) (nB hw129_2 GW132.out) _).trans (((cell_far (p := ⟨gb132, _, none⟩) (nB hw129_2 GW132.out) _).trans (((cell_far (p := ⟨gb132, _, none⟩) (nB hw129_2 GW132.out) _).trans (((cell_far (p := ⟨gb132, _, none⟩) (nB hw129_2 GW132.out) _).trans (hHeld.2.2.1)))))))), ((cell_far (p := ⟨gb132, _, none⟩) (nB hw129_3 GW132.out) _).trans (((cell_far (p := ⟨gb132, _, none⟩) (nB hw129_3 GW132.out) _).trans (((cell_far (p := ⟨gb132, _, none⟩) (nB hw129_3 GW132.out) _).trans (((cell_far (p := ⟨gb132, _, none⟩) (nB hw129_3 GW132.out) _).trans (hHeld.2.2.2.1)))))))), ((cell_far (p := ⟨gb132, _, none⟩) (nB hw130_0 GW132.out) _).trans (((cell_far (p := ⟨gb132, _, none⟩) (nB hw130_0 GW132.out) _).trans (((cell_far (p := ⟨gb132, _, none⟩) (nB hw130_0 GW132.out) _).trans (((cell_far (p := ⟨gb132, _, none⟩) (nB hw130_0 GW132.out) _).trans (hHeld.2.2.2.2.1)))))))), ((cell_far (p := ⟨gb132, _, none⟩) (nB hw130_1 GW132.out) _).trans (((cell_far (p := ⟨gb132, _, none⟩) (nB hw130_1 GW132.out) _).trans (((cell_far (p := ⟨gb132, _, none⟩) (nB hw130_1 GW132.out) _).trans (((cell_far (p := ⟨gb132, _, none⟩) (nB hw130_1 GW132.out) _).trans (hHeld.2.2.2.2.2.1)))))))), ((cell_far (p := ⟨gb132, _, none⟩) (nB hw130_2 GW132.out) _).trans (((cell_far (p := ⟨gb132, _, none⟩) (nB hw130_2 GW132.out) _).trans (((cell_far (p := ⟨gb132, _, none⟩) (nB hw130_2 GW132.out) _).trans (((cell_far (p := ⟨gb132, _, none⟩) (nB hw130_2 GW132.out) _).trans (hHeld.2.2.2.2.2.2.1)))))))), ((cell_far (p := ⟨gb132, _, none⟩) (nB hw130_3 GW132.out) _).trans (((cell_far (p := ⟨gb132, _, none⟩) (nB hw130_3 GW132.out) _).trans (((cell_far (p := ⟨gb132, _, none⟩) (nB hw130_3 GW132.out) _).trans (((cell_far (p := ⟨gb132, _, none⟩) (nB hw130_3 GW132.out) _).trans (hHeld.2.2.2.2.2.2.2))))))))⟩ (fun hHeld => ?_)
    clear hK K
    refine done_ (done_of HT_.out (by kernel_rfl)) ?_
    have hnb54 := NB131_132.out
    have hnc54 := NB132_131.out
    have hcz55_0 : w45.cell? ⟨gb131, 0, none⟩ = some (.int .i64 0) := (blk_cell BK131.out 0).trans rfl
    have hcz55_1 : w45.cell? ⟨gb131, 1, none⟩ = some (.int .i64 0) := (blk_cell BK131.out 1).trans rfl
    have hcz55_2 : w45.cell? ⟨gb131, 2, none⟩ = some (.int .i64 0) := (blk_cell BK131.out 2).trans rfl
    have hcz55_3 : w45.cell? ⟨gb131, 3, none⟩ = some (.int .i64 0) := (blk_cell BK131.out 3).trans rfl
    have hfz55_0 := blk_frozen BK131.out 0
    have hfz55_1 := blk_frozen BK131.out 1
    have hfz55_2 := blk_frozen BK131.out 2
    have hfz55_3 := blk_frozen BK131.out 3
    have hcz56_0 : w45.cell? ⟨gb132, 0, none⟩ = some (.int .i64 0) := (blk_cell BK132.out 0).trans rfl
    have hcz56_1 : w45.cell? ⟨gb132, 1, none⟩ = some (.int .i64 0) := (blk_cell BK132.out 1).trans rfl
    have hcz56_2 : w45.cell? ⟨gb132, 2, none⟩ = some (.int .i64 0) := (blk_cell BK132.out 2).trans rfl
    have hcz56_3 : w45.cell? ⟨gb132, 3, none⟩ = some (.int .i64 0) := (blk_cell BK132.out 3).trans rfl
    have hfz56_0 := blk_frozen BK132.out 0
    have hfz56_1 := blk_frozen BK132.out 1
    have hfz56_2 := blk_frozen BK132.out 2
    have hfz56_3 := blk_frozen BK132.out 3
    try go_wp2
    go_ret
    exact ⟨rE, bS⟩
   ·rw [if_neg c41] at H
    have c41b0 : (a1 == 3) = false := beq_eq_false_iff_ne.mpr c41
    have c41b1 : (a1 != 3) = true := bne_iff_ne.mpr c41
    obtain rfl := Option.some.inj H
    go_enter Try.func119, Try.ntmps119
    try go_wp2
    have n0_ := Aside0.mk (below_drew1 HB.out)
    clear HB
    have HB := n0_
    clear n0_
    have p129 : 0 ≤ (a2 : Int) := oD
    have q129 : a2 < (l0.length : Int) := oD
    obtain ⟨ad129, e129, hx129_0, hx129_1, hx129_2, hx129_3⟩ := at_T59 HR0.out a2 p129 q129
    have hw129_3 := hx129_3
    have hw129_2 := hx129_2
    have hw129_1 := hx129_1
    have hw129_0 := hx129_0
    cases e129
    replace hx129_0 := (cB HB.out hx129_0 :)
    replace hx129_1 := (cB HB.out hx129_1 :)
    replace hx129_2 := (cB HB.out hx129_2 :)
    replace hx129_3 := (cB HB.out hx129_3 :)
    replace p129 := eq_true p129
    replace q129 := eq_true q129
    have p130 : 0 ≤ (a3 : Int) := oD
    have q130 : a3 < (l0.length : Int) := oD
    obtain ⟨ad130, e130, hx130_0, hx130_1, hx130_2, hx130_3⟩ := at_T59 HR0.out a3 p130 q130
    have hw130_3 := hx130_3
    have hw130_2 := hx130_2
    have hw130_1 := hx130_1
    have hw130_0 := hx130_0
    obtain rfl : ad129 = ad130 := (by injection e130)
    replace hx130_0 := (cB HB.out hx130_0 :)
    replace hx130_1 := (cB HB.out hx130_1 :)
    replace hx130_2 := (cB HB.out hx130_2 :)
    replace hx130_3 := (cB HB.out hx130_3 :)
    replace p130 := eq_true p130
    replace q130 := eq_true q130
    refine start_ (n := 12) (S := fun w' => w'.cell? (ad129.add ((a2).toNat * 4)) = some (.int .i64 ((rd_T59 l0 a2).f0)) ∧ w'.cell? ⟨(ad129.add ((a2).toNat * 4)).block, (ad129.add ((a2).toNat * 4)).off + 1, none⟩ = some (.int .i64 ((rd_T59 l0 a2).f1)) ∧ w'.cell? ⟨(ad129.add ((a2).toNat * 4)).block, (ad129.add ((a2).toNat * 4)).off + 2, none⟩ = some (.int .i64 ((rd_T59 l0 a2).f2)) ∧ w'.cell? ⟨(ad129.add ((a2).toNat * 4)).block, (ad129.add ((a2).toNat * 4)).off + 3, none⟩ = some (.int .i64 ((rd_T59 l0 a2).f3)) ∧ w'.cell? (ad129.add ((a3).toNat * 4)) = some (.int .i64 ((rd_T59 l0 a3).f0)) ∧ w'.cell? ⟨(ad129.add ((a3).toNat * 4)).block, (ad129.add ((a3).toNat * 4)).off + 1, none⟩ = some (.int .i64 ((rd_T59 l0 a3).f1)) ∧ w'.cell? ⟨(ad129.add ((a3).toNat * 4)).block, (ad129.add ((a3).toNat * 4)).off + 2, none⟩ = some (.int .i64 ((rd_T59 l0 a3).f2)) ∧ w'.cell? ⟨(ad129.add ((a3).toNat * 4)).block, (ad129.add ((a3).toNat * 4)).off + 3, none⟩ = some (.int .i64 ((rd_T59 l0 a3).f3))) (ds := []) (bA 12 0) (by kernel_rfl) rfl rfl ⟨(cB HB.out hw129_0 :), (cB HB.out hw129_1 :), (cB HB.out hw129_2 :), (cB HB.out hw129_3 :), (cB HB.out hw130_0 :), (cB HB.out hw130_1 :), (cB HB.out hw130_2 :), (cB HB.out hw130_3 :)⟩ (fun hHeld => ?_); refine with_tabW spec_l3Gap.tab1 spec_l3Gap.bits1 (fun HT_ HW_ => ?_)
    generalize w.drew = w57 at HB hx129_0 hx129_1 hx129_2 hx129_3 hx130_0 hx130_1 hx130_2 hx130_3 hHeld ⊢
    refine pU 0 11 (bA 12 1) ?_
    refine pU 1 12 (bA 12 3) ?_
    refine pU 2 13 (bA 12 7) ?_
    refine pU 4 15 (bA 12 23) ?_
    refine pU 5 16 (bA 12 55) ?_
    refine pU 6 17 (bA 12 119) ?_
    refine tU 3 14 (bA 12 127) ?_
    refine tU 7 18 (bA 12 255) ?_
    refine join_ (σ := Nat × Nat) 2 (bA 12 1023) (fun s_ => [(9, .pointer (some ⟨s_.1, 0, none⟩)), (10, .pointer (some ⟨s_.2, 0, none⟩))]) (fun s_ w' => (w'.cell? (ad129.add ((a2).toNat * 4)) = some (.int .i64 ((rd_T59 l0 a2).f0)) ∧ w'.cell? ⟨(ad129.add ((a2).toNat * 4)).block, (ad129.add ((a2).toNat * 4)).off + 1, none⟩ = some (.int .i64 ((rd_T59 l0 a2).f1)) ∧ w'.cell? ⟨(ad129.add ((a2).toNat * 4)).block, (ad129.add ((a2).toNat * 4)).off + 2, none⟩ = some (.int .i64 ((rd_T59 l0 a2).f2)) ∧ w'.cell? ⟨(ad129.add ((a2).toNat * 4)).block, (ad129.add ((a2).toNat * 4)).off + 3, none⟩ = some (.int .i64 ((rd_T59 l0 a2).f3)) ∧ w'.cell? (ad129.add ((a3).toNat * 4)) = some (.int .i64 ((rd_T59 l0 a3).f0)) ∧ w'.cell? ⟨(ad129.add ((a3).toNat * 4)).block, (ad129.add ((a3).toNat * 4)).off + 1, none⟩ = some (.int .i64 ((rd_T59 l0 a3).f1)) ∧ w'.cell? ⟨(ad129.add ((a3).toNat * 4)).block, (ad129.add ((a3).toNat * 4)).off + 2, none⟩ = some (.int .i64 ((rd_T59 l0 a3).f2)) ∧ w'.cell? ⟨(ad129.add ((a3).toNat * 4)).block, (ad129.add ((a3).toNat * 4)).off + 3, none⟩ = some (.int .i64 ((rd_T59 l0 a3).f3))) ∧ (w'.heap[s_.1]? = some (.cells #[.int .i64 0, .int .i64 0, .int .i64 0, .int .i64 0] 59 (0, 0))) ∧ (w'.heap[s_.2]? = some (.cells #[.int .i64 0, .int .i64 0, .int .i64 0, .int .i64 0] 59 (0, 0))) ∧ (w.heap.size ≤ s_.1) ∧ (w.heap.size ≤ s_.1) ∧ (s_.2 ≠ s_.1) ∧ (s_.1 ≠ s_.2) ∧ (w.heap.size ≤ s_.2) ∧ (w.heap.size ≤ s_.2) ∧ (Below w.heap.size w w')) ?_ ?_
    rotate_left
    ·intro hCont
     refine two_ (i := 8) (j := 9) (Ni := some 9) (Nj := some 10) (bA 12 511) (bA 12 767) rfl rfl rfl rfl (two_of HT_.out (by kernel_rfl)) (by decide) (by decide) (fun K hK => ?_) (fun K hK => ?_)
     ·skip
      refine box_step ?hg (N := 9) ?hd (cs := #[.int .i64 0, .int .i64 0, .int .i64 0, .int .i64 0]) (t := 59) ?hr ?_; (case hd => rfl); (case hg => rfl); (case hr => first | (go_simp; done) | (go_simp; rfl))
      intro gb131 hg w58 hbox hb
      have n0_ := Aside0.mk (below_step bB hb)
      have n1_ := Aside0.mk (hbox)
      have n2_ := Aside0.mk ((by rw [hg]; exact (below_size bB) : w.heap.size ≤ gb131))
      have n3_ := Aside0.mk ((by rw [hg]; exact (below_size bB) : w.heap.size ≤ gb131))
      clear HB
      have HB := n0_
      have BK131 := n1_
      have GW131 := n2_
      have GE131 := n3_
      clear n0_ n1_ n2_ n3_
      clear hb hbox hg
      refine hK.out _ _ ⟨(cB HB.out hw129_0 :), (cB HB.out hw129_1 :), (cB HB.out hw129_2 :), (cB HB.out hw129_3 :), (cB HB.out hw130_0 :), (cB HB.out hw130_1 :), (cB HB.out hw130_2 :), (cB HB.out hw130_3 :)⟩ (fun hHeld => ?_)
      clear hK K
      refine norm_ (a' := ?_) ?_ ?_
      rotate_left
      ·show Act.put _ (some 9) _ = _
       simp only [Act.put, sA, sZ, sS, i64_w, i32_w]
       rfl
      refine one_ (i := 9) (N := some 10) (bA 12 1023) rfl rfl (one_of HT_.out (by kernel_rfl)) (by decide) (fun K hK => ?_)
      refine box_step ?hg (N := 10) ?hd (cs := #[.int .i64 0, .int .i64 0, .int .i64 0, .int .i64 0]) (t := 59) ?hr ?_; (case hd => rfl); (case hg => rfl); (case hr => first | (go_simp; done) | (go_simp; rfl))
      intro gb132 hg w59 hbox hb
      have n0_ := Aside0.mk (blk_below (g := gb131) (o := .cells #[.int .i64 0, .int .i64 0, .int .i64 0, .int .i64 0] 59 (0, 0)) kB hb)
      have n1_ := Aside0.mk (below_step bS hb)
      have n2_ := Aside0.mk (hbox)
      have n3_ := Aside0.mk ((by rw [hg]; exact (below_size bS) : w.heap.size ≤ gb132))
      have n4_ := Aside0.mk ((by rw [hg]; exact (below_size bS) : w.heap.size ≤ gb132))
      have n5_ := Aside0.mk ((by rw [hg]; exact Nat.ne_of_lt (blk_lt (g := gb131) (o := .cells #[.int .i64 0, .int .i64 0, .int .i64 0, .int .i64 0] 59 (0, 0)) kB) : gb131 ≠ gb132))
      have n6_ := Aside0.mk ((by rw [hg]; exact Nat.ne_of_gt (blk_lt (g := gb131) (o := .cells #[.int .i64 0, .int .i64 0, .int .i64 0, .int .i64 0] 59 (0, 0)) kB) : gb132 ≠ gb131))
      clear BK131
      clear HB
      have BK131 := n0_
      have HB := n1_
      have BK132 := n2_
      have GW132 := n3_
      have GE132 := n4_
      have NB131_132 := n5_
      have NB132_131 := n6_
      clear n0_ n1_ n2_ n3_ n4_ n5_ n6_
      clear hb hbox hg
      refine hK.out _ _ ⟨(cB HB.out hw129_0 :), (cB HB.out hw129_1 :), (cB HB.out hw129_2 :), (cB HB.out hw129_3 :), (cB HB.out hw130_0 :), (cB HB.out hw130_1 :), (cB HB.out hw130_2 :), (cB HB.out hw130_3 :)⟩ (fun hHeld => ?_)
      clear hK K
      refine norm_ (a' := ?_) ?_ ?_
      rotate_left
      ·show Act.put _ (some 10) _ = _
       simp only [Act.put, sA, sZ, sS, i64_w, i32_w]
       rfl
      exact norm_ (by simp only [putAll, Act.put, sA, sZ, sS]) (hCont (gb131, gb132) _ ⟨hHeld, kB, kB, GW131.out, GE131.out, NB132_131.out, NB131_132.out, GW132.out, GE132.out, bS⟩)
     ·skip
      refine box_step ?hg (N := 10) ?hd (cs := #[.int .i64 0, .int .i64 0, .int .i64 0, .int .i64 0]) (t := 59) ?hr ?_; (case hd => rfl); (case hg => rfl); (case hr => first | (go_simp; done) | (go_simp; rfl))
      intro gb132 hg w58 hbox hb
      have n0_ := Aside0.mk (below_step bB hb)
      have n1_ := Aside0.mk (hbox)
      have n2_ := Aside0.mk ((by rw [hg]; exact (below_size bB) : w.heap.size ≤ gb132))
      have n3_ := Aside0.mk ((by rw [hg]; exact (below_size bB) : w.heap.size ≤ gb132))
      clear HB
      have HB := n0_
      have BK132 := n1_
      have GW132 := n2_
      have GE132 := n3_
      clear n0_ n1_ n2_ n3_
      clear hb hbox hg
      refine hK.out _ _ ⟨(cB HB.out hw129_0 :), (cB HB.out hw129_1 :), (cB HB.out hw129_2 :), (cB HB.out hw129_3 :), (cB HB.out hw130_0 :), (cB HB.out hw130_1 :), (cB HB.out hw130_2 :), (cB HB.out hw130_3 :)⟩ (fun hHeld => ?_)
      clear hK K
      refine norm_ (a' := ?_) ?_ ?_
      rotate_left
      ·show Act.put _ (some 10) _ = _
       simp only [Act.put, sA, sZ, sS, i64_w, i32_w]
       rfl
      refine one_ (i := 8) (N := some 9) (bA 12 1023) rfl rfl (one_of HT_.out (by kernel_rfl)) (by decide) (fun K hK => ?_)
      refine box_step ?hg (N := 9) ?hd (cs := #[.int .i64 0, .int .i64 0, .int .i64 0, .int .i64 0]) (t := 59) ?hr ?_; (case hd => rfl); (case hg => rfl); (case hr => first | (go_simp; done) | (go_simp; rfl))
      intro gb131 hg w59 hbox hb
      have n0_ := Aside0.mk (blk_below (g := gb132) (o := .cells #[.int .i64 0, .int .i64 0, .int .i64 0, .int .i64 0] 59 (0, 0)) kB hb)
      have n1_ := Aside0.mk (below_step bS hb)
      have n2_ := Aside0.mk (hbox)
      have n3_ := Aside0.mk ((by rw [hg]; exact (below_size bS) : w.heap.size ≤ gb131))
      have n4_ := Aside0.mk ((by rw [hg]; exact (below_size bS) : w.heap.size ≤ gb131))
      have n5_ := Aside0.mk ((by rw [hg]; exact Nat.ne_of_lt (blk_lt (g := gb132) (o := .cells #[.int .i64 0, .int .i64 0, .int .i64 0, .int .i64 0] 59 (0, 0)) kB) : gb132 ≠ gb131))
      have n6_ := Aside0.mk ((by rw [hg]; exact Nat.ne_of_gt (blk_lt (g := gb132) (o := .cells #[.int .i64 0, .int .i64 0, .int .i64 0, .int .i64 0] 59 (0, 0)) kB) : gb131 ≠ gb132))
      clear BK132
      clear HB
      have BK132 := n0_
      have HB := n1_
      have BK131 := n2_
      have GW131 := n3_
      have GE131 := n4_
      have NB132_131 := n5_
      have NB131_132 := n6_
      clear n0_ n1_ n2_ n3_ n4_ n5_ n6_
      clear hb hbox hg
      refine hK.out _ _ ⟨(cB HB.out hw129_0 :), (cB HB.out hw129_1 :), (cB HB.out hw129_2 :), (cB HB.out hw129_3 :), (cB HB.out hw130_0 :), (cB HB.out hw130_1 :), (cB HB.out hw130_2 :), (cB HB.out hw130_3 :)⟩ (fun hHeld => ?_)
      clear hK K
      refine norm_ (a' := ?_) ?_ ?_
      rotate_left
      ·show Act.put _ (some 9) _ = _
       simp only [Act.put, sA, sZ, sS, i64_w, i32_w]
       rfl
      exact norm_ (by simp only [putAll, Act.put, sA, sZ, sS]) (hCont (gb131, gb132) _ ⟨hHeld, kB, kB, GW131.out, GE131.out, NB132_131.out, NB131_132.out, GW132.out, GE132.out, bS⟩)
    rintro ⟨gb131, gb132⟩ w60 ⟨hS_, h0_, h1_, h2_, h3_, h4_, h5_, h6_, h7_, h8_⟩
    have n0_ : Aside0 (w60.heap[gb131]? = some (.cells #[.int .i64 0, .int .i64 0, .int .i64 0, .int .i64 0] 59 (0, 0))) := ⟨h0_⟩
    have n1_ : Aside0 (w60.heap[gb132]? = some (.cells #[.int .i64 0, .int .i64 0, .int .i64 0, .int .i64 0] 59 (0, 0))) := ⟨h1_⟩
    have n2_ : Aside0 (w.heap.size ≤ gb131) := ⟨h2_⟩
    have n3_ : Aside0 (w.heap.size ≤ gb131) := ⟨h3_⟩
    have n4_ : Aside0 (gb132 ≠ gb131) := ⟨h4_⟩
    have n5_ : Aside0 (gb131 ≠ gb132) := ⟨h5_⟩
    have n6_ : Aside0 (w.heap.size ≤ gb132) := ⟨h6_⟩
    have n7_ : Aside0 (w.heap.size ≤ gb132) := ⟨h7_⟩
    have n8_ : Aside0 (Below w.heap.size w w60) := ⟨h8_⟩
    clear HB
    clear h0_ h1_ h2_ h3_ h4_ h5_ h6_ h7_ h8_
    have BK131 := n0_
    have BK132 := n1_
    have GW131 := n2_
    have GE131 := n3_
    have NB132_131 := n4_
    have NB131_132 := n5_
    have GW132 := n6_
    have GE132 := n7_
    have HB := n8_
    clear n0_ n1_ n2_ n3_ n4_ n5_ n6_ n7_ n8_
    have hHeld : w60.cell? (ad129.add ((a2).toNat * 4)) = some (.int .i64 ((rd_T59 l0 a2).f0)) ∧ w60.cell? ⟨(ad129.add ((a2).toNat * 4)).block, (ad129.add ((a2).toNat * 4)).off + 1, none⟩ = some (.int .i64 ((rd_T59 l0 a2).f1)) ∧ w60.cell? ⟨(ad129.add ((a2).toNat * 4)).block, (ad129.add ((a2).toNat * 4)).off + 2, none⟩ = some (.int .i64 ((rd_T59 l0 a2).f2)) ∧ w60.cell? ⟨(ad129.add ((a2).toNat * 4)).block, (ad129.add ((a2).toNat * 4)).off + 3, none⟩ = some (.int .i64 ((rd_T59 l0 a2).f3)) ∧ w60.cell? (ad129.add ((a3).toNat * 4)) = some (.int .i64 ((rd_T59 l0 a3).f0)) ∧ w60.cell? ⟨(ad129.add ((a3).toNat * 4)).block, (ad129.add ((a3).toNat * 4)).off + 1, none⟩ = some (.int .i64 ((rd_T59 l0 a3).f1)) ∧ w60.cell? ⟨(ad129.add ((a3).toNat * 4)).block, (ad129.add ((a3).toNat * 4)).off + 2, none⟩ = some (.int .i64 ((rd_T59 l0 a3).f2)) ∧ w60.cell? ⟨(ad129.add ((a3).toNat * 4)).block, (ad129.add ((a3).toNat * 4)).off + 3, none⟩ = some (.int .i64 ((rd_T59 l0 a3).f3)) := hS_
    refine norm_ (a' := ?_) ?_ ?_
    rotate_left
    ·simp only [putAll, Act.put, sA, sZ, sS]
     rfl
    refine one_ (i := 10) (N := none) (bA 12 2047) rfl rfl (one_of HT_.out (by kernel_rfl)) (by decide) (fun K hK => ?_)
    have hs61 : w60.cell? ⟨gb131, 0, none⟩ = some (.int .i64 0) := (blk_cell BK131.out 0).trans rfl
    have hfs61 := blk_frozen BK131.out 0
    have hns61_1 := NB132_131.out
    have hms61_1 := NB131_132.out
    have hs62 : w60.cell? ⟨gb131, 1, none⟩ = some (.int .i64 0) := (blk_cell BK131.out 1).trans rfl
    have hfs62 := blk_frozen BK131.out 1
    have hns62_1 := NB132_131.out
    have hms62_1 := NB131_132.out
    have hs63 : w60.cell? ⟨gb131, 2, none⟩ = some (.int .i64 0) := (blk_cell BK131.out 2).trans rfl
    have hfs63 := blk_frozen BK131.out 2
    have hns63_1 := NB132_131.out
    have hms63_1 := NB131_132.out
    have hs64 : w60.cell? ⟨gb131, 3, none⟩ = some (.int .i64 0) := (blk_cell BK131.out 3).trans rfl
    have hfs64 := blk_frozen BK131.out 3
    have hns64_1 := NB132_131.out
    have hms64_1 := NB131_132.out
    refine skip_ (w1 := ?_) (by rfl) rfl ?_ ?_
    rotate_left
    ·go_simp
     rfl
    refine hK.out _ _ ⟨((cell_far (p := ⟨gb131, _, none⟩) (nB hw129_0 GW131.out) _).trans (((cell_far (p := ⟨gb131, _, none⟩) (nB hw129_0 GW131.out) _).trans (((cell_far (p := ⟨gb131, _, none⟩) (nB hw129_0 GW131.out) _).trans (((cell_far (p := ⟨gb131, _, none⟩) (nB hw129_0 GW131.out) _).trans (hHeld.1)))))))), ((cell_far (p := ⟨gb131, _, none⟩) (nB hw129_1 GW131.out) _).trans (((cell_far (p := ⟨gb131, _, none⟩) (nB hw129_1 GW131.out) _).trans (((cell_far (p := ⟨gb131, _, none⟩) (nB hw129_1 GW131.out) _).trans (((cell_far (p := ⟨gb131, _, none⟩) (nB hw129_1 GW131.out) _).trans (hHeld.2.1)))))))), ((cell_far (p := ⟨gb131, _, none⟩) (nB hw129_2 GW131.out) _).trans (((cell_far (p := ⟨gb131, _, none⟩) (nB hw129_2 GW131.out) _).trans (((cell_far (p := ⟨gb131, _, none⟩) (nB hw129_2 GW131.out) _).trans (((cell_far (p := ⟨gb131, _, none⟩) (nB hw129_2 GW131.out) _).trans (hHeld.2.2.1)))))))), ((cell_far (p := ⟨gb131, _, none⟩) (nB hw129_3 GW131.out) _).trans (((cell_far (p := ⟨gb131, _, none⟩) (nB hw129_3 GW131.out) _).trans (((cell_far (p := ⟨gb131, _, none⟩) (nB hw129_3 GW131.out) _).trans (((cell_far (p := ⟨gb131, _, none⟩) (nB hw129_3 GW131.out) _).trans (hHeld.2.2.2.1)))))))), ((cell_far (p := ⟨gb131, _, none⟩) (nB hw130_0 GW131.out) _).trans (((cell_far (p := ⟨gb131, _, none⟩) (nB hw130_0 GW131.out) _).trans (((cell_far (p := ⟨gb131, _, none⟩) (nB hw130_0 GW131.out) _).trans (((cell_far (p := ⟨gb131, _, none⟩) (nB hw130_0 GW131.out) _).trans (hHeld.2.2.2.2.1)))))))), ((cell_far (p := ⟨gb131, _, none⟩) (nB hw130_1 GW131.out) _).trans (((cell_far (p := ⟨gb131, _, none⟩) (nB hw130_1 GW131.out) _).trans (((cell_far (p := ⟨gb131, _, none⟩) (nB hw130_1 GW131.out) _).trans (((cell_far (p := ⟨gb131, _, none⟩) (nB hw130_1 GW131.out) _).trans (hHeld.2.2.2.2.2.1)))))))), ((cell_far (p := ⟨gb131, _, none⟩) (nB hw130_2 GW131.out) _).trans (((cell_far (p := ⟨gb131, _, none⟩) (nB hw130_2 GW131.out) _).trans (((cell_far (p := ⟨gb131, _, none⟩) (nB hw130_2 GW131.out) _).trans (((cell_far (p := ⟨gb131, _, none⟩) (nB hw130_2 GW131.out) _).trans (hHeld.2.2.2.2.2.2.1)))))))), ((cell_far (p := ⟨gb131, _, none⟩) (nB hw130_3 GW131.out) _).trans (((cell_far (p := ⟨gb131, _, none⟩) (nB hw130_3 GW131.out) _).trans (((cell_far (p := ⟨gb131, _, none⟩) (nB hw130_3 GW131.out) _).trans (((cell_far (p := ⟨gb131, _, none⟩) (nB hw130_3 GW131.out) _).trans (hHeld.2.2.2.2.2.2.2))))))))⟩ (fun hHeld => ?_)
    clear hK K
    refine one_ (i := 11) (N := none) (bA 12 4095) rfl rfl (one_of HT_.out (by kernel_rfl)) (by decide) (fun K hK => ?_)
    have hs65 : w60.cell? ⟨gb132, 0, none⟩ = some (.int .i64 0) := (blk_cell BK132.out 0).trans rfl
    have hfs65 := blk_frozen BK132.out 0
    have hns65_0 := NB131_132.out
    have hms65_0 := NB132_131.out
    have hs66 : w60.cell? ⟨gb132, 1, none⟩ = some (.int .i64 0) := (blk_cell BK132.out 1).trans rfl
    have hfs66 := blk_frozen BK132.out 1
    have hns66_0 := NB131_132.out
    have hms66_0 := NB132_131.out
    have hs67 : w60.cell? ⟨gb132, 2, none⟩ = some (.int .i64 0) := (blk_cell BK132.out 2).trans rfl
    have hfs67 := blk_frozen BK132.out 2
    have hns67_0 := NB131_132.out
    have hms67_0 := NB132_131.out
    have hs68 : w60.cell? ⟨gb132, 3, none⟩ = some (.int .i64 0) := (blk_cell BK132.out 3).trans rfl
    have hfs68 := blk_frozen BK132.out 3
    have hns68_0 := NB131_132.out
    have hms68_0 := NB132_131.out
    refine skip_ (w1 := ?_) (by rfl) rfl ?_ ?_
    rotate_left
    ·go_simp
     rfl
    refine hK.out _ _ ⟨((cell_far (p := ⟨gb132, _, none⟩) (nB hw129_0 GW132.out) _).trans (((cell_far (p := ⟨gb132, _, none⟩) (nB hw129_0 GW132.out) _).trans (((cell_far (p := ⟨gb132, _, none⟩) (nB hw129_0 GW132.out) _).trans (((cell_far (p := ⟨gb132, _, none⟩) (nB hw129_0 GW132.out) _).trans (hHeld.1)))))))), ((cell_far (p := ⟨gb132, _, none⟩) (nB hw129_1 GW132.out) _).trans (((cell_far (p := ⟨gb132, _, none⟩) (nB hw129_1 GW132.out) _).trans (((cell_far (p := ⟨gb132, _, none⟩) (nB hw129_1 GW132.out) _).trans (((cell_far (p := ⟨gb132, _, none⟩) (nB hw129_1 GW132.out) _).trans (hHeld.2.1)))))))), ((cell_far (p := ⟨gb132, _, none⟩) (nB hw129_2 GW132.out) _).trans (((cell_far (p := ⟨gb132, _, none⟩) (nB hw129_2 GW132.out) _).trans (((cell_far (p := ⟨gb132, _, none⟩) (nB hw129_2 GW132.out) _).trans (((cell_far (p := ⟨gb132, _, none⟩) (nB hw129_2 GW132.out) _).trans (hHeld.2.2.1)))))))), ((cell_far (p := ⟨gb132, _, none⟩) (nB hw129_3 GW132.out) _).trans (((cell_far (p := ⟨gb132, _, none⟩) (nB hw129_3 GW132.out) _).trans (((cell_far (p := ⟨gb132, _, none⟩) (nB hw129_3 GW132.out) _).trans (((cell_far (p := ⟨gb132, _, none⟩) (nB hw129_3 GW132.out) _).trans (hHeld.2.2.2.1)))))))), ((cell_far (p := ⟨gb132, _, none⟩) (nB hw130_0 GW132.out) _).trans (((cell_far (p := ⟨gb132, _, none⟩) (nB hw130_0 GW132.out) _).trans (((cell_far (p := ⟨gb132, _, none⟩) (nB hw130_0 GW132.out) _).trans (((cell_far (p := ⟨gb132, _, none⟩) (nB hw130_0 GW132.out) _).trans (hHeld.2.2.2.2.1)))))))), ((cell_far (p := ⟨gb132, _, none⟩) (nB hw130_1 GW132.out) _).trans (((cell_far (p := ⟨gb132, _, none⟩) (nB hw130_1 GW132.out) _).trans (((cell_far (p := ⟨gb132, _, none⟩) (nB hw130_1 GW132.out) _).trans (((cell_far (p := ⟨gb132, _, none⟩) (nB hw130_1 GW132.out) _).trans (hHeld.2.2.2.2.2.1)))))))), ((cell_far (p := ⟨gb132, _, none⟩) (nB hw130_2 GW132.out) _).trans (((cell_far (p := ⟨gb132, _, none⟩) (nB hw130_2 GW132.out) _).trans (((cell_far (p := ⟨gb132, _, none⟩) (nB hw130_2 GW132.out) _).trans (((cell_far (p := ⟨gb132, _, none⟩) (nB hw130_2 GW132.out) _).trans (hHeld.2.2.2.2.2.2.1)))))))), ((cell_far (p := ⟨gb132, _, none⟩) (nB hw130_3 GW132.out) _).trans (((cell_far (p := ⟨gb132, _, none⟩) (nB hw130_3 GW132.out) _).trans (((cell_far (p := ⟨gb132, _, none⟩) (nB hw130_3 GW132.out) _).trans (((cell_far (p := ⟨gb132, _, none⟩) (nB hw130_3 GW132.out) _).trans (hHeld.2.2.2.2.2.2.2))))))))⟩ (fun hHeld => ?_)
    clear hK K
    refine done_ (done_of HT_.out (by kernel_rfl)) ?_
    have hnb69 := NB131_132.out
    have hnc69 := NB132_131.out
    have hcz70_0 : w60.cell? ⟨gb131, 0, none⟩ = some (.int .i64 0) := (blk_cell BK131.out 0).trans rfl
    have hcz70_1 : w60.cell? ⟨gb131, 1, none⟩ = some (.int .i64 0) := (blk_cell BK131.out 1).trans rfl
    have hcz70_2 : w60.cell? ⟨gb131, 2, none⟩ = some (.int .i64 0) := (blk_cell BK131.out 2).trans rfl
    have hcz70_3 : w60.cell? ⟨gb131, 3, none⟩ = some (.int .i64 0) := (blk_cell BK131.out 3).trans rfl
    have hfz70_0 := blk_frozen BK131.out 0
    have hfz70_1 := blk_frozen BK131.out 1
    have hfz70_2 := blk_frozen BK131.out 2
    have hfz70_3 := blk_frozen BK131.out 3
    have hcz71_0 : w60.cell? ⟨gb132, 0, none⟩ = some (.int .i64 0) := (blk_cell BK132.out 0).trans rfl
    have hcz71_1 : w60.cell? ⟨gb132, 1, none⟩ = some (.int .i64 0) := (blk_cell BK132.out 1).trans rfl
    have hcz71_2 : w60.cell? ⟨gb132, 2, none⟩ = some (.int .i64 0) := (blk_cell BK132.out 2).trans rfl
    have hcz71_3 : w60.cell? ⟨gb132, 3, none⟩ = some (.int .i64 0) := (blk_cell BK132.out 3).trans rfl
    have hfz71_0 := blk_frozen BK132.out 0
    have hfz71_1 := blk_frozen BK132.out 1
    have hfz71_2 := blk_frozen BK132.out 2
    have hfz71_3 := blk_frozen BK132.out 3
    try go_wp2
    go_ret
    exact ⟨rE, bS⟩

end Go.Proofs.Ythhmembnhnghiaa.OFnExactTieGroups
