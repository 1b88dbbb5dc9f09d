/- Functions of the program as plain Lean functions, with their contracts: written by this session's program ownprint.py. Conditions: none. -/
import Derived.Test.YthhmembnhnghiaaOFnExactTimelySetsx0
import Derived.Test.YthhmembnhnghiaaOFnExactTimelySetsx3
namespace Go.Proofs.Ythhmembnhnghiaa.OFnExactTimelySets
open Go.RowKit Go.Proofs.YthhmembnhnghiaaW.PrintWords Go.Proofs.YthhmembnhnghiaaW.PrintLast Go.Proofs.YthhmembnhnghiaaW.PrintMore
attribute [local go_sem] max2_int min2_int max_two min_two max_three min_three max_four min_four   -- for this text's walks alone
set_option linter.unusedVariables false
set_option linter.unusedSimpArgs false

/-! ### spec_l6Due: function 111 -/
mutual
def spec_l6Due.l0 : Nat → List (S59) → List Int → List Int → Int → Option (List Int)
 | 0, _, _, _, _ => none
 | k + 1, x0, x1, x5, x6 => if x6 < (x1.length : Int) then (spec_l6Due.l1 k x0 x1 x5 x6 0) else (some x5)
def spec_l6Due.l1 : Nat → List (S59) → List Int → List Int → Int → Int → Option (List Int)
 | 0, _, _, _, _, _ => none
 | k + 1, x0, x1, x5, x6, x7 => if x7 < (x5.length : Int) then (if 0 ≤ x7 then (if 0 ≤ x6 then (if x6 < (x1.length : Int) then ((spec_l6Sooner.f x0 (rd x5 x7) (rd x1 x6)).bind fun t160 => (if t160 = true then (spec_l6Due.l1 k x0 x1 x5 x6 (wrap64 (x7 + 1))) else ((some (([] : List Int) : List Int)).bind fun y161 => (if x7 ≤ (x5.length : Int) then ((some (x5.take (x7 : Int).toNat : List Int)).bind fun y164 => (if y161.length + y164.length < 17592186044416 then ((some (y161 ++ y164 : List Int)).bind fun y168 => ((some (([rd x1 x6] : List Int) : List Int)).bind fun y172 => (if y168.length + y172.length < 17592186044416 then ((some (y168 ++ y172 : List Int)).bind fun y175 => ((some (x5.drop (x7 : Int).toNat : List Int)).bind fun y178 => (if y175.length + y178.length < 17592186044416 then (spec_l6Due.l0 k x0 x1 (y175 ++ y178) (wrap64 (x6 + 1))) else (none)))) else (none)))) else (none))) else (none))))) else (none)) else (none)) else (none)) else ((some (([] : List Int) : List Int)).bind fun y185 => (if 0 ≤ x7 then (if x7 ≤ (x5.length : Int) then ((some (x5.take (x7 : Int).toNat : List Int)).bind fun y188 => (if y185.length + y188.length < 17592186044416 then ((some (y185 ++ y188 : List Int)).bind fun y192 => (if 0 ≤ x6 then (if x6 < (x1.length : Int) then ((some (([rd x1 x6] : List Int) : List Int)).bind fun y196 => (if y192.length + y196.length < 17592186044416 then ((some (y192 ++ y196 : List Int)).bind fun y199 => ((some (x5.drop (x7 : Int).toNat : List Int)).bind fun y202 => (if y199.length + y202.length < 17592186044416 then (spec_l6Due.l0 k x0 x1 (y199 ++ y202) (wrap64 (x6 + 1))) else (none)))) else (none))) else (none)) else (none))) else (none))) else (none)) else (none)))
end
def spec_l6Due.f (k : Nat) (l0 : List (S59)) (l1 : List Int) : Option (List Int) := spec_l6Due.l0 k l0 l1 (([] : List Int)) 0
theorem spec_l6Due.mono_l : ∀ k, (∀ y0 y1 y2 y3, LeO (spec_l6Due.l0 k y0 y1 y2 y3) (spec_l6Due.l0 (k + 1) y0 y1 y2 y3)) ∧ (∀ y0 y1 y2 y3 y4, LeO (spec_l6Due.l1 k y0 y1 y2 y3 y4) (spec_l6Due.l1 (k + 1) y0 y1 y2 y3 y4))
 | 0 => ⟨fun _ _ _ _ r h => by simp [spec_l6Due.l0] at h, fun _ _ _ _ _ r h => by simp [spec_l6Due.l1] at h⟩
 | k + 1 => by
  obtain ⟨ih0, ih1⟩ := spec_l6Due.mono_l k
  refine ⟨?_, ?_⟩
  ·intro y0 y1 y2 y3
   unfold spec_l6Due.l0
   repeat' first
   | (with_reducible exact ih0 _ _ _ _)
   | (with_reducible exact ih1 _ _ _ _ _)
   | (with_reducible exact LeO.refl _)
   | (with_reducible exact LeO.none _)
   | (with_reducible refine LeO.ite ?_ ?_)
   | (with_reducible refine LeO.bind ?_ (fun _ => ?_))
   | exact ih0 _ _ _ _
   | exact ih1 _ _ _ _ _
   | exact LeO.none _
   | refine LeO.ite ?_ ?_
   | refine LeO.bind ?_ (fun _ => ?_)
  ·intro y0 y1 y2 y3 y4
   unfold spec_l6Due.l1
   repeat' first
   | (with_reducible exact ih0 _ _ _ _)
   | (with_reducible exact ih1 _ _ _ _ _)
   | (with_reducible exact LeO.refl _)
   | (with_reducible exact LeO.none _)
   | (with_reducible refine LeO.ite ?_ ?_)
   | (with_reducible refine LeO.bind ?_ (fun _ => ?_))
   | exact ih0 _ _ _ _
   | exact ih1 _ _ _ _ _
   | exact LeO.none _
   | refine LeO.ite ?_ ?_
   | refine LeO.bind ?_ (fun _ => ?_)
theorem spec_l6Due.mono : ∀ a0 a1 k, LeO (spec_l6Due.f k a0 a1) (spec_l6Due.f (k + 1) a0 a1) := by
 intro a0 a1 k
 obtain ⟨ih0, ih1⟩ := spec_l6Due.mono_l k
 unfold spec_l6Due.f
 repeat' first
   | (with_reducible exact ih0 _ _ _ _)
   | (with_reducible exact ih1 _ _ _ _ _)
   | (with_reducible exact LeO.refl _)
   | (with_reducible exact LeO.none _)
   | (with_reducible refine LeO.ite ?_ ?_)
   | (with_reducible refine LeO.bind ?_ (fun _ => ?_))
   | exact ih0 _ _ _ _
   | exact ih1 _ _ _ _ _
   | exact LeO.none _
   | refine LeO.ite ?_ ?_
   | refine LeO.bind ?_ (fun _ => ?_)
def spec_l6Due.T6 : Bool × List (List Nat × List Nat) := (true, [([], []), ([], []), ([1], [1]), ([0, 2], [0, 2]), ([3], [3]), ([4], [4]), ([4], [4]), ([4], [4]), ([6, 7, 4], [4, 6, 7]), ([8, 4], [4, 8]), ([4], [4]), ([4], [4]), ([10, 11, 4], [4, 10, 11]), ([12, 4], [4, 12]), ([5, 9, 13, 4, 4], [4, 5, 9, 13]), ([4, 14], [4, 14])])
def spec_l6Due.B6 : List Nat := [0, 0, 2, 7, 15, 31, 31, 31, 223, 479, 31, 31, 3103, 7199, 16383, 32767]
theorem spec_l6Due.tab6 : rtab .any (opsOf Try.f111 6) = spec_l6Due.T6 := by kernel_rfl
theorem spec_l6Due.bits6 : waitsOk spec_l6Due.T6.2 spec_l6Due.B6 = true := by kernel_rfl
def spec_l6Due.T8 : Bool × List (List Nat × List Nat) := (true, [([], []), ([], []), ([], []), ([1, 2], [1, 2]), ([0, 3], [0, 3]), ([], []), ([], []), ([5, 6], [5, 6]), ([7], [7]), ([8], [8]), ([4, 9, 4], [4, 9]), ([], []), ([], []), ([11, 12], [11, 12]), ([10, 13, 10], [10, 13]), ([14, 14, 0, 1, 2, 3, 4, 5, 6, 7, 8, 9, 10, 11, 12, 13, 14], [1, 11, 14])])
def spec_l6Due.B8 : List Nat := [0, 0, 0, 6, 15, 0, 0, 96, 224, 480, 1023, 0, 0, 6144, 16383, 32767]
theorem spec_l6Due.tab8 : rtab .any (opsOf Try.f111 8) = spec_l6Due.T8 := by kernel_rfl
theorem spec_l6Due.bits8 : waitsOk spec_l6Due.T8.2 spec_l6Due.B8 = true := by kernel_rfl
set_option maxHeartbeats 8000000 in
set_option maxRecDepth 100000 in
theorem spec_l6Due.calls (k : Nat) (A0 : Option Addr) (c0 : Nat) (l0 : List (S59)) (A1 : Option Addr) (c1 : Nat) (l1 : List Int) (r : List Int) (w : World) (hr0 : Kd.C k59 w A0 l0.length l0) (hc0 : l0.length ≤ c0) (hr1 : Kd.C (Kd.int .i64) w A1 l1.length l1) (hc1 : l1.length ≤ c1) (h : spec_l6Due.f k l0 l1 = some r) :
  Calls Try.prog 111 #[.slice A0 l0.length c0, .slice A1 l1.length c1] w fun e w' => ∃ v0_ : Value, e = .returned (v0_) ∧ Kd.R (Kd.int .i64) 3 w' w.heap.size (fun _ => True) v0_ r ∧ Below w.heap.size w w' := by
 have HR0 := Aside0.mk hr0
 have HC0 := Aside0.mk hc0
 clear hr0 hc0
 have HR1 := Aside0.mk hr1
 have HC1 := Aside0.mk hc1
 clear hr1 hc1
 have HB := Aside0.mk (Below.refl w.heap.size w)
 have H : (spec_l6Due.l0 k l0 l1 (([] : List Int)) 0) = some r := h
 clear h
 obtain ⟨y155, hy155⟩ : ∃ y_ : List Int, y_ = (([] : List Int)) := ⟨_, rfl⟩
 replace H : (spec_l6Due.l0 k l0 l1 y155 0) = some r := by first | (rw [hy155]; with_reducible exact H) | (have H2_ := (Option.bind_some _ _).symm.trans H; rw [hy155]; with_reducible exact H2_) | (have H2_ := (Option.bind_some _ _).symm.trans H; with_reducible exact H2_) | with_reducible exact H | (rw [hy155]; exact H) | exact H
 have Ny155 := Aside0.mk hy155
 clear hy155
 have H' := Aside0.mk H
 clear H
 go_enter Try.func111, Try.ntmps111
 go_wp2_with (first | ((with_reducible refine gate_dst (N := 8) rfl ?_); refine Kd.R_lit (Kd.int .i64) _ 3 ?hg (N := 8) ?hd (xs := ([] : List Int)) (inner := []) (ok := fun _ => True) (okp := fun _ => True) ?hr ?hp (fun _ hk => hk) trivial (Below.refl _ _) (Nat.le_refl _) (by simp) ?_; (case hd => rfl); (case hg => rfl); (case hr => first | (go_simp; done) | (go_simp; rfl)); (case hp => exact (Reps.none _ _)); intro v156 w3 ho4 hb hg_ hnew_; clear hg_ hnew_; (first | rw [← Ny155.out] at ho4 | (simp only [Int.reduceToNat] at ho4; rw [← Ny155.out] at ho4)); have n0_ := Aside0.mk (Kd.R_lower ho4 (below_size bB)); have n1_ := Aside0.mk (below_step bB hb); clear HB; have HO157 := n0_; have HB := n1_; clear n0_ n1_; clear hb ho4))
 go_loopg [5, 6] k (fun kq v5 v6 w' => ∃ (x5_1 : List Int) (x6_1 : Int), v6 = .int .i64 x6_1 ∧ Aside0 (spec_l6Due.l0 kq l0 l1 x5_1 x6_1 = some r) ∧ Aside0 (kq ≤ k) ∧ Aside0 (Kd.R (Kd.int .i64) 3 w' w.heap.size (fun _ => True) v5 x5_1) ∧ Aside0 (Below w.heap.size w w'))
 case atStart => exact ⟨(y155), (0), sD, H', ⟨Nat.le_refl _⟩, ⟨kR⟩, ⟨by repeat (first | (with_reducible first | exact HB.out | apply below_alloc | apply pw_below_drewN | apply below_drew1) | exact HB.out)⟩⟩
 case round =>
  clear H'
  try clear c1
  try clear p2
  obtain ⟨x5_1, x6_1, rfl, HA, HK1, HO_5, HB⟩ := hrel
  cases gk with
  | zero => exact absurd HA.out (by simp [spec_l6Due.l0])
  | succ k1 =>
   have H := HA.out
   clear HA
   simp only [spec_l6Due.l0] at H
   by_cases c5 : x6_1 < (l1.length : Int)
   ·rw [if_pos c5] at H
    have c5b0 : decide (x6_1 < (l1.length : Int)) = true := decide_eq_true c5
    clear c5
    have H' := Aside0.mk H
    clear H
    go_wp2
    go_loopg [7] k1 (fun kq v7 w' => ∃ (x7_2 : Int), v7 = .int .i64 x7_2 ∧ Aside0 (spec_l6Due.l1 kq l0 l1 x5_1 x6_1 x7_2 = some r) ∧ Aside0 (kq ≤ k1) ∧ Aside0 (Kd.R (Kd.int .i64) 3 w' w.heap.size (fun _ => True) u5 x5_1) ∧ Aside0 (Below w.heap.size w w'))
    case atStart => exact ⟨(0), sD, H', ⟨Nat.le_refl _⟩, ⟨kR⟩, ⟨by repeat (first | (with_reducible first | exact HB.out | apply below_alloc | apply pw_below_drewN | apply below_drew1) | exact HB.out)⟩⟩
    case round =>
     clear H'
     try clear c1
     try clear p2
     try clear c5
     try clear c5b0
     try clear p2
     obtain ⟨x7_2, rfl, HA, HK2, HO_5, HB⟩ := hrel
     cases gk with
     | zero => exact absurd HA.out (by simp [spec_l6Due.l1])
     | succ k2 =>
      have H := HA.out
      clear HA
      simp only [spec_l6Due.l1] at H
      by_cases c6 : x7_2 < (x5_1.length : Int)
      ·rw [if_pos c6] at H
       have c6b0 : decide (x7_2 < (x5_1.length : Int)) = true := decide_eq_true c6
       clear c6
       by_cases c7 : 0 ≤ x7_2; rotate_left
       ·rw [if_neg c7] at H; exact absurd H (by simp)
       rw [if_pos c7] at H
       have c7b0 : decide (0 ≤ x7_2) = true := decide_eq_true c7
       clear c7
       by_cases c8 : 0 ≤ x6_1; rotate_left
       ·rw [if_neg c8] at H; exact absurd H (by simp)
       rw [if_pos c8] at H
       have c8b0 : decide (0 ≤ x6_1) = true := decide_eq_true c8
       clear c8
       by_cases c9 : x6_1 < (l1.length : Int); rotate_left
       ·rw [if_neg c9] at H; exact absurd H (by simp)
       rw [if_pos c9] at H
       have c9b0 : decide (x6_1 < (l1.length : Int)) = true := decide_eq_true c9
       clear c9
       replace H := Option.bind_eq_some_iff.mp H
       obtain ⟨t160, A100, H⟩ := H
       replace H : (if t160 = true then (spec_l6Due.l1 k2 l0 l1 x5_1 x6_1 (wrap64 (x7_2 + 1))) else ((some (([] : List Int) : List Int)).bind fun y161 => (if x7_2 ≤ (x5_1.length : Int) then ((some (x5_1.take (x7_2 : Int).toNat : List Int)).bind fun y164 => (if y161.length + y164.length < 17592186044416 then ((some (y161 ++ y164 : List Int)).bind fun y168 => ((some (([rd l1 x6_1] : List Int) : List Int)).bind fun y172 => (if y168.length + y172.length < 17592186044416 then ((some (y168 ++ y172 : List Int)).bind fun y175 => ((some (x5_1.drop (x7_2 : Int).toNat : List Int)).bind fun y178 => (if y175.length + y178.length < 17592186044416 then (spec_l6Due.l0 k2 l0 l1 (y175 ++ y178) (wrap64 (x6_1 + 1))) else (none)))) else (none)))) else (none))) else (none)))) = some r := H
       have A10 := Aside0.mk A100
       clear A100
       by_cases c11 : t160 = true
       ·subst c11
        have H1 : (spec_l6Due.l1 k2 l0 l1 x5_1 x6_1 (wrap64 (x7_2 + 1))) = some r := by rw [if_pos rfl] at H; exact H
        clear H
        have H := H1
        clear H1
        have H' := Aside0.mk H
        clear H
        try go_wp2
        have n0_ := Aside0.mk (Kd.R_drew HO_5.out)
        have n1_ := Aside0.mk (below_drew1 HB.out)
        clear HO_5
        clear HB
        have HO_5 := n0_
        have HB := n1_
        clear n0_ n1_
        obtain ⟨Ao13, co13, eo13⟩ := Kd.R_slice HO_5.out
        (first | subst eo13 | (injection eo13 with f1_ f2_ f3_; have f4_ := f1_.symm; have f5_ := f3_.symm; clear f1_ f2_ f3_; subst f4_; subst f5_))
        have p158 : 0 ≤ (x7_2 : Int) := oD
        have q158 : x7_2 < (x5_1.length : Int) := oD
        obtain ⟨ad158, e158, hx158_0⟩ := Kd.at_int (Kd.R_reads' HO_5.out).2.2 x7_2 p158 q158
        cases e158
        replace p158 := eq_true p158
        replace q158 := eq_true q158
        have p159 : 0 ≤ (x6_1 : Int) := oD
        have q159 : x6_1 < (l1.length : Int) := oD
        obtain ⟨ad159, e159, hx159_0⟩ := Kd.at_int HR1.out x6_1 p159 q159
        have hw159_0 := hx159_0
        cases e159
        replace hx159_0 := (cB HB.out hx159_0 :)
        replace p159 := eq_true p159
        replace q159 := eq_true q159
        refine start_ (n := 16) (S := fun w' => w'.cell? (ad158.add (x7_2).toNat) = some (.int .i64 (rd x5_1 x7_2)) ∧ w'.cell? (ad159.add (x6_1).toNat) = some (.int .i64 (rd l1 x6_1))) (ds := []) (bA 16 0) (by kernel_rfl) rfl rfl ⟨hx158_0, (cB HB.out hw159_0 :)⟩ (fun hHeld => ?_); refine with_tabW spec_l6Due.tab6 spec_l6Due.bits6 (fun HT_ HW_ => ?_)
        generalize wr.drew = w12 at HO_5 HB hx158_0 hx159_0 hHeld ⊢
        refine pU 0 15 (bA 16 1) ?_
        refine pU 1 16 (bA 16 3) ?_
        refine pU 2 17 (bA 16 7) ?_
        refine pU 3 18 (bA 16 15) ?_
        refine pU 4 19 (bA 16 31) ?_
        refine pU 5 20 (bA 16 63) ?_
        refine pU 6 21 (bA 16 127) ?_
        refine pU 7 22 (bA 16 255) ?_
        refine pU 8 23 (bA 16 511) ?_
        refine pU 10 25 (bA 16 1535) ?_
        refine pU 11 26 (bA 16 3583) ?_
        refine pU 12 27 (bA 16 7679) ?_
        refine tU 9 24 (bA 16 8191) ?_
        refine tU 13 28 (bA 16 16383) ?_
        refine one_ (i := 14) (N := some 29) (bA 16 32767) rfl rfl (one_of HT_.out (by kernel_rfl)) (by decide) (fun K hK => ?_)
        refine goes_ Try.func143 (by kernel_rfl) rfl #[.slice A0 l0.length c0, .int .i64 (rd x5_1 x7_2), .int .i64 (rd l1 x6_1)] (by rfl) rfl rfl aE ?_
        with_reducible refine (spec_l6Sooner.calls _ _ l0 (rd x5_1 x7_2) (rd l1 x6_1) true _ ?side1 ?side2 A10.out).mono ?_
        (case side1 => exact cK ((Kd.C_below HR0.out HB.out)))
        (case side2 => exact HC0.out)
        rintro e w' ⟨rfl, ⟨nd, rfl⟩⟩
        refine ⟨_, rfl, ?_⟩
        refine hK.out _ _ ⟨hHeld.1, (cB HB.out hw159_0 :)⟩ (fun hHeld => ?_)
        clear hK K
        refine norm_ (a' := ?_) ?_ ?_
        rotate_left
        ·show Act.put _ (some 29) _ = _
         simp only [Act.put, sA, sZ, sS, i64_w, i32_w]
         rfl
        refine pU 15 30 (bA 16 65535) ?_
        refine done_ (done_of HT_.out (by kernel_rfl)) ?_
        try go_wp2
        go_roundg k2
        case measure => have := HK1.out; have := HK2.out; omega
        case rel => exact ⟨(wrap64 (x7_2 + 1)), sD, H', ⟨by have := HK1.out; have := HK2.out; omega⟩, ⟨kR⟩, ⟨by repeat (first | (with_reducible first | exact HB.out | apply below_alloc | apply pw_below_drewN | apply below_drew1) | exact HB.out)⟩⟩
       ·replace c11 := Bool.eq_false_iff.mpr c11
        subst c11
        have H1 : ((some (([] : List Int) : List Int)).bind fun y161 => (if x7_2 ≤ (x5_1.length : Int) then ((some (x5_1.take (x7_2 : Int).toNat : List Int)).bind fun y164 => (if y161.length + y164.length < 17592186044416 then ((some (y161 ++ y164 : List Int)).bind fun y168 => ((some (([rd l1 x6_1] : List Int) : List Int)).bind fun y172 => (if y168.length + y172.length < 17592186044416 then ((some (y168 ++ y172 : List Int)).bind fun y175 => ((some (x5_1.drop (x7_2 : Int).toNat : List Int)).bind fun y178 => (if y175.length + y178.length < 17592186044416 then (spec_l6Due.l0 k2 l0 l1 (y175 ++ y178) (wrap64 (x6_1 + 1))) else (none)))) else (none)))) else (none))) else (none))) = some r := by rw [if_neg (show ¬ (false = true) by decide)] at H; exact H
        clear H
        have H := H1
        clear H1
        obtain ⟨y161, hy161⟩ : ∃ y_ : List Int, y_ = (([] : List Int)) := ⟨_, rfl⟩
        replace H : (if x7_2 ≤ (x5_1.length : Int) then ((some (x5_1.take (x7_2 : Int).toNat : List Int)).bind fun y164 => (if y161.length + y164.length < 17592186044416 then ((some (y161 ++ y164 : List Int)).bind fun y168 => ((some (([rd l1 x6_1] : List Int) : List Int)).bind fun y172 => (if y168.length + y172.length < 17592186044416 then ((some (y168 ++ y172 : List Int)).bind fun y175 => ((some (x5_1.drop (x7_2 : Int).toNat : List Int)).bind fun y178 => (if y175.length + y178.length < 17592186044416 then (spec_l6Due.l0 k2 l0 l1 (y175 ++ y178) (wrap64 (x6_1 + 1))) else (none)))) else (none)))) else (none))) else (none)) = some r := by first | (rw [hy161]; with_reducible exact H) | (have H2_ := (Option.bind_some _ _).symm.trans H; rw [hy161]; with_reducible exact H2_) | (have H2_ := (Option.bind_some _ _).symm.trans H; with_reducible exact H2_) | with_reducible exact H | (rw [hy161]; exact H) | exact H
        have Ny161 := Aside0.mk hy161
        clear hy161
        have c14b0 := eq_true (oD : 0 ≤ x7_2)
        by_cases c15 : x7_2 ≤ (x5_1.length : Int); rotate_left
        ·rw [if_neg c15] at H; exact absurd H (by simp)
        rw [if_pos c15] at H
        have c15b0 := eq_true c15
        have c15b1 : decide (x7_2 ≤ (x5_1.length : Int)) = true := decide_eq_true c15
        clear c15
        obtain ⟨y164, hy164⟩ : ∃ y_ : List Int, y_ = (x5_1.take (x7_2 : Int).toNat) := ⟨_, rfl⟩
        replace H : (if y161.length + y164.length < 17592186044416 then ((some (y161 ++ y164 : List Int)).bind fun y168 => ((some (([rd l1 x6_1] : List Int) : List Int)).bind fun y172 => (if y168.length + y172.length < 17592186044416 then ((some (y168 ++ y172 : List Int)).bind fun y175 => ((some (x5_1.drop (x7_2 : Int).toNat : List Int)).bind fun y178 => (if y175.length + y178.length < 17592186044416 then (spec_l6Due.l0 k2 l0 l1 (y175 ++ y178) (wrap64 (x6_1 + 1))) else (none)))) else (none)))) else (none)) = some r := by first | (rw [hy164]; with_reducible exact H) | (have H2_ := (Option.bind_some _ _).symm.trans H; rw [hy164]; with_reducible exact H2_) | (have H2_ := (Option.bind_some _ _).symm.trans H; with_reducible exact H2_) | with_reducible exact H | (rw [hy164]; exact H) | exact H
        have Ny164 := Aside0.mk hy164
        clear hy164
        by_cases c16 : y161.length + y164.length < 17592186044416; rotate_left
        ·rw [if_neg c16] at H; exact absurd H (by simp)
        rw [if_pos c16] at H
        have LMc16 := Aside0.mk c16
        clear c16
        obtain ⟨y168, hy168⟩ : ∃ y_ : List Int, y_ = (y161 ++ y164) := ⟨_, rfl⟩
        replace H : ((some (([rd l1 x6_1] : List Int) : List Int)).bind fun y172 => (if y168.length + y172.length < 17592186044416 then ((some (y168 ++ y172 : List Int)).bind fun y175 => ((some (x5_1.drop (x7_2 : Int).toNat : List Int)).bind fun y178 => (if y175.length + y178.length < 17592186044416 then (spec_l6Due.l0 k2 l0 l1 (y175 ++ y178) (wrap64 (x6_1 + 1))) else (none)))) else (none))) = some r := by first | (rw [hy168]; with_reducible exact H) | (have H2_ := (Option.bind_some _ _).symm.trans H; rw [hy168]; with_reducible exact H2_) | (have H2_ := (Option.bind_some _ _).symm.trans H; with_reducible exact H2_) | with_reducible exact H | (rw [hy168]; exact H) | exact H
        have Ny168 := Aside0.mk hy168
        clear hy168
        obtain ⟨y172, hy172⟩ : ∃ y_ : List Int, y_ = (([rd l1 x6_1] : List Int)) := ⟨_, rfl⟩
        replace H : (if y168.length + y172.length < 17592186044416 then ((some (y168 ++ y172 : List Int)).bind fun y175 => ((some (x5_1.drop (x7_2 : Int).toNat : List Int)).bind fun y178 => (if y175.length + y178.length < 17592186044416 then (spec_l6Due.l0 k2 l0 l1 (y175 ++ y178) (wrap64 (x6_1 + 1))) else (none)))) else (none)) = some r := by first | (rw [hy172]; with_reducible exact H) | (have H2_ := (Option.bind_some _ _).symm.trans H; rw [hy172]; with_reducible exact H2_) | (have H2_ := (Option.bind_some _ _).symm.trans H; with_reducible exact H2_) | with_reducible exact H | (rw [hy172]; exact H) | exact H
        have Ny172 := Aside0.mk hy172
        clear hy172
        by_cases c17 : y168.length + y172.length < 17592186044416; rotate_left
        ·rw [if_neg c17] at H; exact absurd H (by simp)
        rw [if_pos c17] at H
        have LMc17 := Aside0.mk c17
        clear c17
        obtain ⟨y175, hy175⟩ : ∃ y_ : List Int, y_ = (y168 ++ y172) := ⟨_, rfl⟩
        replace H : ((some (x5_1.drop (x7_2 : Int).toNat : List Int)).bind fun y178 => (if y175.length + y178.length < 17592186044416 then (spec_l6Due.l0 k2 l0 l1 (y175 ++ y178) (wrap64 (x6_1 + 1))) else (none))) = some r := by first | (rw [hy175]; with_reducible exact H) | (have H2_ := (Option.bind_some _ _).symm.trans H; rw [hy175]; with_reducible exact H2_) | (have H2_ := (Option.bind_some _ _).symm.trans H; with_reducible exact H2_) | with_reducible exact H | (rw [hy175]; exact H) | exact H
        have Ny175 := Aside0.mk hy175
        clear hy175
        have c18b0 := eq_true (oD : 0 ≤ x7_2)
        have c19b0 := eq_true (oD : x7_2 ≤ (x5_1.length : Int))
        obtain ⟨y178, hy178⟩ : ∃ y_ : List Int, y_ = (x5_1.drop (x7_2 : Int).toNat) := ⟨_, rfl⟩
        replace H : (if y175.length + y178.length < 17592186044416 then (spec_l6Due.l0 k2 l0 l1 (y175 ++ y178) (wrap64 (x6_1 + 1))) else (none)) = some r := by first | (rw [hy178]; with_reducible exact H) | (have H2_ := (Option.bind_some _ _).symm.trans H; rw [hy178]; with_reducible exact H2_) | (have H2_ := (Option.bind_some _ _).symm.trans H; with_reducible exact H2_) | with_reducible exact H | (rw [hy178]; exact H) | exact H
        have Ny178 := Aside0.mk hy178
        clear hy178
        by_cases c20 : y175.length + y178.length < 17592186044416; rotate_left
        ·rw [if_neg c20] at H; exact absurd H (by simp)
        rw [if_pos c20] at H
        have LMc20 := Aside0.mk c20
        clear c20
        obtain ⟨y182, hy182⟩ : ∃ y_ : List Int, y_ = (y175 ++ y178) := ⟨_, rfl⟩
        replace H : (spec_l6Due.l0 k2 l0 l1 y182 (wrap64 (x6_1 + 1))) = some r := by first | (rw [hy182]; with_reducible exact H) | (have H2_ := (Option.bind_some _ _).symm.trans H; rw [hy182]; with_reducible exact H2_) | (have H2_ := (Option.bind_some _ _).symm.trans H; with_reducible exact H2_) | with_reducible exact H | (rw [hy182]; exact H) | exact H
        have Ny182 := Aside0.mk hy182
        clear hy182
        have H' := Aside0.mk H
        clear H
        try go_wp2
        have n0_ := Aside0.mk (Kd.R_drew HO_5.out)
        have n1_ := Aside0.mk (below_drew1 HB.out)
        clear HO_5
        clear HB
        have HO_5 := n0_
        have HB := n1_
        clear n0_ n1_
        obtain ⟨Ao22, co22, eo22⟩ := Kd.R_slice HO_5.out
        (first | subst eo22 | (injection eo22 with f1_ f2_ f3_; have f4_ := f1_.symm; have f5_ := f3_.symm; clear f1_ f2_ f3_; subst f4_; subst f5_))
        have p158 : 0 ≤ (x7_2 : Int) := oD
        have q158 : x7_2 < (x5_1.length : Int) := oD
        obtain ⟨ad158, e158, hx158_0⟩ := Kd.at_int (Kd.R_reads' HO_5.out).2.2 x7_2 p158 q158
        cases e158
        replace p158 := eq_true p158
        replace q158 := eq_true q158
        have p159 : 0 ≤ (x6_1 : Int) := oD
        have q159 : x6_1 < (l1.length : Int) := oD
        obtain ⟨ad159, e159, hx159_0⟩ := Kd.at_int HR1.out x6_1 p159 q159
        have hw159_0 := hx159_0
        cases e159
        replace hx159_0 := (cB HB.out hx159_0 :)
        replace p159 := eq_true p159
        replace q159 := eq_true q159
        refine start_ (n := 16) (S := fun w' => w'.cell? (ad158.add (x7_2).toNat) = some (.int .i64 (rd x5_1 x7_2)) ∧ w'.cell? (ad159.add (x6_1).toNat) = some (.int .i64 (rd l1 x6_1))) (ds := []) (bA 16 0) (by kernel_rfl) rfl rfl ⟨hx158_0, (cB HB.out hw159_0 :)⟩ (fun hHeld => ?_); refine with_tabW spec_l6Due.tab6 spec_l6Due.bits6 (fun HT_ HW_ => ?_)
        generalize wr.drew = w21 at HO_5 HB hx158_0 hx159_0 hHeld ⊢
        refine pU 0 15 (bA 16 1) ?_
        refine pU 1 16 (bA 16 3) ?_
        refine pU 2 17 (bA 16 7) ?_
        refine pU 3 18 (bA 16 15) ?_
        refine pU 4 19 (bA 16 31) ?_
        refine pU 5 20 (bA 16 63) ?_
        refine pU 6 21 (bA 16 127) ?_
        refine pU 7 22 (bA 16 255) ?_
        refine pU 8 23 (bA 16 511) ?_
        refine pU 10 25 (bA 16 1535) ?_
        refine pU 11 26 (bA 16 3583) ?_
        refine pU 12 27 (bA 16 7679) ?_
        refine tU 9 24 (bA 16 8191) ?_
        refine tU 13 28 (bA 16 16383) ?_
        refine one_ (i := 14) (N := some 29) (bA 16 32767) rfl rfl (one_of HT_.out (by kernel_rfl)) (by decide) (fun K hK => ?_)
        refine goes_ Try.func143 (by kernel_rfl) rfl #[.slice A0 l0.length c0, .int .i64 (rd x5_1 x7_2), .int .i64 (rd l1 x6_1)] (by rfl) rfl rfl aE ?_
        with_reducible refine (spec_l6Sooner.calls _ _ l0 (rd x5_1 x7_2) (rd l1 x6_1) false _ ?side1 ?side2 A10.out).mono ?_
        (case side1 => exact cK ((Kd.C_below HR0.out HB.out)))
        (case side2 => exact HC0.out)
        rintro e w' ⟨rfl, ⟨nd, rfl⟩⟩
        refine ⟨_, rfl, ?_⟩
        refine hK.out _ _ ⟨hHeld.1, (cB HB.out hw159_0 :)⟩ (fun hHeld => ?_)
        clear hK K
        refine norm_ (a' := ?_) ?_ ?_
        rotate_left
        ·show Act.put _ (some 29) _ = _
         simp only [Act.put, sA, sZ, sS, i64_w, i32_w]
         rfl
        refine pU 15 30 (bA 16 65535) ?_
        refine done_ (done_of HT_.out (by kernel_rfl)) ?_
        try go_wp2
        (try (rw [drewN_self w21]; generalize hq_ : World.drewN w21 _ = w21; have n0_ : Aside0 (Kd.R (Kd.int .i64) 3 w21 w.heap.size (fun _ => True) (.slice (some ad158) x5_1.length co22) x5_1) := ⟨by rw [← hq_]; exact (by (with_reducible repeat (first | apply Kd.R_alloc | apply Kd.R_drewN | apply Kd.R_drew)); exact HO_5.out)⟩; have n1_ : Aside0 (Below w.heap.size w w21) := ⟨by rw [← hq_]; exact bB⟩; clear HO_5 HB hq_; have HO_5 := n0_; have HB := n1_; clear n0_ n1_))
        have n0_ := Aside0.mk (Kd.R_drew HO_5.out)
        have n1_ := Aside0.mk (below_drew1 HB.out)
        clear HO_5
        clear HB
        have HO_5 := n0_
        have HB := n1_
        clear n0_ n1_
        have q24 : (x7_2 : Int) ≤ ((x5_1.length : Int) : Int) := oD
        obtain ⟨i024, hi024, _, hsz24, _⟩ := info_parts info3
        have hroom24 : x5_1.length ≤ co22 := (Kd.R_reads' HO_5.out).2.1
        have hC24 : Kd.C (Kd.int .i64) _ (some ad158) x5_1.length x5_1 := (Kd.R_reads' HO_5.out).2.2
        have hcut24 := cut_to (P := Try.prog) 37 3 .i64 Try.underlying37 hi024 (some ad158) x5_1.length co22 x7_2 (oD) q24 hroom24
        have hr24 := Kd.C_take (m := (x7_2 : Int).toNat) hC24 (by omega)
        have hy24 : y164.length = (x7_2 : Int).toNat := (by rw [Ny164.out, List.length_take]; omega)
        rw [← Ny164.out] at hr24
        rw [← hy24] at hcut24
        have HR167 := Aside0.mk hr24
        have HC167 := Aside0.mk (show y164.length ≤ co22 from by omega)
        clear hr24 hC24 hroom24 hi024 hsz24
        have KY24 := Aside0.mk hy24
        clear hy24
        have KL24 := Aside0.mk (show (x7_2 : Int).toNat ≤ x5_1.length from by omega)
        replace q24 := eq_true q24
        have p171 : 0 ≤ (x6_1 : Int) := oD
        have q171 : x6_1 < (l1.length : Int) := oD
        obtain ⟨ad171, e171, hx171_0⟩ := Kd.at_int HR1.out x6_1 p171 q171
        have hw171_0 := hx171_0
        obtain rfl : ad159 = ad171 := (by injection e171)
        replace hx171_0 := (cB HB.out hx171_0 :)
        replace p171 := eq_true p171
        replace q171 := eq_true q171
        have q25 : (x7_2 : Int) ≤ ((x5_1.length : Int) : Int) := oD
        obtain ⟨i025, hi025, _, hsz25, _⟩ := info_parts info3
        have hroom25 : x5_1.length ≤ co22 := (Kd.R_reads' HO_5.out).2.1
        have hC25 : Kd.C (Kd.int .i64) _ (some ad158) x5_1.length x5_1 := (Kd.R_reads' HO_5.out).2.2
        have q025 : (0 : Int) ≤ (x7_2 : Int) := oD
        have hcut25 := cut_from (P := Try.prog) 37 3 .i64 Try.underlying37 hi025 1 hsz25 (some ad158) x5_1.length co22 x7_2 q025 q25
        have hr25 := Kd.C_drop (m := (x7_2 : Int).toNat) (c := co22) hC25 (by omega) hroom25
        obtain ⟨A25, hA25⟩ : ∃ A1, A1 = (if co22 = (x7_2 : Int).toNat then (some ad158) else ((some ad158) : Option Addr).map (·.add ((x7_2 : Int).toNat * 1))) := ⟨_, rfl⟩
        obtain ⟨c25, hc25⟩ : ∃ c1, c1 = co22 - (x7_2 : Int).toNat := ⟨_, rfl⟩
        have hy25 : y178.length = x5_1.length - (x7_2 : Int).toNat := (by rw [Ny178.out, List.length_drop] <;> omega)
        rw [show (x5_1).drop (x7_2 : Int).toNat = y178 from Ny178.out.symm] at hr25
        replace hr25 : Kd.C (Kd.int .i64) _ A25 y178.length y178 := (by rw [hA25]; exact hr25)
        rw [← hy25, ← hA25, ← hc25] at hcut25
        have HR181 := Aside0.mk hr25
        have HC181 := Aside0.mk (show y178.length ≤ c25 from by rw [hy25, hc25]; exact Nat.sub_le_sub_right hroom25 _)
        clear hr25 hC25 hroom25 hi025 hsz25 hc25
        have KY25 := Aside0.mk hy25
        have KA25 := Aside0.mk hA25
        clear hy25 hA25
        have KL25 := Aside0.mk (show (x7_2 : Int).toNat ≤ x5_1.length from by omega)
        replace q25 := eq_true q25
        refine start_ (n := 16) (S := fun w' => w'.cell? (ad159.add (x6_1).toNat) = some (.int .i64 (rd l1 x6_1))) (ds := []) (bA 16 0) (by kernel_rfl) rfl rfl ((cB HB.out hw171_0 :)) (fun hHeld => ?_); refine with_tabW spec_l6Due.tab8 spec_l6Due.bits8 (fun HT_ HW_ => ?_)
        generalize w21.drew = w23 at HO_5 HB HR167 HR181 hx171_0 hHeld ⊢
        refine pU 1 34 (bA 16 2) ?_
        refine pU 2 35 (bA 16 6) ?_
        refine pU 3 36 (bA 16 14) ?_
        refine pU 5 38 (bA 16 46) ?_
        refine pU 6 39 (bA 16 110) ?_
        refine pU 7 40 (bA 16 238) ?_
        refine pU 11 44 (bA 16 2286) ?_
        refine pU 12 45 (bA 16 6382) ?_
        refine pU 13 46 (bA 16 14574) ?_
        refine tU 8 41 (bA 16 14830) ?_
        refine join_ (σ := Value × Value × Value) 3 (bA 16 15359) (fun s_ => [(33, s_.1), (37, s_.2.1), (42, s_.2.2)]) (fun s_ w' => (w'.cell? (ad159.add (x6_1).toNat) = some (.int .i64 (rd l1 x6_1))) ∧ (Kd.R (Kd.int .i64) 3 w' w.heap.size (fun k_ => some k_ ≠ (s_.2.2 : Value).ownBlock ∧ some k_ ≠ (.slice (some ad158) x5_1.length co22 : Value).ownBlock) s_.2.1 y168) ∧ (Kd.R (Kd.int .i64) 3 w' w.heap.size (fun k_ => some k_ ≠ (s_.2.1 : Value).ownBlock ∧ some k_ ≠ (.slice (some ad158) x5_1.length co22 : Value).ownBlock) s_.2.2 y172) ∧ (Kd.R (Kd.int .i64) 3 w' w.heap.size (fun k_ => some k_ ≠ (s_.2.1 : Value).ownBlock ∧ some k_ ≠ (s_.2.2 : Value).ownBlock) (.slice (some ad158) x5_1.length co22) x5_1) ∧ (Below w.heap.size w w')) ?_ ?_
        rotate_left
        ·intro hCont
         refine two_ (i := 0) (j := 9) (Ni := some 33) (Nj := some 42) (bA 16 14831) (bA 16 15342) rfl rfl rfl rfl (two_of HT_.out (by kernel_rfl)) (by decide) (by decide) (fun K hK => ?_) (fun K hK => ?_)
         ·skip
          refine Kd.R_lit_step (Kd.int .i64) _ 3 ?hg (N := 33) ?hd (xs := ([] : List Int)) (inner := []) (ok := fun _ => True) (okp := fun _ => True) ?hr ?hp (fun _ hk => hk) trivial (Below.refl _ _) (Nat.le_refl _) (by simp) ?_; (case hd => rfl); (case hg => rfl); (case hr => first | (go_simp; done) | (go_simp; rfl)); (case hp => exact (Reps.none _ _))
          intro v162 w26 ho27 hb hg_ hnew_
          clear hg_ hnew_
          (first | rw [← Ny161.out] at ho27 | (simp only [Int.reduceToNat] at ho27; rw [← Ny161.out] at ho27))
          have n0_ := Aside0.mk (Kd.R_elder' (by (with_reducible repeat (first | apply Kd.R_alloc | apply Kd.R_drewN | apply Kd.R_drew)); exact HO_5.out) (Kd.R_base ho27) hb)
          have n1_ := Aside0.mk (Kd.R_lower (Kd.R_new' ho27 (Kd.R_lt (by (with_reducible repeat (first | apply Kd.R_alloc | apply Kd.R_drewN | apply Kd.R_drew)); exact HO_5.out))) (below_size bB))
          have n2_ := Aside0.mk (Kd.C_below (by repeat (first | (with_reducible exact HR167.out) | (with_reducible refine Kd.C_alloc ?_ _) | (with_reducible refine Kd.C_drewN ?_ _) | (with_reducible refine Kd.C_drew ?_) | exact HR167.out)) hb)
          have n3_ := Aside0.mk (Kd.C_below (by repeat (first | (with_reducible exact HR181.out) | (with_reducible refine Kd.C_alloc ?_ _) | (with_reducible refine Kd.C_drewN ?_ _) | (with_reducible refine Kd.C_drew ?_) | exact HR181.out)) hb)
          have n4_ := Aside0.mk (below_step bB hb)
          clear HO_5
          clear HR167
          clear HR181
          clear HB
          have HO_5 := n0_
          have HO163 := n1_
          have HR167 := n2_
          have HR181 := n3_
          have HB := n4_
          clear n0_ n1_ n2_ n3_ n4_
          clear hb ho27
          refine hK.out _ _ ((cB HB.out hw171_0 :)) (fun hHeld => ?_)
          clear hK K
          refine norm_ (a' := ?_) ?_ ?_
          rotate_left
          ·show Act.put _ (some 33) _ = _
           simp only [Act.put, sA, sZ, sS, i64_w, i32_w]
           rfl
          refine two_ (i := 4) (j := 9) (Ni := some 37) (Nj := some 42) (bA 16 14847) (bA 16 15343) rfl rfl rfl rfl (two_of HT_.out (by kernel_rfl)) (by decide) (by decide) (fun K hK => ?_) (fun K hK => ?_)
          ·skip
           refine Kd.R_append_rows_step (Kd.int .i64) (w0 := w) w.heap.size (by rfl) (.tmp 33) (.tmp 36) 37 3 (.int .i64 0) 8 rfl Try.underlying37 info3 rfl (by decide) (by omega) v162 y161 y164 _ _ _ (fun k_ => some k_ ≠ (.slice (some ad158) x5_1.length co22 : Value).ownBlock) (fun _ => False) rfl rfl ?aO ?aR (fun _ _ h => h) (fun _ h => h.elim) ?aF ?aB ?aS ?aL ?_
           (case aR => repeat (first | exact (by repeat (first | (with_reducible exact HR167.out) | (with_reducible refine Kd.C_alloc ?_ _) | (with_reducible refine Kd.C_drewN ?_ _) | (with_reducible refine Kd.C_drew ?_) | exact HR167.out)) | (with_reducible refine Kd.C_alloc ?_ _) | (with_reducible refine Kd.C_drewN ?_ _) | (with_reducible refine Kd.C_drew ?_)))
           (case aB => exact bB)
           (case aF => exact (fun k_ hk => Kd.fresh' (Kd.R_lt (by (with_reducible repeat (first | apply Kd.R_alloc | apply Kd.R_drewN | apply Kd.R_drew)); exact HO_5.out)) k_ hk))
           (case aO => exact (by (with_reducible repeat (first | apply Kd.R_alloc | apply Kd.R_drewN | apply Kd.R_drew)); exact Kd.R_mono HO163.out (fun _ hk => hk.2)))
           (case aS => exact (below_size bB))
           (case aL => have := LMc16.out; omega)
           intro v169 w28 ho hb hg hat
           rw [← Ny168.out] at ho
           have n0_ := Aside0.mk (Kd.R_after (ok := (fun _ => True)) (by (with_reducible repeat (first | apply Kd.R_alloc | apply Kd.R_drewN | apply Kd.R_drew)); exact HO_5.out) hg hat)
           have n1_ := Aside0.mk (hb)
           have n2_ := Aside0.mk ((show Kd.C (Kd.int .i64) w28 (some ad158) y164.length y164 from by rw [Ny164.out]; exact Kd.C_take (m := (x7_2 : Int).toNat) ((Kd.R_reads' (Kd.R_after (ok := (fun _ => True)) (by (with_reducible repeat (first | apply Kd.R_alloc | apply Kd.R_drewN | apply Kd.R_drew)); exact HO_5.out) hg hat)).2.2) KL24.out))
           have n3_ := Aside0.mk ((show Kd.C (Kd.int .i64) w28 A25 y178.length y178 from by rw [Ny178.out, KA25.out]; exact Kd.C_drop (m := (x7_2 : Int).toNat) (c := co22) ((Kd.R_reads' (Kd.R_after (ok := (fun _ => True)) (by (with_reducible repeat (first | apply Kd.R_alloc | apply Kd.R_drewN | apply Kd.R_drew)); exact HO_5.out) hg hat)).2.2) KL25.out ((Kd.R_reads' (Kd.R_after (ok := (fun _ => True)) (by (with_reducible repeat (first | apply Kd.R_alloc | apply Kd.R_drewN | apply Kd.R_drew)); exact HO_5.out) hg hat)).2.1)))
           have n4_ := Aside0.mk (ho)
           clear HO_5
           clear HB
           clear HR167
           clear HR181
           clear HO163
           have HO_5 := n0_
           have HB := n1_
           have HR167 := n2_
           have HR181 := n3_
           have HO170 := n4_
           clear n0_ n1_ n2_ n3_ n4_
           clear ho hb hg hat
           refine hK.out _ _ ((cB HB.out hw171_0 :)) (fun hHeld => ?_)
           clear hK K
           refine norm_ (a' := ?_) ?_ ?_
           rotate_left
           ·show Act.put _ (some 37) _ = _
            simp only [Act.put, sA, sZ, sS, i64_w, i32_w]
            rfl
           refine one_ (i := 9) (N := some 42) (bA 16 15359) rfl rfl (one_of HT_.out (by kernel_rfl)) (by decide) (fun K hK => ?_)
           refine Kd.R_lit_step (Kd.int .i64) _ 3 ?hg (N := 42) ?hd (xs := ([rd l1 x6_1] : List Int)) (inner := [.int .i64 (rd l1 x6_1)]) (ok := fun _ => True) (okp := fun _ => True) ?hr ?hp (fun _ hk => hk) trivial (Below.refl _ _) (Nat.le_refl _) (by simp) ?_; (case hd => rfl); (case hg => rfl); (case hr => first | (go_simp; done) | (go_simp; rfl)); (case hp => exact (Reps.one (show Kd.M (Kd.int .i64) _ _ _ (rd l1 x6_1) [.int .i64 (rd l1 x6_1)] from rfl) (Reps.none _ _)))
           intro v173 w29 ho30 hb hg_ hnew_
           clear hg_ hnew_
           (first | rw [← Ny172.out] at ho30 | (simp only [Int.reduceToNat] at ho30; rw [← Ny172.out] at ho30))
           have n0_ := Aside0.mk (Kd.R_elder' (by (with_reducible repeat (first | apply Kd.R_alloc | apply Kd.R_drewN | apply Kd.R_drew)); exact HO_5.out) (Kd.R_base ho30) hb)
           have n1_ := Aside0.mk (Kd.R_elder' (by (with_reducible repeat (first | apply Kd.R_alloc | apply Kd.R_drewN | apply Kd.R_drew)); exact HO170.out) (Kd.R_base ho30) hb)
           have n2_ := Aside0.mk (Kd.R_lower (Kd.R_new' (Kd.R_new' ho30 (Kd.R_lt (by (with_reducible repeat (first | apply Kd.R_alloc | apply Kd.R_drewN | apply Kd.R_drew)); exact HO_5.out))) (Kd.R_lt (by (with_reducible repeat (first | apply Kd.R_alloc | apply Kd.R_drewN | apply Kd.R_drew)); exact HO170.out))) (below_size bB))
           have n3_ := Aside0.mk (Kd.C_below (by repeat (first | (with_reducible exact HR167.out) | (with_reducible refine Kd.C_alloc ?_ _) | (with_reducible refine Kd.C_drewN ?_ _) | (with_reducible refine Kd.C_drew ?_) | exact HR167.out)) hb)
           have n4_ := Aside0.mk (Kd.C_below (by repeat (first | (with_reducible exact HR181.out) | (with_reducible refine Kd.C_alloc ?_ _) | (with_reducible refine Kd.C_drewN ?_ _) | (with_reducible refine Kd.C_drew ?_) | exact HR181.out)) hb)
           have n5_ := Aside0.mk (below_step bB hb)
           clear HO_5
           clear HO170
           clear HR167
           clear HR181
           clear HB
           have HO_5 := n0_
           have HO170 := n1_
           have HO174 := n2_
           have HR167 := n3_
           have HR181 := n4_
           have HB := n5_
           clear n0_ n1_ n2_ n3_ n4_ n5_
           clear hb ho30
           refine hK.out _ _ ((cB HB.out hw171_0 :)) (fun hHeld => ?_)
           clear hK K
           refine norm_ (a' := ?_) ?_ ?_
           rotate_left
           ·show Act.put _ (some 42) _ = _
            simp only [Act.put, sA, sZ, sS, i64_w, i32_w]
            rfl
           exact norm_ (by simp only [putAll, Act.put, sA, sZ, sS]) (hCont (v162, v169, v173) _ ⟨hHeld, (by (with_reducible repeat (first | apply Kd.R_alloc | apply Kd.R_drewN | apply Kd.R_drew)); exact Kd.R_mono HO170.out (fun _ hk => ⟨hk.2, hk.1⟩)), (by (with_reducible repeat (first | apply Kd.R_alloc | apply Kd.R_drewN | apply Kd.R_drew)); exact Kd.R_mono HO174.out (fun _ hk => ⟨hk.2, hk.1.2⟩)), (by (with_reducible repeat (first | apply Kd.R_alloc | apply Kd.R_drewN | apply Kd.R_drew)); exact Kd.R_mono HO_5.out (fun _ hk => ⟨hk.1.2, hk.2⟩)), bB⟩)
          ·skip
           refine Kd.R_lit_step (Kd.int .i64) _ 3 ?hg (N := 42) ?hd (xs := ([rd l1 x6_1] : List Int)) (inner := [.int .i64 (rd l1 x6_1)]) (ok := fun _ => True) (okp := fun _ => True) ?hr ?hp (fun _ hk => hk) trivial (Below.refl _ _) (Nat.le_refl _) (by simp) ?_; (case hd => rfl); (case hg => rfl); (case hr => first | (go_simp; done) | (go_simp; rfl)); (case hp => exact (Reps.one (show Kd.M (Kd.int .i64) _ _ _ (rd l1 x6_1) [.int .i64 (rd l1 x6_1)] from rfl) (Reps.none _ _)))
           intro v173 w28 ho29 hb hg_ hnew_
           clear hg_ hnew_
           (first | rw [← Ny172.out] at ho29 | (simp only [Int.reduceToNat] at ho29; rw [← Ny172.out] at ho29))
           have n0_ := Aside0.mk (Kd.R_elder' (by (with_reducible repeat (first | apply Kd.R_alloc | apply Kd.R_drewN | apply Kd.R_drew)); exact HO_5.out) (Kd.R_base ho29) hb)
           have n1_ := Aside0.mk (Kd.R_elder' (by (with_reducible repeat (first | apply Kd.R_alloc | apply Kd.R_drewN | apply Kd.R_drew)); exact HO163.out) (Kd.R_base ho29) hb)
           have n2_ := Aside0.mk (Kd.R_lower (Kd.R_new' (Kd.R_new' ho29 (Kd.R_lt (by (with_reducible repeat (first | apply Kd.R_alloc | apply Kd.R_drewN | apply Kd.R_drew)); exact HO_5.out))) (Kd.R_lt (by (with_reducible repeat (first | apply Kd.R_alloc | apply Kd.R_drewN | apply Kd.R_drew)); exact HO163.out))) (below_size bB))
           have n3_ := Aside0.mk (Kd.C_below (by repeat (first | (with_reducible exact HR167.out) | (with_reducible refine Kd.C_alloc ?_ _) | (with_reducible refine Kd.C_drewN ?_ _) | (with_reducible refine Kd.C_drew ?_) | exact HR167.out)) hb)
           have n4_ := Aside0.mk (Kd.C_below (by repeat (first | (with_reducible exact HR181.out) | (with_reducible refine Kd.C_alloc ?_ _) | (with_reducible refine Kd.C_drewN ?_ _) | (with_reducible refine Kd.C_drew ?_) | exact HR181.out)) hb)
           have n5_ := Aside0.mk (below_step bB hb)
           clear HO_5
           clear HO163
           clear HR167
           clear HR181
           clear HB
           have HO_5 := n0_
           have HO163 := n1_
           have HO174 := n2_
           have HR167 := n3_
           have HR181 := n4_
           have HB := n5_
           clear n0_ n1_ n2_ n3_ n4_ n5_
           clear hb ho29
           refine hK.out _ _ ((cB HB.out hw171_0 :)) (fun hHeld => ?_)
           clear hK K
           refine norm_ (a' := ?_) ?_ ?_
           rotate_left
           ·show Act.put _ (some 42) _ = _
            simp only [Act.put, sA, sZ, sS, i64_w, i32_w]
            rfl
           refine one_ (i := 4) (N := some 37) (bA 16 15359) rfl rfl (one_of HT_.out (by kernel_rfl)) (by decide) (fun K hK => ?_)
           refine Kd.R_append_rows_step (Kd.int .i64) (w0 := w) w.heap.size (by rfl) (.tmp 33) (.tmp 36) 37 3 (.int .i64 0) 8 rfl Try.underlying37 info3 rfl (by decide) (by omega) v162 y161 y164 _ _ _ (fun k_ => some k_ ≠ (.slice (some ad158) x5_1.length co22 : Value).ownBlock ∧ some k_ ≠ (v173 : Value).ownBlock) (fun _ => False) rfl rfl ?aO ?aR (fun _ _ h => h) (fun _ h => h.elim) ?aF ?aB ?aS ?aL ?_
           (case aR => repeat (first | exact (by repeat (first | (with_reducible exact HR167.out) | (with_reducible refine Kd.C_alloc ?_ _) | (with_reducible refine Kd.C_drewN ?_ _) | (with_reducible refine Kd.C_drew ?_) | exact HR167.out)) | (with_reducible refine Kd.C_alloc ?_ _) | (with_reducible refine Kd.C_drewN ?_ _) | (with_reducible refine Kd.C_drew ?_)))
           (case aB => exact bB)
           (case aF => exact (fun k_ hk => ⟨Kd.fresh' (Kd.R_lt (by (with_reducible repeat (first | apply Kd.R_alloc | apply Kd.R_drewN | apply Kd.R_drew)); exact HO_5.out)) k_ hk, Kd.fresh' (Kd.R_lt (by (with_reducible repeat (first | apply Kd.R_alloc | apply Kd.R_drewN | apply Kd.R_drew)); exact HO174.out)) k_ hk⟩))
           (case aO => exact (by (with_reducible repeat (first | apply Kd.R_alloc | apply Kd.R_drewN | apply Kd.R_drew)); exact Kd.R_mono HO163.out (fun _ hk => ⟨hk.1.2, hk.2⟩)))
           (case aS => exact (below_size bB))
           (case aL => have := LMc16.out; omega)
           intro v169 w30 ho hb hg hat
           rw [← Ny168.out] at ho
           have n0_ := Aside0.mk (Kd.R_after (ok := (fun k_ => some k_ ≠ (v173 : Value).ownBlock)) (by (with_reducible repeat (first | apply Kd.R_alloc | apply Kd.R_drewN | apply Kd.R_drew)); exact Kd.R_mono HO_5.out (fun _ hk => ⟨hk.2, hk.1.2⟩)) hg hat)
           have n1_ := Aside0.mk (Kd.R_after (ok := (fun k_ => some k_ ≠ (.slice (some ad158) x5_1.length co22 : Value).ownBlock)) (by (with_reducible repeat (first | apply Kd.R_alloc | apply Kd.R_drewN | apply Kd.R_drew)); exact Kd.R_mono HO174.out (fun _ hk => ⟨hk.1.2, hk.2⟩)) hg hat)
           have n2_ := Aside0.mk (hb)
           have n3_ := Aside0.mk ((show Kd.C (Kd.int .i64) w30 (some ad158) y164.length y164 from by rw [Ny164.out]; exact Kd.C_take (m := (x7_2 : Int).toNat) ((Kd.R_reads' (Kd.R_after (ok := (fun k_ => some k_ ≠ (v173 : Value).ownBlock)) (by (with_reducible repeat (first | apply Kd.R_alloc | apply Kd.R_drewN | apply Kd.R_drew)); exact Kd.R_mono HO_5.out (fun _ hk => ⟨hk.2, hk.1.2⟩)) hg hat)).2.2) KL24.out))
           have n4_ := Aside0.mk ((show Kd.C (Kd.int .i64) w30 A25 y178.length y178 from by rw [Ny178.out, KA25.out]; exact Kd.C_drop (m := (x7_2 : Int).toNat) (c := co22) ((Kd.R_reads' (Kd.R_after (ok := (fun k_ => some k_ ≠ (v173 : Value).ownBlock)) (by (with_reducible repeat (first | apply Kd.R_alloc | apply Kd.R_drewN | apply Kd.R_drew)); exact Kd.R_mono HO_5.out (fun _ hk => ⟨hk.2, hk.1.2⟩)) hg hat)).2.2) KL25.out ((Kd.R_reads' (Kd.R_after (ok := (fun k_ => some k_ ≠ (v173 : Value).ownBlock)) (by (with_reducible repeat (first | apply Kd.R_alloc | apply Kd.R_drewN | apply Kd.R_drew)); exact Kd.R_mono HO_5.out (fun _ hk => ⟨hk.2, hk.1.2⟩)) hg hat)).2.1)))
           have n5_ := Aside0.mk (ho)
           clear HO_5
           clear HO174
           clear HB
           clear HR167
           clear HR181
           clear HO163
           have HO_5 := n0_
           have HO174 := n1_
           have HB := n2_
           have HR167 := n3_
           have HR181 := n4_
           have HO170 := n5_
           clear n0_ n1_ n2_ n3_ n4_ n5_
           clear ho hb hg hat
           refine hK.out _ _ ((cB HB.out hw171_0 :)) (fun hHeld => ?_)
           clear hK K
           refine norm_ (a' := ?_) ?_ ?_
           rotate_left
           ·show Act.put _ (some 37) _ = _
            simp only [Act.put, sA, sZ, sS, i64_w, i32_w]
            rfl
           exact norm_ (by simp only [putAll, Act.put, sA, sZ, sS]) (hCont (v162, v169, v173) _ ⟨hHeld, (by (with_reducible repeat (first | apply Kd.R_alloc | apply Kd.R_drewN | apply Kd.R_drew)); exact Kd.R_mono HO170.out (fun _ hk => ⟨hk.2, hk.1⟩)), (by (with_reducible repeat (first | apply Kd.R_alloc | apply Kd.R_drewN | apply Kd.R_drew)); exact Kd.R_mono HO174.out (fun _ hk => ⟨hk.2, hk.1⟩)), (by (with_reducible repeat (first | apply Kd.R_alloc | apply Kd.R_drewN | apply Kd.R_drew)); exact Kd.R_mono HO_5.out (fun _ hk => ⟨hk.2, hk.1⟩)), bB⟩)
         ·skip
          refine Kd.R_lit_step (Kd.int .i64) _ 3 ?hg (N := 42) ?hd (xs := ([rd l1 x6_1] : List Int)) (inner := [.int .i64 (rd l1 x6_1)]) (ok := fun _ => True) (okp := fun _ => True) ?hr ?hp (fun _ hk => hk) trivial (Below.refl _ _) (Nat.le_refl _) (by simp) ?_; (case hd => rfl); (case hg => rfl); (case hr => first | (go_simp; done) | (go_simp; rfl)); (case hp => exact (Reps.one (show Kd.M (Kd.int .i64) _ _ _ (rd l1 x6_1) [.int .i64 (rd l1 x6_1)] from rfl) (Reps.none _ _)))
          intro v173 w26 ho27 hb hg_ hnew_
          clear hg_ hnew_
          (first | rw [← Ny172.out] at ho27 | (simp only [Int.reduceToNat] at ho27; rw [← Ny172.out] at ho27))
          have n0_ := Aside0.mk (Kd.R_elder' (by (with_reducible repeat (first | apply Kd.R_alloc | apply Kd.R_drewN | apply Kd.R_drew)); exact HO_5.out) (Kd.R_base ho27) hb)
          have n1_ := Aside0.mk (Kd.R_lower (Kd.R_new' ho27 (Kd.R_lt (by (with_reducible repeat (first | apply Kd.R_alloc | apply Kd.R_drewN | apply Kd.R_drew)); exact HO_5.out))) (below_size bB))
          have n2_ := Aside0.mk (Kd.C_below (by repeat (first | (with_reducible exact HR167.out) | (with_reducible refine Kd.C_alloc ?_ _) | (with_reducible refine Kd.C_drewN ?_ _) | (with_reducible refine Kd.C_drew ?_) | exact HR167.out)) hb)
          have n3_ := Aside0.mk (Kd.C_below (by repeat (first | (with_reducible exact HR181.out) | (with_reducible refine Kd.C_alloc ?_ _) | (with_reducible refine Kd.C_drewN ?_ _) | (with_reducible refine Kd.C_drew ?_) | exact HR181.out)) hb)
          have n4_ := Aside0.mk (below_step bB hb)
          clear HO_5
          clear HR167
          clear HR181
          clear HB
          have HO_5 := n0_
          have HO174 := n1_
          have HR167 := n2_
          have HR181 := n3_
          have HB := n4_
          clear n0_ n1_ n2_ n3_ n4_
          clear hb ho27
          refine hK.out _ _ ((cB HB.out hw171_0 :)) (fun hHeld => ?_)
          clear hK K
          refine norm_ (a' := ?_) ?_ ?_
          rotate_left
          ·show Act.put _ (some 42) _ = _
           simp only [Act.put, sA, sZ, sS, i64_w, i32_w]
           rfl
          refine one_ (i := 0) (N := some 33) (bA 16 15343) rfl rfl (one_of HT_.out (by kernel_rfl)) (by decide) (fun K hK => ?_)
          refine Kd.R_lit_step (Kd.int .i64) _ 3 ?hg (N := 33) ?hd (xs := ([] : List Int)) (inner := []) (ok := fun _ => True) (okp := fun _ => True) ?hr ?hp (fun _ hk => hk) trivial (Below.refl _ _) (Nat.le_refl _) (by simp) ?_; (case hd => rfl); (case hg => rfl); (case hr => first | (go_simp; done) | (go_simp; rfl)); (case hp => exact (Reps.none _ _))
          intro v162 w28 ho29 hb hg_ hnew_
          clear hg_ hnew_
          (first | rw [← Ny161.out] at ho29 | (simp only [Int.reduceToNat] at ho29; rw [← Ny161.out] at ho29))
          have n0_ := Aside0.mk (Kd.R_elder' (by (with_reducible repeat (first | apply Kd.R_alloc | apply Kd.R_drewN | apply Kd.R_drew)); exact HO_5.out) (Kd.R_base ho29) hb)
          have n1_ := Aside0.mk (Kd.R_elder' (by (with_reducible repeat (first | apply Kd.R_alloc | apply Kd.R_drewN | apply Kd.R_drew)); exact HO174.out) (Kd.R_base ho29) hb)
          have n2_ := Aside0.mk (Kd.R_lower (Kd.R_new' (Kd.R_new' ho29 (Kd.R_lt (by (with_reducible repeat (first | apply Kd.R_alloc | apply Kd.R_drewN | apply Kd.R_drew)); exact HO_5.out))) (Kd.R_lt (by (with_reducible repeat (first | apply Kd.R_alloc | apply Kd.R_drewN | apply Kd.R_drew)); exact HO174.out))) (below_size bB))
          have n3_ := Aside0.mk (Kd.C_below (by repeat (first | (with_reducible exact HR167.out) | (with_reducible refine Kd.C_alloc ?_ _) | (with_reducible refine Kd.C_drewN ?_ _) | (with_reducible refine Kd.C_drew ?_) | exact HR167.out)) hb)
          have n4_ := Aside0.mk (Kd.C_below (by repeat (first | (with_reducible exact HR181.out) | (with_reducible refine Kd.C_alloc ?_ _) | (with_reducible refine Kd.C_drewN ?_ _) | (with_reducible refine Kd.C_drew ?_) | exact HR181.out)) hb)
          have n5_ := Aside0.mk (below_step bB hb)
          clear HO_5
          clear HO174
          clear HR167
          clear HR181
          clear HB
          have HO_5 := n0_
          have HO174 := n1_
          have HO163 := n2_
          have HR167 := n3_
          have HR181 := n4_
          have HB := n5_
          clear n0_ n1_ n2_ n3_ n4_ n5_
          clear hb ho29
          refine hK.out _ _ ((cB HB.out hw171_0 :)) (fun hHeld => ?_)
          clear hK K
          refine norm_ (a' := ?_) ?_ ?_
          rotate_left
          ·show Act.put _ (some 33) _ = _
           simp only [Act.put, sA, sZ, sS, i64_w, i32_w]
           rfl
          refine one_ (i := 4) (N := some 37) (bA 16 15359) rfl rfl (one_of HT_.out (by kernel_rfl)) (by decide) (fun K hK => ?_)
          refine Kd.R_append_rows_step (Kd.int .i64) (w0 := w) w.heap.size (by rfl) (.tmp 33) (.tmp 36) 37 3 (.int .i64 0) 8 rfl Try.underlying37 info3 rfl (by decide) (by omega) v162 y161 y164 _ _ _ (fun k_ => some k_ ≠ (.slice (some ad158) x5_1.length co22 : Value).ownBlock ∧ some k_ ≠ (v173 : Value).ownBlock) (fun _ => False) rfl rfl ?aO ?aR (fun _ _ h => h) (fun _ h => h.elim) ?aF ?aB ?aS ?aL ?_
          (case aR => repeat (first | exact (by repeat (first | (with_reducible exact HR167.out) | (with_reducible refine Kd.C_alloc ?_ _) | (with_reducible refine Kd.C_drewN ?_ _) | (with_reducible refine Kd.C_drew ?_) | exact HR167.out)) | (with_reducible refine Kd.C_alloc ?_ _) | (with_reducible refine Kd.C_drewN ?_ _) | (with_reducible refine Kd.C_drew ?_)))
          (case aB => exact bB)
          (case aF => exact (fun k_ hk => ⟨Kd.fresh' (Kd.R_lt (by (with_reducible repeat (first | apply Kd.R_alloc | apply Kd.R_drewN | apply Kd.R_drew)); exact HO_5.out)) k_ hk, Kd.fresh' (Kd.R_lt (by (with_reducible repeat (first | apply Kd.R_alloc | apply Kd.R_drewN | apply Kd.R_drew)); exact HO174.out)) k_ hk⟩))
          (case aO => exact (by (with_reducible repeat (first | apply Kd.R_alloc | apply Kd.R_drewN | apply Kd.R_drew)); exact Kd.R_mono HO163.out (fun _ hk => ⟨hk.1.2, hk.2⟩)))
          (case aS => exact (below_size bB))
          (case aL => have := LMc16.out; omega)
          intro v169 w30 ho hb hg hat
          rw [← Ny168.out] at ho
          have n0_ := Aside0.mk (Kd.R_after (ok := (fun k_ => some k_ ≠ (v173 : Value).ownBlock)) (by (with_reducible repeat (first | apply Kd.R_alloc | apply Kd.R_drewN | apply Kd.R_drew)); exact Kd.R_mono HO_5.out (fun _ hk => ⟨hk.1.2, hk.2⟩)) hg hat)
          have n1_ := Aside0.mk (Kd.R_after (ok := (fun k_ => some k_ ≠ (.slice (some ad158) x5_1.length co22 : Value).ownBlock)) (by (with_reducible repeat (first | apply Kd.R_alloc | apply Kd.R_drewN | apply Kd.R_drew)); exact Kd.R_mono HO174.out (fun _ hk => ⟨hk.1.2, hk.2⟩)) hg hat)
          have n2_ := Aside0.mk (hb)
          have n3_ := Aside0.mk ((show Kd.C (Kd.int .i64) w30 (some ad158) y164.length y164 from by rw [Ny164.out]; exact Kd.C_take (m := (x7_2 : Int).toNat) ((Kd.R_reads' (Kd.R_after (ok := (fun k_ => some k_ ≠ (v173 : Value).ownBlock)) (by (with_reducible repeat (first | apply Kd.R_alloc | apply Kd.R_drewN | apply Kd.R_drew)); exact Kd.R_mono HO_5.out (fun _ hk => ⟨hk.1.2, hk.2⟩)) hg hat)).2.2) KL24.out))
          have n4_ := Aside0.mk ((show Kd.C (Kd.int .i64) w30 A25 y178.length y178 from by rw [Ny178.out, KA25.out]; exact Kd.C_drop (m := (x7_2 : Int).toNat) (c := co22) ((Kd.R_reads' (Kd.R_after (ok := (fun k_ => some k_ ≠ (v173 : Value).ownBlock)) (by (with_reducible repeat (first | apply Kd.R_alloc | apply Kd.R_drewN | apply Kd.R_drew)); exact Kd.R_mono HO_5.out (fun _ hk => ⟨hk.1.2, hk.2⟩)) hg hat)).2.2) KL25.out ((Kd.R_reads' (Kd.R_after (ok := (fun k_ => some k_ ≠ (v173 : Value).ownBlock)) (by (with_reducible repeat (first | apply Kd.R_alloc | apply Kd.R_drewN | apply Kd.R_drew)); exact Kd.R_mono HO_5.out (fun _ hk => ⟨hk.1.2, hk.2⟩)) hg hat)).2.1)))
          have n5_ := Aside0.mk (ho)
          clear HO_5
          clear HO174
          clear HB
          clear HR167
          clear HR181
          clear HO163
          have HO_5 := n0_
          have HO174 := n1_
          have HB := n2_
          have HR167 := n3_
          have HR181 := n4_
          have HO170 := n5_
          clear n0_ n1_ n2_ n3_ n4_ n5_
          clear ho hb hg hat
          refine hK.out _ _ ((cB HB.out hw171_0 :)) (fun hHeld => ?_)
          clear hK K
          refine norm_ (a' := ?_) ?_ ?_
          rotate_left
          ·show Act.put _ (some 37) _ = _
           simp only [Act.put, sA, sZ, sS, i64_w, i32_w]
           rfl
          exact norm_ (by simp only [putAll, Act.put, sA, sZ, sS]) (hCont (v162, v169, v173) _ ⟨hHeld, (by (with_reducible repeat (first | apply Kd.R_alloc | apply Kd.R_drewN | apply Kd.R_drew)); exact Kd.R_mono HO170.out (fun _ hk => ⟨hk.2, hk.1⟩)), (by (with_reducible repeat (first | apply Kd.R_alloc | apply Kd.R_drewN | apply Kd.R_drew)); exact Kd.R_mono HO174.out (fun _ hk => ⟨hk.2, hk.1⟩)), (by (with_reducible repeat (first | apply Kd.R_alloc | apply Kd.R_drewN | apply Kd.R_drew)); exact Kd.R_mono HO_5.out (fun _ hk => ⟨hk.2, hk.1⟩)), bB⟩)
        rintro ⟨v162, v169, v173⟩ w31 ⟨hS_, h0_, h1_, h2_, h3_⟩
        have n0_ : Aside0 (Kd.R (Kd.int .i64) 3 w31 w.heap.size (fun k_ => some k_ ≠ (v173 : Value).ownBlock ∧ some k_ ≠ (.slice (some ad158) x5_1.length co22 : Value).ownBlock) v169 y168) := ⟨h0_⟩
        have n1_ : Aside0 (Kd.R (Kd.int .i64) 3 w31 w.heap.size (fun k_ => some k_ ≠ (v169 : Value).ownBlock ∧ some k_ ≠ (.slice (some ad158) x5_1.length co22 : Value).ownBlock) v173 y172) := ⟨h1_⟩
        have n2_ : Aside0 (Kd.R (Kd.int .i64) 3 w31 w.heap.size (fun k_ => some k_ ≠ (v169 : Value).ownBlock ∧ some k_ ≠ (v173 : Value).ownBlock) (.slice (some ad158) x5_1.length co22) x5_1) := ⟨h2_⟩
        have n3_ : Aside0 (Below w.heap.size w w31) := ⟨h3_⟩
        clear HO_5
        clear HB
        clear h0_ h1_ h2_ h3_
        have HO170 := n0_
        have HO174 := n1_
        have HO_5 := n2_
        have HB := n3_
        clear n0_ n1_ n2_ n3_
        have hHeld : w31.cell? (ad159.add (x6_1).toNat) = some (.int .i64 (rd l1 x6_1)) := hS_
        obtain ⟨Ao33, co33, eo33⟩ := Kd.R_slice HO174.out
        (first | subst eo33 | (injection eo33 with f1_ f2_ f3_; have f4_ := f1_.symm; have f5_ := f3_.symm; clear f1_ f2_ f3_; subst f4_; subst f5_))
        refine norm_ (a' := ?_) ?_ ?_
        rotate_left
        ·simp only [putAll, Act.put, sA, sZ, sS]
         rfl
        refine one_ (i := 10) (N := some 43) (bA 16 16383) rfl rfl (one_of HT_.out (by kernel_rfl)) (by decide) (fun K hK => ?_)
        refine Kd.R_append_rows_step (Kd.int .i64) (w0 := w) w.heap.size (by rfl) (.tmp 37) (.tmp 42) 37 3 (.int .i64 0) 8 rfl Try.underlying37 info3 rfl (by decide) (by omega) v169 y168 y172 _ _ _ (fun k_ => some k_ ≠ (.slice (some ad158) x5_1.length co22 : Value).ownBlock ∧ some k_ ≠ (.slice Ao33 y172.length co33 : Value).ownBlock) (fun _ => False) rfl rfl ?aO ?aR (fun _ _ h => h) (fun _ h => h.elim) ?aF ?aB ?aS ?aL ?_
        (case aR => exact cK ((Kd.R_reads' HO174.out).2.2))
        (case aB => exact bB)
        (case aF => exact (fun k_ hk => ⟨Kd.fresh' (Kd.R_lt (by (with_reducible repeat (first | apply Kd.R_alloc | apply Kd.R_drewN | apply Kd.R_drew)); exact HO_5.out)) k_ hk, Kd.fresh' (Kd.R_lt (by (with_reducible repeat (first | apply Kd.R_alloc | apply Kd.R_drewN | apply Kd.R_drew)); exact HO174.out)) k_ hk⟩))
        (case aO => exact (by (with_reducible repeat (first | apply Kd.R_alloc | apply Kd.R_drewN | apply Kd.R_drew)); exact Kd.R_mono HO170.out (fun _ hk => ⟨hk.2, hk.1⟩)))
        (case aS => exact (below_size bB))
        (case aL => have := LMc17.out; omega)
        intro v176 w32 ho hb hg hat
        rw [← Ny175.out] at ho
        have n0_ := Aside0.mk (Kd.R_after (ok := (fun k_ => some k_ ≠ (.slice Ao33 y172.length co33 : Value).ownBlock)) (by (with_reducible repeat (first | apply Kd.R_alloc | apply Kd.R_drewN | apply Kd.R_drew)); exact Kd.R_mono HO_5.out (fun _ hk => ⟨hk.2, hk.1⟩)) hg hat)
        have n1_ := Aside0.mk (Kd.R_after (ok := (fun k_ => some k_ ≠ (.slice (some ad158) x5_1.length co22 : Value).ownBlock)) (by (with_reducible repeat (first | apply Kd.R_alloc | apply Kd.R_drewN | apply Kd.R_drew)); exact Kd.R_mono HO174.out (fun _ hk => ⟨hk.2, hk.1⟩)) hg hat)
        have n2_ := Aside0.mk (hb)
        have n3_ := Aside0.mk (ho)
        clear HO_5
        clear HO174
        clear HB
        clear HO170
        have HO_5 := n0_
        have HO174 := n1_
        have HB := n2_
        have HO177 := n3_
        clear n0_ n1_ n2_ n3_
        clear ho hb hg hat
        refine hK.out _ _ ((cB HB.out hw171_0 :)) (fun hHeld => ?_)
        clear hK K
        refine norm_ (a' := ?_) ?_ ?_
        rotate_left
        ·show Act.put _ (some 43) _ = _
         simp only [Act.put, sA, sZ, sS, i64_w, i32_w]
         rfl
        refine one_ (i := 14) (N := some 47) (bA 16 32767) rfl rfl (one_of HT_.out (by kernel_rfl)) (by decide) (fun K hK => ?_)
        refine Kd.R_append_rows_step (Kd.int .i64) (w0 := w) w.heap.size (by rfl) (.tmp 43) (.tmp 46) 37 3 (.int .i64 0) 8 rfl Try.underlying37 info3 rfl (by decide) (by omega) v176 y175 y178 _ _ _ (fun k_ => some k_ ≠ (.slice (some ad158) x5_1.length co22 : Value).ownBlock ∧ some k_ ≠ (.slice Ao33 y172.length co33 : Value).ownBlock) (fun _ => False) rfl rfl ?aO ?aR (fun _ _ h => h) (fun _ h => h.elim) ?aF ?aB ?aS ?aL ?_
        (case aR => exact cK ((show Kd.C (Kd.int .i64) w32 A25 y178.length y178 from by rw [Ny178.out, KA25.out]; exact Kd.C_drop (m := (x7_2 : Int).toNat) (c := co22) ((Kd.R_reads' HO_5.out).2.2) KL25.out ((Kd.R_reads' HO_5.out).2.1))))
        (case aB => exact bB)
        (case aF => exact (fun k_ hk => ⟨Kd.fresh' (Kd.R_lt (by (with_reducible repeat (first | apply Kd.R_alloc | apply Kd.R_drewN | apply Kd.R_drew)); exact HO_5.out)) k_ hk, Kd.fresh' (Kd.R_lt (by (with_reducible repeat (first | apply Kd.R_alloc | apply Kd.R_drewN | apply Kd.R_drew)); exact HO174.out)) k_ hk⟩))
        (case aO => exact (by (with_reducible repeat (first | apply Kd.R_alloc | apply Kd.R_drewN | apply Kd.R_drew)); exact HO177.out))
        (case aS => exact (below_size bB))
        (case aL => have := LMc20.out; omega)
        intro v183 w34 ho hb hg hat
        rw [← Ny182.out] at ho
        have n0_ := Aside0.mk (Kd.R_after (ok := (fun k_ => some k_ ≠ (.slice Ao33 y172.length co33 : Value).ownBlock)) (by (with_reducible repeat (first | apply Kd.R_alloc | apply Kd.R_drewN | apply Kd.R_drew)); exact HO_5.out) hg hat)
        have n1_ := Aside0.mk (Kd.R_after (ok := (fun k_ => some k_ ≠ (.slice (some ad158) x5_1.length co22 : Value).ownBlock)) (by (with_reducible repeat (first | apply Kd.R_alloc | apply Kd.R_drewN | apply Kd.R_drew)); exact HO174.out) hg hat)
        have n2_ := Aside0.mk (hb)
        have n3_ := Aside0.mk (ho)
        clear HO_5
        clear HO174
        clear HB
        clear HO177
        have HO_5 := n0_
        have HO174 := n1_
        have HB := n2_
        have HO184 := n3_
        clear n0_ n1_ n2_ n3_
        clear ho hb hg hat
        refine hK.out _ _ ((cB HB.out hw171_0 :)) (fun hHeld => ?_)
        clear hK K
        refine norm_ (a' := ?_) ?_ ?_
        rotate_left
        ·show Act.put _ (some 47) _ = _
         simp only [Act.put, sA, sZ, sS, i64_w, i32_w]
         rfl
        refine pU 15 5 (bA 16 65535) ?_
        refine done_ (done_of HT_.out (by kernel_rfl)) ?_
        try go_wp2
        go_roundg k2
        case measure => have := HK1.out; have := HK2.out; omega
        case rel => exact ⟨(y182), (wrap64 (x6_1 + 1)), sD, H', ⟨by have := HK1.out; have := HK2.out; omega⟩, ⟨by (with_reducible repeat (first | apply Kd.R_alloc | apply Kd.R_drewN | apply Kd.R_drew)); exact Kd.R_mono HO184.out (fun _ hk => trivial)⟩, ⟨by repeat (first | (with_reducible first | exact HB.out | apply below_alloc | apply pw_below_drewN | apply below_drew1) | exact HB.out)⟩⟩
      ·rw [if_neg c6] at H
       have c6b0 : decide (x7_2 < (x5_1.length : Int)) = false := decide_eq_false c6
       clear c6
       obtain ⟨y185, hy185⟩ : ∃ y_ : List Int, y_ = (([] : List Int)) := ⟨_, rfl⟩
       replace H : (if 0 ≤ x7_2 then (if x7_2 ≤ (x5_1.length : Int) then ((some (x5_1.take (x7_2 : Int).toNat : List Int)).bind fun y188 => (if y185.length + y188.length < 17592186044416 then ((some (y185 ++ y188 : List Int)).bind fun y192 => (if 0 ≤ x6_1 then (if x6_1 < (l1.length : Int) then ((some (([rd l1 x6_1] : List Int) : List Int)).bind fun y196 => (if y192.length + y196.length < 17592186044416 then ((some (y192 ++ y196 : List Int)).bind fun y199 => ((some (x5_1.drop (x7_2 : Int).toNat : List Int)).bind fun y202 => (if y199.length + y202.length < 17592186044416 then (spec_l6Due.l0 k2 l0 l1 (y199 ++ y202) (wrap64 (x6_1 + 1))) else (none)))) else (none))) else (none)) else (none))) else (none))) else (none)) else (none)) = some r := by first | (rw [hy185]; with_reducible exact H) | (have H2_ := (Option.bind_some _ _).symm.trans H; rw [hy185]; with_reducible exact H2_) | (have H2_ := (Option.bind_some _ _).symm.trans H; with_reducible exact H2_) | with_reducible exact H | (rw [hy185]; exact H) | exact H
       have Ny185 := Aside0.mk hy185
       clear hy185
       by_cases c35 : 0 ≤ x7_2; rotate_left
       ·rw [if_neg c35] at H; exact absurd H (by simp)
       rw [if_pos c35] at H
       have c35b0 := eq_true c35
       have c35b1 : decide (0 ≤ x7_2) = true := decide_eq_true c35
       clear c35
       by_cases c36 : x7_2 ≤ (x5_1.length : Int); rotate_left
       ·rw [if_neg c36] at H; exact absurd H (by simp)
       rw [if_pos c36] at H
       have c36b0 := eq_true c36
       have c36b1 : decide (x7_2 ≤ (x5_1.length : Int)) = true := decide_eq_true c36
       clear c36
       obtain ⟨y188, hy188⟩ : ∃ y_ : List Int, y_ = (x5_1.take (x7_2 : Int).toNat) := ⟨_, rfl⟩
       replace H : (if y185.length + y188.length < 17592186044416 then ((some (y185 ++ y188 : List Int)).bind fun y192 => (if 0 ≤ x6_1 then (if x6_1 < (l1.length : Int) then ((some (([rd l1 x6_1] : List Int) : List Int)).bind fun y196 => (if y192.length + y196.length < 17592186044416 then ((some (y192 ++ y196 : List Int)).bind fun y199 => ((some (x5_1.drop (x7_2 : Int).toNat : List Int)).bind fun y202 => (if y199.length + y202.length < 17592186044416 then (spec_l6Due.l0 k2 l0 l1 (y199 ++ y202) (wrap64 (x6_1 + 1))) else (none)))) else (none))) else (none)) else (none))) else (none)) = some r := by first | (rw [hy188]; with_reducible exact H) | (have H2_ := (Option.bind_some _ _).symm.trans H; rw [hy188]; with_reducible exact H2_) | (have H2_ := (Option.bind_some _ _).symm.trans H; with_reducible exact H2_) | with_reducible exact H | (rw [hy188]; exact H) | exact H
       have Ny188 := Aside0.mk hy188
       clear hy188
       by_cases c37 : y185.length + y188.length < 17592186044416; rotate_left
       ·rw [if_neg c37] at H; exact absurd H (by simp)
       rw [if_pos c37] at H
       have LMc37 := Aside0.mk c37
       clear c37
       obtain ⟨y192, hy192⟩ : ∃ y_ : List Int, y_ = (y185 ++ y188) := ⟨_, rfl⟩
       replace H : (if 0 ≤ x6_1 then (if x6_1 < (l1.length : Int) then ((some (([rd l1 x6_1] : List Int) : List Int)).bind fun y196 => (if y192.length + y196.length < 17592186044416 then ((some (y192 ++ y196 : List Int)).bind fun y199 => ((some (x5_1.drop (x7_2 : Int).toNat : List Int)).bind fun y202 => (if y199.length + y202.length < 17592186044416 then (spec_l6Due.l0 k2 l0 l1 (y199 ++ y202) (wrap64 (x6_1 + 1))) else (none)))) else (none))) else (none)) else (none)) = some r := by first | (rw [hy192]; with_reducible exact H) | (have H2_ := (Option.bind_some _ _).symm.trans H; rw [hy192]; with_reducible exact H2_) | (have H2_ := (Option.bind_some _ _).symm.trans H; with_reducible exact H2_) | with_reducible exact H | (rw [hy192]; exact H) | exact H
       have Ny192 := Aside0.mk hy192
       clear hy192
       by_cases c38 : 0 ≤ x6_1; rotate_left
       ·rw [if_neg c38] at H; exact absurd H (by simp)
       rw [if_pos c38] at H
       have c38b0 : decide (0 ≤ x6_1) = true := decide_eq_true c38
       clear c38
       by_cases c39 : x6_1 < (l1.length : Int); rotate_left
       ·rw [if_neg c39] at H; exact absurd H (by simp)
       rw [if_pos c39] at H
       have c39b0 : decide (x6_1 < (l1.length : Int)) = true := decide_eq_true c39
       clear c39
       obtain ⟨y196, hy196⟩ : ∃ y_ : List Int, y_ = (([rd l1 x6_1] : List Int)) := ⟨_, rfl⟩
       replace H : (if y192.length + y196.length < 17592186044416 then ((some (y192 ++ y196 : List Int)).bind fun y199 => ((some (x5_1.drop (x7_2 : Int).toNat : List Int)).bind fun y202 => (if y199.length + y202.length < 17592186044416 then (spec_l6Due.l0 k2 l0 l1 (y199 ++ y202) (wrap64 (x6_1 + 1))) else (none)))) else (none)) = some r := by first | (rw [hy196]; with_reducible exact H) | (have H2_ := (Option.bind_some _ _).symm.trans H; rw [hy196]; with_reducible exact H2_) | (have H2_ := (Option.bind_some _ _).symm.trans H; with_reducible exact H2_) | with_reducible exact H | (rw [hy196]; exact H) | exact H
       have Ny196 := Aside0.mk hy196
       clear hy196
       by_cases c40 : y192.length + y196.length < 17592186044416; rotate_left
       ·rw [if_neg c40] at H; exact absurd H (by simp)
       rw [if_pos c40] at H
       have LMc40 := Aside0.mk c40
       clear c40
       obtain ⟨y199, hy199⟩ : ∃ y_ : List Int, y_ = (y192 ++ y196) := ⟨_, rfl⟩
       replace H : ((some (x5_1.drop (x7_2 : Int).toNat : List Int)).bind fun y202 => (if y199.length + y202.length < 17592186044416 then (spec_l6Due.l0 k2 l0 l1 (y199 ++ y202) (wrap64 (x6_1 + 1))) else (none))) = some r := by first | (rw [hy199]; with_reducible exact H) | (have H2_ := (Option.bind_some _ _).symm.trans H; rw [hy199]; with_reducible exact H2_) | (have H2_ := (Option.bind_some _ _).symm.trans H; with_reducible exact H2_) | with_reducible exact H | (rw [hy199]; exact H) | exact H
       have Ny199 := Aside0.mk hy199
       clear hy199
       have c41b0 := eq_true (oD : 0 ≤ x7_2)
       have c42b0 := eq_true (oD : x7_2 ≤ (x5_1.length : Int))
       obtain ⟨y202, hy202⟩ : ∃ y_ : List Int, y_ = (x5_1.drop (x7_2 : Int).toNat) := ⟨_, rfl⟩
       replace H : (if y199.length + y202.length < 17592186044416 then (spec_l6Due.l0 k2 l0 l1 (y199 ++ y202) (wrap64 (x6_1 + 1))) else (none)) = some r := by first | (rw [hy202]; with_reducible exact H) | (have H2_ := (Option.bind_some _ _).symm.trans H; rw [hy202]; with_reducible exact H2_) | (have H2_ := (Option.bind_some _ _).symm.trans H; with_reducible exact H2_) | with_reducible exact H | (rw [hy202]; exact H) | exact H
       have Ny202 := Aside0.mk hy202
       clear hy202
       by_cases c43 : y199.length + y202.length < 17592186044416; rotate_left
       ·rw [if_neg c43] at H; exact absurd H (by simp)
       rw [if_pos c43] at H
       have LMc43 := Aside0.mk c43
       clear c43
       obtain ⟨y206, hy206⟩ : ∃ y_ : List Int, y_ = (y199 ++ y202) := ⟨_, rfl⟩
       replace H : (spec_l6Due.l0 k2 l0 l1 y206 (wrap64 (x6_1 + 1))) = some r := by first | (rw [hy206]; with_reducible exact H) | (have H2_ := (Option.bind_some _ _).symm.trans H; rw [hy206]; with_reducible exact H2_) | (have H2_ := (Option.bind_some _ _).symm.trans H; with_reducible exact H2_) | with_reducible exact H | (rw [hy206]; exact H) | exact H
       have Ny206 := Aside0.mk hy206
       clear hy206
       have H' := Aside0.mk H
       clear H
       try go_wp2
       have n0_ := Aside0.mk (Kd.R_drew HO_5.out)
       have n1_ := Aside0.mk (below_drew1 HB.out)
       clear HO_5
       clear HB
       have HO_5 := n0_
       have HB := n1_
       clear n0_ n1_
       obtain ⟨Ao45, co45, eo45⟩ := Kd.R_slice HO_5.out
       (first | subst eo45 | (injection eo45 with f1_ f2_ f3_; have f4_ := f1_.symm; have f5_ := f3_.symm; clear f1_ f2_ f3_; subst f4_; subst f5_))
       refine start_ (n := 16) (S := fun w' => True) (ds := []) (bA 16 0) (by kernel_rfl) rfl rfl trivial (fun hHeld => ?_); refine with_tabW spec_l6Due.tab6 spec_l6Due.bits6 (fun HT_ HW_ => ?_)
       generalize wr.drew = w44 at HO_5 HB hHeld ⊢
       refine pU 0 15 (bA 16 1) ?_
       refine pU 1 16 (bA 16 3) ?_
       refine pU 2 17 (bA 16 7) ?_
       refine pU 3 18 (bA 16 15) ?_
       refine pU 4 19 (bA 16 31) ?_
       refine nU 5 20 (bA 16 63) ?_
       refine nU 6 21 (bA 16 127) ?_
       refine nU 7 22 (bA 16 255) ?_
       refine nU 8 23 (bA 16 511) ?_
       refine nU 9 24 (bA 16 1023) ?_
       refine nU 10 25 (bA 16 2047) ?_
       refine nU 11 26 (bA 16 4095) ?_
       refine nU 12 27 (bA 16 8191) ?_
       refine nU 13 28 (bA 16 16383) ?_
       refine nU 14 29 (bA 16 32767) ?_
       refine pU 15 30 (bA 16 65535) ?_
       refine done_ (done_of HT_.out (by kernel_rfl)) ?_
       try go_wp2
       have n0_ := Aside0.mk (Kd.R_drew HO_5.out)
       have n1_ := Aside0.mk (below_drew1 HB.out)
       clear HO_5
       clear HB
       have HO_5 := n0_
       have HB := n1_
       clear n0_ n1_
       have q47 : (x7_2 : Int) ≤ ((x5_1.length : Int) : Int) := oD
       obtain ⟨i047, hi047, _, hsz47, _⟩ := info_parts info3
       have hroom47 : x5_1.length ≤ co45 := (Kd.R_reads' HO_5.out).2.1
       have hC47 : Kd.C (Kd.int .i64) _ Ao45 x5_1.length x5_1 := (Kd.R_reads' HO_5.out).2.2
       have hcut47 := cut_to (P := Try.prog) 37 3 .i64 Try.underlying37 hi047 Ao45 x5_1.length co45 x7_2 (oD) q47 hroom47
       have hr47 := Kd.C_take (m := (x7_2 : Int).toNat) hC47 (by omega)
       have hy47 : y188.length = (x7_2 : Int).toNat := (by rw [Ny188.out, List.length_take]; omega)
       rw [← Ny188.out] at hr47
       rw [← hy47] at hcut47
       have HR191 := Aside0.mk hr47
       have HC191 := Aside0.mk (show y188.length ≤ co45 from by omega)
       clear hr47 hC47 hroom47 hi047 hsz47
       have KY47 := Aside0.mk hy47
       clear hy47
       have KL47 := Aside0.mk (show (x7_2 : Int).toNat ≤ x5_1.length from by omega)
       replace q47 := eq_true q47
       have p195 : 0 ≤ (x6_1 : Int) := oD
       have q195 : x6_1 < (l1.length : Int) := oD
       obtain ⟨ad195, e195, hx195_0⟩ := Kd.at_int HR1.out x6_1 p195 q195
       have hw195_0 := hx195_0
       cases e195
       replace hx195_0 := (cB HB.out hx195_0 :)
       replace p195 := eq_true p195
       replace q195 := eq_true q195
       have q48 : (x7_2 : Int) ≤ ((x5_1.length : Int) : Int) := oD
       obtain ⟨i048, hi048, _, hsz48, _⟩ := info_parts info3
       have hroom48 : x5_1.length ≤ co45 := (Kd.R_reads' HO_5.out).2.1
       have hC48 : Kd.C (Kd.int .i64) _ Ao45 x5_1.length x5_1 := (Kd.R_reads' HO_5.out).2.2
       have q048 : (0 : Int) ≤ (x7_2 : Int) := oD
       have hcut48 := cut_from (P := Try.prog) 37 3 .i64 Try.underlying37 hi048 1 hsz48 Ao45 x5_1.length co45 x7_2 q048 q48
       have hr48 := Kd.C_drop (m := (x7_2 : Int).toNat) (c := co45) hC48 (by omega) hroom48
       obtain ⟨A48, hA48⟩ : ∃ A1, A1 = (if co45 = (x7_2 : Int).toNat then Ao45 else (Ao45 : Option Addr).map (·.add ((x7_2 : Int).toNat * 1))) := ⟨_, rfl⟩
       obtain ⟨c48, hc48⟩ : ∃ c1, c1 = co45 - (x7_2 : Int).toNat := ⟨_, rfl⟩
       have hy48 : y202.length = x5_1.length - (x7_2 : Int).toNat := (by rw [Ny202.out, List.length_drop] <;> omega)
       rw [show (x5_1).drop (x7_2 : Int).toNat = y202 from Ny202.out.symm] at hr48
       replace hr48 : Kd.C (Kd.int .i64) _ A48 y202.length y202 := (by rw [hA48]; exact hr48)
       rw [← hy48, ← hA48, ← hc48] at hcut48
       have HR205 := Aside0.mk hr48
       have HC205 := Aside0.mk (show y202.length ≤ c48 from by rw [hy48, hc48]; exact Nat.sub_le_sub_right hroom48 _)
       clear hr48 hC48 hroom48 hi048 hsz48 hc48
       have KY48 := Aside0.mk hy48
       have KA48 := Aside0.mk hA48
       clear hy48 hA48
       have KL48 := Aside0.mk (show (x7_2 : Int).toNat ≤ x5_1.length from by omega)
       replace q48 := eq_true q48
       refine start_ (n := 16) (S := fun w' => w'.cell? (ad195.add (x6_1).toNat) = some (.int .i64 (rd l1 x6_1))) (ds := []) (bA 16 0) (by kernel_rfl) rfl rfl ((cB HB.out hw195_0 :)) (fun hHeld => ?_); refine with_tabW spec_l6Due.tab8 spec_l6Due.bits8 (fun HT_ HW_ => ?_)
       generalize w44.drew = w46 at HO_5 HB HR191 HR205 hx195_0 hHeld ⊢
       refine pU 1 34 (bA 16 2) ?_
       refine pU 2 35 (bA 16 6) ?_
       refine pU 3 36 (bA 16 14) ?_
       refine pU 5 38 (bA 16 46) ?_
       refine pU 6 39 (bA 16 110) ?_
       refine pU 7 40 (bA 16 238) ?_
       refine pU 11 44 (bA 16 2286) ?_
       refine pU 12 45 (bA 16 6382) ?_
       refine pU 13 46 (bA 16 14574) ?_
       refine tU 8 41 (bA 16 14830) ?_
       refine join_ (σ := Value × Value × Value) 3 (bA 16 15359) (fun s_ => [(33, s_.1), (37, s_.2.1), (42, s_.2.2)]) (fun s_ w' => (w'.cell? (ad195.add (x6_1).toNat) = some (.int .i64 (rd l1 x6_1))) ∧ (Kd.R (Kd.int .i64) 3 w' w.heap.size (fun k_ => some k_ ≠ (s_.2.2 : Value).ownBlock ∧ some k_ ≠ (.slice Ao45 x5_1.length co45 : Value).ownBlock) s_.2.1 y192) ∧ (Kd.R (Kd.int .i64) 3 w' w.heap.size (fun k_ => some k_ ≠ (s_.2.1 : Value).ownBlock ∧ some k_ ≠ (.slice Ao45 x5_1.length co45 : Value).ownBlock) s_.2.2 y196) ∧ (Kd.R (Kd.int .i64) 3 w' w.heap.size (fun k_ => some k_ ≠ (s_.2.1 : Value).ownBlock ∧ some k_ ≠ (s_.2.2 : Value).ownBlock) (.slice Ao45 x5_1.length co45) x5_1) ∧ (Below w.heap.size w w')) ?_ ?_
       rotate_left
       ·intro hCont
        refine two_ (i := 0) (j := 9) (Ni := some 33) (Nj := some 42) (bA 16 14831) (bA 16 15342) rfl rfl rfl rfl (two_of HT_.out (by kernel_rfl)) (by decide) (by decide) (fun K hK => ?_) (fun K hK => ?_)
        ·skip
         refine Kd.R_lit_step (Kd.int .i64) _ 3 ?hg (N := 33) ?hd (xs := ([] : List Int)) (inner := []) (ok := fun _ => True) (okp := fun _ => True) ?hr ?hp (fun _ hk => hk) trivial (Below.refl _ _) (Nat.le_refl _) (by simp) ?_; (case hd => rfl); (case hg => rfl); (case hr => first | (go_simp; done) | (go_simp; rfl)); (case hp => exact (Reps.none _ _))
         intro v186 w49 ho50 hb hg_ hnew_
         clear hg_ hnew_
         (first | rw [← Ny185.out] at ho50 | (simp only [Int.reduceToNat] at ho50; rw [← Ny185.out] at ho50))
         have n0_ := Aside0.mk (Kd.R_elder' (by (with_reducible repeat (first | apply Kd.R_alloc | apply Kd.R_drewN | apply Kd.R_drew)); exact HO_5.out) (Kd.R_base ho50) hb)
         have n1_ := Aside0.mk (Kd.R_lower (Kd.R_new' ho50 (Kd.R_lt (by (with_reducible repeat (first | apply Kd.R_alloc | apply Kd.R_drewN | apply Kd.R_drew)); exact HO_5.out))) (below_size bB))
         have n2_ := Aside0.mk (Kd.C_below (by repeat (first | (with_reducible exact HR191.out) | (with_reducible refine Kd.C_alloc ?_ _) | (with_reducible refine Kd.C_drewN ?_ _) | (with_reducible refine Kd.C_drew ?_) | exact HR191.out)) hb)
         have n3_ := Aside0.mk (Kd.C_below (by repeat (first | (with_reducible exact HR205.out) | (with_reducible refine Kd.C_alloc ?_ _) | (with_reducible refine Kd.C_drewN ?_ _) | (with_reducible refine Kd.C_drew ?_) | exact HR205.out)) hb)
         have n4_ := Aside0.mk (below_step bB hb)
         clear HO_5
         clear HR191
         clear HR205
         clear HB
         have HO_5 := n0_
         have HO187 := n1_
         have HR191 := n2_
         have HR205 := n3_
         have HB := n4_
         clear n0_ n1_ n2_ n3_ n4_
         clear hb ho50
         refine hK.out _ _ ((cB HB.out hw195_0 :)) (fun hHeld => ?_)
         clear hK K
         refine norm_ (a' := ?_) ?_ ?_
         rotate_left
         ·show Act.put _ (some 33) _ = _
          simp only [Act.put, sA, sZ, sS, i64_w, i32_w]
          rfl
         refine two_ (i := 4) (j := 9) (Ni := some 37) (Nj := some 42) (bA 16 14847) (bA 16 15343) rfl rfl rfl rfl (two_of HT_.out (by kernel_rfl)) (by decide) (by decide) (fun K hK => ?_) (fun K hK => ?_)
         ·skip
          refine Kd.R_append_rows_step (Kd.int .i64) (w0 := w) w.heap.size (by rfl) (.tmp 33) (.tmp 36) 37 3 (.int .i64 0) 8 rfl Try.underlying37 info3 rfl (by decide) (by omega) v186 y185 y188 _ _ _ (fun k_ => some k_ ≠ (.slice Ao45 x5_1.length co45 : Value).ownBlock) (fun _ => False) rfl rfl ?aO ?aR (fun _ _ h => h) (fun _ h => h.elim) ?aF ?aB ?aS ?aL ?_
          (case aR => repeat (first | exact (by repeat (first | (with_reducible exact HR191.out) | (with_reducible refine Kd.C_alloc ?_ _) | (with_reducible refine Kd.C_drewN ?_ _) | (with_reducible refine Kd.C_drew ?_) | exact HR191.out)) | (with_reducible refine Kd.C_alloc ?_ _) | (with_reducible refine Kd.C_drewN ?_ _) | (with_reducible refine Kd.C_drew ?_)))
          (case aB => exact bB)
          (case aF => exact (fun k_ hk => Kd.fresh' (Kd.R_lt (by (with_reducible repeat (first | apply Kd.R_alloc | apply Kd.R_drewN | apply Kd.R_drew)); exact HO_5.out)) k_ hk))
          (case aO => exact (by (with_reducible repeat (first | apply Kd.R_alloc | apply Kd.R_drewN | apply Kd.R_drew)); exact Kd.R_mono HO187.out (fun _ hk => hk.2)))
          (case aS => exact (below_size bB))
          (case aL => have := LMc37.out; omega)
          intro v193 w51 ho hb hg hat
          rw [← Ny192.out] at ho
          have n0_ := Aside0.mk (Kd.R_after (ok := (fun _ => True)) (by (with_reducible repeat (first | apply Kd.R_alloc | apply Kd.R_drewN | apply Kd.R_drew)); exact HO_5.out) hg hat)
          have n1_ := Aside0.mk (hb)
          have n2_ := Aside0.mk ((show Kd.C (Kd.int .i64) w51 Ao45 y188.length y188 from by rw [Ny188.out]; exact Kd.C_take (m := (x7_2 : Int).toNat) ((Kd.R_reads' (Kd.R_after (ok := (fun _ => True)) (by (with_reducible repeat (first | apply Kd.R_alloc | apply Kd.R_drewN | apply Kd.R_drew)); exact HO_5.out) hg hat)).2.2) KL47.out))
          have n3_ := Aside0.mk ((show Kd.C (Kd.int .i64) w51 A48 y202.length y202 from by rw [Ny202.out, KA48.out]; exact Kd.C_drop (m := (x7_2 : Int).toNat) (c := co45) ((Kd.R_reads' (Kd.R_after (ok := (fun _ => True)) (by (with_reducible repeat (first | apply Kd.R_alloc | apply Kd.R_drewN | apply Kd.R_drew)); exact HO_5.out) hg hat)).2.2) KL48.out ((Kd.R_reads' (Kd.R_after (ok := (fun _ => True)) (by (with_reducible repeat (first | apply Kd.R_alloc | apply Kd.R_drewN | apply Kd.R_drew)); exact HO_5.out) hg hat)).2.1)))
          have n4_ := Aside0.mk (ho)
          clear HO_5
          clear HB
          clear HR191
          clear HR205
          clear HO187
          have HO_5 := n0_
          have HB := n1_
          have HR191 := n2_
          have HR205 := n3_
          have HO194 := n4_
          clear n0_ n1_ n2_ n3_ n4_
          clear ho hb hg hat
          refine hK.out _ _ ((cB HB.out hw195_0 :)) (fun hHeld => ?_)
          clear hK K
          refine norm_ (a' := ?_) ?_ ?_
          rotate_left
          ·show Act.put _ (some 37) _ = _
           simp only [Act.put, sA, sZ, sS, i64_w, i32_w]
           rfl
          refine one_ (i := 9) (N := some 42) (bA 16 15359) rfl rfl (one_of HT_.out (by kernel_rfl)) (by decide) (fun K hK => ?_)
          refine Kd.R_lit_step (Kd.int .i64) _ 3 ?hg (N := 42) ?hd (xs := ([rd l1 x6_1] : List Int)) (inner := [.int .i64 (rd l1 x6_1)]) (ok := fun _ => True) (okp := fun _ => True) ?hr ?hp (fun _ hk => hk) trivial (Below.refl _ _) (Nat.le_refl _) (by simp) ?_; (case hd => rfl); (case hg => rfl); (case hr => first | (go_simp; done) | (go_simp; rfl)); (case hp => exact (Reps.one (show Kd.M (Kd.int .i64) _ _ _ (rd l1 x6_1) [.int .i64 (rd l1 x6_1)] from rfl) (Reps.none _ _)))
          intro v197 w52 ho53 hb hg_ hnew_
          clear hg_ hnew_
          (first | rw [← Ny196.out] at ho53 | (simp only [Int.reduceToNat] at ho53; rw [← Ny196.out] at ho53))
          have n0_ := Aside0.mk (Kd.R_elder' (by (with_reducible repeat (first | apply Kd.R_alloc | apply Kd.R_drewN | apply Kd.R_drew)); exact HO_5.out) (Kd.R_base ho53) hb)
          have n1_ := Aside0.mk (Kd.R_elder' (by (with_reducible repeat (first | apply Kd.R_alloc | apply Kd.R_drewN | apply Kd.R_drew)); exact HO194.out) (Kd.R_base ho53) hb)
          have n2_ := Aside0.mk (Kd.R_lower (Kd.R_new' (Kd.R_new' ho53 (Kd.R_lt (by (with_reducible repeat (first | apply Kd.R_alloc | apply Kd.R_drewN | apply Kd.R_drew)); exact HO_5.out))) (Kd.R_lt (by (with_reducible repeat (first | apply Kd.R_alloc | apply Kd.R_drewN | apply Kd.R_drew)); exact HO194.out))) (below_size bB))
          have n3_ := Aside0.mk (Kd.C_below (by repeat (first | (with_reducible exact HR191.out) | (with_reducible refine Kd.C_alloc ?_ _) | (with_reducible refine Kd.C_drewN ?_ _) | (with_reducible refine Kd.C_drew ?_) | exact HR191.out)) hb)
          have n4_ := Aside0.mk (Kd.C_below (by repeat (first | (with_reducible exact HR205.out) | (with_reducible refine Kd.C_alloc ?_ _) | (with_reducible refine Kd.C_drewN ?_ _) | (with_reducible refine Kd.C_drew ?_) | exact HR205.out)) hb)
          have n5_ := Aside0.mk (below_step bB hb)
          clear HO_5
          clear HO194
          clear HR191
          clear HR205
          clear HB
          have HO_5 := n0_
          have HO194 := n1_
          have HO198 := n2_
          have HR191 := n3_
          have HR205 := n4_
          have HB := n5_
          clear n0_ n1_ n2_ n3_ n4_ n5_
          clear hb ho53
          refine hK.out _ _ ((cB HB.out hw195_0 :)) (fun hHeld => ?_)
          clear hK K
          refine norm_ (a' := ?_) ?_ ?_
          rotate_left
          ·show Act.put _ (some 42) _ = _
           simp only [Act.put, sA, sZ, sS, i64_w, i32_w]
           rfl
          exact norm_ (by simp only [putAll, Act.put, sA, sZ, sS]) (hCont (v186, v193, v197) _ ⟨hHeld, (by (with_reducible repeat (first | apply Kd.R_alloc | apply Kd.R_drewN | apply Kd.R_drew)); exact Kd.R_mono HO194.out (fun _ hk => ⟨hk.2, hk.1⟩)), (by (with_reducible repeat (first | apply Kd.R_alloc | apply Kd.R_drewN | apply Kd.R_drew)); exact Kd.R_mono HO198.out (fun _ hk => ⟨hk.2, hk.1.2⟩)), (by (with_reducible repeat (first | apply Kd.R_alloc | apply Kd.R_drewN | apply Kd.R_drew)); exact Kd.R_mono HO_5.out (fun _ hk => ⟨hk.1.2, hk.2⟩)), bB⟩)
         ·skip
          refine Kd.R_lit_step (Kd.int .i64) _ 3 ?hg (N := 42) ?hd (xs := ([rd l1 x6_1] : List Int)) (inner := [.int .i64 (rd l1 x6_1)]) (ok := fun _ => True) (okp := fun _ => True) ?hr ?hp (fun _ hk => hk) trivial (Below.refl _ _) (Nat.le_refl _) (by simp) ?_; (case hd => rfl); (case hg => rfl); (case hr => first | (go_simp; done) | (go_simp; rfl)); (case hp => exact (Reps.one (show Kd.M (Kd.int .i64) _ _ _ (rd l1 x6_1) [.int .i64 (rd l1 x6_1)] from rfl) (Reps.none _ _)))
          intro v197 w51 ho52 hb hg_ hnew_
          clear hg_ hnew_
          (first | rw [← Ny196.out] at ho52 | (simp only [Int.reduceToNat] at ho52; rw [← Ny196.out] at ho52))
          have n0_ := Aside0.mk (Kd.R_elder' (by (with_reducible repeat (first | apply Kd.R_alloc | apply Kd.R_drewN | apply Kd.R_drew)); exact HO_5.out) (Kd.R_base ho52) hb)
          have n1_ := Aside0.mk (Kd.R_elder' (by (with_reducible repeat (first | apply Kd.R_alloc | apply Kd.R_drewN | apply Kd.R_drew)); exact HO187.out) (Kd.R_base ho52) hb)
          have n2_ := Aside0.mk (Kd.R_lower (Kd.R_new' (Kd.R_new' ho52 (Kd.R_lt (by (with_reducible repeat (first | apply Kd.R_alloc | apply Kd.R_drewN | apply Kd.R_drew)); exact HO_5.out))) (Kd.R_lt (by (with_reducible repeat (first | apply Kd.R_alloc | apply Kd.R_drewN | apply Kd.R_drew)); exact HO187.out))) (below_size bB))
          have n3_ := Aside0.mk (Kd.C_below (by repeat (first | (with_reducible exact HR191.out) | (with_reducible refine Kd.C_alloc ?_ _) | (with_reducible refine Kd.C_drewN ?_ _) | (with_reducible refine Kd.C_drew ?_) | exact HR191.out)) hb)
          have n4_ := Aside0.mk (Kd.C_below (by repeat (first | (with_reducible exact HR205.out) | (with_reducible refine Kd.C_alloc ?_ _) | (with_reducible refine Kd.C_drewN ?_ _) | (with_reducible refine Kd.C_drew ?_) | exact HR205.out)) hb)
          have n5_ := Aside0.mk (below_step bB hb)
          clear HO_5
          clear HO187
          clear HR191
          clear HR205
          clear HB
          have HO_5 := n0_
          have HO187 := n1_
          have HO198 := n2_
          have HR191 := n3_
          have HR205 := n4_
          have HB := n5_
          clear n0_ n1_ n2_ n3_ n4_ n5_
          clear hb ho52
          refine hK.out _ _ ((cB HB.out hw195_0 :)) (fun hHeld => ?_)
          clear hK K
          refine norm_ (a' := ?_) ?_ ?_
          rotate_left
          ·show Act.put _ (some 42) _ = _
           simp only [Act.put, sA, sZ, sS, i64_w, i32_w]
           rfl
          refine one_ (i := 4) (N := some 37) (bA 16 15359) rfl rfl (one_of HT_.out (by kernel_rfl)) (by decide) (fun K hK => ?_)
          refine Kd.R_append_rows_step (Kd.int .i64) (w0 := w) w.heap.size (by rfl) (.tmp 33) (.tmp 36) 37 3 (.int .i64 0) 8 rfl Try.underlying37 info3 rfl (by decide) (by omega) v186 y185 y188 _ _ _ (fun k_ => some k_ ≠ (.slice Ao45 x5_1.length co45 : Value).ownBlock ∧ some k_ ≠ (v197 : Value).ownBlock) (fun _ => False) rfl rfl ?aO ?aR (fun _ _ h => h) (fun _ h => h.elim) ?aF ?aB ?aS ?aL ?_
          (case aR => repeat (first | exact (by repeat (first | (with_reducible exact HR191.out) | (with_reducible refine Kd.C_alloc ?_ _) | (with_reducible refine Kd.C_drewN ?_ _) | (with_reducible refine Kd.C_drew ?_) | exact HR191.out)) | (with_reducible refine Kd.C_alloc ?_ _) | (with_reducible refine Kd.C_drewN ?_ _) | (with_reducible refine Kd.C_drew ?_)))
          (case aB => exact bB)
          (case aF => exact (fun k_ hk => ⟨Kd.fresh' (Kd.R_lt (by (with_reducible repeat (first | apply Kd.R_alloc | apply Kd.R_drewN | apply Kd.R_drew)); exact HO_5.out)) k_ hk, Kd.fresh' (Kd.R_lt (by (with_reducible repeat (first | apply Kd.R_alloc | apply Kd.R_drewN | apply Kd.R_drew)); exact HO198.out)) k_ hk⟩))
          (case aO => exact (by (with_reducible repeat (first | apply Kd.R_alloc | apply Kd.R_drewN | apply Kd.R_drew)); exact Kd.R_mono HO187.out (fun _ hk => ⟨hk.1.2, hk.2⟩)))
          (case aS => exact (below_size bB))
          (case aL => have := LMc37.out; omega)
          intro v193 w53 ho hb hg hat
          rw [← Ny192.out] at ho
          have n0_ := Aside0.mk (Kd.R_after (ok := (fun k_ => some k_ ≠ (v197 : Value).ownBlock)) (by (with_reducible repeat (first | apply Kd.R_alloc | apply Kd.R_drewN | apply Kd.R_drew)); exact Kd.R_mono HO_5.out (fun _ hk => ⟨hk.2, hk.1.2⟩)) hg hat)
          have n1_ := Aside0.mk (Kd.R_after (ok := (fun k_ => some k_ ≠ (.slice Ao45 x5_1.length co45 : Value).ownBlock)) (by (with_reducible repeat (first | apply Kd.R_alloc | apply Kd.R_drewN | apply Kd.R_drew)); exact Kd.R_mono HO198.out (fun _ hk => ⟨hk.1.2, hk.2⟩)) hg hat)
          have n2_ := Aside0.mk (hb)
          have n3_ := Aside0.mk ((show Kd.C (Kd.int .i64) w53 Ao45 y188.length y188 from by rw [Ny188.out]; exact Kd.C_take (m := (x7_2 : Int).toNat) ((Kd.R_reads' (Kd.R_after (ok := (fun k_ => some k_ ≠ (v197 : Value).ownBlock)) (by (with_reducible repeat (first | apply Kd.R_alloc | apply Kd.R_drewN | apply Kd.R_drew)); exact Kd.R_mono HO_5.out (fun _ hk => ⟨hk.2, hk.1.2⟩)) hg hat)).2.2) KL47.out))
          have n4_ := Aside0.mk ((show Kd.C (Kd.int .i64) w53 A48 y202.length y202 from by rw [Ny202.out, KA48.out]; exact Kd.C_drop (m := (x7_2 : Int).toNat) (c := co45) ((Kd.R_reads' (Kd.R_after (ok := (fun k_ => some k_ ≠ (v197 : Value).ownBlock)) (by (with_reducible repeat (first | apply Kd.R_alloc | apply Kd.R_drewN | apply Kd.R_drew)); exact Kd.R_mono HO_5.out (fun _ hk => ⟨hk.2, hk.1.2⟩)) hg hat)).2.2) KL48.out ((Kd.R_reads' (Kd.R_after (ok := (fun k_ => some k_ ≠ (v197 : Value).ownBlock)) (by (with_reducible repeat (first | apply Kd.R_alloc | apply Kd.R_drewN | apply Kd.R_drew)); exact Kd.R_mono HO_5.out (fun _ hk => ⟨hk.2, hk.1.2⟩)) hg hat)).2.1)))
          have n5_ := Aside0.mk (ho)
          clear HO_5
          clear HO198
          clear HB
          clear HR191
          clear HR205
          clear HO187
          have HO_5 := n0_
          have HO198 := n1_
          have HB := n2_
          have HR191 := n3_
          have HR205 := n4_
          have HO194 := n5_
          clear n0_ n1_ n2_ n3_ n4_ n5_
          clear ho hb hg hat
          refine hK.out _ _ ((cB HB.out hw195_0 :)) (fun hHeld => ?_)
          clear hK K
          refine norm_ (a' := ?_) ?_ ?_
          rotate_left
          ·show Act.put _ (some 37) _ = _
           simp only [Act.put, sA, sZ, sS, i64_w, i32_w]
           rfl
          exact norm_ (by simp only [putAll, Act.put, sA, sZ, sS]) (hCont (v186, v193, v197) _ ⟨hHeld, (by (with_reducible repeat (first | apply Kd.R_alloc | apply Kd.R_drewN | apply Kd.R_drew)); exact Kd.R_mono HO194.out (fun _ hk => ⟨hk.2, hk.1⟩)), (by (with_reducible repeat (first | apply Kd.R_alloc | apply Kd.R_drewN | apply Kd.R_drew)); exact Kd.R_mono HO198.out (fun _ hk => ⟨hk.2, hk.1⟩)), (by (with_reducible repeat (first | apply Kd.R_alloc | apply Kd.R_drewN | apply Kd.R_drew)); exact Kd.R_mono HO_5.out (fun _ hk => ⟨hk.2, hk.1⟩)), bB⟩)
        ·skip
         refine Kd.R_lit_step (Kd.int .i64) _ 3 ?hg (N := 42) ?hd (xs := ([rd l1 x6_1] : List Int)) (inner := [.int .i64 (rd l1 x6_1)]) (ok := fun _ => True) (okp := fun _ => True) ?hr ?hp (fun _ hk => hk) trivial (Below.refl _ _) (Nat.le_refl _) (by simp) ?_; (case hd => rfl); (case hg => rfl); (case hr => first | (go_simp; done) | (go_simp; rfl)); (case hp => exact (Reps.one (show Kd.M (Kd.int .i64) _ _ _ (rd l1 x6_1) [.int .i64 (rd l1 x6_1)] from rfl) (Reps.none _ _)))
         intro v197 w49 ho50 hb hg_ hnew_
         clear hg_ hnew_
         (first | rw [← Ny196.out] at ho50 | (simp only [Int.reduceToNat] at ho50; rw [← Ny196.out] at ho50))
         have n0_ := Aside0.mk (Kd.R_elder' (by (with_reducible repeat (first | apply Kd.R_alloc | apply Kd.R_drewN | apply Kd.R_drew)); exact HO_5.out) (Kd.R_base ho50) hb)
         have n1_ := Aside0.mk (Kd.R_lower (Kd.R_new' ho50 (Kd.R_lt (by (with_reducible repeat (first | apply Kd.R_alloc | apply Kd.R_drewN | apply Kd.R_drew)); exact HO_5.out))) (below_size bB))
         have n2_ := Aside0.mk (Kd.C_below (by repeat (first | (with_reducible exact HR191.out) | (with_reducible refine Kd.C_alloc ?_ _) | (with_reducible refine Kd.C_drewN ?_ _) | (with_reducible refine Kd.C_drew ?_) | exact HR191.out)) hb)
         have n3_ := Aside0.mk (Kd.C_below (by repeat (first | (with_reducible exact HR205.out) | (with_reducible refine Kd.C_alloc ?_ _) | (with_reducible refine Kd.C_drewN ?_ _) | (with_reducible refine Kd.C_drew ?_) | exact HR205.out)) hb)
         have n4_ := Aside0.mk (below_step bB hb)
         clear HO_5
         clear HR191
         clear HR205
         clear HB
         have HO_5 := n0_
         have HO198 := n1_
         have HR191 := n2_
         have HR205 := n3_
         have HB := n4_
         clear n0_ n1_ n2_ n3_ n4_
         clear hb ho50
         refine hK.out _ _ ((cB HB.out hw195_0 :)) (fun hHeld => ?_)
         clear hK K
         refine norm_ (a' := ?_) ?_ ?_
         rotate_left
         ·show Act.put _ (some 42) _ = _
          simp only [Act.put, sA, sZ, sS, i64_w, i32_w]
          rfl
         refine one_ (i := 0) (N := some 33) (bA 16 15343) rfl rfl (one_of HT_.out (by kernel_rfl)) (by decide) (fun K hK => ?_)
         refine Kd.R_lit_step (Kd.int .i64) _ 3 ?hg (N := 33) ?hd (xs := ([] : List Int)) (inner := []) (ok := fun _ => True) (okp := fun _ => True) ?hr ?hp (fun _ hk => hk) trivial (Below.refl _ _) (Nat.le_refl _) (by simp) ?_; (case hd => rfl); (case hg => rfl); (case hr => first | (go_simp; done) | (go_simp; rfl)); (case hp => exact (Reps.none _ _))
         intro v186 w51 ho52 hb hg_ hnew_
         clear hg_ hnew_
         (first | rw [← Ny185.out] at ho52 | (simp only [Int.reduceToNat] at ho52; rw [← Ny185.out] at ho52))
         have n0_ := Aside0.mk (Kd.R_elder' (by (with_reducible repeat (first | apply Kd.R_alloc | apply Kd.R_drewN | apply Kd.R_drew)); exact HO_5.out) (Kd.R_base ho52) hb)
         have n1_ := Aside0.mk (Kd.R_elder' (by (with_reducible repeat (first | apply Kd.R_alloc | apply Kd.R_drewN | apply Kd.R_drew)); exact HO198.out) (Kd.R_base ho52) hb)
         have n2_ := Aside0.mk (Kd.R_lower (Kd.R_new' (Kd.R_new' ho52 (Kd.R_lt (by (with_reducible repeat (first | apply Kd.R_alloc | apply Kd.R_drewN | apply Kd.R_drew)); exact HO_5.out))) (Kd.R_lt (by (with_reducible repeat (first | apply Kd.R_alloc | apply Kd.R_drewN | apply Kd.R_drew)); exact HO198.out))) (below_size bB))
         have n3_ := Aside0.mk (Kd.C_below (by repeat (first | (with_reducible exact HR191.out) | (with_reducible refine Kd.C_alloc ?_ _) | (with_reducible refine Kd.C_drewN ?_ _) | (with_reducible refine Kd.C_drew ?_) | exact HR191.out)) hb)
         have n4_ := Aside0.mk (Kd.C_below (by repeat (first | (with_reducible exact HR205.out) | (with_reducible refine Kd.C_alloc ?_ _) | (with_reducible refine Kd.C_drewN ?_ _) | (with_reducible refine Kd.C_drew ?_) | exact HR205.out)) hb)
         have n5_ := Aside0.mk (below_step bB hb)
         clear HO_5
         clear HO198
         clear HR191
         clear HR205
         clear HB
         have HO_5 := n0_
         have HO198 := n1_
         have HO187 := n2_
         have HR191 := n3_
         have HR205 := n4_
         have HB := n5_
         clear n0_ n1_ n2_ n3_ n4_ n5_
         clear hb ho52
         refine hK.out _ _ ((cB HB.out hw195_0 :)) (fun hHeld => ?_)
         clear hK K
         refine norm_ (a' := ?_) ?_ ?_
         rotate_left
         ·show Act.put _ (some 33) _ = _
          simp only [Act.put, sA, sZ, sS, i64_w, i32_w]
          rfl
         refine one_ (i := 4) (N := some 37) (bA 16 15359) rfl rfl (one_of HT_.out (by kernel_rfl)) (by decide) (fun K hK => ?_)
         refine Kd.R_append_rows_step (Kd.int .i64) (w0 := w) w.heap.size (by rfl) (.tmp 33) (.tmp 36) 37 3 (.int .i64 0) 8 rfl Try.underlying37 info3 rfl (by decide) (by omega) v186 y185 y188 _ _ _ (fun k_ => some k_ ≠ (.slice Ao45 x5_1.length co45 : Value).ownBlock ∧ some k_ ≠ (v197 : Value).ownBlock) (fun _ => False) rfl rfl ?aO ?aR (fun _ _ h => h) (fun _ h => h.elim) ?aF ?aB ?aS ?aL ?_
         (case aR => repeat (first | exact (by repeat (first | (with_reducible exact HR191.out) | (with_reducible refine Kd.C_alloc ?_ _) | (with_reducible refine Kd.C_drewN ?_ _) | (with_reducible refine Kd.C_drew ?_) | exact HR191.out)) | (with_reducible refine Kd.C_alloc ?_ _) | (with_reducible refine Kd.C_drewN ?_ _) | (with_reducible refine Kd.C_drew ?_)))
         (case aB => exact bB)
         (case aF => exact (fun k_ hk => ⟨Kd.fresh' (Kd.R_lt (by (with_reducible repeat (first | apply Kd.R_alloc | apply Kd.R_drewN | apply Kd.R_drew)); exact HO_5.out)) k_ hk, Kd.fresh' (Kd.R_lt (by (with_reducible repeat (first | apply Kd.R_alloc | apply Kd.R_drewN | apply Kd.R_drew)); exact HO198.out)) k_ hk⟩))
         (case aO => exact (by (with_reducible repeat (first | apply Kd.R_alloc | apply Kd.R_drewN | apply Kd.R_drew)); exact Kd.R_mono HO187.out (fun _ hk => ⟨hk.1.2, hk.2⟩)))
         (case aS => exact (below_size bB))
         (case aL => have := LMc37.out; omega)
         intro v193 w53 ho hb hg hat
         rw [← Ny192.out] at ho
         have n0_ := Aside0.mk (Kd.R_after (ok := (fun k_ => some k_ ≠ (v197 : Value).ownBlock)) (by (with_reducible repeat (first | apply Kd.R_alloc | apply Kd.R_drewN | apply Kd.R_drew)); exact Kd.R_mono HO_5.out (fun _ hk => ⟨hk.1.2, hk.2⟩)) hg hat)
         have n1_ := Aside0.mk (Kd.R_after (ok := (fun k_ => some k_ ≠ (.slice Ao45 x5_1.length co45 : Value).ownBlock)) (by (with_reducible repeat (first | apply Kd.R_alloc | apply Kd.R_drewN | apply Kd.R_drew)); exact Kd.R_mono HO198.out (fun _ hk => ⟨hk.1.2, hk.2⟩)) hg hat)
         have n2_ := Aside0.mk (hb)
         have n3_ := Aside0.mk ((show Kd.C (Kd.int .i64) w53 Ao45 y188.length y188 from by rw [Ny188.out]; exact Kd.C_take (m := (x7_2 : Int).toNat) ((Kd.R_reads' (Kd.R_after (ok := (fun k_ => some k_ ≠ (v197 : Value).ownBlock)) (by (with_reducible repeat (first | apply Kd.R_alloc | apply Kd.R_drewN | apply Kd.R_drew)); exact Kd.R_mono HO_5.out (fun _ hk => ⟨hk.1.2, hk.2⟩)) hg hat)).2.2) KL47.out))
         have n4_ := Aside0.mk ((show Kd.C (Kd.int .i64) w53 A48 y202.length y202 from by rw [Ny202.out, KA48.out]; exact Kd.C_drop (m := (x7_2 : Int).toNat) (c := co45) ((Kd.R_reads' (Kd.R_after (ok := (fun k_ => some k_ ≠ (v197 : Value).ownBlock)) (by (with_reducible repeat (first | apply Kd.R_alloc | apply Kd.R_drewN | apply Kd.R_drew)); exact Kd.R_mono HO_5.out (fun _ hk => ⟨hk.1.2, hk.2⟩)) hg hat)).2.2) KL48.out ((Kd.R_reads' (Kd.R_after (ok := (fun k_ => some k_ ≠ (v197 : Value).ownBlock)) (by (with_reducible repeat (first | apply Kd.R_alloc | apply Kd.R_drewN | apply Kd.R_drew)); exact Kd.R_mono HO_5.out (fun _ hk => ⟨hk.1.2, hk.2⟩)) hg hat)).2.1)))
         have n5_ := Aside0.mk (ho)
         clear HO_5
         clear HO198
         clear HB
         clear HR191
         clear HR205
         clear HO187
         have HO_5 := n0_
         have HO198 := n1_
         have HB := n2_
         have HR191 := n3_
         have HR205 := n4_
         have HO194 := n5_
         clear n0_ n1_ n2_ n3_ n4_ n5_
         clear ho hb hg hat
         refine hK.out _ _ ((cB HB.out hw195_0 :)) (fun hHeld => ?_)
         clear hK K
         refine norm_ (a' := ?_) ?_ ?_
         rotate_left
         ·show Act.put _ (some 37) _ = _
          simp only [Act.put, sA, sZ, sS, i64_w, i32_w]
          rfl
         exact norm_ (by simp only [putAll, Act.put, sA, sZ, sS]) (hCont (v186, v193, v197) _ ⟨hHeld, (by (with_reducible repeat (first | apply Kd.R_alloc | apply Kd.R_drewN | apply Kd.R_drew)); exact Kd.R_mono HO194.out (fun _ hk => ⟨hk.2, hk.1⟩)), (by (with_reducible repeat (first | apply Kd.R_alloc | apply Kd.R_drewN | apply Kd.R_drew)); exact Kd.R_mono HO198.out (fun _ hk => ⟨hk.2, hk.1⟩)), (by (with_reducible repeat (first | apply Kd.R_alloc | apply Kd.R_drewN | apply Kd.R_drew)); exact Kd.R_mono HO_5.out (fun _ hk => ⟨hk.2, hk.1⟩)), bB⟩)
       rintro ⟨v186, v193, v197⟩ w54 ⟨hS_, h0_, h1_, h2_, h3_⟩
       have n0_ : Aside0 (Kd.R (Kd.int .i64) 3 w54 w.heap.size (fun k_ => some k_ ≠ (v197 : Value).ownBlock ∧ some k_ ≠ (.slice Ao45 x5_1.length co45 : Value).ownBlock) v193 y192) := ⟨h0_⟩
       have n1_ : Aside0 (Kd.R (Kd.int .i64) 3 w54 w.heap.size (fun k_ => some k_ ≠ (v193 : Value).ownBlock ∧ some k_ ≠ (.slice Ao45 x5_1.length co45 : Value).ownBlock) v197 y196) := ⟨h1_⟩
       have n2_ : Aside0 (Kd.R (Kd.int .i64) 3 w54 w.heap.size (fun k_ => some k_ ≠ (v193 : Value).ownBlock ∧ some k_ ≠ (v197 : Value).ownBlock) (.slice Ao45 x5_1.length co45) x5_1) := ⟨h2_⟩
       have n3_ : Aside0 (Below w.heap.size w w54) := ⟨h3_⟩
       clear HO_5
       clear HB
       clear h0_ h1_ h2_ h3_
       have HO194 := n0_
       have HO198 := n1_
       have HO_5 := n2_
       have HB := n3_
       clear n0_ n1_ n2_ n3_
       have hHeld : w54.cell? (ad195.add (x6_1).toNat) = some (.int .i64 (rd l1 x6_1)) := hS_
       obtain ⟨Ao56, co56, eo56⟩ := Kd.R_slice HO198.out
       (first | subst eo56 | (injection eo56 with f1_ f2_ f3_; have f4_ := f1_.symm; have f5_ := f3_.symm; clear f1_ f2_ f3_; subst f4_; subst f5_))
       refine norm_ (a' := ?_) ?_ ?_
       rotate_left
       ·simp only [putAll, Act.put, sA, sZ, sS]
        rfl
       refine one_ (i := 10) (N := some 43) (bA 16 16383) rfl rfl (one_of HT_.out (by kernel_rfl)) (by decide) (fun K hK => ?_)
       refine Kd.R_append_rows_step (Kd.int .i64) (w0 := w) w.heap.size (by rfl) (.tmp 37) (.tmp 42) 37 3 (.int .i64 0) 8 rfl Try.underlying37 info3 rfl (by decide) (by omega) v193 y192 y196 _ _ _ (fun k_ => some k_ ≠ (.slice Ao45 x5_1.length co45 : Value).ownBlock ∧ some k_ ≠ (.slice Ao56 y196.length co56 : Value).ownBlock) (fun _ => False) rfl rfl ?aO ?aR (fun _ _ h => h) (fun _ h => h.elim) ?aF ?aB ?aS ?aL ?_
       (case aR => exact cK ((Kd.R_reads' HO198.out).2.2))
       (case aB => exact bB)
       (case aF => exact (fun k_ hk => ⟨Kd.fresh' (Kd.R_lt (by (with_reducible repeat (first | apply Kd.R_alloc | apply Kd.R_drewN | apply Kd.R_drew)); exact HO_5.out)) k_ hk, Kd.fresh' (Kd.R_lt (by (with_reducible repeat (first | apply Kd.R_alloc | apply Kd.R_drewN | apply Kd.R_drew)); exact HO198.out)) k_ hk⟩))
       (case aO => exact (by (with_reducible repeat (first | apply Kd.R_alloc | apply Kd.R_drewN | apply Kd.R_drew)); exact Kd.R_mono HO194.out (fun _ hk => ⟨hk.2, hk.1⟩)))
       (case aS => exact (below_size bB))
       (case aL => have := LMc40.out; omega)
       intro v200 w55 ho hb hg hat
       rw [← Ny199.out] at ho
       have n0_ := Aside0.mk (Kd.R_after (ok := (fun k_ => some k_ ≠ (.slice Ao56 y196.length co56 : Value).ownBlock)) (by (with_reducible repeat (first | apply Kd.R_alloc | apply Kd.R_drewN | apply Kd.R_drew)); exact Kd.R_mono HO_5.out (fun _ hk => ⟨hk.2, hk.1⟩)) hg hat)
       have n1_ := Aside0.mk (Kd.R_after (ok := (fun k_ => some k_ ≠ (.slice Ao45 x5_1.length co45 : Value).ownBlock)) (by (with_reducible repeat (first | apply Kd.R_alloc | apply Kd.R_drewN | apply Kd.R_drew)); exact Kd.R_mono HO198.out (fun _ hk => ⟨hk.2, hk.1⟩)) hg hat)
       have n2_ := Aside0.mk (hb)
       have n3_ := Aside0.mk (ho)
       clear HO_5
       clear HO198
       clear HB
       clear HO194
       have HO_5 := n0_
       have HO198 := n1_
       have HB := n2_
       have HO201 := n3_
       clear n0_ n1_ n2_ n3_
       clear ho hb hg hat
       refine hK.out _ _ ((cB HB.out hw195_0 :)) (fun hHeld => ?_)
       clear hK K
       refine norm_ (a' := ?_) ?_ ?_
       rotate_left
       ·show Act.put _ (some 43) _ = _
        simp only [Act.put, sA, sZ, sS, i64_w, i32_w]
        rfl
       refine one_ (i := 14) (N := some 47) (bA 16 32767) rfl rfl (one_of HT_.out (by kernel_rfl)) (by decide) (fun K hK => ?_)
       refine Kd.R_append_rows_step (Kd.int .i64) (w0 := w) w.heap.size (by rfl) (.tmp 43) (.tmp 46) 37 3 (.int .i64 0) 8 rfl Try.underlying37 info3 rfl (by decide) (by omega) v200 y199 y202 _ _ _ (fun k_ => some k_ ≠ (.slice Ao45 x5_1.length co45 : Value).ownBlock ∧ some k_ ≠ (.slice Ao56 y196.length co56 : Value).ownBlock) (fun _ => False) rfl rfl ?aO ?aR (fun _ _ h => h) (fun _ h => h.elim) ?aF ?aB ?aS ?aL ?_
       (case aR => exact cK ((show Kd.C (Kd.int .i64) w55 A48 y202.length y202 from by rw [Ny202.out, KA48.out]; exact Kd.C_drop (m := (x7_2 : Int).toNat) (c := co45) ((Kd.R_reads' HO_5.out).2.2) KL48.out ((Kd.R_reads' HO_5.out).2.1))))
       (case aB => exact bB)
       (case aF => exact (fun k_ hk => ⟨Kd.fresh' (Kd.R_lt (by (with_reducible repeat (first | apply Kd.R_alloc | apply Kd.R_drewN | apply Kd.R_drew)); exact HO_5.out)) k_ hk, Kd.fresh' (Kd.R_lt (by (with_reducible repeat (first | apply Kd.R_alloc | apply Kd.R_drewN | apply Kd.R_drew)); exact HO198.out)) k_ hk⟩))
       (case aO => exact (by (with_reducible repeat (first | apply Kd.R_alloc | apply Kd.R_drewN | apply Kd.R_drew)); exact HO201.out))
       (case aS => exact (below_size bB))
       (case aL => have := LMc43.out; omega)
       intro v207 w57 ho hb hg hat
       rw [← Ny206.out] at ho
       have n0_ := Aside0.mk (Kd.R_after (ok := (fun k_ => some k_ ≠ (.slice Ao56 y196.length co56 : Value).ownBlock)) (by (with_reducible repeat (first | apply Kd.R_alloc | apply Kd.R_drewN | apply Kd.R_drew)); exact HO_5.out) hg hat)
       have n1_ := Aside0.mk (Kd.R_after (ok := (fun k_ => some k_ ≠ (.slice Ao45 x5_1.length co45 : Value).ownBlock)) (by (with_reducible repeat (first | apply Kd.R_alloc | apply Kd.R_drewN | apply Kd.R_drew)); exact HO198.out) hg hat)
       have n2_ := Aside0.mk (hb)
       have n3_ := Aside0.mk (ho)
       clear HO_5
       clear HO198
       clear HB
       clear HO201
       have HO_5 := n0_
       have HO198 := n1_
       have HB := n2_
       have HO208 := n3_
       clear n0_ n1_ n2_ n3_
       clear ho hb hg hat
       refine hK.out _ _ ((cB HB.out hw195_0 :)) (fun hHeld => ?_)
       clear hK K
       refine norm_ (a' := ?_) ?_ ?_
       rotate_left
       ·show Act.put _ (some 47) _ = _
        simp only [Act.put, sA, sZ, sS, i64_w, i32_w]
        rfl
       refine pU 15 5 (bA 16 65535) ?_
       refine done_ (done_of HT_.out (by kernel_rfl)) ?_
       try go_wp2
       go_roundg k2
       case measure => have := HK1.out; have := HK2.out; omega
       case rel => exact ⟨(y206), (wrap64 (x6_1 + 1)), sD, H', ⟨by have := HK1.out; have := HK2.out; omega⟩, ⟨by (with_reducible repeat (first | apply Kd.R_alloc | apply Kd.R_drewN | apply Kd.R_drew)); exact Kd.R_mono HO208.out (fun _ hk => trivial)⟩, ⟨by repeat (first | (with_reducible first | exact HB.out | apply below_alloc | apply pw_below_drewN | apply below_drew1) | exact HB.out)⟩⟩
   ·rw [if_neg c5] at H
    have c5b0 : decide (x6_1 < (l1.length : Int)) = false := decide_eq_false c5
    clear c5
    obtain rfl := Option.some.inj H
    go_wp2
    go_ret
    exact ⟨_, by first | rfl | (simp [errW_none, errW_some] <;> rfl) | (simp [*, errW_none, errW_some] <;> rfl), by (with_reducible repeat (first | apply Kd.R_alloc | apply Kd.R_drewN | apply Kd.R_drew)); exact HO_5.out, bB⟩

end Go.Proofs.Ythhmembnhnghiaa.OFnExactTimelySets
