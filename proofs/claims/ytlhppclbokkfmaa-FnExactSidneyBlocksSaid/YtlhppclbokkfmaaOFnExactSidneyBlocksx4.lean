/- Functions of the program as plain Lean functions, with their contracts: written by this session's program ownprint.py. Conditions: none. -/
import Derived.Test.YtlhppclbokkfmaaOFnExactSidneyBlocksx0
import Derived.Test.YtlhppclbokkfmaaOFnExactSidneyBlocksx1
import Derived.Test.YtlhppclbokkfmaaOFnExactSidneyBlocksx3
namespace Go.Proofs.Ytlhppclbokkfmaa.OFnExactSidneyBlocks
open Go.RowKit Go.Proofs.YtlhppclbokkfmaaW.PrintWords Go.Proofs.YtlhppclbokkfmaaW.PrintLast Go.Proofs.YtlhppclbokkfmaaW.PrintMore
attribute [local go_sem] max2_int min2_int max_two min_two max_three min_three max_four min_four   -- for this text's walks alone
set_option linter.unusedVariables false
set_option linter.unusedSimpArgs false

/-! ### spec_l4Pairs: function 86 -/
def spec_l4Pairs.l0 : Nat → Int → List (S53) → Int → Option (Bool)
 | 0, _, _, _ => none
 | k + 1, x0, x1, x5 => if x5 < (x1.length : Int) then (if 0 ≤ x5 then ((spec_l1In.f ((rd_T53 x1 x5).f0) 0 (wrap64 (x0 - 1))).bind fun t136 => (if t136 = true then ((spec_l1In.f ((rd_T53 x1 x5).f1) 0 (wrap64 (x0 - 1))).bind fun t138 => (if t138 = true then (if ((rd_T53 x1 x5).f0) = ((rd_T53 x1 x5).f1) then (some false) else (if x5 > 0 then (if 0 ≤ (wrap64 (x5 - 1)) then (if (wrap64 (x5 - 1)) < (x1.length : Int) then ((spec_l4Before.f ((rd_T53 x1 (wrap64 (x5 - 1))).f0) ((rd_T53 x1 (wrap64 (x5 - 1))).f1) ((rd_T53 x1 x5).f0) ((rd_T53 x1 x5).f1)).bind fun t143 => (if t143 = true then (spec_l4Pairs.l0 k x0 x1 (wrap64 (x5 + 1))) else (some false))) else (none)) else (none)) else (spec_l4Pairs.l0 k x0 x1 (wrap64 (x5 + 1))))) else (some false))) else (some false))) else (none)) else ((spec_l1In.f x0 0 8).bind fun t134 => (if t134 = true then (some (decide ((x1.length : Int) ≤ 28))) else (some false)))
def spec_l4Pairs.f (k : Nat) (a0 : Int) (l1 : List (S53)) : Option (Bool) := spec_l4Pairs.l0 k a0 l1 0
theorem spec_l4Pairs.mono_l : ∀ k, (∀ y0 y1 y2, LeO (spec_l4Pairs.l0 k y0 y1 y2) (spec_l4Pairs.l0 (k + 1) y0 y1 y2))
 | 0 => fun _ _ _ r h => by simp [spec_l4Pairs.l0] at h
 | k + 1 => by
  have ih0 := spec_l4Pairs.mono_l k
  ·intro y0 y1 y2
   unfold spec_l4Pairs.l0
   repeat' first
   | (with_reducible exact ih0 _ _ _)
   | (with_reducible exact LeO.refl _)
   | (with_reducible exact LeO.none _)
   | (with_reducible refine LeO.ite ?_ ?_)
   | (with_reducible refine LeO.bind ?_ (fun _ => ?_))
   | exact ih0 _ _ _
   | exact LeO.none _
   | refine LeO.ite ?_ ?_
   | refine LeO.bind ?_ (fun _ => ?_)
theorem spec_l4Pairs.mono : ∀ a0 a1 k, LeO (spec_l4Pairs.f k a0 a1) (spec_l4Pairs.f (k + 1) a0 a1) := by
 intro a0 a1 k
 have ih0 := spec_l4Pairs.mono_l k
 unfold spec_l4Pairs.f
 repeat' first
   | (with_reducible exact ih0 _ _ _)
   | (with_reducible exact LeO.refl _)
   | (with_reducible exact LeO.none _)
   | (with_reducible refine LeO.ite ?_ ?_)
   | (with_reducible refine LeO.bind ?_ (fun _ => ?_))
   | exact ih0 _ _ _
   | exact LeO.none _
   | refine LeO.ite ?_ ?_
   | refine LeO.bind ?_ (fun _ => ?_)
def spec_l4Pairs.T4 : Bool × List (List Nat × List Nat) := (true, [([], []), ([], []), ([0, 1], [0, 1]), ([2], [2]), ([3], [3]), ([], []), ([5], [5]), ([4, 6], [4, 6]), ([7], [7]), ([8, 7], [8]), ([9], [9]), ([9], [9]), ([10, 11, 9], [9, 10, 11]), ([12, 9], [9, 12]), ([13, 9], [9, 13]), ([9], [9]), ([15, 9], [9, 15]), ([14, 16, 9, 9], [9, 14, 16]), ([17, 9], [9, 17]), ([9, 18], [9, 18]), ([19, 17], [19]), ([20], [20]), ([20], [20]), ([21, 22, 20], [20, 21, 22]), ([23, 20], [20, 23]), ([24, 20], [20, 24]), ([20], [20]), ([20], [20]), ([26, 27, 20], [20, 26, 27]), ([28, 20], [20, 28]), ([29, 20], [20, 29]), ([25, 30, 20], [20, 25, 30]), ([20, 31], [20, 31]), ([32, 20], [32]), ([33], [33]), ([34, 33], [33, 34]), ([35, 33, 33], [33, 35]), ([36], [36]), ([36], [36]), ([38, 36], [36, 38]), ([37, 39, 36], [36, 37, 39]), ([40, 36], [36, 40]), ([36], [36]), ([36], [36]), ([42, 43, 36], [36, 42, 43]), ([44, 36], [36, 44]), ([41, 45, 36, 36], [36, 41, 45]), ([46, 36], [36, 46]), ([36, 47, 33], [33, 36, 47]), ([33, 48], [33, 48])])
def spec_l4Pairs.B4 : List Nat := [0, 0, 3, 7, 15, 0, 32, 127, 255, 511, 1023, 1023, 4095, 8191, 16383, 1023, 33791, 131071, 262143, 524287, 1048575, 2097151, 2097151, 8388607, 16777215, 33554431, 2097151, 2097151, 203423743, 471859199, 1008730111, 2147483647, 4294967295, 8589934591, 17179869183, 34359738367, 68719476735, 137438953471, 137438953471, 412316860415, 1099511627775, 2199023255551, 137438953471, 137438953471, 13331578486783, 30923764531199, 70368744177663, 140737488355327, 281474976710655, 562949953421311]
theorem spec_l4Pairs.tab4 : rtab .any (opsOf Try.f86 4) = spec_l4Pairs.T4 := by kernel_rfl
theorem spec_l4Pairs.bits4 : waitsOk spec_l4Pairs.T4.2 spec_l4Pairs.B4 = true := by kernel_rfl
set_option maxHeartbeats 8000000 in
set_option maxRecDepth 100000 in
theorem spec_l4Pairs.calls (k : Nat) (a0 : Int) (A1 : Option Addr) (c1 : Nat) (l1 : List (S53)) (r : Bool) (w : World) (hr1 : Kd.C k53 w A1 l1.length l1) (hc1 : l1.length ≤ c1) (h : spec_l4Pairs.f k a0 l1 = some r) :
  Calls Try.prog 86 #[.int .i64 a0, .slice A1 l1.length c1] w fun e w' => e = .returned (.bool r) ∧ Below w.heap.size w w' := by
 have hu53 := Try.underlying53
 have HR1 := Aside0.mk hr1
 have HC1 := Aside0.mk hc1
 clear hr1 hc1
 have HB := Aside0.mk (Below.refl w.heap.size w)
 have H : (spec_l4Pairs.l0 k a0 l1 0) = some r := h
 clear h
 have H' := Aside0.mk H
 clear H
 go_enter Try.func86, Try.ntmps86
 go_wp2
 go_loopg [5] k (fun kq v5 w' => ∃ (x5_1 : Int), v5 = .int .i64 x5_1 ∧ Aside0 (spec_l4Pairs.l0 kq a0 l1 x5_1 = some r) ∧ Aside0 (kq ≤ k) ∧ Aside0 (Below w.heap.size w w'))
 case atStart => exact ⟨(0), sD, H', ⟨Nat.le_refl _⟩, ⟨by repeat (first | (with_reducible first | exact HB.out | apply below_alloc | apply pw_below_drewN | apply below_drew1) | exact HB.out)⟩⟩
 case round =>
  clear H'
  try clear c1
  try clear p2
  obtain ⟨x5_1, rfl, HA, HK1, HB⟩ := hrel
  cases gk with
  | zero => exact absurd HA.out (by simp [spec_l4Pairs.l0])
  | succ k1 =>
   have H := HA.out
   clear HA
   simp only [spec_l4Pairs.l0] at H
   by_cases c3 : x5_1 < (l1.length : Int)
   ·rw [if_pos c3] at H
    have c3b0 : decide (x5_1 < (l1.length : Int)) = true := decide_eq_true c3
    clear c3
    by_cases c4 : 0 ≤ x5_1; rotate_left
    ·rw [if_neg c4] at H; exact absurd H (by simp)
    rw [if_pos c4] at H
    have c4b0 : decide (0 ≤ x5_1) = true := decide_eq_true c4
    clear c4
    replace H := Option.bind_eq_some_iff.mp H
    obtain ⟨t136, A50, H⟩ := H
    replace H : (if t136 = true then ((spec_l1In.f ((rd_T53 l1 x5_1).f1) 0 (wrap64 (a0 - 1))).bind fun t138 => (if t138 = true then (if ((rd_T53 l1 x5_1).f0) = ((rd_T53 l1 x5_1).f1) then (some false) else (if x5_1 > 0 then (if 0 ≤ (wrap64 (x5_1 - 1)) then (if (wrap64 (x5_1 - 1)) < (l1.length : Int) then ((spec_l4Before.f ((rd_T53 l1 (wrap64 (x5_1 - 1))).f0) ((rd_T53 l1 (wrap64 (x5_1 - 1))).f1) ((rd_T53 l1 x5_1).f0) ((rd_T53 l1 x5_1).f1)).bind fun t143 => (if t143 = true then (spec_l4Pairs.l0 k1 a0 l1 (wrap64 (x5_1 + 1))) else (some false))) else (none)) else (none)) else (spec_l4Pairs.l0 k1 a0 l1 (wrap64 (x5_1 + 1))))) else (some false))) else (some false)) = some r := H
    have A5 := Aside0.mk A50
    clear A50
    by_cases c6 : t136 = true
    ·subst c6
     have H1 : ((spec_l1In.f ((rd_T53 l1 x5_1).f1) 0 (wrap64 (a0 - 1))).bind fun t138 => (if t138 = true then (if ((rd_T53 l1 x5_1).f0) = ((rd_T53 l1 x5_1).f1) then (some false) else (if x5_1 > 0 then (if 0 ≤ (wrap64 (x5_1 - 1)) then (if (wrap64 (x5_1 - 1)) < (l1.length : Int) then ((spec_l4Before.f ((rd_T53 l1 (wrap64 (x5_1 - 1))).f0) ((rd_T53 l1 (wrap64 (x5_1 - 1))).f1) ((rd_T53 l1 x5_1).f0) ((rd_T53 l1 x5_1).f1)).bind fun t143 => (if t143 = true then (spec_l4Pairs.l0 k1 a0 l1 (wrap64 (x5_1 + 1))) else (some false))) else (none)) else (none)) else (spec_l4Pairs.l0 k1 a0 l1 (wrap64 (x5_1 + 1))))) else (some false))) = some r := by rw [if_pos rfl] at H; exact H
     clear H
     have H := H1
     clear H1
     replace H := Option.bind_eq_some_iff.mp H
     obtain ⟨t138, A70, H⟩ := H
     replace H : (if t138 = true then (if ((rd_T53 l1 x5_1).f0) = ((rd_T53 l1 x5_1).f1) then (some false) else (if x5_1 > 0 then (if 0 ≤ (wrap64 (x5_1 - 1)) then (if (wrap64 (x5_1 - 1)) < (l1.length : Int) then ((spec_l4Before.f ((rd_T53 l1 (wrap64 (x5_1 - 1))).f0) ((rd_T53 l1 (wrap64 (x5_1 - 1))).f1) ((rd_T53 l1 x5_1).f0) ((rd_T53 l1 x5_1).f1)).bind fun t143 => (if t143 = true then (spec_l4Pairs.l0 k1 a0 l1 (wrap64 (x5_1 + 1))) else (some false))) else (none)) else (none)) else (spec_l4Pairs.l0 k1 a0 l1 (wrap64 (x5_1 + 1))))) else (some false)) = some r := H
     have A7 := Aside0.mk A70
     clear A70
     by_cases c8 : t138 = true
     ·subst c8
      have H1 : (if ((rd_T53 l1 x5_1).f0) = ((rd_T53 l1 x5_1).f1) then (some false) else (if x5_1 > 0 then (if 0 ≤ (wrap64 (x5_1 - 1)) then (if (wrap64 (x5_1 - 1)) < (l1.length : Int) then ((spec_l4Before.f ((rd_T53 l1 (wrap64 (x5_1 - 1))).f0) ((rd_T53 l1 (wrap64 (x5_1 - 1))).f1) ((rd_T53 l1 x5_1).f0) ((rd_T53 l1 x5_1).f1)).bind fun t143 => (if t143 = true then (spec_l4Pairs.l0 k1 a0 l1 (wrap64 (x5_1 + 1))) else (some false))) else (none)) else (none)) else (spec_l4Pairs.l0 k1 a0 l1 (wrap64 (x5_1 + 1))))) = some r := by rw [if_pos rfl] at H; exact H
      clear H
      have H := H1
      clear H1
      by_cases c9 : ((rd_T53 l1 x5_1).f0) = ((rd_T53 l1 x5_1).f1)
      ·rw [if_pos c9] at H
       have c9b0 : (((rd_T53 l1 x5_1).f0) == ((rd_T53 l1 x5_1).f1)) = true := beq_iff_eq.mpr c9
       have c9b1 : (((rd_T53 l1 x5_1).f0) != ((rd_T53 l1 x5_1).f1)) = false := bne_eq_false_iff_eq.mpr c9
       clear c9
       obtain rfl := Option.some.inj H
       try go_wp2
       have n0_ := Aside0.mk (below_drew1 HB.out)
       clear HB
       have HB := n0_
       clear n0_
       have p135 : 0 ≤ (x5_1 : Int) := oD
       have q135 : x5_1 < (l1.length : Int) := oD
       obtain ⟨ad135, e135, hx135_0, hx135_1⟩ := at_T53 HR1.out x5_1 p135 q135
       have hw135_1 := hx135_1
       have hw135_0 := hx135_0
       cases e135
       replace hx135_0 := (cB HB.out hx135_0 :)
       replace hx135_1 := (cB HB.out hx135_1 :)
       replace p135 := eq_true p135
       replace q135 := eq_true q135
       have p137 : 0 ≤ (x5_1 : Int) := oD
       have q137 : x5_1 < (l1.length : Int) := oD
       obtain ⟨ad137, e137, hx137_0, hx137_1⟩ := at_T53 HR1.out x5_1 p137 q137
       have hw137_1 := hx137_1
       have hw137_0 := hx137_0
       obtain rfl : ad135 = ad137 := (by injection e137)
       replace hx137_0 := (cB HB.out hx137_0 :)
       replace hx137_1 := (cB HB.out hx137_1 :)
       replace p137 := eq_true p137
       replace q137 := eq_true q137
       have p139 : 0 ≤ (x5_1 : Int) := oD
       have q139 : x5_1 < (l1.length : Int) := oD
       obtain ⟨ad139, e139, hx139_0, hx139_1⟩ := at_T53 HR1.out x5_1 p139 q139
       have hw139_1 := hx139_1
       have hw139_0 := hx139_0
       obtain rfl : ad135 = ad139 := (by injection e139)
       replace hx139_0 := (cB HB.out hx139_0 :)
       replace hx139_1 := (cB HB.out hx139_1 :)
       replace p139 := eq_true p139
       replace q139 := eq_true q139
       have p140 : 0 ≤ (x5_1 : Int) := oD
       have q140 : x5_1 < (l1.length : Int) := oD
       obtain ⟨ad140, e140, hx140_0, hx140_1⟩ := at_T53 HR1.out x5_1 p140 q140
       have hw140_1 := hx140_1
       have hw140_0 := hx140_0
       obtain rfl : ad135 = ad140 := (by injection e140)
       replace hx140_0 := (cB HB.out hx140_0 :)
       replace hx140_1 := (cB HB.out hx140_1 :)
       replace p140 := eq_true p140
       replace q140 := eq_true q140
       refine start_ (n := 50) (S := fun w' => w'.cell? (ad135.add ((x5_1).toNat * 2)) = some (.int .i64 ((rd_T53 l1 x5_1).f0)) ∧ w'.cell? ⟨(ad135.add ((x5_1).toNat * 2)).block, (ad135.add ((x5_1).toNat * 2)).off + 1, none⟩ = some (.int .i64 ((rd_T53 l1 x5_1).f1)) ∧ w'.cell? (ad135.add ((x5_1).toNat * 2)) = some (.int .i64 ((rd_T53 l1 x5_1).f0)) ∧ w'.cell? ⟨(ad135.add ((x5_1).toNat * 2)).block, (ad135.add ((x5_1).toNat * 2)).off + 1, none⟩ = some (.int .i64 ((rd_T53 l1 x5_1).f1)) ∧ w'.cell? (ad135.add ((x5_1).toNat * 2)) = some (.int .i64 ((rd_T53 l1 x5_1).f0)) ∧ w'.cell? ⟨(ad135.add ((x5_1).toNat * 2)).block, (ad135.add ((x5_1).toNat * 2)).off + 1, none⟩ = some (.int .i64 ((rd_T53 l1 x5_1).f1)) ∧ w'.cell? (ad135.add ((x5_1).toNat * 2)) = some (.int .i64 ((rd_T53 l1 x5_1).f0)) ∧ w'.cell? ⟨(ad135.add ((x5_1).toNat * 2)).block, (ad135.add ((x5_1).toNat * 2)).off + 1, none⟩ = some (.int .i64 ((rd_T53 l1 x5_1).f1))) (ds := []) (bA 50 0) (by kernel_rfl) rfl rfl ⟨(cB HB.out hw135_0 :), (cB HB.out hw135_1 :), (cB HB.out hw137_0 :), (cB HB.out hw137_1 :), (cB HB.out hw139_0 :), (cB HB.out hw139_1 :), (cB HB.out hw140_0 :), (cB HB.out hw140_1 :)⟩ (fun hHeld => ?_); refine with_tabW spec_l4Pairs.tab4 spec_l4Pairs.bits4 (fun HT_ HW_ => ?_)
       generalize wr.drew = w10 at HB hx135_0 hx135_1 hx137_0 hx137_1 hx139_0 hx139_1 hx140_0 hx140_1 hHeld ⊢
       refine pU 0 12 (bA 50 1) ?_
       refine pU 1 13 (bA 50 3) ?_
       refine pU 2 14 (bA 50 7) ?_
       refine pU 3 15 (bA 50 15) ?_
       refine pU 5 17 (bA 50 47) ?_
       refine pU 6 18 (bA 50 111) ?_
       refine tU 4 16 (bA 50 127) ?_
       refine one_ (i := 7) (N := some 19) (bA 50 255) rfl rfl (one_of HT_.out (by kernel_rfl)) (by decide) (fun K hK => ?_)
       refine goes_ Try.func79 (by kernel_rfl) rfl #[.int .i64 ((rd_T53 l1 x5_1).f0), .int .i64 0, .int .i64 (wrap64 (a0 - 1))] (by rfl) rfl rfl aE ?_
       with_reducible refine (spec_l1In.calls ((rd_T53 l1 x5_1).f0) 0 (wrap64 (a0 - 1)) true _ A5.out).mono ?_
       rintro e w' ⟨rfl, ⟨nd, rfl⟩⟩
       refine ⟨_, rfl, ?_⟩
       refine hK.out _ _ ⟨(cB HB.out hw135_0 :), (cB HB.out hw135_1 :), (cB HB.out hw137_0 :), (cB HB.out hw137_1 :), (cB HB.out hw139_0 :), (cB HB.out hw139_1 :), (cB HB.out hw140_0 :), (cB HB.out hw140_1 :)⟩ (fun hHeld => ?_)
       clear hK K
       refine norm_ (a' := ?_) ?_ ?_
       rotate_left
       ·show Act.put _ (some 19) _ = _
        simp only [Act.put, sA, sZ, sS, i64_w, i32_w]
        rfl
       refine pU 8 20 (bA 50 511) ?_
       refine pU 9 21 (bA 50 1023) ?_
       refine pU 10 22 (bA 50 2047) ?_
       refine pU 11 23 (bA 50 4095) ?_
       refine pU 12 24 (bA 50 8191) ?_
       refine pU 13 25 (bA 50 16383) ?_
       refine pU 15 27 (bA 50 49151) ?_
       refine pU 16 28 (bA 50 114687) ?_
       refine tU 14 26 (bA 50 131071) ?_
       refine one_ (i := 17) (N := some 29) (bA 50 262143) rfl rfl (one_of HT_.out (by kernel_rfl)) (by decide) (fun K hK => ?_)
       refine goes_ Try.func79 (by kernel_rfl) rfl #[.int .i64 ((rd_T53 l1 x5_1).f1), .int .i64 0, .int .i64 (wrap64 (a0 - 1))] (by rfl) rfl rfl aE ?_
       with_reducible refine (spec_l1In.calls ((rd_T53 l1 x5_1).f1) 0 (wrap64 (a0 - 1)) true _ A7.out).mono ?_
       rintro e w' ⟨rfl, ⟨nd, rfl⟩⟩
       refine ⟨_, rfl, ?_⟩
       refine hK.out _ _ ⟨(cB HB.out hw135_0 :), (cB HB.out hw135_1 :), (cB HB.out hw137_0 :), (cB HB.out hw137_1 :), (cB HB.out hw139_0 :), (cB HB.out hw139_1 :), (cB HB.out hw140_0 :), (cB HB.out hw140_1 :)⟩ (fun hHeld => ?_)
       clear hK K
       refine norm_ (a' := ?_) ?_ ?_
       rotate_left
       ·show Act.put _ (some 29) _ = _
        simp only [Act.put, sA, sZ, sS, i64_w, i32_w]
        rfl
       refine pU 18 30 (bA 50 524287) ?_
       refine pU 19 31 (bA 50 1048575) ?_
       refine pU 20 32 (bA 50 2097151) ?_
       refine pU 21 33 (bA 50 4194303) ?_
       refine pU 22 34 (bA 50 8388607) ?_
       refine pU 23 35 (bA 50 16777215) ?_
       refine pU 24 36 (bA 50 33554431) ?_
       refine pU 26 38 (bA 50 100663295) ?_
       refine pU 27 39 (bA 50 234881023) ?_
       refine pU 28 40 (bA 50 503316479) ?_
       refine pU 29 41 (bA 50 1040187391) ?_
       refine tU 25 37 (bA 50 1073741823) ?_
       refine tU 30 42 (bA 50 2147483647) ?_
       refine pU 31 43 (bA 50 4294967295) ?_
       refine pU 32 44 (bA 50 8589934591) ?_
       refine pU 33 45 (bA 50 17179869183) ?_
       refine nU 34 46 (bA 50 34359738367) ?_
       refine nU 35 47 (bA 50 68719476735) ?_
       refine nU 36 48 (bA 50 137438953471) ?_
       refine nU 37 49 (bA 50 274877906943) ?_
       refine nU 38 50 (bA 50 549755813887) ?_
       refine nU 39 51 (bA 50 1099511627775) ?_
       refine nU 40 52 (bA 50 2199023255551) ?_
       refine nU 41 53 (bA 50 4398046511103) ?_
       refine nU 42 54 (bA 50 8796093022207) ?_
       refine nU 43 55 (bA 50 17592186044415) ?_
       refine nU 44 56 (bA 50 35184372088831) ?_
       refine nU 45 57 (bA 50 70368744177663) ?_
       refine nU 46 58 (bA 50 140737488355327) ?_
       refine nU 47 59 (bA 50 281474976710655) ?_
       refine nU 48 60 (bA 50 562949953421311) ?_
       refine pU 49 61 (bA 50 1125899906842623) ?_
       refine done_ (done_of HT_.out (by kernel_rfl)) ?_
       try go_wp2
       go_ret
       exact ⟨rE, bB⟩
      ·rw [if_neg c9] at H
       have c9b0 : (((rd_T53 l1 x5_1).f0) == ((rd_T53 l1 x5_1).f1)) = false := beq_eq_false_iff_ne.mpr c9
       have c9b1 : (((rd_T53 l1 x5_1).f0) != ((rd_T53 l1 x5_1).f1)) = true := bne_iff_ne.mpr c9
       by_cases c11 : x5_1 > 0
       ·rw [if_pos c11] at H
        have c11b0 : decide (0 < x5_1) = true := decide_eq_true c11
        clear c11
        obtain ⟨ji12, hji12⟩ : ∃ j_ : Int, (wrap64 (x5_1 - 1)) = j_ := ⟨_, rfl⟩
        replace H : (if 0 ≤ (ji12) then (if (ji12) < (l1.length : Int) then ((spec_l4Before.f ((rd_T53 l1 (ji12)).f0) ((rd_T53 l1 (ji12)).f1) ((rd_T53 l1 x5_1).f0) ((rd_T53 l1 x5_1).f1)).bind fun t143 => (if t143 = true then (spec_l4Pairs.l0 k1 a0 l1 (wrap64 (x5_1 + 1))) else (some false))) else (none)) else (none)) = some r := by first | (rw [hji12] at H; exact H) | (simp only [hji12] at H ⊢; exact H)
        (try rw [hji12] at A5)
        (try rw [hji12] at A7)
        have hji12w : (IntKind.i64.wrap (x5_1 - 1)) = ji12 := (i64_w _).trans hji12
        by_cases c13 : 0 ≤ (ji12); rotate_left
        ·rw [if_neg c13] at H; exact absurd H (by simp)
        rw [if_pos c13] at H
        have c13b0 : decide (0 ≤ (ji12)) = true := decide_eq_true c13
        clear c13
        by_cases c14 : (ji12) < (l1.length : Int); rotate_left
        ·rw [if_neg c14] at H; exact absurd H (by simp)
        rw [if_pos c14] at H
        have c14b0 : decide ((ji12) < (l1.length : Int)) = true := decide_eq_true c14
        clear c14
        replace H := Option.bind_eq_some_iff.mp H
        obtain ⟨t143, A150, H⟩ := H
        replace H : (if t143 = true then (spec_l4Pairs.l0 k1 a0 l1 (wrap64 (x5_1 + 1))) else (some false)) = some r := H
        have A15 := Aside0.mk A150
        clear A150
        by_cases c16 : t143 = true
        ·subst c16
         have H1 : (spec_l4Pairs.l0 k1 a0 l1 (wrap64 (x5_1 + 1))) = some r := by rw [if_pos rfl] at H; exact H
         clear H
         have H := H1
         clear H1
         have H' := Aside0.mk H
         clear H
         try go_wp2
         have n0_ := Aside0.mk (below_drew1 HB.out)
         clear HB
         have HB := n0_
         clear n0_
         have p135 : 0 ≤ (x5_1 : Int) := oD
         have q135 : x5_1 < (l1.length : Int) := oD
         obtain ⟨ad135, e135, hx135_0, hx135_1⟩ := at_T53 HR1.out x5_1 p135 q135
         have hw135_1 := hx135_1
         have hw135_0 := hx135_0
         cases e135
         replace hx135_0 := (cB HB.out hx135_0 :)
         replace hx135_1 := (cB HB.out hx135_1 :)
         replace p135 := eq_true p135
         replace q135 := eq_true q135
         have p137 : 0 ≤ (x5_1 : Int) := oD
         have q137 : x5_1 < (l1.length : Int) := oD
         obtain ⟨ad137, e137, hx137_0, hx137_1⟩ := at_T53 HR1.out x5_1 p137 q137
         have hw137_1 := hx137_1
         have hw137_0 := hx137_0
         obtain rfl : ad135 = ad137 := (by injection e137)
         replace hx137_0 := (cB HB.out hx137_0 :)
         replace hx137_1 := (cB HB.out hx137_1 :)
         replace p137 := eq_true p137
         replace q137 := eq_true q137
         have p139 : 0 ≤ (x5_1 : Int) := oD
         have q139 : x5_1 < (l1.length : Int) := oD
         obtain ⟨ad139, e139, hx139_0, hx139_1⟩ := at_T53 HR1.out x5_1 p139 q139
         have hw139_1 := hx139_1
         have hw139_0 := hx139_0
         obtain rfl : ad135 = ad139 := (by injection e139)
         replace hx139_0 := (cB HB.out hx139_0 :)
         replace hx139_1 := (cB HB.out hx139_1 :)
         replace p139 := eq_true p139
         replace q139 := eq_true q139
         have p140 : 0 ≤ (x5_1 : Int) := oD
         have q140 : x5_1 < (l1.length : Int) := oD
         obtain ⟨ad140, e140, hx140_0, hx140_1⟩ := at_T53 HR1.out x5_1 p140 q140
         have hw140_1 := hx140_1
         have hw140_0 := hx140_0
         obtain rfl : ad135 = ad140 := (by injection e140)
         replace hx140_0 := (cB HB.out hx140_0 :)
         replace hx140_1 := (cB HB.out hx140_1 :)
         replace p140 := eq_true p140
         replace q140 := eq_true q140
         have p141 : 0 ≤ ((ji12) : Int) := oD
         have q141 : (ji12) < (l1.length : Int) := oD
         obtain ⟨ad141, e141, hx141_0, hx141_1⟩ := at_T53 HR1.out (ji12) p141 q141
         have hw141_1 := hx141_1
         have hw141_0 := hx141_0
         obtain rfl : ad135 = ad141 := (by injection e141)
         replace hx141_0 := (cB HB.out hx141_0 :)
         replace hx141_1 := (cB HB.out hx141_1 :)
         replace p141 := eq_true p141
         replace q141 := eq_true q141
         have p142 : 0 ≤ (x5_1 : Int) := oD
         have q142 : x5_1 < (l1.length : Int) := oD
         obtain ⟨ad142, e142, hx142_0, hx142_1⟩ := at_T53 HR1.out x5_1 p142 q142
         have hw142_1 := hx142_1
         have hw142_0 := hx142_0
         obtain rfl : ad135 = ad142 := (by injection e142)
         replace hx142_0 := (cB HB.out hx142_0 :)
         replace hx142_1 := (cB HB.out hx142_1 :)
         replace p142 := eq_true p142
         replace q142 := eq_true q142
         refine start_ (n := 50) (S := fun w' => w'.cell? (ad135.add ((x5_1).toNat * 2)) = some (.int .i64 ((rd_T53 l1 x5_1).f0)) ∧ w'.cell? ⟨(ad135.add ((x5_1).toNat * 2)).block, (ad135.add ((x5_1).toNat * 2)).off + 1, none⟩ = some (.int .i64 ((rd_T53 l1 x5_1).f1)) ∧ w'.cell? (ad135.add ((x5_1).toNat * 2)) = some (.int .i64 ((rd_T53 l1 x5_1).f0)) ∧ w'.cell? ⟨(ad135.add ((x5_1).toNat * 2)).block, (ad135.add ((x5_1).toNat * 2)).off + 1, none⟩ = some (.int .i64 ((rd_T53 l1 x5_1).f1)) ∧ w'.cell? (ad135.add ((x5_1).toNat * 2)) = some (.int .i64 ((rd_T53 l1 x5_1).f0)) ∧ w'.cell? ⟨(ad135.add ((x5_1).toNat * 2)).block, (ad135.add ((x5_1).toNat * 2)).off + 1, none⟩ = some (.int .i64 ((rd_T53 l1 x5_1).f1)) ∧ w'.cell? (ad135.add ((x5_1).toNat * 2)) = some (.int .i64 ((rd_T53 l1 x5_1).f0)) ∧ w'.cell? ⟨(ad135.add ((x5_1).toNat * 2)).block, (ad135.add ((x5_1).toNat * 2)).off + 1, none⟩ = some (.int .i64 ((rd_T53 l1 x5_1).f1)) ∧ w'.cell? (ad135.add (((ji12)).toNat * 2)) = some (.int .i64 ((rd_T53 l1 (ji12)).f0)) ∧ w'.cell? ⟨(ad135.add (((ji12)).toNat * 2)).block, (ad135.add (((ji12)).toNat * 2)).off + 1, none⟩ = some (.int .i64 ((rd_T53 l1 (ji12)).f1)) ∧ w'.cell? (ad135.add ((x5_1).toNat * 2)) = some (.int .i64 ((rd_T53 l1 x5_1).f0)) ∧ w'.cell? ⟨(ad135.add ((x5_1).toNat * 2)).block, (ad135.add ((x5_1).toNat * 2)).off + 1, none⟩ = some (.int .i64 ((rd_T53 l1 x5_1).f1))) (ds := []) (bA 50 0) (by kernel_rfl) rfl rfl ⟨(cB HB.out hw135_0 :), (cB HB.out hw135_1 :), (cB HB.out hw137_0 :), (cB HB.out hw137_1 :), (cB HB.out hw139_0 :), (cB HB.out hw139_1 :), (cB HB.out hw140_0 :), (cB HB.out hw140_1 :), (cB HB.out hw141_0 :), (cB HB.out hw141_1 :), (cB HB.out hw142_0 :), (cB HB.out hw142_1 :)⟩ (fun hHeld => ?_); refine with_tabW spec_l4Pairs.tab4 spec_l4Pairs.bits4 (fun HT_ HW_ => ?_)
         generalize wr.drew = w17 at HB hx135_0 hx135_1 hx137_0 hx137_1 hx139_0 hx139_1 hx140_0 hx140_1 hx141_0 hx141_1 hx142_0 hx142_1 hHeld ⊢
         refine pU 0 12 (bA 50 1) ?_
         refine pU 1 13 (bA 50 3) ?_
         refine pU 2 14 (bA 50 7) ?_
         refine pU 3 15 (bA 50 15) ?_
         refine pU 5 17 (bA 50 47) ?_
         refine pU 6 18 (bA 50 111) ?_
         refine tU 4 16 (bA 50 127) ?_
         refine one_ (i := 7) (N := some 19) (bA 50 255) rfl rfl (one_of HT_.out (by kernel_rfl)) (by decide) (fun K hK => ?_)
         refine goes_ Try.func79 (by kernel_rfl) rfl #[.int .i64 ((rd_T53 l1 x5_1).f0), .int .i64 0, .int .i64 (wrap64 (a0 - 1))] (by rfl) rfl rfl aE ?_
         with_reducible refine (spec_l1In.calls ((rd_T53 l1 x5_1).f0) 0 (wrap64 (a0 - 1)) true _ A5.out).mono ?_
         rintro e w' ⟨rfl, ⟨nd, rfl⟩⟩
         refine ⟨_, rfl, ?_⟩
         refine hK.out _ _ ⟨(cB HB.out hw135_0 :), (cB HB.out hw135_1 :), (cB HB.out hw137_0 :), (cB HB.out hw137_1 :), (cB HB.out hw139_0 :), (cB HB.out hw139_1 :), (cB HB.out hw140_0 :), (cB HB.out hw140_1 :), (cB HB.out hw141_0 :), (cB HB.out hw141_1 :), (cB HB.out hw142_0 :), (cB HB.out hw142_1 :)⟩ (fun hHeld => ?_)
         clear hK K
         refine norm_ (a' := ?_) ?_ ?_
         rotate_left
         ·show Act.put _ (some 19) _ = _
          simp only [Act.put, sA, sZ, sS, i64_w, i32_w]
          rfl
         refine pU 8 20 (bA 50 511) ?_
         refine pU 9 21 (bA 50 1023) ?_
         refine pU 10 22 (bA 50 2047) ?_
         refine pU 11 23 (bA 50 4095) ?_
         refine pU 12 24 (bA 50 8191) ?_
         refine pU 13 25 (bA 50 16383) ?_
         refine pU 15 27 (bA 50 49151) ?_
         refine pU 16 28 (bA 50 114687) ?_
         refine tU 14 26 (bA 50 131071) ?_
         refine one_ (i := 17) (N := some 29) (bA 50 262143) rfl rfl (one_of HT_.out (by kernel_rfl)) (by decide) (fun K hK => ?_)
         refine goes_ Try.func79 (by kernel_rfl) rfl #[.int .i64 ((rd_T53 l1 x5_1).f1), .int .i64 0, .int .i64 (wrap64 (a0 - 1))] (by rfl) rfl rfl aE ?_
         with_reducible refine (spec_l1In.calls ((rd_T53 l1 x5_1).f1) 0 (wrap64 (a0 - 1)) true _ A7.out).mono ?_
         rintro e w' ⟨rfl, ⟨nd, rfl⟩⟩
         refine ⟨_, rfl, ?_⟩
         refine hK.out _ _ ⟨(cB HB.out hw135_0 :), (cB HB.out hw135_1 :), (cB HB.out hw137_0 :), (cB HB.out hw137_1 :), (cB HB.out hw139_0 :), (cB HB.out hw139_1 :), (cB HB.out hw140_0 :), (cB HB.out hw140_1 :), (cB HB.out hw141_0 :), (cB HB.out hw141_1 :), (cB HB.out hw142_0 :), (cB HB.out hw142_1 :)⟩ (fun hHeld => ?_)
         clear hK K
         refine norm_ (a' := ?_) ?_ ?_
         rotate_left
         ·show Act.put _ (some 29) _ = _
          simp only [Act.put, sA, sZ, sS, i64_w, i32_w]
          rfl
         refine pU 18 30 (bA 50 524287) ?_
         refine pU 19 31 (bA 50 1048575) ?_
         refine pU 20 32 (bA 50 2097151) ?_
         refine pU 21 33 (bA 50 4194303) ?_
         refine pU 22 34 (bA 50 8388607) ?_
         refine pU 23 35 (bA 50 16777215) ?_
         refine pU 24 36 (bA 50 33554431) ?_
         refine pU 26 38 (bA 50 100663295) ?_
         refine pU 27 39 (bA 50 234881023) ?_
         refine pU 28 40 (bA 50 503316479) ?_
         refine pU 29 41 (bA 50 1040187391) ?_
         refine tU 25 37 (bA 50 1073741823) ?_
         refine tU 30 42 (bA 50 2147483647) ?_
         refine pU 31 43 (bA 50 4294967295) ?_
         refine pU 32 44 (bA 50 8589934591) ?_
         refine pU 33 45 (bA 50 17179869183) ?_
         refine pU 34 46 (bA 50 34359738367) ?_
         refine pU 35 47 (bA 50 68719476735) ?_
         refine pU 36 48 (bA 50 137438953471) ?_
         refine pU 37 49 (bA 50 274877906943) ?_
         refine pU 38 50 (bA 50 549755813887) ?_
         refine pU 39 51 (bA 50 1099511627775) ?_
         refine pU 40 52 (bA 50 2199023255551) ?_
         refine pU 42 54 (bA 50 6597069766655) ?_
         refine pU 43 55 (bA 50 15393162788863) ?_
         refine pU 44 56 (bA 50 32985348833279) ?_
         refine tU 41 53 (bA 50 35184372088831) ?_
         refine tU 45 57 (bA 50 70368744177663) ?_
         refine one_ (i := 46) (N := some 58) (bA 50 140737488355327) rfl rfl (one_of HT_.out (by kernel_rfl)) (by decide) (fun K hK => ?_)
         refine goes_ Try.func98 (by kernel_rfl) rfl #[.agg #[.int .i64 ((rd_T53 l1 (ji12)).f0), .int .i64 ((rd_T53 l1 (ji12)).f1)], .agg #[.int .i64 ((rd_T53 l1 x5_1).f0), .int .i64 ((rd_T53 l1 x5_1).f1)]] (by rfl) rfl rfl (by (try simp only [List.map_toArray, List.map_cons, List.map_nil]); first | done | (simp only [hji12]; rfl) | rfl | (simp only [List.length_drop, List.length_take]; rfl)) ?_
         with_reducible refine (spec_l4Before.calls ((rd_T53 l1 (ji12)).f0) ((rd_T53 l1 (ji12)).f1) ((rd_T53 l1 x5_1).f0) ((rd_T53 l1 x5_1).f1) true _ A15.out).mono ?_
         rintro e w18 ⟨rfl, hb⟩
         refine ⟨_, rfl, ?_⟩
         have n0_ := Aside0.mk (below_step bB hb)
         clear HB
         have HB := n0_
         clear n0_
         (try clear hb)
         refine hK.out _ _ ⟨(cB HB.out hw135_0 :), (cB HB.out hw135_1 :), (cB HB.out hw137_0 :), (cB HB.out hw137_1 :), (cB HB.out hw139_0 :), (cB HB.out hw139_1 :), (cB HB.out hw140_0 :), (cB HB.out hw140_1 :), (cB HB.out hw141_0 :), (cB HB.out hw141_1 :), (cB HB.out hw142_0 :), (cB HB.out hw142_1 :)⟩ (fun hHeld => ?_)
         clear hK K
         refine norm_ (a' := ?_) ?_ ?_
         rotate_left
         ·show Act.put _ (some 58) _ = _
          simp only [Act.put, sA, sZ, sS, i64_w, i32_w]
          rfl
         refine pU 47 59 (bA 50 281474976710655) ?_
         refine pU 48 60 (bA 50 562949953421311) ?_
         refine pU 49 61 (bA 50 1125899906842623) ?_
         refine done_ (done_of HT_.out (by kernel_rfl)) ?_
         try go_wp2
         go_roundg k1
         case measure => have := HK1.out; omega
         case rel => exact ⟨(wrap64 (x5_1 + 1)), sD, H', ⟨by have := HK1.out; omega⟩, ⟨by repeat (first | (with_reducible first | exact HB.out | apply below_alloc | apply pw_below_drewN | apply below_drew1) | exact HB.out)⟩⟩
        ·replace c16 := Bool.eq_false_iff.mpr c16
         subst c16
         have H1 : (some false) = some r := by rw [if_neg (show ¬ (false = true) by decide)] at H; exact H
         clear H
         have H := H1
         clear H1
         obtain rfl := Option.some.inj H
         try go_wp2
         have n0_ := Aside0.mk (below_drew1 HB.out)
         clear HB
         have HB := n0_
         clear n0_
         have p135 : 0 ≤ (x5_1 : Int) := oD
         have q135 : x5_1 < (l1.length : Int) := oD
         obtain ⟨ad135, e135, hx135_0, hx135_1⟩ := at_T53 HR1.out x5_1 p135 q135
         have hw135_1 := hx135_1
         have hw135_0 := hx135_0
         cases e135
         replace hx135_0 := (cB HB.out hx135_0 :)
         replace hx135_1 := (cB HB.out hx135_1 :)
         replace p135 := eq_true p135
         replace q135 := eq_true q135
         have p137 : 0 ≤ (x5_1 : Int) := oD
         have q137 : x5_1 < (l1.length : Int) := oD
         obtain ⟨ad137, e137, hx137_0, hx137_1⟩ := at_T53 HR1.out x5_1 p137 q137
         have hw137_1 := hx137_1
         have hw137_0 := hx137_0
         obtain rfl : ad135 = ad137 := (by injection e137)
         replace hx137_0 := (cB HB.out hx137_0 :)
         replace hx137_1 := (cB HB.out hx137_1 :)
         replace p137 := eq_true p137
         replace q137 := eq_true q137
         have p139 : 0 ≤ (x5_1 : Int) := oD
         have q139 : x5_1 < (l1.length : Int) := oD
         obtain ⟨ad139, e139, hx139_0, hx139_1⟩ := at_T53 HR1.out x5_1 p139 q139
         have hw139_1 := hx139_1
         have hw139_0 := hx139_0
         obtain rfl : ad135 = ad139 := (by injection e139)
         replace hx139_0 := (cB HB.out hx139_0 :)
         replace hx139_1 := (cB HB.out hx139_1 :)
         replace p139 := eq_true p139
         replace q139 := eq_true q139
         have p140 : 0 ≤ (x5_1 : Int) := oD
         have q140 : x5_1 < (l1.length : Int) := oD
         obtain ⟨ad140, e140, hx140_0, hx140_1⟩ := at_T53 HR1.out x5_1 p140 q140
         have hw140_1 := hx140_1
         have hw140_0 := hx140_0
         obtain rfl : ad135 = ad140 := (by injection e140)
         replace hx140_0 := (cB HB.out hx140_0 :)
         replace hx140_1 := (cB HB.out hx140_1 :)
         replace p140 := eq_true p140
         replace q140 := eq_true q140
         have p141 : 0 ≤ ((ji12) : Int) := oD
         have q141 : (ji12) < (l1.length : Int) := oD
         obtain ⟨ad141, e141, hx141_0, hx141_1⟩ := at_T53 HR1.out (ji12) p141 q141
         have hw141_1 := hx141_1
         have hw141_0 := hx141_0
         obtain rfl : ad135 = ad141 := (by injection e141)
         replace hx141_0 := (cB HB.out hx141_0 :)
         replace hx141_1 := (cB HB.out hx141_1 :)
         replace p141 := eq_true p141
         replace q141 := eq_true q141
         have p142 : 0 ≤ (x5_1 : Int) := oD
         have q142 : x5_1 < (l1.length : Int) := oD
         obtain ⟨ad142, e142, hx142_0, hx142_1⟩ := at_T53 HR1.out x5_1 p142 q142
         have hw142_1 := hx142_1
         have hw142_0 := hx142_0
         obtain rfl : ad135 = ad142 := (by injection e142)
         replace hx142_0 := (cB HB.out hx142_0 :)
         replace hx142_1 := (cB HB.out hx142_1 :)
         replace p142 := eq_true p142
         replace q142 := eq_true q142
         refine start_ (n := 50) (S := fun w' => w'.cell? (ad135.add ((x5_1).toNat * 2)) = some (.int .i64 ((rd_T53 l1 x5_1).f0)) ∧ w'.cell? ⟨(ad135.add ((x5_1).toNat * 2)).block, (ad135.add ((x5_1).toNat * 2)).off + 1, none⟩ = some (.int .i64 ((rd_T53 l1 x5_1).f1)) ∧ w'.cell? (ad135.add ((x5_1).toNat * 2)) = some (.int .i64 ((rd_T53 l1 x5_1).f0)) ∧ w'.cell? ⟨(ad135.add ((x5_1).toNat * 2)).block, (ad135.add ((x5_1).toNat * 2)).off + 1, none⟩ = some (.int .i64 ((rd_T53 l1 x5_1).f1)) ∧ w'.cell? (ad135.add ((x5_1).toNat * 2)) = some (.int .i64 ((rd_T53 l1 x5_1).f0)) ∧ w'.cell? ⟨(ad135.add ((x5_1).toNat * 2)).block, (ad135.add ((x5_1).toNat * 2)).off + 1, none⟩ = some (.int .i64 ((rd_T53 l1 x5_1).f1)) ∧ w'.cell? (ad135.add ((x5_1).toNat * 2)) = some (.int .i64 ((rd_T53 l1 x5_1).f0)) ∧ w'.cell? ⟨(ad135.add ((x5_1).toNat * 2)).block, (ad135.add ((x5_1).toNat * 2)).off + 1, none⟩ = some (.int .i64 ((rd_T53 l1 x5_1).f1)) ∧ w'.cell? (ad135.add (((ji12)).toNat * 2)) = some (.int .i64 ((rd_T53 l1 (ji12)).f0)) ∧ w'.cell? ⟨(ad135.add (((ji12)).toNat * 2)).block, (ad135.add (((ji12)).toNat * 2)).off + 1, none⟩ = some (.int .i64 ((rd_T53 l1 (ji12)).f1)) ∧ w'.cell? (ad135.add ((x5_1).toNat * 2)) = some (.int .i64 ((rd_T53 l1 x5_1).f0)) ∧ w'.cell? ⟨(ad135.add ((x5_1).toNat * 2)).block, (ad135.add ((x5_1).toNat * 2)).off + 1, none⟩ = some (.int .i64 ((rd_T53 l1 x5_1).f1))) (ds := []) (bA 50 0) (by kernel_rfl) rfl rfl ⟨(cB HB.out hw135_0 :), (cB HB.out hw135_1 :), (cB HB.out hw137_0 :), (cB HB.out hw137_1 :), (cB HB.out hw139_0 :), (cB HB.out hw139_1 :), (cB HB.out hw140_0 :), (cB HB.out hw140_1 :), (cB HB.out hw141_0 :), (cB HB.out hw141_1 :), (cB HB.out hw142_0 :), (cB HB.out hw142_1 :)⟩ (fun hHeld => ?_); refine with_tabW spec_l4Pairs.tab4 spec_l4Pairs.bits4 (fun HT_ HW_ => ?_)
         generalize wr.drew = w19 at HB hx135_0 hx135_1 hx137_0 hx137_1 hx139_0 hx139_1 hx140_0 hx140_1 hx141_0 hx141_1 hx142_0 hx142_1 hHeld ⊢
         refine pU 0 12 (bA 50 1) ?_
         refine pU 1 13 (bA 50 3) ?_
         refine pU 2 14 (bA 50 7) ?_
         refine pU 3 15 (bA 50 15) ?_
         refine pU 5 17 (bA 50 47) ?_
         refine pU 6 18 (bA 50 111) ?_
         refine tU 4 16 (bA 50 127) ?_
         refine one_ (i := 7) (N := some 19) (bA 50 255) rfl rfl (one_of HT_.out (by kernel_rfl)) (by decide) (fun K hK => ?_)
         refine goes_ Try.func79 (by kernel_rfl) rfl #[.int .i64 ((rd_T53 l1 x5_1).f0), .int .i64 0, .int .i64 (wrap64 (a0 - 1))] (by rfl) rfl rfl aE ?_
         with_reducible refine (spec_l1In.calls ((rd_T53 l1 x5_1).f0) 0 (wrap64 (a0 - 1)) true _ A5.out).mono ?_
         rintro e w' ⟨rfl, ⟨nd, rfl⟩⟩
         refine ⟨_, rfl, ?_⟩
         refine hK.out _ _ ⟨(cB HB.out hw135_0 :), (cB HB.out hw135_1 :), (cB HB.out hw137_0 :), (cB HB.out hw137_1 :), (cB HB.out hw139_0 :), (cB HB.out hw139_1 :), (cB HB.out hw140_0 :), (cB HB.out hw140_1 :), (cB HB.out hw141_0 :), (cB HB.out hw141_1 :), (cB HB.out hw142_0 :), (cB HB.out hw142_1 :)⟩ (fun hHeld => ?_)
         clear hK K
         refine norm_ (a' := ?_) ?_ ?_
         rotate_left
         ·show Act.put _ (some 19) _ = _
          simp only [Act.put, sA, sZ, sS, i64_w, i32_w]
          rfl
         refine pU 8 20 (bA 50 511) ?_
         refine pU 9 21 (bA 50 1023) ?_
         refine pU 10 22 (bA 50 2047) ?_
         refine pU 11 23 (bA 50 4095) ?_
         refine pU 12 24 (bA 50 8191) ?_
         refine pU 13 25 (bA 50 16383) ?_
         refine pU 15 27 (bA 50 49151) ?_
         refine pU 16 28 (bA 50 114687) ?_
         refine tU 14 26 (bA 50 131071) ?_
         refine one_ (i := 17) (N := some 29) (bA 50 262143) rfl rfl (one_of HT_.out (by kernel_rfl)) (by decide) (fun K hK => ?_)
         refine goes_ Try.func79 (by kernel_rfl) rfl #[.int .i64 ((rd_T53 l1 x5_1).f1), .int .i64 0, .int .i64 (wrap64 (a0 - 1))] (by rfl) rfl rfl aE ?_
         with_reducible refine (spec_l1In.calls ((rd_T53 l1 x5_1).f1) 0 (wrap64 (a0 - 1)) true _ A7.out).mono ?_
         rintro e w' ⟨rfl, ⟨nd, rfl⟩⟩
         refine ⟨_, rfl, ?_⟩
         refine hK.out _ _ ⟨(cB HB.out hw135_0 :), (cB HB.out hw135_1 :), (cB HB.out hw137_0 :), (cB HB.out hw137_1 :), (cB HB.out hw139_0 :), (cB HB.out hw139_1 :), (cB HB.out hw140_0 :), (cB HB.out hw140_1 :), (cB HB.out hw141_0 :), (cB HB.out hw141_1 :), (cB HB.out hw142_0 :), (cB HB.out hw142_1 :)⟩ (fun hHeld => ?_)
         clear hK K
         refine norm_ (a' := ?_) ?_ ?_
         rotate_left
         ·show Act.put _ (some 29) _ = _
          simp only [Act.put, sA, sZ, sS, i64_w, i32_w]
          rfl
         refine pU 18 30 (bA 50 524287) ?_
         refine pU 19 31 (bA 50 1048575) ?_
         refine pU 20 32 (bA 50 2097151) ?_
         refine pU 21 33 (bA 50 4194303) ?_
         refine pU 22 34 (bA 50 8388607) ?_
         refine pU 23 35 (bA 50 16777215) ?_
         refine pU 24 36 (bA 50 33554431) ?_
         refine pU 26 38 (bA 50 100663295) ?_
         refine pU 27 39 (bA 50 234881023) ?_
         refine pU 28 40 (bA 50 503316479) ?_
         refine pU 29 41 (bA 50 1040187391) ?_
         refine tU 25 37 (bA 50 1073741823) ?_
         refine tU 30 42 (bA 50 2147483647) ?_
         refine pU 31 43 (bA 50 4294967295) ?_
         refine pU 32 44 (bA 50 8589934591) ?_
         refine pU 33 45 (bA 50 17179869183) ?_
         refine pU 34 46 (bA 50 34359738367) ?_
         refine pU 35 47 (bA 50 68719476735) ?_
         refine pU 36 48 (bA 50 137438953471) ?_
         refine pU 37 49 (bA 50 274877906943) ?_
         refine pU 38 50 (bA 50 549755813887) ?_
         refine pU 39 51 (bA 50 1099511627775) ?_
         refine pU 40 52 (bA 50 2199023255551) ?_
         refine pU 42 54 (bA 50 6597069766655) ?_
         refine pU 43 55 (bA 50 15393162788863) ?_
         refine pU 44 56 (bA 50 32985348833279) ?_
         refine tU 41 53 (bA 50 35184372088831) ?_
         refine tU 45 57 (bA 50 70368744177663) ?_
         refine one_ (i := 46) (N := some 58) (bA 50 140737488355327) rfl rfl (one_of HT_.out (by kernel_rfl)) (by decide) (fun K hK => ?_)
         refine goes_ Try.func98 (by kernel_rfl) rfl #[.agg #[.int .i64 ((rd_T53 l1 (ji12)).f0), .int .i64 ((rd_T53 l1 (ji12)).f1)], .agg #[.int .i64 ((rd_T53 l1 x5_1).f0), .int .i64 ((rd_T53 l1 x5_1).f1)]] (by rfl) rfl rfl (by (try simp only [List.map_toArray, List.map_cons, List.map_nil]); first | done | (simp only [hji12]; rfl) | rfl | (simp only [List.length_drop, List.length_take]; rfl)) ?_
         with_reducible refine (spec_l4Before.calls ((rd_T53 l1 (ji12)).f0) ((rd_T53 l1 (ji12)).f1) ((rd_T53 l1 x5_1).f0) ((rd_T53 l1 x5_1).f1) false _ A15.out).mono ?_
         rintro e w20 ⟨rfl, hb⟩
         refine ⟨_, rfl, ?_⟩
         have n0_ := Aside0.mk (below_step bB hb)
         clear HB
         have HB := n0_
         clear n0_
         (try clear hb)
         refine hK.out _ _ ⟨(cB HB.out hw135_0 :), (cB HB.out hw135_1 :), (cB HB.out hw137_0 :), (cB HB.out hw137_1 :), (cB HB.out hw139_0 :), (cB HB.out hw139_1 :), (cB HB.out hw140_0 :), (cB HB.out hw140_1 :), (cB HB.out hw141_0 :), (cB HB.out hw141_1 :), (cB HB.out hw142_0 :), (cB HB.out hw142_1 :)⟩ (fun hHeld => ?_)
         clear hK K
         refine norm_ (a' := ?_) ?_ ?_
         rotate_left
         ·show Act.put _ (some 58) _ = _
          simp only [Act.put, sA, sZ, sS, i64_w, i32_w]
          rfl
         refine pU 47 59 (bA 50 281474976710655) ?_
         refine pU 48 60 (bA 50 562949953421311) ?_
         refine pU 49 61 (bA 50 1125899906842623) ?_
         refine done_ (done_of HT_.out (by kernel_rfl)) ?_
         try go_wp2
         go_ret
         exact ⟨by first | rfl | (simp [errW_none, errW_some] <;> rfl) | (simp only [← hji12]; first | rfl | (simp [errW_none, errW_some] <;> rfl)) | (simp [*, errW_none, errW_some] <;> rfl), bB⟩
       ·rw [if_neg c11] at H
        have c11b0 : decide (0 < x5_1) = false := decide_eq_false c11
        clear c11
        have H' := Aside0.mk H
        clear H
        try go_wp2
        have n0_ := Aside0.mk (below_drew1 HB.out)
        clear HB
        have HB := n0_
        clear n0_
        have p135 : 0 ≤ (x5_1 : Int) := oD
        have q135 : x5_1 < (l1.length : Int) := oD
        obtain ⟨ad135, e135, hx135_0, hx135_1⟩ := at_T53 HR1.out x5_1 p135 q135
        have hw135_1 := hx135_1
        have hw135_0 := hx135_0
        cases e135
        replace hx135_0 := (cB HB.out hx135_0 :)
        replace hx135_1 := (cB HB.out hx135_1 :)
        replace p135 := eq_true p135
        replace q135 := eq_true q135
        have p137 : 0 ≤ (x5_1 : Int) := oD
        have q137 : x5_1 < (l1.length : Int) := oD
        obtain ⟨ad137, e137, hx137_0, hx137_1⟩ := at_T53 HR1.out x5_1 p137 q137
        have hw137_1 := hx137_1
        have hw137_0 := hx137_0
        obtain rfl : ad135 = ad137 := (by injection e137)
        replace hx137_0 := (cB HB.out hx137_0 :)
        replace hx137_1 := (cB HB.out hx137_1 :)
        replace p137 := eq_true p137
        replace q137 := eq_true q137
        have p139 : 0 ≤ (x5_1 : Int) := oD
        have q139 : x5_1 < (l1.length : Int) := oD
        obtain ⟨ad139, e139, hx139_0, hx139_1⟩ := at_T53 HR1.out x5_1 p139 q139
        have hw139_1 := hx139_1
        have hw139_0 := hx139_0
        obtain rfl : ad135 = ad139 := (by injection e139)
        replace hx139_0 := (cB HB.out hx139_0 :)
        replace hx139_1 := (cB HB.out hx139_1 :)
        replace p139 := eq_true p139
        replace q139 := eq_true q139
        have p140 : 0 ≤ (x5_1 : Int) := oD
        have q140 : x5_1 < (l1.length : Int) := oD
        obtain ⟨ad140, e140, hx140_0, hx140_1⟩ := at_T53 HR1.out x5_1 p140 q140
        have hw140_1 := hx140_1
        have hw140_0 := hx140_0
        obtain rfl : ad135 = ad140 := (by injection e140)
        replace hx140_0 := (cB HB.out hx140_0 :)
        replace hx140_1 := (cB HB.out hx140_1 :)
        replace p140 := eq_true p140
        replace q140 := eq_true q140
        refine start_ (n := 50) (S := fun w' => w'.cell? (ad135.add ((x5_1).toNat * 2)) = some (.int .i64 ((rd_T53 l1 x5_1).f0)) ∧ w'.cell? ⟨(ad135.add ((x5_1).toNat * 2)).block, (ad135.add ((x5_1).toNat * 2)).off + 1, none⟩ = some (.int .i64 ((rd_T53 l1 x5_1).f1)) ∧ w'.cell? (ad135.add ((x5_1).toNat * 2)) = some (.int .i64 ((rd_T53 l1 x5_1).f0)) ∧ w'.cell? ⟨(ad135.add ((x5_1).toNat * 2)).block, (ad135.add ((x5_1).toNat * 2)).off + 1, none⟩ = some (.int .i64 ((rd_T53 l1 x5_1).f1)) ∧ w'.cell? (ad135.add ((x5_1).toNat * 2)) = some (.int .i64 ((rd_T53 l1 x5_1).f0)) ∧ w'.cell? ⟨(ad135.add ((x5_1).toNat * 2)).block, (ad135.add ((x5_1).toNat * 2)).off + 1, none⟩ = some (.int .i64 ((rd_T53 l1 x5_1).f1)) ∧ w'.cell? (ad135.add ((x5_1).toNat * 2)) = some (.int .i64 ((rd_T53 l1 x5_1).f0)) ∧ w'.cell? ⟨(ad135.add ((x5_1).toNat * 2)).block, (ad135.add ((x5_1).toNat * 2)).off + 1, none⟩ = some (.int .i64 ((rd_T53 l1 x5_1).f1))) (ds := []) (bA 50 0) (by kernel_rfl) rfl rfl ⟨(cB HB.out hw135_0 :), (cB HB.out hw135_1 :), (cB HB.out hw137_0 :), (cB HB.out hw137_1 :), (cB HB.out hw139_0 :), (cB HB.out hw139_1 :), (cB HB.out hw140_0 :), (cB HB.out hw140_1 :)⟩ (fun hHeld => ?_); refine with_tabW spec_l4Pairs.tab4 spec_l4Pairs.bits4 (fun HT_ HW_ => ?_)
        generalize wr.drew = w21 at HB hx135_0 hx135_1 hx137_0 hx137_1 hx139_0 hx139_1 hx140_0 hx140_1 hHeld ⊢
        refine pU 0 12 (bA 50 1) ?_
        refine pU 1 13 (bA 50 3) ?_
        refine pU 2 14 (bA 50 7) ?_
        refine pU 3 15 (bA 50 15) ?_
        refine pU 5 17 (bA 50 47) ?_
        refine pU 6 18 (bA 50 111) ?_
        refine tU 4 16 (bA 50 127) ?_
        refine one_ (i := 7) (N := some 19) (bA 50 255) rfl rfl (one_of HT_.out (by kernel_rfl)) (by decide) (fun K hK => ?_)
        refine goes_ Try.func79 (by kernel_rfl) rfl #[.int .i64 ((rd_T53 l1 x5_1).f0), .int .i64 0, .int .i64 (wrap64 (a0 - 1))] (by rfl) rfl rfl aE ?_
        with_reducible refine (spec_l1In.calls ((rd_T53 l1 x5_1).f0) 0 (wrap64 (a0 - 1)) true _ A5.out).mono ?_
        rintro e w' ⟨rfl, ⟨nd, rfl⟩⟩
        refine ⟨_, rfl, ?_⟩
        refine hK.out _ _ ⟨(cB HB.out hw135_0 :), (cB HB.out hw135_1 :), (cB HB.out hw137_0 :), (cB HB.out hw137_1 :), (cB HB.out hw139_0 :), (cB HB.out hw139_1 :), (cB HB.out hw140_0 :), (cB HB.out hw140_1 :)⟩ (fun hHeld => ?_)
        clear hK K
        refine norm_ (a' := ?_) ?_ ?_
        rotate_left
        ·show Act.put _ (some 19) _ = _
         simp only [Act.put, sA, sZ, sS, i64_w, i32_w]
         rfl
        refine pU 8 20 (bA 50 511) ?_
        refine pU 9 21 (bA 50 1023) ?_
        refine pU 10 22 (bA 50 2047) ?_
        refine pU 11 23 (bA 50 4095) ?_
        refine pU 12 24 (bA 50 8191) ?_
        refine pU 13 25 (bA 50 16383) ?_
        refine pU 15 27 (bA 50 49151) ?_
        refine pU 16 28 (bA 50 114687) ?_
        refine tU 14 26 (bA 50 131071) ?_
        refine one_ (i := 17) (N := some 29) (bA 50 262143) rfl rfl (one_of HT_.out (by kernel_rfl)) (by decide) (fun K hK => ?_)
        refine goes_ Try.func79 (by kernel_rfl) rfl #[.int .i64 ((rd_T53 l1 x5_1).f1), .int .i64 0, .int .i64 (wrap64 (a0 - 1))] (by rfl) rfl rfl aE ?_
        with_reducible refine (spec_l1In.calls ((rd_T53 l1 x5_1).f1) 0 (wrap64 (a0 - 1)) true _ A7.out).mono ?_
        rintro e w' ⟨rfl, ⟨nd, rfl⟩⟩
        refine ⟨_, rfl, ?_⟩
        refine hK.out _ _ ⟨(cB HB.out hw135_0 :), (cB HB.out hw135_1 :), (cB HB.out hw137_0 :), (cB HB.out hw137_1 :), (cB HB.out hw139_0 :), (cB HB.out hw139_1 :), (cB HB.out hw140_0 :), (cB HB.out hw140_1 :)⟩ (fun hHeld => ?_)
        clear hK K
        refine norm_ (a' := ?_) ?_ ?_
        rotate_left
        ·show Act.put _ (some 29) _ = _
         simp only [Act.put, sA, sZ, sS, i64_w, i32_w]
         rfl
        refine pU 18 30 (bA 50 524287) ?_
        refine pU 19 31 (bA 50 1048575) ?_
        refine pU 20 32 (bA 50 2097151) ?_
        refine pU 21 33 (bA 50 4194303) ?_
        refine pU 22 34 (bA 50 8388607) ?_
        refine pU 23 35 (bA 50 16777215) ?_
        refine pU 24 36 (bA 50 33554431) ?_
        refine pU 26 38 (bA 50 100663295) ?_
        refine pU 27 39 (bA 50 234881023) ?_
        refine pU 28 40 (bA 50 503316479) ?_
        refine pU 29 41 (bA 50 1040187391) ?_
        refine tU 25 37 (bA 50 1073741823) ?_
        refine tU 30 42 (bA 50 2147483647) ?_
        refine pU 31 43 (bA 50 4294967295) ?_
        refine pU 32 44 (bA 50 8589934591) ?_
        refine pU 33 45 (bA 50 17179869183) ?_
        refine pU 34 46 (bA 50 34359738367) ?_
        refine pU 35 47 (bA 50 68719476735) ?_
        refine pU 36 48 (bA 50 137438953471) ?_
        refine nU 37 49 (bA 50 274877906943) ?_
        refine nU 38 50 (bA 50 549755813887) ?_
        refine nU 39 51 (bA 50 1099511627775) ?_
        refine nU 40 52 (bA 50 2199023255551) ?_
        refine nU 41 53 (bA 50 4398046511103) ?_
        refine nU 42 54 (bA 50 8796093022207) ?_
        refine nU 43 55 (bA 50 17592186044415) ?_
        refine nU 44 56 (bA 50 35184372088831) ?_
        refine nU 45 57 (bA 50 70368744177663) ?_
        refine nU 46 58 (bA 50 140737488355327) ?_
        refine nU 47 59 (bA 50 281474976710655) ?_
        refine pU 48 60 (bA 50 562949953421311) ?_
        refine pU 49 61 (bA 50 1125899906842623) ?_
        refine done_ (done_of HT_.out (by kernel_rfl)) ?_
        try go_wp2
        go_roundg k1
        case measure => have := HK1.out; omega
        case rel => exact ⟨(wrap64 (x5_1 + 1)), sD, H', ⟨by have := HK1.out; omega⟩, ⟨by repeat (first | (with_reducible first | exact HB.out | apply below_alloc | apply pw_below_drewN | apply below_drew1) | exact HB.out)⟩⟩
     ·replace c8 := Bool.eq_false_iff.mpr c8
      subst c8
      have H1 : (some false) = some r := by rw [if_neg (show ¬ (false = true) by decide)] at H; exact H
      clear H
      have H := H1
      clear H1
      obtain rfl := Option.some.inj H
      try go_wp2
      have n0_ := Aside0.mk (below_drew1 HB.out)
      clear HB
      have HB := n0_
      clear n0_
      have p135 : 0 ≤ (x5_1 : Int) := oD
      have q135 : x5_1 < (l1.length : Int) := oD
      obtain ⟨ad135, e135, hx135_0, hx135_1⟩ := at_T53 HR1.out x5_1 p135 q135
      have hw135_1 := hx135_1
      have hw135_0 := hx135_0
      cases e135
      replace hx135_0 := (cB HB.out hx135_0 :)
      replace hx135_1 := (cB HB.out hx135_1 :)
      replace p135 := eq_true p135
      replace q135 := eq_true q135
      have p137 : 0 ≤ (x5_1 : Int) := oD
      have q137 : x5_1 < (l1.length : Int) := oD
      obtain ⟨ad137, e137, hx137_0, hx137_1⟩ := at_T53 HR1.out x5_1 p137 q137
      have hw137_1 := hx137_1
      have hw137_0 := hx137_0
      obtain rfl : ad135 = ad137 := (by injection e137)
      replace hx137_0 := (cB HB.out hx137_0 :)
      replace hx137_1 := (cB HB.out hx137_1 :)
      replace p137 := eq_true p137
      replace q137 := eq_true q137
      refine start_ (n := 50) (S := fun w' => w'.cell? (ad135.add ((x5_1).toNat * 2)) = some (.int .i64 ((rd_T53 l1 x5_1).f0)) ∧ w'.cell? ⟨(ad135.add ((x5_1).toNat * 2)).block, (ad135.add ((x5_1).toNat * 2)).off + 1, none⟩ = some (.int .i64 ((rd_T53 l1 x5_1).f1)) ∧ w'.cell? (ad135.add ((x5_1).toNat * 2)) = some (.int .i64 ((rd_T53 l1 x5_1).f0)) ∧ w'.cell? ⟨(ad135.add ((x5_1).toNat * 2)).block, (ad135.add ((x5_1).toNat * 2)).off + 1, none⟩ = some (.int .i64 ((rd_T53 l1 x5_1).f1))) (ds := []) (bA 50 0) (by kernel_rfl) rfl rfl ⟨(cB HB.out hw135_0 :), (cB HB.out hw135_1 :), (cB HB.out hw137_0 :), (cB HB.out hw137_1 :)⟩ (fun hHeld => ?_); refine with_tabW spec_l4Pairs.tab4 spec_l4Pairs.bits4 (fun HT_ HW_ => ?_)
      generalize wr.drew = w22 at HB hx135_0 hx135_1 hx137_0 hx137_1 hHeld ⊢
      refine pU 0 12 (bA 50 1) ?_
      refine pU 1 13 (bA 50 3) ?_
      refine pU 2 14 (bA 50 7) ?_
      refine pU 3 15 (bA 50 15) ?_
      refine pU 5 17 (bA 50 47) ?_
      refine pU 6 18 (bA 50 111) ?_
      refine tU 4 16 (bA 50 127) ?_
      refine one_ (i := 7) (N := some 19) (bA 50 255) rfl rfl (one_of HT_.out (by kernel_rfl)) (by decide) (fun K hK => ?_)
      refine goes_ Try.func79 (by kernel_rfl) rfl #[.int .i64 ((rd_T53 l1 x5_1).f0), .int .i64 0, .int .i64 (wrap64 (a0 - 1))] (by rfl) rfl rfl aE ?_
      with_reducible refine (spec_l1In.calls ((rd_T53 l1 x5_1).f0) 0 (wrap64 (a0 - 1)) true _ A5.out).mono ?_
      rintro e w' ⟨rfl, ⟨nd, rfl⟩⟩
      refine ⟨_, rfl, ?_⟩
      refine hK.out _ _ ⟨(cB HB.out hw135_0 :), (cB HB.out hw135_1 :), (cB HB.out hw137_0 :), (cB HB.out hw137_1 :)⟩ (fun hHeld => ?_)
      clear hK K
      refine norm_ (a' := ?_) ?_ ?_
      rotate_left
      ·show Act.put _ (some 19) _ = _
       simp only [Act.put, sA, sZ, sS, i64_w, i32_w]
       rfl
      refine pU 8 20 (bA 50 511) ?_
      refine pU 9 21 (bA 50 1023) ?_
      refine pU 10 22 (bA 50 2047) ?_
      refine pU 11 23 (bA 50 4095) ?_
      refine pU 12 24 (bA 50 8191) ?_
      refine pU 13 25 (bA 50 16383) ?_
      refine pU 15 27 (bA 50 49151) ?_
      refine pU 16 28 (bA 50 114687) ?_
      refine tU 14 26 (bA 50 131071) ?_
      refine one_ (i := 17) (N := some 29) (bA 50 262143) rfl rfl (one_of HT_.out (by kernel_rfl)) (by decide) (fun K hK => ?_)
      refine goes_ Try.func79 (by kernel_rfl) rfl #[.int .i64 ((rd_T53 l1 x5_1).f1), .int .i64 0, .int .i64 (wrap64 (a0 - 1))] (by rfl) rfl rfl aE ?_
      with_reducible refine (spec_l1In.calls ((rd_T53 l1 x5_1).f1) 0 (wrap64 (a0 - 1)) false _ A7.out).mono ?_
      rintro e w' ⟨rfl, ⟨nd, rfl⟩⟩
      refine ⟨_, rfl, ?_⟩
      refine hK.out _ _ ⟨(cB HB.out hw135_0 :), (cB HB.out hw135_1 :), (cB HB.out hw137_0 :), (cB HB.out hw137_1 :)⟩ (fun hHeld => ?_)
      clear hK K
      refine norm_ (a' := ?_) ?_ ?_
      rotate_left
      ·show Act.put _ (some 29) _ = _
       simp only [Act.put, sA, sZ, sS, i64_w, i32_w]
       rfl
      refine pU 18 30 (bA 50 524287) ?_
      refine pU 19 31 (bA 50 1048575) ?_
      refine pU 20 32 (bA 50 2097151) ?_
      refine nU 21 33 (bA 50 4194303) ?_
      refine nU 22 34 (bA 50 8388607) ?_
      refine nU 23 35 (bA 50 16777215) ?_
      refine nU 24 36 (bA 50 33554431) ?_
      refine nU 25 37 (bA 50 67108863) ?_
      refine nU 26 38 (bA 50 134217727) ?_
      refine nU 27 39 (bA 50 268435455) ?_
      refine nU 28 40 (bA 50 536870911) ?_
      refine nU 29 41 (bA 50 1073741823) ?_
      refine nU 30 42 (bA 50 2147483647) ?_
      refine nU 31 43 (bA 50 4294967295) ?_
      refine pU 32 44 (bA 50 8589934591) ?_
      refine pU 33 45 (bA 50 17179869183) ?_
      refine nU 34 46 (bA 50 34359738367) ?_
      refine nU 35 47 (bA 50 68719476735) ?_
      refine nU 36 48 (bA 50 137438953471) ?_
      refine nU 37 49 (bA 50 274877906943) ?_
      refine nU 38 50 (bA 50 549755813887) ?_
      refine nU 39 51 (bA 50 1099511627775) ?_
      refine nU 40 52 (bA 50 2199023255551) ?_
      refine nU 41 53 (bA 50 4398046511103) ?_
      refine nU 42 54 (bA 50 8796093022207) ?_
      refine nU 43 55 (bA 50 17592186044415) ?_
      refine nU 44 56 (bA 50 35184372088831) ?_
      refine nU 45 57 (bA 50 70368744177663) ?_
      refine nU 46 58 (bA 50 140737488355327) ?_
      refine nU 47 59 (bA 50 281474976710655) ?_
      refine nU 48 60 (bA 50 562949953421311) ?_
      refine pU 49 61 (bA 50 1125899906842623) ?_
      refine done_ (done_of HT_.out (by kernel_rfl)) ?_
      try go_wp2
      go_ret
      exact ⟨rE, bB⟩
    ·replace c6 := Bool.eq_false_iff.mpr c6
     subst c6
     have H1 : (some false) = some r := by rw [if_neg (show ¬ (false = true) by decide)] at H; exact H
     clear H
     have H := H1
     clear H1
     obtain rfl := Option.some.inj H
     try go_wp2
     have n0_ := Aside0.mk (below_drew1 HB.out)
     clear HB
     have HB := n0_
     clear n0_
     have p135 : 0 ≤ (x5_1 : Int) := oD
     have q135 : x5_1 < (l1.length : Int) := oD
     obtain ⟨ad135, e135, hx135_0, hx135_1⟩ := at_T53 HR1.out x5_1 p135 q135
     have hw135_1 := hx135_1
     have hw135_0 := hx135_0
     cases e135
     replace hx135_0 := (cB HB.out hx135_0 :)
     replace hx135_1 := (cB HB.out hx135_1 :)
     replace p135 := eq_true p135
     replace q135 := eq_true q135
     refine start_ (n := 50) (S := fun w' => w'.cell? (ad135.add ((x5_1).toNat * 2)) = some (.int .i64 ((rd_T53 l1 x5_1).f0)) ∧ w'.cell? ⟨(ad135.add ((x5_1).toNat * 2)).block, (ad135.add ((x5_1).toNat * 2)).off + 1, none⟩ = some (.int .i64 ((rd_T53 l1 x5_1).f1))) (ds := []) (bA 50 0) (by kernel_rfl) rfl rfl ⟨(cB HB.out hw135_0 :), (cB HB.out hw135_1 :)⟩ (fun hHeld => ?_); refine with_tabW spec_l4Pairs.tab4 spec_l4Pairs.bits4 (fun HT_ HW_ => ?_)
     generalize wr.drew = w23 at HB hx135_0 hx135_1 hHeld ⊢
     refine pU 0 12 (bA 50 1) ?_
     refine pU 1 13 (bA 50 3) ?_
     refine pU 2 14 (bA 50 7) ?_
     refine pU 3 15 (bA 50 15) ?_
     refine pU 5 17 (bA 50 47) ?_
     refine pU 6 18 (bA 50 111) ?_
     refine tU 4 16 (bA 50 127) ?_
     refine one_ (i := 7) (N := some 19) (bA 50 255) rfl rfl (one_of HT_.out (by kernel_rfl)) (by decide) (fun K hK => ?_)
     refine goes_ Try.func79 (by kernel_rfl) rfl #[.int .i64 ((rd_T53 l1 x5_1).f0), .int .i64 0, .int .i64 (wrap64 (a0 - 1))] (by rfl) rfl rfl aE ?_
     with_reducible refine (spec_l1In.calls ((rd_T53 l1 x5_1).f0) 0 (wrap64 (a0 - 1)) false _ A5.out).mono ?_
     rintro e w' ⟨rfl, ⟨nd, rfl⟩⟩
     refine ⟨_, rfl, ?_⟩
     refine hK.out _ _ ⟨(cB HB.out hw135_0 :), (cB HB.out hw135_1 :)⟩ (fun hHeld => ?_)
     clear hK K
     refine norm_ (a' := ?_) ?_ ?_
     rotate_left
     ·show Act.put _ (some 19) _ = _
      simp only [Act.put, sA, sZ, sS, i64_w, i32_w]
      rfl
     refine pU 8 20 (bA 50 511) ?_
     refine pU 9 21 (bA 50 1023) ?_
     refine nU 10 22 (bA 50 2047) ?_
     refine nU 11 23 (bA 50 4095) ?_
     refine nU 12 24 (bA 50 8191) ?_
     refine nU 13 25 (bA 50 16383) ?_
     refine nU 14 26 (bA 50 32767) ?_
     refine nU 15 27 (bA 50 65535) ?_
     refine nU 16 28 (bA 50 131071) ?_
     refine nU 17 29 (bA 50 262143) ?_
     refine nU 18 30 (bA 50 524287) ?_
     refine pU 19 31 (bA 50 1048575) ?_
     refine pU 20 32 (bA 50 2097151) ?_
     refine nU 21 33 (bA 50 4194303) ?_
     refine nU 22 34 (bA 50 8388607) ?_
     refine nU 23 35 (bA 50 16777215) ?_
     refine nU 24 36 (bA 50 33554431) ?_
     refine nU 25 37 (bA 50 67108863) ?_
     refine nU 26 38 (bA 50 134217727) ?_
     refine nU 27 39 (bA 50 268435455) ?_
     refine nU 28 40 (bA 50 536870911) ?_
     refine nU 29 41 (bA 50 1073741823) ?_
     refine nU 30 42 (bA 50 2147483647) ?_
     refine nU 31 43 (bA 50 4294967295) ?_
     refine pU 32 44 (bA 50 8589934591) ?_
     refine pU 33 45 (bA 50 17179869183) ?_
     refine nU 34 46 (bA 50 34359738367) ?_
     refine nU 35 47 (bA 50 68719476735) ?_
     refine nU 36 48 (bA 50 137438953471) ?_
     refine nU 37 49 (bA 50 274877906943) ?_
     refine nU 38 50 (bA 50 549755813887) ?_
     refine nU 39 51 (bA 50 1099511627775) ?_
     refine nU 40 52 (bA 50 2199023255551) ?_
     refine nU 41 53 (bA 50 4398046511103) ?_
     refine nU 42 54 (bA 50 8796093022207) ?_
     refine nU 43 55 (bA 50 17592186044415) ?_
     refine nU 44 56 (bA 50 35184372088831) ?_
     refine nU 45 57 (bA 50 70368744177663) ?_
     refine nU 46 58 (bA 50 140737488355327) ?_
     refine nU 47 59 (bA 50 281474976710655) ?_
     refine nU 48 60 (bA 50 562949953421311) ?_
     refine pU 49 61 (bA 50 1125899906842623) ?_
     refine done_ (done_of HT_.out (by kernel_rfl)) ?_
     try go_wp2
     go_ret
     exact ⟨rE, bB⟩
   ·rw [if_neg c3] at H
    have c3b0 : decide (x5_1 < (l1.length : Int)) = false := decide_eq_false c3
    clear c3
    replace H := Option.bind_eq_some_iff.mp H
    obtain ⟨t134, A240, H⟩ := H
    replace H : (if t134 = true then (some (decide ((l1.length : Int) ≤ 28))) else (some false)) = some r := H
    have A24 := Aside0.mk A240
    clear A240
    by_cases c25 : t134 = true
    ·subst c25
     have H1 : (some (decide ((l1.length : Int) ≤ 28))) = some r := by rw [if_pos rfl] at H; exact H
     clear H
     have H := H1
     clear H1
     obtain rfl := Option.some.inj H
     go_wp2_with (first | ((with_reducible refine gate_callee (f := 79) rfl ?_); refine goesL_ (some 63) rfl rfl Try.func79 (by kernel_rfl) rfl #[.int .i64 a0, .int .i64 0, .int .i64 8] rfl aE ?_; (with_reducible refine (spec_l1In.calls a0 0 8 true _ A24.out).mono ?_); rintro e w' ⟨rfl, ⟨nd, rfl⟩⟩; refine ⟨_, rfl, ?_⟩))
     go_ret
     exact ⟨rE, bB⟩
    ·replace c25 := Bool.eq_false_iff.mpr c25
     subst c25
     have H1 : (some false) = some r := by rw [if_neg (show ¬ (false = true) by decide)] at H; exact H
     clear H
     have H := H1
     clear H1
     obtain rfl := Option.some.inj H
     go_wp2_with (first | ((with_reducible refine gate_callee (f := 79) rfl ?_); refine goesL_ (some 63) rfl rfl Try.func79 (by kernel_rfl) rfl #[.int .i64 a0, .int .i64 0, .int .i64 8] rfl aE ?_; (with_reducible refine (spec_l1In.calls a0 0 8 false _ A24.out).mono ?_); rintro e w' ⟨rfl, ⟨nd, rfl⟩⟩; refine ⟨_, rfl, ?_⟩))
     go_ret
     exact ⟨rE, bB⟩

end Go.Proofs.Ytlhppclbokkfmaa.OFnExactSidneyBlocks
