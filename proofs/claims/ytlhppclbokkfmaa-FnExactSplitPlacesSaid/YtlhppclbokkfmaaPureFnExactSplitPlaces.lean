/- The program's function and the reference's come to the same answer: what lies behind the law FnExactSplitPlaces. Conditions: none. -/
import Derived.Test.YtlhppclbokkfmaaArgFnExactSplitPlaces
import Derived.Test.YtlhppclbokkfmaaBase
namespace Go.Proofs.Ytlhppclbokkfmaa.Pure
open Go.RowKit Go.Proofs.Ytlhppclbokkfmaa.OFnExactSplitPlaces Go.Proofs.Ytlhppclbokkfmaa.Base Go.Proofs.YtlhppclbokkfmaaW.PrintWords Go.Proofs.YtlhppclbokkfmaaW.PrintLast Go.Proofs.YtlhppclbokkfmaaW.PrintMore Go.Proofs.Ytlhppclbokkfmaa.Open
set_option linter.unusedVariables false
set_option linter.unusedSimpArgs false

def laws_heldJobS.l0 : Nat → List (S50) → Int → Int → Option (Int)
 | 0, _, _, _ => none
 | k + 1, x0, x1, x5 => if x5 < (x0.length : Int) then (if 0 ≤ x5 then (if ((rd_T50 x0 x5).f0) = x1 then (if ((rd_T50 x0 x5).f1) = (wrap64 (x1 + 1)) then (if ((rd_T50 x0 x5).f2) = (wrap64 ((wrap64 (x1 + 1)) + 1)) then (if ((rd_T50 x0 x5).f3) = (wrap64 ((wrap64 ((wrap64 (x1 + 1)) + 1)) + 1)) then (laws_heldJobS.l0 k x0 (wrap64 ((wrap64 ((wrap64 ((wrap64 (x1 + 1)) + 1)) + 1)) + 1)) (wrap64 (x5 + 1))) else (some (-1))) else (some (-1))) else (some (-1))) else (some (-1))) else (none)) else (some x1)
theorem szJobS_eq (xs : List S52) (left : Int) (h0 : 0 ≤ left) (h1 : left ≤ 1048576) (h : xs.length ≤ 9223372036854775807) : laws_szJobS.f xs left = some (if left < xs.length then -1 else left - xs.length) := by
 unfold laws_szJobS.f
 rw [w64 (by omega) (by omega)]
 by_cases c : left < xs.length
 ·rw [if_pos (by omega), if_pos c]
 ·rw [if_neg (by omega), if_neg c]
def conv (x : S52) : S50 := ⟨x.f0, x.f1, x.f2, x.f3⟩
theorem rdL (xs : List S52) (i : Nat) (h : i < xs.length) : rd_T52 xs (i : Int) = xs[i] := by
 unfold rd_T52
 rw [Int.toNat_natCast, List.getD_eq_getElem?_getD, List.getElem?_eq_getElem h]
 rfl
theorem toJobS_l (xs : List S52) (hn : xs.length ≤ 8796093022208) : ∀ (d i : Nat) (ys : List S50), i + d = xs.length → ys.length = xs.length → ys.take i = (xs.map conv).take i → Ev (fun k => laws_toJobS.l0 k xs ys (i : Int)) (xs.map conv) := by
 intro d
 induction d with
 | zero =>
  intro i ys hi hl ht
  refine ev_succ ?_
  simp only [laws_toJobS.l0, if_neg (show ¬ (i : Int) < (xs.length : Int) by omega)]
  have : ys = xs.map conv := by
   rw [List.take_of_length_le (by omega), List.take_of_length_le (by simp; omega)] at ht
   exact ht
  rw [this]
  exact ev_now _
 | succ d ih =>
  intro i ys hi hl ht
  refine ev_succ ?_
  have hx : i < xs.length := by omega
  simp only [laws_toJobS.l0, laws_toJob.f, Option.bind_some, if_pos (show (i : Int) < (xs.length : Int) by omega), if_pos (show (i : Int) < (ys.length : Int) by omega), if_pos (show (0 : Int) ≤ (i : Int) by omega), rdL xs i hx, wsucc i (by omega), Int.toNat_natCast]
  refine ih (i + 1) _ (by omega) (by rw [List.length_set]; exact hl) ?_
  rw [take_set_succ ys i _ (by omega), ht, List.take_succ_eq_append_getElem (by simp; omega)]
  simp [conv]
theorem toJobS_ev (xs : List S52) (hn : xs.length ≤ 1048576) : Ev (fun k => laws_toJobS.f k xs) (xs.map conv) := by
 unfold laws_toJobS.f
 simp only [if_pos (show (0 : Int) ≤ (xs.length : Int) by omega), Int.toNat_natCast, if_pos (show xs.length ≤ 8796093022208 by omega)]
 exact toJobS_l xs (by omega) xs.length 0 _ (by omega) (by simp) (by simp)
theorem rdI (xs : List S50) (i : Nat) (h : i < xs.length) : rd_T50 xs (i : Int) = xs[i] := by
 unfold rd_T50
 rw [Int.toNat_natCast, List.getD_eq_getElem?_getD, List.getElem?_eq_getElem h]
 rfl
theorem eqJobS_l (xs : List S50) (hn : xs.length ≤ 4611686018427387904) : ∀ (d i : Nat), i + d = xs.length → Ev (fun k => laws_eqJobS.l0 k xs xs (i : Int)) true := by
 intro d
 induction d with
 | zero =>
  intro i hi
  refine ev_succ ?_
  simp only [laws_eqJobS.l0, if_neg (show ¬ (i : Int) < (xs.length : Int) by omega)]
  exact ev_now _
 | succ d ih =>
  intro i hi
  refine ev_succ ?_
  simp only [laws_eqJobS.l0, laws_eqJob.f, if_true, Option.bind_some, if_pos (show (i : Int) < (xs.length : Int) by omega), if_pos (show (0 : Int) ≤ (i : Int) by omega), wsucc i (by omega)]
  exact ih (i + 1) (by omega)
theorem eqJobS_ev (xs : List S50) (hn : xs.length ≤ 4611686018427387904) : Ev (fun k => laws_eqJobS.f k xs xs) true := by
 unfold laws_eqJobS.f
 simp only [if_true]
 exact eqJobS_l xs hn xs.length 0 (by omega)
theorem conv_I64 (l : List S52) (hg : ∀ x ∈ l, G52 x) (i : Nat) (hi : i < (l.map conv).length) : I64 (l.map conv)[i].f0 ∧ I64 (l.map conv)[i].f1 ∧ I64 (l.map conv)[i].f2 ∧ I64 (l.map conv)[i].f3 := by
 simp only [List.getElem_map, conv]
 exact hg _ (List.getElem_mem _)
theorem rdI_set (xs : List S50) (i : Nat) (h : i < xs.length) (v : S50) : rd_T50 (xs.set i v) (i : Int) = v := by
 rw [rdI _ i (by rw [List.length_set]; exact h)]
 simp
theorem markJobS_l : ∀ (d i m : Nat) (xs : List S50), i + d = xs.length → m + 4 * d ≤ 1152921504606846976 → xs.length ≤ 1152921504606846976 →
  ∃ (q : Nat) (ys : List S50), Ev (fun k => laws_markJobS.l0 k xs (m : Int) (i : Int)) ((q : Int), ys) ∧ ys.length = xs.length ∧ ys.take i = xs.take i ∧ m ≤ q ∧ q ≤ m + 4 * d ∧ Ev (fun k => laws_heldJobS.l0 k ys (m : Int) (i : Int)) (q : Int) := by
 intro d
 induction d with
 | zero =>
  intro i m xs hi hmd hxl
  refine ⟨m, xs, ev_succ ?_, rfl, rfl, Nat.le_refl _, by omega, ev_succ ?_⟩
  ·simp only [laws_markJobS.l0, if_neg (show ¬ (i : Int) < (xs.length : Int) by omega)]
   exact ev_now _
  ·simp only [laws_heldJobS.l0, if_neg (show ¬ (i : Int) < (xs.length : Int) by omega)]
   exact ev_now _
 | succ d ih =>
  intro i m xs hi hmd hxl
  obtain ⟨q, ys, h1, h2, h3, h4, h4', h5⟩ := ih (i + 1) (m + 4) (xs.set i ⟨(m : Int), ((m + 1 : Nat) : Int), ((m + 2 : Nat) : Int), ((m + 3 : Nat) : Int)⟩) (by rw [List.length_set]; omega) (by omega) (by rw [List.length_set]; omega)
  rw [List.length_set] at h2
  rw [take_set_succ xs i _ (by omega)] at h3
  have hy : ys[i]'(by omega) = ⟨(m : Int), ((m + 1 : Nat) : Int), ((m + 2 : Nat) : Int), ((m + 3 : Nat) : Int)⟩ := by
   have := congrArg (fun l => l[i]?) h3
   simp only [List.getElem?_take, if_pos (show i < i + 1 by omega)] at this
   rw [List.getElem?_append_right (by simp; omega), List.getElem?_eq_getElem (by omega)] at this
   simpa [Nat.min_eq_left (show i ≤ xs.length by omega)] using this
  refine ⟨q, ys, ev_succ ?_, h2, ?_, by omega, by omega, ev_succ ?_⟩
  ·simp only [laws_markJobS.l0, Option.bind_some, if_pos (show (i : Int) < (xs.length : Int) by omega), if_pos (show (0 : Int) ≤ (i : Int) by omega), wsucc i (by omega), wsucc m (by omega), wsucc (m + 1) (by omega), wsucc (m + 2) (by omega), wsucc (m + 3) (by omega), Int.toNat_natCast, rdI_set xs i (by omega), List.set_set]
   exact h1
  ·have := congrArg (fun l => l.take i) h3
   simp only [List.take_take, Nat.min_eq_left (show i ≤ i + 1 by omega)] at this
   rw [this, List.take_append_of_le_length (by simp; omega), List.take_take, Nat.min_self]
  ·simp only [laws_heldJobS.l0, if_pos (show (i : Int) < (ys.length : Int) by omega), if_pos (show (0 : Int) ≤ (i : Int) by omega), wsucc i (by omega), wsucc m (by omega), wsucc (m + 1) (by omega), wsucc (m + 2) (by omega), wsucc (m + 3) (by omega), rdI ys i (by omega), hy, if_true]
   exact h5
theorem markJobS_from (xs : List S50) (h : xs.length ≤ 1048576) (m : Nat) (hm : m ≤ 1000000000) : ∃ (q : Nat) (ys : List S50), m ≤ q ∧ q ≤ m + 4194304 ∧ Ev (fun k => laws_markJobS.f k xs (m : Int)) ((q : Int), ys) := by
 obtain ⟨q, ys, h1, h2, h3, h4, h4', h5⟩ := markJobS_l xs.length 0 m xs (by omega) (by omega) (by omega)
 exact ⟨q, ys, h4, by omega, h1⟩
theorem markJobS_from1 (xs : List S50) (h : xs.length ≤ 1048576) : ∃ (q : Nat) (ys : List S50), 1 ≤ q ∧ q ≤ 1 + 4194304 ∧ Ev (fun k => laws_markJobS.f k xs 1) ((q : Int), ys) := markJobS_from xs h 1 (by omega)
theorem eqIntS_l (xs : List Int) (hn : xs.length ≤ 4611686018427387904) : ∀ (d i : Nat), i + d = xs.length → Ev (fun k => laws_eqIntS.l0 k xs xs (i : Int)) true := by
 intro d
 induction d with
 | zero =>
  intro i hi
  refine ev_succ ?_
  simp only [laws_eqIntS.l0, if_neg (show ¬ (i : Int) < (xs.length : Int) by omega)]
  exact ev_now _
 | succ d ih =>
  intro i hi
  refine ev_succ ?_
  simp only [laws_eqIntS.l0, if_true, if_pos (show (i : Int) < (xs.length : Int) by omega), if_pos (show (0 : Int) ≤ (i : Int) by omega), wsucc i (by omega)]
  exact ih (i + 1) (by omega)
theorem eqIntS_ev (xs : List Int) (hn : xs.length ≤ 4611686018427387904) : Ev (fun k => laws_eqIntS.f k xs xs) true := by
 unfold laws_eqIntS.f
 simp only [if_true]
 exact eqIntS_l xs hn xs.length 0 (by omega)
theorem rdN (xs : List Int) (i : Nat) (h : i < xs.length) : rd xs (i : Int) = xs[i] := by
 unfold rd
 rw [Int.toNat_natCast, List.getD_eq_getElem?_getD, List.getElem?_eq_getElem h]
 rfl
theorem markIntS_l : ∀ (d i m : Nat) (xs : List Int), i + d = xs.length → m + d ≤ 1152921504606846976 → xs.length ≤ 1152921504606846976 →
  ∃ (q : Nat) (ys : List Int), Ev (fun k => laws_markIntS.l0 k xs (m : Int) (i : Int)) ((q : Int), ys) ∧ ys.length = xs.length ∧ ys.take i = xs.take i ∧ m ≤ q ∧ q ≤ m + d ∧ Ev (fun k => laws_heldIntS.l0 k ys (m : Int) (i : Int)) (q : Int) := by
 intro d
 induction d with
 | zero =>
  intro i m xs hi hmd hxl
  refine ⟨m, xs, ev_succ ?_, rfl, rfl, Nat.le_refl _, by omega, ev_succ ?_⟩
  ·simp only [laws_markIntS.l0, if_neg (show ¬ (i : Int) < (xs.length : Int) by omega)]
   exact ev_now _
  ·simp only [laws_heldIntS.l0, if_neg (show ¬ (i : Int) < (xs.length : Int) by omega)]
   exact ev_now _
 | succ d ih =>
  intro i m xs hi hmd hxl
  obtain ⟨q, ys, h1, h2, h3, h4, h4', h5⟩ := ih (i + 1) (m + 1) (xs.set i (m : Int)) (by rw [List.length_set]; omega) (by omega) (by rw [List.length_set]; omega)
  rw [List.length_set] at h2
  rw [take_set_succ xs i _ (by omega)] at h3
  have hy : ys[i]'(by omega) = (m : Int) := by
   have := congrArg (fun l => l[i]?) h3
   simp only [List.getElem?_take, if_pos (show i < i + 1 by omega)] at this
   rw [List.getElem?_append_right (by simp; omega), List.getElem?_eq_getElem (by omega)] at this
   simpa [Nat.min_eq_left (show i ≤ xs.length by omega)] using this
  have hx : i < xs.length := by omega
  refine ⟨q, ys, ev_succ ?_, h2, ?_, by omega, by omega, ev_succ ?_⟩
  ·simp only [laws_markIntS.l0, if_pos (show (i : Int) < (xs.length : Int) by omega), if_pos (show (0 : Int) ≤ (i : Int) by omega), Int.toNat_natCast, wsucc m (by omega), wsucc i (by omega)]
   exact h1
  ·have := congrArg (fun l => l.take i) h3
   simp only [List.take_take, Nat.min_eq_left (show i ≤ i + 1 by omega)] at this
   rw [this, List.take_append_of_le_length (by simp; omega), List.take_take, Nat.min_self]
  ·simp only [laws_heldIntS.l0, if_pos (show (i : Int) < (ys.length : Int) by omega), if_pos (show (0 : Int) ≤ (i : Int) by omega), rdN ys i (by omega), hy, if_true, wsucc m (by omega), wsucc i (by omega)]
   exact h5
theorem markIntS_ev (xs : List Int) (h : xs.length ≤ 1048576) : ∃ (q : Nat) (ys : List Int), 1 ≤ q ∧ Ev (fun k => laws_markIntS.f k xs 1) ((q : Int), ys) ∧ Ev (fun k => laws_heldIntS.f k ys 1) (q : Int) := by
 obtain ⟨q, ys, h1, h2, h3, h4, h4', h5⟩ := markIntS_l xs.length 0 1 xs (by omega) (by omega) (by omega)
 exact ⟨q, ys, h4, h1, h5⟩
theorem within_eq (a b c : Int) : impl_within.f a b c = some (decide (b ≤ a) && decide (a ≤ c)) := by
 unfold impl_within.f
 by_cases h : b ≤ a
 ·rw [if_pos h]; simp [h]
 ·rw [if_neg h]; simp [h]
def okJ (x : S50) : Bool := decide (1 ≤ x.f0) && (decide (x.f0 ≤ 50) && (decide (0 ≤ x.f1) && (decide (x.f1 ≤ 50) && (decide (0 ≤ x.f2) && (decide (x.f2 ≤ 500) && (decide (0 ≤ x.f3) && decide (x.f3 ≤ 500)))))))
def goodB (l : List S50) : Bool := decide (l.length ≤ 8) && l.all okJ
theorem isDate_eq (a : Int) : impl_isDate.f a = some (decide (0 ≤ a) && decide (a ≤ 500)) := by
 unfold impl_isDate.f
 rw [within_eq]
 rfl
theorem job_chain (x : S50) (o : Option Bool) : (if (decide (1 ≤ x.f0) && decide (x.f0 ≤ 50)) = true then (if (decide (0 ≤ x.f1) && decide (x.f1 ≤ 50)) = true then (if (decide (0 ≤ x.f2) && decide (x.f2 ≤ 500)) = true then (if (decide (0 ≤ x.f3) && decide (x.f3 ≤ 500)) = true then o else some false) else some false) else some false) else some false) = if okJ x = true then o else some false := by
 unfold okJ
 by_cases a1 : 1 ≤ x.f0 <;> by_cases a2 : x.f0 ≤ 50 <;> simp [a1, a2]
 by_cases b1 : 0 ≤ x.f1 <;> by_cases b2 : x.f1 ≤ 50 <;> simp [b1, b2]
 by_cases c1 : 0 ≤ x.f2 <;> by_cases c2 : x.f2 ≤ 500 <;> simp [c1, c2]
theorem IsJobs_l (xs : List S50) (hn : xs.length ≤ 4611686018427387904) : ∀ (d i : Nat), i + d = xs.length → Ev (fun k => impl_IsJobs.l0 k xs (xs.length : Int) (i : Int)) ((xs.drop i).all okJ) := by
 intro d
 induction d with
 | zero =>
  intro i hi
  refine ev_succ ?_
  simp only [impl_IsJobs.l0, if_neg (show ¬ (i : Int) < (xs.length : Int) by omega), List.drop_of_length_le (show xs.length ≤ i by omega)]
  exact ev_now _
 | succ d ih =>
  intro i hi
  refine ev_succ ?_
  have hx : i < xs.length := by omega
  have hih := ih (i + 1) (by omega)
  rw [List.drop_eq_getElem_cons hx, List.all_cons]
  simp only [impl_IsJobs.l0, within_eq, isDate_eq, Option.bind_some, if_pos (show (i : Int) < (xs.length : Int) by omega), if_pos (show (0 : Int) ≤ (i : Int) by omega), wsucc i (by omega), rdI xs i hx]
  generalize xs[i] = x at *
  simp only [job_chain]
  by_cases c : okJ x = true
  ·simpa only [c, if_true, Bool.true_and] using hih
  ·have c' : okJ x = false := by simpa using c
   simp only [c', Bool.false_and]
   exact ev_now _
theorem IsJobs_ev (xs : List S50) (hn : xs.length ≤ 4611686018427387904) : Ev (fun k => impl_IsJobs.f k xs) (goodB xs) := by
 unfold impl_IsJobs.f goodB
 by_cases h : xs.length ≤ 8
 ·simp only [if_neg (show ¬ ((xs.length : Int) > 8) by omega), decide_eq_true h, Bool.true_and]
  exact IsJobs_l xs hn xs.length 0 (by omega)
 ·simp only [if_pos (show ((xs.length : Int) > 8) by omega), decide_eq_false h, Bool.false_and]
  exact ev_now _
def freeJ (x : S50) : Bool := decide (x.f2 = 0)
def plainB (l : List S50) : Bool := goodB l && l.all freeJ
theorem isPlain_l (xs : List S50) (hn : xs.length ≤ 4611686018427387904) : ∀ (d i : Nat), i + d = xs.length → Ev (fun k => impl_isPlain.l0 k xs (xs.length : Int) (i : Int)) ((xs.drop i).all freeJ) := by
 intro d
 induction d with
 | zero =>
  intro i hi
  refine ev_succ ?_
  simp only [impl_isPlain.l0, if_neg (show ¬ (i : Int) < (xs.length : Int) by omega), List.drop_of_length_le (show xs.length ≤ i by omega)]
  exact ev_now _
 | succ d ih =>
  intro i hi
  refine ev_succ ?_
  have hx : i < xs.length := by omega
  have hih := ih (i + 1) (by omega)
  rw [List.drop_eq_getElem_cons hx, List.all_cons]
  simp only [impl_isPlain.l0, if_pos (show (i : Int) < (xs.length : Int) by omega), if_pos (show (0 : Int) ≤ (i : Int) by omega), wsucc i (by omega), rdI xs i hx]
  by_cases c : (xs[i]).f2 = 0
  ·simp only [if_pos c, freeJ, decide_eq_true c, Bool.true_and]
   exact hih
  ·simp only [if_neg c, freeJ, decide_eq_false c, Bool.false_and]
   exact ev_now _
theorem isPlain_ev (xs : List S50) (hn : xs.length ≤ 4611686018427387904) : Ev (fun k => impl_isPlain.f k xs) (xs.all freeJ) := by
 unfold impl_isPlain.f
 exact isPlain_l xs hn xs.length 0 (by omega)
theorem IsPlain_ev (xs : List S50) (hn : xs.length ≤ 4611686018427387904) : Ev (fun k => impl_IsPlain.f k xs) (plainB xs) := by
 unfold impl_IsPlain.f plainB
 refine ev_bind (IsJobs_ev xs hn) ?_
 cases goodB xs
 ·simp only [Bool.false_eq_true, if_false, Bool.false_and]; exact ev_now _
 ·simp only [if_true, Bool.true_and]; exact ev_bind (isPlain_ev xs hn) (ev_now _)
theorem plain_good {xs : List S50} (h : plainB xs = true) : goodB xs = true := by
 unfold plainB at h
 simp only [Bool.and_eq_true] at h
 exact h.1
theorem l1In_eq (a b c : Int) : spec_l1In.f a b c = some (decide (b ≤ a) && decide (a ≤ c)) := by
 unfold spec_l1In.f
 by_cases h : b ≤ a
 ·rw [if_pos h]; simp [h]
 ·rw [if_neg h]; simp [h]
theorem l2Job_eq (x : S50) : spec_l2Job.f x.f0 x.f1 x.f2 x.f3 = some (okJ x) := by
 unfold spec_l2Job.f okJ
 simp only [l1In_eq, Option.bind_some]
 by_cases a1 : 1 ≤ x.f0 <;> by_cases a2 : x.f0 ≤ 50 <;> simp [a1, a2]
 by_cases b1 : 0 ≤ x.f1 <;> by_cases b2 : x.f1 ≤ 50 <;> simp [b1, b2]
 by_cases c1 : 0 ≤ x.f2 <;> by_cases c2 : x.f2 ≤ 500 <;> simp [c1, c2]
theorem l2Good_l (xs : List S50) (hn : xs.length ≤ 4611686018427387904) : ∀ (d i : Nat), i + d = xs.length → Ev (fun k => spec_l2Good.l0 k xs (i : Int)) ((xs.drop i).all okJ && decide (xs.length ≤ 8)) := by
 intro d
 induction d with
 | zero =>
  intro i hi
  refine ev_succ ?_
  simp only [spec_l2Good.l0, if_neg (show ¬ (i : Int) < (xs.length : Int) by omega), List.drop_of_length_le (show xs.length ≤ i by omega)]
  refine ev_const ?_
  simp
  omega
 | succ d ih =>
  intro i hi
  refine ev_succ ?_
  have hx : i < xs.length := by omega
  have hih := ih (i + 1) (by omega)
  rw [List.drop_eq_getElem_cons hx, List.all_cons]
  simp only [spec_l2Good.l0, if_pos (show (i : Int) < (xs.length : Int) by omega), if_pos (show (0 : Int) ≤ (i : Int) by omega), wsucc i (by omega), rdI xs i hx, l2Job_eq, Option.bind_some]
  by_cases c : okJ xs[i] = true
  ·simpa only [c, if_true, Bool.true_and] using hih
  ·have c' : okJ xs[i] = false := by simpa using c
   simp only [c', Bool.false_and]
   exact ev_now _
theorem l2Good_ev (xs : List S50) (hn : xs.length ≤ 4611686018427387904) : Ev (fun k => spec_l2Good.f k xs) (goodB xs) := by
 unfold spec_l2Good.f goodB
 rw [Bool.and_comm]
 exact l2Good_l xs hn xs.length 0 (by omega)
def freeJ' (x : S50) : Bool := decide (¬ x.f2 > 0)
theorem l4Free_l (xs : List S50) (hn : xs.length ≤ 4611686018427387904) : ∀ (d i : Nat), i + d = xs.length → Ev (fun k => spec_l4Free.l0 k xs (i : Int)) ((xs.drop i).all freeJ') := by
 intro d
 induction d with
 | zero =>
  intro i hi
  refine ev_succ ?_
  simp only [spec_l4Free.l0, if_neg (show ¬ (i : Int) < (xs.length : Int) by omega), List.drop_of_length_le (show xs.length ≤ i by omega)]
  exact ev_now _
 | succ d ih =>
  intro i hi
  refine ev_succ ?_
  have hx : i < xs.length := by omega
  have hih := ih (i + 1) (by omega)
  rw [List.drop_eq_getElem_cons hx, List.all_cons]
  simp only [spec_l4Free.l0, if_pos (show (i : Int) < (xs.length : Int) by omega), if_pos (show (0 : Int) ≤ (i : Int) by omega), wsucc i (by omega), rdI xs i hx]
  by_cases c : (xs[i]).f2 > 0
  ·simp only [if_pos c, freeJ', decide_eq_false (show ¬ ¬ (xs[i]).f2 > 0 by omega), Bool.false_and]
   exact ev_now _
  ·simp only [if_neg c, freeJ', decide_eq_true c, Bool.true_and]
   exact hih
theorem l4Free_ev (xs : List S50) (hn : xs.length ≤ 4611686018427387904) : Ev (fun k => spec_l4Free.f k xs) (xs.all freeJ') := by
 unfold spec_l4Free.f
 exact l4Free_l xs hn xs.length 0 (by omega)
theorem good_free (xs : List S50) (h : goodB xs = true) : xs.all freeJ' = xs.all freeJ := by
 unfold goodB at h
 simp only [Bool.and_eq_true, List.all_eq_true] at h
 rw [Bool.eq_iff_iff]
 simp only [List.all_eq_true]
 constructor
 ·intro hh x hx
  have a := hh x hx
  have b := h.2 x hx
  simp only [okJ, Bool.and_eq_true, decide_eq_true_eq] at b
  simp only [freeJ', decide_eq_true_eq] at a
  simp only [freeJ, decide_eq_true_eq]
  omega
 ·intro hh x hx
  have a := hh x hx
  simp only [freeJ, decide_eq_true_eq] at a
  simp only [freeJ', decide_eq_true_eq]
  omega
theorem l6Good_ev (xs : List S50) (hn : xs.length ≤ 4611686018427387904) : Ev (fun k => spec_l6Good.f k xs) (plainB xs) := by
 unfold spec_l6Good.f plainB
 refine ev_bind (l2Good_ev xs hn) ?_
 cases hg : goodB xs
 ·simp only [Bool.false_eq_true, if_false, Bool.false_and]; exact ev_now _
 ·simp only [if_true, Bool.true_and]
  rw [← good_free xs hg]
  exact ev_bind (l4Free_ev xs hn) (ev_now _)
theorem good_len {xs : List S50} (h : goodB xs = true) : xs.length ≤ 8 := by
 unfold goodB at h
 simp only [Bool.and_eq_true, decide_eq_true_eq] at h
 exact h.1
theorem good_at {xs : List S50} (h : goodB xs = true) (i : Nat) (hi : i < xs.length) : 1 ≤ xs[i].f0 ∧ xs[i].f0 ≤ 50 ∧ 0 ≤ xs[i].f1 ∧ xs[i].f1 ≤ 50 ∧ 0 ≤ xs[i].f2 ∧ xs[i].f2 ≤ 500 ∧ 0 ≤ xs[i].f3 ∧ xs[i].f3 ≤ 500 := by
 unfold goodB at h
 simp only [Bool.and_eq_true, List.all_eq_true] at h
 have b := h.2 xs[i] (List.getElem_mem hi)
 simp only [okJ, Bool.and_eq_true, decide_eq_true_eq] at b
 obtain ⟨a1, a2, b1, b2, c1, c2, d1, d2⟩ := b
 exact ⟨a1, a2, b1, b2, c1, c2, d1, d2⟩
theorem shrN (c i : Nat) (h : i ≤ 64) : shr .i64 (c : Int) (i : Int) = ((c / 2 ^ i : Nat) : Int) := by
 unfold shr
 rw [Int.toNat_natCast, Nat.min_eq_left (show i ≤ IntKind.i64.bits from h)]
 rw [Int.natCast_ediv, Int.natCast_pow]
 rfl
theorem and1 : ∀ m : Nat, m < 256 → Go.bits .and .i64 (m : Int) 1 = ((m % 2 : Nat) : Int) := by decide +kernel
theorem shl1 : ∀ i : Nat, i < 9 → shl .i64 1 (i : Int) = ((2 ^ i : Nat) : Int) := by decide +kernel
theorem andn : ∀ c : Nat, c < 256 → ∀ i : Nat, i < 8 → c / 2 ^ i % 2 = 1 → Go.bits .andNot .i64 (c : Int) ((2 ^ i : Nat) : Int) = ((c - 2 ^ i : Nat) : Int) := by decide +kernel
theorem pow8 (n : Nat) (h : n ≤ 8) : 2 ^ n ≤ 256 := Nat.pow_le_pow_right (by omega) h
theorem shr_and (c i : Nat) (hc : c < 256) (hi : i ≤ 64) : Go.bits .and .i64 (shr .i64 (c : Int) (i : Int)) 1 = ((c / 2 ^ i % 2 : Nat) : Int) := by
 rw [shrN c i hi]
 exact and1 _ (Nat.lt_of_le_of_lt (Nat.div_le_self _ _) hc)
theorem mod1 {x : Nat} (h : x % 2 = 1) : ((x % 2 : Nat) : Int) = 1 := by rw [h]; rfl
theorem mod0 {x : Nat} (h : ¬ x % 2 = 1) : ((x % 2 : Nat) : Int) = 0 := by rw [show x % 2 = 0 by omega]; rfl
theorem mod1' {x : Nat} (h : x % 2 = 1) : ¬ ((x % 2 : Nat) : Int) = 0 := by rw [h]; decide
theorem mod0' {x : Nat} (h : ¬ x % 2 = 1) : ¬ ((x % 2 : Nat) : Int) = 1 := by rw [show x % 2 = 0 by omega]; decide
theorem bit_le (c i : Nat) (h : c / 2 ^ i % 2 = 1) : 2 ^ i ≤ c := by
 rcases Nat.lt_or_ge c (2 ^ i) with hl | hl
 ·rw [Nat.div_eq_of_lt hl] at h; omega
 ·exact hl
def blF (c i : Nat) : Nat → List Int
 | 0 => []
 | d + 1 => if c / 2 ^ i % 2 = 1 then (i : Int) :: blF c (i + 1) d else blF c (i + 1) d
theorem blF_hit {c i : Nat} (h : c / 2 ^ i % 2 = 1) (d : Nat) : blF c i (d + 1) = (i : Int) :: blF c (i + 1) d := by rw [blF, if_pos h]
theorem blF_miss {c i : Nat} (h : ¬ c / 2 ^ i % 2 = 1) (d : Nat) : blF c i (d + 1) = blF c (i + 1) d := by rw [blF, if_neg h]
theorem wsub {c q : Nat} (h : q ≤ c) (hc : c ≤ 4611686018427387904) : wrap64 ((c : Int) - (q : Int)) = ((c - q : Nat) : Int) := by rw [w64 (by omega) (by omega)]; omega
theorem blF_nil (c : Nat) : ∀ d i : Nat, c / 2 ^ i = 0 → blF c i d = [] := by
 intro d
 induction d with
 | zero => intro i _; rfl
 | succ d ih =>
  intro i h
  unfold blF
  rw [if_neg (by omega)]
  refine ih (i + 1) ?_
  rw [Nat.pow_succ, ← Nat.div_div_eq_div_mul, h]
theorem blF_mem (c : Nat) : ∀ d i : Nat, ∀ x ∈ blF c i d, ∃ j : Nat, x = (j : Int) ∧ i ≤ j ∧ j < i + d ∧ c / 2 ^ j % 2 = 1 := by
 intro d
 induction d with
 | zero => intro i x hx; simp [blF] at hx
 | succ d ih =>
  intro i x hx
  unfold blF at hx
  split at hx
  ·rcases List.mem_cons.mp hx with rfl | hx
   ·exact ⟨i, rfl, by omega, by omega, by assumption⟩
   ·obtain ⟨j, a, b, e, f⟩ := ih (i + 1) x hx
    exact ⟨j, a, by omega, by omega, f⟩
  ·obtain ⟨j, a, b, e, f⟩ := ih (i + 1) x hx
   exact ⟨j, a, by omega, by omega, f⟩
theorem blF_len (c : Nat) : ∀ d i : Nat, (blF c i d).length ≤ d := by
 intro d
 induction d with
 | zero => intro i; exact Nat.le_refl _
 | succ d ih =>
  intro i
  unfold blF
  have := ih (i + 1)
  split
  ·rw [List.length_cons]; omega
  ·omega
theorem rdz (xs : List Int) (i : Nat) (h : i < xs.length) : rd xs (i : Int) = xs[i] := by
 unfold rd
 rw [Int.toNat_natCast, List.getD_eq_getElem?_getD, List.getElem?_eq_getElem h]
 rfl
theorem rd_left (a b : List Int) (i : Nat) (h : i < a.length) : rd (a ++ b) (i : Int) = rd a (i : Int) := by
 rw [rdz _ i (by rw [List.length_append]; omega), rdz a i h, List.getElem_append_left h]
theorem rd_mid (a b : List Int) (x : Int) (i : Nat) (h : i = a.length) : rd (a ++ x :: b) (i : Int) = x := by
 subst h
 rw [rdz _ _ (by rw [List.length_append, List.length_cons]; omega)]
 simp
theorem set_mid (a b : List Int) (x y : Int) (i : Nat) (h : i = a.length) : (a ++ x :: b).set i y = a ++ y :: b := by
 subst h
 simp
theorem listOf_l (c n : Nat) (hn : n ≤ 8) (hc : c < 2 ^ n) : ∀ (d i : Nat) (ac : List Int), i + d = n → ac.length ≤ i → Ev (fun k => impl_listOf.l0 k (c : Int) ac (i : Int)) (ac ++ blF c i d) := by
 intro d
 have h8 := pow8 n hn
 induction d with
 | zero =>
  intro i ac hi ha
  refine ev_succ ?_
  have hz : c / 2 ^ i = 0 := Nat.div_eq_of_lt (by rw [show i = n by omega]; exact hc)
  simp only [impl_listOf.l0, if_pos (show (0 : Int) ≤ (i : Int) by omega), shrN c i (by omega), hz, gt_iff_lt, if_neg (show ¬ (0 : Int) < ((0 : Nat) : Int) by omega), blF, List.append_nil]
  exact ev_now _
 | succ d ih =>
  intro i ac hi ha
  refine ev_succ ?_
  by_cases hz : c / 2 ^ i = 0
  ·rw [blF_nil c _ i hz, List.append_nil]
   simp only [impl_listOf.l0, if_pos (show (0 : Int) ≤ (i : Int) by omega), shrN c i (by omega), hz, gt_iff_lt, if_neg (show ¬ (0 : Int) < ((0 : Nat) : Int) by omega)]
   exact ev_now _
  ·simp only [impl_listOf.l0, if_pos (show (0 : Int) ≤ (i : Int) by omega), shr_and c i (by omega) (by omega), blF, wsucc i (by omega)]
   simp only [shrN c i (by omega), gt_iff_lt, if_pos (Int.natCast_pos.mpr (Nat.pos_of_ne_zero hz))]
   by_cases hb : c / 2 ^ i % 2 = 1
   ·have h := ih (i + 1) (ac ++ [(i : Int)]) (by omega) (by rw [List.length_append, List.length_singleton]; omega)
    rw [List.append_assoc] at h
    simp only [if_pos hb, if_pos (mod1 hb), if_pos (show ac.length < 17592186044416 by omega)]
    exact h
   ·simp only [if_neg hb, if_neg (mod0' hb)]
    exact ih (i + 1) ac (by omega) (by omega)
theorem listOf_ev (c n : Nat) (hn : n ≤ 8) (hc : c < 2 ^ n) : Ev (fun k => impl_listOf.f k (c : Int)) (blF c 0 n) := by
 unfold impl_listOf.f
 exact listOf_l c n hn hc n 0 [] (by omega) (by simp)
theorem wrap_I64 (x : Int) : I64 (wrap64 x) := by unfold I64 wrap64; omega
def lateF (j : S50) (e : Int) : Int := if 0 < wrap64 (e - j.f3) then wrap64 (e - j.f3) else 0
def costF (j : S50) (e obj : Int) : Int := if obj = 2 then e else if obj = 3 then wrap64 (j.f1 * e) else if obj = 5 then lateF j e else if obj = 6 then wrap64 (j.f1 * lateF j e) else if lateF j e = 0 then 0 else if obj = 7 then 1 else j.f1
theorem add_eq (a : Int) (j : S50) (e obj : Int) (ha : I64 a) (ho : obj = 2 ∨ obj = 3 ∨ obj = 5 ∨ obj = 6 ∨ obj = 7 ∨ obj = 8) : impl_add.f a j.f0 j.f1 j.f2 j.f3 e obj false = some (wrap64 (a + costF j e obj)) := by
 have hmx : ∀ x : Int, mx 0 x = if 0 < x then x else 0 := fun x => rfl
 have hw : wrap64 a = a := w64 ha.1 ha.2
 unfold impl_add.f costF lateF
 rcases ho with rfl | rfl | rfl | rfl | rfl | rfl
 ·rfl
 ·rfl
 ·rfl
 ·rfl
 ·by_cases h : wrap64 (e - j.f3) ≤ 0
  ·simp only [if_neg (show ¬ (0 : Int) < wrap64 (e - j.f3) by omega), if_pos h]
   simp [hw]
  ·simp only [if_pos (show (0 : Int) < wrap64 (e - j.f3) by omega), if_neg h, if_neg (show ¬ wrap64 (e - j.f3) = 0 by omega)]
   rfl
 ·by_cases h : wrap64 (e - j.f3) ≤ 0
  ·simp only [if_neg (show ¬ (0 : Int) < wrap64 (e - j.f3) by omega), if_pos h]
   simp [hw]
  ·simp only [if_pos (show (0 : Int) < wrap64 (e - j.f3) by omega), if_neg h, if_neg (show ¬ wrap64 (e - j.f3) = 0 by omega)]
   rfl
theorem l2Cost_eq (j : S50) (e obj : Int) : spec_l2Cost.f j.f0 j.f1 j.f2 j.f3 e obj = some (costF j e obj) := by
 have hm : spec_l1Most.f (wrap64 (e - j.f3)) 0 = some (lateF j e) := by
  unfold spec_l1Most.f lateF
  by_cases h : wrap64 (e - j.f3) > 0
  ·rw [if_pos h, if_pos h]
  ·rw [if_neg h, if_neg h]
 unfold spec_l2Cost.f costF
 rw [hm, Option.bind_some]
 repeat' split
 all_goals rfl
def sumT (js : List S50) (ac : Int) (ls : List Int) : Int := ls.foldl (fun a x => wrap64 (a + (rd_T50 js x).f0)) ac
theorem sumT_I64 (js : List S50) : ∀ (ls : List Int) (ac : Int), I64 ac → I64 (sumT js ac ls) := by
 intro ls
 induction ls with
 | nil => intro ac h; exact h
 | cons x ls ih => intro ac h; exact ih _ (wrap_I64 _)
theorem timeOf_l (js : List S50) (ls : List Int) (hl : ls.length ≤ 1000) (hin : ∀ x ∈ ls, 0 ≤ x ∧ x < (js.length : Int)) : ∀ (d p : Nat) (ac : Int), p + d = ls.length → Ev (fun k => impl_timeOf.l0 k js ac ls (ls.length : Int) (p : Int)) (sumT js ac (ls.drop p)) := by
 intro d
 induction d with
 | zero =>
  intro p ac hp
  refine ev_succ ?_
  simp only [impl_timeOf.l0, if_neg (show ¬ (p : Int) < (ls.length : Int) by omega), List.drop_of_length_le (show ls.length ≤ p by omega)]
  exact ev_now _
 | succ d ih =>
  intro p ac hp
  refine ev_succ ?_
  have hx : p < ls.length := by omega
  have h := hin ls[p] (List.getElem_mem hx)
  rw [List.drop_eq_getElem_cons hx]
  simp only [impl_timeOf.l0, if_pos (show (p : Int) < (ls.length : Int) by omega), if_pos (show (0 : Int) ≤ (p : Int) by omega), rdz ls p hx, if_pos h.1, if_pos h.2, wsucc p (by omega)]
  exact ih (p + 1) _ (by omega)
theorem bl_in (js : List S50) (c : Nat) : ∀ x ∈ blF c 0 js.length, 0 ≤ x ∧ x < (js.length : Int) := by
 intro x hx
 obtain ⟨j, rfl, _, h, _⟩ := blF_mem c _ _ x hx
 omega
theorem timeOf_ev (js : List S50) (c : Nat) (hn : js.length ≤ 8) (hc : c < 2 ^ js.length) : Ev (fun k => impl_timeOf.f k js (c : Int)) (sumT js 0 (blF c 0 js.length)) := by
 unfold impl_timeOf.f
 have := blF_len c js.length 0
 refine ev_bind (listOf_ev c _ hn hc) ?_
 exact timeOf_l js _ (by omega) (bl_in js c) _ 0 0 (Nat.zero_add _)
def stepB (b s : Int) : Int := if b < 0 then s else if s < b then s else b
def lastF (js : List S50) (obj : Int) (L : List Int) (c : Nat) (e i : Int) : Int := wrap64 (rd L ((c - 2 ^ i.toNat : Nat) : Int) + costF (rd_T50 js i) e obj)
def bestF (js : List S50) (obj : Int) (L : List Int) (c : Nat) (e b : Int) (ls : List Int) : Int := ls.foldl (fun b i => stepB b (lastF js obj L c e i)) b
def nextV (js : List S50) (obj base : Int) (L : List Int) : List Int := L ++ [bestF js obj L L.length (wrap64 (base + sumT js 0 (blF L.length 0 js.length))) (-1) (blF L.length 0 js.length)]
def iterV (js : List S50) (obj base : Int) (L : List Int) : Nat → List Int
 | 0 => L
 | d + 1 => iterV js obj base (nextV js obj base L) d
def allI (L : List Int) : Prop := ∀ x ∈ L, I64 x
theorem allI_rd {L : List Int} (h : allI L) (i : Nat) : I64 (rd L (i : Int)) := by
 unfold rd
 rw [Int.toNat_natCast, List.getD_eq_getElem?_getD]
 rcases Nat.lt_or_ge i L.length with hi | hi
 ·rw [List.getElem?_eq_getElem hi]; exact h _ (List.getElem_mem hi)
 ·rw [List.getElem?_eq_none hi]; show I64 0; unfold I64; omega
theorem bestF_I64 (js : List S50) (obj : Int) (L : List Int) (c : Nat) (e : Int) : ∀ (ls : List Int) (b : Int), I64 b → I64 (bestF js obj L c e b ls) := by
 intro ls
 induction ls with
 | nil => intro b h; exact h
 | cons x ls ih =>
  intro b h
  refine ih _ ?_
  show I64 (stepB b (lastF js obj L c e x))
  unfold stepB
  split
  ·exact wrap_I64 _
  ·split
   ·exact wrap_I64 _
   ·exact h
theorem nextV_I64 {js : List S50} {obj base : Int} {L : List Int} (h : allI L) : allI (nextV js obj base L) := by
 intro x hx
 unfold nextV at hx
 rcases List.mem_append.mp hx with hx | hx
 ·exact h x hx
 ·rw [List.mem_singleton.mp hx]; exact bestF_I64 _ _ _ _ _ _ _ (by unfold I64; omega)
theorem nextV_len (js : List S50) (obj base : Int) (L : List Int) : (nextV js obj base L).length = L.length + 1 := by unfold nextV; rw [List.length_append, List.length_singleton]
theorem iterV_len (js : List S50) (obj base : Int) : ∀ (d : Nat) (L : List Int), (iterV js obj base L d).length = L.length + d := by
 intro d
 induction d with
 | zero => intro L; rfl
 | succ d ih => intro L; unfold iterV; rw [ih, nextV_len]; omega
theorem l6Times_ev (js : List S50) (c : Nat) (hn : js.length ≤ 8) (hc : c < 256) : Ev (fun k => spec_l6Times.f k js (c : Int)) (sumT js 0 (blF c 0 js.length)) := by
 have key : ∀ (d i : Nat) (ac : Int), i + d = js.length → Ev (fun k => spec_l6Times.l0 k js (c : Int) ac (i : Int)) (sumT js ac (blF c i d)) := by
  intro d
  induction d with
  | zero =>
   intro i ac hi
   refine ev_succ ?_
   simp only [spec_l6Times.l0, if_neg (show ¬ (i : Int) < (js.length : Int) by omega)]
   exact ev_now _
  | succ d ih =>
   intro i ac hi
   refine ev_succ ?_
   simp only [spec_l6Times.l0, if_pos (show (i : Int) < (js.length : Int) by omega), if_pos (show (0 : Int) ≤ (i : Int) by omega), shr_and c i hc (by omega), wsucc i (by omega), blF]
   by_cases hb : c / 2 ^ i % 2 = 1
   ·simp only [if_pos hb, if_pos (mod1 hb)]
    exact ih (i + 1) _ (by omega)
   ·simp only [if_neg hb, if_neg (mod0' hb)]
    exact ih (i + 1) _ (by omega)
 unfold spec_l6Times.f
 exact key _ 0 0 (Nat.zero_add _)
theorem l6Last_ev (js : List S50) (obj : Int) (L : List Int) (c i : Nat) (hn : js.length ≤ 8) (hc : c < 256) (hi : i < js.length) (hb : c / 2 ^ i % 2 = 1) (hL : c - 2 ^ i < L.length) : Ev (fun k => spec_l6Last.f k js obj L (c : Int) (i : Int)) (lastF js obj L c (sumT js 0 (blF c 0 js.length)) (i : Int)) := by
 have hle := bit_le c i hb
 have hw := wsub hle (by omega)
 unfold spec_l6Last.f
 simp only [if_pos (show (0 : Int) ≤ (i : Int) by omega), shl1 i (by omega), hw, if_pos (show (0 : Int) ≤ ((c - 2 ^ i : Nat) : Int) by omega), if_pos (show ((c - 2 ^ i : Nat) : Int) < (L.length : Int) by omega), if_pos (show (i : Int) < (js.length : Int) by omega)]
 refine ev_bind (l6Times_ev js c hn hc) ?_
 simp only [l2Cost_eq, Option.bind_some]
 unfold lastF
 rw [Int.toNat_natCast]
 exact ev_now _
theorem l6Values_ev (js : List S50) (obj : Int) (hn : js.length ≤ 8) : Ev (fun k => spec_l6Values.f k js obj) (iterV js obj 0 [0] (2 ^ js.length - 1)) := by
 have h8 := pow8 _ hn
 have hpos : 0 < 2 ^ js.length := Nat.two_pow_pos _
 have key1 : ∀ (c : Nat) (L : List Int), L.length = c → c < 2 ^ js.length → 0 < c → (Ev (fun k => spec_l6Values.l0 k js obj (nextV js obj 0 L) ((c + 1 : Nat) : Int)) (iterV js obj 0 (nextV js obj 0 L) (2 ^ js.length - (c + 1)))) →
   ∀ (d i : Nat) (b : Int), i + d = js.length → bestF js obj L c (sumT js 0 (blF c 0 js.length)) b (blF c i d) = bestF js obj L c (sumT js 0 (blF c 0 js.length)) (-1) (blF c 0 js.length) →
   Ev (fun k => spec_l6Values.l1 k js obj L (c : Int) b (i : Int)) (iterV js obj 0 (nextV js obj 0 L) (2 ^ js.length - (c + 1))) := by
  intro c L hL hc h0 hnext d
  induction d with
  | zero =>
   intro i b hi hb
   refine ev_succ ?_
   simp only [spec_l6Values.l1, if_neg (show ¬ (i : Int) < (js.length : Int) by omega), if_pos (show L.length < 17592186044416 by omega), wsucc c (by omega)]
   have e : L ++ [b] = nextV js obj 0 L := by
    unfold nextV
    rw [hL, show wrap64 (0 + sumT js 0 (blF c 0 js.length)) = sumT js 0 (blF c 0 js.length) by
     have := sumT_I64 js (blF c 0 js.length) 0 (by unfold I64; omega)
     rw [Int.zero_add]; exact w64 this.1 this.2, ← hb]
    rfl
   rw [e]
   exact hnext
  | succ d ih =>
   intro i b hi hb
   refine ev_succ ?_
   simp only [spec_l6Values.l1, if_pos (show (i : Int) < (js.length : Int) by omega), if_pos (show (0 : Int) ≤ (i : Int) by omega), shr_and c i (by omega) (by omega), wsucc i (by omega)]
   by_cases hbit : c / 2 ^ i % 2 = 1
   ·simp only [if_neg (mod1' hbit)]
    refine ev_bind (l6Last_ev js obj L c i hn (by omega) (by omega) hbit (by have := Nat.two_pow_pos i; omega)) ?_
    have h := ih (i + 1) (stepB b (lastF js obj L c (sumT js 0 (blF c 0 js.length)) (i : Int))) (by omega) (by rw [← hb, blF_hit hbit]; rfl)
    unfold stepB at h
    by_cases c1 : b < 0
    ·simp only [if_pos c1] at h ⊢; exact h
    ·by_cases c2 : lastF js obj L c (sumT js 0 (blF c 0 js.length)) (i : Int) < b
     ·simp only [if_neg c1, if_pos c2] at h ⊢; exact h
     ·simp only [if_neg c1, if_neg c2] at h ⊢; exact h
   ·simp only [if_pos (mod0 hbit)]
    refine ih (i + 1) b (by omega) ?_
    rw [← hb, blF_miss hbit]
 have key0 : ∀ (d c : Nat) (L : List Int), c + d = 2 ^ js.length → L.length = c → 0 < c → Ev (fun k => spec_l6Values.l0 k js obj L (c : Int)) (iterV js obj 0 L (2 ^ js.length - c)) := by
  intro d
  induction d with
  | zero =>
   intro c L hc hL h0
   refine ev_succ ?_
   simp only [spec_l6Values.l0, shl1 _ (show js.length < 9 by omega), if_neg (show ¬ (c : Int) < ((2 ^ js.length : Nat) : Int) by omega), show 2 ^ js.length - c = 0 by omega]
   exact ev_now _
  | succ d ih =>
   intro c L hc hL h0
   refine ev_succ ?_
   simp only [spec_l6Values.l0, shl1 _ (show js.length < 9 by omega), if_pos (show (c : Int) < ((2 ^ js.length : Nat) : Int) by omega)]
   rw [show 2 ^ js.length - c = (2 ^ js.length - (c + 1)) + 1 by omega]
   exact key1 c L hL (by omega) h0 (ih (c + 1) _ (by omega) (by rw [nextV_len]; omega) (by omega)) js.length 0 (-1) (Nat.zero_add _) rfl
 unfold spec_l6Values.f
 exact key0 (2 ^ js.length - 1) 1 [0] (by omega) rfl (by omega)
theorem setValues_ev (js : List S50) (obj base : Int) (hn : js.length ≤ 8) (ho : obj = 2 ∨ obj = 3 ∨ obj = 5 ∨ obj = 6 ∨ obj = 7 ∨ obj = 8) : Ev (fun k => impl_setValues.f k js obj base) (iterV js obj base [0] (2 ^ js.length - 1)) := by
 have h8 := pow8 _ hn
 have hpos : 0 < 2 ^ js.length := Nat.two_pow_pos _
 have key1 : ∀ (c : Nat) (L R : List Int) (e : Int), L.length = c → c + 1 + R.length = 2 ^ js.length → 0 < c → allI L → (∀ b : Int, b = bestF js obj L c e (-1) (blF c 0 js.length) → Ev (fun k => impl_setValues.l0 k js obj base (L ++ b :: R) ((c + 1 : Nat) : Int)) (iterV js obj base (L ++ [b]) (2 ^ js.length - (c + 1)))) →
   ∀ (d p : Nat) (b : Int), p + d = (blF c 0 js.length).length → bestF js obj L c e b ((blF c 0 js.length).drop p) = bestF js obj L c e (-1) (blF c 0 js.length) →
   Ev (fun k => impl_setValues.l1 k js obj base (L ++ b :: R) (c : Int) e (blF c 0 js.length) ((blF c 0 js.length).length : Int) (p : Int)) (iterV js obj base (L ++ [bestF js obj L c e (-1) (blF c 0 js.length)]) (2 ^ js.length - (c + 1))) := by
  intro c L R e hL hc h0 hI hnext d
  have hbl := blF_len c js.length 0
  induction d with
  | zero =>
   intro p b hp hb
   refine ev_succ ?_
   rw [List.drop_of_length_le (by omega)] at hb
   have hb' : b = bestF js obj L c e (-1) (blF c 0 js.length) := hb
   simp only [impl_setValues.l1, if_neg (show ¬ (p : Int) < ((blF c 0 js.length).length : Int) by omega), wsucc c (by omega)]
   rw [← hb']
   exact hnext b hb'
  | succ d ih =>
   intro p b hp hb
   refine ev_succ ?_
   have hx : p < (blF c 0 js.length).length := by omega
   obtain ⟨i, hi, _, hij, hbit⟩ := blF_mem c _ _ _ (List.getElem_mem hx)
   have hle := bit_le c i hbit
   have hp2 := Nat.two_pow_pos i
   have hlen : (L ++ b :: R).length = 2 ^ js.length := by rw [List.length_append, List.length_cons]; omega
   rw [List.drop_eq_getElem_cons hx, hi] at hb
   have hadd := add_eq (rd L ((c - 2 ^ i : Nat) : Int)) (rd_T50 js (i : Int)) e obj (allI_rd hI _) ho
   have hs : wrap64 (rd L ((c - 2 ^ i : Nat) : Int) + costF (rd_T50 js (i : Int)) e obj) = lastF js obj L c e (i : Int) := by unfold lastF; rw [Int.toNat_natCast]
   rw [hs] at hadd
   have h := ih (p + 1) (stepB b (lastF js obj L c e (i : Int))) (by omega) (by rw [← hb]; rfl)
   simp only [impl_setValues.l1, if_pos (show (p : Int) < ((blF c 0 js.length).length : Int) by omega), if_pos (show (0 : Int) ≤ (p : Int) by omega), rdz _ p hx, hi, if_pos (show (0 : Int) ≤ (i : Int) by omega), shl1 i (by omega), andn c (by omega) i (by omega) hbit, if_pos (show (0 : Int) ≤ ((c - 2 ^ i : Nat) : Int) by omega), hlen, if_pos (show ((c - 2 ^ i : Nat) : Int) < ((2 ^ js.length : Nat) : Int) by omega), if_pos (show (i : Int) < (js.length : Int) by omega), rd_left L (b :: R) (c - 2 ^ i) (by omega), hadd, Option.bind_some, if_pos (show (0 : Int) ≤ (c : Int) by omega), if_pos (show (c : Int) < ((2 ^ js.length : Nat) : Int) by omega), rd_mid L R b c hL.symm, Int.toNat_natCast, set_mid L R b _ c hL.symm, wsucc p (by omega)]
   unfold stepB at h
   by_cases c1 : b < 0
   ·simp only [if_pos c1] at h ⊢; exact h
   ·by_cases c2 : lastF js obj L c e (i : Int) < b
    ·simp only [if_neg c1, if_pos c2] at h ⊢; exact h
    ·simp only [if_neg c1, if_neg c2] at h ⊢; exact h
 have key0 : ∀ (d c : Nat) (L R : List Int), c + d = 2 ^ js.length → L.length = c → R.length = d → 0 < c → allI L → Ev (fun k => impl_setValues.l0 k js obj base (L ++ R) (c : Int)) (iterV js obj base L (2 ^ js.length - c)) := by
  intro d
  induction d with
  | zero =>
   intro c L R hc hL hR h0 hI
   refine ev_succ ?_
   rw [List.length_eq_zero_iff.mp hR, List.append_nil]
   simp only [impl_setValues.l0, if_neg (show ¬ (c : Int) < (L.length : Int) by omega), show 2 ^ js.length - c = 0 by omega]
   exact ev_now _
  | succ d ih =>
   intro c L R hc hL hR h0 hI
   refine ev_succ ?_
   match R, hR with
   | x :: R, hR =>
    have hR' : R.length = d := by simpa using hR
    have hlen : (L ++ x :: R).length = 2 ^ js.length := by rw [List.length_append, List.length_cons]; omega
    simp only [impl_setValues.l0, hlen, if_pos (show (c : Int) < ((2 ^ js.length : Nat) : Int) by omega)]
    refine ev_bind (timeOf_ev js c hn (by omega)) ?_
    simp only [if_pos (show (0 : Int) ≤ (c : Int) by omega), Int.toNat_natCast, set_mid L R x (-1) c hL.symm]
    refine ev_bind (listOf_ev c _ hn (by omega)) ?_
    rw [show 2 ^ js.length - c = (2 ^ js.length - (c + 1)) + 1 by omega]
    have hnv : nextV js obj base L = L ++ [bestF js obj L c (wrap64 (base + sumT js 0 (blF c 0 js.length))) (-1) (blF c 0 js.length)] := by unfold nextV; rw [hL]
    unfold iterV
    rw [hnv]
    refine key1 c L R _ hL (by omega) h0 hI (fun b hb => ?_) _ 0 (-1) (Nat.zero_add _) rfl
    have h := ih (c + 1) (L ++ [b]) R (by omega) (by rw [List.length_append, List.length_singleton]; omega) hR' (by omega) (by
     have := nextV_I64 (js := js) (obj := obj) (base := base) hI
     rw [hnv, ← hb] at this
     exact this)
    rw [List.append_assoc] at h
    exact h
 unfold impl_setValues.f
 simp only [shl1 _ (show js.length < 9 by omega), if_pos (show (0 : Int) ≤ ((2 ^ js.length : Nat) : Int) by omega), Int.toNat_natCast, if_pos (show 2 ^ js.length ≤ 35184372088832 by omega)]
 have h := key0 (2 ^ js.length - 1) 1 [0] (List.replicate (2 ^ js.length - 1) 0) (by omega) rfl (by simp) (by omega) (by intro x hx; rw [List.mem_singleton.mp hx]; unfold I64; omega)
 rw [show [(0 : Int)] ++ List.replicate (2 ^ js.length - 1) 0 = List.replicate (2 ^ js.length) 0 by
  rw [show 2 ^ js.length = (2 ^ js.length - 1) + 1 by omega, List.replicate_succ]; simp] at h
 exact h
theorem rdW (o : List Int) (n : Nat) (h : n < o.length) : rd o (n : Int) = o[n] := by
 simp [rd]
 rw [List.getElem?_eq_getElem h]; rfl
theorem blF_hasB' (c : Nat) : ∀ (d i j : Nat), i ≤ j → j < i + d → c / 2 ^ j % 2 = 1 → (j : Int) ∈ blF c i d := by
 intro d
 induction d with
 | zero => intro i j h1 h2; omega
 | succ d ih =>
  intro i j h1 h2 hb
  unfold blF
  by_cases e : i = j
  ·subst e
   rw [if_pos hb]
   exact List.mem_cons_self
  ·have := ih (i + 1) j (by omega) (by omega) hb
   split
   ·exact List.mem_cons_of_mem _ this
   ·exact this
theorem blF_inj' {c c' n : Nat} (hc : c < 2 ^ n) (hc' : c' < 2 ^ n) (h : blF c 0 n = blF c' 0 n) : c = c' := by
 apply Nat.eq_of_testBit_eq
 intro j
 have key : ∀ a b : Nat, a < 2 ^ n → blF a 0 n = blF b 0 n → a / 2 ^ j % 2 = 1 → b / 2 ^ j % 2 = 1 := by
  intro a b ha he hj
  have hjn : j < n := by
   rcases Nat.lt_or_ge j n with h | h
   ·exact h
   ·have h1 : 2 ^ n ≤ 2 ^ j := Nat.pow_le_pow_right (by omega) h
    rw [Nat.div_eq_of_lt (by omega)] at hj; omega
  have hm := blF_hasB' a n 0 j (by omega) (by omega) hj
  rw [he] at hm
  obtain ⟨q, hq, _, _, hb⟩ := blF_mem b n 0 _ hm
  have : j = q := by omega
  rw [this]
  exact hb
 rw [Nat.testBit_eq_decide_div_mod_eq, Nat.testBit_eq_decide_div_mod_eq]
 exact decide_eq_decide.2 ⟨key c c' hc h, key c' c hc' h.symm⟩
def sumW (tm : Int → Int) : List Int → Int
 | [] => 0
 | i :: L => tm i + sumW tm L
def tardO (tm du : Int → Int) : Int → List Int → Int
 | _, [] => 0
 | b, i :: s => max (b + tm i - du i) 0 + tardO tm du (b + tm i) s
structure LeastO (tm du : Int → Int) (v b : Int) (A : List Int) : Prop where
 le : ∀ p : List Int, p.Perm A → v ≤ tardO tm du b p
 at' : ∃ p : List Int, p.Perm A ∧ v = tardO tm du b p
theorem leastO_unique {tm du : Int → Int} {v u b : Int} {A B : List Int} (h : LeastO tm du v b A) (h' : LeastO tm du u b B) (hp : A.Perm B) : v = u := by
 obtain ⟨p, hpA, hv⟩ := h.at'
 obtain ⟨q, hqB, hu⟩ := h'.at'
 have h1 := h.le q (hqB.trans hp.symm)
 have h2 := h'.le p (hpA.trans hp)
 omega
theorem leastO_nil (tm du : Int → Int) (b : Int) : LeastO tm du 0 b [] := ⟨fun p hp => by rw [hp.eq_nil]; exact Int.le_refl _, [], List.Perm.refl _, rfl⟩
theorem leastO_first {tm du : Int → Int} {v b : Int} {A : List Int} (hA : A ≠ []) (F : Int → Int) (hF : ∀ i ∈ A, LeastO tm du (F i) (b + tm i) (A.erase i))
  (hle : ∀ i ∈ A, v ≤ max (b + tm i - du i) 0 + F i) (hat : ∃ i ∈ A, v = max (b + tm i - du i) 0 + F i) : LeastO tm du v b A := by
 constructor
 ·intro p hp
  cases p with
  | nil => exact absurd hp.symm.eq_nil hA
  | cons i s =>
   have hi : i ∈ A := hp.mem_iff.1 List.mem_cons_self
   have hs : s.Perm (A.erase i) := by
    have := hp.erase i
    rwa [List.erase_cons_head] at this
   have h1 := (hF i hi).le s hs
   have h2 := hle i hi
   simp only [tardO]
   omega
 ·obtain ⟨i, hi, hv⟩ := hat
  obtain ⟨s, hs, he⟩ := (hF i hi).at'
  refine ⟨i :: s, (List.Perm.cons i hs).trans (List.perm_cons_erase hi).symm, ?_⟩
  simp only [tardO]
  omega
theorem tardO_snoc (tm du : Int → Int) (i : Int) : ∀ (p : List Int) (b : Int), tardO tm du b (p ++ [i]) = tardO tm du b p + max (b + sumW tm p + tm i - du i) 0
 | [], b => by simp [tardO, sumW]
 | j :: p, b => by
  simp only [List.cons_append, tardO, sumW]
  rw [tardO_snoc tm du i p (b + tm j), show b + tm j + sumW tm p = b + (tm j + sumW tm p) by omega]
  omega
theorem leastO_last {tm du : Int → Int} {v b : Int} {A : List Int} (hA : A ≠ []) (G : Int → Int) (hG : ∀ i ∈ A, LeastO tm du (G i) b (A.erase i)) (hsum : ∀ i ∈ A, ∀ p : List Int, p.Perm (A.erase i) → sumW tm p + tm i = sumW tm A)
  (hle : ∀ i ∈ A, v ≤ G i + max (b + sumW tm A - du i) 0) (hat : ∃ i ∈ A, v = G i + max (b + sumW tm A - du i) 0) : LeastO tm du v b A := by
 constructor
 ·intro p hp
  rcases List.eq_nil_or_concat p with rfl | ⟨s, i, rfl⟩
  ·exact absurd hp.symm.eq_nil hA
  ·rw [List.concat_eq_append] at hp ⊢
   have hi : i ∈ A := hp.mem_iff.1 (by simp)
   have hs : s.Perm (A.erase i) := by
    have h1 : (i :: s).Perm A := (List.perm_append_singleton i s).symm.trans hp
    have := h1.erase i
    rwa [List.erase_cons_head] at this
   have h1 := (hG i hi).le s hs
   have h2 := hle i hi
   have h3 := hsum i hi s hs
   rw [tardO_snoc, show b + sumW tm s + tm i = b + sumW tm A by omega]
   omega
 ·obtain ⟨i, hi, hv⟩ := hat
  obtain ⟨s, hs, he⟩ := (hG i hi).at'
  have h3 := hsum i hi s hs
  refine ⟨s ++ [i], (List.perm_append_singleton i s).trans ((List.Perm.cons i hs).trans (List.perm_cons_erase hi).symm), ?_⟩
  rw [tardO_snoc, show b + sumW tm s + tm i = b + sumW tm A by omega]
  omega
theorem stepB_keep (F : Int → Int) : ∀ (ls : List Int) (b : Int), 0 ≤ b → (∀ i ∈ ls, 0 ≤ F i) →
  0 ≤ ls.foldl (fun b i => stepB b (F i)) b ∧ ls.foldl (fun b i => stepB b (F i)) b ≤ b ∧ (∀ i ∈ ls, ls.foldl (fun b i => stepB b (F i)) b ≤ F i) ∧ (ls.foldl (fun b i => stepB b (F i)) b = b ∨ ∃ i ∈ ls, ls.foldl (fun b i => stepB b (F i)) b = F i)
 | [], b, h, _ => ⟨h, Int.le_refl _, fun i hi => (by cases hi), Or.inl rfl⟩
 | j :: ls, b, h, hF => by
  have hj := hF j List.mem_cons_self
  have hs : 0 ≤ stepB b (F j) ∧ stepB b (F j) ≤ b ∧ stepB b (F j) ≤ F j ∧ (stepB b (F j) = b ∨ stepB b (F j) = F j) := by
   unfold stepB
   rw [if_neg (by omega)]
   split <;> omega
  obtain ⟨h1, h2, h3, h4⟩ := stepB_keep F ls (stepB b (F j)) hs.1 (fun i hi => hF i (List.mem_cons_of_mem _ hi))
  simp only [List.foldl_cons]
  refine ⟨h1, by omega, fun i hi => ?_, ?_⟩
  ·rcases List.mem_cons.mp hi with rfl | hi
   ·omega
   ·exact h3 i hi
  ·rcases h4 with h4 | ⟨i, hi, h4⟩
   ·rcases hs.2.2.2 with h5 | h5
    ·exact Or.inl (by omega)
    ·exact Or.inr ⟨j, List.mem_cons_self, by omega⟩
   ·exact Or.inr ⟨i, List.mem_cons_of_mem _ hi, h4⟩
theorem stepB_min (F : Int → Int) (ls : List Int) (hl : ls ≠ []) (hF : ∀ i ∈ ls, 0 ≤ F i) :
  0 ≤ ls.foldl (fun b i => stepB b (F i)) (-1) ∧ (∀ i ∈ ls, ls.foldl (fun b i => stepB b (F i)) (-1) ≤ F i) ∧ ∃ i ∈ ls, ls.foldl (fun b i => stepB b (F i)) (-1) = F i := by
 cases ls with
 | nil => exact absurd rfl hl
 | cons j ls =>
  have hj := hF j List.mem_cons_self
  have e : stepB (-1) (F j) = F j := by unfold stepB; rw [if_pos (by omega)]
  simp only [List.foldl_cons, e]
  obtain ⟨h1, h2, h3, h4⟩ := stepB_keep F ls (F j) hj (fun i hi => hF i (List.mem_cons_of_mem _ hi))
  refine ⟨h1, fun i hi => ?_, ?_⟩
  ·rcases List.mem_cons.mp hi with rfl | hi
   ·exact h2
   ·exact h3 i hi
  ·rcases h4 with h4 | ⟨i, hi, h4⟩
   ·exact ⟨j, List.mem_cons_self, h4⟩
   ·exact ⟨i, List.mem_cons_of_mem _ hi, h4⟩
theorem bit_lessB : ∀ c : Nat, c < 256 → ∀ r : Nat, r < 8 → ∀ j : Nat, j < 8 → ((!decide (c / 2 ^ r % 2 = 1)) || (decide ((c - 2 ^ r) / 2 ^ j % 2 = 1) == (decide (c / 2 ^ j % 2 = 1) && decide (j ≠ r)))) = true := by decide +kernel
theorem bit_lessN (c : Nat) (hc : c < 256) (r : Nat) (hr : r < 8) (j : Nat) (hj : j < 8) (h : c / 2 ^ r % 2 = 1) : ((c - 2 ^ r) / 2 ^ j % 2 = 1 ↔ (c / 2 ^ j % 2 = 1 ∧ j ≠ r)) := by
 have := bit_lessB c hc r hr j hj
 rw [decide_eq_true h] at this
 simp only [Bool.not_true, Bool.false_or, beq_iff_eq] at this
 rw [← Bool.decide_and] at this
 exact decide_eq_decide.1 this
theorem bl_less (c : Nat) (hc : c < 256) (r : Nat) (hr : r < 8) (h : c / 2 ^ r % 2 = 1) : ∀ (d i : Nat), i + d ≤ 8 → blF (c - 2 ^ r) i d = (blF c i d).filter (fun x => x != (r : Int)) := by
 intro d
 induction d with
 | zero => intro i _; rfl
 | succ d ih =>
  intro i hi
  have hb := bit_lessN c hc r hr i (by omega) h
  have hh := ih (i + 1) (by omega)
  unfold blF
  by_cases c1 : c / 2 ^ i % 2 = 1
  ·by_cases c2 : i = r
   ·subst c2
    rw [if_neg (fun h1 => (hb.1 h1).2 rfl), if_pos c1, List.filter_cons_of_neg (by simp)]
    exact hh
   ·rw [if_pos (hb.2 ⟨c1, c2⟩), if_pos c1, List.filter_cons_of_pos (by simp; omega), hh]
  ·rw [if_neg (fun h1 => c1 (hb.1 h1).1), if_neg c1]
   exact hh
theorem bl_nodup (c : Nat) : ∀ (d i : Nat), (blF c i d).Nodup := by
 intro d
 induction d with
 | zero => intro i; exact List.Pairwise.nil
 | succ d ih =>
  intro i
  unfold blF
  split
  ·refine List.nodup_cons.mpr ⟨fun h => ?_, ih (i + 1)⟩
   obtain ⟨j, e, h1, _, _⟩ := blF_mem c d (i + 1) _ h
   omega
  ·exact ih (i + 1)
theorem bl_erase (c n : Nat) (hn : n ≤ 8) (hc : c < 256) (r : Nat) (hr : r < 8) (h : c / 2 ^ r % 2 = 1) : blF (c - 2 ^ r) 0 n = (blF c 0 n).erase (r : Int) := by
 rw [(bl_nodup c n 0).erase_eq_filter, bl_less c hc r hr h n 0 (by omega)]
abbrev inJ (n : Nat) (i : Int) : Prop := 0 ≤ i ∧ i < (n : Int)
theorem inJ_nat {n : Nat} {a : Int} (h : inJ n a) : ∃ i : Nat, i < n ∧ a = (i : Int) := ⟨a.toNat, by have := h.1; have := h.2; omega, by have := h.1; omega⟩
theorem rd_nat (l : List S50) {a : Int} (h : inJ l.length a) : rd_T50 l a = l[a.toNat]'(by have := h.1; have := h.2; omega) := by
 obtain ⟨i, hi, rfl⟩ := inJ_nat h
 rw [rdI l i hi]
 rfl
def tmJ (l : List S50) (a : Int) : Int := (rd_T50 l a).f0
def duJ (l : List S50) (a : Int) : Int := (rd_T50 l a).f3
def smallJ (l : List S50) : Prop := ∀ (i : Nat) (hi : i < l.length), 0 ≤ l[i].f0 ∧ l[i].f0 ≤ 50 ∧ 0 ≤ l[i].f3 ∧ l[i].f3 ≤ 1000
theorem small_at {l : List S50} (h : smallJ l) {a : Int} (ha : inJ l.length a) : 0 ≤ tmJ l a ∧ tmJ l a ≤ 50 ∧ 0 ≤ duJ l a ∧ duJ l a ≤ 1000 := by
 unfold tmJ duJ
 rw [rd_nat l ha]
 exact h _ _
theorem sumT_eq (l : List S50) (hs : smallJ l) : ∀ (A : List Int) (ac : Int), (∀ b ∈ A, inJ l.length b) → 0 ≤ ac → ac + 50 * A.length ≤ 1000000 → sumT l ac A = ac + sumW (tmJ l) A
 | [], ac, _, _, _ => by simp [sumT, sumW]
 | i :: A, ac, hA, h0, h1 => by
  have hb := small_at hs (hA i List.mem_cons_self)
  rw [List.length_cons] at h1
  have e : sumT l ac (i :: A) = sumT l (wrap64 (ac + (rd_T50 l i).f0)) A := rfl
  have et : (rd_T50 l i).f0 = tmJ l i := rfl
  rw [e, et, w64 (by omega) (by omega), sumT_eq l hs A _ (fun b hb => hA b (List.mem_cons_of_mem _ hb)) (by omega) (by omega), sumW]
  omega
theorem sumW_perm' (tm : Int → Int) {A B : List Int} (h : A.Perm B) : sumW tm A = sumW tm B := by
 induction h with
 | nil => rfl
 | cons x _ ih => simp only [sumW]; omega
 | swap x y l => simp only [sumW]; omega
 | trans _ _ h1 h2 => omega
theorem sumW_bd (l : List S50) (hs : smallJ l) : ∀ (A : List Int), (∀ b ∈ A, inJ l.length b) → 0 ≤ sumW (tmJ l) A ∧ sumW (tmJ l) A ≤ 50 * A.length
 | [], _ => by simp [sumW]
 | i :: A, hA => by
  have hb := small_at hs (hA i List.mem_cons_self)
  have := sumW_bd l hs A (fun b hb => hA b (List.mem_cons_of_mem _ hb))
  simp only [sumW, List.length_cons]
  omega
def goodV (l : List S50) (base : Int) (c : Nat) (v : Int) : Prop := LeastO (tmJ l) (duJ l) v base (blF c 0 l.length) ∧ 0 ≤ v ∧ v ≤ 10000 * (blF c 0 l.length).length
theorem bl_inJ (l : List S50) (c : Nat) : ∀ b ∈ blF c 0 l.length, inJ l.length b := by
 intro b hb
 obtain ⟨j, rfl, _, h, _⟩ := blF_mem c _ _ b hb
 exact ⟨by omega, by omega⟩
theorem nextV_good (l : List S50) (hs : smallJ l) (hn : l.length ≤ 8) (base : Int) (hb0 : 0 ≤ base) (hb1 : base ≤ 1000) (L : List Int) (c : Nat) (h0 : 0 < c) (hc : c < 2 ^ l.length) (hL : ∀ q, q < c → goodV l base q (rd L (q : Int))) (A : List Int) (hAd : A = blF c 0 l.length) :
  LeastO (tmJ l) (duJ l) (bestF l 5 L c (wrap64 (base + sumT l 0 A)) (-1) A) base A ∧ 0 ≤ bestF l 5 L c (wrap64 (base + sumT l 0 A)) (-1) A ∧ bestF l 5 L c (wrap64 (base + sumT l 0 A)) (-1) A ≤ 10000 * A.length := by
 have h8 := pow8 l.length hn
 have hA : ∀ b ∈ A, inJ l.length b := by rw [hAd]; exact bl_inJ l c
 have hlen : A.length ≤ l.length := by rw [hAd]; exact blF_len c l.length 0
 have hsw := sumW_bd l hs _ hA
 rw [sumT_eq l hs _ 0 hA (by omega) (by omega), Int.zero_add, w64 (by omega) (by omega)]
 have hne : A ≠ [] := by
  intro e
  rw [e] at hAd
  have h00 : blF 0 0 l.length = [] := blF_nil 0 _ 0 (by simp)
  have := blF_inj' hc (Nat.two_pow_pos _) (hAd.symm.trans h00.symm)
  omega
 have hlast : ∀ i ∈ A, ∃ r : Nat, i = (r : Int) ∧ r < l.length ∧ c / 2 ^ r % 2 = 1 ∧ goodV l base (c - 2 ^ r) (rd L ((c - 2 ^ i.toNat : Nat) : Int)) ∧ A.erase i = blF (c - 2 ^ r) 0 l.length ∧
   lastF l 5 L c (base + sumW (tmJ l) A) i = rd L ((c - 2 ^ i.toNat : Nat) : Int) + max (base + sumW (tmJ l) A - duJ l i) 0 := by
  intro i hi
  rw [hAd] at hi
  obtain ⟨r, rfl, _, hr, hbit⟩ := blF_mem c _ _ i hi
  have hle := bit_le c r hbit
  have hp := Nat.two_pow_pos r
  have hg := hL (c - 2 ^ r) (by omega)
  refine ⟨r, rfl, by omega, hbit, by rw [Int.toNat_natCast]; exact hg, by rw [hAd]; exact (bl_erase c l.length hn (by omega) r (by omega) hbit).symm, ?_⟩
  have hl2 := blF_len (c - 2 ^ r) l.length 0
  have hdu := small_at hs (a := (r : Int)) ⟨by omega, by omega⟩
  have hd : (rd_T50 l (r : Int)).f3 = duJ l (r : Int) := rfl
  unfold lastF
  rw [Int.toNat_natCast]
  have e : costF (rd_T50 l (r : Int)) (base + sumW (tmJ l) A) 5 = max (base + sumW (tmJ l) A - duJ l (r : Int)) 0 := by
   unfold costF lateF
   simp only [if_neg (show ¬ ((5 : Int) = 2) by decide), if_neg (show ¬ ((5 : Int) = 3) by decide), if_true, hd]
   rw [w64 (by omega) (by omega)]
   split <;> omega
  rw [e, w64 (by have := hg.2; omega) (by have := hg.2; omega)]
 have hpos : ∀ i ∈ A, 0 ≤ lastF l 5 L c (base + sumW (tmJ l) A) i := by
  intro i hi
  obtain ⟨r, _, _, _, hg, _, e⟩ := hlast i hi
  rw [e]
  have := hg.2.1
  omega
 obtain ⟨m1, m2, ⟨i, hi, m3⟩⟩ := stepB_min (fun i => lastF l 5 L c (base + sumW (tmJ l) A) i) A hne hpos
 refine ⟨leastO_last hne (fun i => rd L ((c - 2 ^ i.toNat : Nat) : Int)) ?_ ?_ ?_ ?_, m1, ?_⟩
 ·intro i hi
  obtain ⟨r, _, _, _, hg, he, _⟩ := hlast i hi
  rw [he]
  exact hg.1
 ·intro i hi p hp
  rw [sumW_perm' _ hp, sumW_perm' (tmJ l) (List.perm_cons_erase hi)]
  simp only [sumW]
  omega
 ·intro i hi
  obtain ⟨r, _, _, _, _, _, e⟩ := hlast i hi
  have := m2 i hi
  rw [e] at this
  exact this
 ·obtain ⟨r, _, _, _, _, _, e⟩ := hlast i hi
  exact ⟨i, hi, by rw [← e]; exact m3⟩
 ·obtain ⟨r, hir, _, _, hg, he, e⟩ := hlast i hi
  have h1 := m3
  simp only [e] at h1
  have h2 := hg.2.2
  rw [← he, List.length_erase_of_mem hi] at h2
  have h3 : 0 < A.length := List.length_pos_of_mem hi
  have hdu := small_at hs (hA i hi)
  unfold bestF
  omega
theorem iterV_good (l : List S50) (hs : smallJ l) (hn : l.length ≤ 8) (base : Int) (hb0 : 0 ≤ base) (hb1 : base ≤ 1000) : ∀ (d : Nat) (L : List Int), 0 < L.length → L.length + d ≤ 2 ^ l.length → (∀ c, c < L.length → goodV l base c (rd L (c : Int))) →
  ∀ c, c < L.length + d → goodV l base c (rd (iterV l 5 base L d) (c : Int))
 | 0, L, _, _, hL, c, hc => hL c (by omega)
 | d + 1, L, h0, hd, hL, c, hc => by
  have hlen := nextV_len l 5 base L
  refine iterV_good l hs hn base hb0 hb1 d (nextV l 5 base L) (by omega) (by omega) (fun q hq => ?_) c (by omega)
  have hg := nextV_good l hs hn base hb0 hb1 L L.length h0 (by omega) hL _ rfl
  by_cases e : q < L.length
  ·have e1 : rd (nextV l 5 base L) (q : Int) = rd L (q : Int) := by
    unfold nextV rd
    rw [Int.toNat_natCast, List.getD_eq_getElem?_getD, List.getD_eq_getElem?_getD, List.getElem?_append_left e]
   rw [e1]
   exact hL q e
  ·obtain rfl : q = L.length := by omega
   have e1 : rd (nextV l 5 base L) (L.length : Int) = bestF l 5 L L.length (wrap64 (base + sumT l 0 (blF L.length 0 l.length))) (-1) (blF L.length 0 l.length) := by
    unfold nextV rd
    rw [Int.toNat_natCast, List.getD_eq_getElem?_getD, List.getElem?_append_right (Nat.le_refl _), Nat.sub_self]
    rfl
   rw [e1]
   exact hg
theorem table_good (l : List S50) (hs : smallJ l) (hn : l.length ≤ 8) (base : Int) (hb0 : 0 ≤ base) (hb1 : base ≤ 1000) (c : Nat) (hc : c < 2 ^ l.length) : goodV l base c (rd (iterV l 5 base [0] (2 ^ l.length - 1)) (c : Int)) := by
 have hp := Nat.two_pow_pos l.length
 refine iterV_good l hs hn base hb0 hb1 (2 ^ l.length - 1) [0] (by simp) (by simp; omega) (fun q hq => ?_) c (by simp; omega)
 obtain rfl : q = 0 := by simpa using hq
 have h00 : blF 0 0 l.length = [] := blF_nil 0 _ 0 (by simp)
 unfold goodV
 rw [h00]
 exact ⟨leastO_nil _ _ _, by decide, by decide⟩
theorem l1Has_ev (ls : List Int) (x : Int) (hn : ls.length ≤ 1048576) : Ev (fun k => spec_l1Has.f k ls x) (decide (x ∈ ls)) := by
 have key : ∀ (d i : Nat), i + d = ls.length → Ev (fun k => spec_l1Has.l0 k ls x (i : Int)) (decide (x ∈ ls.drop i)) := by
  intro d
  induction d with
  | zero =>
   intro i hi
   refine ev_succ ?_
   rw [List.drop_of_length_le (by omega)]
   simp only [spec_l1Has.l0, if_neg (show ¬ (i : Int) < (ls.length : Int) by omega), List.not_mem_nil, decide_false]
   exact ev_now _
  | succ d ih =>
   intro i hi
   refine ev_succ ?_
   have hx : i < ls.length := by omega
   rw [List.drop_eq_getElem_cons hx]
   simp only [spec_l1Has.l0, if_pos (show (i : Int) < (ls.length : Int) by omega), if_pos (show (0 : Int) ≤ (i : Int) by omega), rdz ls i hx, wsucc i (by omega)]
   by_cases c : ls[i] = x
   ·simp only [if_pos c, List.mem_cons, show x = ls[i] from c.symm, true_or, decide_true]; exact ev_now _
   ·simp only [if_neg c, List.mem_cons, show ¬ x = ls[i] from fun e => c e.symm, false_or]; exact ih (i + 1) (by omega)
 have h := key ls.length 0 (Nat.zero_add _)
 rw [List.drop_zero] at h
 unfold spec_l1Has.f
 exact h
theorem l4Rest_ev (A P : List Int) (hA : A.length ≤ 1000) (hP : P.length ≤ 1000) : Ev (fun k => spec_l4Rest.f k A P) (A.filter fun x => !decide (x ∈ P)) := by
 have key : ∀ (d i : Nat) (ac : List Int), i + d = A.length → ac.length ≤ i → Ev (fun k => spec_l4Rest.l0 k A P ac (i : Int)) (ac ++ (A.drop i).filter fun x => !decide (x ∈ P)) := by
  intro d
  induction d with
  | zero =>
   intro i ac hi _
   refine ev_succ ?_
   simp only [spec_l4Rest.l0, if_neg (show ¬ (i : Int) < (A.length : Int) by omega)]
   rw [List.drop_eq_nil_of_le (by omega), List.filter_nil, List.append_nil]
   exact ev_now _
  | succ d ih =>
   intro i ac hi ha
   have hil : i < A.length := by omega
   refine ev_succ ?_
   rw [List.drop_eq_getElem_cons hil]
   simp only [spec_l4Rest.l0, if_pos (show (i : Int) < (A.length : Int) by omega), if_pos (show (0 : Int) ≤ (i : Int) by omega), rdW A i hil, wsucc i (by omega)]
   refine ev_bind (l1Has_ev P A[i] (by omega)) ?_
   by_cases hm : A[i] ∈ P
   ·rw [List.filter_cons_of_neg (by simp [hm])]
    simp only [decide_eq_true hm, if_true]
    exact ih (i + 1) ac (by omega) (by omega)
   ·rw [List.filter_cons_of_pos (by simp [hm])]
    simp only [decide_eq_false hm, Bool.false_eq_true, if_false, if_pos (show ac.length < 17592186044416 by omega)]
    have h := ih (i + 1) (ac ++ [A[i]]) (by omega) (by rw [List.length_append, List.length_singleton]; omega)
    rw [List.append_assoc] at h
    exact h
 unfold spec_l4Rest.f
 exact key A.length 0 [] (by omega) (by simp)
theorem rest_one (A : List Int) (hd : A.Nodup) (x : Int) : (A.filter fun y => !decide (y ∈ [x])) = A.erase x := by
 rw [hd.erase_eq_filter]
 refine List.filter_congr (fun y _ => ?_)
 by_cases h : y = x <;> simp [h]
theorem most_max' (a b : Int) : spec_l1Most.f a b = some (max a b) := by
 unfold spec_l1Most.f
 split
 ·rw [show max a b = a by omega]
 ·rw [show max a b = b by omega]
theorem l6Least_ev (l : List S50) (hs : smallJ l) : ∀ (m : Nat) (A : List Int) (b : Int), A.length = m → A.Nodup → (∀ x ∈ A, inJ l.length x) → m ≤ 8 → 0 ≤ b → b + 50 * m ≤ 1000 →
  ∃ v : Int, Ev (fun k => spec_l6Least.f k l A b) v ∧ LeastO (tmJ l) (duJ l) v b A ∧ 0 ≤ v ∧ v ≤ 10000 * m := by
 intro m
 induction m with
 | zero =>
  intro A b hm _ _ _ _ _
  obtain rfl := List.length_eq_zero_iff.mp hm
  exact ⟨0, ev_succ (by simp only [spec_l6Least.f, List.length_nil, Int.natCast_zero, if_true]; exact ev_now _), leastO_nil _ _ _, by omega, by omega⟩
 | succ m ih =>
  intro A b hm hd hA hm8 hb0 hb1
  have h1 : ∀ i : Int, ∃ v : Int, i ∈ A → (Ev (fun k => spec_l6Least.f k l (A.erase i) (b + tmJ l i)) v ∧ LeastO (tmJ l) (duJ l) v (b + tmJ l i) (A.erase i) ∧ 0 ≤ v ∧ v ≤ 10000 * m) := by
   intro i
   by_cases hi : i ∈ A
   ·have hb := small_at hs (hA i hi)
    obtain ⟨v, hv⟩ := ih (A.erase i) (b + tmJ l i) (by rw [List.length_erase_of_mem hi]; omega) (hd.erase i) (fun x hx => hA x (List.mem_of_mem_erase hx)) (by omega) (by omega) (by omega)
    exact ⟨v, fun _ => hv⟩
   ·exact ⟨0, fun h => absurd h hi⟩
  obtain ⟨F, hF⟩ := Classical.axiomOfChoice h1
  have hne : A ≠ [] := by intro e; rw [e] at hm; simp at hm
  obtain ⟨G, hG⟩ : ∃ G : Int → Int, ∀ i, G i = max (b + tmJ l i - duJ l i) 0 + F i := ⟨_, fun _ => rfl⟩
  have hG0 : ∀ i ∈ A, 0 ≤ G i ∧ G i ≤ 10000 * m + 2000 := by
   intro i hi
   have h2 := (hF i hi).2.2
   have hb := small_at hs (hA i hi)
   rw [hG]
   omega
  obtain ⟨m1, m2, ⟨i0, hi0, m3⟩⟩ := stepB_min G A hne (fun i hi => (hG0 i hi).1)
  have loop : ∀ (d i : Nat) (be : Int), i + d = A.length → Ev (fun k => spec_l6Least.l0 k l A b be (i : Int)) ((A.drop i).foldl (fun b i => stepB b (G i)) be) := by
   intro d
   induction d with
   | zero =>
    intro i be hi
    refine ev_succ ?_
    simp only [spec_l6Least.l0, if_neg (show ¬ (i : Int) < (A.length : Int) by omega)]
    rw [List.drop_eq_nil_of_le (by omega)]
    exact ev_now _
   | succ d ihd =>
    intro i be hi
    have hil : i < A.length := by omega
    have hmem := List.getElem_mem hil
    have hb := small_at hs (hA _ hmem)
    have hin := hA _ hmem
    obtain ⟨e1, _, f0, f1⟩ := hF _ hmem
    have et : (rd_T50 l A[i]).f0 = tmJ l A[i] := rfl
    have ed : (rd_T50 l A[i]).f3 = duJ l A[i] := rfl
    have hone : (A.take (i + 1)).drop i = [A[i]] := by
     rw [List.drop_take, show i + 1 - i = 1 by omega, List.drop_eq_getElem_cons hil]
     rfl
    refine ev_succ ?_
    rw [List.drop_eq_getElem_cons hil, List.foldl_cons]
    simp only [spec_l6Least.l0, if_pos (show (i : Int) < (A.length : Int) by omega), if_pos (show (0 : Int) ≤ (i : Int) by omega), rdW A i hil, if_pos hin.1, if_pos hin.2, et, ed, w64 (x := b + tmJ l A[i]) (by omega) (by omega), w64 (x := b + tmJ l A[i] - duJ l A[i]) (by omega) (by omega), most_max', Option.bind_some, wsucc i (by omega), if_pos (show (i : Int) ≤ ((i + 1 : Nat) : Int) by omega), if_pos (show ((i + 1 : Nat) : Int) ≤ (A.length : Int) by omega), Int.toNat_natCast, hone]
    refine ev_bind (l4Rest_ev A [A[i]] (by omega) (by simp)) ?_
    rw [rest_one A hd]
    refine ev_bind e1 ?_
    rw [w64 (x := max (b + tmJ l A[i] - duJ l A[i]) 0 + F A[i]) (by omega) (by omega), ← hG]
    have h := ihd (i + 1) (stepB be (G A[i])) (by omega)
    unfold stepB at h ⊢
    by_cases c1 : be < 0
    ·simp only [if_pos c1] at h ⊢; exact h
    ·by_cases c2 : G A[i] < be
     ·simp only [if_neg c1, if_pos c2] at h ⊢; exact h
     ·simp only [if_neg c1, if_neg c2] at h ⊢; exact h
  refine ⟨A.foldl (fun b i => stepB b (G i)) (-1), ev_succ ?_, leastO_first hne F (fun i hi => (hF i hi).2.1) (fun i hi => by have := m2 i hi; rw [hG] at this; exact this) ⟨i0, hi0, by rw [← hG]; exact m3⟩, m1, by have := (hG0 i0 hi0).2; omega⟩
  simp only [spec_l6Least.f, if_neg (show ¬ (A.length : Int) = 0 by omega)]
  exact loop A.length 0 (-1) (by omega)
def posW (lt : Int → Int → Bool) (i : Int) (o : List Int) : Nat := o.findIdx (fun b => lt i b)
def insW (lt : Int → Int → Bool) (i : Int) (o : List Int) : List Int := o.take (posW lt i o) ++ i :: o.drop (posW lt i o)
def sortW (lt : Int → Int → Bool) : List Int → List Int → List Int
 | [], o => o
 | i :: t, o => sortW lt t (insW lt i o)
structure OrdW (lt : Int → Int → Bool) (D : Int → Prop) : Prop where
 asym : ∀ a b, D a → D b → lt a b = true → lt b a = false
 co : ∀ i a b, D i → D a → D b → lt i a = true → lt b a = false → lt i b = true
abbrev SortedW (lt : Int → Int → Bool) (o : List Int) : Prop := o.Pairwise (fun a b => lt b a = false)
theorem posW_le (lt : Int → Int → Bool) (i : Int) (o : List Int) : posW lt i o ≤ o.length := List.findIdx_le_length
theorem posW_before {lt : Int → Int → Bool} {i : Int} {o : List Int} {j : Nat} (h : j < posW lt i o) : lt i (o[j]'(Nat.lt_of_lt_of_le h (posW_le _ _ _))) = false := by
 have := List.not_of_lt_findIdx (p := fun b => lt i b) h
 simpa using this
theorem posW_at {lt : Int → Int → Bool} {i : Int} {o : List Int} (h : posW lt i o < o.length) : lt i (o[posW lt i o]'h) = true := List.findIdx_getElem (w := h)
theorem posW_behind {lt : Int → Int → Bool} {D : Int → Prop} (H : OrdW lt D) {i : Int} {o : List Int} (hi : D i) (ho : ∀ b ∈ o, D b) (hs : SortedW lt o) {j : Nat} (hj : posW lt i o ≤ j) (hl : j < o.length) : lt i (o[j]'hl) = true := by
 have hp : posW lt i o < o.length := by omega
 have h0 := posW_at hp
 rcases Nat.lt_or_ge (posW lt i o) j with h | h
 ·have h1 := List.pairwise_iff_getElem.1 hs _ _ hp hl h
  exact H.co i _ _ hi (ho _ (List.getElem_mem hp)) (ho _ (List.getElem_mem hl)) h0 h1
 ·have : j = posW lt i o := by omega
  subst this
  exact h0
theorem insW_perm (lt : Int → Int → Bool) (i : Int) (o : List Int) : (insW lt i o).Perm (i :: o) := by
 unfold insW
 refine List.perm_middle.trans ?_
 rw [List.take_append_drop]
theorem insW_sorted {lt : Int → Int → Bool} {D : Int → Prop} (H : OrdW lt D) {i : Int} {o : List Int} (hi : D i) (ho : ∀ b ∈ o, D b) (hs : SortedW lt o) : SortedW lt (insW lt i o) := by
 unfold insW SortedW
 rw [List.pairwise_append]
 refine ⟨hs.sublist (List.take_sublist _ _), List.pairwise_cons.2 ⟨?_, hs.sublist (List.drop_sublist _ _)⟩, ?_⟩
 ·intro b hb
  obtain ⟨j, hj, rfl⟩ := List.mem_iff_getElem.1 hb
  rw [List.getElem_drop]
  have hl : posW lt i o + j < o.length := by rw [List.length_drop] at hj; omega
  exact H.asym _ _ hi (ho _ (List.getElem_mem hl)) (posW_behind H hi ho hs (by omega) hl)
 ·intro a ha b hb
  obtain ⟨j, hj, rfl⟩ := List.mem_iff_getElem.1 ha
  have hjp : j < posW lt i o := by rw [List.length_take] at hj; omega
  rw [List.getElem_take]
  rcases List.mem_cons.1 hb with rfl | hb
  ·exact posW_before hjp
  ·obtain ⟨q, hq, rfl⟩ := List.mem_iff_getElem.1 hb
   have hl : posW lt i o + q < o.length := by rw [List.length_drop] at hq; omega
   rw [List.getElem_drop]
   exact List.pairwise_iff_getElem.1 hs _ _ _ hl (by omega)
theorem sortW_perm (lt : Int → Int → Bool) : ∀ (l o : List Int), (sortW lt l o).Perm (l ++ o)
 | [], o => by unfold sortW; exact List.Perm.refl _
 | i :: t, o => by
  unfold sortW
  refine (sortW_perm lt t _).trans ?_
  refine ((List.Perm.append_left t (insW_perm lt i o))).trans ?_
  exact List.perm_middle
theorem sortW_sorted {lt : Int → Int → Bool} {D : Int → Prop} (H : OrdW lt D) : ∀ (l o : List Int), (∀ b ∈ l, D b) → (∀ b ∈ o, D b) → SortedW lt o → SortedW lt (sortW lt l o)
 | [], o, _, _, hs => by unfold sortW; exact hs
 | i :: t, o, hl, ho, hs => by
  unfold sortW
  refine sortW_sorted H t _ (fun b hb => hl b (by simp [hb])) ?_ (insW_sorted H (hl i (by simp)) ho hs)
  intro b hb
  rcases List.mem_cons.1 ((insW_perm lt i o).mem_iff.1 hb) with rfl | h
  ·exact hl _ (by simp)
  ·exact ho b h
theorem sortedW_unique {lt : Int → Int → Bool} {a b : List Int} (hd : ∀ x ∈ a, ∀ y ∈ b, lt x y = false → lt y x = false → x = y) (ha : SortedW lt a) (hb : SortedW lt b) (hp : a.Perm b) : a = b :=
 List.Perm.eq_of_pairwise (fun x y hx hy h1 h2 => hd x hx y hy h2 h1) ha hb hp
theorem sortW_append (lt : Int → Int → Bool) : ∀ (a b o : List Int), sortW lt (a ++ b) o = sortW lt b (sortW lt a o)
 | [], b, o => rfl
 | i :: t, b, o => by simp only [List.cons_append, sortW]; exact sortW_append lt t b _
def idsW (n : Nat) : List Int := (List.range n).map (fun (i : Nat) => (i : Int))
theorem idsW_len (n : Nat) : (idsW n).length = n := by simp [idsW]
theorem idsW_mem {n : Nat} {b : Int} (h : b ∈ idsW n) : 0 ≤ b ∧ b < (n : Int) := by
 unfold idsW at h
 obtain ⟨i, hi, rfl⟩ := List.mem_map.1 h
 have := List.mem_range.1 hi
 omega
theorem idsW_succ (n : Nat) : idsW (n + 1) = idsW n ++ [(n : Int)] := by simp [idsW, List.range_succ]
def ltN (a b : Int) : Bool := decide (a < b)
def ltD (l : List S50) (a b : Int) : Bool := decide ((rd_T50 l a).f3 < (rd_T50 l b).f3) || (decide ((rd_T50 l a).f3 = (rd_T50 l b).f3) && decide ((rd_T50 l a).f0 < (rd_T50 l b).f0))
def ltS (l : List S50) (a b : Int) : Bool := ltD l a b || (decide ((rd_T50 l a).f3 = (rd_T50 l b).f3) && (decide ((rd_T50 l a).f0 = (rd_T50 l b).f0) && decide (a < b)))
theorem ordN (D : Int → Prop) : OrdW ltN D := by
 constructor
 ·intro a b _ _ h; unfold ltN at *; simp only [decide_eq_true_eq, decide_eq_false_iff_not] at *; omega
 ·intro i a b _ _ _ h1 h2; unfold ltN at *; simp only [decide_eq_true_eq, decide_eq_false_iff_not] at *; omega
theorem ordD (l : List S50) (D : Int → Prop) : OrdW (ltD l) D := by
 constructor
 ·intro a b _ _ h
  unfold ltD at *
  generalize (rd_T50 l a).f3 = x, (rd_T50 l b).f3 = y, (rd_T50 l a).f0 = u, (rd_T50 l b).f0 = v at *
  simp only [Bool.or_eq_true, Bool.and_eq_true, Bool.or_eq_false_iff, Bool.and_eq_false_iff, decide_eq_true_eq, decide_eq_false_iff_not] at *
  omega
 ·intro i a b _ _ _ h1 h2
  unfold ltD at *
  generalize (rd_T50 l a).f3 = x, (rd_T50 l b).f3 = y, (rd_T50 l a).f0 = u, (rd_T50 l b).f0 = v, (rd_T50 l i).f3 = p, (rd_T50 l i).f0 = q at *
  simp only [Bool.or_eq_true, Bool.and_eq_true, Bool.or_eq_false_iff, Bool.and_eq_false_iff, decide_eq_true_eq, decide_eq_false_iff_not] at *
  omega
theorem ordS (l : List S50) (D : Int → Prop) : OrdW (ltS l) D := by
 constructor
 ·intro a b _ _ h
  unfold ltS ltD at *
  generalize (rd_T50 l a).f3 = x, (rd_T50 l b).f3 = y, (rd_T50 l a).f0 = u, (rd_T50 l b).f0 = v at *
  simp only [Bool.or_eq_true, Bool.and_eq_true, Bool.or_eq_false_iff, Bool.and_eq_false_iff, decide_eq_true_eq, decide_eq_false_iff_not] at *
  omega
 ·intro i a b _ _ _ h1 h2
  unfold ltS ltD at *
  generalize (rd_T50 l a).f3 = x, (rd_T50 l b).f3 = y, (rd_T50 l a).f0 = u, (rd_T50 l b).f0 = v, (rd_T50 l i).f3 = p, (rd_T50 l i).f0 = q at *
  simp only [Bool.or_eq_true, Bool.and_eq_true, Bool.or_eq_false_iff, Bool.and_eq_false_iff, decide_eq_true_eq, decide_eq_false_iff_not] at *
  omega
theorem ltS_total (l : List S50) (a b : Int) (h1 : ltS l a b = false) (h2 : ltS l b a = false) : a = b := by
 unfold ltS ltD at *
 generalize (rd_T50 l a).f3 = x, (rd_T50 l b).f3 = y, (rd_T50 l a).f0 = u, (rd_T50 l b).f0 = v at *
 simp only [Bool.or_eq_false_iff, Bool.and_eq_false_iff, decide_eq_false_iff_not] at *
 omega
theorem ltS_not (l : List S50) {a b : Int} (h : a ≠ b) : (!ltS l a b) = ltS l b a := by
 cases h1 : ltS l a b with
 | true => exact ((ordS l (fun _ => True)).asym a b trivial trivial h1).symm
 | false =>
  cases h2 : ltS l b a with
  | true => rfl
  | false => exact absurd (ltS_total l a b h1 h2) h
theorem posW_congr {lt lt' : Int → Int → Bool} {i : Int} : ∀ {o : List Int}, (∀ b ∈ o, lt i b = lt' i b) → posW lt i o = posW lt' i o := by
 intro o
 unfold posW
 induction o with
 | nil => intro _; rfl
 | cons x o ih =>
  intro h
  rw [List.findIdx_cons, List.findIdx_cons, h x (by simp), ih (fun b hb => h b (by simp [hb]))]
theorem sortDS (l : List S50) : ∀ (t o : List Int), (∀ b ∈ o, ∀ i ∈ t, b ≤ i) → t.Pairwise (fun a b => a ≤ b) → sortW (ltD l) t o = sortW (ltS l) t o
 | [], o, _, _ => rfl
 | i :: t, o, h, hs => by
  have e : insW (ltD l) i o = insW (ltS l) i o := by
   unfold insW
   rw [posW_congr (lt := ltD l) (lt' := ltS l) (fun b hb => by
    have := h b hb i (by simp)
    unfold ltS
    rw [decide_eq_false (show ¬ i < b by omega), Bool.and_false, Bool.and_false, Bool.or_false])]
  unfold sortW
  rw [e]
  rw [List.pairwise_cons] at hs
  refine sortDS l t _ ?_ hs.2
  intro b hb j hj
  rcases List.mem_cons.1 ((insW_perm _ i o).mem_iff.1 hb) with rfl | hb
  ·exact hs.1 j hj
  ·exact h b hb j (by simp [hj])
def ascW (L : List Int) : List Int := sortW ltN L []
theorem ascW_perm (L : List Int) : (ascW L).Perm L := by
 have := sortW_perm ltN L []
 rw [List.append_nil] at this
 exact this
theorem ascW_sorted (L : List Int) : (ascW L).Pairwise (fun a b => a ≤ b) := by
 have := sortW_sorted (ordN (fun _ => True)) L [] (fun _ _ => trivial) (by simp) List.Pairwise.nil
 exact this.imp (fun h => by unfold ltN at h; have := of_decide_eq_false h; omega)
def dueL (l : List S50) (L : List Int) : List Int := sortW (ltS l) L []
theorem dueL_perm (l : List S50) (L : List Int) : (dueL l L).Perm L := by
 have := sortW_perm (ltS l) L []
 rw [List.append_nil] at this
 exact this
theorem dueL_sorted (l : List S50) (L : List Int) : SortedW (ltS l) (dueL l L) := sortW_sorted (ordS l (fun _ => True)) L [] (fun _ _ => trivial) (by simp) List.Pairwise.nil
theorem dueL_congr (l : List S50) {L M : List Int} (h : L.Perm M) : dueL l L = dueL l M :=
 sortedW_unique (fun x _ y _ h1 h2 => ltS_total l x y h1 h2) (dueL_sorted l L) (dueL_sorted l M) ((dueL_perm l L).trans (h.trans (dueL_perm l M).symm))
theorem l1Put_l0 (out : List Int) (x : Int) (hlen : out.length ≤ 1000) (hx : x ∉ out) : ∀ (d k : Nat), k + d = posW ltN x out → Ev (fun K => spec_l1Put.l0 K out x (k : Int)) (insW ltN x out) := by
 have hp := posW_le ltN x out
 intro d
 induction d with
 | zero =>
  intro k hk
  have hk' : k = posW ltN x out := by omega
  have fin : (out.take ((k : Nat) : Int).toNat ++ [x]) ++ out.drop ((k : Nat) : Int).toNat = insW ltN x out := by subst hk'; simp [insW]
  refine ev_succ ?_
  have c0 : ([] : List Int).length + (out.take ((k : Nat) : Int).toNat).length < 17592186044416 := by simp only [List.length_take, List.length_nil]; omega
  have c1 : ((out.take ((k : Nat) : Int).toNat).length + [x].length < 17592186044416) := by simp only [List.length_take, List.length_singleton]; omega
  have c2 : (((out.take ((k : Nat) : Int).toNat) ++ [x]).length + (out.drop ((k : Nat) : Int).toNat).length < 17592186044416) := by simp only [List.length_append, List.length_take, List.length_drop, List.length_singleton]; omega
  by_cases hkl : k < out.length
  ·have hlt : ltN x (out[k]'hkl) = true := by
    subst hk'
    exact posW_at hkl
   have hs : x < out[k] := of_decide_eq_true hlt
   simp only [spec_l1Put.l0, if_pos (show ((k : Nat) : Int) < (out.length : Int) by omega), if_pos (show (0 : Int) ≤ ((k : Nat) : Int) by omega), rdW out k hkl, if_neg (show ¬ out[k] < x by omega), if_neg (show ¬ out[k] = x by omega), Option.bind_some, if_pos c0, List.nil_append, if_pos c1, if_pos c2, if_pos (show ((k : Nat) : Int) ≤ (out.length : Int) by omega), fin]
   exact ev_now _
  ·simp only [spec_l1Put.l0, if_neg (show ¬ ((k : Nat) : Int) < (out.length : Int) by omega), if_pos (show (0 : Int) ≤ ((k : Nat) : Int) by omega), if_pos (show ((k : Nat) : Int) ≤ (out.length : Int) by omega), Option.bind_some, if_pos c0, List.nil_append, if_pos c1, if_pos c2, fin]
   exact ev_now _
 | succ d ih =>
  intro k hk
  refine ev_succ ?_
  have hkl : k < out.length := by omega
  have hlt : ltN x out[k] = false := posW_before (by omega)
  have hs : ¬ x < out[k] := of_decide_eq_false hlt
  have hne : out[k] ≠ x := fun h => hx (h ▸ List.getElem_mem hkl)
  simp only [spec_l1Put.l0, if_pos (show ((k : Nat) : Int) < (out.length : Int) by omega), if_pos (show (0 : Int) ≤ ((k : Nat) : Int) by omega), rdW out k hkl, if_pos (show out[k] < x by omega), w64 (x := ((k : Nat) : Int) + 1) (by omega) (by omega)]
  exact ih (k + 1) (by omega)
theorem l1Put_ev (out : List Int) (x : Int) (hlen : out.length ≤ 1000) (hx : x ∉ out) : Ev (fun k => spec_l1Put.f k out x) (insW ltN x out) :=
 l1Put_l0 out x hlen hx (posW ltN x out) 0 (by omega)
theorem l6Ascending_ev (A : List Int) (hA : A.length ≤ 100) (hd : A.Nodup) : Ev (fun k => spec_l6Ascending.f k A) (sortW ltN A []) := by
 have key : ∀ (d i : Nat) (out : List Int), i + d = A.length → out.length ≤ i → (∀ x ∈ A.drop i, x ∉ out) → Ev (fun k => spec_l6Ascending.l0 k A out (i : Int)) (sortW ltN (A.drop i) out) := by
  intro d
  induction d with
  | zero =>
   intro i out hi _ _
   refine ev_succ ?_
   simp only [spec_l6Ascending.l0, if_neg (show ¬ (i : Int) < (A.length : Int) by omega)]
   rw [List.drop_eq_nil_of_le (by omega)]
   exact ev_now _
  | succ d ih =>
   intro i out hi ho hx
   have hil : i < A.length := by omega
   have hnd : (A.drop i).Nodup := hd.sublist (List.drop_sublist _ _)
   rw [List.drop_eq_getElem_cons hil] at hx hnd ⊢
   refine ev_succ ?_
   simp only [spec_l6Ascending.l0, if_pos (show (i : Int) < (A.length : Int) by omega), if_pos (show (0 : Int) ≤ (i : Int) by omega), rdW A i hil, wsucc i (by omega)]
   refine ev_bind (l1Put_ev out A[i] (by omega) (hx _ List.mem_cons_self)) ?_
   have hp := insW_perm ltN A[i] out
   refine ih (i + 1) _ (by omega) (by rw [hp.length_eq, List.length_cons]; omega) (fun x hxm hm => ?_)
   rcases List.mem_cons.mp (hp.mem_iff.1 hm) with e | e
   ·exact (List.nodup_cons.mp hnd).1 (e ▸ hxm)
   ·exact hx x (List.mem_cons_of_mem _ hxm) e
 unfold spec_l6Ascending.f
 exact key A.length 0 [] (by omega) (by simp) (fun x _ h => by cases h)
theorem orB : ∀ c : Nat, c < 256 → ∀ r : Nat, r < 8 → (decide (c / 2 ^ r % 2 = 1) || (decide (Go.bits .or .i64 (c : Int) ((2 ^ r : Nat) : Int) = ((c + 2 ^ r : Nat) : Int)) && (decide ((c + 2 ^ r) / 2 ^ r % 2 = 1) && decide (c + 2 ^ r < 256)))) = true := by decide +kernel
theorem or_lt0 : ∀ n : Nat, n < 9 → ∀ c : Nat, c < 2 ^ n → ∀ r : Nat, r < n → (decide (c / 2 ^ r % 2 = 1) || decide (c + 2 ^ r < 2 ^ n)) = true := by decide +kernel
theorem setOf_ev (n : Nat) (hn : n ≤ 8) (A : List Int) (hA : A.length ≤ 8) (hd : A.Nodup) (hin : ∀ x ∈ A, 0 ≤ x ∧ x < (n : Int)) : ∃ c : Nat, c < 2 ^ n ∧ Ev (fun k => impl_setOf.f k A) (c : Int) ∧ (blF c 0 n).Perm A := by
 have h8 := pow8 n hn
 have key : ∀ (d i c : Nat), i + d = A.length → c < 2 ^ n → (blF c 0 n).Perm (A.take i) → ∃ c' : Nat, c' < 2 ^ n ∧ Ev (fun k => impl_setOf.l0 k (c : Int) A (A.length : Int) (i : Int)) (c' : Int) ∧ (blF c' 0 n).Perm A := by
  intro d
  induction d with
  | zero =>
   intro i c hi hc hp
   refine ⟨c, hc, ev_succ ?_, by rw [List.take_of_length_le (by omega)] at hp; exact hp⟩
   simp only [impl_setOf.l0, if_neg (show ¬ (i : Int) < (A.length : Int) by omega)]
   exact ev_now _
  | succ d ih =>
   intro i c hi hc hp
   have hil : i < A.length := by omega
   obtain ⟨r, hr⟩ : ∃ r : Nat, A[i] = (r : Int) := ⟨A[i].toNat, by have := hin _ (List.getElem_mem hil); omega⟩
   have hrn := hin _ (List.getElem_mem hil)
   rw [hr] at hrn
   have hnb : ¬ c / 2 ^ r % 2 = 1 := by
    intro hb
    have h1 := hp.mem_iff.1 (blF_hasB' c n 0 r (by omega) (by omega) hb)
    rw [← hr] at h1
    obtain ⟨j, hj, e⟩ := List.mem_iff_getElem.1 h1
    rw [List.length_take] at hj
    rw [List.getElem_take] at e
    have := (List.getElem_inj hd).1 e
    omega
   have ho := orB c (by omega) r (by omega)
   have hl := or_lt0 n (by omega) c hc r (by omega)
   rw [decide_eq_false hnb, Bool.false_or] at ho hl
   simp only [Bool.and_eq_true, decide_eq_true_eq] at ho hl
   obtain ⟨o1, o2, o3⟩ := ho
   have hnext : (blF (c + 2 ^ r) 0 n).Perm (A.take (i + 1)) := by
    have hm := blF_hasB' (c + 2 ^ r) n 0 r (by omega) (by omega) o2
    have he := bl_erase (c + 2 ^ r) n hn o3 r (by omega) o2
    rw [Nat.add_sub_cancel] at he
    refine (List.perm_cons_erase hm).trans ?_
    rw [← he, List.take_succ_eq_append_getElem hil, hr]
    exact (List.Perm.cons _ hp).trans (List.perm_append_singleton _ _).symm
   obtain ⟨c', h1, h2, h3⟩ := ih (i + 1) (c + 2 ^ r) (by omega) hl hnext
   refine ⟨c', h1, ev_succ ?_, h3⟩
   simp only [impl_setOf.l0, if_pos (show (i : Int) < (A.length : Int) by omega), if_pos (show (0 : Int) ≤ (i : Int) by omega), rdW A i hil, hr, if_pos hrn.1, shl1 r (by omega), o1, wsucc i (by omega)]
   exact h2
 unfold impl_setOf.f
 have h00 : blF 0 0 n = [] := blF_nil 0 _ 0 (by simp)
 exact key A.length 0 0 (by omega) (Nat.two_pow_pos n) (by rw [h00]; exact List.Perm.refl _)
theorem numbersTo_l0 (n : Nat) (hn : n ≤ 1048576) : ∀ (d i : Nat), i + d = n → Ev (fun k => impl_numbersTo.l0 k (n : Int) (idsW i) (i : Int)) (idsW n) := by
 intro d
 induction d with
 | zero =>
  intro i hi
  refine ev_succ ?_
  simp only [impl_numbersTo.l0, if_neg (show ¬ ((i : Int) < n) by omega)]
  rw [show i = n by omega]
  exact ev_now _
 | succ d ih =>
  intro i hi
  refine ev_succ ?_
  simp only [impl_numbersTo.l0, if_pos (show (i : Int) < n by omega), if_pos (show (idsW i).length < 17592186044416 by rw [idsW_len]; omega), w64 (x := (i : Int) + 1) (by omega) (by omega)]
  have := ih (i + 1) (by omega)
  rw [idsW_succ] at this
  exact this
theorem numbersTo_ev (n : Nat) (hn : n ≤ 1048576) : Ev (fun k => impl_numbersTo.f k (n : Int)) (idsW n) := numbersTo_l0 n hn n 0 (by omega)
theorem idsW_nodup (n : Nat) : (idsW n).Nodup := by
 unfold idsW List.Nodup
 rw [List.pairwise_map]
 exact List.pairwise_lt_range.imp (fun h => by omega)
theorem all_bit : ∀ n : Nat, n < 9 → ∀ i : Nat, i < n → (2 ^ n - 1) / 2 ^ i % 2 = 1 := by decide +kernel
theorem l4Set_all (n : Nat) (hn : n ≤ 8) : ∀ (d i : Nat), i + d = n → Ev (fun k => spec_l4Set.l0 k (n : Int) ((2 ^ n - 1 : Nat) : Int) (idsW i) (i : Int)) (idsW n) := by
 have h8 := pow8 n hn
 intro d
 induction d with
 | zero =>
  intro i hi
  refine ev_succ ?_
  simp only [spec_l4Set.l0, if_neg (show ¬ ((i : Int) < n) by omega)]
  rw [show i = n by omega]
  exact ev_now _
 | succ d ih =>
  intro i hi
  refine ev_succ ?_
  have hb : (2 ^ n - 1) / 2 ^ i % 2 = 1 := all_bit n (by omega) i (by omega)
  have := ih (i + 1) (by omega)
  rw [idsW_succ] at this
  simp only [spec_l4Set.l0, if_pos (show (i : Int) < n by omega), if_pos (show (0 : Int) ≤ (i : Int) by omega), shr_and (2 ^ n - 1) i (by omega) (by omega), if_pos (mod1 hb), if_pos (show (idsW i).length < 17592186044416 by rw [idsW_len]; omega), w64 (x := (i : Int) + 1) (by omega) (by omega)]
  exact this
theorem l6All_ev (xs : List S50) (hn : xs.length ≤ 8) : Ev (fun k => spec_l6All.f k xs) (idsW xs.length) := by
 unfold spec_l6All.f
 have h8 := pow8 xs.length hn
 have hp : 0 < 2 ^ xs.length := Nat.pow_pos (by omega)
 rw [shl1 xs.length (by omega), w64 (x := ((2 ^ xs.length : Nat) : Int) - 1) (by omega) (by omega), show ((2 ^ xs.length : Nat) : Int) - 1 = ((2 ^ xs.length - 1 : Nat) : Int) by omega]
 refine ev_bind (a := idsW xs.length) ?_ (ev_now _)
 exact l4Set_all xs.length hn xs.length 0 (by omega)
theorem sooner_eq (l : List S50) {a b : Int} (ha : inJ l.length a) (hb : inJ l.length b) : spec_l6Sooner.f l a b = some (ltS l a b) := by
 unfold spec_l6Sooner.f ltS ltD
 simp only [if_pos ha.1, if_pos ha.2, if_pos hb.1, if_pos hb.2]
 by_cases h1 : (rd_T50 l a).f3 = (rd_T50 l b).f3
 ·simp only [if_pos h1, decide_eq_true h1, decide_eq_false (show ¬ (rd_T50 l a).f3 < (rd_T50 l b).f3 by omega), Bool.true_and, Bool.false_or]
  by_cases h2 : (rd_T50 l a).f0 = (rd_T50 l b).f0
  ·simp only [if_pos h2, decide_eq_true h2, decide_eq_false (show ¬ (rd_T50 l a).f0 < (rd_T50 l b).f0 by omega), Bool.true_and, Bool.false_or]
  ·simp only [if_neg h2, decide_eq_false h2, Bool.false_and, Bool.or_false]
 ·simp only [if_neg h1, decide_eq_false h1, Bool.false_and, Bool.or_false]
theorem l6Due_l1 (l : List S50) (L out : List Int) (q : Nat) (hq : q < L.length) (hi : inJ l.length L[q]) (ho : ∀ b ∈ out, inJ l.length b) (hne : ∀ b ∈ out, b ≠ L[q]) (hlen : out.length ≤ 1048576) (hL : L.length ≤ 1048576) (r : List Int)
  (hnext : Ev (fun k => spec_l6Due.l0 k l L (insW (ltS l) L[q] out) (wrap64 ((q : Int) + 1))) r) : ∀ (d k : Nat), k + d = posW (ltS l) L[q] out → Ev (fun K => spec_l6Due.l1 K l L out (q : Int) (k : Int)) r := by
 have fin : ∀ k : Nat, k = posW (ltS l) L[q] out → ((out.take ((k : Nat) : Int).toNat ++ [L[q]]) ++ out.drop ((k : Nat) : Int).toNat) = insW (ltS l) L[q] out := by
  intro k hk
  subst hk
  simp [insW]
 have hp := posW_le (ltS l) L[q] out
 intro d
 induction d with
 | zero =>
  intro k hk
  have hk' : k = posW (ltS l) L[q] out := by omega
  refine ev_succ ?_
  have c0 : ([] : List Int).length + (out.take ((k : Nat) : Int).toNat).length < 17592186044416 := by simp only [List.length_take, List.length_nil]; omega
  have c1 : ((out.take ((k : Nat) : Int).toNat).length + [L[q]].length < 17592186044416) := by simp only [List.length_take, List.length_singleton]; omega
  have c2 : (((out.take ((k : Nat) : Int).toNat) ++ [L[q]]).length + (out.drop ((k : Nat) : Int).toNat).length < 17592186044416) := by simp only [List.length_append, List.length_take, List.length_drop, List.length_singleton]; omega
  by_cases hkl : k < out.length
  ·have hlt : ltS l L[q] (out[k]'hkl) = true := by
    subst hk'
    exact posW_at hkl
   have hm : inJ l.length out[k] := ho _ (List.getElem_mem hkl)
   have hs : ltS l out[k] L[q] = false := (ordS l (fun _ => True)).asym _ _ trivial trivial hlt
   simp only [spec_l6Due.l1, if_pos (show ((k : Nat) : Int) < (out.length : Int) by omega), if_pos (show (0 : Int) ≤ ((k : Nat) : Int) by omega), if_pos (show (0 : Int) ≤ (q : Int) by omega), if_pos (show (q : Int) < (L.length : Int) by omega), rdW out k hkl, rdW L q hq, sooner_eq l hm hi, hs, Option.bind_some, Bool.false_eq_true, if_false, if_pos c0, List.nil_append, if_pos c1, if_pos c2, if_pos (show ((k : Nat) : Int) ≤ (out.length : Int) by omega), fin k hk']
   exact hnext
  ·simp only [spec_l6Due.l1, if_neg (show ¬ ((k : Nat) : Int) < (out.length : Int) by omega), if_pos (show (0 : Int) ≤ ((k : Nat) : Int) by omega), if_pos (show ((k : Nat) : Int) ≤ (out.length : Int) by omega), if_pos (show (0 : Int) ≤ (q : Int) by omega), if_pos (show (q : Int) < (L.length : Int) by omega), rdW L q hq, Option.bind_some, if_pos c0, List.nil_append, if_pos c1, if_pos c2, fin k hk']
   exact hnext
 | succ d ih =>
  intro k hk
  refine ev_succ ?_
  have hkl : k < out.length := by omega
  have hm : inJ l.length out[k] := ho _ (List.getElem_mem hkl)
  have hlt : ltS l L[q] out[k] = false := posW_before (by omega)
  have hs : ltS l out[k] L[q] = true := by
   have := ltS_not l (fun h => hne _ (List.getElem_mem hkl) h.symm)
   rw [hlt] at this
   exact this.symm
  simp only [spec_l6Due.l1, if_pos (show ((k : Nat) : Int) < (out.length : Int) by omega), if_pos (show (0 : Int) ≤ ((k : Nat) : Int) by omega), if_pos (show (0 : Int) ≤ (q : Int) by omega), if_pos (show (q : Int) < (L.length : Int) by omega), rdW out k hkl, rdW L q hq, sooner_eq l hm hi, hs, Option.bind_some, if_true, w64 (x := ((k : Nat) : Int) + 1) (by omega) (by omega)]
  exact ih (k + 1) (by omega)
theorem l6Due_ev (l : List S50) (L : List Int) (hL : ∀ b ∈ L, inJ l.length b) (hd : L.Nodup) (hn : L.length ≤ 1048576) : Ev (fun k => spec_l6Due.f k l L) (dueL l L) := by
 have main : ∀ (d i : Nat), i + d = L.length → Ev (fun k => spec_l6Due.l0 k l L (sortW (ltS l) (L.take i) []) (i : Int)) (dueL l L) := by
  intro d
  induction d with
  | zero =>
   intro i hi
   refine ev_succ ?_
   simp only [spec_l6Due.l0, if_neg (show ¬ ((i : Int) < (L.length : Int)) by omega)]
   rw [List.take_of_length_le (by omega)]
   exact ev_now _
  | succ d ih =>
   intro i hi
   refine ev_succ ?_
   have hil : i < L.length := by omega
   simp only [spec_l6Due.l0, if_pos (show (i : Int) < (L.length : Int) by omega)]
   have hp := sortW_perm (ltS l) (L.take i) []
   rw [List.append_nil] at hp
   refine l6Due_l1 l L _ i hil (hL _ (List.getElem_mem hil)) (fun b hb => hL b (List.mem_of_mem_take (hp.mem_iff.1 hb))) (fun b hb he => ?_) (by rw [hp.length_eq, List.length_take]; omega) hn _ ?_ (posW (ltS l) L[i] (sortW (ltS l) (L.take i) [])) 0 (by omega)
   ·obtain ⟨j, hj, rfl⟩ := List.mem_iff_getElem.1 (hp.mem_iff.1 hb)
    rw [List.length_take] at hj
    rw [List.getElem_take] at he
    have := (List.getElem_inj hd).1 he
    omega
   ·have := ih (i + 1) (by omega)
    rw [List.take_succ_eq_append_getElem hil, sortW_append] at this
    rw [w64 (x := (i : Int) + 1) (by omega) (by omega)]
    exact this
 exact main L.length 0 (by omega)
theorem sbK_pos {p : Int → Option Bool} {f : Int → Bool} {o : List Int} {t : Nat} (hp : ∀ b ∈ o, p b = some (f b)) (ht : t ≤ o.length) (h1 : ∀ j (hj : j < o.length), t ≤ j → f o[j] = true) (h2 : ∀ j (hj : j < o.length), j < t → f o[j] = false) :
  ∀ n, n ≤ o.length → t ≤ n → sbK p o n = some t
 | 0, _, h => by
  have : t = 0 := by omega
  subst this
  rfl
 | n + 1, hn, h => by
  unfold sbK
  rw [rdW o n (by omega), hp _ (List.getElem_mem (by omega)), Option.bind_some]
  rcases Nat.lt_or_ge n t with hlt | hge
  ·rw [h2 n (by omega) hlt, if_neg (by simp)]
   congr 1; omega
  ·rw [h1 n (by omega) hge, if_pos rfl]
   exact sbK_pos hp ht h1 h2 n (by omega) hge
theorem sbL_eq {p : Int → Int → Option Bool} {lt : Int → Int → Bool} {D : Int → Prop} (H : OrdW lt D) (hp : ∀ a b, D a → D b → p a b = some (lt a b)) : ∀ (l o : List Int), (∀ b ∈ l, D b) → (∀ b ∈ o, D b) → SortedW lt o → sbL p l o = some (sortW lt l o)
 | [], o, _, _, _ => rfl
 | i :: t, o, hl, ho, hs => by
  have hi : D i := hl i (by simp)
  unfold sbL sortW
  rw [sbK_pos (f := fun b => lt i b) (t := posW lt i o) (fun b hb => hp i b hi (ho b hb)) (posW_le _ _ _) (fun j hj h => posW_behind H hi ho hs h hj) (fun j hj h => posW_before h) _ (Nat.le_refl _) (posW_le _ _ _), Option.bind_some]
  refine sbL_eq H hp t _ (fun b hb => hl b (by simp [hb])) ?_ (insW_sorted H hi ho hs)
  intro b hb
  rcases List.mem_cons.1 ((insW_perm lt i o).mem_iff.1 hb) with rfl | h
  ·exact hi
  ·exact ho b h
theorem ascending_eq (L : List Int) (h : L.length < 17592186044416) : impl_ascending.f L = some (ascW L) := by
 unfold impl_ascending.f
 simp only [impl_sortedBy_94.f, if_pos h]
 rw [sbL_eq (p := fun a b => impl_ascending_1.f a b) (lt := ltN) (ordN (fun _ => True)) (fun a b _ _ => rfl) _ _ (fun _ _ => trivial) (by simp) List.Pairwise.nil]
 rfl
theorem closureD (l : List S50) {a b : Int} (ha : inJ l.length a) (hb : inJ l.length b) : impl_inDueOrder_1.f a b l = some (ltD l a b) := by
 unfold impl_inDueOrder_1.f ltD
 simp only [if_pos ha.1, if_pos ha.2, if_pos hb.1, if_pos hb.2]
 by_cases h1 : (rd_T50 l a).f3 < (rd_T50 l b).f3
 ·simp only [if_pos h1, decide_eq_true h1, Bool.true_or]
 ·simp only [if_neg h1, decide_eq_false h1, Bool.false_or]
  by_cases h2 : (rd_T50 l a).f3 = (rd_T50 l b).f3
  ·simp only [if_pos h2, decide_eq_true h2, Bool.true_and]
  ·simp only [if_neg h2, decide_eq_false h2, Bool.false_and]
theorem inDueOrder_eq (l : List S50) (L : List Int) (hL : ∀ b ∈ L, inJ l.length b) (hn : L.length < 17592186044416) : impl_inDueOrder.f l L = some (dueL l L) := by
 unfold impl_inDueOrder.f
 rw [ascending_eq L hn, Option.bind_some]
 have hp := ascW_perm L
 simp only [impl_sortedBy_78.f, if_pos (show (ascW L).length < 17592186044416 by rw [hp.length_eq]; exact hn)]
 rw [sbL_eq (ordD l (inJ l.length)) (fun a b ha hb => closureD l ha hb) _ _ (fun b hb => hL b (hp.mem_iff.1 hb)) (by simp) List.Pairwise.nil, Option.bind_some,
  sortDS l _ _ (by simp) (ascW_sorted L)]
 congr 1
 exact dueL_congr l hp
theorem good_small {l : List S50} (hg : goodB l = true) : smallJ l := by
 intro i hi
 have := good_at hg i hi
 omega
def longF (l : List S50) (b : Int) (L : List Int) : Int := L.foldl (fun b i => if tmJ l i ≥ tmJ l b then i else b) b
theorem longF_mem (l : List S50) : ∀ (L : List Int) (b : Int), longF l b L = b ∨ longF l b L ∈ L
 | [], b => Or.inl rfl
 | i :: L, b => by
  have e : longF l b (i :: L) = longF l (if tmJ l i ≥ tmJ l b then i else b) L := rfl
  rw [e]
  rcases longF_mem l L (if tmJ l i ≥ tmJ l b then i else b) with h | h
  ·rw [h]
   split
   ·exact Or.inr List.mem_cons_self
   ·exact Or.inl rfl
  ·exact Or.inr (List.mem_cons_of_mem _ h)
theorem sp_long (l : List S50) (O : List Int) (hO : ∀ b ∈ O, inJ l.length b) (hn : O.length ≤ 1000) (a : Int) (r : Int × List Int × Bool) : ∀ (d p : Nat) (b : Int), p + d = O.length → inJ l.length b →
  Ev (fun k => (impl_setValues.f k l 5 0).bind fun t405 => (impl_SplitPlaces.l1 k l (longF l b (O.drop p)) (wrap64 ((shl .i64 1 (l.length : Int)) - 1)) t405 ([] : List Int) O (O.length : Int) 0)) r →
  Ev (fun k => impl_SplitPlaces.l0 k l O b O (O.length : Int) (p : Int)) r := by
 intro d
 induction d with
 | zero =>
  intro p b hp hb h
  refine ev_succ ?_
  simp only [impl_SplitPlaces.l0, if_neg (show ¬ (p : Int) < (O.length : Int) by omega)]
  rw [List.drop_of_length_le (by omega)] at h
  exact h
 | succ d ih =>
  intro p b hp hb h
  have hx : p < O.length := by omega
  have hi := hO _ (List.getElem_mem hx)
  rw [List.drop_eq_getElem_cons hx] at h
  have e : longF l b (O[p] :: O.drop (p + 1)) = longF l (if tmJ l O[p] ≥ tmJ l b then O[p] else b) (O.drop (p + 1)) := rfl
  rw [e] at h
  refine ev_succ ?_
  simp only [impl_SplitPlaces.l0, if_pos (show (p : Int) < (O.length : Int) by omega), if_pos (show (0 : Int) ≤ (p : Int) by omega), rdW O p hx, if_pos hi.1, if_pos hi.2, if_pos hb.1, if_pos hb.2, wsucc p (by omega)]
  by_cases c : tmJ l O[p] ≥ tmJ l b
  ·rw [if_pos c] at h
   simp only [if_pos (show (rd_T50 l O[p]).f0 ≥ (rd_T50 l b).f0 from c)]
   exact ih (p + 1) _ (by omega) hi h
  ·rw [if_neg c] at h
   simp only [if_neg (show ¬ (rd_T50 l O[p]).f0 ≥ (rd_T50 l b).f0 from c)]
   exact ih (p + 1) _ (by omega) hb h
theorem l6Longest_ev (l : List S50) (x : Int) (O : List Int) (hO : ∀ b ∈ x :: O, inJ l.length b) (hn : O.length ≤ 1000) : Ev (fun k => spec_l6Longest.f k l (x :: O)) (longF l x (x :: O)) := by
 have e0 : longF l x (x :: O) = longF l x O := by
  have : longF l x (x :: O) = longF l (if tmJ l x ≥ tmJ l x then x else x) O := rfl
  rw [this, if_pos (Int.le_refl _)]
 have key : ∀ (d p : Nat) (b : Int), p + d = O.length → inJ l.length b → Ev (fun k => spec_l6Longest.l0 k l (x :: O) b ((p + 1 : Nat) : Int)) (longF l b (O.drop p)) := by
  intro d
  induction d with
  | zero =>
   intro p b hp hb
   refine ev_succ ?_
   simp only [spec_l6Longest.l0, List.length_cons, if_neg (show ¬ ((p + 1 : Nat) : Int) < ((O.length + 1 : Nat) : Int) by omega)]
   rw [List.drop_of_length_le (by omega)]
   exact ev_now _
  | succ d ih =>
   intro p b hp hb
   have hx : p < O.length := by omega
   have hi := hO _ (List.mem_cons_of_mem _ (List.getElem_mem hx))
   have hr : rd (x :: O) ((p + 1 : Nat) : Int) = O[p] := rdW (x :: O) (p + 1) (by simp; omega)
   rw [List.drop_eq_getElem_cons hx]
   have e : longF l b (O[p] :: O.drop (p + 1)) = longF l (if tmJ l O[p] ≥ tmJ l b then O[p] else b) (O.drop (p + 1)) := rfl
   rw [e]
   refine ev_succ ?_
   simp only [spec_l6Longest.l0, List.length_cons, if_pos (show ((p + 1 : Nat) : Int) < ((O.length + 1 : Nat) : Int) by omega), if_pos (show (0 : Int) ≤ ((p + 1 : Nat) : Int) by omega), hr, if_pos hi.1, if_pos hi.2, if_pos hb.1, if_pos hb.2, wsucc (p + 1) (by omega)]
   by_cases c : tmJ l O[p] ≥ tmJ l b
   ·rw [if_pos c]
    simp only [if_pos (show (rd_T50 l O[p]).f0 ≥ (rd_T50 l b).f0 from c)]
    exact ih (p + 1) _ (by omega) hi
   ·rw [if_neg c]
    simp only [if_neg (show ¬ (rd_T50 l O[p]).f0 ≥ (rd_T50 l b).f0 from c)]
    exact ih (p + 1) _ (by omega) hb
 rw [e0]
 unfold spec_l6Longest.f
 have hr0 : rd (x :: O) 0 = x := rdW (x :: O) 0 (by simp)
 simp only [if_pos (show (0 : Int) < (((x :: O).length : Nat) : Int) by simp), hr0]
 exact key O.length 0 x (by omega) (hO _ List.mem_cons_self)
theorem sp_rest (l : List S50) (O V : List Int) (g a : Int) (hn : O.length ≤ 1000) (r : Int × List Int × Bool) : ∀ (d p : Nat) (ac : List Int), p + d = O.length → ac.length ≤ p →
  Ev (fun k => impl_SplitPlaces.l2 k l g a V (ac ++ (O.drop p).filter fun x => !decide (x ∈ [g])) ([] : List Int) 0) r →
  Ev (fun k => impl_SplitPlaces.l1 k l g a V ac O (O.length : Int) (p : Int)) r := by
 intro d
 induction d with
 | zero =>
  intro p ac hp ha h
  refine ev_succ ?_
  simp only [impl_SplitPlaces.l1, if_neg (show ¬ (p : Int) < (O.length : Int) by omega)]
  rw [List.drop_of_length_le (by omega), List.filter_nil, List.append_nil] at h
  exact h
 | succ d ih =>
  intro p ac hp ha h
  have hx : p < O.length := by omega
  rw [List.drop_eq_getElem_cons hx] at h
  refine ev_succ ?_
  simp only [impl_SplitPlaces.l1, if_pos (show (p : Int) < (O.length : Int) by omega), if_pos (show (0 : Int) ≤ (p : Int) by omega), rdW O p hx, wsucc p (by omega)]
  by_cases c : O[p] = g
  ·rw [List.filter_cons_of_neg (by simp [c])] at h
   simp only [if_pos c]
   exact ih (p + 1) ac (by omega) (by omega) h
  ·rw [List.filter_cons_of_pos (by simp [c])] at h
   simp only [if_neg c, if_pos (show ac.length < 17592186044416 by omega)]
   refine ih (p + 1) (ac ++ [O[p]]) (by omega) (by rw [List.length_append, List.length_singleton]; omega) ?_
   rw [List.append_assoc]
   exact h
theorem l6Split_now (l : List S50) (R : List Int) (g : Int) (q : Nat) (hR : ∀ b ∈ R, inJ l.length b) (hn : R.length ≤ 1000) (hq : q ≤ R.length) (r : Int) : ∀ (d p : Nat) (ac : Int), p + d = q →
  Ev (fun k => spec_l6Split.l0 k l R g (q : Int) (sumT l ac ((R.take q).drop p)) (q : Int)) r →
  Ev (fun k => spec_l6Split.l0 k l R g (q : Int) ac (p : Int)) r := by
 intro d
 induction d with
 | zero =>
  intro p ac hp h
  rw [List.drop_of_length_le (by rw [List.length_take]; omega)] at h
  rw [show p = q by omega]
  exact h
 | succ d ih =>
  intro p ac hp h
  have hx : p < R.length := by omega
  have hi := hR _ (List.getElem_mem hx)
  have hxt : p < (R.take q).length := by rw [List.length_take]; omega
  rw [List.drop_eq_getElem_cons hxt, List.getElem_take] at h
  have e : sumT l ac (R[p] :: (R.take q).drop (p + 1)) = sumT l (wrap64 (ac + (rd_T50 l R[p]).f0)) ((R.take q).drop (p + 1)) := rfl
  rw [e] at h
  refine ev_succ ?_
  simp only [spec_l6Split.l0, if_pos (show (p : Int) < (q : Int) by omega), if_pos (show (0 : Int) ≤ (p : Int) by omega), if_pos (show (p : Int) < (R.length : Int) by omega), rdW R p hx, if_pos hi.1, if_pos hi.2, wsucc p (by omega)]
  exact ih (p + 1) _ (by omega) h
theorem sp_count (l : List S50) (hs : smallJ l) (hn : l.length ≤ 8) (R : List Int) (g : Int) (hg : inJ l.length g) (hR : ∀ b ∈ R, inJ l.length b) (hd : R.Nodup) (hl : R.length ≤ 7) (be : Int) (hb : be = rd (iterV l 5 0 [0] (2 ^ l.length - 1)) ((2 ^ l.length - 1 : Nat) : Int)) (q : Nat) (hq : q ≤ R.length) (ac : List Int) (ha : ac.length ≤ q) :
  ∃ s : Bool, Ev (fun k => (spec_l6Split.f k l R g (q : Int)).bind fun t => some (decide (t = be))) s ∧
   (∀ r, Ev (fun k => impl_SplitPlaces.l2 k l g ((2 ^ l.length - 1 : Nat) : Int) (iterV l 5 0 [0] (2 ^ l.length - 1)) R (if s = true then ac ++ [(q : Int)] else ac) ((q + 1 : Nat) : Int)) r → Ev (fun k => impl_SplitPlaces.l2 k l g ((2 ^ l.length - 1 : Nat) : Int) (iterV l 5 0 [0] (2 ^ l.length - 1)) R ac (q : Int)) r) := by
 have h8 := pow8 _ hn
 have hpos : 0 < 2 ^ l.length := Nat.two_pow_pos _
 have hA : ∀ b ∈ R.take q, inJ l.length b := fun b hb => hR b (List.mem_of_mem_take hb)
 have hB : ∀ b ∈ R.drop q, inJ l.length b := fun b hb => hR b (List.mem_of_mem_drop hb)
 have hAl : (R.take q).length ≤ 7 := by rw [List.length_take]; omega
 have hBl : (R.drop q).length ≤ 7 := by rw [List.length_drop]; omega
 have hAd : (R.take q).Nodup := hd.sublist (List.take_sublist _ _)
 have hBd : (R.drop q).Nodup := hd.sublist (List.drop_sublist _ _)
 obtain ⟨c1, hc1, s1, p1⟩ := setOf_ev l.length hn (R.take q) (by omega) hAd hA
 obtain ⟨c2, hc2, s2, p2⟩ := setOf_ev l.length hn (R.drop q) (by omega) hBd hB
 have hsw := sumW_bd l hs _ hA
 have et : sumT l 0 (R.take q) = sumW (tmJ l) (R.take q) := by rw [sumT_eq l hs _ 0 hA (by omega) (by omega), Int.zero_add]
 have et1 : sumT l 0 (blF c1 0 l.length) = sumW (tmJ l) (R.take q) := by
  have := blF_len c1 l.length 0
  rw [sumT_eq l hs _ 0 (bl_inJ l c1) (by omega) (by omega), Int.zero_add, sumW_perm' _ p1]
 have hgb := small_at hs hg
 obtain ⟨e, he⟩ : ∃ e : Int, e = sumW (tmJ l) (R.take q) + tmJ l g := ⟨_, rfl⟩
 have hew : wrap64 (sumW (tmJ l) (R.take q) + (rd_T50 l g).f0) = e := by
  have e0 : (rd_T50 l g).f0 = tmJ l g := rfl
  rw [e0, w64 (by omega) (by omega), he]
 have g1 := table_good l hs hn 0 (by omega) (by omega) c1 hc1
 have g2 := table_good l hs hn e (by omega) (by omega) c2 hc2
 have lenV : (iterV l 5 0 [0] (2 ^ l.length - 1)).length = 2 ^ l.length := by rw [iterV_len]; simp; omega
 have lenE : (iterV l 5 e [0] (2 ^ l.length - 1)).length = 2 ^ l.length := by rw [iterV_len]; simp; omega
 have sp1 : (sortW ltN (R.take q) []).Perm (R.take q) := by have := sortW_perm ltN (R.take q) []; rwa [List.append_nil] at this
 have sp2 : (sortW ltN (R.drop q) []).Perm (R.drop q) := by have := sortW_perm ltN (R.drop q) []; rwa [List.append_nil] at this
 obtain ⟨v1, w1, m1, _, _⟩ := l6Least_ev l hs (R.take q).length (sortW ltN (R.take q) []) 0 sp1.length_eq (sp1.symm.nodup hAd) (fun x hx => hA x (sp1.mem_iff.1 hx)) (by omega) (by omega) (by omega)
 obtain ⟨v2, w2, m2, _, _⟩ := l6Least_ev l hs (R.drop q).length (sortW ltN (R.drop q) []) e sp2.length_eq (sp2.symm.nodup hBd) (fun x hx => hB x (sp2.mem_iff.1 hx)) (by omega) (by omega) (by omega)
 have u1 : v1 = rd (iterV l 5 0 [0] (2 ^ l.length - 1)) (c1 : Int) := leastO_unique m1 g1.1 (sp1.trans p1.symm)
 have u2 : v2 = rd (iterV l 5 e [0] (2 ^ l.length - 1)) (c2 : Int) := leastO_unique m2 g2.1 (sp2.trans p2.symm)
 obtain ⟨v, hv⟩ : ∃ v : Int, v = wrap64 (wrap64 (v1 + max (wrap64 (e - duJ l g)) 0) + v2) := ⟨_, rfl⟩
 have ed : (rd_T50 l g).f3 = duJ l g := rfl
 have hcost : costF (rd_T50 l g) e 5 = max (wrap64 (e - duJ l g)) 0 := by
  unfold costF lateF
  simp only [if_neg (show ¬ ((5 : Int) = 2) by decide), if_neg (show ¬ ((5 : Int) = 3) by decide), if_true, ed]
  split <;> omega
 have i64 : I64 v1 := by rw [u1]; unfold I64; have := g1.2; have := blF_len c1 l.length 0; omega
 have hadd := add_eq v1 (rd_T50 l g) e 5 i64 (by omega)
 rw [hcost] at hadd
 refine ⟨decide (v = be), ev_bind (a := v) ?_ (ev_now _), fun r hr => ?_⟩
 ·unfold spec_l6Split.f
  refine l6Split_now l R g q hR (by omega) hq v q 0 0 (by omega) ?_
  rw [List.drop_zero, et]
  refine ev_succ ?_
  simp only [spec_l6Split.l0, if_neg (show ¬ (q : Int) < (q : Int) by omega), if_pos hg.1, if_pos hg.2, if_pos (show (0 : Int) ≤ (q : Int) by omega), if_pos (show (q : Int) ≤ (R.length : Int) by omega), Int.toNat_natCast, hew, ed, most_max', Option.bind_some]
  refine ev_bind (l6Ascending_ev (R.take q) (by omega) hAd) ?_
  refine ev_bind w1 ?_
  refine ev_bind (l6Ascending_ev (R.drop q) (by omega) hBd) ?_
  refine ev_bind w2 ?_
  rw [← hv]
  exact ev_now _
 ·refine ev_succ ?_
  simp only [impl_SplitPlaces.l2, if_pos (show (q : Int) ≤ (R.length : Int) by omega), if_pos (show (0 : Int) ≤ (q : Int) by omega), Int.toNat_natCast, if_pos hg.1, if_pos hg.2, wsucc q (by omega), lenV]
  refine ev_bind s1 ?_
  refine ev_bind (timeOf_ev l c1 hn hc1) ?_
  simp only [et1, hew, if_pos (show (0 : Int) ≤ (c1 : Int) by omega), if_pos (show (c1 : Int) < ((2 ^ l.length : Nat) : Int) by omega), ← u1, hadd, Option.bind_some]
  refine ev_bind (setValues_ev l 5 e hn (by omega)) ?_
  refine ev_bind s2 ?_
  simp only [lenE, if_pos (show (0 : Int) ≤ (c2 : Int) by omega), if_pos (show (c2 : Int) < ((2 ^ l.length : Nat) : Int) by omega), if_pos (show (0 : Int) ≤ ((2 ^ l.length - 1 : Nat) : Int) by omega), if_pos (show ((2 ^ l.length - 1 : Nat) : Int) < ((2 ^ l.length : Nat) : Int) by omega), ← u2, ← hb, ← hv]
  by_cases c : v = be
  ·rw [decide_eq_true c, if_pos rfl] at hr
   simp only [if_pos c, if_pos (show ac.length < 17592186044416 by omega)]
   exact hr
  ·rw [decide_eq_false c, if_neg (by simp)] at hr
   simp only [if_neg c]
   exact hr
theorem core (l : List S50) (hm : l.length ≤ 1048576) (_ : ∀ (i : Nat) (hi : i < l.length), I64 l[i].f0 ∧ I64 l[i].f1 ∧ I64 l[i].f2 ∧ I64 l[i].f3) :
  ∃ (r0 : Int) (r1 : List Int) (ok : Bool), r1.length ≤ 1048576 ∧ Ev (fun k => spec_SplitPlaces.f k l) (r0, r1, ok) ∧ Ev (fun k => impl_SplitPlaces.f k l) (r0, r1, ok) := by
 have h1 := l6Good_ev l (by omega)
 have h2 := IsPlain_ev l (by omega)
 unfold spec_SplitPlaces.f impl_SplitPlaces.f
 cases hp : plainB l
 ·rw [hp] at h1 h2
  refine ⟨0, [], false, by simp, ?_, ev_bind h2 ?_⟩
  ·simp only [Option.bind_some]
   refine ev_bind h1 ?_
   simp only [Bool.false_eq_true, if_false]
   refine ev_succ ?_
   simp only [spec_SplitPlaces.j0, if_true]
   exact ev_now _
  ·simp only [Bool.false_eq_true, if_false]
   refine ev_succ ?_
   simp only [impl_SplitPlaces.j0, if_true]
   exact ev_now _
 rw [hp] at h1 h2
 have hgd := plain_good hp
 have hn : l.length ≤ 8 := good_len hgd
 have hs := good_small hgd
 by_cases hz : l.length = 0
 ·have hzb : ((l.length : Int) == 0) = true := by simp [hz]
  refine ⟨0, [], false, by simp, ?_, ev_bind h2 ?_⟩
  ·simp only [Option.bind_some]
   refine ev_bind h1 ?_
   simp only [if_true, hzb]
   refine ev_succ ?_
   simp only [spec_SplitPlaces.j0, if_true]
   exact ev_now _
  ·simp only [if_true, hzb]
   refine ev_succ ?_
   simp only [impl_SplitPlaces.j0, if_true]
   exact ev_now _
 have hzb : ((l.length : Int) == 0) = false := by
  rw [beq_eq_false_iff_ne]
  omega
 have h8 := pow8 _ hn
 have hpos : 0 < 2 ^ l.length := Nat.two_pow_pos _
 have hw : wrap64 (((2 ^ l.length : Nat) : Int) - 1) = ((2 ^ l.length - 1 : Nat) : Int) := by rw [w64 (by omega) (by omega)]; omega
 have lenV : (iterV l 5 0 [0] (2 ^ l.length - 1)).length = 2 ^ l.length := by rw [iterV_len]; simp; omega
 obtain ⟨O, hO⟩ : ∃ O, O = dueL l (idsW l.length) := ⟨_, rfl⟩
 have hperm : O.Perm (idsW l.length) := by rw [hO]; exact dueL_perm l _
 have hlen : O.length = l.length := by rw [hperm.length_eq, idsW_len]
 have hmem : ∀ b ∈ O, inJ l.length b := fun b hb => idsW_mem (hperm.mem_iff.1 hb)
 have hnd : O.Nodup := hperm.symm.nodup (idsW_nodup _)
 obtain ⟨x, T, hxT⟩ : ∃ x T, O = x :: T := by
  cases O with
  | nil => simp at hlen; omega
  | cons x T => exact ⟨x, T, rfl⟩
 obtain ⟨g, hgdef⟩ : ∃ g, g = longF l x O := ⟨_, rfl⟩
 have hgm : g ∈ O := by
  rcases longF_mem l O x with h | h
  ·rw [hgdef, h, hxT]; exact List.mem_cons_self
  ·rw [hgdef]; exact h
 have hgin := hmem g hgm
 obtain ⟨R, hR⟩ : ∃ R, R = O.erase g := ⟨_, rfl⟩
 have hRl : R.length + 1 = l.length := by rw [hR, List.length_erase_of_mem hgm, hlen]; omega
 have hRm : ∀ b ∈ R, inJ l.length b := fun b hb => hmem b (List.mem_of_mem_erase (hR ▸ hb))
 have hRd : R.Nodup := by rw [hR]; exact hnd.erase g
 obtain ⟨be, hb⟩ : ∃ be, be = rd (iterV l 5 0 [0] (2 ^ l.length - 1)) ((2 ^ l.length - 1 : Nat) : Int) := ⟨_, rfl⟩
 have loop : ∀ (d q : Nat) (ac : List Int), q + d = R.length + 1 → ac.length ≤ q →
   ∃ out : List Int, out.length ≤ 1048576 ∧ Ev (fun k => spec_SplitPlaces.l0 k l ac g be R (q : Int)) (g, out, true) ∧ Ev (fun k => impl_SplitPlaces.l2 k l g ((2 ^ l.length - 1 : Nat) : Int) (iterV l 5 0 [0] (2 ^ l.length - 1)) R ac (q : Int)) (g, out, true) := by
  intro d
  induction d with
  | zero =>
   intro q ac hq ha
   refine ⟨ac, by omega, ev_succ ?_, ev_succ ?_⟩
   ·simp only [spec_SplitPlaces.l0, if_neg (show ¬ (q : Int) ≤ (R.length : Int) by omega)]
    exact ev_now _
   ·simp only [impl_SplitPlaces.l2, if_neg (show ¬ (q : Int) ≤ (R.length : Int) by omega)]
    exact ev_now _
  | succ d ih =>
   intro q ac hq ha
   obtain ⟨s, e1, e2⟩ := sp_count l hs hn R g hgin hRm hRd (by omega) be hb q (by omega) ac ha
   obtain ⟨out, o1, o2, o3⟩ := ih (q + 1) (if s = true then ac ++ [(q : Int)] else ac) (by omega) (by split <;> (try rw [List.length_append, List.length_singleton]) <;> omega)
   refine ⟨out, o1, ?_, e2 _ o3⟩
   obtain ⟨K, hK⟩ := e1
   refine ev_succ ?_
   simp only [spec_SplitPlaces.l0, if_pos (show (q : Int) ≤ (R.length : Int) by omega), wsucc q (by omega), if_pos (show ac.length < 17592186044416 by omega)]
   obtain ⟨K2, hK2⟩ := o2
   refine ⟨max K K2, fun k hk => ?_⟩
   have h3 := hK k (by omega)
   have h4 := hK2 k (by omega)
   obtain ⟨t, ht, hts⟩ := Option.bind_eq_some_iff.mp h3
   have hts' := Option.some.inj hts
   simp only [ht, Option.bind_some]
   rw [← h4]
   by_cases c : t = be
   ·rw [decide_eq_true c] at hts'
    rw [← hts', if_pos c, if_pos rfl]
   ·rw [decide_eq_false c] at hts'
    rw [← hts', if_neg c, if_neg (by simp)]
 obtain ⟨out, o1, o2, o3⟩ := loop (R.length + 1) 0 [] (by omega) (by simp)
 have hrest : (O.filter fun x => !decide (x ∈ [g])) = R := by rw [hR]; exact rest_one O hnd g
 refine ⟨g, out, true, o1, ?_, ev_bind h2 ?_⟩
 ·simp only [Option.bind_some]
  refine ev_bind h1 ?_
  simp only [if_true, hzb]
  refine ev_succ ?_
  simp only [spec_SplitPlaces.j0, Bool.false_eq_true, if_false]
  refine ev_bind (l6All_ev l hn) ?_
  refine ev_bind (l6Due_ev l _ (fun b hb => idsW_mem hb) (idsW_nodup _) (by rw [idsW_len]; omega)) ?_
  rw [← hO]
  refine ev_bind (a := g) ?_ ?_
  ·have hTl : O.length = T.length + 1 := by rw [hxT]; rfl
   rw [hgdef, hxT]
   exact l6Longest_ev l x T (by rw [← hxT]; exact hmem) (by omega)
  refine ev_bind (a := be) ?_ ?_
  ·unfold spec_l6Tardiness.f
   refine ev_bind (l6Values_ev l 5 hn) ?_
   simp only [lenV, hw, if_pos (show (0 : Int) ≤ ((2 ^ l.length - 1 : Nat) : Int) by omega), if_pos (show ((2 ^ l.length - 1 : Nat) : Int) < ((2 ^ l.length : Nat) : Int) by omega), ← hb]
   exact ev_now _
  refine ev_bind (l4Rest_ev O [g] (by omega) (by simp)) ?_
  rw [hrest]
  exact o2
 ·simp only [if_true, hzb]
  refine ev_succ ?_
  simp only [impl_SplitPlaces.j0, Bool.false_eq_true, if_false]
  refine ev_bind (numbersTo_ev l.length (by omega)) ?_
  simp only [inDueOrder_eq l (idsW l.length) (fun b hb => idsW_mem hb) (by rw [idsW_len]; omega), Option.bind_some, ← hO, if_pos (show (0 : Int) < (O.length : Int) by omega)]
  have hr0 : rd O 0 = x := by
   have h := rdW O 0 (by omega)
   rw [show ((0 : Nat) : Int) = 0 from rfl] at h
   rw [h]
   simp only [hxT, List.getElem_cons_zero]
  rw [hr0]
  have hxm : x ∈ O := by rw [hxT]; exact List.mem_cons_self
  refine sp_long l O hmem (by omega) 0 _ O.length 0 x (by omega) (hmem x hxm) ?_
  rw [List.drop_zero, ← hgdef]
  refine ev_bind (setValues_ev l 5 0 hn (by omega)) ?_
  rw [shl1 _ (show l.length < 9 by omega), hw]
  refine sp_rest l O _ g _ (by omega) _ O.length 0 [] (by omega) (by simp) ?_
  rw [List.drop_zero, List.nil_append, hrest]
  exact o3
theorem FnExactSplitPlaces : FnExactSplitPlaces.Claim := by
 intro l0 hl0 hg0
 refine Ev.rounds ?_
 unfold laws_FnExactSplitPlaces.f
 simp only [szJobS_eq l0 (1048576 : Int) (by omega) (by omega) hl0, Option.bind_some]
 by_cases h0 : (1048576 : Int) < l0.length
 ·simp only [if_pos h0, if_pos (show (-1 : Int) < 0 by omega)]
  exact ev_now _
 simp only [if_neg h0, if_neg (show ¬ (((1048576 : Int) - l0.length) < 0) by omega)]
 have ht0 := toJobS_ev l0 (by omega)
 have hm0 : (l0.map conv).length ≤ 1048576 := by simp; omega
 have hq0 := eqJobS_ev (l0.map conv) (by omega)
 obtain ⟨r0, r1, r2, hr1, hs, hi⟩ := core (l0.map conv) hm0 (conv_I64 l0 hg0)
 obtain ⟨qa0, ya0, _, hb0, ma0⟩ := markJobS_from1 (l0.map conv) hm0
 have he1 := eqIntS_ev r1 (by omega)
 obtain ⟨q1, y1, hq_1, m1, e1⟩ := markIntS_ev r1 hr1
 repeat first
  | exact ev_now _
  | with_reducible refine ev_bind hs ?_
  | with_reducible refine ev_bind hi ?_
  | with_reducible refine ev_bind ht0 ?_
  | with_reducible refine ev_bind hq0 ?_
  | with_reducible refine ev_bind ma0 ?_
  | with_reducible refine ev_bind he1 ?_
  | with_reducible refine ev_bind m1 ?_
  | with_reducible refine ev_bind e1 ?_
  | simp only [if_true, if_false, bne_self_eq_false, Bool.false_eq_true, if_neg (show ¬ ((qa0 : Int) < 0) by omega), if_neg (show ¬ ((q1 : Int) < 0) by omega)]
  | (refine ev_succ ?_; simp only [laws_FnExactSplitPlaces.j0])
  | (refine ev_succ ?_; simp only [laws_FnExactSplitPlaces.j1])
  | (refine ev_succ ?_; simp only [laws_FnExactSplitPlaces.j2])

end Go.Proofs.Ytlhppclbokkfmaa.Pure
