/- The program's function and the reference's come to the same answer: the statement of numbers and lists behind the law FnExactSetValues. Conditions: none. -/
import Derived.Test.YthhmembnhnghiaaArgFnExactSetValues
import Derived.Test.YthhmembnhnghiaaBase
namespace Go.Proofs.Ythhmembnhnghiaa.Pure
open Go.RowKit Go.Proofs.Ythhmembnhnghiaa.OFnExactSetValues Go.Proofs.Ythhmembnhnghiaa.Base Go.Proofs.YthhmembnhnghiaaW.PrintWords Go.Proofs.YthhmembnhnghiaaW.PrintLast Go.Proofs.YthhmembnhnghiaaW.PrintMore Go.Proofs.Ythhmembnhnghiaa.Open
set_option linter.unusedVariables false
set_option linter.unusedSimpArgs false

def laws_heldJobS.l0 : Nat → List (S59) → Int → Int → Option (Int)
  | 0, _, _, _ => none
  | k + 1, x0, x1, x5 => if x5 < (x0.length : Int) then (if 0 ≤ x5 then (if ((rd_T59 x0 x5).f0) = x1 then (if ((rd_T59 x0 x5).f1) = (wrap64 (x1 + 1)) then (if ((rd_T59 x0 x5).f2) = (wrap64 ((wrap64 (x1 + 1)) + 1)) then (if ((rd_T59 x0 x5).f3) = (wrap64 ((wrap64 ((wrap64 (x1 + 1)) + 1)) + 1)) then (laws_heldJobS.l0 k x0 (wrap64 ((wrap64 ((wrap64 ((wrap64 (x1 + 1)) + 1)) + 1)) + 1)) (wrap64 (x5 + 1))) else (some (-1))) else (some (-1))) else (some (-1))) else (some (-1))) else (none)) else (some x1)
def laws_heldJobS.f (k : Nat) (l0 : List (S59)) (a1 : Int) : Option (Int) := laws_heldJobS.l0 k l0 a1 0

theorem szJobS_eq (xs : List S63) (left : Int) (h0 : 0 ≤ left) (h1 : left ≤ 1048576) (h : xs.length ≤ 9223372036854775807) : laws_szJobS.f xs left = some (if left < xs.length then -1 else left - xs.length) := by
  unfold laws_szJobS.f
  rw [w64 (by omega) (by omega)]
  by_cases c : left < xs.length
  · rw [if_pos (by omega), if_pos c]
  · rw [if_neg (by omega), if_neg c]

def conv (x : S63) : S59 := ⟨x.f0, x.f1, x.f2, x.f3⟩
theorem rdL (xs : List S63) (i : Nat) (h : i < xs.length) : rd_T63 xs (i : Int) = xs[i] := by
  unfold rd_T63
  rw [Int.toNat_natCast, List.getD_eq_getElem?_getD, List.getElem?_eq_getElem h]
  rfl

theorem toJobS_l (xs : List S63) (hn : xs.length ≤ 8796093022208) : ∀ (d i : Nat) (ys : List S59), i + d = xs.length → ys.length = xs.length → ys.take i = (xs.map conv).take i → Ev (fun k => laws_toJobS.l0 k xs ys (i : Int)) (xs.map conv) := by
  intro d
  induction d with
  | zero =>
    intro i ys hi hl ht
    refine ev_succ ?_
    simp only [laws_toJobS.l0, if_neg (show ¬ (i : Int) < (xs.length : Int) by omega)]
    have : ys = xs.map conv := by
      rw [List.take_of_length_le (by omega), List.take_of_length_le (by simp; omega)] at ht
      exact ht
    rw [this]
    exact ev_now _
  | succ d ih =>
    intro i ys hi hl ht
    refine ev_succ ?_
    have hx : i < xs.length := by omega
    simp only [laws_toJobS.l0, laws_toJob.f, Option.bind_some, if_pos (show (i : Int) < (xs.length : Int) by omega), if_pos (show (i : Int) < (ys.length : Int) by omega), if_pos (show (0 : Int) ≤ (i : Int) by omega), rdL xs i hx, wsucc i (by omega), Int.toNat_natCast]
    refine ih (i + 1) _ (by omega) (by rw [List.length_set]; exact hl) ?_
    rw [take_set_succ ys i _ (by omega), ht, List.take_succ_eq_append_getElem (by simp; omega)]
    simp [conv]
theorem toJobS_ev (xs : List S63) (hn : xs.length ≤ 1048576) : Ev (fun k => laws_toJobS.f k xs) (xs.map conv) := by
  unfold laws_toJobS.f
  simp only [if_pos (show (0 : Int) ≤ (xs.length : Int) by omega), Int.toNat_natCast, if_pos (show xs.length ≤ 8796093022208 by omega)]
  exact toJobS_l xs (by omega) xs.length 0 _ (by omega) (by simp) (by simp)

theorem rdI (xs : List S59) (i : Nat) (h : i < xs.length) : rd_T59 xs (i : Int) = xs[i] := by
  unfold rd_T59
  rw [Int.toNat_natCast, List.getD_eq_getElem?_getD, List.getElem?_eq_getElem h]
  rfl

theorem eqJobS_l (xs : List S59) (hn : xs.length ≤ 4611686018427387904) : ∀ (d i : Nat), i + d = xs.length → Ev (fun k => laws_eqJobS.l0 k xs xs (i : Int)) true := by
  intro d
  induction d with
  | zero =>
    intro i hi
    refine ev_succ ?_
    simp only [laws_eqJobS.l0, if_neg (show ¬ (i : Int) < (xs.length : Int) by omega)]
    exact ev_now _
  | succ d ih =>
    intro i hi
    refine ev_succ ?_
    simp only [laws_eqJobS.l0, laws_eqJob.f, if_true, Option.bind_some, if_pos (show (i : Int) < (xs.length : Int) by omega), if_pos (show (0 : Int) ≤ (i : Int) by omega), wsucc i (by omega)]
    exact ih (i + 1) (by omega)
theorem eqJobS_ev (xs : List S59) (hn : xs.length ≤ 4611686018427387904) : Ev (fun k => laws_eqJobS.f k xs xs) true := by
  unfold laws_eqJobS.f
  simp only [if_true]
  exact eqJobS_l xs hn xs.length 0 (by omega)

theorem conv_I64 (l : List S63) (hg : ∀ x ∈ l, G63 x) (i : Nat) (hi : i < (l.map conv).length) : I64 (l.map conv)[i].f0 ∧ I64 (l.map conv)[i].f1 ∧ I64 (l.map conv)[i].f2 ∧ I64 (l.map conv)[i].f3 := by
  simp only [List.getElem_map, conv]
  exact hg _ (List.getElem_mem _)

theorem rdI_set (xs : List S59) (i : Nat) (h : i < xs.length) (v : S59) : rd_T59 (xs.set i v) (i : Int) = v := by
  rw [rdI _ i (by rw [List.length_set]; exact h)]
  simp
theorem markJobS_l : ∀ (d i m : Nat) (xs : List S59), i + d = xs.length → m + 4 * d ≤ 1152921504606846976 → xs.length ≤ 1152921504606846976 →
    ∃ (q : Nat) (ys : List S59), Ev (fun k => laws_markJobS.l0 k xs (m : Int) (i : Int)) ((q : Int), ys) ∧ ys.length = xs.length ∧ ys.take i = xs.take i ∧ m ≤ q ∧ Ev (fun k => laws_heldJobS.l0 k ys (m : Int) (i : Int)) (q : Int) := by
  intro d
  induction d with
  | zero =>
    intro i m xs hi hmd hxl
    refine ⟨m, xs, ev_succ ?_, rfl, rfl, Nat.le_refl _, ev_succ ?_⟩
    · simp only [laws_markJobS.l0, if_neg (show ¬ (i : Int) < (xs.length : Int) by omega)]
      exact ev_now _
    · simp only [laws_heldJobS.l0, if_neg (show ¬ (i : Int) < (xs.length : Int) by omega)]
      exact ev_now _
  | succ d ih =>
    intro i m xs hi hmd hxl
    obtain ⟨q, ys, h1, h2, h3, h4, h5⟩ := ih (i + 1) (m + 4) (xs.set i ⟨(m : Int), ((m + 1 : Nat) : Int), ((m + 2 : Nat) : Int), ((m + 3 : Nat) : Int)⟩) (by rw [List.length_set]; omega) (by omega) (by rw [List.length_set]; omega)
    rw [List.length_set] at h2
    rw [take_set_succ xs i _ (by omega)] at h3
    have hy : ys[i]'(by omega) = ⟨(m : Int), ((m + 1 : Nat) : Int), ((m + 2 : Nat) : Int), ((m + 3 : Nat) : Int)⟩ := by
      have := congrArg (fun l => l[i]?) h3
      simp only [List.getElem?_take, if_pos (show i < i + 1 by omega)] at this
      rw [List.getElem?_append_right (by simp; omega), List.getElem?_eq_getElem (by omega)] at this
      simpa [Nat.min_eq_left (show i ≤ xs.length by omega)] using this
    refine ⟨q, ys, ev_succ ?_, h2, ?_, by omega, ev_succ ?_⟩
    · simp only [laws_markJobS.l0, Option.bind_some, if_pos (show (i : Int) < (xs.length : Int) by omega), if_pos (show (0 : Int) ≤ (i : Int) by omega), wsucc i (by omega), wsucc m (by omega), wsucc (m + 1) (by omega), wsucc (m + 2) (by omega), wsucc (m + 3) (by omega), Int.toNat_natCast, rdI_set xs i (by omega), List.set_set]
      exact h1
    · have := congrArg (fun l => l.take i) h3
      simp only [List.take_take, Nat.min_eq_left (show i ≤ i + 1 by omega)] at this
      rw [this, List.take_append_of_le_length (by simp; omega), List.take_take, Nat.min_self]
    · simp only [laws_heldJobS.l0, if_pos (show (i : Int) < (ys.length : Int) by omega), if_pos (show (0 : Int) ≤ (i : Int) by omega), wsucc i (by omega), wsucc m (by omega), wsucc (m + 1) (by omega), wsucc (m + 2) (by omega), wsucc (m + 3) (by omega), rdI ys i (by omega), hy, if_true]
      exact h5
theorem markJobS_ev (xs : List S59) (h : xs.length ≤ 1048576) : ∃ (q : Nat) (ys : List S59), 1 ≤ q ∧ Ev (fun k => laws_markJobS.f k xs 1) ((q : Int), ys) ∧ Ev (fun k => laws_heldJobS.f k ys 1) (q : Int) := by
  obtain ⟨q, ys, h1, h2, h3, h4, h5⟩ := markJobS_l xs.length 0 1 xs (by omega) (by omega) (by omega)
  exact ⟨q, ys, h4, h1, h5⟩

theorem eqIntS_l (xs : List Int) (hn : xs.length ≤ 4611686018427387904) : ∀ (d i : Nat), i + d = xs.length → Ev (fun k => laws_eqIntS.l0 k xs xs (i : Int)) true := by
  intro d
  induction d with
  | zero =>
    intro i hi
    refine ev_succ ?_
    simp only [laws_eqIntS.l0, if_neg (show ¬ (i : Int) < (xs.length : Int) by omega)]
    exact ev_now _
  | succ d ih =>
    intro i hi
    refine ev_succ ?_
    simp only [laws_eqIntS.l0, if_true, if_pos (show (i : Int) < (xs.length : Int) by omega), if_pos (show (0 : Int) ≤ (i : Int) by omega), wsucc i (by omega)]
    exact ih (i + 1) (by omega)
theorem eqIntS_ev (xs : List Int) (hn : xs.length ≤ 4611686018427387904) : Ev (fun k => laws_eqIntS.f k xs xs) true := by
  unfold laws_eqIntS.f
  simp only [if_true]
  exact eqIntS_l xs hn xs.length 0 (by omega)

theorem rdN (xs : List Int) (i : Nat) (h : i < xs.length) : rd xs (i : Int) = xs[i] := by
  unfold rd
  rw [Int.toNat_natCast, List.getD_eq_getElem?_getD, List.getElem?_eq_getElem h]
  rfl

theorem markIntS_l : ∀ (d i m : Nat) (xs : List Int), i + d = xs.length → m + d ≤ 1152921504606846976 → xs.length ≤ 1152921504606846976 →
    ∃ (q : Nat) (ys : List Int), Ev (fun k => laws_markIntS.l0 k xs (m : Int) (i : Int)) ((q : Int), ys) ∧ ys.length = xs.length ∧ ys.take i = xs.take i ∧ m ≤ q ∧ q ≤ m + d ∧ Ev (fun k => laws_heldIntS.l0 k ys (m : Int) (i : Int)) (q : Int) := by
  intro d
  induction d with
  | zero =>
    intro i m xs hi hmd hxl
    refine ⟨m, xs, ev_succ ?_, rfl, rfl, Nat.le_refl _, by omega, ev_succ ?_⟩
    · simp only [laws_markIntS.l0, if_neg (show ¬ (i : Int) < (xs.length : Int) by omega)]
      exact ev_now _
    · simp only [laws_heldIntS.l0, if_neg (show ¬ (i : Int) < (xs.length : Int) by omega)]
      exact ev_now _
  | succ d ih =>
    intro i m xs hi hmd hxl
    obtain ⟨q, ys, h1, h2, h3, h4, h4', h5⟩ := ih (i + 1) (m + 1) (xs.set i (m : Int)) (by rw [List.length_set]; omega) (by omega) (by rw [List.length_set]; omega)
    rw [List.length_set] at h2
    rw [take_set_succ xs i _ (by omega)] at h3
    have hy : ys[i]'(by omega) = (m : Int) := by
      have := congrArg (fun l => l[i]?) h3
      simp only [List.getElem?_take, if_pos (show i < i + 1 by omega)] at this
      rw [List.getElem?_append_right (by simp; omega), List.getElem?_eq_getElem (by omega)] at this
      simpa [Nat.min_eq_left (show i ≤ xs.length by omega)] using this
    have hx : i < xs.length := by omega
    refine ⟨q, ys, ev_succ ?_, h2, ?_, by omega, by omega, ev_succ ?_⟩
    · simp only [laws_markIntS.l0, if_pos (show (i : Int) < (xs.length : Int) by omega), if_pos (show (0 : Int) ≤ (i : Int) by omega), Int.toNat_natCast, wsucc m (by omega), wsucc i (by omega)]
      exact h1
    · have := congrArg (fun l => l.take i) h3
      simp only [List.take_take, Nat.min_eq_left (show i ≤ i + 1 by omega)] at this
      rw [this, List.take_append_of_le_length (by simp; omega), List.take_take, Nat.min_self]
    · simp only [laws_heldIntS.l0, if_pos (show (i : Int) < (ys.length : Int) by omega), if_pos (show (0 : Int) ≤ (i : Int) by omega), rdN ys i (by omega), hy, if_true, wsucc m (by omega), wsucc i (by omega)]
      exact h5
theorem markIntS_ev (xs : List Int) (h : xs.length ≤ 1048576) : ∃ (q : Nat) (ys : List Int), 1 ≤ q ∧ Ev (fun k => laws_markIntS.f k xs 1) ((q : Int), ys) ∧ Ev (fun k => laws_heldIntS.f k ys 1) (q : Int) := by
  obtain ⟨q, ys, h1, h2, h3, h4, h4', h5⟩ := markIntS_l xs.length 0 1 xs (by omega) (by omega) (by omega)
  exact ⟨q, ys, h4, h1, h5⟩

theorem within_eq (a b c : Int) : impl_within.f a b c = some (decide (b ≤ a) && decide (a ≤ c)) := by
  unfold impl_within.f
  by_cases h : b ≤ a
  · rw [if_pos h]; simp [h]
  · rw [if_neg h]; simp [h]

/-- A job's numbers are in their bounds. -/
def okJ (x : S59) : Bool := decide (1 ≤ x.f0) && (decide (x.f0 ≤ 50) && (decide (0 ≤ x.f1) && (decide (x.f1 ≤ 50) && (decide (0 ≤ x.f2) && (decide (x.f2 ≤ 500) && (decide (0 ≤ x.f3) && decide (x.f3 ≤ 500)))))))
def goodB (l : List S59) : Bool := decide (l.length ≤ 8) && l.all okJ
theorem isDate_eq (a : Int) : impl_isDate.f a = some (decide (0 ≤ a) && decide (a ≤ 500)) := by
  unfold impl_isDate.f
  rw [within_eq]
  rfl
theorem job_chain (x : S59) (o : Option Bool) : (if (decide (1 ≤ x.f0) && decide (x.f0 ≤ 50)) = true then (if (decide (0 ≤ x.f1) && decide (x.f1 ≤ 50)) = true then (if (decide (0 ≤ x.f2) && decide (x.f2 ≤ 500)) = true then (if (decide (0 ≤ x.f3) && decide (x.f3 ≤ 500)) = true then o else some false) else some false) else some false) else some false) = if okJ x = true then o else some false := by
  unfold okJ
  by_cases a1 : 1 ≤ x.f0 <;> by_cases a2 : x.f0 ≤ 50 <;> simp [a1, a2]
  by_cases b1 : 0 ≤ x.f1 <;> by_cases b2 : x.f1 ≤ 50 <;> simp [b1, b2]
  by_cases c1 : 0 ≤ x.f2 <;> by_cases c2 : x.f2 ≤ 500 <;> simp [c1, c2]
theorem IsJobs_l (xs : List S59) (hn : xs.length ≤ 4611686018427387904) : ∀ (d i : Nat), i + d = xs.length → Ev (fun k => impl_IsJobs.l0 k xs (xs.length : Int) (i : Int)) ((xs.drop i).all okJ) := by
  intro d
  induction d with
  | zero =>
    intro i hi
    refine ev_succ ?_
    simp only [impl_IsJobs.l0, if_neg (show ¬ (i : Int) < (xs.length : Int) by omega), List.drop_of_length_le (show xs.length ≤ i by omega)]
    exact ev_now _
  | succ d ih =>
    intro i hi
    refine ev_succ ?_
    have hx : i < xs.length := by omega
    have hih := ih (i + 1) (by omega)
    rw [List.drop_eq_getElem_cons hx, List.all_cons]
    simp only [impl_IsJobs.l0, within_eq, isDate_eq, Option.bind_some, if_pos (show (i : Int) < (xs.length : Int) by omega), if_pos (show (0 : Int) ≤ (i : Int) by omega), wsucc i (by omega), rdI xs i hx]
    generalize xs[i] = x at *
    simp only [job_chain]
    by_cases c : okJ x = true
    · simpa only [c, if_true, Bool.true_and] using hih
    · have c' : okJ x = false := by simpa using c
      simp only [c', Bool.false_and]
      exact ev_now _
theorem IsJobs_ev (xs : List S59) (hn : xs.length ≤ 4611686018427387904) : Ev (fun k => impl_IsJobs.f k xs) (goodB xs) := by
  unfold impl_IsJobs.f goodB
  by_cases h : xs.length ≤ 8
  · simp only [if_neg (show ¬ ((xs.length : Int) > 8) by omega), decide_eq_true h, Bool.true_and]
    exact IsJobs_l xs hn xs.length 0 (by omega)
  · simp only [if_pos (show ((xs.length : Int) > 8) by omega), decide_eq_false h, Bool.false_and]
    exact ev_now _

def freeJ (x : S59) : Bool := decide (x.f2 = 0)
def plainB (l : List S59) : Bool := goodB l && l.all freeJ
theorem isPlain_l (xs : List S59) (hn : xs.length ≤ 4611686018427387904) : ∀ (d i : Nat), i + d = xs.length → Ev (fun k => impl_isPlain.l0 k xs (xs.length : Int) (i : Int)) ((xs.drop i).all freeJ) := by
  intro d
  induction d with
  | zero =>
    intro i hi
    refine ev_succ ?_
    simp only [impl_isPlain.l0, if_neg (show ¬ (i : Int) < (xs.length : Int) by omega), List.drop_of_length_le (show xs.length ≤ i by omega)]
    exact ev_now _
  | succ d ih =>
    intro i hi
    refine ev_succ ?_
    have hx : i < xs.length := by omega
    have hih := ih (i + 1) (by omega)
    rw [List.drop_eq_getElem_cons hx, List.all_cons]
    simp only [impl_isPlain.l0, if_pos (show (i : Int) < (xs.length : Int) by omega), if_pos (show (0 : Int) ≤ (i : Int) by omega), wsucc i (by omega), rdI xs i hx]
    by_cases c : (xs[i]).f2 = 0
    · simp only [if_pos c, freeJ, decide_eq_true c, Bool.true_and]
      exact hih
    · simp only [if_neg c, freeJ, decide_eq_false c, Bool.false_and]
      exact ev_now _
theorem isPlain_ev (xs : List S59) (hn : xs.length ≤ 4611686018427387904) : Ev (fun k => impl_isPlain.f k xs) (xs.all freeJ) := by
  unfold impl_isPlain.f
  exact isPlain_l xs hn xs.length 0 (by omega)

theorem IsPlain_ev (xs : List S59) (hn : xs.length ≤ 4611686018427387904) : Ev (fun k => impl_IsPlain.f k xs) (plainB xs) := by
  unfold impl_IsPlain.f plainB
  refine ev_bind (IsJobs_ev xs hn) ?_
  cases goodB xs
  · simp only [Bool.false_eq_true, if_false, Bool.false_and]; exact ev_now _
  · simp only [if_true, Bool.true_and]; exact ev_bind (isPlain_ev xs hn) (ev_now _)

theorem plain_good {xs : List S59} (h : plainB xs = true) : goodB xs = true := by
  unfold plainB at h
  simp only [Bool.and_eq_true] at h
  exact h.1

theorem l1In_eq (a b c : Int) : spec_l1In.f a b c = some (decide (b ≤ a) && decide (a ≤ c)) := by
  unfold spec_l1In.f
  by_cases h : b ≤ a
  · rw [if_pos h]; simp [h]
  · rw [if_neg h]; simp [h]

theorem l2Job_eq (x : S59) : spec_l2Job.f x.f0 x.f1 x.f2 x.f3 = some (okJ x) := by
  unfold spec_l2Job.f okJ
  simp only [l1In_eq, Option.bind_some]
  by_cases a1 : 1 ≤ x.f0 <;> by_cases a2 : x.f0 ≤ 50 <;> simp [a1, a2]
  by_cases b1 : 0 ≤ x.f1 <;> by_cases b2 : x.f1 ≤ 50 <;> simp [b1, b2]
  by_cases c1 : 0 ≤ x.f2 <;> by_cases c2 : x.f2 ≤ 500 <;> simp [c1, c2]
theorem l2Good_l (xs : List S59) (hn : xs.length ≤ 4611686018427387904) : ∀ (d i : Nat), i + d = xs.length → Ev (fun k => spec_l2Good.l0 k xs (i : Int)) ((xs.drop i).all okJ && decide (xs.length ≤ 8)) := by
  intro d
  induction d with
  | zero =>
    intro i hi
    refine ev_succ ?_
    simp only [spec_l2Good.l0, if_neg (show ¬ (i : Int) < (xs.length : Int) by omega), List.drop_of_length_le (show xs.length ≤ i by omega)]
    refine ev_const ?_
    simp
    omega
  | succ d ih =>
    intro i hi
    refine ev_succ ?_
    have hx : i < xs.length := by omega
    have hih := ih (i + 1) (by omega)
    rw [List.drop_eq_getElem_cons hx, List.all_cons]
    simp only [spec_l2Good.l0, if_pos (show (i : Int) < (xs.length : Int) by omega), if_pos (show (0 : Int) ≤ (i : Int) by omega), wsucc i (by omega), rdI xs i hx, l2Job_eq, Option.bind_some]
    by_cases c : okJ xs[i] = true
    · simpa only [c, if_true, Bool.true_and] using hih
    · have c' : okJ xs[i] = false := by simpa using c
      simp only [c', Bool.false_and]
      exact ev_now _
theorem l2Good_ev (xs : List S59) (hn : xs.length ≤ 4611686018427387904) : Ev (fun k => spec_l2Good.f k xs) (goodB xs) := by
  unfold spec_l2Good.f goodB
  rw [Bool.and_comm]
  exact l2Good_l xs hn xs.length 0 (by omega)

def freeJ' (x : S59) : Bool := decide (¬ x.f2 > 0)
theorem l4Free_l (xs : List S59) (hn : xs.length ≤ 4611686018427387904) : ∀ (d i : Nat), i + d = xs.length → Ev (fun k => spec_l4Free.l0 k xs (i : Int)) ((xs.drop i).all freeJ') := by
  intro d
  induction d with
  | zero =>
    intro i hi
    refine ev_succ ?_
    simp only [spec_l4Free.l0, if_neg (show ¬ (i : Int) < (xs.length : Int) by omega), List.drop_of_length_le (show xs.length ≤ i by omega)]
    exact ev_now _
  | succ d ih =>
    intro i hi
    refine ev_succ ?_
    have hx : i < xs.length := by omega
    have hih := ih (i + 1) (by omega)
    rw [List.drop_eq_getElem_cons hx, List.all_cons]
    simp only [spec_l4Free.l0, if_pos (show (i : Int) < (xs.length : Int) by omega), if_pos (show (0 : Int) ≤ (i : Int) by omega), wsucc i (by omega), rdI xs i hx]
    by_cases c : (xs[i]).f2 > 0
    · simp only [if_pos c, freeJ', decide_eq_false (show ¬ ¬ (xs[i]).f2 > 0 by omega), Bool.false_and]
      exact ev_now _
    · simp only [if_neg c, freeJ', decide_eq_true c, Bool.true_and]
      exact hih
theorem l4Free_ev (xs : List S59) (hn : xs.length ≤ 4611686018427387904) : Ev (fun k => spec_l4Free.f k xs) (xs.all freeJ') := by
  unfold spec_l4Free.f
  exact l4Free_l xs hn xs.length 0 (by omega)
theorem good_free (xs : List S59) (h : goodB xs = true) : xs.all freeJ' = xs.all freeJ := by
  unfold goodB at h
  simp only [Bool.and_eq_true, List.all_eq_true] at h
  rw [Bool.eq_iff_iff]
  simp only [List.all_eq_true]
  constructor
  · intro hh x hx
    have a := hh x hx
    have b := h.2 x hx
    simp only [okJ, Bool.and_eq_true, decide_eq_true_eq] at b
    simp only [freeJ', decide_eq_true_eq] at a
    simp only [freeJ, decide_eq_true_eq]
    omega
  · intro hh x hx
    have a := hh x hx
    simp only [freeJ, decide_eq_true_eq] at a
    simp only [freeJ', decide_eq_true_eq]
    omega

theorem l6Good_ev (xs : List S59) (hn : xs.length ≤ 4611686018427387904) : Ev (fun k => spec_l6Good.f k xs) (plainB xs) := by
  unfold spec_l6Good.f plainB
  refine ev_bind (l2Good_ev xs hn) ?_
  cases hg : goodB xs
  · simp only [Bool.false_eq_true, if_false, Bool.false_and]; exact ev_now _
  · simp only [if_true, Bool.true_and]
    rw [← good_free xs hg]
    exact ev_bind (l4Free_ev xs hn) (ev_now _)

theorem good_len {xs : List S59} (h : goodB xs = true) : xs.length ≤ 8 := by
  unfold goodB at h
  simp only [Bool.and_eq_true, decide_eq_true_eq] at h
  exact h.1
theorem good_at {xs : List S59} (h : goodB xs = true) (i : Nat) (hi : i < xs.length) : 1 ≤ xs[i].f0 ∧ xs[i].f0 ≤ 50 ∧ 0 ≤ xs[i].f1 ∧ xs[i].f1 ≤ 50 ∧ 0 ≤ xs[i].f2 ∧ xs[i].f2 ≤ 500 ∧ 0 ≤ xs[i].f3 ∧ xs[i].f3 ≤ 500 := by
  unfold goodB at h
  simp only [Bool.and_eq_true, List.all_eq_true] at h
  have b := h.2 xs[i] (List.getElem_mem hi)
  simp only [okJ, Bool.and_eq_true, decide_eq_true_eq] at b
  obtain ⟨a1, a2, b1, b2, c1, c2, d1, d2⟩ := b
  exact ⟨a1, a2, b1, b2, c1, c2, d1, d2⟩

theorem shrN (c i : Nat) (h : i ≤ 64) : shr .i64 (c : Int) (i : Int) = ((c / 2 ^ i : Nat) : Int) := by
  unfold shr
  rw [Int.toNat_natCast, Nat.min_eq_left (show i ≤ IntKind.i64.bits from h)]
  rw [Int.natCast_ediv, Int.natCast_pow]
  rfl
theorem and1 : ∀ m : Nat, m < 256 → Go.bits .and .i64 (m : Int) 1 = ((m % 2 : Nat) : Int) := by decide +kernel
theorem shl1 : ∀ i : Nat, i < 9 → shl .i64 1 (i : Int) = ((2 ^ i : Nat) : Int) := by decide +kernel
theorem andn : ∀ c : Nat, c < 256 → ∀ i : Nat, i < 8 → c / 2 ^ i % 2 = 1 → Go.bits .andNot .i64 (c : Int) ((2 ^ i : Nat) : Int) = ((c - 2 ^ i : Nat) : Int) := by decide +kernel
theorem pow8 (n : Nat) (h : n ≤ 8) : 2 ^ n ≤ 256 := Nat.pow_le_pow_right (by omega) h
theorem shr_and (c i : Nat) (hc : c < 256) (hi : i ≤ 64) : Go.bits .and .i64 (shr .i64 (c : Int) (i : Int)) 1 = ((c / 2 ^ i % 2 : Nat) : Int) := by
  rw [shrN c i hi]
  exact and1 _ (Nat.lt_of_le_of_lt (Nat.div_le_self _ _) hc)
theorem mod1 {x : Nat} (h : x % 2 = 1) : ((x % 2 : Nat) : Int) = 1 := by rw [h]; rfl
theorem mod0 {x : Nat} (h : ¬ x % 2 = 1) : ((x % 2 : Nat) : Int) = 0 := by rw [show x % 2 = 0 by omega]; rfl
theorem mod1' {x : Nat} (h : x % 2 = 1) : ¬ ((x % 2 : Nat) : Int) = 0 := by rw [h]; decide
theorem mod0' {x : Nat} (h : ¬ x % 2 = 1) : ¬ ((x % 2 : Nat) : Int) = 1 := by rw [show x % 2 = 0 by omega]; decide
theorem bit_le (c i : Nat) (h : c / 2 ^ i % 2 = 1) : 2 ^ i ≤ c := by
  rcases Nat.lt_or_ge c (2 ^ i) with hl | hl
  · rw [Nat.div_eq_of_lt hl] at h; omega
  · exact hl
/-- The numbers of the bits of c, from i on. -/
def blF (c i : Nat) : Nat → List Int
  | 0 => []
  | d + 1 => if c / 2 ^ i % 2 = 1 then (i : Int) :: blF c (i + 1) d else blF c (i + 1) d
theorem blF_hit {c i : Nat} (h : c / 2 ^ i % 2 = 1) (d : Nat) : blF c i (d + 1) = (i : Int) :: blF c (i + 1) d := by rw [blF, if_pos h]
theorem blF_miss {c i : Nat} (h : ¬ c / 2 ^ i % 2 = 1) (d : Nat) : blF c i (d + 1) = blF c (i + 1) d := by rw [blF, if_neg h]
theorem wsub {c q : Nat} (h : q ≤ c) (hc : c ≤ 4611686018427387904) : wrap64 ((c : Int) - (q : Int)) = ((c - q : Nat) : Int) := by rw [w64 (by omega) (by omega)]; omega
theorem blF_nil (c : Nat) : ∀ d i : Nat, c / 2 ^ i = 0 → blF c i d = [] := by
  intro d
  induction d with
  | zero => intro i _; rfl
  | succ d ih =>
    intro i h
    unfold blF
    rw [if_neg (by omega)]
    refine ih (i + 1) ?_
    rw [Nat.pow_succ, ← Nat.div_div_eq_div_mul, h]
theorem blF_mem (c : Nat) : ∀ d i : Nat, ∀ x ∈ blF c i d, ∃ j : Nat, x = (j : Int) ∧ i ≤ j ∧ j < i + d ∧ c / 2 ^ j % 2 = 1 := by
  intro d
  induction d with
  | zero => intro i x hx; simp [blF] at hx
  | succ d ih =>
    intro i x hx
    unfold blF at hx
    split at hx
    · rcases List.mem_cons.mp hx with rfl | hx
      · exact ⟨i, rfl, by omega, by omega, by assumption⟩
      · obtain ⟨j, a, b, e, f⟩ := ih (i + 1) x hx
        exact ⟨j, a, by omega, by omega, f⟩
    · obtain ⟨j, a, b, e, f⟩ := ih (i + 1) x hx
      exact ⟨j, a, by omega, by omega, f⟩
theorem blF_len (c : Nat) : ∀ d i : Nat, (blF c i d).length ≤ d := by
  intro d
  induction d with
  | zero => intro i; exact Nat.le_refl _
  | succ d ih =>
    intro i
    unfold blF
    have := ih (i + 1)
    split
    · rw [List.length_cons]; omega
    · omega
theorem rdz (xs : List Int) (i : Nat) (h : i < xs.length) : rd xs (i : Int) = xs[i] := by
  unfold rd
  rw [Int.toNat_natCast, List.getD_eq_getElem?_getD, List.getElem?_eq_getElem h]
  rfl
theorem rd_left (a b : List Int) (i : Nat) (h : i < a.length) : rd (a ++ b) (i : Int) = rd a (i : Int) := by
  rw [rdz _ i (by rw [List.length_append]; omega), rdz a i h, List.getElem_append_left h]
theorem rd_mid (a b : List Int) (x : Int) (i : Nat) (h : i = a.length) : rd (a ++ x :: b) (i : Int) = x := by
  subst h
  rw [rdz _ _ (by rw [List.length_append, List.length_cons]; omega)]
  simp
theorem set_mid (a b : List Int) (x y : Int) (i : Nat) (h : i = a.length) : (a ++ x :: b).set i y = a ++ y :: b := by
  subst h
  simp

theorem listOf_l (c n : Nat) (hn : n ≤ 8) (hc : c < 2 ^ n) : ∀ (d i : Nat) (acc : List Int), i + d = n → acc.length ≤ i → Ev (fun k => impl_listOf.l0 k (c : Int) acc (i : Int)) (acc ++ blF c i d) := by
  intro d
  have h8 := pow8 n hn
  induction d with
  | zero =>
    intro i acc hi ha
    refine ev_succ ?_
    have hz : c / 2 ^ i = 0 := Nat.div_eq_of_lt (by rw [show i = n by omega]; exact hc)
    simp only [impl_listOf.l0, if_pos (show (0 : Int) ≤ (i : Int) by omega), shrN c i (by omega), hz, gt_iff_lt, if_neg (show ¬ (0 : Int) < ((0 : Nat) : Int) by omega), blF, List.append_nil]
    exact ev_now _
  | succ d ih =>
    intro i acc hi ha
    refine ev_succ ?_
    by_cases hz : c / 2 ^ i = 0
    · rw [blF_nil c _ i hz, List.append_nil]
      simp only [impl_listOf.l0, if_pos (show (0 : Int) ≤ (i : Int) by omega), shrN c i (by omega), hz, gt_iff_lt, if_neg (show ¬ (0 : Int) < ((0 : Nat) : Int) by omega)]
      exact ev_now _
    · simp only [impl_listOf.l0, if_pos (show (0 : Int) ≤ (i : Int) by omega), shr_and c i (by omega) (by omega), blF, wsucc i (by omega)]
      simp only [shrN c i (by omega), gt_iff_lt, if_pos (Int.natCast_pos.mpr (Nat.pos_of_ne_zero hz))]
      by_cases hb : c / 2 ^ i % 2 = 1
      · have h := ih (i + 1) (acc ++ [(i : Int)]) (by omega) (by rw [List.length_append, List.length_singleton]; omega)
        rw [List.append_assoc] at h
        simp only [if_pos hb, if_pos (mod1 hb), if_pos (show acc.length < 17592186044416 by omega)]
        exact h
      · simp only [if_neg hb, if_neg (mod0' hb)]
        exact ih (i + 1) acc (by omega) (by omega)
theorem listOf_ev (c n : Nat) (hn : n ≤ 8) (hc : c < 2 ^ n) : Ev (fun k => impl_listOf.f k (c : Int)) (blF c 0 n) := by
  unfold impl_listOf.f
  exact listOf_l c n hn hc n 0 [] (by omega) (by simp)

/-- The sum of the times of some jobs. -/
def sumT (jobs : List S59) (acc : Int) (ls : List Int) : Int := ls.foldl (fun a x => wrap64 (a + (rd_T59 jobs x).f0)) acc
theorem wrap_I64 (x : Int) : I64 (wrap64 x) := by unfold I64 wrap64; omega
theorem sumT_I64 (jobs : List S59) : ∀ (ls : List Int) (acc : Int), I64 acc → I64 (sumT jobs acc ls) := by
  intro ls
  induction ls with
  | nil => intro acc h; exact h
  | cons x ls ih => intro acc h; exact ih _ (wrap_I64 _)
theorem timeOf_l (jobs : List S59) (ls : List Int) (hl : ls.length ≤ 1000) (hin : ∀ x ∈ ls, 0 ≤ x ∧ x < (jobs.length : Int)) : ∀ (d p : Nat) (acc : Int), p + d = ls.length → Ev (fun k => impl_timeOf.l0 k jobs acc ls (ls.length : Int) (p : Int)) (sumT jobs acc (ls.drop p)) := by
  intro d
  induction d with
  | zero =>
    intro p acc hp
    refine ev_succ ?_
    simp only [impl_timeOf.l0, if_neg (show ¬ (p : Int) < (ls.length : Int) by omega), List.drop_of_length_le (show ls.length ≤ p by omega)]
    exact ev_now _
  | succ d ih =>
    intro p acc hp
    refine ev_succ ?_
    have hx : p < ls.length := by omega
    have h := hin ls[p] (List.getElem_mem hx)
    rw [List.drop_eq_getElem_cons hx]
    simp only [impl_timeOf.l0, if_pos (show (p : Int) < (ls.length : Int) by omega), if_pos (show (0 : Int) ≤ (p : Int) by omega), rdz ls p hx, if_pos h.1, if_pos h.2, wsucc p (by omega)]
    exact ih (p + 1) _ (by omega)
theorem bl_in (jobs : List S59) (c : Nat) : ∀ x ∈ blF c 0 jobs.length, 0 ≤ x ∧ x < (jobs.length : Int) := by
  intro x hx
  obtain ⟨j, rfl, _, h, _⟩ := blF_mem c _ _ x hx
  omega
theorem timeOf_ev (jobs : List S59) (c : Nat) (hn : jobs.length ≤ 8) (hc : c < 2 ^ jobs.length) : Ev (fun k => impl_timeOf.f k jobs (c : Int)) (sumT jobs 0 (blF c 0 jobs.length)) := by
  unfold impl_timeOf.f
  have := blF_len c jobs.length 0
  refine ev_bind (listOf_ev c _ hn hc) ?_
  exact timeOf_l jobs _ (by omega) (bl_in jobs c) _ 0 0 (Nat.zero_add _)
def lateF (j : S59) (e : Int) : Int := if 0 < wrap64 (e - j.f3) then wrap64 (e - j.f3) else 0
def costF (j : S59) (e obj : Int) : Int := if obj = 2 then e else if obj = 3 then wrap64 (j.f1 * e) else if obj = 5 then lateF j e else if obj = 6 then wrap64 (j.f1 * lateF j e) else if lateF j e = 0 then 0 else if obj = 7 then 1 else j.f1
theorem add_eq (a : Int) (j : S59) (e obj : Int) (ha : I64 a) (ho : obj = 2 ∨ obj = 3 ∨ obj = 5 ∨ obj = 6 ∨ obj = 7 ∨ obj = 8) : impl_add.f a j.f0 j.f1 j.f2 j.f3 e obj false = some (wrap64 (a + costF j e obj)) := by
  have hmx : ∀ x : Int, mx 0 x = if 0 < x then x else 0 := fun x => rfl
  have hw : wrap64 a = a := w64 ha.1 ha.2
  unfold impl_add.f costF lateF
  rcases ho with rfl | rfl | rfl | rfl | rfl | rfl
  · rfl
  · rfl
  · rfl
  · rfl
  · by_cases h : wrap64 (e - j.f3) ≤ 0
    · simp only [if_neg (show ¬ (0 : Int) < wrap64 (e - j.f3) by omega), if_pos h]
      simp [hw]
    · simp only [if_pos (show (0 : Int) < wrap64 (e - j.f3) by omega), if_neg h, if_neg (show ¬ wrap64 (e - j.f3) = 0 by omega)]
      rfl
  · by_cases h : wrap64 (e - j.f3) ≤ 0
    · simp only [if_neg (show ¬ (0 : Int) < wrap64 (e - j.f3) by omega), if_pos h]
      simp [hw]
    · simp only [if_pos (show (0 : Int) < wrap64 (e - j.f3) by omega), if_neg h, if_neg (show ¬ wrap64 (e - j.f3) = 0 by omega)]
      rfl
def stepB (b s : Int) : Int := if b < 0 then s else if s < b then s else b
/-- The value of a set c with a job i of it last, for the values of smaller sets. -/
def lastF (jobs : List S59) (obj : Int) (L : List Int) (c : Nat) (e i : Int) : Int := wrap64 (rd L ((c - 2 ^ i.toNat : Nat) : Int) + costF (rd_T59 jobs i) e obj)
def bestF (jobs : List S59) (obj : Int) (L : List Int) (c : Nat) (e b : Int) (ls : List Int) : Int := ls.foldl (fun b i => stepB b (lastF jobs obj L c e i)) b
def nextV (jobs : List S59) (obj base : Int) (L : List Int) : List Int := L ++ [bestF jobs obj L L.length (wrap64 (base + sumT jobs 0 (blF L.length 0 jobs.length))) (-1) (blF L.length 0 jobs.length)]
def iterV (jobs : List S59) (obj base : Int) (L : List Int) : Nat → List Int
  | 0 => L
  | d + 1 => iterV jobs obj base (nextV jobs obj base L) d
def allI (L : List Int) : Prop := ∀ x ∈ L, I64 x
theorem allI_rd {L : List Int} (h : allI L) (i : Nat) : I64 (rd L (i : Int)) := by
  unfold rd
  rw [Int.toNat_natCast, List.getD_eq_getElem?_getD]
  rcases Nat.lt_or_ge i L.length with hi | hi
  · rw [List.getElem?_eq_getElem hi]; exact h _ (List.getElem_mem hi)
  · rw [List.getElem?_eq_none hi]; show I64 0; unfold I64; omega
theorem bestF_I64 (jobs : List S59) (obj : Int) (L : List Int) (c : Nat) (e : Int) : ∀ (ls : List Int) (b : Int), I64 b → I64 (bestF jobs obj L c e b ls) := by
  intro ls
  induction ls with
  | nil => intro b h; exact h
  | cons x ls ih =>
    intro b h
    refine ih _ ?_
    show I64 (stepB b (lastF jobs obj L c e x))
    unfold stepB
    split
    · exact wrap_I64 _
    · split
      · exact wrap_I64 _
      · exact h
theorem nextV_I64 {jobs : List S59} {obj base : Int} {L : List Int} (h : allI L) : allI (nextV jobs obj base L) := by
  intro x hx
  unfold nextV at hx
  rcases List.mem_append.mp hx with hx | hx
  · exact h x hx
  · rw [List.mem_singleton.mp hx]; exact bestF_I64 _ _ _ _ _ _ _ (by unfold I64; omega)
theorem nextV_len (jobs : List S59) (obj base : Int) (L : List Int) : (nextV jobs obj base L).length = L.length + 1 := by unfold nextV; rw [List.length_append, List.length_singleton]
theorem iterV_len (jobs : List S59) (obj base : Int) : ∀ (d : Nat) (L : List Int), (iterV jobs obj base L d).length = L.length + d := by
  intro d
  induction d with
  | zero => intro L; rfl
  | succ d ih => intro L; unfold iterV; rw [ih, nextV_len]; omega
theorem l2Cost_eq (j : S59) (e obj : Int) : spec_l2Cost.f j.f0 j.f1 j.f2 j.f3 e obj = some (costF j e obj) := by
  have hm : spec_l1Most.f (wrap64 (e - j.f3)) 0 = some (lateF j e) := by
    unfold spec_l1Most.f lateF
    by_cases h : wrap64 (e - j.f3) > 0
    · rw [if_pos h, if_pos h]
    · rw [if_neg h, if_neg h]
  unfold spec_l2Cost.f costF
  rw [hm, Option.bind_some]
  repeat' split
  all_goals rfl
theorem l6Times_ev (jobs : List S59) (c : Nat) (hn : jobs.length ≤ 8) (hc : c < 256) : Ev (fun k => spec_l6Times.f k jobs (c : Int)) (sumT jobs 0 (blF c 0 jobs.length)) := by
  have key : ∀ (d i : Nat) (acc : Int), i + d = jobs.length → Ev (fun k => spec_l6Times.l0 k jobs (c : Int) acc (i : Int)) (sumT jobs acc (blF c i d)) := by
    intro d
    induction d with
    | zero =>
      intro i acc hi
      refine ev_succ ?_
      simp only [spec_l6Times.l0, if_neg (show ¬ (i : Int) < (jobs.length : Int) by omega)]
      exact ev_now _
    | succ d ih =>
      intro i acc hi
      refine ev_succ ?_
      simp only [spec_l6Times.l0, if_pos (show (i : Int) < (jobs.length : Int) by omega), if_pos (show (0 : Int) ≤ (i : Int) by omega), shr_and c i hc (by omega), wsucc i (by omega), blF]
      by_cases hb : c / 2 ^ i % 2 = 1
      · simp only [if_pos hb, if_pos (mod1 hb)]
        exact ih (i + 1) _ (by omega)
      · simp only [if_neg hb, if_neg (mod0' hb)]
        exact ih (i + 1) _ (by omega)
  unfold spec_l6Times.f
  exact key _ 0 0 (Nat.zero_add _)
theorem l6Last_ev (jobs : List S59) (obj : Int) (L : List Int) (c i : Nat) (hn : jobs.length ≤ 8) (hc : c < 256) (hi : i < jobs.length) (hb : c / 2 ^ i % 2 = 1) (hL : c - 2 ^ i < L.length) : Ev (fun k => spec_l6Last.f k jobs obj L (c : Int) (i : Int)) (lastF jobs obj L c (sumT jobs 0 (blF c 0 jobs.length)) (i : Int)) := by
  have hle := bit_le c i hb
  have hw := wsub hle (by omega)
  unfold spec_l6Last.f
  simp only [if_pos (show (0 : Int) ≤ (i : Int) by omega), shl1 i (by omega), hw, if_pos (show (0 : Int) ≤ ((c - 2 ^ i : Nat) : Int) by omega), if_pos (show ((c - 2 ^ i : Nat) : Int) < (L.length : Int) by omega), if_pos (show (i : Int) < (jobs.length : Int) by omega)]
  refine ev_bind (l6Times_ev jobs c hn hc) ?_
  simp only [l2Cost_eq, Option.bind_some]
  unfold lastF
  rw [Int.toNat_natCast]
  exact ev_now _
theorem l6Values_ev (jobs : List S59) (obj : Int) (hn : jobs.length ≤ 8) : Ev (fun k => spec_l6Values.f k jobs obj) (iterV jobs obj 0 [0] (2 ^ jobs.length - 1)) := by
  have h8 := pow8 _ hn
  have hpos : 0 < 2 ^ jobs.length := Nat.two_pow_pos _
  have key1 : ∀ (c : Nat) (L : List Int), L.length = c → c < 2 ^ jobs.length → 0 < c → (Ev (fun k => spec_l6Values.l0 k jobs obj (nextV jobs obj 0 L) ((c + 1 : Nat) : Int)) (iterV jobs obj 0 (nextV jobs obj 0 L) (2 ^ jobs.length - (c + 1)))) →
      ∀ (d i : Nat) (b : Int), i + d = jobs.length → bestF jobs obj L c (sumT jobs 0 (blF c 0 jobs.length)) b (blF c i d) = bestF jobs obj L c (sumT jobs 0 (blF c 0 jobs.length)) (-1) (blF c 0 jobs.length) →
      Ev (fun k => spec_l6Values.l1 k jobs obj L (c : Int) b (i : Int)) (iterV jobs obj 0 (nextV jobs obj 0 L) (2 ^ jobs.length - (c + 1))) := by
    intro c L hL hc h0 hnext d
    induction d with
    | zero =>
      intro i b hi hb
      refine ev_succ ?_
      simp only [spec_l6Values.l1, if_neg (show ¬ (i : Int) < (jobs.length : Int) by omega), if_pos (show L.length < 17592186044416 by omega), wsucc c (by omega)]
      have e : L ++ [b] = nextV jobs obj 0 L := by
        unfold nextV
        rw [hL, show wrap64 (0 + sumT jobs 0 (blF c 0 jobs.length)) = sumT jobs 0 (blF c 0 jobs.length) by
          have := sumT_I64 jobs (blF c 0 jobs.length) 0 (by unfold I64; omega)
          rw [Int.zero_add]; exact w64 this.1 this.2, ← hb]
        rfl
      rw [e]
      exact hnext
    | succ d ih =>
      intro i b hi hb
      refine ev_succ ?_
      simp only [spec_l6Values.l1, if_pos (show (i : Int) < (jobs.length : Int) by omega), if_pos (show (0 : Int) ≤ (i : Int) by omega), shr_and c i (by omega) (by omega), wsucc i (by omega)]
      by_cases hbit : c / 2 ^ i % 2 = 1
      · simp only [if_neg (mod1' hbit)]
        refine ev_bind (l6Last_ev jobs obj L c i hn (by omega) (by omega) hbit (by have := Nat.two_pow_pos i; omega)) ?_
        have h := ih (i + 1) (stepB b (lastF jobs obj L c (sumT jobs 0 (blF c 0 jobs.length)) (i : Int))) (by omega) (by rw [← hb, blF_hit hbit]; rfl)
        unfold stepB at h
        by_cases c1 : b < 0
        · simp only [if_pos c1] at h ⊢; exact h
        · by_cases c2 : lastF jobs obj L c (sumT jobs 0 (blF c 0 jobs.length)) (i : Int) < b
          · simp only [if_neg c1, if_pos c2] at h ⊢; exact h
          · simp only [if_neg c1, if_neg c2] at h ⊢; exact h
      · simp only [if_pos (mod0 hbit)]
        refine ih (i + 1) b (by omega) ?_
        rw [← hb, blF_miss hbit]
  have key0 : ∀ (d c : Nat) (L : List Int), c + d = 2 ^ jobs.length → L.length = c → 0 < c → Ev (fun k => spec_l6Values.l0 k jobs obj L (c : Int)) (iterV jobs obj 0 L (2 ^ jobs.length - c)) := by
    intro d
    induction d with
    | zero =>
      intro c L hc hL h0
      refine ev_succ ?_
      simp only [spec_l6Values.l0, shl1 _ (show jobs.length < 9 by omega), if_neg (show ¬ (c : Int) < ((2 ^ jobs.length : Nat) : Int) by omega), show 2 ^ jobs.length - c = 0 by omega]
      exact ev_now _
    | succ d ih =>
      intro c L hc hL h0
      refine ev_succ ?_
      simp only [spec_l6Values.l0, shl1 _ (show jobs.length < 9 by omega), if_pos (show (c : Int) < ((2 ^ jobs.length : Nat) : Int) by omega)]
      rw [show 2 ^ jobs.length - c = (2 ^ jobs.length - (c + 1)) + 1 by omega]
      exact key1 c L hL (by omega) h0 (ih (c + 1) _ (by omega) (by rw [nextV_len]; omega) (by omega)) jobs.length 0 (-1) (Nat.zero_add _) rfl
  unfold spec_l6Values.f
  exact key0 (2 ^ jobs.length - 1) 1 [0] (by omega) rfl (by omega)
theorem setValues_ev (jobs : List S59) (obj base : Int) (hn : jobs.length ≤ 8) (ho : obj = 2 ∨ obj = 3 ∨ obj = 5 ∨ obj = 6 ∨ obj = 7 ∨ obj = 8) : Ev (fun k => impl_setValues.f k jobs obj base) (iterV jobs obj base [0] (2 ^ jobs.length - 1)) := by
  have h8 := pow8 _ hn
  have hpos : 0 < 2 ^ jobs.length := Nat.two_pow_pos _
  have key1 : ∀ (c : Nat) (L R : List Int) (e : Int), L.length = c → c + 1 + R.length = 2 ^ jobs.length → 0 < c → allI L → (∀ b : Int, b = bestF jobs obj L c e (-1) (blF c 0 jobs.length) → Ev (fun k => impl_setValues.l0 k jobs obj base (L ++ b :: R) ((c + 1 : Nat) : Int)) (iterV jobs obj base (L ++ [b]) (2 ^ jobs.length - (c + 1)))) →
      ∀ (d p : Nat) (b : Int), p + d = (blF c 0 jobs.length).length → bestF jobs obj L c e b ((blF c 0 jobs.length).drop p) = bestF jobs obj L c e (-1) (blF c 0 jobs.length) →
      Ev (fun k => impl_setValues.l1 k jobs obj base (L ++ b :: R) (c : Int) e (blF c 0 jobs.length) ((blF c 0 jobs.length).length : Int) (p : Int)) (iterV jobs obj base (L ++ [bestF jobs obj L c e (-1) (blF c 0 jobs.length)]) (2 ^ jobs.length - (c + 1))) := by
    intro c L R e hL hc h0 hI hnext d
    have hbl := blF_len c jobs.length 0
    induction d with
    | zero =>
      intro p b hp hb
      refine ev_succ ?_
      rw [List.drop_of_length_le (by omega)] at hb
      have hb' : b = bestF jobs obj L c e (-1) (blF c 0 jobs.length) := hb
      simp only [impl_setValues.l1, if_neg (show ¬ (p : Int) < ((blF c 0 jobs.length).length : Int) by omega), wsucc c (by omega)]
      rw [← hb']
      exact hnext b hb'
    | succ d ih =>
      intro p b hp hb
      refine ev_succ ?_
      have hx : p < (blF c 0 jobs.length).length := by omega
      obtain ⟨i, hi, _, hij, hbit⟩ := blF_mem c _ _ _ (List.getElem_mem hx)
      have hle := bit_le c i hbit
      have hp2 := Nat.two_pow_pos i
      have hlen : (L ++ b :: R).length = 2 ^ jobs.length := by rw [List.length_append, List.length_cons]; omega
      rw [List.drop_eq_getElem_cons hx, hi] at hb
      have hadd := add_eq (rd L ((c - 2 ^ i : Nat) : Int)) (rd_T59 jobs (i : Int)) e obj (allI_rd hI _) ho
      have hs : wrap64 (rd L ((c - 2 ^ i : Nat) : Int) + costF (rd_T59 jobs (i : Int)) e obj) = lastF jobs obj L c e (i : Int) := by unfold lastF; rw [Int.toNat_natCast]
      rw [hs] at hadd
      have h := ih (p + 1) (stepB b (lastF jobs obj L c e (i : Int))) (by omega) (by rw [← hb]; rfl)
      simp only [impl_setValues.l1, if_pos (show (p : Int) < ((blF c 0 jobs.length).length : Int) by omega), if_pos (show (0 : Int) ≤ (p : Int) by omega), rdz _ p hx, hi, if_pos (show (0 : Int) ≤ (i : Int) by omega), shl1 i (by omega), andn c (by omega) i (by omega) hbit, if_pos (show (0 : Int) ≤ ((c - 2 ^ i : Nat) : Int) by omega), hlen, if_pos (show ((c - 2 ^ i : Nat) : Int) < ((2 ^ jobs.length : Nat) : Int) by omega), if_pos (show (i : Int) < (jobs.length : Int) by omega), rd_left L (b :: R) (c - 2 ^ i) (by omega), hadd, Option.bind_some, if_pos (show (0 : Int) ≤ (c : Int) by omega), if_pos (show (c : Int) < ((2 ^ jobs.length : Nat) : Int) by omega), rd_mid L R b c hL.symm, Int.toNat_natCast, set_mid L R b _ c hL.symm, wsucc p (by omega)]
      unfold stepB at h
      by_cases c1 : b < 0
      · simp only [if_pos c1] at h ⊢; exact h
      · by_cases c2 : lastF jobs obj L c e (i : Int) < b
        · simp only [if_neg c1, if_pos c2] at h ⊢; exact h
        · simp only [if_neg c1, if_neg c2] at h ⊢; exact h
  have key0 : ∀ (d c : Nat) (L R : List Int), c + d = 2 ^ jobs.length → L.length = c → R.length = d → 0 < c → allI L → Ev (fun k => impl_setValues.l0 k jobs obj base (L ++ R) (c : Int)) (iterV jobs obj base L (2 ^ jobs.length - c)) := by
    intro d
    induction d with
    | zero =>
      intro c L R hc hL hR h0 hI
      refine ev_succ ?_
      rw [List.length_eq_zero_iff.mp hR, List.append_nil]
      simp only [impl_setValues.l0, if_neg (show ¬ (c : Int) < (L.length : Int) by omega), show 2 ^ jobs.length - c = 0 by omega]
      exact ev_now _
    | succ d ih =>
      intro c L R hc hL hR h0 hI
      refine ev_succ ?_
      match R, hR with
      | x :: R, hR =>
        have hR' : R.length = d := by simpa using hR
        have hlen : (L ++ x :: R).length = 2 ^ jobs.length := by rw [List.length_append, List.length_cons]; omega
        simp only [impl_setValues.l0, hlen, if_pos (show (c : Int) < ((2 ^ jobs.length : Nat) : Int) by omega)]
        refine ev_bind (timeOf_ev jobs c hn (by omega)) ?_
        simp only [if_pos (show (0 : Int) ≤ (c : Int) by omega), Int.toNat_natCast, set_mid L R x (-1) c hL.symm]
        refine ev_bind (listOf_ev c _ hn (by omega)) ?_
        rw [show 2 ^ jobs.length - c = (2 ^ jobs.length - (c + 1)) + 1 by omega]
        have hnv : nextV jobs obj base L = L ++ [bestF jobs obj L c (wrap64 (base + sumT jobs 0 (blF c 0 jobs.length))) (-1) (blF c 0 jobs.length)] := by unfold nextV; rw [hL]
        unfold iterV
        rw [hnv]
        refine key1 c L R _ hL (by omega) h0 hI (fun b hb => ?_) _ 0 (-1) (Nat.zero_add _) rfl
        have h := ih (c + 1) (L ++ [b]) R (by omega) (by rw [List.length_append, List.length_singleton]; omega) hR' (by omega) (by
          have := nextV_I64 (jobs := jobs) (obj := obj) (base := base) hI
          rw [hnv, ← hb] at this
          exact this)
        rw [List.append_assoc] at h
        exact h
  unfold impl_setValues.f
  simp only [shl1 _ (show jobs.length < 9 by omega), if_pos (show (0 : Int) ≤ ((2 ^ jobs.length : Nat) : Int) by omega), Int.toNat_natCast, if_pos (show 2 ^ jobs.length ≤ 35184372088832 by omega)]
  have h := key0 (2 ^ jobs.length - 1) 1 [0] (List.replicate (2 ^ jobs.length - 1) 0) (by omega) rfl (by simp) (by omega) (by intro x hx; rw [List.mem_singleton.mp hx]; unfold I64; omega)
  rw [show [(0 : Int)] ++ List.replicate (2 ^ jobs.length - 1) 0 = List.replicate (2 ^ jobs.length) 0 by
    rw [show 2 ^ jobs.length = (2 ^ jobs.length - 1) + 1 by omega, List.replicate_succ]; simp] at h
  exact h

def sumO (o : Int) : Bool := (decide (1 ≤ o) && decide (o ≤ 8)) && !(decide (o = 1) || decide (o = 4))
theorem sumO_spec (o : Int) (h : sumO o = true) : o = 2 ∨ o = 3 ∨ o = 5 ∨ o = 6 ∨ o = 7 ∨ o = 8 := by
  unfold sumO at h
  simp only [Bool.and_eq_true, decide_eq_true_eq, Bool.not_eq_true', Bool.or_eq_false_iff, decide_eq_false_iff_not] at h
  omega
theorem l6Sum_eq (o : Int) : spec_l6Sum.f o = some (sumO o) := by
  unfold spec_l6Sum.f spec_l2Objective.f spec_l2Greatest.f sumO
  simp only [l1In_eq, Option.bind_some]
  cases hb : (decide (1 ≤ o) && decide (o ≤ 8))
  · simp
  · simp only [if_true, Bool.true_and]
    by_cases h1 : o = 1
    · simp [h1]
    · simp only [if_neg h1, decide_eq_false h1, Bool.false_or]; rfl
theorem isSum_eq (o : Int) : impl_isSumObjective.f o = some (sumO o) := by
  unfold impl_isSumObjective.f impl_isObjective.f sumO
  simp only [within_eq, Option.bind_some]
  cases hb : (decide (1 ≤ o) && decide (o ≤ 8))
  · simp
  · simp only [if_true, Bool.true_and]
    by_cases h1 : o = 1
    · simp [h1]
    · simp only [if_neg h1, decide_eq_false h1, Bool.false_or]; rfl

theorem core (l : List S59) (o : Int) (hm : l.length ≤ 1048576) (_ : ∀ (i : Nat) (hi : i < l.length), I64 l[i].f0 ∧ I64 l[i].f1 ∧ I64 l[i].f2 ∧ I64 l[i].f3) (_ : I64 o) :
    ∃ (r : List Int) (ok : Bool), r.length ≤ 1048576 ∧ Ev (fun k => spec_SetValues.f k l o) (r, ok) ∧ Ev (fun k => impl_SetValues.f k l o) (r, ok) := by
  have h1 := l6Good_ev l (by omega)
  have h2 := IsPlain_ev l (by omega)
  unfold spec_SetValues.f impl_SetValues.f
  simp only [l6Sum_eq, isSum_eq, Option.bind_some]
  cases hp : plainB l
  · rw [hp] at h1 h2
    exact ⟨[], false, by simp, ev_bind h1 (by simp only [Bool.false_eq_true, if_false]; exact ev_now _), ev_bind h2 (by simp only [Bool.false_eq_true, if_false]; exact ev_now _)⟩
  rw [hp] at h1 h2
  have hn : l.length ≤ 8 := good_len (plain_good hp)
  have h8 := pow8 _ hn
  have hpos : 0 < 2 ^ l.length := Nat.two_pow_pos _
  cases ho : sumO o
  · exact ⟨[], false, by simp, ev_bind h1 (by simp only [Bool.false_eq_true, if_false, if_true]; exact ev_now _), ev_bind h2 (by simp only [Bool.false_eq_true, if_false, if_true]; exact ev_now _)⟩
  have hlen : (iterV l o 0 [0] (2 ^ l.length - 1)).length = 2 ^ l.length := by rw [iterV_len]; simp; omega
  refine ⟨iterV l o 0 [0] (2 ^ l.length - 1), true, by omega, ev_bind h1 ?_, ev_bind h2 ?_⟩
  · simp only [if_true]
    exact ev_bind (l6Values_ev l o hn) (ev_now _)
  · simp only [if_true]
    exact ev_bind (setValues_ev l o 0 hn (sumO_spec o ho)) (ev_now _)

theorem FnExactSetValues : FnExactSetValues.Claim := by
  intro l0 a1 hl0 hg0 hi1
  refine Ev.rounds ?_
  unfold laws_FnExactSetValues.f
  simp only [szJobS_eq l0 (1048576 : Int) (by omega) (by omega) hl0, Option.bind_some]
  by_cases h0 : (1048576 : Int) < l0.length
  · simp only [if_pos h0, if_pos (show (-1 : Int) < 0 by omega)]
    exact ev_now _
  simp only [if_neg h0, if_neg (show ¬ (((1048576 : Int) - l0.length) < 0) by omega)]
  have ht0 := toJobS_ev l0 (by omega)
  have hm0 : (l0.map conv).length ≤ 1048576 := by simp; omega
  have hq0 := eqJobS_ev (l0.map conv) (by omega)
  obtain ⟨r0, r1, hr0, hs, hi⟩ := core (l0.map conv) a1 hm0 (conv_I64 l0 hg0) hi1
  obtain ⟨qa0, ya0, _, ma0, _⟩ := markJobS_ev (l0.map conv) hm0
  have he0 := eqIntS_ev r0 (by omega)
  obtain ⟨q0, y0, hq_0, m0, e0⟩ := markIntS_ev r0 hr0
  repeat first
    | exact ev_now _
    | with_reducible refine ev_bind hs ?_
    | with_reducible refine ev_bind hi ?_
    | with_reducible refine ev_bind ht0 ?_
    | with_reducible refine ev_bind hq0 ?_
    | with_reducible refine ev_bind ma0 ?_
    | with_reducible refine ev_bind he0 ?_
    | with_reducible refine ev_bind m0 ?_
    | with_reducible refine ev_bind e0 ?_
    | simp only [if_true, if_false, bne_self_eq_false, Bool.false_eq_true, if_neg (show ¬ ((qa0 : Int) < 0) by omega), if_neg (show ¬ ((q0 : Int) < 0) by omega)]
    | (refine ev_succ ?_; simp only [laws_FnExactSetValues.j0])
    | (refine ev_succ ?_; simp only [laws_FnExactSetValues.j1])
    | (refine ev_succ ?_; simp only [laws_FnExactSetValues.j2])

end Go.Proofs.Ythhmembnhnghiaa.Pure
