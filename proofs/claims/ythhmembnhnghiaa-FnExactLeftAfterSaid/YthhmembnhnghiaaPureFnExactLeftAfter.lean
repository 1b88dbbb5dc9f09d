/- The program's function and the reference's come to the same answer: the statement of numbers and lists behind the law FnExactLeftAfter. Conditions: none. -/
import Derived.Test.YthhmembnhnghiaaArgFnExactLeftAfter
import Derived.Test.YthhmembnhnghiaaBase
namespace Go.Proofs.Ythhmembnhnghiaa.Pure
open Go.RowKit Go.Proofs.Ythhmembnhnghiaa.OFnExactLeftAfter Go.Proofs.Ythhmembnhnghiaa.Base Go.Proofs.YthhmembnhnghiaaW.PrintWords Go.Proofs.YthhmembnhnghiaaW.PrintLast Go.Proofs.YthhmembnhnghiaaW.PrintMore Go.Proofs.Ythhmembnhnghiaa.Open
set_option linter.unusedVariables false
set_option linter.unusedSimpArgs false

def laws_heldJobS.l0 : Nat → List (S59) → Int → Int → Option (Int)
  | 0, _, _, _ => none
  | k + 1, x0, x1, x5 => if x5 < (x0.length : Int) then (if 0 ≤ x5 then (if ((rd_T59 x0 x5).f0) = x1 then (if ((rd_T59 x0 x5).f1) = (wrap64 (x1 + 1)) then (if ((rd_T59 x0 x5).f2) = (wrap64 ((wrap64 (x1 + 1)) + 1)) then (if ((rd_T59 x0 x5).f3) = (wrap64 ((wrap64 ((wrap64 (x1 + 1)) + 1)) + 1)) then (laws_heldJobS.l0 k x0 (wrap64 ((wrap64 ((wrap64 ((wrap64 (x1 + 1)) + 1)) + 1)) + 1)) (wrap64 (x5 + 1))) else (some (-1))) else (some (-1))) else (some (-1))) else (some (-1))) else (none)) else (some x1)
def laws_heldJobS.f (k : Nat) (l0 : List (S59)) (a1 : Int) : Option (Int) := laws_heldJobS.l0 k l0 a1 0

theorem szJobS_eq (xs : List S63) (left : Int) (h0 : 0 ≤ left) (h1 : left ≤ 1048576) (h : xs.length ≤ 9223372036854775807) : laws_szJobS.f xs left = some (if left < xs.length then -1 else left - xs.length) := by
  unfold laws_szJobS.f
  rw [w64 (by omega) (by omega)]
  by_cases c : left < xs.length
  · rw [if_pos (by omega), if_pos c]
  · rw [if_neg (by omega), if_neg c]

def conv (x : S63) : S59 := ⟨x.f0, x.f1, x.f2, x.f3⟩
theorem rdL (xs : List S63) (i : Nat) (h : i < xs.length) : rd_T63 xs (i : Int) = xs[i] := by
  unfold rd_T63
  rw [Int.toNat_natCast, List.getD_eq_getElem?_getD, List.getElem?_eq_getElem h]
  rfl

theorem toJobS_l (xs : List S63) (hn : xs.length ≤ 8796093022208) : ∀ (d i : Nat) (ys : List S59), i + d = xs.length → ys.length = xs.length → ys.take i = (xs.map conv).take i → Ev (fun k => laws_toJobS.l0 k xs ys (i : Int)) (xs.map conv) := by
  intro d
  induction d with
  | zero =>
    intro i ys hi hl ht
    refine ev_succ ?_
    simp only [laws_toJobS.l0, if_neg (show ¬ (i : Int) < (xs.length : Int) by omega)]
    have : ys = xs.map conv := by
      rw [List.take_of_length_le (by omega), List.take_of_length_le (by simp; omega)] at ht
      exact ht
    rw [this]
    exact ev_now _
  | succ d ih =>
    intro i ys hi hl ht
    refine ev_succ ?_
    have hx : i < xs.length := by omega
    simp only [laws_toJobS.l0, laws_toJob.f, Option.bind_some, if_pos (show (i : Int) < (xs.length : Int) by omega), if_pos (show (i : Int) < (ys.length : Int) by omega), if_pos (show (0 : Int) ≤ (i : Int) by omega), rdL xs i hx, wsucc i (by omega), Int.toNat_natCast]
    refine ih (i + 1) _ (by omega) (by rw [List.length_set]; exact hl) ?_
    rw [take_set_succ ys i _ (by omega), ht, List.take_succ_eq_append_getElem (by simp; omega)]
    simp [conv]
theorem toJobS_ev (xs : List S63) (hn : xs.length ≤ 1048576) : Ev (fun k => laws_toJobS.f k xs) (xs.map conv) := by
  unfold laws_toJobS.f
  simp only [if_pos (show (0 : Int) ≤ (xs.length : Int) by omega), Int.toNat_natCast, if_pos (show xs.length ≤ 8796093022208 by omega)]
  exact toJobS_l xs (by omega) xs.length 0 _ (by omega) (by simp) (by simp)

theorem rdI (xs : List S59) (i : Nat) (h : i < xs.length) : rd_T59 xs (i : Int) = xs[i] := by
  unfold rd_T59
  rw [Int.toNat_natCast, List.getD_eq_getElem?_getD, List.getElem?_eq_getElem h]
  rfl

theorem eqJobS_l (xs : List S59) (hn : xs.length ≤ 4611686018427387904) : ∀ (d i : Nat), i + d = xs.length → Ev (fun k => laws_eqJobS.l0 k xs xs (i : Int)) true := by
  intro d
  induction d with
  | zero =>
    intro i hi
    refine ev_succ ?_
    simp only [laws_eqJobS.l0, if_neg (show ¬ (i : Int) < (xs.length : Int) by omega)]
    exact ev_now _
  | succ d ih =>
    intro i hi
    refine ev_succ ?_
    simp only [laws_eqJobS.l0, laws_eqJob.f, if_true, Option.bind_some, if_pos (show (i : Int) < (xs.length : Int) by omega), if_pos (show (0 : Int) ≤ (i : Int) by omega), wsucc i (by omega)]
    exact ih (i + 1) (by omega)
theorem eqJobS_ev (xs : List S59) (hn : xs.length ≤ 4611686018427387904) : Ev (fun k => laws_eqJobS.f k xs xs) true := by
  unfold laws_eqJobS.f
  simp only [if_true]
  exact eqJobS_l xs hn xs.length 0 (by omega)

theorem conv_I64 (l : List S63) (hg : ∀ x ∈ l, G63 x) (i : Nat) (hi : i < (l.map conv).length) : I64 (l.map conv)[i].f0 ∧ I64 (l.map conv)[i].f1 ∧ I64 (l.map conv)[i].f2 ∧ I64 (l.map conv)[i].f3 := by
  simp only [List.getElem_map, conv]
  exact hg _ (List.getElem_mem _)

theorem rdI_set (xs : List S59) (i : Nat) (h : i < xs.length) (v : S59) : rd_T59 (xs.set i v) (i : Int) = v := by
  rw [rdI _ i (by rw [List.length_set]; exact h)]
  simp
theorem markJobS_l : ∀ (d i m : Nat) (xs : List S59), i + d = xs.length → m + 4 * d ≤ 1152921504606846976 → xs.length ≤ 1152921504606846976 →
    ∃ (q : Nat) (ys : List S59), Ev (fun k => laws_markJobS.l0 k xs (m : Int) (i : Int)) ((q : Int), ys) ∧ ys.length = xs.length ∧ ys.take i = xs.take i ∧ m ≤ q ∧ q ≤ m + 4 * d ∧ Ev (fun k => laws_heldJobS.l0 k ys (m : Int) (i : Int)) (q : Int) := by
  intro d
  induction d with
  | zero =>
    intro i m xs hi hmd hxl
    refine ⟨m, xs, ev_succ ?_, rfl, rfl, Nat.le_refl _, by omega, ev_succ ?_⟩
    · simp only [laws_markJobS.l0, if_neg (show ¬ (i : Int) < (xs.length : Int) by omega)]
      exact ev_now _
    · simp only [laws_heldJobS.l0, if_neg (show ¬ (i : Int) < (xs.length : Int) by omega)]
      exact ev_now _
  | succ d ih =>
    intro i m xs hi hmd hxl
    obtain ⟨q, ys, h1, h2, h3, h4, h4', h5⟩ := ih (i + 1) (m + 4) (xs.set i ⟨(m : Int), ((m + 1 : Nat) : Int), ((m + 2 : Nat) : Int), ((m + 3 : Nat) : Int)⟩) (by rw [List.length_set]; omega) (by omega) (by rw [List.length_set]; omega)
    rw [List.length_set] at h2
    rw [take_set_succ xs i _ (by omega)] at h3
    have hy : ys[i]'(by omega) = ⟨(m : Int), ((m + 1 : Nat) : Int), ((m + 2 : Nat) : Int), ((m + 3 : Nat) : Int)⟩ := by
      have := congrArg (fun l => l[i]?) h3
      simp only [List.getElem?_take, if_pos (show i < i + 1 by omega)] at this
      rw [List.getElem?_append_right (by simp; omega), List.getElem?_eq_getElem (by omega)] at this
      simpa [Nat.min_eq_left (show i ≤ xs.length by omega)] using this
    refine ⟨q, ys, ev_succ ?_, h2, ?_, by omega, by omega, ev_succ ?_⟩
    · simp only [laws_markJobS.l0, Option.bind_some, if_pos (show (i : Int) < (xs.length : Int) by omega), if_pos (show (0 : Int) ≤ (i : Int) by omega), wsucc i (by omega), wsucc m (by omega), wsucc (m + 1) (by omega), wsucc (m + 2) (by omega), wsucc (m + 3) (by omega), Int.toNat_natCast, rdI_set xs i (by omega), List.set_set]
      exact h1
    · have := congrArg (fun l => l.take i) h3
      simp only [List.take_take, Nat.min_eq_left (show i ≤ i + 1 by omega)] at this
      rw [this, List.take_append_of_le_length (by simp; omega), List.take_take, Nat.min_self]
    · simp only [laws_heldJobS.l0, if_pos (show (i : Int) < (ys.length : Int) by omega), if_pos (show (0 : Int) ≤ (i : Int) by omega), wsucc i (by omega), wsucc m (by omega), wsucc (m + 1) (by omega), wsucc (m + 2) (by omega), wsucc (m + 3) (by omega), rdI ys i (by omega), hy, if_true]
      exact h5
theorem markJobS_ev (xs : List S59) (h : xs.length ≤ 1048576) : ∃ (q : Nat) (ys : List S59), 1 ≤ q ∧ Ev (fun k => laws_markJobS.f k xs 1) ((q : Int), ys) ∧ Ev (fun k => laws_heldJobS.f k ys 1) (q : Int) := by
  obtain ⟨q, ys, h1, h2, h3, h4, h4', h5⟩ := markJobS_l xs.length 0 1 xs (by omega) (by omega) (by omega)
  exact ⟨q, ys, h4, h1, h5⟩

theorem markJobS_from (xs : List S59) (h : xs.length ≤ 1048576) (m : Nat) (hm : m ≤ 1000000000) : ∃ (q : Nat) (ys : List S59), m ≤ q ∧ q ≤ m + 4194304 ∧ Ev (fun k => laws_markJobS.f k xs (m : Int)) ((q : Int), ys) := by
  obtain ⟨q, ys, h1, h2, h3, h4, h4', h5⟩ := markJobS_l xs.length 0 m xs (by omega) (by omega) (by omega)
  exact ⟨q, ys, h4, by omega, h1⟩
theorem markJobS_from1 (xs : List S59) (h : xs.length ≤ 1048576) : ∃ (q : Nat) (ys : List S59), 1 ≤ q ∧ q ≤ 1 + 4194304 ∧ Ev (fun k => laws_markJobS.f k xs 1) ((q : Int), ys) := markJobS_from xs h 1 (by omega)

theorem eqIntS_l (xs : List Int) (hn : xs.length ≤ 4611686018427387904) : ∀ (d i : Nat), i + d = xs.length → Ev (fun k => laws_eqIntS.l0 k xs xs (i : Int)) true := by
  intro d
  induction d with
  | zero =>
    intro i hi
    refine ev_succ ?_
    simp only [laws_eqIntS.l0, if_neg (show ¬ (i : Int) < (xs.length : Int) by omega)]
    exact ev_now _
  | succ d ih =>
    intro i hi
    refine ev_succ ?_
    simp only [laws_eqIntS.l0, if_true, if_pos (show (i : Int) < (xs.length : Int) by omega), if_pos (show (0 : Int) ≤ (i : Int) by omega), wsucc i (by omega)]
    exact ih (i + 1) (by omega)
theorem eqIntS_ev (xs : List Int) (hn : xs.length ≤ 4611686018427387904) : Ev (fun k => laws_eqIntS.f k xs xs) true := by
  unfold laws_eqIntS.f
  simp only [if_true]
  exact eqIntS_l xs hn xs.length 0 (by omega)

theorem rdN (xs : List Int) (i : Nat) (h : i < xs.length) : rd xs (i : Int) = xs[i] := by
  unfold rd
  rw [Int.toNat_natCast, List.getD_eq_getElem?_getD, List.getElem?_eq_getElem h]
  rfl

theorem markIntS_l : ∀ (d i m : Nat) (xs : List Int), i + d = xs.length → m + d ≤ 1152921504606846976 → xs.length ≤ 1152921504606846976 →
    ∃ (q : Nat) (ys : List Int), Ev (fun k => laws_markIntS.l0 k xs (m : Int) (i : Int)) ((q : Int), ys) ∧ ys.length = xs.length ∧ ys.take i = xs.take i ∧ m ≤ q ∧ q ≤ m + d ∧ Ev (fun k => laws_heldIntS.l0 k ys (m : Int) (i : Int)) (q : Int) := by
  intro d
  induction d with
  | zero =>
    intro i m xs hi hmd hxl
    refine ⟨m, xs, ev_succ ?_, rfl, rfl, Nat.le_refl _, by omega, ev_succ ?_⟩
    · simp only [laws_markIntS.l0, if_neg (show ¬ (i : Int) < (xs.length : Int) by omega)]
      exact ev_now _
    · simp only [laws_heldIntS.l0, if_neg (show ¬ (i : Int) < (xs.length : Int) by omega)]
      exact ev_now _
  | succ d ih =>
    intro i m xs hi hmd hxl
    obtain ⟨q, ys, h1, h2, h3, h4, h4', h5⟩ := ih (i + 1) (m + 1) (xs.set i (m : Int)) (by rw [List.length_set]; omega) (by omega) (by rw [List.length_set]; omega)
    rw [List.length_set] at h2
    rw [take_set_succ xs i _ (by omega)] at h3
    have hy : ys[i]'(by omega) = (m : Int) := by
      have := congrArg (fun l => l[i]?) h3
      simp only [List.getElem?_take, if_pos (show i < i + 1 by omega)] at this
      rw [List.getElem?_append_right (by simp; omega), List.getElem?_eq_getElem (by omega)] at this
      simpa [Nat.min_eq_left (show i ≤ xs.length by omega)] using this
    have hx : i < xs.length := by omega
    refine ⟨q, ys, ev_succ ?_, h2, ?_, by omega, by omega, ev_succ ?_⟩
    · simp only [laws_markIntS.l0, if_pos (show (i : Int) < (xs.length : Int) by omega), if_pos (show (0 : Int) ≤ (i : Int) by omega), Int.toNat_natCast, wsucc m (by omega), wsucc i (by omega)]
      exact h1
    · have := congrArg (fun l => l.take i) h3
      simp only [List.take_take, Nat.min_eq_left (show i ≤ i + 1 by omega)] at this
      rw [this, List.take_append_of_le_length (by simp; omega), List.take_take, Nat.min_self]
    · simp only [laws_heldIntS.l0, if_pos (show (i : Int) < (ys.length : Int) by omega), if_pos (show (0 : Int) ≤ (i : Int) by omega), rdN ys i (by omega), hy, if_true, wsucc m (by omega), wsucc i (by omega)]
      exact h5
theorem markIntS_ev (xs : List Int) (h : xs.length ≤ 1048576) : ∃ (q : Nat) (ys : List Int), 1 ≤ q ∧ Ev (fun k => laws_markIntS.f k xs 1) ((q : Int), ys) ∧ Ev (fun k => laws_heldIntS.f k ys 1) (q : Int) := by
  obtain ⟨q, ys, h1, h2, h3, h4, h4', h5⟩ := markIntS_l xs.length 0 1 xs (by omega) (by omega) (by omega)
  exact ⟨q, ys, h4, h1, h5⟩

theorem within_eq (a b c : Int) : impl_within.f a b c = some (decide (b ≤ a) && decide (a ≤ c)) := by
  unfold impl_within.f
  by_cases h : b ≤ a
  · rw [if_pos h]; simp [h]
  · rw [if_neg h]; simp [h]

/-- A job's numbers are in their bounds. -/
def okJ (x : S59) : Bool := decide (1 ≤ x.f0) && (decide (x.f0 ≤ 50) && (decide (0 ≤ x.f1) && (decide (x.f1 ≤ 50) && (decide (0 ≤ x.f2) && (decide (x.f2 ≤ 500) && (decide (0 ≤ x.f3) && decide (x.f3 ≤ 500)))))))
def goodB (l : List S59) : Bool := decide (l.length ≤ 8) && l.all okJ
theorem isDate_eq (a : Int) : impl_isDate.f a = some (decide (0 ≤ a) && decide (a ≤ 500)) := by
  unfold impl_isDate.f
  rw [within_eq]
  rfl
theorem job_chain (x : S59) (o : Option Bool) : (if (decide (1 ≤ x.f0) && decide (x.f0 ≤ 50)) = true then (if (decide (0 ≤ x.f1) && decide (x.f1 ≤ 50)) = true then (if (decide (0 ≤ x.f2) && decide (x.f2 ≤ 500)) = true then (if (decide (0 ≤ x.f3) && decide (x.f3 ≤ 500)) = true then o else some false) else some false) else some false) else some false) = if okJ x = true then o else some false := by
  unfold okJ
  by_cases a1 : 1 ≤ x.f0 <;> by_cases a2 : x.f0 ≤ 50 <;> simp [a1, a2]
  by_cases b1 : 0 ≤ x.f1 <;> by_cases b2 : x.f1 ≤ 50 <;> simp [b1, b2]
  by_cases c1 : 0 ≤ x.f2 <;> by_cases c2 : x.f2 ≤ 500 <;> simp [c1, c2]
theorem IsJobs_l (xs : List S59) (hn : xs.length ≤ 4611686018427387904) : ∀ (d i : Nat), i + d = xs.length → Ev (fun k => impl_IsJobs.l0 k xs (xs.length : Int) (i : Int)) ((xs.drop i).all okJ) := by
  intro d
  induction d with
  | zero =>
    intro i hi
    refine ev_succ ?_
    simp only [impl_IsJobs.l0, if_neg (show ¬ (i : Int) < (xs.length : Int) by omega), List.drop_of_length_le (show xs.length ≤ i by omega)]
    exact ev_now _
  | succ d ih =>
    intro i hi
    refine ev_succ ?_
    have hx : i < xs.length := by omega
    have hih := ih (i + 1) (by omega)
    rw [List.drop_eq_getElem_cons hx, List.all_cons]
    simp only [impl_IsJobs.l0, within_eq, isDate_eq, Option.bind_some, if_pos (show (i : Int) < (xs.length : Int) by omega), if_pos (show (0 : Int) ≤ (i : Int) by omega), wsucc i (by omega), rdI xs i hx]
    generalize xs[i] = x at *
    simp only [job_chain]
    by_cases c : okJ x = true
    · simpa only [c, if_true, Bool.true_and] using hih
    · have c' : okJ x = false := by simpa using c
      simp only [c', Bool.false_and]
      exact ev_now _
theorem IsJobs_ev (xs : List S59) (hn : xs.length ≤ 4611686018427387904) : Ev (fun k => impl_IsJobs.f k xs) (goodB xs) := by
  unfold impl_IsJobs.f goodB
  by_cases h : xs.length ≤ 8
  · simp only [if_neg (show ¬ ((xs.length : Int) > 8) by omega), decide_eq_true h, Bool.true_and]
    exact IsJobs_l xs hn xs.length 0 (by omega)
  · simp only [if_pos (show ((xs.length : Int) > 8) by omega), decide_eq_false h, Bool.false_and]
    exact ev_now _

def freeJ (x : S59) : Bool := decide (x.f2 = 0)
def plainB (l : List S59) : Bool := goodB l && l.all freeJ
theorem isPlain_l (xs : List S59) (hn : xs.length ≤ 4611686018427387904) : ∀ (d i : Nat), i + d = xs.length → Ev (fun k => impl_isPlain.l0 k xs (xs.length : Int) (i : Int)) ((xs.drop i).all freeJ) := by
  intro d
  induction d with
  | zero =>
    intro i hi
    refine ev_succ ?_
    simp only [impl_isPlain.l0, if_neg (show ¬ (i : Int) < (xs.length : Int) by omega), List.drop_of_length_le (show xs.length ≤ i by omega)]
    exact ev_now _
  | succ d ih =>
    intro i hi
    refine ev_succ ?_
    have hx : i < xs.length := by omega
    have hih := ih (i + 1) (by omega)
    rw [List.drop_eq_getElem_cons hx, List.all_cons]
    simp only [impl_isPlain.l0, if_pos (show (i : Int) < (xs.length : Int) by omega), if_pos (show (0 : Int) ≤ (i : Int) by omega), wsucc i (by omega), rdI xs i hx]
    by_cases c : (xs[i]).f2 = 0
    · simp only [if_pos c, freeJ, decide_eq_true c, Bool.true_and]
      exact hih
    · simp only [if_neg c, freeJ, decide_eq_false c, Bool.false_and]
      exact ev_now _
theorem isPlain_ev (xs : List S59) (hn : xs.length ≤ 4611686018427387904) : Ev (fun k => impl_isPlain.f k xs) (xs.all freeJ) := by
  unfold impl_isPlain.f
  exact isPlain_l xs hn xs.length 0 (by omega)

theorem IsPlain_ev (xs : List S59) (hn : xs.length ≤ 4611686018427387904) : Ev (fun k => impl_IsPlain.f k xs) (plainB xs) := by
  unfold impl_IsPlain.f plainB
  refine ev_bind (IsJobs_ev xs hn) ?_
  cases goodB xs
  · simp only [Bool.false_eq_true, if_false, Bool.false_and]; exact ev_now _
  · simp only [if_true, Bool.true_and]; exact ev_bind (isPlain_ev xs hn) (ev_now _)

theorem l1In_eq (a b c : Int) : spec_l1In.f a b c = some (decide (b ≤ a) && decide (a ≤ c)) := by
  unfold spec_l1In.f
  by_cases h : b ≤ a
  · rw [if_pos h]; simp [h]
  · rw [if_neg h]; simp [h]

theorem l2Job_eq (x : S59) : spec_l2Job.f x.f0 x.f1 x.f2 x.f3 = some (okJ x) := by
  unfold spec_l2Job.f okJ
  simp only [l1In_eq, Option.bind_some]
  by_cases a1 : 1 ≤ x.f0 <;> by_cases a2 : x.f0 ≤ 50 <;> simp [a1, a2]
  by_cases b1 : 0 ≤ x.f1 <;> by_cases b2 : x.f1 ≤ 50 <;> simp [b1, b2]
  by_cases c1 : 0 ≤ x.f2 <;> by_cases c2 : x.f2 ≤ 500 <;> simp [c1, c2]
theorem l2Good_l (xs : List S59) (hn : xs.length ≤ 4611686018427387904) : ∀ (d i : Nat), i + d = xs.length → Ev (fun k => spec_l2Good.l0 k xs (i : Int)) ((xs.drop i).all okJ && decide (xs.length ≤ 8)) := by
  intro d
  induction d with
  | zero =>
    intro i hi
    refine ev_succ ?_
    simp only [spec_l2Good.l0, if_neg (show ¬ (i : Int) < (xs.length : Int) by omega), List.drop_of_length_le (show xs.length ≤ i by omega)]
    refine ev_const ?_
    simp
    omega
  | succ d ih =>
    intro i hi
    refine ev_succ ?_
    have hx : i < xs.length := by omega
    have hih := ih (i + 1) (by omega)
    rw [List.drop_eq_getElem_cons hx, List.all_cons]
    simp only [spec_l2Good.l0, if_pos (show (i : Int) < (xs.length : Int) by omega), if_pos (show (0 : Int) ≤ (i : Int) by omega), wsucc i (by omega), rdI xs i hx, l2Job_eq, Option.bind_some]
    by_cases c : okJ xs[i] = true
    · simpa only [c, if_true, Bool.true_and] using hih
    · have c' : okJ xs[i] = false := by simpa using c
      simp only [c', Bool.false_and]
      exact ev_now _
theorem l2Good_ev (xs : List S59) (hn : xs.length ≤ 4611686018427387904) : Ev (fun k => spec_l2Good.f k xs) (goodB xs) := by
  unfold spec_l2Good.f goodB
  rw [Bool.and_comm]
  exact l2Good_l xs hn xs.length 0 (by omega)

theorem l3Plain_l (xs : List S59) (hn : xs.length ≤ 4611686018427387904) : ∀ (d i : Nat), i + d = xs.length → Ev (fun k => spec_l3Plain.l0 k xs (i : Int)) ((xs.drop i).all freeJ) := by
  intro d
  induction d with
  | zero =>
    intro i hi
    refine ev_succ ?_
    simp only [spec_l3Plain.l0, if_neg (show ¬ (i : Int) < (xs.length : Int) by omega), List.drop_of_length_le (show xs.length ≤ i by omega)]
    exact ev_now _
  | succ d ih =>
    intro i hi
    refine ev_succ ?_
    have hx : i < xs.length := by omega
    have hih := ih (i + 1) (by omega)
    rw [List.drop_eq_getElem_cons hx, List.all_cons]
    simp only [spec_l3Plain.l0, if_pos (show (i : Int) < (xs.length : Int) by omega), if_pos (show (0 : Int) ≤ (i : Int) by omega), wsucc i (by omega), rdI xs i hx]
    by_cases c : (xs[i]).f2 = 0
    · simp only [if_pos c, freeJ, decide_eq_true c, Bool.true_and]
      exact hih
    · simp only [if_neg c, freeJ, decide_eq_false c, Bool.false_and]
      exact ev_now _
theorem l3Plain_ev (xs : List S59) (hn : xs.length ≤ 4611686018427387904) : Ev (fun k => spec_l3Plain.f k xs) (xs.all freeJ) := by
  unfold spec_l3Plain.f
  exact l3Plain_l xs hn xs.length 0 (by omega)

theorem specIsPlain_ev (xs : List S59) (hn : xs.length ≤ 4611686018427387904) : Ev (fun k => spec_IsPlain.f k xs) (plainB xs) := by
  unfold spec_IsPlain.f plainB
  refine ev_bind (l2Good_ev xs hn) ?_
  cases goodB xs
  · simp only [Bool.false_eq_true, if_false, Bool.false_and]; exact ev_now _
  · simp only [if_true, Bool.true_and]; exact ev_bind (l3Plain_ev xs hn) (ev_now _)

theorem plain_good {xs : List S59} (h : plainB xs = true) : goodB xs = true := by
  unfold plainB at h
  simp only [Bool.and_eq_true] at h
  exact h.1

theorem good_len {xs : List S59} (h : goodB xs = true) : xs.length ≤ 8 := by
  unfold goodB at h
  simp only [Bool.and_eq_true, decide_eq_true_eq] at h
  exact h.1
theorem good_at {xs : List S59} (h : goodB xs = true) (i : Nat) (hi : i < xs.length) : 1 ≤ xs[i].f0 ∧ xs[i].f0 ≤ 50 ∧ 0 ≤ xs[i].f1 ∧ xs[i].f1 ≤ 50 ∧ 0 ≤ xs[i].f2 ∧ xs[i].f2 ≤ 500 ∧ 0 ≤ xs[i].f3 ∧ xs[i].f3 ≤ 500 := by
  unfold goodB at h
  simp only [Bool.and_eq_true, List.all_eq_true] at h
  have b := h.2 xs[i] (List.getElem_mem hi)
  simp only [okJ, Bool.and_eq_true, decide_eq_true_eq] at b
  obtain ⟨a1, a2, b1, b2, c1, c2, d1, d2⟩ := b
  exact ⟨a1, a2, b1, b2, c1, c2, d1, d2⟩

abbrev inJ (n : Nat) (i : Int) : Prop := 0 ≤ i ∧ i < (n : Int)
theorem inJ_nat {n : Nat} {a : Int} (h : inJ n a) : ∃ i : Nat, i < n ∧ a = (i : Int) := ⟨a.toNat, by have := h.1; have := h.2; omega, by have := h.1; omega⟩
theorem rd_nat (l : List S59) {a : Int} (h : inJ l.length a) : rd_T59 l a = l[a.toNat]'(by have := h.1; have := h.2; omega) := by
  obtain ⟨i, hi, rfl⟩ := inJ_nat h
  rw [rdI l i hi]
  rfl

def tmJ (l : List S59) (a : Int) : Int := (rd_T59 l a).f0
def duJ (l : List S59) (a : Int) : Int := (rd_T59 l a).f3
/-- Times and dates that stay small. -/
def smallJ (l : List S59) : Prop := ∀ (i : Nat) (hi : i < l.length), 0 ≤ l[i].f0 ∧ l[i].f0 ≤ 50 ∧ 0 ≤ l[i].f3 ∧ l[i].f3 ≤ 1000
theorem small_at {l : List S59} (h : smallJ l) {a : Int} (ha : inJ l.length a) : 0 ≤ tmJ l a ∧ tmJ l a ≤ 50 ∧ 0 ≤ duJ l a ∧ duJ l a ≤ 1000 := by
  unfold tmJ duJ
  rw [rd_nat l ha]
  exact h _ _

theorem rdW (o : List Int) (n : Nat) (h : n < o.length) : rd o (n : Int) = o[n] := by
  simp [rd]
  rw [List.getElem?_eq_getElem h]; rfl

/-- Where a number goes among sorted ones: ahead of the first that it comes ahead of. -/
def posW (lt : Int → Int → Bool) (i : Int) (o : List Int) : Nat := o.findIdx (fun b => lt i b)
def insW (lt : Int → Int → Bool) (i : Int) (o : List Int) : List Int := o.take (posW lt i o) ++ i :: o.drop (posW lt i o)
def sortW (lt : Int → Int → Bool) : List Int → List Int → List Int
  | [], o => o
  | i :: t, o => sortW lt t (insW lt i o)
structure OrdW (lt : Int → Int → Bool) (D : Int → Prop) : Prop where
  asym : ∀ a b, D a → D b → lt a b = true → lt b a = false
  co : ∀ i a b, D i → D a → D b → lt i a = true → lt b a = false → lt i b = true
abbrev SortedW (lt : Int → Int → Bool) (o : List Int) : Prop := o.Pairwise (fun a b => lt b a = false)
theorem posW_le (lt : Int → Int → Bool) (i : Int) (o : List Int) : posW lt i o ≤ o.length := List.findIdx_le_length
theorem posW_before {lt : Int → Int → Bool} {i : Int} {o : List Int} {j : Nat} (h : j < posW lt i o) : lt i (o[j]'(Nat.lt_of_lt_of_le h (posW_le _ _ _))) = false := by
  have := List.not_of_lt_findIdx (p := fun b => lt i b) h
  simpa using this
theorem posW_at {lt : Int → Int → Bool} {i : Int} {o : List Int} (h : posW lt i o < o.length) : lt i (o[posW lt i o]'h) = true := List.findIdx_getElem (w := h)
theorem posW_behind {lt : Int → Int → Bool} {D : Int → Prop} (H : OrdW lt D) {i : Int} {o : List Int} (hi : D i) (ho : ∀ b ∈ o, D b) (hs : SortedW lt o) {j : Nat} (hj : posW lt i o ≤ j) (hl : j < o.length) : lt i (o[j]'hl) = true := by
  have hp : posW lt i o < o.length := by omega
  have h0 := posW_at hp
  rcases Nat.lt_or_ge (posW lt i o) j with h | h
  · have h1 := List.pairwise_iff_getElem.1 hs _ _ hp hl h
    exact H.co i _ _ hi (ho _ (List.getElem_mem hp)) (ho _ (List.getElem_mem hl)) h0 h1
  · have : j = posW lt i o := by omega
    subst this
    exact h0
theorem insW_perm (lt : Int → Int → Bool) (i : Int) (o : List Int) : (insW lt i o).Perm (i :: o) := by
  unfold insW
  refine List.perm_middle.trans ?_
  rw [List.take_append_drop]
theorem insW_sorted {lt : Int → Int → Bool} {D : Int → Prop} (H : OrdW lt D) {i : Int} {o : List Int} (hi : D i) (ho : ∀ b ∈ o, D b) (hs : SortedW lt o) : SortedW lt (insW lt i o) := by
  unfold insW SortedW
  rw [List.pairwise_append]
  refine ⟨hs.sublist (List.take_sublist _ _), List.pairwise_cons.2 ⟨?_, hs.sublist (List.drop_sublist _ _)⟩, ?_⟩
  · intro b hb
    obtain ⟨j, hj, rfl⟩ := List.mem_iff_getElem.1 hb
    rw [List.getElem_drop]
    have hl : posW lt i o + j < o.length := by rw [List.length_drop] at hj; omega
    exact H.asym _ _ hi (ho _ (List.getElem_mem hl)) (posW_behind H hi ho hs (by omega) hl)
  · intro a ha b hb
    obtain ⟨j, hj, rfl⟩ := List.mem_iff_getElem.1 ha
    have hjp : j < posW lt i o := by rw [List.length_take] at hj; omega
    rw [List.getElem_take]
    rcases List.mem_cons.1 hb with rfl | hb
    · exact posW_before hjp
    · obtain ⟨q, hq, rfl⟩ := List.mem_iff_getElem.1 hb
      have hl : posW lt i o + q < o.length := by rw [List.length_drop] at hq; omega
      rw [List.getElem_drop]
      exact List.pairwise_iff_getElem.1 hs _ _ _ hl (by omega)
theorem sortW_perm (lt : Int → Int → Bool) : ∀ (l o : List Int), (sortW lt l o).Perm (l ++ o)
  | [], o => by unfold sortW; exact List.Perm.refl _
  | i :: t, o => by
    unfold sortW
    refine (sortW_perm lt t _).trans ?_
    refine ((List.Perm.append_left t (insW_perm lt i o))).trans ?_
    exact List.perm_middle
theorem sortW_sorted {lt : Int → Int → Bool} {D : Int → Prop} (H : OrdW lt D) : ∀ (l o : List Int), (∀ b ∈ l, D b) → (∀ b ∈ o, D b) → SortedW lt o → SortedW lt (sortW lt l o)
  | [], o, _, _, hs => by unfold sortW; exact hs
  | i :: t, o, hl, ho, hs => by
    unfold sortW
    refine sortW_sorted H t _ (fun b hb => hl b (by simp [hb])) ?_ (insW_sorted H (hl i (by simp)) ho hs)
    intro b hb
    rcases List.mem_cons.1 ((insW_perm lt i o).mem_iff.1 hb) with rfl | h
    · exact hl _ (by simp)
    · exact ho b h

theorem sbK_pos {p : Int → Option Bool} {f : Int → Bool} {o : List Int} {t : Nat} (hp : ∀ b ∈ o, p b = some (f b)) (ht : t ≤ o.length) (h1 : ∀ j (hj : j < o.length), t ≤ j → f o[j] = true) (h2 : ∀ j (hj : j < o.length), j < t → f o[j] = false) :
    ∀ n, n ≤ o.length → t ≤ n → sbK p o n = some t
  | 0, _, h => by
    have : t = 0 := by omega
    subst this
    rfl
  | n + 1, hn, h => by
    unfold sbK
    rw [rdW o n (by omega), hp _ (List.getElem_mem (by omega)), Option.bind_some]
    rcases Nat.lt_or_ge n t with hlt | hge
    · rw [h2 n (by omega) hlt, if_neg (by simp)]
      congr 1; omega
    · rw [h1 n (by omega) hge, if_pos rfl]
      exact sbK_pos hp ht h1 h2 n (by omega) hge
theorem sbL_eq {p : Int → Int → Option Bool} {lt : Int → Int → Bool} {D : Int → Prop} (H : OrdW lt D) (hp : ∀ a b, D a → D b → p a b = some (lt a b)) : ∀ (l o : List Int), (∀ b ∈ l, D b) → (∀ b ∈ o, D b) → SortedW lt o → sbL p l o = some (sortW lt l o)
  | [], o, _, _, _ => rfl
  | i :: t, o, hl, ho, hs => by
    have hi : D i := hl i (by simp)
    unfold sbL sortW
    rw [sbK_pos (f := fun b => lt i b) (t := posW lt i o) (fun b hb => hp i b hi (ho b hb)) (posW_le _ _ _) (fun j hj h => posW_behind H hi ho hs h hj) (fun j hj h => posW_before h) _ (Nat.le_refl _) (posW_le _ _ _), Option.bind_some]
    refine sbL_eq H hp t _ (fun b hb => hl b (by simp [hb])) ?_ (insW_sorted H hi ho hs)
    intro b hb
    rcases List.mem_cons.1 ((insW_perm lt i o).mem_iff.1 hb) with rfl | h
    · exact hi
    · exact ho b h
/-- Two sorted forms of the same numbers, where no two tie. -/
theorem sortedW_unique {lt : Int → Int → Bool} {a b : List Int} (hd : ∀ x ∈ a, ∀ y ∈ b, lt x y = false → lt y x = false → x = y) (ha : SortedW lt a) (hb : SortedW lt b) (hp : a.Perm b) : a = b :=
  List.Perm.eq_of_pairwise (fun x y hx hy h1 h2 => hd x hx y hy h2 h1) ha hb hp
theorem sortW_append (lt : Int → Int → Bool) : ∀ (a b o : List Int), sortW lt (a ++ b) o = sortW lt b (sortW lt a o)
  | [], b, o => rfl
  | i :: t, b, o => by simp only [List.cons_append, sortW]; exact sortW_append lt t b _

def sumW (tm : Int → Int) : List Int → Int
  | [] => 0
  | i :: L => tm i + sumW tm L

/-- Is nobody late, one behind the other? -/
def okL (tm du : Int → Int) : Int → List Int → Bool
  | _, [] => true
  | t, i :: L => if t + tm i > du i then false else okL tm du (t + tm i) L

theorem sumW_perm (tm : Int → Int) {A B : List Int} (h : A.Perm B) : sumW tm A = sumW tm B := by
  induction h with
  | nil => rfl
  | cons x _ ih => simp only [sumW, ih]
  | swap x y l => simp only [sumW]; omega
  | trans _ _ h1 h2 => rw [h1, h2]
theorem sumW_nonneg (tm : Int → Int) : ∀ A : List Int, (∀ a ∈ A, 0 ≤ tm a) → 0 ≤ sumW tm A
  | [], _ => by simp [sumW]
  | a :: A, h => by
    have h1 := h a (by simp)
    have h2 := sumW_nonneg tm A (fun b hb => h b (by simp [hb]))
    simp only [sumW]; omega
theorem sumW_congr (tm tm' : Int → Int) : ∀ A : List Int, (∀ a ∈ A, tm a = tm' a) → sumW tm A = sumW tm' A
  | [], _ => rfl
  | a :: A, h => by simp only [sumW, h a (by simp), sumW_congr tm tm' A (fun b hb => h b (by simp [hb]))]
theorem okL_iff (tm du : Int → Int) : ∀ (L : List Int) (t : Int), (∀ a ∈ L, 0 ≤ tm a) → L.Pairwise (fun a b => du a ≤ du b) →
    (okL tm du t L = true ↔ ∀ j ∈ L, t + sumW tm (L.filter (fun b => decide (du b ≤ du j))) ≤ du j)
  | [], t, _, _ => by simp [okL]
  | i :: L, t, h0, hs => by
    rw [List.pairwise_cons] at hs
    have hL : ∀ a ∈ L, 0 ≤ tm a := fun a ha => h0 a (by simp [ha])
    have ih := okL_iff tm du L (t + tm i) hL hs.2
    have hf : ∀ j ∈ i :: L, sumW tm ((i :: L).filter (fun b => decide (du b ≤ du j))) = tm i + sumW tm (L.filter (fun b => decide (du b ≤ du j))) := by
      intro j hj
      have hij : du i ≤ du j := by
        rcases List.mem_cons.1 hj with rfl | hj
        · exact Int.le_refl _
        · exact hs.1 j hj
      rw [List.filter_cons_of_pos (by simpa using hij)]
      rfl
    have hnn : ∀ j, 0 ≤ sumW tm (L.filter (fun b => decide (du b ≤ du j))) := fun j => sumW_nonneg tm _ (fun a ha => hL a (List.mem_filter.1 ha).1)
    unfold okL
    constructor
    · intro h
      by_cases hc : t + tm i > du i
      · rw [if_pos hc] at h; simp at h
      · rw [if_neg hc] at h
        have h := ih.1 h
        intro j hj
        rw [hf j hj]
        rcases List.mem_cons.1 hj with rfl | hj'
        · by_cases he : L.filter (fun b => decide (du b ≤ du j)) = []
          · rw [he]; simp only [sumW]; omega
          · obtain ⟨b, hb⟩ := List.exists_mem_of_ne_nil _ he
            have hb := List.mem_filter.1 hb
            have h1 := of_decide_eq_true hb.2
            have h2 := hs.1 b hb.1
            have h3 := h b hb.1
            have h4 : du b = du j := by omega
            rw [h4] at h3
            omega
        · have := h j hj'
          omega
    · intro h
      have h1 := h i (by simp)
      rw [hf i (by simp)] at h1
      have := hnn i
      rw [if_neg (by omega)]
      refine ih.2 (fun j hj => ?_)
      have h2 := h j (by simp [hj])
      rw [hf j (by simp [hj])] at h2
      omega
theorem okL_perm {tm du tm' du' : Int → Int} {A B : List Int} (t : Int) (hp : A.Perm B) (hc : ∀ a ∈ A, tm a = tm' a ∧ du a = du' a) (h0 : ∀ a ∈ A, 0 ≤ tm a)
    (hA : A.Pairwise (fun a b => du a ≤ du b)) (hB : B.Pairwise (fun a b => du' a ≤ du' b)) : okL tm du t A = okL tm' du' t B := by
  have hcB : ∀ b ∈ B, tm b = tm' b ∧ du b = du' b := fun b hb => hc b (hp.mem_iff.2 hb)
  have e : (okL tm du t A = true) ↔ (okL tm' du' t B = true) := by
    rw [okL_iff tm du A t h0 hA, okL_iff tm' du' B t (fun b hb => by rw [← (hcB b hb).1]; exact h0 b (hp.mem_iff.2 hb)) hB]
    have key : ∀ j ∈ A, sumW tm (A.filter (fun b => decide (du b ≤ du j))) = sumW tm' (B.filter (fun b => decide (du' b ≤ du' j))) := by
      intro j hj
      rw [sumW_perm tm (hp.filter _), sumW_congr tm tm' _ (fun b hb => (hcB b (List.mem_filter.1 hb).1).1)]
      congr 1
      refine List.filter_congr (fun b hb => ?_)
      rw [(hcB b hb).2, (hc j hj).2]
    constructor
    · intro h j hj
      have hj := hp.mem_iff.2 hj
      have := h j hj
      rw [key j hj, (hc j hj).2] at this
      exact this
    · intro h j hj
      have := h j (hp.mem_iff.1 hj)
      rw [key j hj, (hc j hj).2]
      exact this
  cases h1 : okL tm du t A <;> cases h2 : okL tm' du' t B <;> simp_all

theorem good_small {l : List S59} (hg : goodB l = true) : smallJ l := by
  intro i hi
  have := good_at hg i hi
  omega

/-- The place of the first one of the longest. -/
def longQ (tm : Int → Int) (T : List Int) (a i : Nat) : Nat → Nat
  | 0 => a
  | d + 1 => longQ tm T (if tm (rd T (i : Int)) > tm (rd T (a : Int)) then i else a) (i + 1) d
def longP (tm : Int → Int) (T : List Int) : Nat := longQ tm T 0 0 T.length
theorem longQ_lt (tm : Int → Int) (T : List Int) (n : Nat) : ∀ (d a i : Nat), a < n → i + d = n → longQ tm T a i d < n
  | 0, a, i, h, _ => h
  | d + 1, a, i, h, hi => by
    unfold longQ
    refine longQ_lt tm T n d _ (i + 1) ?_ (by omega)
    split <;> omega
theorem longP_lt (tm : Int → Int) (T : List Int) (h : 0 < T.length) : longP tm T < T.length := longQ_lt tm T T.length T.length 0 0 h (by omega)
theorem longP_one (tm : Int → Int) (T : List Int) (h : 0 < T.length) : longP tm T = longQ tm T 0 1 (T.length - 1) := by
  unfold longP
  obtain ⟨n, hn⟩ : ∃ n, T.length = n + 1 := ⟨T.length - 1, by omega⟩
  rw [hn, longQ, if_neg (by show ¬ tm (rd T ((0 : Nat) : Int)) > tm (rd T ((0 : Nat) : Int)); omega)]
  rfl
theorem sumW_append (tm : Int → Int) : ∀ A B : List Int, sumW tm (A ++ B) = sumW tm A + sumW tm B
  | [], B => by simp [sumW]
  | a :: A, B => by simp only [List.cons_append, sumW, sumW_append tm A B]; omega
theorem sumW_erase (tm : Int → Int) (T : List Int) (m : Nat) (h : m < T.length) : sumW tm (T.eraseIdx m) = sumW tm T - tm (rd T (m : Int)) := by
  have e : T = T.take m ++ T[m] :: T.drop (m + 1) := by rw [← List.drop_eq_getElem_cons h, List.take_append_drop]
  have e2 := congrArg (sumW tm) e
  rw [sumW_append] at e2
  simp only [sumW] at e2
  rw [List.eraseIdx_eq_take_drop_succ, sumW_append, rdW T m h]
  omega
/-- What the late rule has done: what is left, what was dropped, the steps. -/
def ruleS (tm du : Int → Int) (s : List Int × List Int × List S64) (i : Int) : List Int × List Int × List S64 :=
  if sumW tm (s.1 ++ [i]) > du i then ((s.1 ++ [i]).eraseIdx (longP tm (s.1 ++ [i])), s.2.1 ++ [rd (s.1 ++ [i]) (longP tm (s.1 ++ [i]) : Int)], s.2.2 ++ [⟨i, rd (s.1 ++ [i]) (longP tm (s.1 ++ [i]) : Int)⟩])
  else (s.1 ++ [i], s.2.1, s.2.2 ++ [⟨i, -1⟩])
def ruleM (tm du : Int → Int) (M : List Int) : List Int × List Int × List S64 := M.foldl (ruleS tm du) ([], [], [])
theorem ruleM_snoc (tm du : Int → Int) (M : List Int) (i : Int) : ruleM tm du (M ++ [i]) = ruleS tm du (ruleM tm du M) i := by
  unfold ruleM
  rw [List.foldl_append]
  rfl
theorem ruleS_len (tm du : Int → Int) (s : List Int × List Int × List S64) (i : Int) : (ruleS tm du s i).1.length + (ruleS tm du s i).2.1.length = s.1.length + s.2.1.length + 1 ∧ (ruleS tm du s i).2.2.length = s.2.2.length + 1 := by
  have h := longP_lt tm (s.1 ++ [i]) (by simp)
  have e : ((s.1 ++ [i]).eraseIdx (longP tm (s.1 ++ [i]))).length = s.1.length := by rw [List.length_eraseIdx, if_pos h]; simp
  unfold ruleS
  by_cases hc : sumW tm (s.1 ++ [i]) > du i
  · rw [if_pos hc]
    refine ⟨?_, ?_⟩
    · show ((s.1 ++ [i]).eraseIdx (longP tm (s.1 ++ [i]))).length + (s.2.1 ++ [_]).length = _
      rw [e, List.length_append, List.length_singleton]; omega
    · show (s.2.2 ++ [_]).length = _
      rw [List.length_append, List.length_singleton]
  · rw [if_neg hc]
    refine ⟨?_, ?_⟩
    · show (s.1 ++ [i]).length + s.2.1.length = _
      rw [List.length_append, List.length_singleton]; omega
    · show (s.2.2 ++ [_]).length = _
      rw [List.length_append, List.length_singleton]
theorem ruleS_mem (tm du : Int → Int) (s : List Int × List Int × List S64) (i b : Int) (hb : b ∈ (ruleS tm du s i).1) : b ∈ s.1 ∨ b = i := by
  unfold ruleS at hb
  split at hb
  · have := List.mem_of_mem_eraseIdx hb
    simpa using this
  · simpa using hb
theorem snocW {P : List Int → Prop} (h0 : P []) (h1 : ∀ M i, P M → P (M ++ [i])) (M : List Int) : P M := by
  have key : ∀ N : List Int, P N.reverse := by
    intro N
    induction N with
    | nil => exact h0
    | cons x N ih => rw [List.reverse_cons]; exact h1 _ _ ih
  have := key M.reverse
  rwa [List.reverse_reverse] at this
theorem ruleM_len (tm du : Int → Int) : ∀ M : List Int, (ruleM tm du M).1.length + (ruleM tm du M).2.1.length = M.length ∧ (ruleM tm du M).2.2.length = M.length := by
  refine snocW (by simp [ruleM]) ?_
  · intro M i ih
    rw [ruleM_snoc]
    have := ruleS_len tm du (ruleM tm du M) i
    rw [List.length_append, List.length_singleton]
    omega
theorem ruleM_mem (tm du : Int → Int) (b : Int) : ∀ M : List Int, b ∈ (ruleM tm du M).1 → b ∈ M := by
  refine snocW (by intro h; simp [ruleM] at h) ?_
  · intro M i ih h
    rw [ruleM_snoc] at h
    rcases ruleS_mem tm du _ i b h with h | h
    · simp [ih h]
    · simp [h]

def idsW (n : Nat) : List Int := (List.range n).map (fun (i : Nat) => (i : Int))
theorem idsW_len (n : Nat) : (idsW n).length = n := by simp [idsW]
theorem idsW_mem {n : Nat} {b : Int} (h : b ∈ idsW n) : 0 ≤ b ∧ b < (n : Int) := by
  unfold idsW at h
  obtain ⟨i, hi, rfl⟩ := List.mem_map.1 h
  have := List.mem_range.1 hi
  omega
theorem idsW_succ (n : Nat) : idsW (n + 1) = idsW n ++ [(n : Int)] := by simp [idsW, List.range_succ]

theorem numbersTo_l0 (n : Nat) (hn : n ≤ 1048576) : ∀ (d i : Nat), i + d = n → Ev (fun k => impl_numbersTo.l0 k (n : Int) (idsW i) (i : Int)) (idsW n) := by
  intro d
  induction d with
  | zero =>
    intro i hi
    refine ev_succ ?_
    simp only [impl_numbersTo.l0, if_neg (show ¬ ((i : Int) < n) by omega)]
    rw [show i = n by omega]
    exact ev_now _
  | succ d ih =>
    intro i hi
    refine ev_succ ?_
    simp only [impl_numbersTo.l0, if_pos (show (i : Int) < n by omega), if_pos (show (idsW i).length < 17592186044416 by rw [idsW_len]; omega), w64 (x := (i : Int) + 1) (by omega) (by omega)]
    have := ih (i + 1) (by omega)
    rw [idsW_succ] at this
    exact this
theorem numbersTo_ev (n : Nat) (hn : n ≤ 1048576) : Ev (fun k => impl_numbersTo.f k (n : Int)) (idsW n) := numbersTo_l0 n hn n 0 (by omega)

/-- The rule difference of two jobs. -/
def gapJ (a b : S59) (o : Int) : Int := if o = 1 then a.f2 - b.f2 else if o = 2 then a.f0 - b.f0 else if o = 3 then a.f0 * b.f1 - b.f0 * a.f1 else a.f3 - b.f3

theorem mul_bd (a b : Int) (h0 : 0 ≤ a) (h1 : a ≤ 50) (h2 : 0 ≤ b) (h3 : b ≤ 50) : 0 ≤ a * b ∧ a * b ≤ 2500 :=
  ⟨Int.mul_nonneg h0 h2, Int.le_trans (Int.mul_le_mul_of_nonneg_right h1 h2) (by omega)⟩
theorem difference_eq (a b : S59) (o : Int) (ha : 1 ≤ a.f0 ∧ a.f0 ≤ 50 ∧ 0 ≤ a.f1 ∧ a.f1 ≤ 50 ∧ 0 ≤ a.f2 ∧ a.f2 ≤ 500 ∧ 0 ≤ a.f3 ∧ a.f3 ≤ 500) (hb : 1 ≤ b.f0 ∧ b.f0 ≤ 50 ∧ 0 ≤ b.f1 ∧ b.f1 ≤ 50 ∧ 0 ≤ b.f2 ∧ b.f2 ≤ 500 ∧ 0 ≤ b.f3 ∧ b.f3 ≤ 500) :
    impl_difference.f a.f0 a.f1 a.f2 a.f3 b.f0 b.f1 b.f2 b.f3 o = some (gapJ a b o) := by
  have m1 := mul_bd a.f0 b.f1 (by omega) (by omega) (by omega) (by omega)
  have m2 := mul_bd b.f0 a.f1 (by omega) (by omega) (by omega) (by omega)
  unfold impl_difference.f gapJ
  rw [w64 (x := a.f2 - b.f2) (by omega) (by omega), w64 (x := a.f0 - b.f0) (by omega) (by omega), w64 (x := a.f0 * b.f1) (by omega) (by omega), w64 (x := b.f0 * a.f1) (by omega) (by omega), w64 (x := a.f0 * b.f1 - b.f0 * a.f1) (by omega) (by omega), w64 (x := a.f3 - b.f3) (by omega) (by omega)]
  split
  · rfl
  · split
    · rfl
    · split <;> rfl
theorem gap_eq (xs : List S59) (hg : goodB xs = true) (o : Int) (i j : Nat) (hi : i < xs.length) (hj : j < xs.length) : spec_l3Gap.f xs o (i : Int) (j : Int) = some (gapJ xs[i] xs[j] o) := by
  have ha := good_at hg i hi
  have hb := good_at hg j hj
  unfold spec_l3Gap.f
  rw [if_pos (by omega), if_pos (by omega), if_pos (by omega), if_pos (by omega), rdI xs i hi, rdI xs j hj]
  generalize xs[i] = a at *
  generalize xs[j] = b at *
  have m1 := mul_bd a.f0 b.f1 (by omega) (by omega) (by omega) (by omega)
  have m2 := mul_bd b.f0 a.f1 (by omega) (by omega) (by omega) (by omega)
  unfold gapJ
  rw [w64 (x := a.f2 - b.f2) (by omega) (by omega), w64 (x := a.f0 - b.f0) (by omega) (by omega), w64 (x := a.f0 * b.f1) (by omega) (by omega), w64 (x := b.f0 * a.f1) (by omega) (by omega), w64 (x := a.f0 * b.f1 - b.f0 * a.f1) (by omega) (by omega), w64 (x := a.f3 - b.f3) (by omega) (by omega)]
  split
  · rfl
  · split
    · rfl
    · split <;> rfl

def ltR (l : List S59) (o : Int) (a b : Int) : Bool := decide (gapJ (rd_T59 l a) (rd_T59 l b) o < 0)
theorem gapJ_neg (a b : S59) (o : Int) : gapJ b a o = - gapJ a b o := by
  unfold gapJ
  split
  · omega
  · split
    · omega
    · split <;> omega
theorem gap_co (i a b : S59) (o : Int) (hi : 1 ≤ i.f0) (ha : 1 ≤ a.f0) (hb : 1 ≤ b.f0) (h1 : gapJ i a o < 0) (h2 : ¬ gapJ b a o < 0) : gapJ i b o < 0 := by
  unfold gapJ at *
  split at h1
  · rename_i h; simp only [if_pos h] at *; omega
  · rename_i h
    simp only [if_neg h] at *
    split at h1
    · rename_i h'; simp only [if_pos h'] at *; omega
    · rename_i h'
      simp only [if_neg h'] at *
      split at h1
      · rename_i h''
        simp only [if_pos h''] at *
        have e1 : i.f0 * a.f1 < a.f0 * i.f1 := by omega
        have e2 : a.f0 * b.f1 ≤ b.f0 * a.f1 := by omega
        have e3 : b.f0 * (i.f0 * a.f1) < b.f0 * (a.f0 * i.f1) := Int.mul_lt_mul_of_pos_left e1 (by omega)
        have e4 : i.f0 * (a.f0 * b.f1) ≤ i.f0 * (b.f0 * a.f1) := Int.mul_le_mul_of_nonneg_left e2 (by omega)
        have e5 : a.f0 * (i.f0 * b.f1) < a.f0 * (b.f0 * i.f1) := by
          have q1 : a.f0 * (i.f0 * b.f1) = i.f0 * (a.f0 * b.f1) := by rw [← Int.mul_assoc, Int.mul_comm a.f0 i.f0, Int.mul_assoc]
          have q2 : a.f0 * (b.f0 * i.f1) = b.f0 * (a.f0 * i.f1) := by rw [← Int.mul_assoc, Int.mul_comm a.f0 b.f0, Int.mul_assoc]
          have q3 : i.f0 * (b.f0 * a.f1) = b.f0 * (i.f0 * a.f1) := by rw [← Int.mul_assoc, Int.mul_comm i.f0 b.f0, Int.mul_assoc]
          omega
        have := Int.lt_of_mul_lt_mul_left e5 (by omega)
        omega
      · rename_i h''
        simp only [if_neg h''] at *
        omega
theorem ordR (l : List S59) (hg : goodB l = true) (o : Int) : OrdW (ltR l o) (inJ l.length) := by
  constructor
  · intro a b ha hb h
    unfold ltR at *
    have h := of_decide_eq_true h
    rw [gapJ_neg]
    exact decide_eq_false (by omega)
  · intro i a b hi ha hb h1 h2
    unfold ltR at *
    have h1 := of_decide_eq_true h1
    have h2 := of_decide_eq_false h2
    refine decide_eq_true (gap_co _ _ _ o ?_ ?_ ?_ h1 h2)
    · rw [rd_nat l hi]; exact (good_at hg _ _).1
    · rw [rd_nat l ha]; exact (good_at hg _ _).1
    · rw [rd_nat l hb]; exact (good_at hg _ _).1
/-- The ruled order. -/
def ruledL (l : List S59) (o : Int) : List Int := sortW (ltR l o) (idsW l.length) []
theorem ruledL_perm (l : List S59) (o : Int) : (ruledL l o).Perm (idsW l.length) := by
  have := sortW_perm (ltR l o) (idsW l.length) []
  rw [List.append_nil] at this
  exact this
theorem ruledL_len (l : List S59) (o : Int) : (ruledL l o).length = l.length := by rw [(ruledL_perm l o).length_eq, idsW_len]
theorem ruledL_mem {l : List S59} {o b : Int} (h : b ∈ ruledL l o) : inJ l.length b := idsW_mem ((ruledL_perm l o).mem_iff.1 h)
theorem ruledL_sorted (l : List S59) (hg : goodB l = true) (o : Int) : SortedW (ltR l o) (ruledL l o) :=
  sortW_sorted (ordR l hg o) _ _ (fun b hb => idsW_mem hb) (by simp) List.Pairwise.nil
theorem closureR (l : List S59) (hg : goodB l = true) (o a b : Int) (ha : inJ l.length a) (hb : inJ l.length b) : impl_ruledOrder_1.f a b l o = some (ltR l o a b) := by
  unfold impl_ruledOrder_1.f
  rw [if_pos ha.1, if_pos ha.2, if_pos hb.1, if_pos hb.2, difference_eq (rd_T59 l a) (rd_T59 l b) o (by rw [rd_nat l ha]; exact good_at hg _ _) (by rw [rd_nat l hb]; exact good_at hg _ _), Option.bind_some]
  rfl
theorem ruledOrder_ev (l : List S59) (hg : goodB l = true) (o : Int) : Ev (fun k => impl_ruledOrder.f k l o) (ruledL l o) := by
  have hl := good_len hg
  unfold impl_ruledOrder.f
  refine ev_bind (numbersTo_ev l.length (by omega)) ?_
  simp only [impl_sortedBy_144.f, if_pos (show (idsW l.length).length < 17592186044416 by rw [idsW_len]; omega)]
  rw [sbL_eq (ordR l hg o) (fun a b ha hb => closureR l hg o a b ha hb) _ _ (fun b hb => idsW_mem hb) (by simp) List.Pairwise.nil]
  exact ev_now _

theorem l1Own_eq (l : List Int) (h : l.length < 17592186044416) : spec_l1Own.f l = some l := by
  unfold spec_l1Own.f
  simp only [Option.bind_some, List.length_nil, Nat.zero_add, if_pos h, List.nil_append]
theorem gap_rd (l : List S59) (hg : goodB l = true) (o : Int) {a b : Int} (ha : inJ l.length a) (hb : inJ l.length b) : spec_l3Gap.f l o a b = some (gapJ (rd_T59 l a) (rd_T59 l b) o) := by
  obtain ⟨i, hi, rfl⟩ := inJ_nat ha
  obtain ⟨j, hj, rfl⟩ := inJ_nat hb
  rw [gap_eq l hg o i j hi hj, rdI l i hi, rdI l j hj]
theorem l3Order_l1 (l : List S59) (hg : goodB l = true) (o : Int) (out : List Int) (i : Int) (hi : inJ l.length i) (ho : ∀ b ∈ out, inJ l.length b) (hlen : out.length ≤ 8) (r : List Int)
    (hnext : Ev (fun k => spec_l3Order.l0 k l o (insW (ltR l o) i out) (wrap64 (i + 1))) r) : ∀ (d k : Nat), k + d = posW (ltR l o) i out → Ev (fun K => spec_l3Order.l1 K l o out i (k : Int)) r := by
  have fin : ∀ k : Nat, k = posW (ltR l o) i out → ((out.take ((k : Nat) : Int).toNat ++ [i]) ++ out.drop ((k : Nat) : Int).toNat) = insW (ltR l o) i out := by
    intro k hk
    subst hk
    simp [insW]
  have hp := posW_le (ltR l o) i out
  intro d
  induction d with
  | zero =>
    intro k hk
    have hk' : k = posW (ltR l o) i out := by omega
    refine ev_succ ?_
    have c1 : ((out.take ((k : Nat) : Int).toNat).length + [i].length < 17592186044416) := by simp only [List.length_take, List.length_singleton]; omega
    have c2 : (((out.take ((k : Nat) : Int).toNat) ++ [i]).length + (out.drop ((k : Nat) : Int).toNat).length < 17592186044416) := by simp only [List.length_append, List.length_take, List.length_drop, List.length_singleton]; omega
    have tail : Ev (fun K => (spec_l1Own.f (out.take ((k : Nat) : Int).toNat)).bind fun t => ((some (([i] : List Int) : List Int)).bind fun y => (if t.length + y.length < 17592186044416 then ((some (t ++ y : List Int)).bind fun y2 => ((some (out.drop ((k : Nat) : Int).toNat : List Int)).bind fun y3 => (if y2.length + y3.length < 17592186044416 then (spec_l3Order.l0 K l o (y2 ++ y3) (wrap64 (i + 1))) else (none)))) else (none)))) r := by
      simp only [l1Own_eq (out.take ((k : Nat) : Int).toNat) (by rw [List.length_take]; omega), Option.bind_some, if_pos c1, if_pos c2, fin k hk']
      exact hnext
    by_cases hkl : k < out.length
    · have hlt : ltR l o i (out[k]'hkl) = true := by
        subst hk'
        exact posW_at hkl
      have hm : inJ l.length out[k] := ho _ (List.getElem_mem hkl)
      simp only [spec_l3Order.l1, if_pos (show ((k : Nat) : Int) < (out.length : Int) by omega), if_pos (show (0 : Int) ≤ ((k : Nat) : Int) by omega), rdW out k hkl, gap_rd l hg o hm hi, Option.bind_some]
      have hgap : ¬ (gapJ (rd_T59 l out[k]) (rd_T59 l i) o ≤ 0) := by
        have h := of_decide_eq_true hlt
        rw [gapJ_neg]; omega
      simp only [if_neg hgap, if_pos (show ((k : Nat) : Int) ≤ (out.length : Int) by omega)]
      exact tail
    · simp only [spec_l3Order.l1, if_neg (show ¬ ((k : Nat) : Int) < (out.length : Int) by omega), if_pos (show (0 : Int) ≤ ((k : Nat) : Int) by omega), if_pos (show ((k : Nat) : Int) ≤ (out.length : Int) by omega)]
      exact tail
  | succ d ih =>
    intro k hk
    refine ev_succ ?_
    have hkl : k < out.length := by omega
    have hm : inJ l.length out[k] := ho _ (List.getElem_mem hkl)
    have hlt : ltR l o i out[k] = false := posW_before (by omega)
    have hgap : gapJ (rd_T59 l out[k]) (rd_T59 l i) o ≤ 0 := by
      have h := of_decide_eq_false hlt
      rw [gapJ_neg]; omega
    simp only [spec_l3Order.l1, if_pos (show ((k : Nat) : Int) < (out.length : Int) by omega), if_pos (show (0 : Int) ≤ ((k : Nat) : Int) by omega), rdW out k hkl, gap_rd l hg o hm hi, Option.bind_some, if_pos hgap, w64 (x := ((k : Nat) : Int) + 1) (by omega) (by omega)]
    exact ih (k + 1) (by omega)
theorem l3Order_ev (l : List S59) (hg : goodB l = true) (o : Int) : Ev (fun k => spec_l3Order.f k l o) (ruledL l o) := by
  have hl := good_len hg
  have main : ∀ (d i : Nat), i + d = l.length → Ev (fun k => spec_l3Order.l0 k l o (sortW (ltR l o) (idsW i) []) (i : Int)) (ruledL l o) := by
    intro d
    induction d with
    | zero =>
      intro i hi
      refine ev_succ ?_
      simp only [spec_l3Order.l0, if_neg (show ¬ ((i : Int) < (l.length : Int)) by omega)]
      unfold ruledL
      rw [show i = l.length by omega]
      exact ev_now _
    | succ d ih =>
      intro i hi
      refine ev_succ ?_
      simp only [spec_l3Order.l0, if_pos (show (i : Int) < (l.length : Int) by omega)]
      have hp := sortW_perm (ltR l o) (idsW i) []
      rw [List.append_nil] at hp
      refine l3Order_l1 l hg o _ (i : Int) ⟨by omega, by omega⟩ (fun b hb => ?_) (by rw [hp.length_eq, idsW_len]; omega) _ ?_ (posW (ltR l o) i (sortW (ltR l o) (idsW i) [])) 0 (by omega)
      · have := idsW_mem (hp.mem_iff.1 hb)
        exact ⟨this.1, by omega⟩
      · have := ih (i + 1) (by omega)
        rw [idsW_succ, sortW_append] at this
        rw [w64 (x := (i : Int) + 1) (by omega) (by omega)]
        exact this
  exact main l.length 0 (by omega)

theorem l3Total_l0 (l : List S59) (hs : smallJ l) (M : List Int) (hM : ∀ b ∈ M, inJ l.length b) (hlen : M.length ≤ 1000) : ∀ (d i : Nat) (t : Int), i + d = M.length → 0 ≤ t → t ≤ 50 * i → Ev (fun k => spec_l3Total.l0 k l M t (i : Int)) (t + sumW (tmJ l) (M.drop i)) := by
  intro d
  induction d with
  | zero =>
    intro i t hi _ _
    refine ev_succ ?_
    simp only [spec_l3Total.l0, if_neg (show ¬ ((i : Int) < (M.length : Int)) by omega)]
    rw [List.drop_eq_nil_of_le (by omega), sumW, Int.add_zero]
    exact ev_now _
  | succ d ih =>
    intro i t hi h0 h1
    refine ev_succ ?_
    have hil : i < M.length := by omega
    have hm := hM _ (List.getElem_mem hil)
    have hb := small_at hs hm
    unfold tmJ duJ at hb
    rw [List.drop_eq_getElem_cons hil, sumW, show t + (tmJ l M[i] + sumW (tmJ l) (M.drop (i + 1))) = (t + (rd_T59 l M[i]).f0) + sumW (tmJ l) (M.drop (i + 1)) by unfold tmJ; omega]
    simp only [spec_l3Total.l0, if_pos (show (i : Int) < (M.length : Int) by omega), if_pos (show (0 : Int) ≤ (i : Int) by omega), rdW M i hil, if_pos hm.1, if_pos hm.2, w64 (x := t + (rd_T59 l M[i]).f0) (by omega) (by omega), w64 (x := (i : Int) + 1) (by omega) (by omega)]
    exact ih (i + 1) _ (by omega) (by omega) (by omega)
theorem l3Total_ev (l : List S59) (hs : smallJ l) (M : List Int) (hM : ∀ b ∈ M, inJ l.length b) (hlen : M.length ≤ 1000) : Ev (fun k => spec_l3Total.f k l M) (sumW (tmJ l) M) := by
  have := l3Total_l0 l hs M hM hlen M.length 0 0 (by omega) (by omega) (by omega)
  rw [Int.zero_add] at this
  exact this

theorem l3Longest_l0 (l : List S59) (M : List Int) (hM : ∀ b ∈ M, inJ l.length b) (hlen : M.length ≤ 1000) : ∀ (d i a : Nat), i + d = M.length → a < M.length → Ev (fun k => spec_l3Longest.l0 k l M (a : Int) (i : Int)) ((longQ (tmJ l) M a i d : Nat) : Int) := by
  intro d
  induction d with
  | zero =>
    intro i a hi _
    refine ev_succ ?_
    simp only [spec_l3Longest.l0, if_neg (show ¬ ((i : Int) < (M.length : Int)) by omega)]
    exact ev_now _
  | succ d ih =>
    intro i a hi ha
    refine ev_succ ?_
    have hil : i < M.length := by omega
    have hm := hM _ (List.getElem_mem hil)
    have hm2 := hM _ (List.getElem_mem ha)
    by_cases hc : (rd_T59 l M[i]).f0 > (rd_T59 l M[a]).f0
    · have := ih (i + 1) i (by omega) hil
      simp only [spec_l3Longest.l0, if_pos (show (i : Int) < (M.length : Int) by omega), if_pos (show (0 : Int) ≤ (i : Int) by omega), rdW M i hil, if_pos hm.1, if_pos hm.2, if_pos (show (0 : Int) ≤ (a : Int) by omega), if_pos (show (a : Int) < (M.length : Int) by omega), rdW M a ha, if_pos hm2.1, if_pos hm2.2, if_pos hc, w64 (x := (i : Int) + 1) (by omega) (by omega)]
      unfold longQ
      rw [rdW M i hil, rdW M a ha, if_pos (show tmJ l M[i] > tmJ l M[a] from hc)]
      exact this
    · have := ih (i + 1) a (by omega) ha
      simp only [spec_l3Longest.l0, if_pos (show (i : Int) < (M.length : Int) by omega), if_pos (show (0 : Int) ≤ (i : Int) by omega), rdW M i hil, if_pos hm.1, if_pos hm.2, if_pos (show (0 : Int) ≤ (a : Int) by omega), if_pos (show (a : Int) < (M.length : Int) by omega), rdW M a ha, if_pos hm2.1, if_pos hm2.2, if_neg hc, w64 (x := (i : Int) + 1) (by omega) (by omega)]
      unfold longQ
      rw [rdW M i hil, rdW M a ha, if_neg (show ¬ tmJ l M[i] > tmJ l M[a] from hc)]
      exact this
theorem l3Longest_ev (l : List S59) (M : List Int) (hM : ∀ b ∈ M, inJ l.length b) (hlen : M.length ≤ 1000) (h0 : 0 < M.length) : Ev (fun k => spec_l3Longest.f k l M) ((longP (tmJ l) M : Nat) : Int) := by
  rw [longP_one _ _ h0]
  exact l3Longest_l0 l M hM hlen (M.length - 1) 1 0 (by omega) h0
theorem l3Without_eq (T : List Int) (m : Nat) (h : m < T.length) (hlen : T.length ≤ 1000) : spec_l3Without.f T (m : Int) = some (T.eraseIdx m) := by
  unfold spec_l3Without.f
  have hw : wrap64 ((m : Int) + 1) = ((m + 1 : Nat) : Int) := by rw [w64 (by omega) (by omega)]; omega
  have c : (T.take m).length + (T.drop (m + 1)).length < 17592186044416 := by rw [List.length_take, List.length_drop]; omega
  simp only [if_pos (show (0 : Int) ≤ (m : Int) by omega), if_pos (show (m : Int) ≤ (T.length : Int) by omega), Int.toNat_natCast, l1Own_eq (T.take m) (by rw [List.length_take]; omega), Option.bind_some, hw, if_pos (show (0 : Int) ≤ ((m + 1 : Nat) : Int) by omega), if_pos (show ((m + 1 : Nat) : Int) ≤ (T.length : Int) by omega), if_pos c, List.eraseIdx_eq_take_drop_succ]
theorem l3Rule_ev (l : List S59) (hg : goodB l = true) : Ev (fun k => spec_l3Rule.f k l) (ruleM (tmJ l) (duJ l) (ruledL l 4)) := by
  have hl := good_len hg
  have hs := good_small hg
  have hlen := ruledL_len l 4
  unfold spec_l3Rule.f
  refine ev_bind (l3Order_ev l hg 4) ?_
  generalize hM : ruledL l 4 = M at *
  have hmem : ∀ b ∈ M, inJ l.length b := fun b hb => ruledL_mem (hM ▸ hb)
  have main : ∀ (d i : Nat), i + d = M.length → Ev (fun k => spec_l3Rule.l0 k l M (i : Int) (ruleM (tmJ l) (duJ l) (M.take i)).1 (ruleM (tmJ l) (duJ l) (M.take i)).2.1 (ruleM (tmJ l) (duJ l) (M.take i)).2.2) (ruleM (tmJ l) (duJ l) M) := by
    intro d
    induction d with
    | zero =>
      intro i hi
      refine ev_succ ?_
      simp only [spec_l3Rule.l0, if_neg (show ¬ ((i : Int) < (M.length : Int)) by omega)]
      rw [List.take_of_length_le (by omega)]
      exact ev_now _
    | succ d ih =>
      intro i hi
      refine ev_succ ?_
      have hil : i < M.length := by omega
      have hm := hmem _ (List.getElem_mem hil)
      have next := ih (i + 1) (by omega)
      rw [List.take_succ_eq_append_getElem hil, ruleM_snoc] at next
      have ln := ruleM_len (tmJ l) (duJ l) (M.take i)
      rw [List.length_take] at ln
      have mm : ∀ b ∈ (ruleM (tmJ l) (duJ l) (M.take i)).1, inJ l.length b := fun b hb => hmem b (List.mem_of_mem_take (ruleM_mem _ _ b _ hb))
      generalize ruleM (tmJ l) (duJ l) (M.take i) = s at *
      obtain ⟨T, D, S⟩ := s
      simp only at ln mm next
      have hT : ∀ b ∈ T ++ [M[i]], inJ l.length b := fun b hb => by
        rcases List.mem_append.1 hb with h | h
        · exact mm b h
        · rw [List.mem_singleton.1 h]; exact hm
      have hp := longP_lt (tmJ l) (T ++ [M[i]]) (by simp)
      have lt : (T ++ [M[i]]).length = T.length + 1 := by simp
      simp only [spec_l3Rule.l0, if_pos (show (i : Int) < (M.length : Int) by omega), if_pos (show (0 : Int) ≤ (i : Int) by omega), if_pos (show T.length < 17592186044416 by omega), rdW M i hil, Option.bind_some, if_pos hm.1, if_pos hm.2]
      refine ev_bind (l3Total_ev l hs _ hT (by omega)) ?_
      unfold ruleS at next
      by_cases hc : sumW (tmJ l) (T ++ [M[i]]) > duJ l M[i]
      · rw [if_pos hc] at next
        simp only [if_pos (show sumW (tmJ l) (T ++ [M[i]]) > (rd_T59 l M[i]).f3 from hc)]
        refine ev_bind (l3Longest_ev l _ hT (by omega) (by omega)) ?_
        simp only [if_pos (show (0 : Int) ≤ ((longP (tmJ l) (T ++ [M[i]]) : Nat) : Int) by omega), if_pos (show ((longP (tmJ l) (T ++ [M[i]]) : Nat) : Int) < ((T ++ [M[i]]).length : Int) by omega), l3Without_eq _ _ hp (by omega), Option.bind_some, if_pos (show D.length < 17592186044416 by omega), if_pos (show S.length < 8796093022208 by omega), w64 (x := (i : Int) + 1) (by omega) (by omega)]
        exact next
      · rw [if_neg hc] at next
        simp only [if_neg (show ¬ sumW (tmJ l) (T ++ [M[i]]) > (rd_T59 l M[i]).f3 from hc), if_pos (show S.length < 8796093022208 by omega), w64 (x := (i : Int) + 1) (by omega) (by omega)]
        exact next
  exact main M.length 0 (by omega)

theorem lateRule_l1 (l : List S59) (T : List Int) (hT : ∀ b ∈ T, inJ l.length b) (hlen : T.length ≤ 1000) (S : List S64) (hS : S.length ≤ 1000) (tot i : Int) (O : List Int) (n x : Int) (r : List Int × List S64) : ∀ (d p a : Nat), p + d = T.length → a < T.length →
    Ev (fun K => impl_lateRule.l0 K l (T.eraseIdx (longQ (tmJ l) T a p d)) (S ++ [⟨i, rd T ((longQ (tmJ l) T a p d : Nat) : Int)⟩]) (wrap64 (tot - tmJ l (rd T ((longQ (tmJ l) T a p d : Nat) : Int)))) O n (wrap64 (x + 1))) r →
    Ev (fun K => impl_lateRule.l1 K l T S tot i (a : Int) O n x T (T.length : Int) (p : Int)) r := by
  intro d
  induction d with
  | zero =>
    intro p a hp ha h
    refine ev_succ ?_
    have hm2 := hT _ (List.getElem_mem ha)
    have hw : wrap64 ((a : Int) + 1) = ((a + 1 : Nat) : Int) := by rw [w64 (by omega) (by omega)]; omega
    unfold longQ at h
    simp only [impl_lateRule.l1, if_neg (show ¬ ((p : Int) < (T.length : Int)) by omega), if_pos (show (0 : Int) ≤ (a : Int) by omega), if_pos (show (a : Int) < (T.length : Int) by omega), if_pos (show (a : Int) ≤ (T.length : Int) by omega), rdW T a ha, if_pos hm2.1, if_pos hm2.2, hw, if_pos (show (0 : Int) ≤ ((a + 1 : Nat) : Int) by omega), if_pos (show ((a + 1 : Nat) : Int) ≤ (T.length : Int) by omega), if_pos (show S.length < 8796093022208 by omega), Int.toNat_natCast]
    rw [rdW T a ha] at h
    exact h
  | succ d ih =>
    intro p a hp ha h
    refine ev_succ ?_
    have hpl : p < T.length := by omega
    have hm := hT _ (List.getElem_mem hpl)
    have hm2 := hT _ (List.getElem_mem ha)
    unfold longQ at h
    rw [rdW T p hpl, rdW T a ha] at h
    by_cases hc : (rd_T59 l T[p]).f0 > (rd_T59 l T[a]).f0
    · rw [if_pos (show tmJ l T[p] > tmJ l T[a] from hc)] at h
      simp only [impl_lateRule.l1, if_pos (show ((p : Int) < (T.length : Int)) by omega), if_pos (show (0 : Int) ≤ (p : Int) by omega), rdW T p hpl, if_pos hm.1, if_pos hm.2, if_pos (show (0 : Int) ≤ (a : Int) by omega), if_pos (show (a : Int) < (T.length : Int) by omega), rdW T a ha, if_pos hm2.1, if_pos hm2.2, if_pos hc, w64 (x := (p : Int) + 1) (by omega) (by omega)]
      exact ih (p + 1) p (by omega) hpl h
    · rw [if_neg (show ¬ tmJ l T[p] > tmJ l T[a] from hc)] at h
      simp only [impl_lateRule.l1, if_pos (show ((p : Int) < (T.length : Int)) by omega), if_pos (show (0 : Int) ≤ (p : Int) by omega), rdW T p hpl, if_pos hm.1, if_pos hm.2, if_pos (show (0 : Int) ≤ (a : Int) by omega), if_pos (show (a : Int) < (T.length : Int) by omega), rdW T a ha, if_pos hm2.1, if_pos hm2.2, if_neg hc, w64 (x := (p : Int) + 1) (by omega) (by omega)]
      exact ih (p + 1) a (by omega) ha h
theorem lateRule_ev (l : List S59) (hg : goodB l = true) (q : Nat) (hq : q ≤ l.length) : Ev (fun k => impl_lateRule.f k l (q : Int)) ((ruleM (tmJ l) (duJ l) ((ruledL l 4).take q)).1, (ruleM (tmJ l) (duJ l) ((ruledL l 4).take q)).2.2) := by
  have hl := good_len hg
  have hs := good_small hg
  have hlen := ruledL_len l 4
  unfold impl_lateRule.f
  refine ev_bind (ruledOrder_ev l hg 4) ?_
  simp only [if_pos (show (0 : Int) ≤ (q : Int) by omega), if_pos (show (q : Int) ≤ ((ruledL l 4).length : Int) by omega), Option.bind_some, Int.toNat_natCast]
  generalize hM : (ruledL l 4).take q = M at *
  have hmem : ∀ b ∈ M, inJ l.length b := fun b hb => ruledL_mem (List.mem_of_mem_take (hM ▸ hb))
  have hML : M.length ≤ 8 := by rw [← hM, List.length_take]; omega
  have main : ∀ (d i : Nat), i + d = M.length → Ev (fun k => impl_lateRule.l0 k l (ruleM (tmJ l) (duJ l) (M.take i)).1 (ruleM (tmJ l) (duJ l) (M.take i)).2.2 (sumW (tmJ l) (ruleM (tmJ l) (duJ l) (M.take i)).1) M (M.length : Int) (i : Int)) ((ruleM (tmJ l) (duJ l) M).1, (ruleM (tmJ l) (duJ l) M).2.2) := by
    intro d
    induction d with
    | zero =>
      intro i hi
      refine ev_succ ?_
      simp only [impl_lateRule.l0, if_neg (show ¬ ((i : Int) < (M.length : Int)) by omega)]
      rw [List.take_of_length_le (by omega)]
      exact ev_now _
    | succ d ih =>
      intro i hi
      refine ev_succ ?_
      have hil : i < M.length := by omega
      have hm := hmem _ (List.getElem_mem hil)
      have hb := small_at hs hm
      have next := ih (i + 1) (by omega)
      rw [List.take_succ_eq_append_getElem hil, ruleM_snoc] at next
      have ln := ruleM_len (tmJ l) (duJ l) (M.take i)
      rw [List.length_take] at ln
      have mm : ∀ b ∈ (ruleM (tmJ l) (duJ l) (M.take i)).1, inJ l.length b := fun b hb => hmem b (List.mem_of_mem_take (ruleM_mem _ _ b _ hb))
      generalize ruleM (tmJ l) (duJ l) (M.take i) = s at *
      obtain ⟨T, D, S⟩ := s
      simp only at ln mm next
      have hT : ∀ b ∈ T ++ [M[i]], inJ l.length b := fun b hb => by
        rcases List.mem_append.1 hb with h | h
        · exact mm b h
        · rw [List.mem_singleton.1 h]; exact hm
      have hp := longP_lt (tmJ l) (T ++ [M[i]]) (by simp)
      have lt : (T ++ [M[i]]).length = T.length + 1 := by simp
      have bd : ∀ A : List Int, (∀ b ∈ A, inJ l.length b) → 0 ≤ sumW (tmJ l) A ∧ sumW (tmJ l) A ≤ 50 * A.length := by
        intro A
        induction A with
        | nil => intro _; simp [sumW]
        | cons a A iha =>
          intro h
          have h1 := iha (fun b hb => h b (by simp [hb]))
          have h2 := small_at hs (h a (by simp))
          simp only [sumW, List.length_cons]
          omega
      have bT := bd T mm
      have bT1 := bd _ hT
      have hsum : sumW (tmJ l) T + (rd_T59 l M[i]).f0 = sumW (tmJ l) (T ++ [M[i]]) := by rw [sumW_append]; simp only [sumW, tmJ]; omega
      simp only [impl_lateRule.l0, if_pos (show (i : Int) < (M.length : Int) by omega), if_pos (show (0 : Int) ≤ (i : Int) by omega), if_pos (show T.length < 17592186044416 by omega), rdW M i hil, Option.bind_some, if_pos hm.1, if_pos hm.2, hsum, w64 (x := sumW (tmJ l) (T ++ [M[i]])) (by omega) (by omega)]
      unfold ruleS at next
      by_cases hc : sumW (tmJ l) (T ++ [M[i]]) > duJ l M[i]
      · rw [if_pos hc] at next
        simp only [if_pos (show sumW (tmJ l) (T ++ [M[i]]) > (rd_T59 l M[i]).f3 from hc)]
        have := lateRule_l1 l (T ++ [M[i]]) hT (by omega) S (by omega) (sumW (tmJ l) (T ++ [M[i]])) M[i] M (M.length : Int) (i : Int) ((ruleM (tmJ l) (duJ l) M).1, (ruleM (tmJ l) (duJ l) M).2.2) (T ++ [M[i]]).length 0 0 (by omega) (by omega)
        refine this ?_
        have hg0 : inJ l.length (rd (T ++ [M[i]]) ((longP (tmJ l) (T ++ [M[i]]) : Nat) : Int)) := by rw [rdW _ _ hp]; exact hT _ (List.getElem_mem hp)
        have hg1 := small_at hs hg0
        show Ev (fun K => impl_lateRule.l0 K l ((T ++ [M[i]]).eraseIdx (longP (tmJ l) (T ++ [M[i]]))) (S ++ [⟨M[i], rd (T ++ [M[i]]) ((longP (tmJ l) (T ++ [M[i]]) : Nat) : Int)⟩]) (wrap64 (sumW (tmJ l) (T ++ [M[i]]) - tmJ l (rd (T ++ [M[i]]) ((longP (tmJ l) (T ++ [M[i]]) : Nat) : Int)))) M (M.length : Int) (wrap64 ((i : Int) + 1))) _
        rw [w64 (x := (i : Int) + 1) (by omega) (by omega), w64 (x := sumW (tmJ l) (T ++ [M[i]]) - tmJ l (rd (T ++ [M[i]]) ((longP (tmJ l) (T ++ [M[i]]) : Nat) : Int))) (by omega) (by omega), ← sumW_erase (tmJ l) (T ++ [M[i]]) _ hp]
        exact next
      · rw [if_neg hc] at next
        simp only [if_neg (show ¬ sumW (tmJ l) (T ++ [M[i]]) > (rd_T59 l M[i]).f3 from hc), if_pos (show S.length < 8796093022208 by omega), w64 (x := (i : Int) + 1) (by omega) (by omega)]
        exact next
  exact main M.length 0 (by omega)

def ltN (a b : Int) : Bool := decide (a < b)
def ltD (l : List S59) (a b : Int) : Bool := decide ((rd_T59 l a).f3 < (rd_T59 l b).f3) || (decide ((rd_T59 l a).f3 = (rd_T59 l b).f3) && decide ((rd_T59 l a).f0 < (rd_T59 l b).f0))
def ltS (l : List S59) (a b : Int) : Bool := ltD l a b || (decide ((rd_T59 l a).f3 = (rd_T59 l b).f3) && (decide ((rd_T59 l a).f0 = (rd_T59 l b).f0) && decide (a < b)))
theorem ordN (D : Int → Prop) : OrdW ltN D := by
  constructor
  · intro a b _ _ h; unfold ltN at *; simp only [decide_eq_true_eq, decide_eq_false_iff_not] at *; omega
  · intro i a b _ _ _ h1 h2; unfold ltN at *; simp only [decide_eq_true_eq, decide_eq_false_iff_not] at *; omega
theorem ordD (l : List S59) (D : Int → Prop) : OrdW (ltD l) D := by
  constructor
  · intro a b _ _ h
    unfold ltD at *
    generalize (rd_T59 l a).f3 = x, (rd_T59 l b).f3 = y, (rd_T59 l a).f0 = u, (rd_T59 l b).f0 = v at *
    simp only [Bool.or_eq_true, Bool.and_eq_true, Bool.or_eq_false_iff, Bool.and_eq_false_iff, decide_eq_true_eq, decide_eq_false_iff_not] at *
    omega
  · intro i a b _ _ _ h1 h2
    unfold ltD at *
    generalize (rd_T59 l a).f3 = x, (rd_T59 l b).f3 = y, (rd_T59 l a).f0 = u, (rd_T59 l b).f0 = v, (rd_T59 l i).f3 = p, (rd_T59 l i).f0 = q at *
    simp only [Bool.or_eq_true, Bool.and_eq_true, Bool.or_eq_false_iff, Bool.and_eq_false_iff, decide_eq_true_eq, decide_eq_false_iff_not] at *
    omega
theorem ordS (l : List S59) (D : Int → Prop) : OrdW (ltS l) D := by
  constructor
  · intro a b _ _ h
    unfold ltS ltD at *
    generalize (rd_T59 l a).f3 = x, (rd_T59 l b).f3 = y, (rd_T59 l a).f0 = u, (rd_T59 l b).f0 = v at *
    simp only [Bool.or_eq_true, Bool.and_eq_true, Bool.or_eq_false_iff, Bool.and_eq_false_iff, decide_eq_true_eq, decide_eq_false_iff_not] at *
    omega
  · intro i a b _ _ _ h1 h2
    unfold ltS ltD at *
    generalize (rd_T59 l a).f3 = x, (rd_T59 l b).f3 = y, (rd_T59 l a).f0 = u, (rd_T59 l b).f0 = v, (rd_T59 l i).f3 = p, (rd_T59 l i).f0 = q at *
    simp only [Bool.or_eq_true, Bool.and_eq_true, Bool.or_eq_false_iff, Bool.and_eq_false_iff, decide_eq_true_eq, decide_eq_false_iff_not] at *
    omega
theorem ltS_total (l : List S59) (a b : Int) (h1 : ltS l a b = false) (h2 : ltS l b a = false) : a = b := by
  unfold ltS ltD at *
  generalize (rd_T59 l a).f3 = x, (rd_T59 l b).f3 = y, (rd_T59 l a).f0 = u, (rd_T59 l b).f0 = v at *
  simp only [Bool.or_eq_false_iff, Bool.and_eq_false_iff, decide_eq_false_iff_not] at *
  omega
theorem ltS_not (l : List S59) {a b : Int} (h : a ≠ b) : (!ltS l a b) = ltS l b a := by
  cases h1 : ltS l a b with
  | true => exact ((ordS l (fun _ => True)).asym a b trivial trivial h1).symm
  | false =>
    cases h2 : ltS l b a with
    | true => rfl
    | false => exact absurd (ltS_total l a b h1 h2) h
theorem posW_congr {lt lt' : Int → Int → Bool} {i : Int} : ∀ {o : List Int}, (∀ b ∈ o, lt i b = lt' i b) → posW lt i o = posW lt' i o := by
  intro o
  unfold posW
  induction o with
  | nil => intro _; rfl
  | cons x o ih =>
    intro h
    rw [List.findIdx_cons, List.findIdx_cons, h x (by simp), ih (fun b hb => h b (by simp [hb]))]
theorem sortDS (l : List S59) : ∀ (t o : List Int), (∀ b ∈ o, ∀ i ∈ t, b ≤ i) → t.Pairwise (fun a b => a ≤ b) → sortW (ltD l) t o = sortW (ltS l) t o
  | [], o, _, _ => rfl
  | i :: t, o, h, hs => by
    have e : insW (ltD l) i o = insW (ltS l) i o := by
      unfold insW
      rw [posW_congr (lt := ltD l) (lt' := ltS l) (fun b hb => by
        have := h b hb i (by simp)
        unfold ltS
        rw [decide_eq_false (show ¬ i < b by omega), Bool.and_false, Bool.and_false, Bool.or_false])]
    unfold sortW
    rw [e]
    rw [List.pairwise_cons] at hs
    refine sortDS l t _ ?_ hs.2
    intro b hb j hj
    rcases List.mem_cons.1 ((insW_perm _ i o).mem_iff.1 hb) with rfl | hb
    · exact hs.1 j hj
    · exact h b hb j (by simp [hj])
/-- In ascending order. -/
def ascW (L : List Int) : List Int := sortW ltN L []
theorem ascW_perm (L : List Int) : (ascW L).Perm L := by
  have := sortW_perm ltN L []
  rw [List.append_nil] at this
  exact this
theorem ascW_sorted (L : List Int) : (ascW L).Pairwise (fun a b => a ≤ b) := by
  have := sortW_sorted (ordN (fun _ => True)) L [] (fun _ _ => trivial) (by simp) List.Pairwise.nil
  exact this.imp (fun h => by unfold ltN at h; have := of_decide_eq_false h; omega)
theorem ascW_id {L : List Int} (h : L.Pairwise (fun a b => a ≤ b)) : ascW L = L :=
  List.Perm.eq_of_pairwise (fun a b _ _ h1 h2 => by omega) (ascW_sorted L) h (ascW_perm L)
theorem idsW_asc (n : Nat) : (idsW n).Pairwise (fun a b => a ≤ b) := by
  unfold idsW
  rw [List.pairwise_map]
  exact List.pairwise_lt_range.imp (fun h => by omega)
/-- In due order. -/
def dueL (l : List S59) (L : List Int) : List Int := sortW (ltS l) L []
theorem dueL_perm (l : List S59) (L : List Int) : (dueL l L).Perm L := by
  have := sortW_perm (ltS l) L []
  rw [List.append_nil] at this
  exact this
theorem dueL_sorted (l : List S59) (L : List Int) : SortedW (ltS l) (dueL l L) := sortW_sorted (ordS l (fun _ => True)) L [] (fun _ _ => trivial) (by simp) List.Pairwise.nil
theorem dueL_congr (l : List S59) {L M : List Int} (h : L.Perm M) : dueL l L = dueL l M :=
  sortedW_unique (fun x _ y _ h1 h2 => ltS_total l x y h1 h2) (dueL_sorted l L) (dueL_sorted l M) ((dueL_perm l L).trans (h.trans (dueL_perm l M).symm))

theorem ascending_eq (L : List Int) (h : L.length < 17592186044416) : impl_ascending.f L = some (ascW L) := by
  unfold impl_ascending.f
  simp only [impl_sortedBy_140.f, if_pos h]
  rw [sbL_eq (p := fun a b => impl_ascending_1.f a b) (lt := ltN) (ordN (fun _ => True)) (fun a b _ _ => rfl) _ _ (fun _ _ => trivial) (by simp) List.Pairwise.nil]
  rfl

theorem l1Put_l0 (out : List Int) (x : Int) (hlen : out.length ≤ 1000) (hx : x ∉ out) : ∀ (d k : Nat), k + d = posW ltN x out → Ev (fun K => spec_l1Put.l0 K out x (k : Int)) (insW ltN x out) := by
  have hp := posW_le ltN x out
  intro d
  induction d with
  | zero =>
    intro k hk
    have hk' : k = posW ltN x out := by omega
    have fin : (out.take ((k : Nat) : Int).toNat ++ [x]) ++ out.drop ((k : Nat) : Int).toNat = insW ltN x out := by subst hk'; simp [insW]
    refine ev_succ ?_
    have c0 : ([] : List Int).length + (out.take ((k : Nat) : Int).toNat).length < 17592186044416 := by simp only [List.length_take, List.length_nil]; omega
    have c1 : ((out.take ((k : Nat) : Int).toNat).length + [x].length < 17592186044416) := by simp only [List.length_take, List.length_singleton]; omega
    have c2 : (((out.take ((k : Nat) : Int).toNat) ++ [x]).length + (out.drop ((k : Nat) : Int).toNat).length < 17592186044416) := by simp only [List.length_append, List.length_take, List.length_drop, List.length_singleton]; omega
    by_cases hkl : k < out.length
    · have hlt : ltN x (out[k]'hkl) = true := by
        subst hk'
        exact posW_at hkl
      have hs : x < out[k] := of_decide_eq_true hlt
      simp only [spec_l1Put.l0, if_pos (show ((k : Nat) : Int) < (out.length : Int) by omega), if_pos (show (0 : Int) ≤ ((k : Nat) : Int) by omega), rdW out k hkl, if_neg (show ¬ out[k] < x by omega), if_neg (show ¬ out[k] = x by omega), Option.bind_some, if_pos c0, List.nil_append, if_pos c1, if_pos c2, if_pos (show ((k : Nat) : Int) ≤ (out.length : Int) by omega), fin]
      exact ev_now _
    · simp only [spec_l1Put.l0, if_neg (show ¬ ((k : Nat) : Int) < (out.length : Int) by omega), if_pos (show (0 : Int) ≤ ((k : Nat) : Int) by omega), if_pos (show ((k : Nat) : Int) ≤ (out.length : Int) by omega), Option.bind_some, if_pos c0, List.nil_append, if_pos c1, if_pos c2, fin]
      exact ev_now _
  | succ d ih =>
    intro k hk
    refine ev_succ ?_
    have hkl : k < out.length := by omega
    have hlt : ltN x out[k] = false := posW_before (by omega)
    have hs : ¬ x < out[k] := of_decide_eq_false hlt
    have hne : out[k] ≠ x := fun h => hx (h ▸ List.getElem_mem hkl)
    simp only [spec_l1Put.l0, if_pos (show ((k : Nat) : Int) < (out.length : Int) by omega), if_pos (show (0 : Int) ≤ ((k : Nat) : Int) by omega), rdW out k hkl, if_pos (show out[k] < x by omega), w64 (x := ((k : Nat) : Int) + 1) (by omega) (by omega)]
    exact ih (k + 1) (by omega)
theorem l1Put_ev (out : List Int) (x : Int) (hlen : out.length ≤ 1000) (hx : x ∉ out) : Ev (fun k => spec_l1Put.f k out x) (insW ltN x out) :=
  l1Put_l0 out x hlen hx (posW ltN x out) 0 (by omega)

/-- A list without the numbers of another one. -/
def delW (X : List Int) : List Int → List Int
  | [] => X
  | g :: G => delW (X.erase g) G
theorem delW_perm {X Y : List Int} (h : X.Perm Y) : ∀ G : List Int, (delW X G).Perm (delW Y G) := by
  intro G
  induction G generalizing X Y with
  | nil => exact h
  | cons g G ih => exact ih (h.erase g)
theorem delW_append (X : List Int) : ∀ G H : List Int, delW X (G ++ H) = delW (delW X G) H := by
  intro G
  induction G generalizing X with
  | nil => intro H; rfl
  | cons g G ih => intro H; exact ih (X.erase g) H
theorem delW_cons (i : Int) : ∀ (G X : List Int), (∀ g ∈ G, i ≠ g) → delW (i :: X) G = i :: delW X G := by
  intro G
  induction G with
  | nil => intro X _; rfl
  | cons g G ih =>
    intro X h
    show delW ((i :: X).erase g) G = i :: delW (X.erase g) G
    rw [List.erase_cons_tail (by simpa using h g (by simp))]
    exact ih (X.erase g) (fun g' hg => h g' (by simp [hg]))
theorem delW_mem (b : Int) : ∀ (G X : List Int), b ∈ delW X G → b ∈ X := by
  intro G
  induction G with
  | nil => intro X h; exact h
  | cons g G ih => intro X h; exact List.mem_of_mem_erase (ih (X.erase g) h)
theorem erase_idx_perm (L : List Int) (m : Nat) (h : m < L.length) : (L.erase L[m]).Perm (L.eraseIdx m) := by
  have h1 := List.perm_cons_erase (List.getElem_mem h)
  have h2 : (L[m] :: L.eraseIdx m).Perm L := by
    rw [List.eraseIdx_eq_take_drop_succ]
    refine List.perm_middle.symm.trans ?_
    rw [← List.drop_eq_getElem_cons h, List.take_append_drop]
  exact ((h1.symm.trans h2.symm)).cons_inv
theorem ruleM_take (tm du : Int → Int) : ∀ (M : List Int) (k : Nat), k ≤ M.length → (ruleM tm du M).2.2.take k = (ruleM tm du (M.take k)).2.2 := by
  refine snocW (fun k _ => by simp [ruleM]) ?_
  intro M i ih k hk
  rw [List.length_append, List.length_singleton] at hk
  have hl := (ruleM_len tm du M).2
  by_cases he : k ≤ M.length
  · have e : ∃ x, (ruleM tm du (M ++ [i])).2.2 = (ruleM tm du M).2.2 ++ [x] := by
      rw [ruleM_snoc]
      unfold ruleS
      split
      · exact ⟨_, rfl⟩
      · exact ⟨_, rfl⟩
    obtain ⟨x, e⟩ := e
    rw [e, List.take_append_of_le_length (by omega), List.take_append_of_le_length he]
    exact ih k he
  · have := (ruleM_len tm du (M ++ [i])).2
    rw [List.length_append, List.length_singleton] at this
    rw [List.take_of_length_le (by omega), List.take_of_length_le (by rw [List.length_append, List.length_singleton]; omega)]
theorem ruleM_left (tm du : Int → Int) : ∀ M : List Int, M.Nodup → (∀ b ∈ M, 0 ≤ b) →
    (ruleM tm du M).1.Perm (delW M ((ruleM tm du M).2.2.map (fun s => s.f1))) ∧ (ruleM tm du M).2.2.map (fun s => s.f0) = M ∧ ∀ g ∈ (ruleM tm du M).2.2.map (fun s => s.f1), g = -1 ∨ g ∈ M := by
  refine snocW (fun _ _ => by simp [ruleM, delW]) ?_
  intro M i ih hn h0
  obtain ⟨hn1, _, hn2⟩ := List.nodup_append.1 hn
  have hi : i ∉ M := fun h => hn2 i h i (by simp) rfl
  have h0i : 0 ≤ i := h0 i (by simp)
  obtain ⟨hp, hf, hg⟩ := ih hn1 (fun b hb => h0 b (by simp [hb]))
  rw [ruleM_snoc]
  have hmem : ∀ b ∈ (ruleM tm du M).1, b ∈ M := fun b hb => ruleM_mem tm du b M hb
  generalize ruleM tm du M = s at *
  obtain ⟨T, D, S⟩ := s
  simp only at hp hf hg hmem
  have hgi : ∀ g ∈ S.map (fun s => s.f1), i ≠ g := by
    intro g h e
    rcases hg g h with h1 | h1
    · omega
    · exact hi (e ▸ h1)
  have key : (delW (M ++ [i]) (S.map (fun s => s.f1))).Perm (T ++ [i]) := by
    refine (delW_perm (List.perm_append_singleton i M) _).trans ?_
    rw [delW_cons i _ _ hgi]
    exact (hp.symm.cons i).trans (List.perm_append_singleton i T).symm
  unfold ruleS
  have hpl := longP_lt tm (T ++ [i]) (by simp)
  by_cases hc : sumW tm (T ++ [i]) > du i
  · simp only [if_pos hc, List.map_append, List.map_cons, List.map_nil, hf, delW_append, delW]
    rw [rdW _ _ hpl]
    refine ⟨(erase_idx_perm _ _ hpl).symm.trans (key.erase _).symm, trivial, ?_⟩
    intro g h
    rcases List.mem_append.1 h with h | h
    · rcases hg g h with h1 | h1
      · exact Or.inl h1
      · exact Or.inr (by simp [h1])
    · rw [List.mem_singleton.1 h]
      rcases List.mem_append.1 (List.getElem_mem hpl) with h1 | h1
      · exact Or.inr (by simp [hmem _ h1])
      · exact Or.inr (by simp only [List.mem_append]; exact Or.inr h1)
  · simp only [if_neg hc, List.map_append, List.map_cons, List.map_nil, hf, delW_append, delW]
    have hno : (-1 : Int) ∉ delW (M ++ [i]) (S.map (fun s => s.f1)) := by
      intro h
      have := h0 _ (delW_mem _ _ _ h)
      omega
    rw [List.erase_of_not_mem hno]
    refine ⟨key.symm, trivial, ?_⟩
    intro g h
    rcases List.mem_append.1 h with h | h
    · rcases hg g h with h1 | h1
      · exact Or.inl h1
      · exact Or.inr (by simp [h1])
    · exact Or.inl (List.mem_singleton.1 h)

theorem idsW_nodup (n : Nat) : (idsW n).Nodup := by
  unfold idsW List.Nodup
  rw [List.pairwise_map]
  exact List.pairwise_lt_range.imp (fun h => by omega)

theorem rdA2 (xs : List S64) (i : Nat) (h : i < xs.length) : rd_T64 xs (i : Int) = xs[i] := by
  unfold rd_T64
  rw [Int.toNat_natCast, List.getD_eq_getElem?_getD, List.getElem?_eq_getElem h]
  rfl
theorem w01 : wrap64 (0 + 1) = 1 := by unfold wrap64; omega
theorem w11 : wrap64 (1 + 1) = 2 := by unfold wrap64; omega

theorem l3At_l0 (out : List Int) (g : Int) (hlen : out.length ≤ 1000) : ∀ (d i : Nat), i + d = out.length → ∃ a : Int, Ev (fun K => spec_l3At.l0 K out g (i : Int)) a ∧ (a = -1 ∧ g ∉ out.drop i ∨ ∃ (m : Nat) (h : m < out.length), a = (m : Int) ∧ out[m] = g) := by
  intro d
  induction d with
  | zero =>
    intro i hi
    refine ⟨-1, ev_succ ?_, Or.inl ⟨rfl, by rw [List.drop_eq_nil_of_le (by omega)]; simp⟩⟩
    simp only [spec_l3At.l0, if_neg (show ¬ ((i : Int) < (out.length : Int)) by omega)]
    exact ev_now _
  | succ d ih =>
    intro i hi
    have hil : i < out.length := by omega
    by_cases hc : out[i] = g
    · refine ⟨(i : Int), ev_succ ?_, Or.inr ⟨i, hil, rfl, hc⟩⟩
      simp only [spec_l3At.l0, if_pos (show (i : Int) < (out.length : Int) by omega), if_pos (show (0 : Int) ≤ (i : Int) by omega), rdW out i hil, if_pos hc]
      exact ev_now _
    · obtain ⟨a, ha, hr⟩ := ih (i + 1) (by omega)
      refine ⟨a, ev_succ ?_, ?_⟩
      · simp only [spec_l3At.l0, if_pos (show (i : Int) < (out.length : Int) by omega), if_pos (show (0 : Int) ≤ (i : Int) by omega), rdW out i hil, if_neg hc, w64 (x := (i : Int) + 1) (by omega) (by omega)]
        exact ha
      · rcases hr with ⟨h1, h2⟩ | h
        · refine Or.inl ⟨h1, ?_⟩
          rw [List.drop_eq_getElem_cons hil]
          intro h
          rcases List.mem_cons.1 h with h | h
          · exact hc h.symm
          · exact h2 h
        · exact Or.inr h
theorem l3At_ev (out : List Int) (g : Int) (hlen : out.length ≤ 1000) : ∃ a : Int, Ev (fun K => spec_l3At.f K out g) a ∧ (a = -1 ∧ g ∉ out ∨ ∃ (m : Nat) (h : m < out.length), a = (m : Int) ∧ out[m] = g) := by
  have := l3At_l0 out g hlen out.length 0 (by omega)
  rw [List.drop_zero] at this
  exact this
theorem left_l1 (S : List S64) (a : Nat) (ha : a ≤ S.length) (ha' : a ≤ 1000) (X : List Int) (hX : X.length ≤ 1000) : ∀ (d i : Nat) (out : List Int), i + d = a → out.Pairwise (fun a b => a ≤ b) → out.Perm (delW X ((S.take i).map (fun s => s.f1))) →
    Ev (fun K => spec_LeftAfter.l1 K (a : Int) out S (i : Int)) (ascW (delW X ((S.take a).map (fun s => s.f1))), true) := by
  intro d
  induction d with
  | zero =>
    intro i out hi hs hp
    obtain rfl : i = a := by omega
    refine ev_succ ?_
    simp only [spec_LeftAfter.l1, if_neg (show ¬ ((i : Int) < (i : Int)) by omega)]
    rw [show out = ascW (delW X ((S.take i).map (fun s => s.f1))) from List.Perm.eq_of_pairwise (fun a b _ _ h1 h2 => by omega) hs (ascW_sorted _) (hp.trans (ascW_perm _).symm)]
    exact ev_now _
  | succ d ih =>
    intro i out hi hs hp
    refine ev_succ ?_
    have hil : i < S.length := by omega
    have hlen : out.length ≤ 1000 := by
      have h1 : ∀ (G X : List Int), (delW X G).length ≤ X.length := by
        intro G
        induction G with
        | nil => intro X; exact Nat.le_refl _
        | cons g G ih => intro X; exact Nat.le_trans (ih (X.erase g)) (List.length_erase_le)
      rw [hp.length_eq]
      exact Nat.le_trans (h1 _ _) hX
    obtain ⟨t, ht, hr⟩ := l3At_ev out S[i].f1 hlen
    have step : ((S.take (i + 1)).map (fun s => s.f1)) = ((S.take i).map (fun s => s.f1)) ++ [S[i].f1] := by
      rw [List.take_succ_eq_append_getElem hil, List.map_append]
      rfl
    simp only [spec_LeftAfter.l1, if_pos (show (i : Int) < (a : Int) by omega), if_pos (show (0 : Int) ≤ (i : Int) by omega), if_pos (show (i : Int) < (S.length : Int) by omega), rdA2 S i hil]
    refine ev_bind ht ?_
    rcases hr with ⟨rfl, hno⟩ | ⟨m, hm, rfl, he⟩
    · simp only [if_neg (show ¬ ((-1 : Int) ≥ 0) by omega), w64 (x := (i : Int) + 1) (by omega) (by omega)]
      refine ih (i + 1) out (by omega) hs ?_
      rw [step, delW_append]
      refine hp.trans ?_
      show (delW X _).Perm ((delW X _).erase S[i].f1)
      rw [List.erase_of_not_mem (fun h => hno (hp.mem_iff.2 h))]
    · simp only [if_pos (show ((m : Int) ≥ 0) by omega), l3Without_eq out m hm hlen, Option.bind_some, w64 (x := (i : Int) + 1) (by omega) (by omega)]
      refine ih (i + 1) _ (by omega) (hs.sublist (List.eraseIdx_sublist out m)) ?_
      rw [step, delW_append]
      show (out.eraseIdx m).Perm ((delW X _).erase S[i].f1)
      refine (erase_idx_perm out m hm).symm.trans ?_
      rw [he]
      exact hp.erase _
theorem left_l0 (S : List S64) (M : List Int) (hf : S.map (fun s => s.f0) = M) (hn : M.Nodup) (a : Nat) (ha : a ≤ M.length) (hM : M.length ≤ 1000) (r : List Int × Bool) (hr : Ev (fun K => spec_LeftAfter.l1 K (a : Int) (ascW (M.take a)) S 0) r) : ∀ (d i : Nat), i + d = a → Ev (fun K => spec_LeftAfter.l0 K (a : Int) (ascW (M.take i)) S (i : Int)) r := by
  have hl : S.length = M.length := by rw [← hf, List.length_map]
  intro d
  induction d with
  | zero =>
    intro i hi
    obtain rfl : i = a := by omega
    refine ev_succ ?_
    simp only [spec_LeftAfter.l0, if_neg (show ¬ ((i : Int) < (i : Int)) by omega)]
    exact hr
  | succ d ih =>
    intro i hi
    refine ev_succ ?_
    have hil : i < S.length := by omega
    have him : i < M.length := by omega
    have e : S[i].f0 = M[i] := by subst hf; simp
    have next := ih (i + 1) (by omega)
    have hpl := (ascW_perm (M.take i)).length_eq
    rw [List.length_take] at hpl
    have hno : M[i] ∉ ascW (M.take i) := by
      intro h
      have h := (ascW_perm (M.take i)).mem_iff.1 h
      obtain ⟨j, hj, ej⟩ := List.mem_iff_getElem.1 h
      rw [List.length_take] at hj
      rw [List.getElem_take] at ej
      exact (List.pairwise_iff_getElem.1 hn) j i (by omega) him (by omega) ej
    simp only [spec_LeftAfter.l0, if_pos (show (i : Int) < (a : Int) by omega), if_pos (show (0 : Int) ≤ (i : Int) by omega), if_pos (show (i : Int) < (S.length : Int) by omega), rdA2 S i hil, e]
    refine ev_bind (l1Put_ev _ M[i] (by omega) hno) ?_
    simp only [w64 (x := (i : Int) + 1) (by omega) (by omega)]
    have es : insW ltN M[i] (ascW (M.take i)) = ascW (M.take (i + 1)) := by
      unfold ascW
      rw [List.take_succ_eq_append_getElem him, sortW_append]
      rfl
    rw [es]
    exact next
theorem core (l : List S59) (a : Int) (hm : l.length ≤ 1048576) (_ : ∀ (i : Nat) (hi : i < l.length), I64 l[i].f0 ∧ I64 l[i].f1 ∧ I64 l[i].f2 ∧ I64 l[i].f3) (_ : I64 a) :
    ∃ (r : List Int) (ok : Bool), r.length ≤ 1048576 ∧ Ev (fun k => spec_LeftAfter.f k l a) (r, ok) ∧ Ev (fun k => impl_LeftAfter.f k l a) (r, ok) := by
  have h1 := specIsPlain_ev l (by omega)
  have h2 := IsPlain_ev l (by omega)
  have n1 : Ev (fun k => spec_LeftAfter.j0 k l a [] true) ([], false) := ev_succ (by simp only [spec_LeftAfter.j0, if_true]; exact ev_now _)
  have n2 : Ev (fun k => impl_LeftAfter.j0 k l a true) ([], false) := ev_succ (by simp only [impl_LeftAfter.j0, if_true]; exact ev_now _)
  unfold spec_LeftAfter.f impl_LeftAfter.f
  simp only [Option.bind_some]
  cases hp : plainB l
  · rw [hp] at h1 h2
    exact ⟨[], false, by simp, ev_bind h1 (by simp only [Bool.false_eq_true, if_false]; exact n1), ev_bind h2 (by simp only [Bool.false_eq_true, if_false]; exact n2)⟩
  rw [hp] at h1 h2
  have hg := plain_good hp
  have hl := good_len hg
  by_cases ha : 0 ≤ a ∧ a ≤ (l.length : Int)
  case neg =>
    have hb : (decide (0 ≤ a) && decide (a ≤ (l.length : Int))) = false := by simpa using ha
    refine ⟨[], false, by simp, ev_bind h1 ?_, ev_bind h2 ?_⟩ <;> simp only [if_true, l1In_eq, within_eq, Option.bind_some, hb, Bool.not_false]
    · exact n1
    · exact n2
  have hb : (decide (0 ≤ a) && decide (a ≤ (l.length : Int))) = true := by simpa using ha
  obtain ⟨q, rfl⟩ : ∃ q : Nat, a = (q : Int) := ⟨a.toNat, by omega⟩
  have hq : q ≤ l.length := by omega
  have hr := ruledL_len l 4
  have hn : (ruledL l 4).Nodup := (ruledL_perm l 4).nodup_iff.2 (idsW_nodup l.length)
  have h0 : ∀ b ∈ ruledL l 4, 0 ≤ b := fun b hb => (ruledL_mem hb).1
  obtain ⟨_, hf, _⟩ := ruleM_left (tmJ l) (duJ l) (ruledL l 4) hn h0
  have hnt : ((ruledL l 4).take q).Nodup := hn.sublist (List.take_sublist _ _)
  obtain ⟨hpt, _, _⟩ := ruleM_left (tmJ l) (duJ l) ((ruledL l 4).take q) hnt (fun b hb => h0 b (List.mem_of_mem_take hb))
  have hsl := (ruleM_len (tmJ l) (duJ l) (ruledL l 4)).2
  have htk := ruleM_take (tmJ l) (duJ l) (ruledL l 4) q (by omega)
  have hlr := ruleM_len (tmJ l) (duJ l) ((ruledL l 4).take q)
  rw [List.length_take] at hlr
  refine ⟨ascW (ruleM (tmJ l) (duJ l) ((ruledL l 4).take q)).1, true, by rw [(ascW_perm _).length_eq]; omega, ev_bind h1 ?_, ev_bind h2 ?_⟩ <;> simp only [if_true, l1In_eq, within_eq, Option.bind_some, hb, Bool.not_true]
  · refine ev_succ ?_
    simp only [spec_LeftAfter.j0, Bool.false_eq_true, if_false]
    refine ev_bind (l3Rule_ev l hg) ?_
    have e : ascW (delW ((ruledL l 4).take q) (((ruleM (tmJ l) (duJ l) (ruledL l 4)).2.2.take q).map (fun s => s.f1))) = ascW (ruleM (tmJ l) (duJ l) ((ruledL l 4).take q)).1 := by
      rw [htk]
      exact List.Perm.eq_of_pairwise (fun a b _ _ h1 h2 => by omega) (ascW_sorted _) (ascW_sorted _) ((ascW_perm _).trans (hpt.symm.trans (ascW_perm _).symm))
    have := left_l1 (ruleM (tmJ l) (duJ l) (ruledL l 4)).2.2 q (by omega) (by omega) ((ruledL l 4).take q) (by rw [List.length_take]; omega) q 0 (ascW ((ruledL l 4).take q)) (by omega) (ascW_sorted _) (by simpa [delW] using ascW_perm ((ruledL l 4).take q))
    rw [e] at this
    exact left_l0 _ (ruledL l 4) hf hn q (by omega) (by omega) _ this q 0 (by omega)
  · refine ev_succ ?_
    simp only [impl_LeftAfter.j0, Bool.false_eq_true, if_false]
    refine ev_bind (lateRule_ev l hg q hq) ?_
    simp only [ascending_eq _ (show (ruleM (tmJ l) (duJ l) ((ruledL l 4).take q)).1.length < 17592186044416 by omega), Option.bind_some]
    exact ev_now _

theorem FnExactLeftAfter : FnExactLeftAfter.Claim := by
  intro l0 a1 hl0 hg0 hi1
  refine Ev.rounds ?_
  unfold laws_FnExactLeftAfter.f
  simp only [szJobS_eq l0 (1048576 : Int) (by omega) (by omega) hl0, Option.bind_some]
  by_cases h0 : (1048576 : Int) < l0.length
  · simp only [if_pos h0, if_pos (show (-1 : Int) < 0 by omega)]
    exact ev_now _
  simp only [if_neg h0, if_neg (show ¬ (((1048576 : Int) - l0.length) < 0) by omega)]
  have ht0 := toJobS_ev l0 (by omega)
  have hm0 : (l0.map conv).length ≤ 1048576 := by simp; omega
  have hq0 := eqJobS_ev (l0.map conv) (by omega)
  obtain ⟨r0, r1, hr0, hs, hi⟩ := core (l0.map conv) a1 hm0 (conv_I64 l0 hg0) hi1
  obtain ⟨qa0, ya0, _, hb0, ma0⟩ := markJobS_from1 (l0.map conv) hm0
  have he0 := eqIntS_ev r0 (by omega)
  obtain ⟨q0, y0, hq_0, m0, e0⟩ := markIntS_ev r0 hr0
  repeat first
    | exact ev_now _
    | with_reducible refine ev_bind hs ?_
    | with_reducible refine ev_bind hi ?_
    | with_reducible refine ev_bind ht0 ?_
    | with_reducible refine ev_bind hq0 ?_
    | with_reducible refine ev_bind ma0 ?_
    | with_reducible refine ev_bind he0 ?_
    | with_reducible refine ev_bind m0 ?_
    | with_reducible refine ev_bind e0 ?_
    | simp only [if_true, if_false, bne_self_eq_false, Bool.false_eq_true, if_neg (show ¬ ((qa0 : Int) < 0) by omega), if_neg (show ¬ ((q0 : Int) < 0) by omega)]
    | (refine ev_succ ?_; simp only [laws_FnExactLeftAfter.j0])
    | (refine ev_succ ?_; simp only [laws_FnExactLeftAfter.j1])
    | (refine ev_succ ?_; simp only [laws_FnExactLeftAfter.j2])

end Go.Proofs.Ythhmembnhnghiaa.Pure
