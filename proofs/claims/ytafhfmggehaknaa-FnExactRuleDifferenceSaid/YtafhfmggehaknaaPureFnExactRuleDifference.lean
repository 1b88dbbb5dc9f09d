/- The program's function and the reference's come to the same answer: the statement of numbers and lists behind the law FnExactRuleDifference. Conditions: none. -/
import Derived.Test.YtafhfmggehaknaaArgFnExactRuleDifference
import Derived.Test.YtafhfmggehaknaaBase
namespace Go.Proofs.Ytafhfmggehaknaa.Pure
open Go.RowKit Go.Proofs.Ytafhfmggehaknaa.OFnExactRuleDifference Go.Proofs.Ytafhfmggehaknaa.Base Go.Proofs.YtafhfmggehaknaaW.PrintWords Go.Proofs.YtafhfmggehaknaaW.PrintLast Go.Proofs.YtafhfmggehaknaaW.PrintMore Go.Proofs.Ytafhfmggehaknaa.Open
set_option linter.unusedVariables false
set_option linter.unusedSimpArgs false

theorem szJobS_eq (xs : List S60) (left : Int) (h0 : 0 ≤ left) (h1 : left ≤ 1048576) (h : xs.length ≤ 9223372036854775807) : laws_szJobS.f xs left = some (if left < xs.length then -1 else left - xs.length) := by
  unfold laws_szJobS.f
  rw [w64 (by omega) (by omega)]
  by_cases c : left < xs.length
  · rw [if_pos (by omega), if_pos c]
  · rw [if_neg (by omega), if_neg c]

def conv (x : S60) : S58 := ⟨x.f0, x.f1, x.f2, x.f3⟩
theorem rdL (xs : List S60) (i : Nat) (h : i < xs.length) : rd_T60 xs (i : Int) = xs[i] := by
  unfold rd_T60
  rw [Int.toNat_natCast, List.getD_eq_getElem?_getD, List.getElem?_eq_getElem h]
  rfl

theorem toJobS_l (xs : List S60) (hn : xs.length ≤ 8796093022208) : ∀ (d i : Nat) (ys : List S58), i + d = xs.length → ys.length = xs.length → ys.take i = (xs.map conv).take i → Ev (fun k => laws_toJobS.l0 k xs ys (i : Int)) (xs.map conv) := by
  intro d
  induction d with
  | zero =>
    intro i ys hi hl ht
    refine ev_succ ?_
    simp only [laws_toJobS.l0, if_neg (show ¬ (i : Int) < (xs.length : Int) by omega)]
    have : ys = xs.map conv := by
      rw [List.take_of_length_le (by omega), List.take_of_length_le (by simp; omega)] at ht
      exact ht
    rw [this]
    exact ev_now _
  | succ d ih =>
    intro i ys hi hl ht
    refine ev_succ ?_
    have hx : i < xs.length := by omega
    simp only [laws_toJobS.l0, laws_toJob.f, Option.bind_some, if_pos (show (i : Int) < (xs.length : Int) by omega), if_pos (show (i : Int) < (ys.length : Int) by omega), if_pos (show (0 : Int) ≤ (i : Int) by omega), rdL xs i hx, wsucc i (by omega), Int.toNat_natCast]
    refine ih (i + 1) _ (by omega) (by rw [List.length_set]; exact hl) ?_
    rw [take_set_succ ys i _ (by omega), ht, List.take_succ_eq_append_getElem (by simp; omega)]
    simp [conv]
theorem toJobS_ev (xs : List S60) (hn : xs.length ≤ 1048576) : Ev (fun k => laws_toJobS.f k xs) (xs.map conv) := by
  unfold laws_toJobS.f
  simp only [if_pos (show (0 : Int) ≤ (xs.length : Int) by omega), Int.toNat_natCast, if_pos (show xs.length ≤ 8796093022208 by omega)]
  exact toJobS_l xs (by omega) xs.length 0 _ (by omega) (by simp) (by simp)

theorem rdI (xs : List S58) (i : Nat) (h : i < xs.length) : rd_T58 xs (i : Int) = xs[i] := by
  unfold rd_T58
  rw [Int.toNat_natCast, List.getD_eq_getElem?_getD, List.getElem?_eq_getElem h]
  rfl

theorem eqJobS_l (xs : List S58) (hn : xs.length ≤ 4611686018427387904) : ∀ (d i : Nat), i + d = xs.length → Ev (fun k => laws_eqJobS.l0 k xs xs (i : Int)) true := by
  intro d
  induction d with
  | zero =>
    intro i hi
    refine ev_succ ?_
    simp only [laws_eqJobS.l0, if_neg (show ¬ (i : Int) < (xs.length : Int) by omega)]
    exact ev_now _
  | succ d ih =>
    intro i hi
    refine ev_succ ?_
    simp only [laws_eqJobS.l0, laws_eqJob.f, if_true, Option.bind_some, if_pos (show (i : Int) < (xs.length : Int) by omega), if_pos (show (0 : Int) ≤ (i : Int) by omega), wsucc i (by omega)]
    exact ih (i + 1) (by omega)
theorem eqJobS_ev (xs : List S58) (hn : xs.length ≤ 4611686018427387904) : Ev (fun k => laws_eqJobS.f k xs xs) true := by
  unfold laws_eqJobS.f
  simp only [if_true]
  exact eqJobS_l xs hn xs.length 0 (by omega)

theorem conv_I64 (l : List S60) (hg : ∀ x ∈ l, G60 x) (i : Nat) (hi : i < (l.map conv).length) : I64 (l.map conv)[i].f0 ∧ I64 (l.map conv)[i].f1 ∧ I64 (l.map conv)[i].f2 ∧ I64 (l.map conv)[i].f3 := by
  simp only [List.getElem_map, conv]
  exact hg _ (List.getElem_mem _)

theorem within_eq (a b c : Int) : impl_within.f a b c = some (decide (b ≤ a) && decide (a ≤ c)) := by
  unfold impl_within.f
  by_cases h : b ≤ a
  · rw [if_pos h]; simp [h]
  · rw [if_neg h]; simp [h]

/-- A job's numbers are in their bounds. -/
def okJ (x : S58) : Bool := decide (1 ≤ x.f0) && (decide (x.f0 ≤ 50) && (decide (0 ≤ x.f1) && (decide (x.f1 ≤ 50) && (decide (0 ≤ x.f2) && (decide (x.f2 ≤ 500) && (decide (0 ≤ x.f3) && decide (x.f3 ≤ 500)))))))
def goodB (l : List S58) : Bool := decide (l.length ≤ 8) && l.all okJ
theorem isDate_eq (a : Int) : impl_isDate.f a = some (decide (0 ≤ a) && decide (a ≤ 500)) := by
  unfold impl_isDate.f
  rw [within_eq]
  rfl
theorem job_chain (x : S58) (o : Option Bool) : (if (decide (1 ≤ x.f0) && decide (x.f0 ≤ 50)) = true then (if (decide (0 ≤ x.f1) && decide (x.f1 ≤ 50)) = true then (if (decide (0 ≤ x.f2) && decide (x.f2 ≤ 500)) = true then (if (decide (0 ≤ x.f3) && decide (x.f3 ≤ 500)) = true then o else some false) else some false) else some false) else some false) = if okJ x = true then o else some false := by
  unfold okJ
  by_cases a1 : 1 ≤ x.f0 <;> by_cases a2 : x.f0 ≤ 50 <;> simp [a1, a2]
  by_cases b1 : 0 ≤ x.f1 <;> by_cases b2 : x.f1 ≤ 50 <;> simp [b1, b2]
  by_cases c1 : 0 ≤ x.f2 <;> by_cases c2 : x.f2 ≤ 500 <;> simp [c1, c2]
theorem IsJobs_l (xs : List S58) (hn : xs.length ≤ 4611686018427387904) : ∀ (d i : Nat), i + d = xs.length → Ev (fun k => impl_IsJobs.l0 k xs (xs.length : Int) (i : Int)) ((xs.drop i).all okJ) := by
  intro d
  induction d with
  | zero =>
    intro i hi
    refine ev_succ ?_
    simp only [impl_IsJobs.l0, if_neg (show ¬ (i : Int) < (xs.length : Int) by omega), List.drop_of_length_le (show xs.length ≤ i by omega)]
    exact ev_now _
  | succ d ih =>
    intro i hi
    refine ev_succ ?_
    have hx : i < xs.length := by omega
    have hih := ih (i + 1) (by omega)
    rw [List.drop_eq_getElem_cons hx, List.all_cons]
    simp only [impl_IsJobs.l0, within_eq, isDate_eq, Option.bind_some, if_pos (show (i : Int) < (xs.length : Int) by omega), if_pos (show (0 : Int) ≤ (i : Int) by omega), wsucc i (by omega), rdI xs i hx]
    generalize xs[i] = x at *
    simp only [job_chain]
    by_cases c : okJ x = true
    · simpa only [c, if_true, Bool.true_and] using hih
    · have c' : okJ x = false := by simpa using c
      simp only [c', Bool.false_and]
      exact ev_now _
theorem IsJobs_ev (xs : List S58) (hn : xs.length ≤ 4611686018427387904) : Ev (fun k => impl_IsJobs.f k xs) (goodB xs) := by
  unfold impl_IsJobs.f goodB
  by_cases h : xs.length ≤ 8
  · simp only [if_neg (show ¬ ((xs.length : Int) > 8) by omega), decide_eq_true h, Bool.true_and]
    exact IsJobs_l xs hn xs.length 0 (by omega)
  · simp only [if_pos (show ((xs.length : Int) > 8) by omega), decide_eq_false h, Bool.false_and]
    exact ev_now _

def freeJ (x : S58) : Bool := decide (x.f2 = 0)
def plainB (l : List S58) : Bool := goodB l && l.all freeJ
theorem isPlain_l (xs : List S58) (hn : xs.length ≤ 4611686018427387904) : ∀ (d i : Nat), i + d = xs.length → Ev (fun k => impl_isPlain.l0 k xs (xs.length : Int) (i : Int)) ((xs.drop i).all freeJ) := by
  intro d
  induction d with
  | zero =>
    intro i hi
    refine ev_succ ?_
    simp only [impl_isPlain.l0, if_neg (show ¬ (i : Int) < (xs.length : Int) by omega), List.drop_of_length_le (show xs.length ≤ i by omega)]
    exact ev_now _
  | succ d ih =>
    intro i hi
    refine ev_succ ?_
    have hx : i < xs.length := by omega
    have hih := ih (i + 1) (by omega)
    rw [List.drop_eq_getElem_cons hx, List.all_cons]
    simp only [impl_isPlain.l0, if_pos (show (i : Int) < (xs.length : Int) by omega), if_pos (show (0 : Int) ≤ (i : Int) by omega), wsucc i (by omega), rdI xs i hx]
    by_cases c : (xs[i]).f2 = 0
    · simp only [if_pos c, freeJ, decide_eq_true c, Bool.true_and]
      exact hih
    · simp only [if_neg c, freeJ, decide_eq_false c, Bool.false_and]
      exact ev_now _
theorem isPlain_ev (xs : List S58) (hn : xs.length ≤ 4611686018427387904) : Ev (fun k => impl_isPlain.f k xs) (xs.all freeJ) := by
  unfold impl_isPlain.f
  exact isPlain_l xs hn xs.length 0 (by omega)

theorem l1In_eq (a b c : Int) : spec_l1In.f a b c = some (decide (b ≤ a) && decide (a ≤ c)) := by
  unfold spec_l1In.f
  by_cases h : b ≤ a
  · rw [if_pos h]; simp [h]
  · rw [if_neg h]; simp [h]

theorem l2Job_eq (x : S58) : spec_l2Job.f x.f0 x.f1 x.f2 x.f3 = some (okJ x) := by
  unfold spec_l2Job.f okJ
  simp only [l1In_eq, Option.bind_some]
  by_cases a1 : 1 ≤ x.f0 <;> by_cases a2 : x.f0 ≤ 50 <;> simp [a1, a2]
  by_cases b1 : 0 ≤ x.f1 <;> by_cases b2 : x.f1 ≤ 50 <;> simp [b1, b2]
  by_cases c1 : 0 ≤ x.f2 <;> by_cases c2 : x.f2 ≤ 500 <;> simp [c1, c2]
theorem l2Good_l (xs : List S58) (hn : xs.length ≤ 4611686018427387904) : ∀ (d i : Nat), i + d = xs.length → Ev (fun k => spec_l2Good.l0 k xs (i : Int)) ((xs.drop i).all okJ && decide (xs.length ≤ 8)) := by
  intro d
  induction d with
  | zero =>
    intro i hi
    refine ev_succ ?_
    simp only [spec_l2Good.l0, if_neg (show ¬ (i : Int) < (xs.length : Int) by omega), List.drop_of_length_le (show xs.length ≤ i by omega)]
    refine ev_const ?_
    simp
    omega
  | succ d ih =>
    intro i hi
    refine ev_succ ?_
    have hx : i < xs.length := by omega
    have hih := ih (i + 1) (by omega)
    rw [List.drop_eq_getElem_cons hx, List.all_cons]
    simp only [spec_l2Good.l0, if_pos (show (i : Int) < (xs.length : Int) by omega), if_pos (show (0 : Int) ≤ (i : Int) by omega), wsucc i (by omega), rdI xs i hx, l2Job_eq, Option.bind_some]
    by_cases c : okJ xs[i] = true
    · simpa only [c, if_true, Bool.true_and] using hih
    · have c' : okJ xs[i] = false := by simpa using c
      simp only [c', Bool.false_and]
      exact ev_now _
theorem l2Good_ev (xs : List S58) (hn : xs.length ≤ 4611686018427387904) : Ev (fun k => spec_l2Good.f k xs) (goodB xs) := by
  unfold spec_l2Good.f goodB
  rw [Bool.and_comm]
  exact l2Good_l xs hn xs.length 0 (by omega)

theorem l3Plain_l (xs : List S58) (hn : xs.length ≤ 4611686018427387904) : ∀ (d i : Nat), i + d = xs.length → Ev (fun k => spec_l3Plain.l0 k xs (i : Int)) ((xs.drop i).all freeJ) := by
  intro d
  induction d with
  | zero =>
    intro i hi
    refine ev_succ ?_
    simp only [spec_l3Plain.l0, if_neg (show ¬ (i : Int) < (xs.length : Int) by omega), List.drop_of_length_le (show xs.length ≤ i by omega)]
    exact ev_now _
  | succ d ih =>
    intro i hi
    refine ev_succ ?_
    have hx : i < xs.length := by omega
    have hih := ih (i + 1) (by omega)
    rw [List.drop_eq_getElem_cons hx, List.all_cons]
    simp only [spec_l3Plain.l0, if_pos (show (i : Int) < (xs.length : Int) by omega), if_pos (show (0 : Int) ≤ (i : Int) by omega), wsucc i (by omega), rdI xs i hx]
    by_cases c : (xs[i]).f2 = 0
    · simp only [if_pos c, freeJ, decide_eq_true c, Bool.true_and]
      exact hih
    · simp only [if_neg c, freeJ, decide_eq_false c, Bool.false_and]
      exact ev_now _
theorem l3Plain_ev (xs : List S58) (hn : xs.length ≤ 4611686018427387904) : Ev (fun k => spec_l3Plain.f k xs) (xs.all freeJ) := by
  unfold spec_l3Plain.f
  exact l3Plain_l xs hn xs.length 0 (by omega)

/-- An objective is ruled for jobs. -/
def ruledB (l : List S58) (o : Int) : Bool := goodB l && (decide (o = 1) || (decide (2 ≤ o) && decide (o ≤ 4) && l.all freeJ))
theorem isRuled_ev (xs : List S58) (o : Int) (hn : xs.length ≤ 1048576) : Ev (fun k => impl_isRuled.f k xs o) (ruledB xs o) := by
  unfold impl_isRuled.f ruledB
  refine ev_bind (IsJobs_ev xs (by omega)) ?_
  cases goodB xs
  · simp only [Bool.false_eq_true, if_false, Bool.false_and]; exact ev_now _
  · simp only [if_true, Bool.true_and]
    by_cases h : o = 1
    · simp only [if_pos h, decide_eq_true h, Bool.true_or]; exact ev_now _
    · simp only [if_neg h, decide_eq_false h, Bool.false_or, within_eq, Option.bind_some]
      cases (decide (2 ≤ o) && decide (o ≤ 4))
      · simp only [Bool.false_eq_true, if_false, Bool.false_and]; exact ev_now _
      · simp only [if_true, Bool.true_and]; exact ev_bind (isPlain_ev xs (by omega)) (ev_now _)
theorem l3Ruled_ev (xs : List S58) (o : Int) (hn : xs.length ≤ 1048576) : Ev (fun k => spec_l3Ruled.f k xs o) (ruledB xs o) := by
  unfold spec_l3Ruled.f ruledB
  refine ev_bind (l2Good_ev xs (by omega)) ?_
  cases goodB xs
  · simp only [Bool.false_eq_true, if_false, Bool.false_and]; exact ev_now _
  · simp only [if_true, Bool.true_and, l1In_eq, Option.bind_some]
    by_cases h : o = 1
    · subst h
      simp only [show (decide ((1 : Int) ≤ 1) && decide ((1 : Int) ≤ 4)) = true from by decide, if_true, decide_true, Bool.true_or]
      exact ev_now _
    · have e : (decide ((1 : Int) ≤ o) && decide (o ≤ 4)) = (decide (2 ≤ o) && decide (o ≤ 4)) := by
        congr 1
        rw [decide_eq_decide]
        omega
      rw [e]
      simp only [if_neg h, decide_eq_false h, Bool.false_or]
      cases (decide (2 ≤ o) && decide (o ≤ 4))
      · simp only [Bool.false_eq_true, if_false, Bool.false_and]; exact ev_now _
      · simp only [if_true, Bool.true_and]; exact ev_bind (l3Plain_ev xs (by omega)) (ev_now _)
theorem ruled_good {xs : List S58} {o : Int} (h : ruledB xs o = true) : goodB xs = true := by
  unfold ruledB at h
  simp only [Bool.and_eq_true] at h
  exact h.1
/-- The rule difference of two jobs. -/
def gapJ (a b : S58) (o : Int) : Int := if o = 1 then a.f2 - b.f2 else if o = 2 then a.f0 - b.f0 else if o = 3 then a.f0 * b.f1 - b.f0 * a.f1 else a.f3 - b.f3

theorem good_len {xs : List S58} (h : goodB xs = true) : xs.length ≤ 8 := by
  unfold goodB at h
  simp only [Bool.and_eq_true, decide_eq_true_eq] at h
  exact h.1
theorem good_at {xs : List S58} (h : goodB xs = true) (i : Nat) (hi : i < xs.length) : 1 ≤ xs[i].f0 ∧ xs[i].f0 ≤ 50 ∧ 0 ≤ xs[i].f1 ∧ xs[i].f1 ≤ 50 ∧ 0 ≤ xs[i].f2 ∧ xs[i].f2 ≤ 500 ∧ 0 ≤ xs[i].f3 ∧ xs[i].f3 ≤ 500 := by
  unfold goodB at h
  simp only [Bool.and_eq_true, List.all_eq_true] at h
  have b := h.2 xs[i] (List.getElem_mem hi)
  simp only [okJ, Bool.and_eq_true, decide_eq_true_eq] at b
  obtain ⟨a1, a2, b1, b2, c1, c2, d1, d2⟩ := b
  exact ⟨a1, a2, b1, b2, c1, c2, d1, d2⟩

theorem mul_bd (a b : Int) (h0 : 0 ≤ a) (h1 : a ≤ 50) (h2 : 0 ≤ b) (h3 : b ≤ 50) : 0 ≤ a * b ∧ a * b ≤ 2500 :=
  ⟨Int.mul_nonneg h0 h2, Int.le_trans (Int.mul_le_mul_of_nonneg_right h1 h2) (by omega)⟩
theorem difference_eq (a b : S58) (o : Int) (ha : 1 ≤ a.f0 ∧ a.f0 ≤ 50 ∧ 0 ≤ a.f1 ∧ a.f1 ≤ 50 ∧ 0 ≤ a.f2 ∧ a.f2 ≤ 500 ∧ 0 ≤ a.f3 ∧ a.f3 ≤ 500) (hb : 1 ≤ b.f0 ∧ b.f0 ≤ 50 ∧ 0 ≤ b.f1 ∧ b.f1 ≤ 50 ∧ 0 ≤ b.f2 ∧ b.f2 ≤ 500 ∧ 0 ≤ b.f3 ∧ b.f3 ≤ 500) :
    impl_difference.f a.f0 a.f1 a.f2 a.f3 b.f0 b.f1 b.f2 b.f3 o = some (gapJ a b o) := by
  have m1 := mul_bd a.f0 b.f1 (by omega) (by omega) (by omega) (by omega)
  have m2 := mul_bd b.f0 a.f1 (by omega) (by omega) (by omega) (by omega)
  unfold impl_difference.f gapJ
  rw [w64 (x := a.f2 - b.f2) (by omega) (by omega), w64 (x := a.f0 - b.f0) (by omega) (by omega), w64 (x := a.f0 * b.f1) (by omega) (by omega), w64 (x := b.f0 * a.f1) (by omega) (by omega), w64 (x := a.f0 * b.f1 - b.f0 * a.f1) (by omega) (by omega), w64 (x := a.f3 - b.f3) (by omega) (by omega)]
  split
  · rfl
  · split
    · rfl
    · split <;> rfl
theorem gap_eq (xs : List S58) (hg : goodB xs = true) (o : Int) (i j : Nat) (hi : i < xs.length) (hj : j < xs.length) : spec_l3Gap.f xs o (i : Int) (j : Int) = some (gapJ xs[i] xs[j] o) := by
  have ha := good_at hg i hi
  have hb := good_at hg j hj
  unfold spec_l3Gap.f
  rw [if_pos (by omega), if_pos (by omega), if_pos (by omega), if_pos (by omega), rdI xs i hi, rdI xs j hj]
  generalize xs[i] = a at *
  generalize xs[j] = b at *
  have m1 := mul_bd a.f0 b.f1 (by omega) (by omega) (by omega) (by omega)
  have m2 := mul_bd b.f0 a.f1 (by omega) (by omega) (by omega) (by omega)
  unfold gapJ
  rw [w64 (x := a.f2 - b.f2) (by omega) (by omega), w64 (x := a.f0 - b.f0) (by omega) (by omega), w64 (x := a.f0 * b.f1) (by omega) (by omega), w64 (x := b.f0 * a.f1) (by omega) (by omega), w64 (x := a.f0 * b.f1 - b.f0 * a.f1) (by omega) (by omega), w64 (x := a.f3 - b.f3) (by omega) (by omega)]
  split
  · rfl
  · split
    · rfl
    · split <;> rfl

theorem isNumber_eq (i n : Int) (h0 : 0 ≤ n) (h1 : n ≤ 9223372036854775807) : impl_isNumber.f i n = some (decide (0 ≤ i) && decide (i < n)) := by
  unfold impl_isNumber.f
  rw [within_eq, w64 (by omega) (by omega)]
  simp only [Option.bind_some]
  congr 2
  rw [decide_eq_decide]
  omega

theorem l3Job_eq (xs : List S58) (i : Int) (hn : xs.length ≤ 1048576) : spec_l3Job.f xs i = some (decide (0 ≤ i) && decide (i < (xs.length : Int))) := by
  unfold spec_l3Job.f
  rw [l1In_eq, w64 (by omega) (by omega)]
  simp only [Option.bind_some]
  congr 2
  rw [decide_eq_decide]
  omega
theorem core (l : List S58) (o a b : Int) (hm : l.length ≤ 1048576) (_ : ∀ (i : Nat) (hi : i < l.length), I64 l[i].f0 ∧ I64 l[i].f1 ∧ I64 l[i].f2 ∧ I64 l[i].f3) (_ : I64 o) (_ : I64 a) (_ : I64 b) :
    ∃ (r : Int) (ok : Bool), True ∧ Ev (fun k => spec_RuleDifference.f k l o a b) (r, ok) ∧ Ev (fun k => impl_RuleDifference.f k l o a b) (r, ok) := by
  have h1 := l3Ruled_ev l o hm
  have h2 := isRuled_ev l o hm
  unfold spec_RuleDifference.f impl_RuleDifference.f
  simp only [l3Job_eq l _ hm, isNumber_eq a _ (Int.natCast_nonneg l.length) (by omega), isNumber_eq b _ (Int.natCast_nonneg l.length) (by omega), Option.bind_some]
  cases hp : ruledB l o
  · rw [hp] at h1 h2
    exact ⟨0, false, trivial, ev_bind h1 (by simp only [Bool.false_eq_true, if_false]; exact ev_now _), ev_bind h2 (by simp only [Bool.false_eq_true, if_false]; exact ev_now _)⟩
  rw [hp] at h1 h2
  have hg := ruled_good hp
  by_cases ha : 0 ≤ a ∧ a < l.length
  · by_cases hb : 0 ≤ b ∧ b < l.length
    · obtain ⟨i, rfl⟩ := Int.eq_ofNat_of_zero_le ha.1
      obtain ⟨j, rfl⟩ := Int.eq_ofNat_of_zero_le hb.1
      have hi : i < l.length := by omega
      have hj : j < l.length := by omega
      refine ⟨gapJ l[i] l[j] o, true, trivial, ev_bind h1 ?_, ev_bind h2 ?_⟩ <;> simp only [if_true, decide_eq_true ha.1, decide_eq_true ha.2, decide_eq_true hb.1, decide_eq_true hb.2, Bool.and_self]
      · simp only [gap_eq l hg o i j hi hj, Option.bind_some]; exact ev_now _
      · simp only [if_pos ha.1, if_pos ha.2, if_pos hb.1, if_pos hb.2, rdI l i hi, rdI l j hj, difference_eq l[i] l[j] o (good_at hg i hi) (good_at hg j hj), Option.bind_some]; exact ev_now _
    · have hb' : (decide (0 ≤ b) && decide (b < (l.length : Int))) = false := by simpa using hb
      refine ⟨0, false, trivial, ev_bind h1 ?_, ev_bind h2 ?_⟩ <;> simp only [if_true, decide_eq_true ha.1, decide_eq_true ha.2, Bool.and_self, hb', Bool.false_eq_true, if_false] <;> exact ev_now _
  · have ha' : (decide (0 ≤ a) && decide (a < (l.length : Int))) = false := by simpa using ha
    refine ⟨0, false, trivial, ev_bind h1 ?_, ev_bind h2 ?_⟩ <;> simp only [if_true, ha', Bool.false_eq_true, if_false] <;> exact ev_now _

theorem FnExactRuleDifference : FnExactRuleDifference.Claim := by
  intro l0 a1 a2 a3 hl0 hg0 hi1 hi2 hi3
  refine Ev.rounds ?_
  unfold laws_FnExactRuleDifference.f
  simp only [szJobS_eq l0 1048576 (by omega) (by omega) hl0, Option.bind_some]
  by_cases h : (1048576 : Int) < l0.length
  · simp only [if_pos h, if_pos (show (-1 : Int) < 0 by omega)]
    exact ev_now _
  · simp only [if_neg h, if_neg (show ¬ ((1048576 : Int) - l0.length < 0) by omega)]
    have ht := toJobS_ev l0 (by omega)
    have hm : (l0.map conv).length ≤ 1048576 := by simp; omega
    have hq := eqJobS_ev (l0.map conv) (by omega)
    obtain ⟨r0, r1, _, hs, hi⟩ := core (l0.map conv) a1 a2 a3 hm (conv_I64 l0 hg0) hi1 hi2 hi3
    repeat first
      | exact ev_now _
      | with_reducible refine ev_bind hs ?_
      | with_reducible refine ev_bind hi ?_
      | with_reducible refine ev_bind ht ?_
      | with_reducible refine ev_bind hq ?_
      | simp only [if_true, if_false, bne_self_eq_false, Bool.false_eq_true]
      | (refine ev_succ ?_; simp only [laws_FnExactRuleDifference.j0])

end Go.Proofs.Ytafhfmggehaknaa.Pure
