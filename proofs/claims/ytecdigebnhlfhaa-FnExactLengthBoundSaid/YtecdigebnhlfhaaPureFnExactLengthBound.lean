/- The program's function and the reference's come to the same answer: the statement of numbers and lists behind the law FnExactLengthBound. Conditions: none. -/
import Derived.Test.YtecdigebnhlfhaaArgFnExactLengthBound
import Derived.Test.YtecdigebnhlfhaaBase
namespace Go.Proofs.Ytecdigebnhlfhaa.Pure
open Go.RowKit Go.Proofs.Ytecdigebnhlfhaa.OFnExactLengthBound Go.Proofs.Ytecdigebnhlfhaa.Base Go.Proofs.YtecdigebnhlfhaaW.PrintWords Go.Proofs.YtecdigebnhlfhaaW.PrintLast Go.Proofs.YtecdigebnhlfhaaW.PrintMore Go.Proofs.Ytecdigebnhlfhaa.Open
set_option linter.unusedVariables false
set_option linter.unusedSimpArgs false

theorem szJobS_eq (xs : List S83) (left : Int) (h0 : 0 ≤ left) (h1 : left ≤ 1048576) (h : xs.length ≤ 9223372036854775807) : laws_szJobS.f xs left = some (if left < xs.length then -1 else left - xs.length) := by
  unfold laws_szJobS.f
  rw [w64 (by omega) (by omega)]
  by_cases c : left < xs.length
  · rw [if_pos (by omega), if_pos c]
  · rw [if_neg (by omega), if_neg c]

def conv (x : S83) : S79 := ⟨x.f0, x.f1, x.f2, x.f3⟩
theorem rdL (xs : List S83) (i : Nat) (h : i < xs.length) : rd_T83 xs (i : Int) = xs[i] := by
  unfold rd_T83
  rw [Int.toNat_natCast, List.getD_eq_getElem?_getD, List.getElem?_eq_getElem h]
  rfl

theorem toJobS_l (xs : List S83) (hn : xs.length ≤ 8796093022208) : ∀ (d i : Nat) (ys : List S79), i + d = xs.length → ys.length = xs.length → ys.take i = (xs.map conv).take i → Ev (fun k => laws_toJobS.l0 k xs ys (i : Int)) (xs.map conv) := by
  intro d
  induction d with
  | zero =>
    intro i ys hi hl ht
    refine ev_succ ?_
    simp only [laws_toJobS.l0, if_neg (show ¬ (i : Int) < (xs.length : Int) by omega)]
    have : ys = xs.map conv := by
      rw [List.take_of_length_le (by omega), List.take_of_length_le (by simp; omega)] at ht
      exact ht
    rw [this]
    exact ev_now _
  | succ d ih =>
    intro i ys hi hl ht
    refine ev_succ ?_
    have hx : i < xs.length := by omega
    simp only [laws_toJobS.l0, laws_toJob.f, Option.bind_some, if_pos (show (i : Int) < (xs.length : Int) by omega), if_pos (show (i : Int) < (ys.length : Int) by omega), if_pos (show (0 : Int) ≤ (i : Int) by omega), rdL xs i hx, wsucc i (by omega), Int.toNat_natCast]
    refine ih (i + 1) _ (by omega) (by rw [List.length_set]; exact hl) ?_
    rw [take_set_succ ys i _ (by omega), ht, List.take_succ_eq_append_getElem (by simp; omega)]
    simp [conv]
theorem toJobS_ev (xs : List S83) (hn : xs.length ≤ 1048576) : Ev (fun k => laws_toJobS.f k xs) (xs.map conv) := by
  unfold laws_toJobS.f
  simp only [if_pos (show (0 : Int) ≤ (xs.length : Int) by omega), Int.toNat_natCast, if_pos (show xs.length ≤ 8796093022208 by omega)]
  exact toJobS_l xs (by omega) xs.length 0 _ (by omega) (by simp) (by simp)

theorem rdI (xs : List S79) (i : Nat) (h : i < xs.length) : rd_T79 xs (i : Int) = xs[i] := by
  unfold rd_T79
  rw [Int.toNat_natCast, List.getD_eq_getElem?_getD, List.getElem?_eq_getElem h]
  rfl

theorem eqJobS_l (xs : List S79) (hn : xs.length ≤ 4611686018427387904) : ∀ (d i : Nat), i + d = xs.length → Ev (fun k => laws_eqJobS.l0 k xs xs (i : Int)) true := by
  intro d
  induction d with
  | zero =>
    intro i hi
    refine ev_succ ?_
    simp only [laws_eqJobS.l0, if_neg (show ¬ (i : Int) < (xs.length : Int) by omega)]
    exact ev_now _
  | succ d ih =>
    intro i hi
    refine ev_succ ?_
    simp only [laws_eqJobS.l0, laws_eqJob.f, if_true, Option.bind_some, if_pos (show (i : Int) < (xs.length : Int) by omega), if_pos (show (0 : Int) ≤ (i : Int) by omega), wsucc i (by omega)]
    exact ih (i + 1) (by omega)
theorem eqJobS_ev (xs : List S79) (hn : xs.length ≤ 4611686018427387904) : Ev (fun k => laws_eqJobS.f k xs xs) true := by
  unfold laws_eqJobS.f
  simp only [if_true]
  exact eqJobS_l xs hn xs.length 0 (by omega)

theorem conv_I64 (l : List S83) (hg : ∀ x ∈ l, G83 x) (i : Nat) (hi : i < (l.map conv).length) : I64 (l.map conv)[i].f0 ∧ I64 (l.map conv)[i].f1 ∧ I64 (l.map conv)[i].f2 ∧ I64 (l.map conv)[i].f3 := by
  simp only [List.getElem_map, conv]
  exact hg _ (List.getElem_mem _)

theorem szIntA2S_eq (xs : List S71) (left : Int) (h0 : 0 ≤ left) (h1 : left ≤ 1048576) (h : xs.length ≤ 9223372036854775807) : laws_szIntA2S.f xs left = some (if left < xs.length then -1 else left - xs.length) := by
  unfold laws_szIntA2S.f
  rw [w64 (by omega) (by omega)]
  by_cases c : left < xs.length
  · rw [if_pos (by omega), if_pos c]
  · rw [if_neg (by omega), if_neg c]

theorem rdA2 (xs : List S71) (i : Nat) (h : i < xs.length) : rd_T71 xs (i : Int) = xs[i] := by
  unfold rd_T71
  rw [Int.toNat_natCast, List.getD_eq_getElem?_getD, List.getElem?_eq_getElem h]
  rfl
theorem w01 : wrap64 (0 + 1) = 1 := by unfold wrap64; omega
theorem w11 : wrap64 (1 + 1) = 2 := by unfold wrap64; omega

theorem toIntA2_ev (a b : Int) : Ev (fun k => laws_toIntA2.f k a b) (a, b) := by
  unfold laws_toIntA2.f
  refine ev_succ ?_
  simp only [laws_toIntA2.l0, if_pos (show (0 : Int) < 2 by omega), if_true, w01]
  refine ev_succ ?_
  simp only [laws_toIntA2.l0, if_pos (show (1 : Int) < 2 by omega), if_neg (show ¬ (1 : Int) = 0 by omega), if_true, w11]
  refine ev_succ ?_
  simp only [laws_toIntA2.l0, if_neg (show ¬ (2 : Int) < 2 by omega)]
  exact ev_now _
theorem toIntA2S_l (xs : List S71) (hn : xs.length ≤ 1048576) : ∀ (d i : Nat) (ys : List S71), i + d = xs.length → ys.length = xs.length → ys.take i = xs.take i → Ev (fun k => laws_toIntA2S.l0 k xs ys (i : Int)) xs := by
  intro d
  induction d with
  | zero =>
    intro i ys hi hl ht
    refine ev_succ ?_
    simp only [laws_toIntA2S.l0, if_neg (show ¬ (i : Int) < (xs.length : Int) by omega)]
    have : ys = xs := by
      rw [List.take_of_length_le (by omega), List.take_of_length_le (by omega)] at ht
      exact ht
    rw [this]
    exact ev_now _
  | succ d ih =>
    intro i ys hi hl ht
    refine ev_succ ?_
    have hx : i < xs.length := by omega
    simp only [laws_toIntA2S.l0, if_pos (show (i : Int) < (xs.length : Int) by omega), if_pos (show (0 : Int) ≤ (i : Int) by omega), rdA2 xs i hx, wsucc i (by omega)]
    refine ev_bind (toIntA2_ev _ _) ?_
    simp only [if_pos (show (i : Int) < (ys.length : Int) by omega), Int.toNat_natCast]
    refine ih (i + 1) _ (by omega) (by rw [List.length_set]; exact hl) ?_
    rw [take_set_succ ys i _ (by omega), ht, List.take_succ_eq_append_getElem hx]
theorem toIntA2S_ev (xs : List S71) (hn : xs.length ≤ 1048576) : Ev (fun k => laws_toIntA2S.f k xs) xs := by
  unfold laws_toIntA2S.f
  simp only [if_pos (show (0 : Int) ≤ (xs.length : Int) by omega), Int.toNat_natCast, if_pos (show xs.length ≤ 17592186044416 by omega)]
  exact toIntA2S_l xs hn xs.length 0 _ (by omega) (by simp) (by simp)

theorem eqIntA2_ev (a b : Int) : Ev (fun k => laws_eqIntA2.f k a b a b) true := by
  unfold laws_eqIntA2.f
  refine ev_succ ?_
  simp only [laws_eqIntA2.l0, if_pos (show (0 : Int) < 2 by omega), if_true, w01]
  refine ev_succ ?_
  simp only [laws_eqIntA2.l0, if_pos (show (1 : Int) < 2 by omega), if_neg (show ¬ (1 : Int) = 0 by omega), if_true, w11]
  refine ev_succ ?_
  simp only [laws_eqIntA2.l0, if_neg (show ¬ (2 : Int) < 2 by omega)]
  exact ev_now _
theorem eqIntA2S_l (xs : List S71) (hn : xs.length ≤ 4611686018427387904) : ∀ (d i : Nat), i + d = xs.length → Ev (fun k => laws_eqIntA2S.l0 k xs xs (i : Int)) true := by
  intro d
  induction d with
  | zero =>
    intro i hi
    refine ev_succ ?_
    simp only [laws_eqIntA2S.l0, if_neg (show ¬ (i : Int) < (xs.length : Int) by omega)]
    exact ev_now _
  | succ d ih =>
    intro i hi
    refine ev_succ ?_
    simp only [laws_eqIntA2S.l0, if_pos (show (i : Int) < (xs.length : Int) by omega), if_pos (show (0 : Int) ≤ (i : Int) by omega), wsucc i (by omega)]
    refine ev_bind (eqIntA2_ev _ _) ?_
    simp only [if_true]
    exact ih (i + 1) (by omega)
theorem eqIntA2S_ev (xs : List S71) (hn : xs.length ≤ 4611686018427387904) : Ev (fun k => laws_eqIntA2S.f k xs xs) true := by
  unfold laws_eqIntA2S.f
  simp only [if_true]
  exact eqIntA2S_l xs hn xs.length 0 (by omega)

theorem within_eq (a b c : Int) : impl_within.f a b c = some (decide (b ≤ a) && decide (a ≤ c)) := by
  unfold impl_within.f
  by_cases h : b ≤ a
  · rw [if_pos h]; simp [h]
  · rw [if_neg h]; simp [h]

/-- A job's numbers are in their bounds. -/
def okJ (x : S79) : Bool := decide (1 ≤ x.f0) && (decide (x.f0 ≤ 50) && (decide (0 ≤ x.f1) && (decide (x.f1 ≤ 50) && (decide (0 ≤ x.f2) && (decide (x.f2 ≤ 500) && (decide (0 ≤ x.f3) && decide (x.f3 ≤ 500)))))))
def goodB (l : List S79) : Bool := decide (l.length ≤ 8) && l.all okJ
theorem isDate_eq (a : Int) : impl_isDate.f a = some (decide (0 ≤ a) && decide (a ≤ 500)) := by
  unfold impl_isDate.f
  rw [within_eq]
  rfl
theorem job_chain (x : S79) (o : Option Bool) : (if (decide (1 ≤ x.f0) && decide (x.f0 ≤ 50)) = true then (if (decide (0 ≤ x.f1) && decide (x.f1 ≤ 50)) = true then (if (decide (0 ≤ x.f2) && decide (x.f2 ≤ 500)) = true then (if (decide (0 ≤ x.f3) && decide (x.f3 ≤ 500)) = true then o else some false) else some false) else some false) else some false) = if okJ x = true then o else some false := by
  unfold okJ
  by_cases a1 : 1 ≤ x.f0 <;> by_cases a2 : x.f0 ≤ 50 <;> simp [a1, a2]
  by_cases b1 : 0 ≤ x.f1 <;> by_cases b2 : x.f1 ≤ 50 <;> simp [b1, b2]
  by_cases c1 : 0 ≤ x.f2 <;> by_cases c2 : x.f2 ≤ 500 <;> simp [c1, c2]
theorem IsJobs_l (xs : List S79) (hn : xs.length ≤ 4611686018427387904) : ∀ (d i : Nat), i + d = xs.length → Ev (fun k => impl_IsJobs.l0 k xs (xs.length : Int) (i : Int)) ((xs.drop i).all okJ) := by
  intro d
  induction d with
  | zero =>
    intro i hi
    refine ev_succ ?_
    simp only [impl_IsJobs.l0, if_neg (show ¬ (i : Int) < (xs.length : Int) by omega), List.drop_of_length_le (show xs.length ≤ i by omega)]
    exact ev_now _
  | succ d ih =>
    intro i hi
    refine ev_succ ?_
    have hx : i < xs.length := by omega
    have hih := ih (i + 1) (by omega)
    rw [List.drop_eq_getElem_cons hx, List.all_cons]
    simp only [impl_IsJobs.l0, within_eq, isDate_eq, Option.bind_some, if_pos (show (i : Int) < (xs.length : Int) by omega), if_pos (show (0 : Int) ≤ (i : Int) by omega), wsucc i (by omega), rdI xs i hx]
    generalize xs[i] = x at *
    simp only [job_chain]
    by_cases c : okJ x = true
    · simpa only [c, if_true, Bool.true_and] using hih
    · have c' : okJ x = false := by simpa using c
      simp only [c', Bool.false_and]
      exact ev_now _
theorem IsJobs_ev (xs : List S79) (hn : xs.length ≤ 4611686018427387904) : Ev (fun k => impl_IsJobs.f k xs) (goodB xs) := by
  unfold impl_IsJobs.f goodB
  by_cases h : xs.length ≤ 8
  · simp only [if_neg (show ¬ ((xs.length : Int) > 8) by omega), decide_eq_true h, Bool.true_and]
    exact IsJobs_l xs hn xs.length 0 (by omega)
  · simp only [if_pos (show ((xs.length : Int) > 8) by omega), decide_eq_false h, Bool.false_and]
    exact ev_now _

def freeJ (x : S79) : Bool := decide (x.f2 = 0)
def plainB (l : List S79) : Bool := goodB l && l.all freeJ
theorem isPlain_l (xs : List S79) (hn : xs.length ≤ 4611686018427387904) : ∀ (d i : Nat), i + d = xs.length → Ev (fun k => impl_isPlain.l0 k xs (xs.length : Int) (i : Int)) ((xs.drop i).all freeJ) := by
  intro d
  induction d with
  | zero =>
    intro i hi
    refine ev_succ ?_
    simp only [impl_isPlain.l0, if_neg (show ¬ (i : Int) < (xs.length : Int) by omega), List.drop_of_length_le (show xs.length ≤ i by omega)]
    exact ev_now _
  | succ d ih =>
    intro i hi
    refine ev_succ ?_
    have hx : i < xs.length := by omega
    have hih := ih (i + 1) (by omega)
    rw [List.drop_eq_getElem_cons hx, List.all_cons]
    simp only [impl_isPlain.l0, if_pos (show (i : Int) < (xs.length : Int) by omega), if_pos (show (0 : Int) ≤ (i : Int) by omega), wsucc i (by omega), rdI xs i hx]
    by_cases c : (xs[i]).f2 = 0
    · simp only [if_pos c, freeJ, decide_eq_true c, Bool.true_and]
      exact hih
    · simp only [if_neg c, freeJ, decide_eq_false c, Bool.false_and]
      exact ev_now _
theorem isPlain_ev (xs : List S79) (hn : xs.length ≤ 4611686018427387904) : Ev (fun k => impl_isPlain.f k xs) (xs.all freeJ) := by
  unfold impl_isPlain.f
  exact isPlain_l xs hn xs.length 0 (by omega)

theorem IsPlain_ev (xs : List S79) (hn : xs.length ≤ 4611686018427387904) : Ev (fun k => impl_IsPlain.f k xs) (plainB xs) := by
  unfold impl_IsPlain.f plainB
  refine ev_bind (IsJobs_ev xs hn) ?_
  cases goodB xs
  · simp only [Bool.false_eq_true, if_false, Bool.false_and]; exact ev_now _
  · simp only [if_true, Bool.true_and]; exact ev_bind (isPlain_ev xs hn) (ev_now _)

theorem plain_good {xs : List S79} (h : plainB xs = true) : goodB xs = true := by
  unfold plainB at h
  simp only [Bool.and_eq_true] at h
  exact h.1

theorem good_len {xs : List S79} (h : goodB xs = true) : xs.length ≤ 8 := by
  unfold goodB at h
  simp only [Bool.and_eq_true, decide_eq_true_eq] at h
  exact h.1
theorem good_at {xs : List S79} (h : goodB xs = true) (i : Nat) (hi : i < xs.length) : 1 ≤ xs[i].f0 ∧ xs[i].f0 ≤ 50 ∧ 0 ≤ xs[i].f1 ∧ xs[i].f1 ≤ 50 ∧ 0 ≤ xs[i].f2 ∧ xs[i].f2 ≤ 500 ∧ 0 ≤ xs[i].f3 ∧ xs[i].f3 ≤ 500 := by
  unfold goodB at h
  simp only [Bool.and_eq_true, List.all_eq_true] at h
  have b := h.2 xs[i] (List.getElem_mem hi)
  simp only [okJ, Bool.and_eq_true, decide_eq_true_eq] at b
  obtain ⟨a1, a2, b1, b2, c1, c2, d1, d2⟩ := b
  exact ⟨a1, a2, b1, b2, c1, c2, d1, d2⟩

theorem l1In_eq (a b c : Int) : spec_l1In.f a b c = some (decide (b ≤ a) && decide (a ≤ c)) := by
  unfold spec_l1In.f
  by_cases h : b ≤ a
  · rw [if_pos h]; simp [h]
  · rw [if_neg h]; simp [h]

theorem l2Job_eq (x : S79) : spec_l2Job.f x.f0 x.f1 x.f2 x.f3 = some (okJ x) := by
  unfold spec_l2Job.f okJ
  simp only [l1In_eq, Option.bind_some]
  by_cases a1 : 1 ≤ x.f0 <;> by_cases a2 : x.f0 ≤ 50 <;> simp [a1, a2]
  by_cases b1 : 0 ≤ x.f1 <;> by_cases b2 : x.f1 ≤ 50 <;> simp [b1, b2]
  by_cases c1 : 0 ≤ x.f2 <;> by_cases c2 : x.f2 ≤ 500 <;> simp [c1, c2]
theorem l2Good_l (xs : List S79) (hn : xs.length ≤ 4611686018427387904) : ∀ (d i : Nat), i + d = xs.length → Ev (fun k => spec_l2Good.l0 k xs (i : Int)) ((xs.drop i).all okJ && decide (xs.length ≤ 8)) := by
  intro d
  induction d with
  | zero =>
    intro i hi
    refine ev_succ ?_
    simp only [spec_l2Good.l0, if_neg (show ¬ (i : Int) < (xs.length : Int) by omega), List.drop_of_length_le (show xs.length ≤ i by omega)]
    refine ev_const ?_
    simp
    omega
  | succ d ih =>
    intro i hi
    refine ev_succ ?_
    have hx : i < xs.length := by omega
    have hih := ih (i + 1) (by omega)
    rw [List.drop_eq_getElem_cons hx, List.all_cons]
    simp only [spec_l2Good.l0, if_pos (show (i : Int) < (xs.length : Int) by omega), if_pos (show (0 : Int) ≤ (i : Int) by omega), wsucc i (by omega), rdI xs i hx, l2Job_eq, Option.bind_some]
    by_cases c : okJ xs[i] = true
    · simpa only [c, if_true, Bool.true_and] using hih
    · have c' : okJ xs[i] = false := by simpa using c
      simp only [c', Bool.false_and]
      exact ev_now _
theorem l2Good_ev (xs : List S79) (hn : xs.length ≤ 4611686018427387904) : Ev (fun k => spec_l2Good.f k xs) (goodB xs) := by
  unfold spec_l2Good.f goodB
  rw [Bool.and_comm]
  exact l2Good_l xs hn xs.length 0 (by omega)

theorem l3Plain_l (xs : List S79) (hn : xs.length ≤ 4611686018427387904) : ∀ (d i : Nat), i + d = xs.length → Ev (fun k => spec_l3Plain.l0 k xs (i : Int)) ((xs.drop i).all freeJ) := by
  intro d
  induction d with
  | zero =>
    intro i hi
    refine ev_succ ?_
    simp only [spec_l3Plain.l0, if_neg (show ¬ (i : Int) < (xs.length : Int) by omega), List.drop_of_length_le (show xs.length ≤ i by omega)]
    exact ev_now _
  | succ d ih =>
    intro i hi
    refine ev_succ ?_
    have hx : i < xs.length := by omega
    have hih := ih (i + 1) (by omega)
    rw [List.drop_eq_getElem_cons hx, List.all_cons]
    simp only [spec_l3Plain.l0, if_pos (show (i : Int) < (xs.length : Int) by omega), if_pos (show (0 : Int) ≤ (i : Int) by omega), wsucc i (by omega), rdI xs i hx]
    by_cases c : (xs[i]).f2 = 0
    · simp only [if_pos c, freeJ, decide_eq_true c, Bool.true_and]
      exact hih
    · simp only [if_neg c, freeJ, decide_eq_false c, Bool.false_and]
      exact ev_now _
theorem l3Plain_ev (xs : List S79) (hn : xs.length ≤ 4611686018427387904) : Ev (fun k => spec_l3Plain.f k xs) (xs.all freeJ) := by
  unfold spec_l3Plain.f
  exact l3Plain_l xs hn xs.length 0 (by omega)

/-- A table of n rows and n columns. -/
def Sq (n : Nat) (t : List (List Bool)) : Prop := t.length = n ∧ ∀ r ∈ t, r.length = n
theorem Sq.row {n : Nat} {t : List (List Bool)} (h : Sq n t) (i : Nat) (hi : i < n) : (t[i]'(by rw [h.1]; exact hi)).length = n := h.2 _ (List.getElem_mem _)
def tb (t : List (List Bool)) (i j : Nat) : Bool := (t.getD i []).getD j false
theorem tb_eq (t : List (List Bool)) (i j : Nat) (hi : i < t.length) (hj : j < t[i].length) : tb t i j = t[i][j] := by
  unfold tb
  rw [List.getD_eq_getElem?_getD, List.getD_eq_getElem?_getD, List.getElem?_eq_getElem hi, Option.getD_some, List.getElem?_eq_getElem hj, Option.getD_some]
def putT (t : List (List Bool)) (i j : Nat) (b : Bool) : List (List Bool) := t.set i ((t.getD i []).set j b)
theorem Sq.put {n : Nat} {t : List (List Bool)} (h : Sq n t) (i j : Nat) (hi : i < n) (b : Bool) : Sq n (putT t i j b) := by
  refine ⟨by unfold putT; rw [List.length_set]; exact h.1, fun r hr => ?_⟩
  unfold putT at hr
  rcases List.mem_or_eq_of_mem_set hr with hr | rfl
  · exact h.2 r hr
  · rw [List.length_set, List.getD_eq_getElem?_getD, List.getElem?_eq_getElem (by rw [h.1]; exact hi), Option.getD_some]
    exact h.row i hi
theorem rdBB (t : List (List Bool)) (i : Nat) (h : i < t.length) : rd_L5 t (i : Int) = t[i] := by
  unfold rd_L5
  rw [Int.toNat_natCast, List.getD_eq_getElem?_getD, List.getElem?_eq_getElem h]
  rfl
theorem rdB (r : List Bool) (i : Nat) (h : i < r.length) : rdOf false r (i : Int) = r[i] := by
  unfold rdOf
  rw [Int.toNat_natCast, List.getD_eq_getElem?_getD, List.getElem?_eq_getElem h]
  rfl
theorem rdTB (t : List (List Bool)) (i : Nat) (h : i < t.length) : (rd_L5 t (i : Int)) = t.getD i [] := by
  rw [rdBB t i h, List.getD_eq_getElem?_getD, List.getElem?_eq_getElem h]; rfl
theorem rdTT {n : Nat} {t : List (List Bool)} (h : Sq n t) (i j : Nat) (hi : i < n) (hj : j < n) : rdOf false (rd_L5 t (i : Int)) (j : Int) = tb t i j := by
  have h1 : i < t.length := by rw [h.1]; exact hi
  have h2 := h.row i hi
  rw [rdBB t i h1, rdB _ j (by rw [h2]; exact hj), tb_eq t i j h1 (by rw [h2]; exact hj)]
theorem put_same {n : Nat} {t : List (List Bool)} (h : Sq n t) (i j : Nat) (hi : i < n) (hj : j < n) : putT t i j (tb t i j) = t := by
  have h1 : i < t.length := by rw [h.1]; exact hi
  have h2 := h.row i hi
  have hg : t.getD i [] = t[i] := by rw [List.getD_eq_getElem?_getD, List.getElem?_eq_getElem h1]; rfl
  unfold putT
  rw [hg, tb_eq t i j h1 (by rw [h2]; exact hj), List.set_getElem_self, List.set_getElem_self]
def stepT (t : List (List Bool)) (k i j : Nat) : List (List Bool) := if (tb t i k && tb t k j) = true then putT t i j true else t
theorem Sq.step {n : Nat} {t : List (List Bool)} (h : Sq n t) (k i j : Nat) (hi : i < n) : Sq n (stepT t k i j) := by
  unfold stepT
  split
  · exact h.put i j hi true
  · exact h
def rowF (t : List (List Bool)) (k i : Nat) (js : List Nat) : List (List Bool) := js.foldl (fun t j => stepT t k i j) t
def midF (n : Nat) (t : List (List Bool)) (k : Nat) (is : List Nat) : List (List Bool) := is.foldl (fun t i => rowF t k i (List.range' 0 n)) t
def outF (n : Nat) (t : List (List Bool)) (ks : List Nat) : List (List Bool) := ks.foldl (fun t k => midF n t k (List.range' 0 n)) t
def edgeF (t : List (List Bool)) (es : List S71) : List (List Bool) := es.foldl (fun t e => putT t e.f0.toNat e.f1.toNat true) t
/-- The table of what comes before what. -/
def closT (n : Nat) (es : List S71) : List (List Bool) := outF n (edgeF (List.replicate n (List.replicate n false)) es) (List.range' 0 n)
def inN (n : Nat) (es : List S71) : Prop := ∀ e ∈ es, 0 ≤ e.f0 ∧ e.f0 < n ∧ 0 ≤ e.f1 ∧ e.f1 < n
theorem Sq.row_fold {n : Nat} {t : List (List Bool)} (h : Sq n t) (k i : Nat) (hi : i < n) (js : List Nat) : Sq n (rowF t k i js) := by
  unfold rowF
  induction js generalizing t with
  | nil => exact h
  | cons j js ih => exact ih (h.step k i j hi)
section
variable {F : Nat → List (List Bool) → Nat → Nat → Nat → Option (List (List Bool))}
end
theorem spec_l4 (n : Nat) (hn : n ≤ 8) (kk i : Nat) (hk : kk < n) (hi : i < n) (R : List (List Bool) → List (List Bool))
    (hnext : ∀ t, Sq n t → Ev (fun k => spec_l4Table.l3 k (n : Int) t (kk : Int) ((i + 1 : Nat) : Int)) (R t)) :
    ∀ (d j : Nat) (t : List (List Bool)), j + d = n → Sq n t → Ev (fun k => spec_l4Table.l4 k (n : Int) t (kk : Int) (i : Int) (j : Int)) (R (rowF t kk i (List.range' j d))) := by
  intro d
  induction d with
  | zero =>
    intro j t hj ht
    refine ev_succ ?_
    simp only [spec_l4Table.l4, if_neg (show ¬ (j : Int) < (n : Int) by omega), wsucc i (by omega)]
    exact hnext t ht
  | succ d ih =>
    intro j t hj ht
    refine ev_succ ?_
    have hl := ht.1
    have hri : (rd_L5 t (i : Int)).length = n := by rw [rdBB t i (by omega)]; exact ht.row i hi
    have hrk : (rd_L5 t (kk : Int)).length = n := by rw [rdBB t kk (by omega)]; exact ht.row kk hk
    have h := ih (j + 1) (stepT t kk i j) (by omega) (ht.step kk i j hi)
    rw [List.range'_succ]
    simp only [rowF, List.foldl_cons]
    simp only [rowF] at h
    simp only [spec_l4Table.l4, if_pos (show (j : Int) < (n : Int) by omega), if_pos (show (0 : Int) ≤ (i : Int) by omega), if_pos (show (i : Int) < (t.length : Int) by omega), if_pos (show (0 : Int) ≤ (kk : Int) by omega), if_pos (show (kk : Int) < ((rd_L5 t (i : Int)).length : Int) by omega), if_pos (show (kk : Int) < (t.length : Int) by omega), if_pos (show (0 : Int) ≤ (j : Int) by omega), if_pos (show (j : Int) < ((rd_L5 t (kk : Int)).length : Int) by omega), if_pos (show (j : Int) < ((rd_L5 t (i : Int)).length : Int) by omega), rdTT ht i kk hi hk, rdTT ht kk j hk (by omega), wsucc j (by omega), Int.toNat_natCast]
    by_cases c1 : tb t i kk = true
    · by_cases c2 : tb t kk j = true
      · simp only [if_pos c1, if_pos c2]
        have hs : stepT t kk i j = putT t i j true := by unfold stepT; rw [if_pos (by rw [c1, c2]; rfl)]
        rw [hs] at h ⊢
        rw [rdTB t i (by omega)]
        exact h
      · simp only [if_pos c1, if_neg c2]
        have hs : stepT t kk i j = t := by unfold stepT; rw [if_neg (by rw [c1]; simpa using c2)]
        rw [hs] at h ⊢
        exact h
    · simp only [if_neg c1]
      have hs : stepT t kk i j = t := by unfold stepT; rw [if_neg (by simp only [Bool.and_eq_true]; exact fun x => c1 x.1)]
      rw [hs] at h ⊢
      exact h
theorem spec_l3 (n : Nat) (hn : n ≤ 8) (kk : Nat) (hk : kk < n) (R : List (List Bool) → List (List Bool))
    (hnext : ∀ t, Sq n t → Ev (fun k => spec_l4Table.l2 k (n : Int) t ((kk + 1 : Nat) : Int)) (R t)) :
    ∀ (d i : Nat) (t : List (List Bool)), i + d = n → Sq n t → Ev (fun k => spec_l4Table.l3 k (n : Int) t (kk : Int) (i : Int)) (R (midF n t kk (List.range' i d))) := by
  intro d
  induction d with
  | zero =>
    intro i t hi ht
    refine ev_succ ?_
    simp only [spec_l4Table.l3, if_neg (show ¬ (i : Int) < (n : Int) by omega), wsucc kk (by omega)]
    exact hnext t ht
  | succ d ih =>
    intro i t hi ht
    refine ev_succ ?_
    rw [List.range'_succ]
    simp only [midF, List.foldl_cons, spec_l4Table.l3, if_pos (show (i : Int) < (n : Int) by omega)]
    exact spec_l4 n hn kk i hk (by omega) (fun t => R (midF n t kk (List.range' (i + 1) d))) (fun t ht => ih (i + 1) t (by omega) ht) n 0 t (by omega) ht
theorem mid_sq {n : Nat} {t : List (List Bool)} (h : Sq n t) (k : Nat) : ∀ is : List Nat, (∀ i ∈ is, i < n) → Sq n (midF n t k is) := by
  intro is
  unfold midF
  induction is generalizing t with
  | nil => intro _; exact h
  | cons i is ih => intro hi; exact ih (h.row_fold k i (hi i (by simp)) _) (fun x hx => hi x (by simp [hx]))
theorem spec_l2 (n : Nat) (hn : n ≤ 8) : ∀ (d kk : Nat) (t : List (List Bool)), kk + d = n → Sq n t → Ev (fun k => spec_l4Table.l2 k (n : Int) t (kk : Int)) (outF n t (List.range' kk d)) := by
  intro d
  induction d with
  | zero =>
    intro kk t hk ht
    refine ev_succ ?_
    simp only [spec_l4Table.l2, if_neg (show ¬ (kk : Int) < (n : Int) by omega)]
    exact ev_now _
  | succ d ih =>
    intro kk t hk ht
    refine ev_succ ?_
    rw [List.range'_succ]
    simp only [outF, List.foldl_cons, spec_l4Table.l2, if_pos (show (kk : Int) < (n : Int) by omega)]
    exact spec_l3 n hn kk (by omega) (fun t => outF n t (List.range' (kk + 1) d)) (fun t ht => ih (kk + 1) t (by omega) ht) n 0 t (by omega) ht
theorem edge_sq {n : Nat} {t : List (List Bool)} (h : Sq n t) : ∀ es : List S71, inN n es → Sq n (edgeF t es) := by
  intro es
  unfold edgeF
  induction es generalizing t with
  | nil => intro _; exact h
  | cons e es ih =>
    intro he
    have := he e (by simp)
    exact ih (h.put _ _ (by omega) true) (fun x hx => he x (by simp [hx]))
theorem spec_l1 (n : Nat) (hn : n ≤ 8) (es : List S71) (hes : es.length ≤ 1048576) (hin : inN n es) : ∀ (d i : Nat) (t : List (List Bool)), i + d = es.length → Sq n t → Ev (fun k => spec_l4Table.l1 k (n : Int) es t (i : Int)) (outF n (edgeF t (es.drop i)) (List.range' 0 n)) := by
  intro d
  induction d with
  | zero =>
    intro i t hi ht
    refine ev_succ ?_
    simp only [spec_l4Table.l1, if_neg (show ¬ (i : Int) < (es.length : Int) by omega), List.drop_of_length_le (show es.length ≤ i by omega)]
    exact spec_l2 n hn n 0 t (by omega) ht
  | succ d ih =>
    intro i t hi ht
    refine ev_succ ?_
    have hx : i < es.length := by omega
    have hl := ht.1
    have he := hin es[i] (List.getElem_mem hx)
    obtain ⟨a, ha⟩ := Int.eq_ofNat_of_zero_le he.1
    obtain ⟨b, hb⟩ := Int.eq_ofNat_of_zero_le he.2.2.1
    have hr : (rd_L5 t (a : Int)).length = n := by rw [rdBB t a (by omega)]; exact ht.row a (by omega)
    have h := ih (i + 1) (putT t a b true) (by omega) (ht.put a b (by omega) true)
    rw [List.drop_eq_getElem_cons hx]
    simp only [edgeF, List.foldl_cons, ha, hb, Int.toNat_natCast]
    simp only [edgeF] at h
    simp only [spec_l4Table.l1, if_pos (show (i : Int) < (es.length : Int) by omega), if_pos (show (0 : Int) ≤ (i : Int) by omega), rdA2 es i hx, ha, hb, if_pos (show (0 : Int) ≤ (a : Int) by omega), if_pos (show (a : Int) < (t.length : Int) by omega), if_pos (show (0 : Int) ≤ (b : Int) by omega), if_pos (show (b : Int) < ((rd_L5 t (a : Int)).length : Int) by omega), wsucc i (by omega), Int.toNat_natCast]
    rw [rdTB t a (by omega)]
    exact h
theorem spec_l0 (n : Nat) (hn : n ≤ 8) (es : List S71) (hes : es.length ≤ 1048576) (hin : inN n es) : ∀ (d i : Nat) (t : List (List Bool)), i + d = n → t = List.replicate i (List.replicate n false) → Ev (fun k => spec_l4Table.l0 k (n : Int) es t (i : Int)) (closT n es) := by
  intro d
  induction d with
  | zero =>
    intro i t hi ht
    refine ev_succ ?_
    have hin' : i = n := by omega
    subst hin'
    simp only [spec_l4Table.l0, if_neg (show ¬ (i : Int) < (i : Int) by omega)]
    have := spec_l1 i hn es hes hin es.length 0 t (by omega) (by rw [ht]; exact ⟨by simp, fun r hr => by rw [List.eq_of_mem_replicate hr]; simp⟩)
    rw [List.drop_zero, ht] at this
    rw [ht]
    exact this
  | succ d ih =>
    intro i t hi ht
    refine ev_succ ?_
    have hl : t.length = i := by rw [ht]; simp
    simp only [spec_l4Table.l0, if_pos (show (i : Int) < (n : Int) by omega), if_pos (show (0 : Int) ≤ (n : Int) by omega), Int.toNat_natCast, if_pos (show n ≤ 281474976710656 by omega), if_pos (show t.length < 5864062014805 by omega), wsucc i (by omega)]
    exact ih (i + 1) _ (by omega) (by rw [ht, List.replicate_succ'])
theorem l4Table_ev (n : Nat) (hn : n ≤ 8) (es : List S71) (hes : es.length ≤ 1048576) (hin : inN n es) : Ev (fun k => spec_l4Table.f k (n : Int) es) (closT n es) := by
  unfold spec_l4Table.f
  exact spec_l0 n hn es hes hin n 0 [] (by omega) (by simp)
theorem impl_l4 (n : Nat) (hn : n ≤ 8) (kk i : Nat) (hk : kk < n) (hi : i < n) (R : List (List Bool) → List (List Bool))
    (hnext : ∀ t, Sq n t → Ev (fun k => impl_closure.l3 k (n : Int) t (kk : Int) ((i + 1 : Nat) : Int)) (R t)) :
    ∀ (d j : Nat) (t : List (List Bool)), j + d = n → Sq n t → Ev (fun k => impl_closure.l4 k (n : Int) t (kk : Int) (i : Int) (j : Int)) (R (rowF t kk i (List.range' j d))) := by
  intro d
  induction d with
  | zero =>
    intro j t hj ht
    refine ev_succ ?_
    simp only [impl_closure.l4, if_neg (show ¬ (j : Int) < (n : Int) by omega), wsucc i (by omega)]
    exact hnext t ht
  | succ d ih =>
    intro j t hj ht
    refine ev_succ ?_
    have hl := ht.1
    have hri : (rd_L5 t (i : Int)).length = n := by rw [rdBB t i (by omega)]; exact ht.row i hi
    have hrk : (rd_L5 t (kk : Int)).length = n := by rw [rdBB t kk (by omega)]; exact ht.row kk hk
    have h := ih (j + 1) (stepT t kk i j) (by omega) (ht.step kk i j hi)
    rw [List.range'_succ]
    simp only [rowF, List.foldl_cons]
    simp only [rowF] at h
    simp only [impl_closure.l4, if_pos (show (j : Int) < (n : Int) by omega), if_pos (show (0 : Int) ≤ (i : Int) by omega), if_pos (show (i : Int) < (t.length : Int) by omega), if_pos (show (0 : Int) ≤ (kk : Int) by omega), if_pos (show (kk : Int) < ((rd_L5 t (i : Int)).length : Int) by omega), if_pos (show (kk : Int) < (t.length : Int) by omega), if_pos (show (0 : Int) ≤ (j : Int) by omega), if_pos (show (j : Int) < ((rd_L5 t (kk : Int)).length : Int) by omega), if_pos (show (j : Int) < ((rd_L5 t (i : Int)).length : Int) by omega), rdTT ht i kk hi hk, rdTT ht kk j hk (by omega), rdTT ht i j hi (by omega), wsucc j (by omega), Int.toNat_natCast]
    have hput : ∀ b, t.set i ((rd_L5 t (i : Int)).set j b) = putT t i j b := fun b => by rw [rdTB t i (by omega)]; rfl
    have hsame := put_same ht i j hi (show j < n by omega)
    by_cases c0 : tb t i j = true
    · simp only [if_pos c0, hput]
      have hs : stepT t kk i j = t := by
        unfold stepT
        split
        · rw [c0] at hsame; exact hsame
        · rfl
      rw [hs] at h ⊢
      rw [c0] at hsame
      rw [hsame]
      exact h
    · have c0' : tb t i j = false := by simpa using c0
      rw [c0'] at hsame
      by_cases c1 : tb t i kk = true
      · simp only [if_neg c0, if_pos c1, hput]
        by_cases c2 : tb t kk j = true
        · have hs : stepT t kk i j = putT t i j true := by unfold stepT; rw [if_pos (by rw [c1, c2]; rfl)]
          rw [hs] at h ⊢
          rw [c2]
          exact h
        · have c2' : tb t kk j = false := by simpa using c2
          have hs : stepT t kk i j = t := by unfold stepT; rw [if_neg (by rw [c1]; simpa using c2)]
          rw [hs] at h ⊢
          rw [c2', hsame]
          exact h
      · simp only [if_neg c0, if_neg c1, hput]
        have hs : stepT t kk i j = t := by unfold stepT; rw [if_neg (by simp only [Bool.and_eq_true]; exact fun x => c1 x.1)]
        rw [hs] at h ⊢
        rw [hsame]
        exact h
theorem impl_l3 (n : Nat) (hn : n ≤ 8) (kk : Nat) (hk : kk < n) (R : List (List Bool) → List (List Bool))
    (hnext : ∀ t, Sq n t → Ev (fun k => impl_closure.l2 k (n : Int) t ((kk + 1 : Nat) : Int)) (R t)) :
    ∀ (d i : Nat) (t : List (List Bool)), i + d = n → Sq n t → Ev (fun k => impl_closure.l3 k (n : Int) t (kk : Int) (i : Int)) (R (midF n t kk (List.range' i d))) := by
  intro d
  induction d with
  | zero =>
    intro i t hi ht
    refine ev_succ ?_
    simp only [impl_closure.l3, if_neg (show ¬ (i : Int) < (n : Int) by omega), wsucc kk (by omega)]
    exact hnext t ht
  | succ d ih =>
    intro i t hi ht
    refine ev_succ ?_
    rw [List.range'_succ]
    simp only [midF, List.foldl_cons, impl_closure.l3, if_pos (show (i : Int) < (n : Int) by omega)]
    exact impl_l4 n hn kk i hk (by omega) (fun t => R (midF n t kk (List.range' (i + 1) d))) (fun t ht => ih (i + 1) t (by omega) ht) n 0 t (by omega) ht
theorem impl_l2 (n : Nat) (hn : n ≤ 8) : ∀ (d kk : Nat) (t : List (List Bool)), kk + d = n → Sq n t → Ev (fun k => impl_closure.l2 k (n : Int) t (kk : Int)) (outF n t (List.range' kk d)) := by
  intro d
  induction d with
  | zero =>
    intro kk t hk ht
    refine ev_succ ?_
    simp only [impl_closure.l2, if_neg (show ¬ (kk : Int) < (n : Int) by omega)]
    exact ev_now _
  | succ d ih =>
    intro kk t hk ht
    refine ev_succ ?_
    rw [List.range'_succ]
    simp only [outF, List.foldl_cons, impl_closure.l2, if_pos (show (kk : Int) < (n : Int) by omega)]
    exact impl_l3 n hn kk (by omega) (fun t => outF n t (List.range' (kk + 1) d)) (fun t ht => ih (kk + 1) t (by omega) ht) n 0 t (by omega) ht
theorem impl_l1 (n : Nat) (hn : n ≤ 8) (es : List S71) (hes : es.length ≤ 1048576) (hin : inN n es) : ∀ (d i : Nat) (t : List (List Bool)), i + d = es.length → Sq n t → Ev (fun k => impl_closure.l1 k (n : Int) t es (es.length : Int) (i : Int)) (outF n (edgeF t (es.drop i)) (List.range' 0 n)) := by
  intro d
  induction d with
  | zero =>
    intro i t hi ht
    refine ev_succ ?_
    simp only [impl_closure.l1, if_neg (show ¬ (i : Int) < (es.length : Int) by omega), List.drop_of_length_le (show es.length ≤ i by omega)]
    exact impl_l2 n hn n 0 t (by omega) ht
  | succ d ih =>
    intro i t hi ht
    refine ev_succ ?_
    have hx : i < es.length := by omega
    have hl := ht.1
    have he := hin es[i] (List.getElem_mem hx)
    obtain ⟨a, ha⟩ := Int.eq_ofNat_of_zero_le he.1
    obtain ⟨b, hb⟩ := Int.eq_ofNat_of_zero_le he.2.2.1
    have hr : (rd_L5 t (a : Int)).length = n := by rw [rdBB t a (by omega)]; exact ht.row a (by omega)
    have h := ih (i + 1) (putT t a b true) (by omega) (ht.put a b (by omega) true)
    rw [List.drop_eq_getElem_cons hx]
    simp only [edgeF, List.foldl_cons, ha, hb, Int.toNat_natCast]
    simp only [edgeF] at h
    simp only [impl_closure.l1, if_pos (show (i : Int) < (es.length : Int) by omega), if_pos (show (0 : Int) ≤ (i : Int) by omega), rdA2 es i hx, ha, hb, if_pos (show (0 : Int) ≤ (a : Int) by omega), if_pos (show (a : Int) < (t.length : Int) by omega), if_pos (show (0 : Int) ≤ (b : Int) by omega), if_pos (show (b : Int) < ((rd_L5 t (a : Int)).length : Int) by omega), wsucc i (by omega), Int.toNat_natCast]
    rw [rdTB t a (by omega)]
    exact h
theorem impl_l0 (n : Nat) (hn : n ≤ 8) (es : List S71) (hes : es.length ≤ 1048576) (hin : inN n es) : ∀ (d i : Nat) (t : List (List Bool)), i + d = n → t.length = n → t.take i = List.replicate i (List.replicate n false) → Ev (fun k => impl_closure.l0 k (n : Int) es t (n : Int) (i : Int)) (closT n es) := by
  intro d
  induction d with
  | zero =>
    intro i t hi hl ht
    refine ev_succ ?_
    have hin' : i = n := by omega
    subst hin'
    rw [List.take_of_length_le (by omega)] at ht
    simp only [impl_closure.l0, if_neg (show ¬ (i : Int) < (i : Int) by omega)]
    have := impl_l1 i hn es hes hin es.length 0 t (by omega) (by rw [ht]; exact ⟨by simp, fun r hr => by rw [List.eq_of_mem_replicate hr]; simp⟩)
    rw [List.drop_zero, ht] at this
    rw [ht]
    exact this
  | succ d ih =>
    intro i t hi hl ht
    refine ev_succ ?_
    simp only [impl_closure.l0, if_pos (show (i : Int) < (n : Int) by omega), if_pos (show (0 : Int) ≤ (n : Int) by omega), Int.toNat_natCast, if_pos (show n ≤ 281474976710656 by omega), if_pos (show (0 : Int) ≤ (i : Int) by omega), if_pos (show (i : Int) < (t.length : Int) by omega), wsucc i (by omega)]
    exact ih (i + 1) _ (by omega) (by rw [List.length_set]; exact hl) (by rw [take_set_succ t i _ (by omega), ht, List.replicate_succ'])
theorem closure_ev (n : Nat) (hn : n ≤ 8) (es : List S71) (hes : es.length ≤ 1048576) (hin : inN n es) : Ev (fun k => impl_closure.f k (n : Int) es) (closT n es) := by
  unfold impl_closure.f
  simp only [if_pos (show (0 : Int) ≤ (n : Int) by omega), Int.toNat_natCast, if_pos (show n ≤ 11728124029610 by omega), Option.bind_some, List.length_replicate]
  exact impl_l0 n hn es hes hin n 0 _ (by omega) (by simp) (by simp)
theorem clos_sq (n : Nat) (es : List S71) (hin : inN n es) : Sq n (closT n es) := by
  unfold closT
  have h0 : Sq n (edgeF (List.replicate n (List.replicate n false)) es) := edge_sq ⟨by simp, fun r hr => by rw [List.eq_of_mem_replicate hr]; simp⟩ es hin
  have key : ∀ (ks : List Nat) (t : List (List Bool)), Sq n t → Sq n (outF n t ks) := by
    intro ks
    unfold outF
    induction ks with
    | nil => intro t h; exact h
    | cons k ks ih => intro t h; exact ih _ (mid_sq h k _ (fun i hi => by rw [List.mem_range'_1] at hi; omega))
  exact key _ _ h0

theorem isNumber_eq (i n : Int) (h0 : 0 ≤ n) (h1 : n ≤ 9223372036854775807) : impl_isNumber.f i n = some (decide (0 ≤ i) && decide (i < n)) := by
  unfold impl_isNumber.f
  rw [within_eq, w64 (by omega) (by omega)]
  simp only [Option.bind_some]
  congr 2
  rw [decide_eq_decide]
  omega

def cE (m : Int) (es : List S71) (i : Nat) : Bool :=
  decide (0 ≤ (rd_T71 es (i : Int)).f0) && decide ((rd_T71 es (i : Int)).f0 ≤ m) && (decide (0 ≤ (rd_T71 es (i : Int)).f1) && decide ((rd_T71 es (i : Int)).f1 ≤ m)) && !decide ((rd_T71 es (i : Int)).f0 = (rd_T71 es (i : Int)).f1) &&
  (decide (i = 0) || decide ((rd_T71 es ((i - 1 : Nat) : Int)).f0 < (rd_T71 es (i : Int)).f0) || decide ((rd_T71 es ((i - 1 : Nat) : Int)).f0 = (rd_T71 es (i : Int)).f0) && decide ((rd_T71 es ((i - 1 : Nat) : Int)).f1 < (rd_T71 es (i : Int)).f1))
def pfE (m : Int) (es : List S71) (i : Nat) : Nat → Bool
  | 0 => true
  | d + 1 => cE m es i && pfE m es (i + 1) d
theorem l4Before_eq (a b c d : Int) : spec_l4Before.f a b c d = some (decide (a < c) || decide (a = c) && decide (b < d)) := by
  unfold spec_l4Before.f
  by_cases h : a < c
  · rw [if_pos h]; simp [h]
  · rw [if_neg h]
    by_cases h' : a = c
    · rw [if_pos h']; simp [h, h']
    · rw [if_neg h']; simp [h, h']
theorem wpred (i : Nat) (h0 : 0 < i) (h : i < 4611686018427387904) : wrap64 ((i : Int) - 1) = ((i - 1 : Nat) : Int) := by
  rw [w64 (by omega) (by omega)]; omega
theorem l4Pairs_l (n : Int) (es : List S71) (hes : es.length ≤ 1048576) : ∀ (d i : Nat), i + d = es.length → Ev (fun k => spec_l4Pairs.l0 k n es (i : Int)) (pfE (wrap64 (n - 1)) es i d && ((decide (0 ≤ n) && decide (n ≤ 8)) && decide ((es.length : Int) ≤ 28))) := by
  intro d
  induction d with
  | zero =>
    intro i hi
    refine ev_succ ?_
    simp only [spec_l4Pairs.l0, if_neg (show ¬ (i : Int) < (es.length : Int) by omega), l1In_eq, Option.bind_some, pfE, Bool.true_and]
    cases hb : (decide (0 ≤ n) && decide (n ≤ 8))
    · simp only [Bool.false_eq_true, if_false, Bool.false_and]; exact ev_now _
    · simp only [if_true, Bool.true_and]; exact ev_now _
  | succ d ih =>
    intro i hi
    refine ev_succ ?_
    have h := ih (i + 1) (by omega)
    simp only [spec_l4Pairs.l0, if_pos (show (i : Int) < (es.length : Int) by omega), if_pos (show (0 : Int) ≤ (i : Int) by omega), l1In_eq, l4Before_eq, Option.bind_some, pfE, wsucc i (by omega)]
    unfold cE
    by_cases ha : (decide (0 ≤ (rd_T71 es (i : Int)).f0) && decide ((rd_T71 es (i : Int)).f0 ≤ wrap64 (n - 1))) = true
    · by_cases hb : (decide (0 ≤ (rd_T71 es (i : Int)).f1) && decide ((rd_T71 es (i : Int)).f1 ≤ wrap64 (n - 1))) = true
      · by_cases hc : (rd_T71 es (i : Int)).f0 = (rd_T71 es (i : Int)).f1
        · simp only [ha, hb, if_true, if_pos hc, decide_eq_true hc, Bool.not_true, Bool.and_false, Bool.false_and]; exact ev_now _
        · by_cases h0 : i = 0
          · subst h0
            simp only [ha, hb, if_true, if_neg hc, decide_true, Bool.true_or, Bool.true_and, decide_eq_false hc, Bool.not_false, gt_iff_lt, if_neg (show ¬ ((0 : Int) < ((0 : Nat) : Int)) by omega)]
            exact h
          · simp only [ha, hb, if_true, if_neg hc, if_pos (show (i : Int) > 0 by omega), wpred i (by omega) (by omega), if_pos (show (0 : Int) ≤ ((i - 1 : Nat) : Int) by omega), if_pos (show ((i - 1 : Nat) : Int) < (es.length : Int) by omega), decide_eq_false h0, Bool.false_or, Bool.true_and, decide_eq_false hc, Bool.not_false]
            cases hd : (decide ((rd_T71 es ((i - 1 : Nat) : Int)).f0 < (rd_T71 es (i : Int)).f0) || decide ((rd_T71 es ((i - 1 : Nat) : Int)).f0 = (rd_T71 es (i : Int)).f0) && decide ((rd_T71 es ((i - 1 : Nat) : Int)).f1 < (rd_T71 es (i : Int)).f1))
            · simp only [Bool.false_eq_true, if_false, Bool.false_and]; exact ev_now _
            · simp only [if_true, Bool.true_and]; exact h
      · simp only [ha, if_true, if_neg hb, Bool.not_eq_true .. ▸ hb, Bool.and_false, Bool.false_and]; exact ev_now _
    · simp only [if_neg ha, Bool.not_eq_true .. ▸ ha, Bool.false_and]; exact ev_now _
def okE (n : Int) (es : List S71) : Bool := pfE (wrap64 (n - 1)) es 0 es.length && ((decide (0 ≤ n) && decide (n ≤ 8)) && decide ((es.length : Int) ≤ 28))
theorem l4Pairs_ev (n : Int) (es : List S71) (hes : es.length ≤ 1048576) : Ev (fun k => spec_l4Pairs.f k n es) (okE n es) := by
  unfold spec_l4Pairs.f
  exact l4Pairs_l n es hes es.length 0 (by omega)
theorem pfE_in (n : Nat) (hn : n ≤ 8) (es : List S71) : ∀ (d i : Nat), i + d = es.length → pfE (wrap64 ((n : Int) - 1)) es i d = true → ∀ j, i ≤ j → (hj : j < es.length) → 0 ≤ (es[j]).f0 ∧ (es[j]).f0 < n ∧ 0 ≤ (es[j]).f1 ∧ (es[j]).f1 < n := by
  intro d
  induction d with
  | zero => intro i hi _ j hj hj'; omega
  | succ d ih =>
    intro i hi h j hj hj'
    unfold pfE at h
    rw [Bool.and_eq_true] at h
    by_cases he : j = i
    · subst he
      have h1 := h.1
      unfold cE at h1
      rw [rdA2 es j hj', w64 (by omega) (by omega)] at h1
      simp only [Bool.and_eq_true, decide_eq_true_eq] at h1
      obtain ⟨⟨⟨⟨a1, a2⟩, ⟨a3, a4⟩⟩, _⟩, _⟩ := h1
      exact ⟨a1, by omega, a3, by omega⟩
    · exact ih (i + 1) (by omega) h.2 j (by omega) hj'
theorem okE_in (n : Int) (es : List S71) (h : okE n es = true) : ∃ m : Nat, n = m ∧ m ≤ 8 ∧ es.length ≤ 28 ∧ inN m es := by
  unfold okE at h
  simp only [Bool.and_eq_true, decide_eq_true_eq] at h
  obtain ⟨h1, ⟨h2, h3⟩, h4⟩ := h
  obtain ⟨m, rfl⟩ := Int.eq_ofNat_of_zero_le h2
  refine ⟨m, rfl, by omega, by omega, fun e he => ?_⟩
  obtain ⟨j, hj, rfl⟩ := List.mem_iff_getElem.mp he
  have := pfE_in m (by omega) es es.length 0 (by omega) h1 j (by omega) hj
  omega
/-- No job stands before itself, from the i-th on. -/
def acyF (t : List (List Bool)) (i : Nat) : Nat → Bool
  | 0 => true
  | d + 1 => !tb t i i && acyF t (i + 1) d
def good4 (n : Int) (es : List S71) : Bool := okE n es && acyF (closT n.toNat es) 0 n.toNat
theorem l4Good_l (n : Nat) (hn : n ≤ 8) (t : List (List Bool)) (ht : Sq n t) : ∀ (d i : Nat), i + d = n → Ev (fun k => spec_l4Good.l0 k (n : Int) t (i : Int)) (acyF t i d) := by
  intro d
  induction d with
  | zero =>
    intro i hi
    refine ev_succ ?_
    simp only [spec_l4Good.l0, if_neg (show ¬ (i : Int) < (n : Int) by omega), acyF]
    exact ev_now _
  | succ d ih =>
    intro i hi
    refine ev_succ ?_
    have h := ih (i + 1) (by omega)
    have hl := ht.1
    have hr : (rd_L5 t (i : Int)).length = n := by rw [rdBB t i (by omega)]; exact ht.row i (by omega)
    simp only [spec_l4Good.l0, if_pos (show (i : Int) < (n : Int) by omega), if_pos (show (0 : Int) ≤ (i : Int) by omega), if_pos (show (i : Int) < (t.length : Int) by omega), if_pos (show (i : Int) < ((rd_L5 t (i : Int)).length : Int) by omega), rdTT ht i i (by omega) (by omega), wsucc i (by omega), acyF]
    cases tb t i i
    · simp only [Bool.false_eq_true, if_false, Bool.not_false, Bool.true_and]; exact h
    · simp only [if_true, Bool.not_true, Bool.false_and]; exact ev_now _
theorem l4Good_ev (n : Int) (es : List S71) (hes : es.length ≤ 1048576) : Ev (fun k => spec_l4Good.f k n es) (good4 n es) := by
  unfold spec_l4Good.f good4
  refine ev_bind (l4Pairs_ev n es hes) ?_
  cases hk : okE n es
  · simp only [Bool.false_eq_true, if_false, Bool.false_and]; exact ev_now _
  · obtain ⟨m, rfl, hm, hl, hin⟩ := okE_in n es hk
    simp only [if_true, Bool.true_and, Int.toNat_natCast]
    exact ev_bind (l4Table_ev m hm es hes hin) (l4Good_l m hm _ (clos_sq m es hin) m 0 (by omega))
theorem isPrec_l1 (n : Nat) (hn : n ≤ 8) (t : List (List Bool)) (ht : Sq n t) : ∀ (d i : Nat), i + d = n → Ev (fun k => impl_IsPrecedence.l1 k t (n : Int) (i : Int)) (acyF t i d) := by
  intro d
  induction d with
  | zero =>
    intro i hi
    refine ev_succ ?_
    simp only [impl_IsPrecedence.l1, if_neg (show ¬ (i : Int) < (n : Int) by omega), acyF]
    exact ev_now _
  | succ d ih =>
    intro i hi
    refine ev_succ ?_
    have h := ih (i + 1) (by omega)
    have hl := ht.1
    have hr : (rd_L5 t (i : Int)).length = n := by rw [rdBB t i (by omega)]; exact ht.row i (by omega)
    simp only [impl_IsPrecedence.l1, if_pos (show (i : Int) < (n : Int) by omega), if_pos (show (0 : Int) ≤ (i : Int) by omega), if_pos (show (i : Int) < (t.length : Int) by omega), if_pos (show (i : Int) < ((rd_L5 t (i : Int)).length : Int) by omega), rdTT ht i i (by omega) (by omega), wsucc i (by omega), acyF]
    cases tb t i i
    · simp only [Bool.false_eq_true, if_false, Bool.not_false, Bool.true_and]; exact h
    · simp only [if_true, Bool.not_true, Bool.false_and]; exact ev_now _
theorem isPrec_l0 (n : Nat) (hn : n ≤ 8) (es : List S71) (hes : es.length ≤ 28) (hG : pfE (wrap64 ((n : Int) - 1)) es 0 es.length = true → inN n es) :
    ∀ (d i : Nat), i + d = es.length → (pfE (wrap64 ((n : Int) - 1)) es i d = true → pfE (wrap64 ((n : Int) - 1)) es 0 es.length = true) → Ev (fun k => impl_IsPrecedence.l0 k (n : Int) es es (es.length : Int) (i : Int)) (pfE (wrap64 ((n : Int) - 1)) es i d && acyF (closT n es) 0 n) := by
  intro d
  induction d with
  | zero =>
    intro i hi hp
    have hin := hG (hp rfl)
    have hl := (clos_sq n es hin).1
    refine ev_succ ?_
    simp only [impl_IsPrecedence.l0, if_neg (show ¬ (i : Int) < (es.length : Int) by omega), pfE, Bool.true_and]
    refine ev_bind (closure_ev n hn es (by omega) hin) ?_
    rw [hl]
    exact isPrec_l1 n hn _ (clos_sq n es hin) n 0 (by omega)
  | succ d ih =>
    intro i hi hp
    refine ev_succ ?_
    have hm : wrap64 ((n : Int) - 1) = (n : Int) - 1 := w64 (by omega) (by omega)
    have e1 : ∀ x : Int, decide (x ≤ (n : Int) - 1) = decide (x < (n : Int)) := fun x => by rw [decide_eq_decide]; omega
    have h := fun (hq : cE (wrap64 ((n : Int) - 1)) es i = true) => ih (i + 1) (by omega) (fun x => hp (by rw [pfE, hq, x]; rfl))
    simp only [impl_IsPrecedence.l0, if_pos (show (i : Int) < (es.length : Int) by omega), if_pos (show (0 : Int) ≤ (i : Int) by omega), isNumber_eq _ (n : Int) (by omega) (by omega), Option.bind_some, pfE]
    have hcE : cE (wrap64 ((n : Int) - 1)) es i = (decide (0 ≤ (rd_T71 es (i : Int)).f0) && decide ((rd_T71 es (i : Int)).f0 < (n : Int)) && (decide (0 ≤ (rd_T71 es (i : Int)).f1) && decide ((rd_T71 es (i : Int)).f1 < (n : Int))) && !decide ((rd_T71 es (i : Int)).f0 = (rd_T71 es (i : Int)).f1) &&
        (decide (i = 0) || decide ((rd_T71 es ((i - 1 : Nat) : Int)).f0 < (rd_T71 es (i : Int)).f0) || decide ((rd_T71 es ((i - 1 : Nat) : Int)).f0 = (rd_T71 es (i : Int)).f0) && decide ((rd_T71 es ((i - 1 : Nat) : Int)).f1 < (rd_T71 es (i : Int)).f1))) := by
      unfold cE; rw [hm, e1, e1]
    by_cases ha : (decide (0 ≤ (rd_T71 es (i : Int)).f0) && decide ((rd_T71 es (i : Int)).f0 < (n : Int))) = true
    · by_cases hb : (decide (0 ≤ (rd_T71 es (i : Int)).f1) && decide ((rd_T71 es (i : Int)).f1 < (n : Int))) = true
      · simp only [ha, hb, if_true]
        refine ev_succ ?_
        rw [ha, hb] at hcE
        by_cases hc : (rd_T71 es (i : Int)).f0 = (rd_T71 es (i : Int)).f1
        · rw [hcE]
          simp only [impl_IsPrecedence.j2, hc, beq_self_eq_true, if_true, decide_true, Bool.not_true, Bool.and_false, Bool.false_and]; exact ev_now _
        · by_cases h0 : i = 0
          · have hc' : cE (wrap64 ((n : Int) - 1)) es i = true := by rw [hcE]; simp only [decide_eq_false hc, decide_eq_true h0]; rfl
            have h := h hc'
            rw [hc']
            subst h0
            simp only [impl_IsPrecedence.j2, beq_eq_false_iff_ne.mpr hc, Bool.false_eq_true, if_false, gt_iff_lt, if_neg (show ¬ ((0 : Int) < ((0 : Nat) : Int)) by omega), wsucc 0 (by omega), Bool.true_and]
            exact h
          · simp only [impl_IsPrecedence.j2, beq_eq_false_iff_ne.mpr hc, Bool.false_eq_true, if_false, gt_iff_lt, ge_iff_le, if_pos (show (0 : Int) < (i : Int) by omega), wpred i (by omega) (by omega), if_pos (show (0 : Int) ≤ ((i - 1 : Nat) : Int) by omega), if_pos (show ((i - 1 : Nat) : Int) < (es.length : Int) by omega), wsucc i (by omega)]
            by_cases g1 : (rd_T71 es (i : Int)).f0 < (rd_T71 es ((i - 1 : Nat) : Int)).f0
            · have hc' : cE (wrap64 ((n : Int) - 1)) es i = false := by rw [hcE]; simp only [decide_eq_false h0, decide_eq_false (show ¬ (rd_T71 es ((i - 1 : Nat) : Int)).f0 < (rd_T71 es (i : Int)).f0 by omega), decide_eq_false (show ¬ (rd_T71 es ((i - 1 : Nat) : Int)).f0 = (rd_T71 es (i : Int)).f0 by omega), Bool.false_and, Bool.false_or, Bool.or_false, Bool.and_false]
              simp only [if_pos g1, hc', Bool.false_and]; exact ev_now _
            · simp only [if_neg g1]
              by_cases g2 : (rd_T71 es ((i - 1 : Nat) : Int)).f0 = (rd_T71 es (i : Int)).f0
              · simp only [if_pos g2]
                by_cases g3 : (rd_T71 es (i : Int)).f1 ≤ (rd_T71 es ((i - 1 : Nat) : Int)).f1
                · have hc' : cE (wrap64 ((n : Int) - 1)) es i = false := by rw [hcE]; simp only [decide_eq_false h0, decide_eq_false (show ¬ (rd_T71 es ((i - 1 : Nat) : Int)).f0 < (rd_T71 es (i : Int)).f0 by omega), decide_eq_false (show ¬ (rd_T71 es ((i - 1 : Nat) : Int)).f1 < (rd_T71 es (i : Int)).f1 by omega), Bool.and_false, Bool.false_or, Bool.or_false]
                  simp only [if_pos g3, hc', Bool.false_and]; exact ev_now _
                · have hc' : cE (wrap64 ((n : Int) - 1)) es i = true := by rw [hcE]; simp only [decide_eq_false hc, decide_eq_true g2, decide_eq_true (show (rd_T71 es ((i - 1 : Nat) : Int)).f1 < (rd_T71 es (i : Int)).f1 by omega), Bool.and_true, Bool.or_true, Bool.not_false]
                  simp only [if_neg g3, hc', Bool.true_and]; exact h hc'
              · have hc' : cE (wrap64 ((n : Int) - 1)) es i = true := by rw [hcE]; simp only [decide_eq_false hc, decide_eq_true (show (rd_T71 es ((i - 1 : Nat) : Int)).f0 < (rd_T71 es (i : Int)).f0 by omega), Bool.and_true, Bool.or_true, Bool.true_or, Bool.not_false]
                simp only [if_neg g2, hc', Bool.true_and]; exact h hc'
      · have hb' : (decide (0 ≤ (rd_T71 es (i : Int)).f1) && decide ((rd_T71 es (i : Int)).f1 < (n : Int))) = false := by simpa using hb
        have hc' : cE (wrap64 ((n : Int) - 1)) es i = false := by rw [hcE, hb', Bool.and_false, Bool.false_and, Bool.false_and]
        simp only [ha, if_true, if_neg hb, hc', Bool.false_and]
        refine ev_succ ?_
        simp only [impl_IsPrecedence.j2, if_true]; exact ev_now _
    · have ha' : (decide (0 ≤ (rd_T71 es (i : Int)).f0) && decide ((rd_T71 es (i : Int)).f0 < (n : Int))) = false := by simpa using ha
      have hc' : cE (wrap64 ((n : Int) - 1)) es i = false := by rw [hcE, ha', Bool.false_and, Bool.false_and, Bool.false_and]
      simp only [if_neg ha, hc', Bool.false_and]
      refine ev_succ ?_
      simp only [impl_IsPrecedence.j2, if_true]; exact ev_now _
theorem isPrec_ev (n : Int) (es : List S71) : Ev (fun k => impl_IsPrecedence.f k n es) (good4 n es) := by
  unfold impl_IsPrecedence.f
  simp only [within_eq, Option.bind_some]
  by_cases h : 0 ≤ n ∧ n ≤ 8
  · obtain ⟨m, rfl⟩ := Int.eq_ofNat_of_zero_le h.1
    have hb : (decide (0 ≤ (m : Int)) && decide ((m : Int) ≤ 8)) = true := by simp; omega
    simp only [hb, if_true]
    refine ev_succ ?_
    by_cases hl : (es.length : Int) > 28
    · have : good4 (m : Int) es = false := by unfold good4 okE; rw [decide_eq_false (show ¬ (es.length : Int) ≤ 28 by omega)]; simp
      simp only [impl_IsPrecedence.j0, decide_eq_true hl, if_true, this]; exact ev_now _
    · simp only [impl_IsPrecedence.j0, decide_eq_false hl, Bool.false_eq_true, if_false]
      have hk : good4 (m : Int) es = (pfE (wrap64 ((m : Int) - 1)) es 0 es.length && acyF (closT m es) 0 m) := by
        unfold good4 okE; rw [hb, decide_eq_true (show (es.length : Int) ≤ 28 by omega)]; simp
      rw [hk]
      refine isPrec_l0 m (by omega) es (by omega) (fun hp => ?_) es.length 0 (by omega) (fun x => x)
      obtain ⟨m', e, _, _, hin⟩ := okE_in (m : Int) es (by unfold okE; rw [hp, hb, decide_eq_true (show (es.length : Int) ≤ 28 by omega)]; rfl)
      rw [show m = m' by omega]; exact hin
  · have hb : (decide (0 ≤ n) && decide (n ≤ 8)) = false := by
      rw [Bool.eq_false_iff]; intro x; simp only [Bool.and_eq_true, decide_eq_true_eq] at x; exact h x
    have : good4 n es = false := by unfold good4 okE; rw [hb]; simp
    simp only [hb, Bool.false_eq_true, if_false, this]
    refine ev_succ ?_
    simp only [impl_IsPrecedence.j0, if_true]; exact ev_now _

theorem tb_put {n : Nat} {t : List (List Bool)} (h : Sq n t) (i j a b : Nat) (hi : i < n) (hj : j < n) (ha : a < n) (hb : b < n) (v : Bool) : tb (putT t i j v) a b = if a = i ∧ b = j then v else tb t a b := by
  have hl := h.1
  have hri := h.row i hi
  have hg : t.getD i [] = t[i] := by rw [List.getD_eq_getElem?_getD, List.getElem?_eq_getElem (by omega)]; rfl
  unfold tb putT
  rw [hg]
  by_cases c : a = i
  · subst c
    rw [List.getD_eq_getElem?_getD (l := t.set a _), List.getElem?_set_self (by omega), Option.getD_some, hg]
    by_cases cb : b = j
    · subst cb
      rw [if_pos ⟨rfl, rfl⟩, List.getD_eq_getElem?_getD, List.getElem?_set_self (by omega), Option.getD_some]
    · rw [if_neg (fun x => cb x.2), List.getD_eq_getElem?_getD, List.getElem?_set_ne (fun x => cb x.symm), ← List.getD_eq_getElem?_getD]
  · rw [if_neg (fun x => c x.1), List.getD_eq_getElem?_getD (l := t.set i _), List.getElem?_set_ne (fun x => c x.symm), ← List.getD_eq_getElem?_getD]
/-- What a phase has done at the places S. -/
def Phase (n k : Nat) (t t' : List (List Bool)) (S : Nat → Nat → Prop) : Prop := Sq n t' ∧ ∀ a b, a < n → b < n → (tb t' a b = true ↔ tb t a b = true ∨ S a b ∧ tb t a k = true ∧ tb t k b = true)
theorem Phase.step {n k : Nat} {t t' : List (List Bool)} {S : Nat → Nat → Prop} (h : Phase n k t t' S) (hk : k < n) (i j : Nat) (hi : i < n) (hj : j < n) : Phase n k t (stepT t' k i j) (fun a b => S a b ∨ a = i ∧ b = j) := by
  refine ⟨h.1.step k i j hi, fun a b ha hb => ?_⟩
  have h1 : tb t' i k = true ↔ tb t i k = true := by
    rw [h.2 i k hi hk]
    exact ⟨fun x => x.elim id (fun y => y.2.1), Or.inl⟩
  have h2 : tb t' k j = true ↔ tb t k j = true := by
    rw [h.2 k j hk hj]
    exact ⟨fun x => x.elim id (fun y => y.2.2), Or.inl⟩
  unfold stepT
  by_cases c : (tb t' i k && tb t' k j) = true
  · rw [if_pos c, tb_put h.1 i j a b hi hj ha hb]
    rw [Bool.and_eq_true, h1, h2] at c
    by_cases e : a = i ∧ b = j
    · rw [if_pos e]
      obtain ⟨rfl, rfl⟩ := e
      exact ⟨fun _ => Or.inr ⟨Or.inr ⟨rfl, rfl⟩, c.1, c.2⟩, fun _ => rfl⟩
    · rw [if_neg e, h.2 a b ha hb]
      exact ⟨fun x => x.imp id (fun y => ⟨Or.inl y.1, y.2⟩), fun x => x.imp id (fun y => ⟨y.1.resolve_right e, y.2⟩)⟩
  · rw [if_neg c, h.2 a b ha hb]
    rw [Bool.and_eq_true, h1, h2] at c
    refine ⟨fun x => x.imp id (fun y => ⟨Or.inl y.1, y.2⟩), fun x => ?_⟩
    rcases x with x | ⟨s | ⟨rfl, rfl⟩, y⟩
    · exact Or.inl x
    · exact Or.inr ⟨s, y⟩
    · exact absurd y c
theorem Phase.congr {n k : Nat} {t t' : List (List Bool)} {S S' : Nat → Nat → Prop} (h : Phase n k t t' S) (e : ∀ a b, a < n → b < n → (S a b ↔ S' a b)) : Phase n k t t' S' := ⟨h.1, fun a b ha hb => by rw [h.2 a b ha hb, e a b ha hb]⟩
theorem Phase.row {n k : Nat} {t : List (List Bool)} (hk : k < n) (i : Nat) (hi : i < n) : ∀ (js : List Nat) (t' : List (List Bool)) (S : Nat → Nat → Prop), (∀ j ∈ js, j < n) → Phase n k t t' S → Phase n k t (rowF t' k i js) (fun a b => S a b ∨ a = i ∧ b ∈ js) := by
  intro js
  induction js with
  | nil => intro t' S _ h; exact h.congr (fun a b _ _ => by simp)
  | cons j js ih =>
    intro t' S hj h
    have h' := ih (stepT t' k i j) _ (fun x hx => hj x (by simp [hx])) (h.step hk i j hi (hj j (by simp)))
    refine Phase.congr h' (fun a b _ _ => ?_)
    constructor
    · rintro ((s | ⟨rfl, rfl⟩) | ⟨rfl, hb⟩)
      · exact Or.inl s
      · exact Or.inr ⟨rfl, by simp⟩
      · exact Or.inr ⟨rfl, by simp [hb]⟩
    · rintro (s | ⟨rfl, hb⟩)
      · exact Or.inl (Or.inl s)
      · rcases List.mem_cons.mp hb with rfl | hb
        · exact Or.inl (Or.inr ⟨rfl, rfl⟩)
        · exact Or.inr ⟨rfl, hb⟩
theorem Phase.mid {n k : Nat} {t : List (List Bool)} (hk : k < n) : ∀ (is : List Nat) (t' : List (List Bool)) (S : Nat → Nat → Prop), (∀ i ∈ is, i < n) → Phase n k t t' S → Phase n k t (midF n t' k is) (fun a b => S a b ∨ a ∈ is) := by
  intro is
  induction is with
  | nil => intro t' S _ h; exact h.congr (fun a b _ _ => by simp)
  | cons i is ih =>
    intro t' S hi h
    have h' := ih (rowF t' k i (List.range' 0 n)) _ (fun x hx => hi x (by simp [hx])) (Phase.row hk i (hi i (by simp)) (List.range' 0 n) t' S (fun j hj => by rw [List.mem_range'_1] at hj; omega) h)
    refine Phase.congr h' (fun a b _ hb => ?_)
    constructor
    · rintro ((s | ⟨rfl, _⟩) | hm)
      · exact Or.inl s
      · exact Or.inr (by simp)
      · exact Or.inr (by simp [hm])
    · rintro (s | hm)
      · exact Or.inl (Or.inl s)
      · rcases List.mem_cons.mp hm with rfl | hm
        · exact Or.inl (Or.inr ⟨rfl, by rw [List.mem_range'_1]; omega⟩)
        · exact Or.inr hm
theorem mid_tb {n k : Nat} {t : List (List Bool)} (ht : Sq n t) (hk : k < n) (a b : Nat) (ha : a < n) (hb : b < n) : tb (midF n t k (List.range' 0 n)) a b = true ↔ tb t a b = true ∨ tb t a k = true ∧ tb t k b = true := by
  have h0 : Phase n k t t (fun _ _ => False) := ⟨ht, fun a b _ _ => by simp⟩
  have h := Phase.mid hk (List.range' 0 n) t _ (fun i hi => by rw [List.mem_range'_1] at hi; omega) h0
  rw [h.2 a b ha hb]
  have hm : a ∈ List.range' 0 n := by rw [List.mem_range'_1]; omega
  simp [hm]
/-- Steps through the jobs before k are closed. -/
def Tr (n k : Nat) (t : List (List Bool)) : Prop := ∀ m a b, m < k → a < n → b < n → tb t a m = true → tb t m b = true → tb t a b = true
theorem out_tr (n : Nat) : ∀ (d k : Nat) (t : List (List Bool)), k + d = n → Sq n t → Tr n k t → Tr n n (outF n t (List.range' k d)) ∧ Sq n (outF n t (List.range' k d)) := by
  intro d
  induction d with
  | zero => intro k t hk ht h; rw [show k = n by omega] at h; exact ⟨h, ht⟩
  | succ d ih =>
    intro k t hk ht h
    rw [List.range'_succ]
    refine ih (k + 1) (midF n t k (List.range' 0 n)) (by omega) (mid_sq ht k _ (fun i hi => by rw [List.mem_range'_1] at hi; omega)) ?_
    intro m a b hm ha hb h1 h2
    have hkn : k < n := by omega
    have hmn : m < n := by omega
    rw [mid_tb ht hkn a m ha hmn] at h1
    rw [mid_tb ht hkn m b hmn hb] at h2
    rw [mid_tb ht hkn a b ha hb]
    by_cases c : m = k
    · subst c
      exact Or.inr ⟨h1.elim id (fun x => x.1), h2.elim id (fun x => x.2)⟩
    · have hmk : m < k := by omega
      rcases h1 with h1 | ⟨h1, h1'⟩
      · rcases h2 with h2 | ⟨h2, h2'⟩
        · exact Or.inl (h m a b hmk ha hb h1 h2)
        · exact Or.inr ⟨h m a k hmk ha hkn h1 h2, h2'⟩
      · rcases h2 with h2 | ⟨h2, h2'⟩
        · exact Or.inr ⟨h1, h m k b hmk hkn hb h1' h2⟩
        · exact Or.inr ⟨h1, h2'⟩
theorem clos_tr (n : Nat) (es : List S71) (hin : inN n es) : ∀ a m b, a < n → m < n → b < n → tb (closT n es) a m = true → tb (closT n es) m b = true → tb (closT n es) a b = true := by
  have h0 : Sq n (edgeF (List.replicate n (List.replicate n false)) es) := edge_sq ⟨by simp, fun r hr => by rw [List.eq_of_mem_replicate hr]; simp⟩ es hin
  have h := (out_tr n n 0 _ (Nat.zero_add _) h0 (fun m a b hm => by omega)).1
  intro a m b ha hm hb h1 h2
  exact h m a b hm ha hb h1 h2
theorem acy_irr (n : Nat) (t : List (List Bool)) : ∀ (d i : Nat), acyF t i d = true → ∀ j, i ≤ j → j < i + d → tb t j j = false := by
  intro d
  induction d with
  | zero => intro i _ j h1 h2; omega
  | succ d ih =>
    intro i h j h1 h2
    unfold acyF at h
    rw [Bool.and_eq_true] at h
    by_cases e : j = i
    · subst e; simpa using h.1
    · exact ih (i + 1) h.2 j (by omega) (by omega)
/-- What a good precedence gives. -/
theorem good4_facts (n : Int) (es : List S71) (h : good4 n es = true) : ∃ m : Nat, n = m ∧ m ≤ 8 ∧ es.length ≤ 28 ∧ inN m es ∧ (∀ j, j < m → tb (closT m es) j j = false) := by
  unfold good4 at h
  rw [Bool.and_eq_true] at h
  obtain ⟨m, rfl, h1, h2, h3⟩ := okE_in n es h.1
  refine ⟨m, rfl, h1, h2, h3, fun j hj => ?_⟩
  have := h.2
  rw [Int.toNat_natCast] at this
  exact acy_irr m _ m 0 this j (by omega) (by omega)
/-- How many jobs come after a job, among those before a number. -/
def cntF (t : List (List Bool)) (j : Nat) : Nat → Nat
  | 0 => 0
  | d + 1 => cntF t j d + if tb t j d = true then 1 else 0
theorem cnt_le (t : List (List Bool)) (i j : Nat) : ∀ d : Nat, (∀ b, b < d → tb t i b = true → tb t j b = true) → cntF t i d ≤ cntF t j d := by
  intro d
  induction d with
  | zero => intro _; exact Nat.le_refl _
  | succ d ih =>
    intro h
    have h1 := ih (fun b hb => h b (by omega))
    unfold cntF
    by_cases c : tb t i d = true
    · rw [if_pos c, if_pos (h d (by omega) c)]; omega
    · rw [if_neg c]; omega
theorem cnt_lt (t : List (List Bool)) (i j : Nat) : ∀ d : Nat, (∀ b, b < d → tb t i b = true → tb t j b = true) → (∃ b, b < d ∧ tb t i b = false ∧ tb t j b = true) → cntF t i d < cntF t j d := by
  intro d
  induction d with
  | zero => rintro _ ⟨b, hb, _⟩; omega
  | succ d ih =>
    rintro h ⟨b, hb, h1, h2⟩
    unfold cntF
    by_cases e : b = d
    · subst e
      have := cnt_le t i j b (fun x hx => h x (by omega))
      rw [if_pos h2, if_neg (by rw [h1]; decide)]; omega
    · have := ih (fun x hx => h x (by omega)) ⟨b, by omega, h1, h2⟩
      by_cases c : tb t i d = true
      · rw [if_pos c, if_pos (h d (by omega) c)]; omega
      · rw [if_neg c]; omega
theorem cnt_bound (t : List (List Bool)) (j : Nat) : ∀ d : Nat, cntF t j d ≤ d := by
  intro d
  induction d with
  | zero => exact Nat.le_refl _
  | succ d ih => unfold cntF; split <;> omega
/-- Of two jobs in order the later one has fewer after it. -/
theorem cnt_desc (n : Nat) (es : List S71) (hin : inN n es) (hirr : ∀ j, j < n → tb (closT n es) j j = false) (j i : Nat) (hj : j < n) (hi : i < n) (h : tb (closT n es) j i = true) : cntF (closT n es) i n < cntF (closT n es) j n :=
  cnt_lt _ i j n (fun b hb hib => clos_tr n es hin j i b hj hi hb h hib) ⟨i, hi, hirr i hi, h⟩

def par7 (xs : List S79) (m : Int) (es : List S71) : Bool := plainB xs && ((decide (1 ≤ m) && decide (m ≤ 4)) && good4 (xs.length : Int) es)
theorem l7Good_ev (xs : List S79) (m : Int) (es : List S71) (hn : xs.length ≤ 1048576) (he : es.length ≤ 1048576) : Ev (fun k => spec_l7Good.f k xs m es) (par7 xs m es) := by
  have h1 := l2Good_ev xs (by omega)
  have h2 := l3Plain_ev xs (by omega)
  have h3 := l4Good_ev (xs.length : Int) es he
  unfold spec_l7Good.f par7 plainB
  simp only [l1In_eq, Option.bind_some]
  refine ev_bind h1 ?_
  cases goodB xs
  · simp only [Bool.false_eq_true, if_false, Bool.false_and]; exact ev_now _
  · simp only [if_true, Bool.true_and]
    refine ev_bind h2 ?_
    cases xs.all freeJ
    · simp only [Bool.false_eq_true, if_false, Bool.false_and]; exact ev_now _
    · simp only [if_true, Bool.true_and]
      cases (decide (1 ≤ m) && decide (m ≤ 4))
      · simp only [Bool.false_eq_true, if_false, Bool.false_and]; exact ev_now _
      · simp only [if_true, Bool.true_and]; exact ev_bind h3 (ev_now _)
theorem isParallel_ev (xs : List S79) (m : Int) (es : List S71) (hn : xs.length ≤ 1048576) : Ev (fun k => impl_isParallel.f k xs m es) (par7 xs m es) := by
  have h1 := IsPlain_ev xs (by omega)
  have h3 := isPrec_ev (xs.length : Int) es
  unfold impl_isParallel.f par7
  simp only [within_eq, Option.bind_some]
  refine ev_bind h1 ?_
  cases plainB xs
  · simp only [Bool.false_eq_true, if_false, Bool.false_and]; exact ev_now _
  · simp only [if_true, Bool.true_and]
    cases (decide (1 ≤ m) && decide (m ≤ 4))
    · simp only [Bool.false_eq_true, if_false, Bool.false_and]; exact ev_now _
    · simp only [if_true, Bool.true_and]; exact ev_bind h3 (ev_now _)
theorem par7_facts (xs : List S79) (m : Int) (es : List S71) (h : par7 xs m es = true) : goodB xs = true ∧ (1 ≤ m ∧ m ≤ 4) ∧ xs.length ≤ 8 ∧ es.length ≤ 28 ∧ inN xs.length es ∧ (∀ j, j < xs.length → tb (closT xs.length es) j j = false) := by
  unfold par7 at h
  simp only [Bool.and_eq_true, decide_eq_true_eq] at h
  obtain ⟨h1, h2, h3⟩ := h
  obtain ⟨n, e, a, b, c, d⟩ := good4_facts _ es h3
  have e' : xs.length = n := by omega
  subst e'
  exact ⟨plain_good h1, h2, a, b, c, d⟩

theorem shrN (c i : Nat) (h : i ≤ 64) : shr .i64 (c : Int) (i : Int) = ((c / 2 ^ i : Nat) : Int) := by
  unfold shr
  rw [Int.toNat_natCast, Nat.min_eq_left (show i ≤ IntKind.i64.bits from h)]
  rw [Int.natCast_ediv, Int.natCast_pow]
  rfl
theorem and1 : ∀ m : Nat, m < 256 → Go.bits .and .i64 (m : Int) 1 = ((m % 2 : Nat) : Int) := by decide +kernel
theorem shl1 : ∀ i : Nat, i < 9 → shl .i64 1 (i : Int) = ((2 ^ i : Nat) : Int) := by decide +kernel
theorem andn : ∀ c : Nat, c < 256 → ∀ i : Nat, i < 8 → c / 2 ^ i % 2 = 1 → Go.bits .andNot .i64 (c : Int) ((2 ^ i : Nat) : Int) = ((c - 2 ^ i : Nat) : Int) := by decide +kernel
theorem pow8 (n : Nat) (h : n ≤ 8) : 2 ^ n ≤ 256 := Nat.pow_le_pow_right (by omega) h
theorem shr_and (c i : Nat) (hc : c < 256) (hi : i ≤ 64) : Go.bits .and .i64 (shr .i64 (c : Int) (i : Int)) 1 = ((c / 2 ^ i % 2 : Nat) : Int) := by
  rw [shrN c i hi]
  exact and1 _ (Nat.lt_of_le_of_lt (Nat.div_le_self _ _) hc)
theorem mod1 {x : Nat} (h : x % 2 = 1) : ((x % 2 : Nat) : Int) = 1 := by rw [h]; rfl
theorem mod0 {x : Nat} (h : ¬ x % 2 = 1) : ((x % 2 : Nat) : Int) = 0 := by rw [show x % 2 = 0 by omega]; rfl
theorem mod1' {x : Nat} (h : x % 2 = 1) : ¬ ((x % 2 : Nat) : Int) = 0 := by rw [h]; decide
theorem mod0' {x : Nat} (h : ¬ x % 2 = 1) : ¬ ((x % 2 : Nat) : Int) = 1 := by rw [show x % 2 = 0 by omega]; decide
theorem bit_le (c i : Nat) (h : c / 2 ^ i % 2 = 1) : 2 ^ i ≤ c := by
  rcases Nat.lt_or_ge c (2 ^ i) with hl | hl
  · rw [Nat.div_eq_of_lt hl] at h; omega
  · exact hl
/-- The numbers of the bits of c, from i on. -/
def blF (c i : Nat) : Nat → List Int
  | 0 => []
  | d + 1 => if c / 2 ^ i % 2 = 1 then (i : Int) :: blF c (i + 1) d else blF c (i + 1) d
theorem blF_hit {c i : Nat} (h : c / 2 ^ i % 2 = 1) (d : Nat) : blF c i (d + 1) = (i : Int) :: blF c (i + 1) d := by rw [blF, if_pos h]
theorem blF_miss {c i : Nat} (h : ¬ c / 2 ^ i % 2 = 1) (d : Nat) : blF c i (d + 1) = blF c (i + 1) d := by rw [blF, if_neg h]
theorem wsub {c q : Nat} (h : q ≤ c) (hc : c ≤ 4611686018427387904) : wrap64 ((c : Int) - (q : Int)) = ((c - q : Nat) : Int) := by rw [w64 (by omega) (by omega)]; omega
theorem blF_nil (c : Nat) : ∀ d i : Nat, c / 2 ^ i = 0 → blF c i d = [] := by
  intro d
  induction d with
  | zero => intro i _; rfl
  | succ d ih =>
    intro i h
    unfold blF
    rw [if_neg (by omega)]
    refine ih (i + 1) ?_
    rw [Nat.pow_succ, ← Nat.div_div_eq_div_mul, h]
theorem blF_mem (c : Nat) : ∀ d i : Nat, ∀ x ∈ blF c i d, ∃ j : Nat, x = (j : Int) ∧ i ≤ j ∧ j < i + d ∧ c / 2 ^ j % 2 = 1 := by
  intro d
  induction d with
  | zero => intro i x hx; simp [blF] at hx
  | succ d ih =>
    intro i x hx
    unfold blF at hx
    split at hx
    · rcases List.mem_cons.mp hx with rfl | hx
      · exact ⟨i, rfl, by omega, by omega, by assumption⟩
      · obtain ⟨j, a, b, e, f⟩ := ih (i + 1) x hx
        exact ⟨j, a, by omega, by omega, f⟩
    · obtain ⟨j, a, b, e, f⟩ := ih (i + 1) x hx
      exact ⟨j, a, by omega, by omega, f⟩
theorem blF_len (c : Nat) : ∀ d i : Nat, (blF c i d).length ≤ d := by
  intro d
  induction d with
  | zero => intro i; exact Nat.le_refl _
  | succ d ih =>
    intro i
    unfold blF
    have := ih (i + 1)
    split
    · rw [List.length_cons]; omega
    · omega
theorem rdz (xs : List Int) (i : Nat) (h : i < xs.length) : rd xs (i : Int) = xs[i] := by
  unfold rd
  rw [Int.toNat_natCast, List.getD_eq_getElem?_getD, List.getElem?_eq_getElem h]
  rfl
theorem rd_left (a b : List Int) (i : Nat) (h : i < a.length) : rd (a ++ b) (i : Int) = rd a (i : Int) := by
  rw [rdz _ i (by rw [List.length_append]; omega), rdz a i h, List.getElem_append_left h]
theorem rd_mid (a b : List Int) (x : Int) (i : Nat) (h : i = a.length) : rd (a ++ x :: b) (i : Int) = x := by
  subst h
  rw [rdz _ _ (by rw [List.length_append, List.length_cons]; omega)]
  simp
theorem set_mid (a b : List Int) (x y : Int) (i : Nat) (h : i = a.length) : (a ++ x :: b).set i y = a ++ y :: b := by
  subst h
  simp

def lmost (a b : Int) : Int := if a > b then a else b
theorem l1Most_eq (a b : Int) : spec_l1Most.f a b = some (lmost a b) := by
  unfold spec_l1Most.f lmost
  split <;> rfl
theorem lmost_mx (a b : Int) : mx b a = lmost a b := by
  unfold lmost mx
  by_cases h : a > b
  · rw [if_pos h]
  · rw [if_neg h]
/-- The greatest of f over the jobs after j, from i on. -/
def mostF (t : List (List Bool)) (j : Nat) (f : Nat → Int) (i : Nat) (acc : Int) : Nat → Int
  | 0 => acc
  | d + 1 => mostF t j f (i + 1) (if tb t j i = true then lmost acc (f i) else acc) d
theorem most_ge (t : List (List Bool)) (j : Nat) (f : Nat → Int) : ∀ (d i : Nat) (acc : Int), acc ≤ mostF t j f i acc d ∧ ∀ q, i ≤ q → q < i + d → tb t j q = true → f q ≤ mostF t j f i acc d := by
  intro d
  induction d with
  | zero => intro i acc; exact ⟨Int.le_refl _, fun q h1 h2 => by omega⟩
  | succ d ih =>
    intro i acc
    unfold mostF
    obtain ⟨h1, h2⟩ := ih (i + 1) (if tb t j i = true then lmost acc (f i) else acc)
    have hacc : acc ≤ (if tb t j i = true then lmost acc (f i) else acc) := by
      unfold lmost
      repeat' split
      all_goals omega
    refine ⟨by omega, fun q hq hq' hb => ?_⟩
    by_cases e : q = i
    · subst e
      rw [if_pos hb] at h1 ⊢
      have : f q ≤ lmost acc (f q) := by unfold lmost; split <;> omega
      omega
    · exact h2 q (by omega) (by omega) hb
theorem most_le (t : List (List Bool)) (j : Nat) (f : Nat → Int) (B : Int) : ∀ (d i : Nat) (acc : Int), acc ≤ B → (∀ q, i ≤ q → q < i + d → tb t j q = true → f q ≤ B) → mostF t j f i acc d ≤ B := by
  intro d
  induction d with
  | zero => intro i acc h _; exact h
  | succ d ih =>
    intro i acc h hq
    refine ih (i + 1) _ ?_ (fun q h1 h2 h3 => hq q (by omega) (by omega) h3)
    unfold lmost
    by_cases c : tb t j i = true
    · have := hq i (by omega) (by omega) c
      rw [if_pos c]; split <;> omega
    · rw [if_neg c]; exact h
theorem most_congr (t : List (List Bool)) (j : Nat) (f g : Nat → Int) : ∀ (d i : Nat) (acc : Int), (∀ q, i ≤ q → q < i + d → tb t j q = true → f q = g q) → mostF t j f i acc d = mostF t j g i acc d := by
  intro d
  induction d with
  | zero => intro i acc _; rfl
  | succ d ih =>
    intro i acc h
    unfold mostF
    by_cases c : tb t j i = true
    · rw [if_pos c, if_pos c, h i (by omega) (by omega) c]
      exact ih (i + 1) _ (fun q h1 h2 h3 => h q (by omega) (by omega) h3)
    · rw [if_neg c, if_neg c]
      exact ih (i + 1) _ (fun q h1 h2 h3 => h q (by omega) (by omega) h3)
def timeF (xs : List S79) (j : Nat) : Int := (rd_T79 xs (j : Int)).f0
theorem time_ok {xs : List S79} (hg : goodB xs = true) (j : Nat) (hj : j < xs.length) : 1 ≤ timeF xs j ∧ timeF xs j ≤ 50 := by
  unfold timeF
  rw [rdI xs j hj]
  have := good_at hg j hj
  omega
def tailV (xs : List S79) (t : List (List Bool)) : Nat → Nat → Int
  | 0, _ => 0
  | d + 1, j => timeF xs j + mostF t j (tailV xs t d) 0 0 xs.length
/-- What the law of tails needs of a table. -/
structure Tab (xs : List S79) (t : List (List Bool)) : Prop where
  good : goodB xs = true
  len : xs.length ≤ 8
  sq : Sq xs.length t
  irr : ∀ j, j < xs.length → tb t j j = false
  desc : ∀ j i, j < xs.length → i < xs.length → tb t j i = true → cntF t i xs.length < cntF t j xs.length
theorem tab_of (xs : List S79) (m : Int) (es : List S71) (h : par7 xs m es = true) : Tab xs (closT xs.length es) := by
  obtain ⟨h1, _, h2, h3, h4, h5⟩ := par7_facts xs m es h
  exact ⟨h1, h2, clos_sq _ es h4, h5, fun j i hj hi hb => cnt_desc _ es h4 h5 j i hj hi hb⟩
theorem tail_bound {xs : List S79} {t : List (List Bool)} (T : Tab xs t) : ∀ (d j : Nat), j < xs.length → 0 ≤ tailV xs t d j ∧ tailV xs t d j ≤ 50 * d := by
  intro d
  induction d with
  | zero => intro j _; exact ⟨Int.le_refl _, by simp [tailV]⟩
  | succ d ih =>
    intro j hj
    unfold tailV
    have h1 := time_ok T.good j hj
    have h2 := (most_ge t j (tailV xs t d) xs.length 0 0).1
    have h3 := most_le t j (tailV xs t d) (50 * d) xs.length 0 0 (by omega) (fun q _ hq _ => (ih q (by omega)).2)
    constructor
    · omega
    · push_cast; omega
theorem tail_stable {xs : List S79} {t : List (List Bool)} (T : Tab xs t) : ∀ (d e j : Nat), j < xs.length → cntF t j xs.length < d → cntF t j xs.length < e → tailV xs t d j = tailV xs t e j := by
  intro d
  induction d with
  | zero => intro e j _ h; omega
  | succ d ih =>
    intro e j hj h1 h2
    match e, h2 with
    | e + 1, h2 =>
      unfold tailV
      rw [most_congr t j (tailV xs t d) (tailV xs t e) xs.length 0 0 (fun q _ hq hb => by
        have := T.desc j q hj (by omega) hb
        exact ih e q (by omega) (by omega) (by omega))]
/-- The tail of a job. -/
def tl (xs : List S79) (t : List (List Bool)) (j : Nat) : Int := tailV xs t (xs.length + 1) j
theorem tl_eq {xs : List S79} {t : List (List Bool)} (T : Tab xs t) (j : Nat) (hj : j < xs.length) : tl xs t j = timeF xs j + mostF t j (tl xs t) 0 0 xs.length := by
  have h := most_congr t j (tailV xs t xs.length) (tl xs t) xs.length 0 0 (fun q _ hq hb => by
    have h1 := T.desc j q hj (by omega) hb
    have h2 := cnt_bound t j xs.length
    exact tail_stable T _ _ q (by omega) (by omega) (by omega))
  show timeF xs j + mostF t j (tailV xs t xs.length) 0 0 xs.length = _
  rw [h]
theorem tl_bound {xs : List S79} {t : List (List Bool)} (T : Tab xs t) (j : Nat) (hj : j < xs.length) : 0 ≤ tl xs t j ∧ tl xs t j ≤ 450 := by
  have := tail_bound T (xs.length + 1) j hj
  have h8 := T.len
  unfold tl
  constructor
  · exact this.1
  · have := this.2; push_cast at this; omega
theorem l7Tail_ev {xs : List S79} {t : List (List Bool)} (T : Tab xs t) : ∀ (c j : Nat), j < xs.length → cntF t j xs.length < c → Ev (fun k => spec_l7Tail.f k xs t (j : Int)) (tl xs t j) := by
  intro c
  have hl := T.len
  have hsq := T.sq
  induction c with
  | zero => intro j _ h; omega
  | succ c ihc =>
    intro j hj hc
    have hB := tl_bound T
    have key : ∀ (d i : Nat) (acc : Int), i + d = xs.length → 0 ≤ acc → acc ≤ 450 → Ev (fun k => spec_l7Tail.l0 k xs t (j : Int) acc (i : Int)) (timeF xs j + mostF t j (tl xs t) i acc d) := by
      intro d
      induction d with
      | zero =>
        intro i acc hi h0 h1
        have ht := time_ok T.good j hj
        refine ev_succ ?_
        simp only [spec_l7Tail.l0, if_neg (show ¬ (i : Int) < (xs.length : Int) by omega), if_pos (show (0 : Int) ≤ (j : Int) by omega), if_pos (show (j : Int) < (xs.length : Int) by omega), mostF]
        rw [show (rd_T79 xs (j : Int)).f0 = timeF xs j from rfl, w64 (by omega) (by omega)]
        exact ev_now _
      | succ d ih =>
        intro i acc hi h0 h1
        refine ev_succ ?_
        have hr : (rd_L5 t (j : Int)).length = xs.length := by rw [rdBB t j (by rw [hsq.1]; exact hj)]; exact hsq.row j hj
        have hlen := hsq.1
        simp only [spec_l7Tail.l0, if_pos (show (i : Int) < (xs.length : Int) by omega), if_pos (show (0 : Int) ≤ (j : Int) by omega), if_pos (show (j : Int) < (t.length : Int) by omega), if_pos (show (0 : Int) ≤ (i : Int) by omega), if_pos (show (i : Int) < ((rd_L5 t (j : Int)).length : Int) by omega), rdTT hsq j i hj (by omega), l1Most_eq, wsucc i (by omega), mostF]
        by_cases hb : tb t j i = true
        · have hbi := hB i (by omega)
          have hd := T.desc j i hj (by omega) hb
          simp only [if_pos hb]
          refine ev_bind (ihc i (by omega) (by omega)) ?_
          simp only [Option.bind_some]
          refine ih (i + 1) _ (by omega) ?_ ?_ <;> (unfold lmost; split <;> omega)
        · simp only [if_neg hb]
          exact ih (i + 1) acc (by omega) h0 h1
    refine ev_succ ?_
    simp only [spec_l7Tail.f]
    rw [tl_eq T j hj]
    exact key xs.length 0 0 (Nat.zero_add _) (by omega) (by omega)
def tlist (xs : List S79) (t : List (List Bool)) (i d : Nat) : List Int := (List.range' i d).map (tl xs t)
theorem l7Tails_ev {xs : List S79} (es : List S71) (he : es.length ≤ 1048576) (hin : inN xs.length es) (T : Tab xs (closT xs.length es)) : Ev (fun k => spec_l7Tails.f k xs es) (tlist xs (closT xs.length es) 0 xs.length) := by
  have hl := T.len
  have key : ∀ (d i : Nat) (acc : List Int), i + d = xs.length → acc.length ≤ i → Ev (fun k => spec_l7Tails.l0 k xs acc (closT xs.length es) (i : Int)) (acc ++ tlist xs (closT xs.length es) i d) := by
    intro d
    induction d with
    | zero =>
      intro i acc hi ha
      refine ev_succ ?_
      simp only [spec_l7Tails.l0, if_neg (show ¬ (i : Int) < (xs.length : Int) by omega), tlist, List.range'_zero, List.map_nil, List.append_nil]
      exact ev_now _
    | succ d ih =>
      intro i acc hi ha
      refine ev_succ ?_
      simp only [spec_l7Tails.l0, if_pos (show (i : Int) < (xs.length : Int) by omega)]
      have hb := cnt_bound (closT xs.length es) i xs.length
      refine ev_bind (l7Tail_ev T (xs.length + 1) i (by omega) (by omega)) ?_
      have h := ih (i + 1) (acc ++ [tl xs (closT xs.length es) i]) (by omega) (by rw [List.length_append, List.length_singleton]; omega)
      rw [List.append_assoc] at h
      simp only [if_pos (show acc.length < 17592186044416 by omega), wsucc i (by omega)]
      unfold tlist at h ⊢
      rw [List.range'_succ, List.map_cons]
      exact h
  unfold spec_l7Tails.f
  exact ev_bind (l4Table_ev _ hl es he hin) (key xs.length 0 [] (Nat.zero_add _) (by simp))
theorem rd_set (xs : List Int) (i j : Nat) (v : Int) (hi : i < xs.length) : rd (xs.set i v) (j : Int) = if j = i then v else rd xs (j : Int) := by
  unfold rd
  rw [Int.toNat_natCast, List.getD_eq_getElem?_getD, List.getD_eq_getElem?_getD]
  by_cases h : j = i
  · subst h; rw [if_pos rfl, List.getElem?_set_self hi]; rfl
  · rw [if_neg h, List.getElem?_set_ne (fun x => h x.symm)]
theorem cnt_strict (t : List (List Bool)) (j : Nat) : ∀ d : Nat, (∃ b, b < d ∧ tb t j b = false) → cntF t j d < d := by
  intro d
  induction d with
  | zero => rintro ⟨b, hb, _⟩; omega
  | succ d ih =>
    rintro ⟨b, hb, h⟩
    unfold cntF
    by_cases e : b = d
    · subst e
      have := cnt_bound t j b
      rw [if_neg (by rw [h]; decide)]; omega
    · have := ih ⟨b, by omega, h⟩
      split <;> omega
/-- What holds of the tails so far, in the round r, when the jobs before p are done. -/
structure TI (xs : List S79) (t : List (List Bool)) (r p : Nat) (v : List Int) : Prop where
  len : v.length = xs.length
  up : ∀ j, j < xs.length → 0 ≤ rd v (j : Int) ∧ rd v (j : Int) ≤ tl xs t j
  low : ∀ j, j < xs.length → (cntF t j xs.length < r ∨ j < p ∧ cntF t j xs.length < r + 1) → rd v (j : Int) = tl xs t j
theorem TI.set {xs : List S79} {t : List (List Bool)} {r p : Nat} {v : List Int} (h : TI xs t r p v) (q : Nat) (hq : q < xs.length) (x : Int) (h1 : rd v (q : Int) ≤ x) (h2 : x ≤ tl xs t q) : TI xs t r p (v.set q x) := by
  have hl := h.len
  refine ⟨by rw [List.length_set]; exact hl, fun j hj => ?_, fun j hj hc => ?_⟩
  · rw [rd_set v q j x (by omega)]
    have := h.up j hj
    split
    · next e => subst e; omega
    · exact this
  · rw [rd_set v q j x (by omega)]
    have := h.low j hj hc
    split
    · next e => subst e; omega
    · exact this
theorem mx_le {a b c : Int} (h1 : a ≤ c) (h2 : b ≤ c) : mx a b ≤ c := by unfold mx; split <;> assumption
theorem le_mx1 (a b : Int) : a ≤ mx a b := by unfold mx; split <;> omega
theorem le_mx2 (a b : Int) : b ≤ mx a b := by unfold mx; split <;> omega
theorem tailsOf_l2 {xs : List S79} {t : List (List Bool)} (T : Tab xs t) (r p : Nat) (hr : r ≤ 8) (hp : p < xs.length) (f1 f2 f3 : Int) (R : List Int)
    (hnext : ∀ v, TI xs t r (p + 1) v → Ev (fun k => impl_tailsOf.l1 k xs t v (xs.length : Int) (r : Int) xs (xs.length : Int) ((p + 1 : Nat) : Int)) R) :
    ∀ (d i : Nat) (v : List Int), i + d = xs.length → TI xs t r p v → timeF xs p ≤ rd v (p : Int) → (cntF t p xs.length < r + 1 → ∀ q, q < i → tb t p q = true → timeF xs p + tl xs t q ≤ rd v (p : Int)) →
      Ev (fun k => impl_tailsOf.l2 k xs t v (p : Int) (xs.length : Int) (r : Int) xs (xs.length : Int) (p : Int) (xs.length : Int) (i : Int) (timeF xs p) f1 f2 f3) R := by
  have hl8 := T.len
  have hsq := T.sq
  intro d
  induction d with
  | zero =>
    intro i v hi h hlo hq
    refine ev_succ ?_
    simp only [impl_tailsOf.l2, if_neg (show ¬ (i : Int) < (xs.length : Int) by omega), wsucc p (by omega)]
    refine hnext v ⟨h.len, h.up, fun j hj hc => ?_⟩
    by_cases e : j = p
    · subst e
      rcases hc with hc | ⟨_, hc⟩
      · exact h.low j hj (Or.inl hc)
      · have h1 := h.up j hj
        have h2 := most_le t j (tl xs t) (rd v (j : Int) - timeF xs j) xs.length 0 0 (by omega) (fun q _ hq' hb => by
          have := hq hc q (by omega) hb
          omega)
        have h3 := tl_eq T j hj
        omega
    · exact h.low j hj (hc.imp id (fun x => ⟨by omega, x.2⟩))
  | succ d ih =>
    intro i v hi h hlo hq
    refine ev_succ ?_
    have hr' : (rd_L5 t (p : Int)).length = xs.length := by rw [rdBB t p (by rw [hsq.1]; exact hp)]; exact hsq.row p hp
    have hlen := hsq.1
    have hv := h.len
    simp only [impl_tailsOf.l2, if_pos (show (i : Int) < (xs.length : Int) by omega), if_pos (show (0 : Int) ≤ (p : Int) by omega), if_pos (show (p : Int) < (t.length : Int) by omega), if_pos (show (0 : Int) ≤ (i : Int) by omega), if_pos (show (i : Int) < ((rd_L5 t (p : Int)).length : Int) by omega), rdTT hsq p i hp (by omega), if_pos (show (p : Int) < (v.length : Int) by omega), if_pos (show (i : Int) < (v.length : Int) by omega), wsucc i (by omega), Int.toNat_natCast]
    by_cases hb : tb t p i = true
    · have hui := h.up i (by omega)
      have hup := h.up p hp
      have hB := tl_bound T i (by omega)
      have ht := time_ok T.good p hp
      have hge := (most_ge t p (tl xs t) xs.length 0 0).2 i (by omega) (by omega) hb
      have heq := tl_eq T p hp
      have hd := T.desc p i hp (by omega) hb
      have hip : i ≠ p := by rintro rfl; rw [T.irr i hp] at hb; cases hb
      simp only [if_pos hb, w64 (x := timeF xs p + rd v (i : Int)) (by omega) (by omega)]
      have h1 := le_mx1 (rd v (p : Int)) (timeF xs p + rd v (i : Int))
      have h2 := le_mx2 (rd v (p : Int)) (timeF xs p + rd v (i : Int))
      refine ih (i + 1) _ (by omega) (h.set p hp _ h1 (mx_le (by omega) (by omega))) ?_ ?_
      · rw [rd_set v p p _ (by omega), if_pos rfl]; omega
      · intro hc q hqi hbq
        rw [rd_set v p p _ (by omega), if_pos rfl]
        by_cases e : q = i
        · subst e
          have := h.low q (by omega) (Or.inl (by omega))
          omega
        · have := hq hc q (by omega) hbq
          omega
    · simp only [if_neg hb]
      refine ih (i + 1) v (by omega) h hlo (fun hc q hqi hbq => ?_)
      by_cases e : q = i
      · subst e; exact absurd hbq hb
      · exact hq hc q (by omega) hbq
theorem tailsOf_l1 {xs : List S79} {t : List (List Bool)} (T : Tab xs t) (r : Nat) (hr : r < xs.length) (R : List Int)
    (hnext : ∀ v, TI xs t (r + 1) 0 v → Ev (fun k => impl_tailsOf.l0 k xs t v (xs.length : Int) ((r + 1 : Nat) : Int)) R) :
    ∀ (d p : Nat) (v : List Int), p + d = xs.length → TI xs t r p v → Ev (fun k => impl_tailsOf.l1 k xs t v (xs.length : Int) (r : Int) xs (xs.length : Int) (p : Int)) R := by
  have hl8 := T.len
  intro d
  induction d with
  | zero =>
    intro p v hp h
    refine ev_succ ?_
    simp only [impl_tailsOf.l1, if_neg (show ¬ (p : Int) < (xs.length : Int) by omega), wsucc r (by omega)]
    exact hnext v ⟨h.len, h.up, fun j hj hc => h.low j hj (Or.inr ⟨by omega, by rcases hc with hc | ⟨hc, _⟩ <;> omega⟩)⟩
  | succ d ih =>
    intro p v hp h
    have hpl : p < xs.length := by omega
    refine ev_succ ?_
    have hv := h.len
    have ht := time_ok T.good p hpl
    have hup := h.up p hpl
    have heq := tl_eq T p hpl
    have hge := (most_ge t p (tl xs t) xs.length 0 0).1
    simp only [impl_tailsOf.l1, if_pos (show (p : Int) < (xs.length : Int) by omega), if_pos (show (0 : Int) ≤ (p : Int) by omega), if_pos (show (p : Int) < (v.length : Int) by omega), Int.toNat_natCast]
    have h1 := le_mx1 (rd v (p : Int)) (timeF xs p)
    have h2 := le_mx2 (rd v (p : Int)) (timeF xs p)
    refine tailsOf_l2 T r p (by omega) hpl _ _ _ R (fun v h => ih (p + 1) v (by omega) h) xs.length 0 _ (Nat.zero_add _) (h.set p hpl _ h1 (mx_le (by omega) (by show timeF xs p ≤ _; omega))) ?_ (fun _ q hq => by omega)
    rw [rd_set v p p _ (by omega), if_pos rfl]
    exact h2
theorem tailsOf_ev {xs : List S79} (es : List S71) (he : es.length ≤ 1048576) (hin : inN xs.length es) (T : Tab xs (closT xs.length es)) : Ev (fun k => impl_tailsOf.f k xs es) (tlist xs (closT xs.length es) 0 xs.length) := by
  have hl := T.len
  have key : ∀ (d r : Nat) (v : List Int), r + d = xs.length → TI xs (closT xs.length es) r 0 v → Ev (fun k => impl_tailsOf.l0 k xs (closT xs.length es) v (xs.length : Int) (r : Int)) (tlist xs (closT xs.length es) 0 xs.length) := by
    intro d
    induction d with
    | zero =>
      intro r v hr h
      refine ev_succ ?_
      simp only [impl_tailsOf.l0, if_neg (show ¬ (r : Int) < (xs.length : Int) by omega)]
      have e : v = tlist xs (closT xs.length es) 0 xs.length := by
        have hv := h.len
        refine List.ext_getElem (by rw [hv]; simp [tlist]) (fun j h1 h2 => ?_)
        have := h.low j (by omega) (Or.inl (by have := cnt_strict (closT xs.length es) j xs.length ⟨j, by omega, T.irr j (by omega)⟩; omega))
        rw [rdz v j h1] at this
        rw [this]
        simp [tlist]
      rw [e]
      exact ev_now _
    | succ d ih =>
      intro r v hr h
      refine ev_succ ?_
      simp only [impl_tailsOf.l0, if_pos (show (r : Int) < (xs.length : Int) by omega)]
      exact tailsOf_l1 T r (by omega) _ (fun v h => ih (r + 1) v (by omega) h) xs.length 0 v (Nat.zero_add _) h
  unfold impl_tailsOf.f
  refine ev_bind (closure_ev _ hl es he hin) ?_
  simp only [if_pos (show (0 : Int) ≤ (xs.length : Int) by omega), Int.toNat_natCast, if_pos (show xs.length ≤ 35184372088832 by omega)]
  refine key xs.length 0 _ (Nat.zero_add _) ⟨by simp, fun j hj => ?_, fun j hj hc => by rcases hc with hc | ⟨hc, _⟩ <;> omega⟩
  have : rd (List.replicate xs.length 0) (j : Int) = 0 := by rw [rdz _ j (by simpa using hj)]; simp
  rw [this]
  exact ⟨Int.le_refl _, (tl_bound T j hj).1⟩

/-- The sum of the times of jobs. -/
def timesL : List S79 → Int
  | [] => 0
  | x :: t => x.f0 + timesL t
theorem totalOf_l (xs : List S79) (hg : goodB xs = true) : ∀ (d i : Nat) (acc : Int), i + d = xs.length → 0 ≤ acc → acc ≤ 50 * i → Ev (fun k => impl_totalOf.l0 k acc xs (xs.length : Int) (i : Int)) (acc + timesL (xs.drop i)) := by
  have hl := good_len hg
  intro d
  induction d with
  | zero =>
    intro i acc hi h0 h1
    refine ev_succ ?_
    simp only [impl_totalOf.l0, if_neg (show ¬ (i : Int) < (xs.length : Int) by omega), List.drop_of_length_le (show xs.length ≤ i by omega), timesL, Int.add_zero]
    exact ev_now _
  | succ d ih =>
    intro i acc hi h0 h1
    have hx : i < xs.length := by omega
    have hb := good_at hg i hx
    have := ih (i + 1) (acc + xs[i].f0) (by omega) (by omega) (by omega)
    refine ev_succ ?_
    rw [List.drop_eq_getElem_cons hx, timesL, ← Int.add_assoc]
    simp only [impl_totalOf.l0, if_pos (show (i : Int) < (xs.length : Int) by omega), if_pos (show (0 : Int) ≤ (i : Int) by omega), rdI xs i hx, wsucc i (by omega), w64 (x := acc + xs[i].f0) (by omega) (by omega)]
    exact this
theorem totalOf_ev (xs : List S79) (hg : goodB xs = true) : Ev (fun k => impl_totalOf.f k xs) (timesL xs) := by
  have := totalOf_l xs hg xs.length 0 0 (by omega) (by omega) (by omega)
  unfold impl_totalOf.f
  simpa using this

theorem l2Times_l (xs : List S79) (hg : goodB xs = true) : ∀ (d i : Nat) (acc : Int), i + d = xs.length → 0 ≤ acc → acc ≤ 50 * i → Ev (fun k => spec_l2Times.l0 k xs acc (i : Int)) (acc + timesL (xs.drop i)) := by
  have hl := good_len hg
  intro d
  induction d with
  | zero =>
    intro i acc hi h0 h1
    refine ev_succ ?_
    simp only [spec_l2Times.l0, if_neg (show ¬ (i : Int) < (xs.length : Int) by omega), List.drop_of_length_le (show xs.length ≤ i by omega), timesL, Int.add_zero]
    exact ev_now _
  | succ d ih =>
    intro i acc hi h0 h1
    have hx : i < xs.length := by omega
    have hb := good_at hg i hx
    have := ih (i + 1) (acc + xs[i].f0) (by omega) (by omega) (by omega)
    refine ev_succ ?_
    rw [List.drop_eq_getElem_cons hx, timesL, ← Int.add_assoc]
    simp only [spec_l2Times.l0, if_pos (show (i : Int) < (xs.length : Int) by omega), if_pos (show (0 : Int) ≤ (i : Int) by omega), rdI xs i hx, wsucc i (by omega), w64 (x := acc + xs[i].f0) (by omega) (by omega)]
    exact this
theorem l2Times_ev (xs : List S79) (hg : goodB xs = true) : Ev (fun k => spec_l2Times.f k xs) (timesL xs) := by
  have := l2Times_l xs hg xs.length 0 0 (by omega) (by omega) (by omega)
  unfold spec_l2Times.f
  simpa using this

theorem mx_lmost (a b : Int) : mx a b = lmost a b := by
  unfold lmost mx
  by_cases h : a < b
  · rw [if_pos h, if_neg (by omega)]
  · rw [if_neg h]; split <;> omega
def lastL (acc : Int) (ls : List Int) : Int := ls.foldl lmost acc
theorem l2Last_ev (ls : List Int) (hn : ls.length ≤ 1048576) : Ev (fun k => spec_l2Last.f k ls) (lastL 0 ls) := by
  have key : ∀ (d i : Nat) (acc : Int), i + d = ls.length → Ev (fun k => spec_l2Last.l0 k ls acc (i : Int)) (lastL acc (ls.drop i)) := by
    intro d
    induction d with
    | zero =>
      intro i acc hi
      refine ev_succ ?_
      simp only [spec_l2Last.l0, if_neg (show ¬ (i : Int) < (ls.length : Int) by omega), List.drop_of_length_le (show ls.length ≤ i by omega)]
      exact ev_now _
    | succ d ih =>
      intro i acc hi
      refine ev_succ ?_
      have hx : i < ls.length := by omega
      rw [List.drop_eq_getElem_cons hx]
      simp only [spec_l2Last.l0, if_pos (show (i : Int) < (ls.length : Int) by omega), if_pos (show (0 : Int) ≤ (i : Int) by omega), rdz ls i hx, l1Most_eq, Option.bind_some, wsucc i (by omega)]
      exact ih (i + 1) _ (by omega)
  unfold spec_l2Last.f
  exact key ls.length 0 0 (Nat.zero_add _)
theorem greatestOf_ev (ls : List Int) (hn : ls.length ≤ 1048576) : Ev (fun k => impl_greatestOf.f k ls) (lastL 0 ls) := by
  have key : ∀ (d i : Nat) (acc : Int), i + d = ls.length → Ev (fun k => impl_greatestOf.l0 k acc ls (ls.length : Int) (i : Int)) (lastL acc (ls.drop i)) := by
    intro d
    induction d with
    | zero =>
      intro i acc hi
      refine ev_succ ?_
      simp only [impl_greatestOf.l0, if_neg (show ¬ (i : Int) < (ls.length : Int) by omega), List.drop_of_length_le (show ls.length ≤ i by omega)]
      exact ev_now _
    | succ d ih =>
      intro i acc hi
      refine ev_succ ?_
      have hx : i < ls.length := by omega
      rw [List.drop_eq_getElem_cons hx]
      simp only [impl_greatestOf.l0, if_pos (show (i : Int) < (ls.length : Int) by omega), if_pos (show (0 : Int) ≤ (i : Int) by omega), rdz ls i hx, mx_lmost, wsucc i (by omega)]
      exact ih (i + 1) _ (by omega)
  unfold impl_greatestOf.f
  exact key ls.length 0 0 (Nat.zero_add _)
theorem times_bound : ∀ xs : List S79, (∀ x ∈ xs, 1 ≤ x.f0 ∧ x.f0 ≤ 50) → 0 ≤ timesL xs ∧ timesL xs ≤ 50 * xs.length := by
  intro xs
  induction xs with
  | nil => intro _; simp [timesL]
  | cons x xs ih =>
    intro h
    have h1 := h x (by simp)
    have h2 := ih (fun y hy => h y (by simp [hy]))
    unfold timesL
    rw [List.length_cons]
    push_cast
    omega
theorem ceil_eq : ∀ m : Nat, m < 5 → 0 < m → ∀ t : Nat, t < 401 → impl_ceilDiv.f (t : Int) (m : Int) = some (wrap64 (Int.tdiv (wrap64 ((wrap64 ((t : Int) + (m : Int))) - 1)) (m : Int))) := by decide +kernel
theorem core (l : List S79) (m : Int) (es : List S71) (hm : l.length ≤ 1048576) (_ : ∀ (i : Nat) (hi : i < l.length), I64 l[i].f0 ∧ I64 l[i].f1 ∧ I64 l[i].f2 ∧ I64 l[i].f3) (_ : I64 m) (he : es.length ≤ 1048576) :
    ∃ (r : Int) (ok : Bool), True ∧ Ev (fun k => spec_LengthBound.f k l m es) (r, ok) ∧ Ev (fun k => impl_LengthBound.f k l m es) (r, ok) := by
  have h1 := l7Good_ev l m es hm he
  have h2 := isParallel_ev l m es hm
  unfold spec_LengthBound.f impl_LengthBound.f spec_l7Bound.f impl_lengthBound.f
  cases hp : par7 l m es
  · rw [hp] at h1 h2
    exact ⟨0, false, trivial, ev_bind h1 (by simp only [Bool.false_eq_true, if_false]; exact ev_now _), ev_bind h2 (by simp only [Bool.false_eq_true, if_false]; exact ev_now _)⟩
  rw [hp] at h1 h2
  have T := tab_of l m es hp
  obtain ⟨hg, hm4, _, _, hin, _⟩ := par7_facts l m es hp
  have hl := T.len
  have htl : (tlist l (closT l.length es) 0 l.length).length ≤ 1048576 := by simp [tlist]; omega
  have hb := times_bound l (fun x hx => by
    obtain ⟨j, hj, rfl⟩ := List.mem_iff_getElem.mp hx
    have := good_at hg j hj
    omega)
  obtain ⟨t, ht⟩ := Int.eq_ofNat_of_zero_le hb.1
  obtain ⟨q, rfl⟩ := Int.eq_ofNat_of_zero_le (show 0 ≤ m by omega)
  have hc := ceil_eq q (by omega) (by omega) t (by omega)
  refine ⟨lmost (lastL 0 (tlist l (closT l.length es) 0 l.length)) (wrap64 (Int.tdiv (wrap64 ((wrap64 ((t : Int) + (q : Int))) - 1)) (q : Int))), true, trivial, ev_bind h1 ?_, ev_bind h2 ?_⟩
  · simp only [if_true]
    refine ev_bind (ev_bind (l7Tails_ev es he hin T) (ev_bind (l2Last_ev _ htl) (ev_bind (l2Times_ev l hg) ?_))) (ev_now _)
    rw [ht]
    simp only [if_neg (show ¬ (q : Int) = 0 by omega), l1Most_eq, Option.bind_some]
    exact ev_now _
  · simp only [if_true]
    refine ev_bind (ev_bind (tailsOf_ev es he hin T) (ev_bind (greatestOf_ev _ htl) (ev_bind (totalOf_ev l hg) ?_))) (ev_now _)
    rw [ht]
    simp only [hc, Option.bind_some, mx_lmost]
    exact ev_now _

theorem FnExactLengthBound : FnExactLengthBound.Claim := by
  intro l0 a1 l2 hl0 hg0 hi1 hl2 hg2
  refine Ev.rounds ?_
  unfold laws_FnExactLengthBound.f
  simp only [szJobS_eq l0 (1048576 : Int) (by omega) (by omega) hl0, Option.bind_some]
  by_cases h0 : (1048576 : Int) < l0.length
  · simp only [if_pos h0, if_pos (show (-1 : Int) < 0 by omega)]
    exact ev_now _
  simp only [if_neg h0, if_neg (show ¬ (((1048576 : Int) - l0.length) < 0) by omega)]
  simp only [szIntA2S_eq l2 ((1048576 : Int) - l0.length) (by omega) (by omega) hl2, Option.bind_some]
  by_cases h2 : ((1048576 : Int) - l0.length) < l2.length
  · simp only [if_pos h2, if_pos (show (-1 : Int) < 0 by omega)]
    exact ev_now _
  simp only [if_neg h2, if_neg (show ¬ ((((1048576 : Int) - l0.length) - l2.length) < 0) by omega)]
  have ht0 := toJobS_ev l0 (by omega)
  have hm0 : (l0.map conv).length ≤ 1048576 := by simp; omega
  have hq0 := eqJobS_ev (l0.map conv) (by omega)
  have ht2 := toIntA2S_ev l2 (by omega)
  have hm2 : l2.length ≤ 1048576 := by omega
  have hq2 := eqIntA2S_ev l2 (by omega)
  obtain ⟨r0, r1, _, hs, hi⟩ := core (l0.map conv) a1 l2 hm0 (conv_I64 l0 hg0) hi1 hm2
  repeat first
    | exact ev_now _
    | with_reducible refine ev_bind hs ?_
    | with_reducible refine ev_bind hi ?_
    | with_reducible refine ev_bind ht0 ?_
    | with_reducible refine ev_bind hq0 ?_
    | with_reducible refine ev_bind ht2 ?_
    | with_reducible refine ev_bind hq2 ?_
    | simp only [if_true, if_false, bne_self_eq_false, Bool.false_eq_true]
    | (refine ev_succ ?_; simp only [laws_FnExactLengthBound.j0])

end Go.Proofs.Ytecdigebnhlfhaa.Pure
