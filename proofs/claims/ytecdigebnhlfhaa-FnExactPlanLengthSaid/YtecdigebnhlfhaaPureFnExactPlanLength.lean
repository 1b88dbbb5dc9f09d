/- The program's function and the reference's come to the same answer: the statement of numbers and lists behind the law FnExactPlanLength. Conditions: none. -/
import Derived.Test.YtecdigebnhlfhaaArgFnExactPlanLength
import Derived.Test.YtecdigebnhlfhaaBase
namespace Go.Proofs.Ytecdigebnhlfhaa.Pure
open Go.RowKit Go.Proofs.Ytecdigebnhlfhaa.OFnExactPlanLength Go.Proofs.Ytecdigebnhlfhaa.Base Go.Proofs.YtecdigebnhlfhaaW.PrintWords Go.Proofs.YtecdigebnhlfhaaW.PrintLast Go.Proofs.YtecdigebnhlfhaaW.PrintMore Go.Proofs.Ytecdigebnhlfhaa.Open
set_option linter.unusedVariables false
set_option linter.unusedSimpArgs false

theorem szJobS_eq (xs : List S83) (left : Int) (h0 : 0 ≤ left) (h1 : left ≤ 1048576) (h : xs.length ≤ 9223372036854775807) : laws_szJobS.f xs left = some (if left < xs.length then -1 else left - xs.length) := by
  unfold laws_szJobS.f
  rw [w64 (by omega) (by omega)]
  by_cases c : left < xs.length
  · rw [if_pos (by omega), if_pos c]
  · rw [if_neg (by omega), if_neg c]

def conv (x : S83) : S79 := ⟨x.f0, x.f1, x.f2, x.f3⟩
theorem rdL (xs : List S83) (i : Nat) (h : i < xs.length) : rd_T83 xs (i : Int) = xs[i] := by
  unfold rd_T83
  rw [Int.toNat_natCast, List.getD_eq_getElem?_getD, List.getElem?_eq_getElem h]
  rfl

theorem toJobS_l (xs : List S83) (hn : xs.length ≤ 8796093022208) : ∀ (d i : Nat) (ys : List S79), i + d = xs.length → ys.length = xs.length → ys.take i = (xs.map conv).take i → Ev (fun k => laws_toJobS.l0 k xs ys (i : Int)) (xs.map conv) := by
  intro d
  induction d with
  | zero =>
    intro i ys hi hl ht
    refine ev_succ ?_
    simp only [laws_toJobS.l0, if_neg (show ¬ (i : Int) < (xs.length : Int) by omega)]
    have : ys = xs.map conv := by
      rw [List.take_of_length_le (by omega), List.take_of_length_le (by simp; omega)] at ht
      exact ht
    rw [this]
    exact ev_now _
  | succ d ih =>
    intro i ys hi hl ht
    refine ev_succ ?_
    have hx : i < xs.length := by omega
    simp only [laws_toJobS.l0, laws_toJob.f, Option.bind_some, if_pos (show (i : Int) < (xs.length : Int) by omega), if_pos (show (i : Int) < (ys.length : Int) by omega), if_pos (show (0 : Int) ≤ (i : Int) by omega), rdL xs i hx, wsucc i (by omega), Int.toNat_natCast]
    refine ih (i + 1) _ (by omega) (by rw [List.length_set]; exact hl) ?_
    rw [take_set_succ ys i _ (by omega), ht, List.take_succ_eq_append_getElem (by simp; omega)]
    simp [conv]
theorem toJobS_ev (xs : List S83) (hn : xs.length ≤ 1048576) : Ev (fun k => laws_toJobS.f k xs) (xs.map conv) := by
  unfold laws_toJobS.f
  simp only [if_pos (show (0 : Int) ≤ (xs.length : Int) by omega), Int.toNat_natCast, if_pos (show xs.length ≤ 8796093022208 by omega)]
  exact toJobS_l xs (by omega) xs.length 0 _ (by omega) (by simp) (by simp)

theorem rdI (xs : List S79) (i : Nat) (h : i < xs.length) : rd_T79 xs (i : Int) = xs[i] := by
  unfold rd_T79
  rw [Int.toNat_natCast, List.getD_eq_getElem?_getD, List.getElem?_eq_getElem h]
  rfl

theorem eqJobS_l (xs : List S79) (hn : xs.length ≤ 4611686018427387904) : ∀ (d i : Nat), i + d = xs.length → Ev (fun k => laws_eqJobS.l0 k xs xs (i : Int)) true := by
  intro d
  induction d with
  | zero =>
    intro i hi
    refine ev_succ ?_
    simp only [laws_eqJobS.l0, if_neg (show ¬ (i : Int) < (xs.length : Int) by omega)]
    exact ev_now _
  | succ d ih =>
    intro i hi
    refine ev_succ ?_
    simp only [laws_eqJobS.l0, laws_eqJob.f, if_true, Option.bind_some, if_pos (show (i : Int) < (xs.length : Int) by omega), if_pos (show (0 : Int) ≤ (i : Int) by omega), wsucc i (by omega)]
    exact ih (i + 1) (by omega)
theorem eqJobS_ev (xs : List S79) (hn : xs.length ≤ 4611686018427387904) : Ev (fun k => laws_eqJobS.f k xs xs) true := by
  unfold laws_eqJobS.f
  simp only [if_true]
  exact eqJobS_l xs hn xs.length 0 (by omega)

theorem conv_I64 (l : List S83) (hg : ∀ x ∈ l, G83 x) (i : Nat) (hi : i < (l.map conv).length) : I64 (l.map conv)[i].f0 ∧ I64 (l.map conv)[i].f1 ∧ I64 (l.map conv)[i].f2 ∧ I64 (l.map conv)[i].f3 := by
  simp only [List.getElem_map, conv]
  exact hg _ (List.getElem_mem _)

theorem szIntA2S_eq (xs : List S71) (left : Int) (h0 : 0 ≤ left) (h1 : left ≤ 1048576) (h : xs.length ≤ 9223372036854775807) : laws_szIntA2S.f xs left = some (if left < xs.length then -1 else left - xs.length) := by
  unfold laws_szIntA2S.f
  rw [w64 (by omega) (by omega)]
  by_cases c : left < xs.length
  · rw [if_pos (by omega), if_pos c]
  · rw [if_neg (by omega), if_neg c]

theorem rdA2 (xs : List S71) (i : Nat) (h : i < xs.length) : rd_T71 xs (i : Int) = xs[i] := by
  unfold rd_T71
  rw [Int.toNat_natCast, List.getD_eq_getElem?_getD, List.getElem?_eq_getElem h]
  rfl
theorem w01 : wrap64 (0 + 1) = 1 := by unfold wrap64; omega
theorem w11 : wrap64 (1 + 1) = 2 := by unfold wrap64; omega

theorem toIntA2_ev (a b : Int) : Ev (fun k => laws_toIntA2.f k a b) (a, b) := by
  unfold laws_toIntA2.f
  refine ev_succ ?_
  simp only [laws_toIntA2.l0, if_pos (show (0 : Int) < 2 by omega), if_true, w01]
  refine ev_succ ?_
  simp only [laws_toIntA2.l0, if_pos (show (1 : Int) < 2 by omega), if_neg (show ¬ (1 : Int) = 0 by omega), if_true, w11]
  refine ev_succ ?_
  simp only [laws_toIntA2.l0, if_neg (show ¬ (2 : Int) < 2 by omega)]
  exact ev_now _
theorem toIntA2S_l (xs : List S71) (hn : xs.length ≤ 1048576) : ∀ (d i : Nat) (ys : List S71), i + d = xs.length → ys.length = xs.length → ys.take i = xs.take i → Ev (fun k => laws_toIntA2S.l0 k xs ys (i : Int)) xs := by
  intro d
  induction d with
  | zero =>
    intro i ys hi hl ht
    refine ev_succ ?_
    simp only [laws_toIntA2S.l0, if_neg (show ¬ (i : Int) < (xs.length : Int) by omega)]
    have : ys = xs := by
      rw [List.take_of_length_le (by omega), List.take_of_length_le (by omega)] at ht
      exact ht
    rw [this]
    exact ev_now _
  | succ d ih =>
    intro i ys hi hl ht
    refine ev_succ ?_
    have hx : i < xs.length := by omega
    simp only [laws_toIntA2S.l0, if_pos (show (i : Int) < (xs.length : Int) by omega), if_pos (show (0 : Int) ≤ (i : Int) by omega), rdA2 xs i hx, wsucc i (by omega)]
    refine ev_bind (toIntA2_ev _ _) ?_
    simp only [if_pos (show (i : Int) < (ys.length : Int) by omega), Int.toNat_natCast]
    refine ih (i + 1) _ (by omega) (by rw [List.length_set]; exact hl) ?_
    rw [take_set_succ ys i _ (by omega), ht, List.take_succ_eq_append_getElem hx]
theorem toIntA2S_ev (xs : List S71) (hn : xs.length ≤ 1048576) : Ev (fun k => laws_toIntA2S.f k xs) xs := by
  unfold laws_toIntA2S.f
  simp only [if_pos (show (0 : Int) ≤ (xs.length : Int) by omega), Int.toNat_natCast, if_pos (show xs.length ≤ 17592186044416 by omega)]
  exact toIntA2S_l xs hn xs.length 0 _ (by omega) (by simp) (by simp)

theorem eqIntA2_ev (a b : Int) : Ev (fun k => laws_eqIntA2.f k a b a b) true := by
  unfold laws_eqIntA2.f
  refine ev_succ ?_
  simp only [laws_eqIntA2.l0, if_pos (show (0 : Int) < 2 by omega), if_true, w01]
  refine ev_succ ?_
  simp only [laws_eqIntA2.l0, if_pos (show (1 : Int) < 2 by omega), if_neg (show ¬ (1 : Int) = 0 by omega), if_true, w11]
  refine ev_succ ?_
  simp only [laws_eqIntA2.l0, if_neg (show ¬ (2 : Int) < 2 by omega)]
  exact ev_now _
theorem eqIntA2S_l (xs : List S71) (hn : xs.length ≤ 4611686018427387904) : ∀ (d i : Nat), i + d = xs.length → Ev (fun k => laws_eqIntA2S.l0 k xs xs (i : Int)) true := by
  intro d
  induction d with
  | zero =>
    intro i hi
    refine ev_succ ?_
    simp only [laws_eqIntA2S.l0, if_neg (show ¬ (i : Int) < (xs.length : Int) by omega)]
    exact ev_now _
  | succ d ih =>
    intro i hi
    refine ev_succ ?_
    simp only [laws_eqIntA2S.l0, if_pos (show (i : Int) < (xs.length : Int) by omega), if_pos (show (0 : Int) ≤ (i : Int) by omega), wsucc i (by omega)]
    refine ev_bind (eqIntA2_ev _ _) ?_
    simp only [if_true]
    exact ih (i + 1) (by omega)
theorem eqIntA2S_ev (xs : List S71) (hn : xs.length ≤ 4611686018427387904) : Ev (fun k => laws_eqIntA2S.f k xs xs) true := by
  unfold laws_eqIntA2S.f
  simp only [if_true]
  exact eqIntA2S_l xs hn xs.length 0 (by omega)

theorem szTaskS_eq (xs : List S93) (left : Int) (h0 : 0 ≤ left) (h1 : left ≤ 1048576) (h : xs.length ≤ 9223372036854775807) : laws_szTaskS.f xs left = some (if left < xs.length then -1 else left - xs.length) := by
  unfold laws_szTaskS.f
  rw [w64 (by omega) (by omega)]
  by_cases c : left < xs.length
  · rw [if_pos (by omega), if_pos c]
  · rw [if_neg (by omega), if_neg c]

def convT (x : S93) : S91 := ⟨x.f0, x.f1, x.f2⟩
theorem rdLT (xs : List S93) (i : Nat) (h : i < xs.length) : rd_T93 xs (i : Int) = xs[i] := by
  unfold rd_T93
  rw [Int.toNat_natCast, List.getD_eq_getElem?_getD, List.getElem?_eq_getElem h]
  rfl

theorem toTaskS_l (xs : List S93) (hn : xs.length ≤ 11728124029610) : ∀ (d i : Nat) (ys : List S91), i + d = xs.length → ys.length = xs.length → ys.take i = (xs.map convT).take i → Ev (fun k => laws_toTaskS.l0 k xs ys (i : Int)) (xs.map convT) := by
  intro d
  induction d with
  | zero =>
    intro i ys hi hl ht
    refine ev_succ ?_
    simp only [laws_toTaskS.l0, if_neg (show ¬ (i : Int) < (xs.length : Int) by omega)]
    have : ys = xs.map convT := by
      rw [List.take_of_length_le (by omega), List.take_of_length_le (by simp; omega)] at ht
      exact ht
    rw [this]
    exact ev_now _
  | succ d ih =>
    intro i ys hi hl ht
    refine ev_succ ?_
    have hx : i < xs.length := by omega
    simp only [laws_toTaskS.l0, laws_toTask.f, Option.bind_some, if_pos (show (i : Int) < (xs.length : Int) by omega), if_pos (show (i : Int) < (ys.length : Int) by omega), if_pos (show (0 : Int) ≤ (i : Int) by omega), rdLT xs i hx, wsucc i (by omega), Int.toNat_natCast]
    refine ih (i + 1) _ (by omega) (by rw [List.length_set]; exact hl) ?_
    rw [take_set_succ ys i _ (by omega), ht, List.take_succ_eq_append_getElem (by simp; omega)]
    simp [convT]
theorem toTaskS_ev (xs : List S93) (hn : xs.length ≤ 1048576) : Ev (fun k => laws_toTaskS.f k xs) (xs.map convT) := by
  unfold laws_toTaskS.f
  simp only [if_pos (show (0 : Int) ≤ (xs.length : Int) by omega), Int.toNat_natCast, if_pos (show xs.length ≤ 11728124029610 by omega)]
  exact toTaskS_l xs (by omega) xs.length 0 _ (by omega) (by simp) (by simp)

theorem rdIT (xs : List S91) (i : Nat) (h : i < xs.length) : rd_T91 xs (i : Int) = xs[i] := by
  unfold rd_T91
  rw [Int.toNat_natCast, List.getD_eq_getElem?_getD, List.getElem?_eq_getElem h]
  rfl

theorem eqTaskS_l (xs : List S91) (hn : xs.length ≤ 4611686018427387904) : ∀ (d i : Nat), i + d = xs.length → Ev (fun k => laws_eqTaskS.l0 k xs xs (i : Int)) true := by
  intro d
  induction d with
  | zero =>
    intro i hi
    refine ev_succ ?_
    simp only [laws_eqTaskS.l0, if_neg (show ¬ (i : Int) < (xs.length : Int) by omega)]
    exact ev_now _
  | succ d ih =>
    intro i hi
    refine ev_succ ?_
    simp only [laws_eqTaskS.l0, laws_eqTask.f, if_true, Option.bind_some, if_pos (show (i : Int) < (xs.length : Int) by omega), if_pos (show (0 : Int) ≤ (i : Int) by omega), wsucc i (by omega)]
    exact ih (i + 1) (by omega)
theorem eqTaskS_ev (xs : List S91) (hn : xs.length ≤ 4611686018427387904) : Ev (fun k => laws_eqTaskS.f k xs xs) true := by
  unfold laws_eqTaskS.f
  simp only [if_true]
  exact eqTaskS_l xs hn xs.length 0 (by omega)

theorem within_eq (a b c : Int) : impl_within.f a b c = some (decide (b ≤ a) && decide (a ≤ c)) := by
  unfold impl_within.f
  by_cases h : b ≤ a
  · rw [if_pos h]; simp [h]
  · rw [if_neg h]; simp [h]

/-- A job's numbers are in their bounds. -/
def okJ (x : S79) : Bool := decide (1 ≤ x.f0) && (decide (x.f0 ≤ 50) && (decide (0 ≤ x.f1) && (decide (x.f1 ≤ 50) && (decide (0 ≤ x.f2) && (decide (x.f2 ≤ 500) && (decide (0 ≤ x.f3) && decide (x.f3 ≤ 500)))))))
def goodB (l : List S79) : Bool := decide (l.length ≤ 8) && l.all okJ
theorem isDate_eq (a : Int) : impl_isDate.f a = some (decide (0 ≤ a) && decide (a ≤ 500)) := by
  unfold impl_isDate.f
  rw [within_eq]
  rfl
theorem job_chain (x : S79) (o : Option Bool) : (if (decide (1 ≤ x.f0) && decide (x.f0 ≤ 50)) = true then (if (decide (0 ≤ x.f1) && decide (x.f1 ≤ 50)) = true then (if (decide (0 ≤ x.f2) && decide (x.f2 ≤ 500)) = true then (if (decide (0 ≤ x.f3) && decide (x.f3 ≤ 500)) = true then o else some false) else some false) else some false) else some false) = if okJ x = true then o else some false := by
  unfold okJ
  by_cases a1 : 1 ≤ x.f0 <;> by_cases a2 : x.f0 ≤ 50 <;> simp [a1, a2]
  by_cases b1 : 0 ≤ x.f1 <;> by_cases b2 : x.f1 ≤ 50 <;> simp [b1, b2]
  by_cases c1 : 0 ≤ x.f2 <;> by_cases c2 : x.f2 ≤ 500 <;> simp [c1, c2]
theorem IsJobs_l (xs : List S79) (hn : xs.length ≤ 4611686018427387904) : ∀ (d i : Nat), i + d = xs.length → Ev (fun k => impl_IsJobs.l0 k xs (xs.length : Int) (i : Int)) ((xs.drop i).all okJ) := by
  intro d
  induction d with
  | zero =>
    intro i hi
    refine ev_succ ?_
    simp only [impl_IsJobs.l0, if_neg (show ¬ (i : Int) < (xs.length : Int) by omega), List.drop_of_length_le (show xs.length ≤ i by omega)]
    exact ev_now _
  | succ d ih =>
    intro i hi
    refine ev_succ ?_
    have hx : i < xs.length := by omega
    have hih := ih (i + 1) (by omega)
    rw [List.drop_eq_getElem_cons hx, List.all_cons]
    simp only [impl_IsJobs.l0, within_eq, isDate_eq, Option.bind_some, if_pos (show (i : Int) < (xs.length : Int) by omega), if_pos (show (0 : Int) ≤ (i : Int) by omega), wsucc i (by omega), rdI xs i hx]
    generalize xs[i] = x at *
    simp only [job_chain]
    by_cases c : okJ x = true
    · simpa only [c, if_true, Bool.true_and] using hih
    · have c' : okJ x = false := by simpa using c
      simp only [c', Bool.false_and]
      exact ev_now _
theorem IsJobs_ev (xs : List S79) (hn : xs.length ≤ 4611686018427387904) : Ev (fun k => impl_IsJobs.f k xs) (goodB xs) := by
  unfold impl_IsJobs.f goodB
  by_cases h : xs.length ≤ 8
  · simp only [if_neg (show ¬ ((xs.length : Int) > 8) by omega), decide_eq_true h, Bool.true_and]
    exact IsJobs_l xs hn xs.length 0 (by omega)
  · simp only [if_pos (show ((xs.length : Int) > 8) by omega), decide_eq_false h, Bool.false_and]
    exact ev_now _

def freeJ (x : S79) : Bool := decide (x.f2 = 0)
def plainB (l : List S79) : Bool := goodB l && l.all freeJ
theorem isPlain_l (xs : List S79) (hn : xs.length ≤ 4611686018427387904) : ∀ (d i : Nat), i + d = xs.length → Ev (fun k => impl_isPlain.l0 k xs (xs.length : Int) (i : Int)) ((xs.drop i).all freeJ) := by
  intro d
  induction d with
  | zero =>
    intro i hi
    refine ev_succ ?_
    simp only [impl_isPlain.l0, if_neg (show ¬ (i : Int) < (xs.length : Int) by omega), List.drop_of_length_le (show xs.length ≤ i by omega)]
    exact ev_now _
  | succ d ih =>
    intro i hi
    refine ev_succ ?_
    have hx : i < xs.length := by omega
    have hih := ih (i + 1) (by omega)
    rw [List.drop_eq_getElem_cons hx, List.all_cons]
    simp only [impl_isPlain.l0, if_pos (show (i : Int) < (xs.length : Int) by omega), if_pos (show (0 : Int) ≤ (i : Int) by omega), wsucc i (by omega), rdI xs i hx]
    by_cases c : (xs[i]).f2 = 0
    · simp only [if_pos c, freeJ, decide_eq_true c, Bool.true_and]
      exact hih
    · simp only [if_neg c, freeJ, decide_eq_false c, Bool.false_and]
      exact ev_now _
theorem isPlain_ev (xs : List S79) (hn : xs.length ≤ 4611686018427387904) : Ev (fun k => impl_isPlain.f k xs) (xs.all freeJ) := by
  unfold impl_isPlain.f
  exact isPlain_l xs hn xs.length 0 (by omega)

theorem IsPlain_ev (xs : List S79) (hn : xs.length ≤ 4611686018427387904) : Ev (fun k => impl_IsPlain.f k xs) (plainB xs) := by
  unfold impl_IsPlain.f plainB
  refine ev_bind (IsJobs_ev xs hn) ?_
  cases goodB xs
  · simp only [Bool.false_eq_true, if_false, Bool.false_and]; exact ev_now _
  · simp only [if_true, Bool.true_and]; exact ev_bind (isPlain_ev xs hn) (ev_now _)

theorem plain_good {xs : List S79} (h : plainB xs = true) : goodB xs = true := by
  unfold plainB at h
  simp only [Bool.and_eq_true] at h
  exact h.1

theorem good_len {xs : List S79} (h : goodB xs = true) : xs.length ≤ 8 := by
  unfold goodB at h
  simp only [Bool.and_eq_true, decide_eq_true_eq] at h
  exact h.1
theorem good_at {xs : List S79} (h : goodB xs = true) (i : Nat) (hi : i < xs.length) : 1 ≤ xs[i].f0 ∧ xs[i].f0 ≤ 50 ∧ 0 ≤ xs[i].f1 ∧ xs[i].f1 ≤ 50 ∧ 0 ≤ xs[i].f2 ∧ xs[i].f2 ≤ 500 ∧ 0 ≤ xs[i].f3 ∧ xs[i].f3 ≤ 500 := by
  unfold goodB at h
  simp only [Bool.and_eq_true, List.all_eq_true] at h
  have b := h.2 xs[i] (List.getElem_mem hi)
  simp only [okJ, Bool.and_eq_true, decide_eq_true_eq] at b
  obtain ⟨a1, a2, b1, b2, c1, c2, d1, d2⟩ := b
  exact ⟨a1, a2, b1, b2, c1, c2, d1, d2⟩

theorem l1In_eq (a b c : Int) : spec_l1In.f a b c = some (decide (b ≤ a) && decide (a ≤ c)) := by
  unfold spec_l1In.f
  by_cases h : b ≤ a
  · rw [if_pos h]; simp [h]
  · rw [if_neg h]; simp [h]

theorem l2Job_eq (x : S79) : spec_l2Job.f x.f0 x.f1 x.f2 x.f3 = some (okJ x) := by
  unfold spec_l2Job.f okJ
  simp only [l1In_eq, Option.bind_some]
  by_cases a1 : 1 ≤ x.f0 <;> by_cases a2 : x.f0 ≤ 50 <;> simp [a1, a2]
  by_cases b1 : 0 ≤ x.f1 <;> by_cases b2 : x.f1 ≤ 50 <;> simp [b1, b2]
  by_cases c1 : 0 ≤ x.f2 <;> by_cases c2 : x.f2 ≤ 500 <;> simp [c1, c2]
theorem l2Good_l (xs : List S79) (hn : xs.length ≤ 4611686018427387904) : ∀ (d i : Nat), i + d = xs.length → Ev (fun k => spec_l2Good.l0 k xs (i : Int)) ((xs.drop i).all okJ && decide (xs.length ≤ 8)) := by
  intro d
  induction d with
  | zero =>
    intro i hi
    refine ev_succ ?_
    simp only [spec_l2Good.l0, if_neg (show ¬ (i : Int) < (xs.length : Int) by omega), List.drop_of_length_le (show xs.length ≤ i by omega)]
    refine ev_const ?_
    simp
    omega
  | succ d ih =>
    intro i hi
    refine ev_succ ?_
    have hx : i < xs.length := by omega
    have hih := ih (i + 1) (by omega)
    rw [List.drop_eq_getElem_cons hx, List.all_cons]
    simp only [spec_l2Good.l0, if_pos (show (i : Int) < (xs.length : Int) by omega), if_pos (show (0 : Int) ≤ (i : Int) by omega), wsucc i (by omega), rdI xs i hx, l2Job_eq, Option.bind_some]
    by_cases c : okJ xs[i] = true
    · simpa only [c, if_true, Bool.true_and] using hih
    · have c' : okJ xs[i] = false := by simpa using c
      simp only [c', Bool.false_and]
      exact ev_now _
theorem l2Good_ev (xs : List S79) (hn : xs.length ≤ 4611686018427387904) : Ev (fun k => spec_l2Good.f k xs) (goodB xs) := by
  unfold spec_l2Good.f goodB
  rw [Bool.and_comm]
  exact l2Good_l xs hn xs.length 0 (by omega)

theorem l3Plain_l (xs : List S79) (hn : xs.length ≤ 4611686018427387904) : ∀ (d i : Nat), i + d = xs.length → Ev (fun k => spec_l3Plain.l0 k xs (i : Int)) ((xs.drop i).all freeJ) := by
  intro d
  induction d with
  | zero =>
    intro i hi
    refine ev_succ ?_
    simp only [spec_l3Plain.l0, if_neg (show ¬ (i : Int) < (xs.length : Int) by omega), List.drop_of_length_le (show xs.length ≤ i by omega)]
    exact ev_now _
  | succ d ih =>
    intro i hi
    refine ev_succ ?_
    have hx : i < xs.length := by omega
    have hih := ih (i + 1) (by omega)
    rw [List.drop_eq_getElem_cons hx, List.all_cons]
    simp only [spec_l3Plain.l0, if_pos (show (i : Int) < (xs.length : Int) by omega), if_pos (show (0 : Int) ≤ (i : Int) by omega), wsucc i (by omega), rdI xs i hx]
    by_cases c : (xs[i]).f2 = 0
    · simp only [if_pos c, freeJ, decide_eq_true c, Bool.true_and]
      exact hih
    · simp only [if_neg c, freeJ, decide_eq_false c, Bool.false_and]
      exact ev_now _
theorem l3Plain_ev (xs : List S79) (hn : xs.length ≤ 4611686018427387904) : Ev (fun k => spec_l3Plain.f k xs) (xs.all freeJ) := by
  unfold spec_l3Plain.f
  exact l3Plain_l xs hn xs.length 0 (by omega)

/-- A table of n rows and n columns. -/
def Sq (n : Nat) (t : List (List Bool)) : Prop := t.length = n ∧ ∀ r ∈ t, r.length = n
theorem Sq.row {n : Nat} {t : List (List Bool)} (h : Sq n t) (i : Nat) (hi : i < n) : (t[i]'(by rw [h.1]; exact hi)).length = n := h.2 _ (List.getElem_mem _)
def tb (t : List (List Bool)) (i j : Nat) : Bool := (t.getD i []).getD j false
theorem tb_eq (t : List (List Bool)) (i j : Nat) (hi : i < t.length) (hj : j < t[i].length) : tb t i j = t[i][j] := by
  unfold tb
  rw [List.getD_eq_getElem?_getD, List.getD_eq_getElem?_getD, List.getElem?_eq_getElem hi, Option.getD_some, List.getElem?_eq_getElem hj, Option.getD_some]
def putT (t : List (List Bool)) (i j : Nat) (b : Bool) : List (List Bool) := t.set i ((t.getD i []).set j b)
theorem Sq.put {n : Nat} {t : List (List Bool)} (h : Sq n t) (i j : Nat) (hi : i < n) (b : Bool) : Sq n (putT t i j b) := by
  refine ⟨by unfold putT; rw [List.length_set]; exact h.1, fun r hr => ?_⟩
  unfold putT at hr
  rcases List.mem_or_eq_of_mem_set hr with hr | rfl
  · exact h.2 r hr
  · rw [List.length_set, List.getD_eq_getElem?_getD, List.getElem?_eq_getElem (by rw [h.1]; exact hi), Option.getD_some]
    exact h.row i hi
theorem rdBB (t : List (List Bool)) (i : Nat) (h : i < t.length) : rd_L7 t (i : Int) = t[i] := by
  unfold rd_L7
  rw [Int.toNat_natCast, List.getD_eq_getElem?_getD, List.getElem?_eq_getElem h]
  rfl
theorem rdB (r : List Bool) (i : Nat) (h : i < r.length) : rdOf false r (i : Int) = r[i] := by
  unfold rdOf
  rw [Int.toNat_natCast, List.getD_eq_getElem?_getD, List.getElem?_eq_getElem h]
  rfl
theorem rdTB (t : List (List Bool)) (i : Nat) (h : i < t.length) : (rd_L7 t (i : Int)) = t.getD i [] := by
  rw [rdBB t i h, List.getD_eq_getElem?_getD, List.getElem?_eq_getElem h]; rfl
theorem rdTT {n : Nat} {t : List (List Bool)} (h : Sq n t) (i j : Nat) (hi : i < n) (hj : j < n) : rdOf false (rd_L7 t (i : Int)) (j : Int) = tb t i j := by
  have h1 : i < t.length := by rw [h.1]; exact hi
  have h2 := h.row i hi
  rw [rdBB t i h1, rdB _ j (by rw [h2]; exact hj), tb_eq t i j h1 (by rw [h2]; exact hj)]
theorem put_same {n : Nat} {t : List (List Bool)} (h : Sq n t) (i j : Nat) (hi : i < n) (hj : j < n) : putT t i j (tb t i j) = t := by
  have h1 : i < t.length := by rw [h.1]; exact hi
  have h2 := h.row i hi
  have hg : t.getD i [] = t[i] := by rw [List.getD_eq_getElem?_getD, List.getElem?_eq_getElem h1]; rfl
  unfold putT
  rw [hg, tb_eq t i j h1 (by rw [h2]; exact hj), List.set_getElem_self, List.set_getElem_self]
def stepT (t : List (List Bool)) (k i j : Nat) : List (List Bool) := if (tb t i k && tb t k j) = true then putT t i j true else t
theorem Sq.step {n : Nat} {t : List (List Bool)} (h : Sq n t) (k i j : Nat) (hi : i < n) : Sq n (stepT t k i j) := by
  unfold stepT
  split
  · exact h.put i j hi true
  · exact h
def rowF (t : List (List Bool)) (k i : Nat) (js : List Nat) : List (List Bool) := js.foldl (fun t j => stepT t k i j) t
def midF (n : Nat) (t : List (List Bool)) (k : Nat) (is : List Nat) : List (List Bool) := is.foldl (fun t i => rowF t k i (List.range' 0 n)) t
def outF (n : Nat) (t : List (List Bool)) (ks : List Nat) : List (List Bool) := ks.foldl (fun t k => midF n t k (List.range' 0 n)) t
def edgeF (t : List (List Bool)) (es : List S71) : List (List Bool) := es.foldl (fun t e => putT t e.f0.toNat e.f1.toNat true) t
/-- The table of what comes before what. -/
def closT (n : Nat) (es : List S71) : List (List Bool) := outF n (edgeF (List.replicate n (List.replicate n false)) es) (List.range' 0 n)
def inN (n : Nat) (es : List S71) : Prop := ∀ e ∈ es, 0 ≤ e.f0 ∧ e.f0 < n ∧ 0 ≤ e.f1 ∧ e.f1 < n
theorem Sq.row_fold {n : Nat} {t : List (List Bool)} (h : Sq n t) (k i : Nat) (hi : i < n) (js : List Nat) : Sq n (rowF t k i js) := by
  unfold rowF
  induction js generalizing t with
  | nil => exact h
  | cons j js ih => exact ih (h.step k i j hi)
section
variable {F : Nat → List (List Bool) → Nat → Nat → Nat → Option (List (List Bool))}
end
theorem spec_l4 (n : Nat) (hn : n ≤ 8) (kk i : Nat) (hk : kk < n) (hi : i < n) (R : List (List Bool) → List (List Bool))
    (hnext : ∀ t, Sq n t → Ev (fun k => spec_l4Table.l3 k (n : Int) t (kk : Int) ((i + 1 : Nat) : Int)) (R t)) :
    ∀ (d j : Nat) (t : List (List Bool)), j + d = n → Sq n t → Ev (fun k => spec_l4Table.l4 k (n : Int) t (kk : Int) (i : Int) (j : Int)) (R (rowF t kk i (List.range' j d))) := by
  intro d
  induction d with
  | zero =>
    intro j t hj ht
    refine ev_succ ?_
    simp only [spec_l4Table.l4, if_neg (show ¬ (j : Int) < (n : Int) by omega), wsucc i (by omega)]
    exact hnext t ht
  | succ d ih =>
    intro j t hj ht
    refine ev_succ ?_
    have hl := ht.1
    have hri : (rd_L7 t (i : Int)).length = n := by rw [rdBB t i (by omega)]; exact ht.row i hi
    have hrk : (rd_L7 t (kk : Int)).length = n := by rw [rdBB t kk (by omega)]; exact ht.row kk hk
    have h := ih (j + 1) (stepT t kk i j) (by omega) (ht.step kk i j hi)
    rw [List.range'_succ]
    simp only [rowF, List.foldl_cons]
    simp only [rowF] at h
    simp only [spec_l4Table.l4, if_pos (show (j : Int) < (n : Int) by omega), if_pos (show (0 : Int) ≤ (i : Int) by omega), if_pos (show (i : Int) < (t.length : Int) by omega), if_pos (show (0 : Int) ≤ (kk : Int) by omega), if_pos (show (kk : Int) < ((rd_L7 t (i : Int)).length : Int) by omega), if_pos (show (kk : Int) < (t.length : Int) by omega), if_pos (show (0 : Int) ≤ (j : Int) by omega), if_pos (show (j : Int) < ((rd_L7 t (kk : Int)).length : Int) by omega), if_pos (show (j : Int) < ((rd_L7 t (i : Int)).length : Int) by omega), rdTT ht i kk hi hk, rdTT ht kk j hk (by omega), wsucc j (by omega), Int.toNat_natCast]
    by_cases c1 : tb t i kk = true
    · by_cases c2 : tb t kk j = true
      · simp only [if_pos c1, if_pos c2]
        have hs : stepT t kk i j = putT t i j true := by unfold stepT; rw [if_pos (by rw [c1, c2]; rfl)]
        rw [hs] at h ⊢
        rw [rdTB t i (by omega)]
        exact h
      · simp only [if_pos c1, if_neg c2]
        have hs : stepT t kk i j = t := by unfold stepT; rw [if_neg (by rw [c1]; simpa using c2)]
        rw [hs] at h ⊢
        exact h
    · simp only [if_neg c1]
      have hs : stepT t kk i j = t := by unfold stepT; rw [if_neg (by simp only [Bool.and_eq_true]; exact fun x => c1 x.1)]
      rw [hs] at h ⊢
      exact h
theorem spec_l3 (n : Nat) (hn : n ≤ 8) (kk : Nat) (hk : kk < n) (R : List (List Bool) → List (List Bool))
    (hnext : ∀ t, Sq n t → Ev (fun k => spec_l4Table.l2 k (n : Int) t ((kk + 1 : Nat) : Int)) (R t)) :
    ∀ (d i : Nat) (t : List (List Bool)), i + d = n → Sq n t → Ev (fun k => spec_l4Table.l3 k (n : Int) t (kk : Int) (i : Int)) (R (midF n t kk (List.range' i d))) := by
  intro d
  induction d with
  | zero =>
    intro i t hi ht
    refine ev_succ ?_
    simp only [spec_l4Table.l3, if_neg (show ¬ (i : Int) < (n : Int) by omega), wsucc kk (by omega)]
    exact hnext t ht
  | succ d ih =>
    intro i t hi ht
    refine ev_succ ?_
    rw [List.range'_succ]
    simp only [midF, List.foldl_cons, spec_l4Table.l3, if_pos (show (i : Int) < (n : Int) by omega)]
    exact spec_l4 n hn kk i hk (by omega) (fun t => R (midF n t kk (List.range' (i + 1) d))) (fun t ht => ih (i + 1) t (by omega) ht) n 0 t (by omega) ht
theorem mid_sq {n : Nat} {t : List (List Bool)} (h : Sq n t) (k : Nat) : ∀ is : List Nat, (∀ i ∈ is, i < n) → Sq n (midF n t k is) := by
  intro is
  unfold midF
  induction is generalizing t with
  | nil => intro _; exact h
  | cons i is ih => intro hi; exact ih (h.row_fold k i (hi i (by simp)) _) (fun x hx => hi x (by simp [hx]))
theorem spec_l2 (n : Nat) (hn : n ≤ 8) : ∀ (d kk : Nat) (t : List (List Bool)), kk + d = n → Sq n t → Ev (fun k => spec_l4Table.l2 k (n : Int) t (kk : Int)) (outF n t (List.range' kk d)) := by
  intro d
  induction d with
  | zero =>
    intro kk t hk ht
    refine ev_succ ?_
    simp only [spec_l4Table.l2, if_neg (show ¬ (kk : Int) < (n : Int) by omega)]
    exact ev_now _
  | succ d ih =>
    intro kk t hk ht
    refine ev_succ ?_
    rw [List.range'_succ]
    simp only [outF, List.foldl_cons, spec_l4Table.l2, if_pos (show (kk : Int) < (n : Int) by omega)]
    exact spec_l3 n hn kk (by omega) (fun t => outF n t (List.range' (kk + 1) d)) (fun t ht => ih (kk + 1) t (by omega) ht) n 0 t (by omega) ht
theorem edge_sq {n : Nat} {t : List (List Bool)} (h : Sq n t) : ∀ es : List S71, inN n es → Sq n (edgeF t es) := by
  intro es
  unfold edgeF
  induction es generalizing t with
  | nil => intro _; exact h
  | cons e es ih =>
    intro he
    have := he e (by simp)
    exact ih (h.put _ _ (by omega) true) (fun x hx => he x (by simp [hx]))
theorem spec_l1 (n : Nat) (hn : n ≤ 8) (es : List S71) (hes : es.length ≤ 1048576) (hin : inN n es) : ∀ (d i : Nat) (t : List (List Bool)), i + d = es.length → Sq n t → Ev (fun k => spec_l4Table.l1 k (n : Int) es t (i : Int)) (outF n (edgeF t (es.drop i)) (List.range' 0 n)) := by
  intro d
  induction d with
  | zero =>
    intro i t hi ht
    refine ev_succ ?_
    simp only [spec_l4Table.l1, if_neg (show ¬ (i : Int) < (es.length : Int) by omega), List.drop_of_length_le (show es.length ≤ i by omega)]
    exact spec_l2 n hn n 0 t (by omega) ht
  | succ d ih =>
    intro i t hi ht
    refine ev_succ ?_
    have hx : i < es.length := by omega
    have hl := ht.1
    have he := hin es[i] (List.getElem_mem hx)
    obtain ⟨a, ha⟩ := Int.eq_ofNat_of_zero_le he.1
    obtain ⟨b, hb⟩ := Int.eq_ofNat_of_zero_le he.2.2.1
    have hr : (rd_L7 t (a : Int)).length = n := by rw [rdBB t a (by omega)]; exact ht.row a (by omega)
    have h := ih (i + 1) (putT t a b true) (by omega) (ht.put a b (by omega) true)
    rw [List.drop_eq_getElem_cons hx]
    simp only [edgeF, List.foldl_cons, ha, hb, Int.toNat_natCast]
    simp only [edgeF] at h
    simp only [spec_l4Table.l1, if_pos (show (i : Int) < (es.length : Int) by omega), if_pos (show (0 : Int) ≤ (i : Int) by omega), rdA2 es i hx, ha, hb, if_pos (show (0 : Int) ≤ (a : Int) by omega), if_pos (show (a : Int) < (t.length : Int) by omega), if_pos (show (0 : Int) ≤ (b : Int) by omega), if_pos (show (b : Int) < ((rd_L7 t (a : Int)).length : Int) by omega), wsucc i (by omega), Int.toNat_natCast]
    rw [rdTB t a (by omega)]
    exact h
theorem spec_l0 (n : Nat) (hn : n ≤ 8) (es : List S71) (hes : es.length ≤ 1048576) (hin : inN n es) : ∀ (d i : Nat) (t : List (List Bool)), i + d = n → t = List.replicate i (List.replicate n false) → Ev (fun k => spec_l4Table.l0 k (n : Int) es t (i : Int)) (closT n es) := by
  intro d
  induction d with
  | zero =>
    intro i t hi ht
    refine ev_succ ?_
    have hin' : i = n := by omega
    subst hin'
    simp only [spec_l4Table.l0, if_neg (show ¬ (i : Int) < (i : Int) by omega)]
    have := spec_l1 i hn es hes hin es.length 0 t (by omega) (by rw [ht]; exact ⟨by simp, fun r hr => by rw [List.eq_of_mem_replicate hr]; simp⟩)
    rw [List.drop_zero, ht] at this
    rw [ht]
    exact this
  | succ d ih =>
    intro i t hi ht
    refine ev_succ ?_
    have hl : t.length = i := by rw [ht]; simp
    simp only [spec_l4Table.l0, if_pos (show (i : Int) < (n : Int) by omega), if_pos (show (0 : Int) ≤ (n : Int) by omega), Int.toNat_natCast, if_pos (show n ≤ 281474976710656 by omega), if_pos (show t.length < 5864062014805 by omega), wsucc i (by omega)]
    exact ih (i + 1) _ (by omega) (by rw [ht, List.replicate_succ'])
theorem l4Table_ev (n : Nat) (hn : n ≤ 8) (es : List S71) (hes : es.length ≤ 1048576) (hin : inN n es) : Ev (fun k => spec_l4Table.f k (n : Int) es) (closT n es) := by
  unfold spec_l4Table.f
  exact spec_l0 n hn es hes hin n 0 [] (by omega) (by simp)
theorem impl_l4 (n : Nat) (hn : n ≤ 8) (kk i : Nat) (hk : kk < n) (hi : i < n) (R : List (List Bool) → List (List Bool))
    (hnext : ∀ t, Sq n t → Ev (fun k => impl_closure.l3 k (n : Int) t (kk : Int) ((i + 1 : Nat) : Int)) (R t)) :
    ∀ (d j : Nat) (t : List (List Bool)), j + d = n → Sq n t → Ev (fun k => impl_closure.l4 k (n : Int) t (kk : Int) (i : Int) (j : Int)) (R (rowF t kk i (List.range' j d))) := by
  intro d
  induction d with
  | zero =>
    intro j t hj ht
    refine ev_succ ?_
    simp only [impl_closure.l4, if_neg (show ¬ (j : Int) < (n : Int) by omega), wsucc i (by omega)]
    exact hnext t ht
  | succ d ih =>
    intro j t hj ht
    refine ev_succ ?_
    have hl := ht.1
    have hri : (rd_L7 t (i : Int)).length = n := by rw [rdBB t i (by omega)]; exact ht.row i hi
    have hrk : (rd_L7 t (kk : Int)).length = n := by rw [rdBB t kk (by omega)]; exact ht.row kk hk
    have h := ih (j + 1) (stepT t kk i j) (by omega) (ht.step kk i j hi)
    rw [List.range'_succ]
    simp only [rowF, List.foldl_cons]
    simp only [rowF] at h
    simp only [impl_closure.l4, if_pos (show (j : Int) < (n : Int) by omega), if_pos (show (0 : Int) ≤ (i : Int) by omega), if_pos (show (i : Int) < (t.length : Int) by omega), if_pos (show (0 : Int) ≤ (kk : Int) by omega), if_pos (show (kk : Int) < ((rd_L7 t (i : Int)).length : Int) by omega), if_pos (show (kk : Int) < (t.length : Int) by omega), if_pos (show (0 : Int) ≤ (j : Int) by omega), if_pos (show (j : Int) < ((rd_L7 t (kk : Int)).length : Int) by omega), if_pos (show (j : Int) < ((rd_L7 t (i : Int)).length : Int) by omega), rdTT ht i kk hi hk, rdTT ht kk j hk (by omega), rdTT ht i j hi (by omega), wsucc j (by omega), Int.toNat_natCast]
    have hput : ∀ b, t.set i ((rd_L7 t (i : Int)).set j b) = putT t i j b := fun b => by rw [rdTB t i (by omega)]; rfl
    have hsame := put_same ht i j hi (show j < n by omega)
    by_cases c0 : tb t i j = true
    · simp only [if_pos c0, hput]
      have hs : stepT t kk i j = t := by
        unfold stepT
        split
        · rw [c0] at hsame; exact hsame
        · rfl
      rw [hs] at h ⊢
      rw [c0] at hsame
      rw [hsame]
      exact h
    · have c0' : tb t i j = false := by simpa using c0
      rw [c0'] at hsame
      by_cases c1 : tb t i kk = true
      · simp only [if_neg c0, if_pos c1, hput]
        by_cases c2 : tb t kk j = true
        · have hs : stepT t kk i j = putT t i j true := by unfold stepT; rw [if_pos (by rw [c1, c2]; rfl)]
          rw [hs] at h ⊢
          rw [c2]
          exact h
        · have c2' : tb t kk j = false := by simpa using c2
          have hs : stepT t kk i j = t := by unfold stepT; rw [if_neg (by rw [c1]; simpa using c2)]
          rw [hs] at h ⊢
          rw [c2', hsame]
          exact h
      · simp only [if_neg c0, if_neg c1, hput]
        have hs : stepT t kk i j = t := by unfold stepT; rw [if_neg (by simp only [Bool.and_eq_true]; exact fun x => c1 x.1)]
        rw [hs] at h ⊢
        rw [hsame]
        exact h
theorem impl_l3 (n : Nat) (hn : n ≤ 8) (kk : Nat) (hk : kk < n) (R : List (List Bool) → List (List Bool))
    (hnext : ∀ t, Sq n t → Ev (fun k => impl_closure.l2 k (n : Int) t ((kk + 1 : Nat) : Int)) (R t)) :
    ∀ (d i : Nat) (t : List (List Bool)), i + d = n → Sq n t → Ev (fun k => impl_closure.l3 k (n : Int) t (kk : Int) (i : Int)) (R (midF n t kk (List.range' i d))) := by
  intro d
  induction d with
  | zero =>
    intro i t hi ht
    refine ev_succ ?_
    simp only [impl_closure.l3, if_neg (show ¬ (i : Int) < (n : Int) by omega), wsucc kk (by omega)]
    exact hnext t ht
  | succ d ih =>
    intro i t hi ht
    refine ev_succ ?_
    rw [List.range'_succ]
    simp only [midF, List.foldl_cons, impl_closure.l3, if_pos (show (i : Int) < (n : Int) by omega)]
    exact impl_l4 n hn kk i hk (by omega) (fun t => R (midF n t kk (List.range' (i + 1) d))) (fun t ht => ih (i + 1) t (by omega) ht) n 0 t (by omega) ht
theorem impl_l2 (n : Nat) (hn : n ≤ 8) : ∀ (d kk : Nat) (t : List (List Bool)), kk + d = n → Sq n t → Ev (fun k => impl_closure.l2 k (n : Int) t (kk : Int)) (outF n t (List.range' kk d)) := by
  intro d
  induction d with
  | zero =>
    intro kk t hk ht
    refine ev_succ ?_
    simp only [impl_closure.l2, if_neg (show ¬ (kk : Int) < (n : Int) by omega)]
    exact ev_now _
  | succ d ih =>
    intro kk t hk ht
    refine ev_succ ?_
    rw [List.range'_succ]
    simp only [outF, List.foldl_cons, impl_closure.l2, if_pos (show (kk : Int) < (n : Int) by omega)]
    exact impl_l3 n hn kk (by omega) (fun t => outF n t (List.range' (kk + 1) d)) (fun t ht => ih (kk + 1) t (by omega) ht) n 0 t (by omega) ht
theorem impl_l1 (n : Nat) (hn : n ≤ 8) (es : List S71) (hes : es.length ≤ 1048576) (hin : inN n es) : ∀ (d i : Nat) (t : List (List Bool)), i + d = es.length → Sq n t → Ev (fun k => impl_closure.l1 k (n : Int) t es (es.length : Int) (i : Int)) (outF n (edgeF t (es.drop i)) (List.range' 0 n)) := by
  intro d
  induction d with
  | zero =>
    intro i t hi ht
    refine ev_succ ?_
    simp only [impl_closure.l1, if_neg (show ¬ (i : Int) < (es.length : Int) by omega), List.drop_of_length_le (show es.length ≤ i by omega)]
    exact impl_l2 n hn n 0 t (by omega) ht
  | succ d ih =>
    intro i t hi ht
    refine ev_succ ?_
    have hx : i < es.length := by omega
    have hl := ht.1
    have he := hin es[i] (List.getElem_mem hx)
    obtain ⟨a, ha⟩ := Int.eq_ofNat_of_zero_le he.1
    obtain ⟨b, hb⟩ := Int.eq_ofNat_of_zero_le he.2.2.1
    have hr : (rd_L7 t (a : Int)).length = n := by rw [rdBB t a (by omega)]; exact ht.row a (by omega)
    have h := ih (i + 1) (putT t a b true) (by omega) (ht.put a b (by omega) true)
    rw [List.drop_eq_getElem_cons hx]
    simp only [edgeF, List.foldl_cons, ha, hb, Int.toNat_natCast]
    simp only [edgeF] at h
    simp only [impl_closure.l1, if_pos (show (i : Int) < (es.length : Int) by omega), if_pos (show (0 : Int) ≤ (i : Int) by omega), rdA2 es i hx, ha, hb, if_pos (show (0 : Int) ≤ (a : Int) by omega), if_pos (show (a : Int) < (t.length : Int) by omega), if_pos (show (0 : Int) ≤ (b : Int) by omega), if_pos (show (b : Int) < ((rd_L7 t (a : Int)).length : Int) by omega), wsucc i (by omega), Int.toNat_natCast]
    rw [rdTB t a (by omega)]
    exact h
theorem impl_l0 (n : Nat) (hn : n ≤ 8) (es : List S71) (hes : es.length ≤ 1048576) (hin : inN n es) : ∀ (d i : Nat) (t : List (List Bool)), i + d = n → t.length = n → t.take i = List.replicate i (List.replicate n false) → Ev (fun k => impl_closure.l0 k (n : Int) es t (n : Int) (i : Int)) (closT n es) := by
  intro d
  induction d with
  | zero =>
    intro i t hi hl ht
    refine ev_succ ?_
    have hin' : i = n := by omega
    subst hin'
    rw [List.take_of_length_le (by omega)] at ht
    simp only [impl_closure.l0, if_neg (show ¬ (i : Int) < (i : Int) by omega)]
    have := impl_l1 i hn es hes hin es.length 0 t (by omega) (by rw [ht]; exact ⟨by simp, fun r hr => by rw [List.eq_of_mem_replicate hr]; simp⟩)
    rw [List.drop_zero, ht] at this
    rw [ht]
    exact this
  | succ d ih =>
    intro i t hi hl ht
    refine ev_succ ?_
    simp only [impl_closure.l0, if_pos (show (i : Int) < (n : Int) by omega), if_pos (show (0 : Int) ≤ (n : Int) by omega), Int.toNat_natCast, if_pos (show n ≤ 281474976710656 by omega), if_pos (show (0 : Int) ≤ (i : Int) by omega), if_pos (show (i : Int) < (t.length : Int) by omega), wsucc i (by omega)]
    exact ih (i + 1) _ (by omega) (by rw [List.length_set]; exact hl) (by rw [take_set_succ t i _ (by omega), ht, List.replicate_succ'])
theorem closure_ev (n : Nat) (hn : n ≤ 8) (es : List S71) (hes : es.length ≤ 1048576) (hin : inN n es) : Ev (fun k => impl_closure.f k (n : Int) es) (closT n es) := by
  unfold impl_closure.f
  simp only [if_pos (show (0 : Int) ≤ (n : Int) by omega), Int.toNat_natCast, if_pos (show n ≤ 11728124029610 by omega), Option.bind_some, List.length_replicate]
  exact impl_l0 n hn es hes hin n 0 _ (by omega) (by simp) (by simp)
theorem clos_sq (n : Nat) (es : List S71) (hin : inN n es) : Sq n (closT n es) := by
  unfold closT
  have h0 : Sq n (edgeF (List.replicate n (List.replicate n false)) es) := edge_sq ⟨by simp, fun r hr => by rw [List.eq_of_mem_replicate hr]; simp⟩ es hin
  have key : ∀ (ks : List Nat) (t : List (List Bool)), Sq n t → Sq n (outF n t ks) := by
    intro ks
    unfold outF
    induction ks with
    | nil => intro t h; exact h
    | cons k ks ih => intro t h; exact ih _ (mid_sq h k _ (fun i hi => by rw [List.mem_range'_1] at hi; omega))
  exact key _ _ h0

theorem isNumber_eq (i n : Int) (h0 : 0 ≤ n) (h1 : n ≤ 9223372036854775807) : impl_isNumber.f i n = some (decide (0 ≤ i) && decide (i < n)) := by
  unfold impl_isNumber.f
  rw [within_eq, w64 (by omega) (by omega)]
  simp only [Option.bind_some]
  congr 2
  rw [decide_eq_decide]
  omega

def cE (m : Int) (es : List S71) (i : Nat) : Bool :=
  decide (0 ≤ (rd_T71 es (i : Int)).f0) && decide ((rd_T71 es (i : Int)).f0 ≤ m) && (decide (0 ≤ (rd_T71 es (i : Int)).f1) && decide ((rd_T71 es (i : Int)).f1 ≤ m)) && !decide ((rd_T71 es (i : Int)).f0 = (rd_T71 es (i : Int)).f1) &&
  (decide (i = 0) || decide ((rd_T71 es ((i - 1 : Nat) : Int)).f0 < (rd_T71 es (i : Int)).f0) || decide ((rd_T71 es ((i - 1 : Nat) : Int)).f0 = (rd_T71 es (i : Int)).f0) && decide ((rd_T71 es ((i - 1 : Nat) : Int)).f1 < (rd_T71 es (i : Int)).f1))
def pfE (m : Int) (es : List S71) (i : Nat) : Nat → Bool
  | 0 => true
  | d + 1 => cE m es i && pfE m es (i + 1) d
theorem l4Before_eq (a b c d : Int) : spec_l4Before.f a b c d = some (decide (a < c) || decide (a = c) && decide (b < d)) := by
  unfold spec_l4Before.f
  by_cases h : a < c
  · rw [if_pos h]; simp [h]
  · rw [if_neg h]
    by_cases h' : a = c
    · rw [if_pos h']; simp [h, h']
    · rw [if_neg h']; simp [h, h']
theorem wpred (i : Nat) (h0 : 0 < i) (h : i < 4611686018427387904) : wrap64 ((i : Int) - 1) = ((i - 1 : Nat) : Int) := by
  rw [w64 (by omega) (by omega)]; omega
theorem l4Pairs_l (n : Int) (es : List S71) (hes : es.length ≤ 1048576) : ∀ (d i : Nat), i + d = es.length → Ev (fun k => spec_l4Pairs.l0 k n es (i : Int)) (pfE (wrap64 (n - 1)) es i d && ((decide (0 ≤ n) && decide (n ≤ 8)) && decide ((es.length : Int) ≤ 28))) := by
  intro d
  induction d with
  | zero =>
    intro i hi
    refine ev_succ ?_
    simp only [spec_l4Pairs.l0, if_neg (show ¬ (i : Int) < (es.length : Int) by omega), l1In_eq, Option.bind_some, pfE, Bool.true_and]
    cases hb : (decide (0 ≤ n) && decide (n ≤ 8))
    · simp only [Bool.false_eq_true, if_false, Bool.false_and]; exact ev_now _
    · simp only [if_true, Bool.true_and]; exact ev_now _
  | succ d ih =>
    intro i hi
    refine ev_succ ?_
    have h := ih (i + 1) (by omega)
    simp only [spec_l4Pairs.l0, if_pos (show (i : Int) < (es.length : Int) by omega), if_pos (show (0 : Int) ≤ (i : Int) by omega), l1In_eq, l4Before_eq, Option.bind_some, pfE, wsucc i (by omega)]
    unfold cE
    by_cases ha : (decide (0 ≤ (rd_T71 es (i : Int)).f0) && decide ((rd_T71 es (i : Int)).f0 ≤ wrap64 (n - 1))) = true
    · by_cases hb : (decide (0 ≤ (rd_T71 es (i : Int)).f1) && decide ((rd_T71 es (i : Int)).f1 ≤ wrap64 (n - 1))) = true
      · by_cases hc : (rd_T71 es (i : Int)).f0 = (rd_T71 es (i : Int)).f1
        · simp only [ha, hb, if_true, if_pos hc, decide_eq_true hc, Bool.not_true, Bool.and_false, Bool.false_and]; exact ev_now _
        · by_cases h0 : i = 0
          · subst h0
            simp only [ha, hb, if_true, if_neg hc, decide_true, Bool.true_or, Bool.true_and, decide_eq_false hc, Bool.not_false, gt_iff_lt, if_neg (show ¬ ((0 : Int) < ((0 : Nat) : Int)) by omega)]
            exact h
          · simp only [ha, hb, if_true, if_neg hc, if_pos (show (i : Int) > 0 by omega), wpred i (by omega) (by omega), if_pos (show (0 : Int) ≤ ((i - 1 : Nat) : Int) by omega), if_pos (show ((i - 1 : Nat) : Int) < (es.length : Int) by omega), decide_eq_false h0, Bool.false_or, Bool.true_and, decide_eq_false hc, Bool.not_false]
            cases hd : (decide ((rd_T71 es ((i - 1 : Nat) : Int)).f0 < (rd_T71 es (i : Int)).f0) || decide ((rd_T71 es ((i - 1 : Nat) : Int)).f0 = (rd_T71 es (i : Int)).f0) && decide ((rd_T71 es ((i - 1 : Nat) : Int)).f1 < (rd_T71 es (i : Int)).f1))
            · simp only [Bool.false_eq_true, if_false, Bool.false_and]; exact ev_now _
            · simp only [if_true, Bool.true_and]; exact h
      · simp only [ha, if_true, if_neg hb, Bool.not_eq_true .. ▸ hb, Bool.and_false, Bool.false_and]; exact ev_now _
    · simp only [if_neg ha, Bool.not_eq_true .. ▸ ha, Bool.false_and]; exact ev_now _
def okE (n : Int) (es : List S71) : Bool := pfE (wrap64 (n - 1)) es 0 es.length && ((decide (0 ≤ n) && decide (n ≤ 8)) && decide ((es.length : Int) ≤ 28))
theorem l4Pairs_ev (n : Int) (es : List S71) (hes : es.length ≤ 1048576) : Ev (fun k => spec_l4Pairs.f k n es) (okE n es) := by
  unfold spec_l4Pairs.f
  exact l4Pairs_l n es hes es.length 0 (by omega)
theorem pfE_in (n : Nat) (hn : n ≤ 8) (es : List S71) : ∀ (d i : Nat), i + d = es.length → pfE (wrap64 ((n : Int) - 1)) es i d = true → ∀ j, i ≤ j → (hj : j < es.length) → 0 ≤ (es[j]).f0 ∧ (es[j]).f0 < n ∧ 0 ≤ (es[j]).f1 ∧ (es[j]).f1 < n := by
  intro d
  induction d with
  | zero => intro i hi _ j hj hj'; omega
  | succ d ih =>
    intro i hi h j hj hj'
    unfold pfE at h
    rw [Bool.and_eq_true] at h
    by_cases he : j = i
    · subst he
      have h1 := h.1
      unfold cE at h1
      rw [rdA2 es j hj', w64 (by omega) (by omega)] at h1
      simp only [Bool.and_eq_true, decide_eq_true_eq] at h1
      obtain ⟨⟨⟨⟨a1, a2⟩, ⟨a3, a4⟩⟩, _⟩, _⟩ := h1
      exact ⟨a1, by omega, a3, by omega⟩
    · exact ih (i + 1) (by omega) h.2 j (by omega) hj'
theorem okE_in (n : Int) (es : List S71) (h : okE n es = true) : ∃ m : Nat, n = m ∧ m ≤ 8 ∧ es.length ≤ 28 ∧ inN m es := by
  unfold okE at h
  simp only [Bool.and_eq_true, decide_eq_true_eq] at h
  obtain ⟨h1, ⟨h2, h3⟩, h4⟩ := h
  obtain ⟨m, rfl⟩ := Int.eq_ofNat_of_zero_le h2
  refine ⟨m, rfl, by omega, by omega, fun e he => ?_⟩
  obtain ⟨j, hj, rfl⟩ := List.mem_iff_getElem.mp he
  have := pfE_in m (by omega) es es.length 0 (by omega) h1 j (by omega) hj
  omega
/-- No job stands before itself, from the i-th on. -/
def acyF (t : List (List Bool)) (i : Nat) : Nat → Bool
  | 0 => true
  | d + 1 => !tb t i i && acyF t (i + 1) d
def good4 (n : Int) (es : List S71) : Bool := okE n es && acyF (closT n.toNat es) 0 n.toNat
theorem l4Good_l (n : Nat) (hn : n ≤ 8) (t : List (List Bool)) (ht : Sq n t) : ∀ (d i : Nat), i + d = n → Ev (fun k => spec_l4Good.l0 k (n : Int) t (i : Int)) (acyF t i d) := by
  intro d
  induction d with
  | zero =>
    intro i hi
    refine ev_succ ?_
    simp only [spec_l4Good.l0, if_neg (show ¬ (i : Int) < (n : Int) by omega), acyF]
    exact ev_now _
  | succ d ih =>
    intro i hi
    refine ev_succ ?_
    have h := ih (i + 1) (by omega)
    have hl := ht.1
    have hr : (rd_L7 t (i : Int)).length = n := by rw [rdBB t i (by omega)]; exact ht.row i (by omega)
    simp only [spec_l4Good.l0, if_pos (show (i : Int) < (n : Int) by omega), if_pos (show (0 : Int) ≤ (i : Int) by omega), if_pos (show (i : Int) < (t.length : Int) by omega), if_pos (show (i : Int) < ((rd_L7 t (i : Int)).length : Int) by omega), rdTT ht i i (by omega) (by omega), wsucc i (by omega), acyF]
    cases tb t i i
    · simp only [Bool.false_eq_true, if_false, Bool.not_false, Bool.true_and]; exact h
    · simp only [if_true, Bool.not_true, Bool.false_and]; exact ev_now _
theorem l4Good_ev (n : Int) (es : List S71) (hes : es.length ≤ 1048576) : Ev (fun k => spec_l4Good.f k n es) (good4 n es) := by
  unfold spec_l4Good.f good4
  refine ev_bind (l4Pairs_ev n es hes) ?_
  cases hk : okE n es
  · simp only [Bool.false_eq_true, if_false, Bool.false_and]; exact ev_now _
  · obtain ⟨m, rfl, hm, hl, hin⟩ := okE_in n es hk
    simp only [if_true, Bool.true_and, Int.toNat_natCast]
    exact ev_bind (l4Table_ev m hm es hes hin) (l4Good_l m hm _ (clos_sq m es hin) m 0 (by omega))
theorem isPrec_l1 (n : Nat) (hn : n ≤ 8) (t : List (List Bool)) (ht : Sq n t) : ∀ (d i : Nat), i + d = n → Ev (fun k => impl_IsPrecedence.l1 k t (n : Int) (i : Int)) (acyF t i d) := by
  intro d
  induction d with
  | zero =>
    intro i hi
    refine ev_succ ?_
    simp only [impl_IsPrecedence.l1, if_neg (show ¬ (i : Int) < (n : Int) by omega), acyF]
    exact ev_now _
  | succ d ih =>
    intro i hi
    refine ev_succ ?_
    have h := ih (i + 1) (by omega)
    have hl := ht.1
    have hr : (rd_L7 t (i : Int)).length = n := by rw [rdBB t i (by omega)]; exact ht.row i (by omega)
    simp only [impl_IsPrecedence.l1, if_pos (show (i : Int) < (n : Int) by omega), if_pos (show (0 : Int) ≤ (i : Int) by omega), if_pos (show (i : Int) < (t.length : Int) by omega), if_pos (show (i : Int) < ((rd_L7 t (i : Int)).length : Int) by omega), rdTT ht i i (by omega) (by omega), wsucc i (by omega), acyF]
    cases tb t i i
    · simp only [Bool.false_eq_true, if_false, Bool.not_false, Bool.true_and]; exact h
    · simp only [if_true, Bool.not_true, Bool.false_and]; exact ev_now _
theorem isPrec_l0 (n : Nat) (hn : n ≤ 8) (es : List S71) (hes : es.length ≤ 28) (hG : pfE (wrap64 ((n : Int) - 1)) es 0 es.length = true → inN n es) :
    ∀ (d i : Nat), i + d = es.length → (pfE (wrap64 ((n : Int) - 1)) es i d = true → pfE (wrap64 ((n : Int) - 1)) es 0 es.length = true) → Ev (fun k => impl_IsPrecedence.l0 k (n : Int) es es (es.length : Int) (i : Int)) (pfE (wrap64 ((n : Int) - 1)) es i d && acyF (closT n es) 0 n) := by
  intro d
  induction d with
  | zero =>
    intro i hi hp
    have hin := hG (hp rfl)
    have hl := (clos_sq n es hin).1
    refine ev_succ ?_
    simp only [impl_IsPrecedence.l0, if_neg (show ¬ (i : Int) < (es.length : Int) by omega), pfE, Bool.true_and]
    refine ev_bind (closure_ev n hn es (by omega) hin) ?_
    rw [hl]
    exact isPrec_l1 n hn _ (clos_sq n es hin) n 0 (by omega)
  | succ d ih =>
    intro i hi hp
    refine ev_succ ?_
    have hm : wrap64 ((n : Int) - 1) = (n : Int) - 1 := w64 (by omega) (by omega)
    have e1 : ∀ x : Int, decide (x ≤ (n : Int) - 1) = decide (x < (n : Int)) := fun x => by rw [decide_eq_decide]; omega
    have h := fun (hq : cE (wrap64 ((n : Int) - 1)) es i = true) => ih (i + 1) (by omega) (fun x => hp (by rw [pfE, hq, x]; rfl))
    simp only [impl_IsPrecedence.l0, if_pos (show (i : Int) < (es.length : Int) by omega), if_pos (show (0 : Int) ≤ (i : Int) by omega), isNumber_eq _ (n : Int) (by omega) (by omega), Option.bind_some, pfE]
    have hcE : cE (wrap64 ((n : Int) - 1)) es i = (decide (0 ≤ (rd_T71 es (i : Int)).f0) && decide ((rd_T71 es (i : Int)).f0 < (n : Int)) && (decide (0 ≤ (rd_T71 es (i : Int)).f1) && decide ((rd_T71 es (i : Int)).f1 < (n : Int))) && !decide ((rd_T71 es (i : Int)).f0 = (rd_T71 es (i : Int)).f1) &&
        (decide (i = 0) || decide ((rd_T71 es ((i - 1 : Nat) : Int)).f0 < (rd_T71 es (i : Int)).f0) || decide ((rd_T71 es ((i - 1 : Nat) : Int)).f0 = (rd_T71 es (i : Int)).f0) && decide ((rd_T71 es ((i - 1 : Nat) : Int)).f1 < (rd_T71 es (i : Int)).f1))) := by
      unfold cE; rw [hm, e1, e1]
    by_cases ha : (decide (0 ≤ (rd_T71 es (i : Int)).f0) && decide ((rd_T71 es (i : Int)).f0 < (n : Int))) = true
    · by_cases hb : (decide (0 ≤ (rd_T71 es (i : Int)).f1) && decide ((rd_T71 es (i : Int)).f1 < (n : Int))) = true
      · simp only [ha, hb, if_true]
        refine ev_succ ?_
        rw [ha, hb] at hcE
        by_cases hc : (rd_T71 es (i : Int)).f0 = (rd_T71 es (i : Int)).f1
        · rw [hcE]
          simp only [impl_IsPrecedence.j2, hc, beq_self_eq_true, if_true, decide_true, Bool.not_true, Bool.and_false, Bool.false_and]; exact ev_now _
        · by_cases h0 : i = 0
          · have hc' : cE (wrap64 ((n : Int) - 1)) es i = true := by rw [hcE]; simp only [decide_eq_false hc, decide_eq_true h0]; rfl
            have h := h hc'
            rw [hc']
            subst h0
            simp only [impl_IsPrecedence.j2, beq_eq_false_iff_ne.mpr hc, Bool.false_eq_true, if_false, gt_iff_lt, if_neg (show ¬ ((0 : Int) < ((0 : Nat) : Int)) by omega), wsucc 0 (by omega), Bool.true_and]
            exact h
          · simp only [impl_IsPrecedence.j2, beq_eq_false_iff_ne.mpr hc, Bool.false_eq_true, if_false, gt_iff_lt, ge_iff_le, if_pos (show (0 : Int) < (i : Int) by omega), wpred i (by omega) (by omega), if_pos (show (0 : Int) ≤ ((i - 1 : Nat) : Int) by omega), if_pos (show ((i - 1 : Nat) : Int) < (es.length : Int) by omega), wsucc i (by omega)]
            by_cases g1 : (rd_T71 es (i : Int)).f0 < (rd_T71 es ((i - 1 : Nat) : Int)).f0
            · have hc' : cE (wrap64 ((n : Int) - 1)) es i = false := by rw [hcE]; simp only [decide_eq_false h0, decide_eq_false (show ¬ (rd_T71 es ((i - 1 : Nat) : Int)).f0 < (rd_T71 es (i : Int)).f0 by omega), decide_eq_false (show ¬ (rd_T71 es ((i - 1 : Nat) : Int)).f0 = (rd_T71 es (i : Int)).f0 by omega), Bool.false_and, Bool.false_or, Bool.or_false, Bool.and_false]
              simp only [if_pos g1, hc', Bool.false_and]; exact ev_now _
            · simp only [if_neg g1]
              by_cases g2 : (rd_T71 es ((i - 1 : Nat) : Int)).f0 = (rd_T71 es (i : Int)).f0
              · simp only [if_pos g2]
                by_cases g3 : (rd_T71 es (i : Int)).f1 ≤ (rd_T71 es ((i - 1 : Nat) : Int)).f1
                · have hc' : cE (wrap64 ((n : Int) - 1)) es i = false := by rw [hcE]; simp only [decide_eq_false h0, decide_eq_false (show ¬ (rd_T71 es ((i - 1 : Nat) : Int)).f0 < (rd_T71 es (i : Int)).f0 by omega), decide_eq_false (show ¬ (rd_T71 es ((i - 1 : Nat) : Int)).f1 < (rd_T71 es (i : Int)).f1 by omega), Bool.and_false, Bool.false_or, Bool.or_false]
                  simp only [if_pos g3, hc', Bool.false_and]; exact ev_now _
                · have hc' : cE (wrap64 ((n : Int) - 1)) es i = true := by rw [hcE]; simp only [decide_eq_false hc, decide_eq_true g2, decide_eq_true (show (rd_T71 es ((i - 1 : Nat) : Int)).f1 < (rd_T71 es (i : Int)).f1 by omega), Bool.and_true, Bool.or_true, Bool.not_false]
                  simp only [if_neg g3, hc', Bool.true_and]; exact h hc'
              · have hc' : cE (wrap64 ((n : Int) - 1)) es i = true := by rw [hcE]; simp only [decide_eq_false hc, decide_eq_true (show (rd_T71 es ((i - 1 : Nat) : Int)).f0 < (rd_T71 es (i : Int)).f0 by omega), Bool.and_true, Bool.or_true, Bool.true_or, Bool.not_false]
                simp only [if_neg g2, hc', Bool.true_and]; exact h hc'
      · have hb' : (decide (0 ≤ (rd_T71 es (i : Int)).f1) && decide ((rd_T71 es (i : Int)).f1 < (n : Int))) = false := by simpa using hb
        have hc' : cE (wrap64 ((n : Int) - 1)) es i = false := by rw [hcE, hb', Bool.and_false, Bool.false_and, Bool.false_and]
        simp only [ha, if_true, if_neg hb, hc', Bool.false_and]
        refine ev_succ ?_
        simp only [impl_IsPrecedence.j2, if_true]; exact ev_now _
    · have ha' : (decide (0 ≤ (rd_T71 es (i : Int)).f0) && decide ((rd_T71 es (i : Int)).f0 < (n : Int))) = false := by simpa using ha
      have hc' : cE (wrap64 ((n : Int) - 1)) es i = false := by rw [hcE, ha', Bool.false_and, Bool.false_and, Bool.false_and]
      simp only [if_neg ha, hc', Bool.false_and]
      refine ev_succ ?_
      simp only [impl_IsPrecedence.j2, if_true]; exact ev_now _
theorem isPrec_ev (n : Int) (es : List S71) : Ev (fun k => impl_IsPrecedence.f k n es) (good4 n es) := by
  unfold impl_IsPrecedence.f
  simp only [within_eq, Option.bind_some]
  by_cases h : 0 ≤ n ∧ n ≤ 8
  · obtain ⟨m, rfl⟩ := Int.eq_ofNat_of_zero_le h.1
    have hb : (decide (0 ≤ (m : Int)) && decide ((m : Int) ≤ 8)) = true := by simp; omega
    simp only [hb, if_true]
    refine ev_succ ?_
    by_cases hl : (es.length : Int) > 28
    · have : good4 (m : Int) es = false := by unfold good4 okE; rw [decide_eq_false (show ¬ (es.length : Int) ≤ 28 by omega)]; simp
      simp only [impl_IsPrecedence.j0, decide_eq_true hl, if_true, this]; exact ev_now _
    · simp only [impl_IsPrecedence.j0, decide_eq_false hl, Bool.false_eq_true, if_false]
      have hk : good4 (m : Int) es = (pfE (wrap64 ((m : Int) - 1)) es 0 es.length && acyF (closT m es) 0 m) := by
        unfold good4 okE; rw [hb, decide_eq_true (show (es.length : Int) ≤ 28 by omega)]; simp
      rw [hk]
      refine isPrec_l0 m (by omega) es (by omega) (fun hp => ?_) es.length 0 (by omega) (fun x => x)
      obtain ⟨m', e, _, _, hin⟩ := okE_in (m : Int) es (by unfold okE; rw [hp, hb, decide_eq_true (show (es.length : Int) ≤ 28 by omega)]; rfl)
      rw [show m = m' by omega]; exact hin
  · have hb : (decide (0 ≤ n) && decide (n ≤ 8)) = false := by
      rw [Bool.eq_false_iff]; intro x; simp only [Bool.and_eq_true, decide_eq_true_eq] at x; exact h x
    have : good4 n es = false := by unfold good4 okE; rw [hb]; simp
    simp only [hb, Bool.false_eq_true, if_false, this]
    refine ev_succ ?_
    simp only [impl_IsPrecedence.j0, if_true]; exact ev_now _

theorem tb_put {n : Nat} {t : List (List Bool)} (h : Sq n t) (i j a b : Nat) (hi : i < n) (hj : j < n) (ha : a < n) (hb : b < n) (v : Bool) : tb (putT t i j v) a b = if a = i ∧ b = j then v else tb t a b := by
  have hl := h.1
  have hri := h.row i hi
  have hg : t.getD i [] = t[i] := by rw [List.getD_eq_getElem?_getD, List.getElem?_eq_getElem (by omega)]; rfl
  unfold tb putT
  rw [hg]
  by_cases c : a = i
  · subst c
    rw [List.getD_eq_getElem?_getD (l := t.set a _), List.getElem?_set_self (by omega), Option.getD_some, hg]
    by_cases cb : b = j
    · subst cb
      rw [if_pos ⟨rfl, rfl⟩, List.getD_eq_getElem?_getD, List.getElem?_set_self (by omega), Option.getD_some]
    · rw [if_neg (fun x => cb x.2), List.getD_eq_getElem?_getD, List.getElem?_set_ne (fun x => cb x.symm), ← List.getD_eq_getElem?_getD]
  · rw [if_neg (fun x => c x.1), List.getD_eq_getElem?_getD (l := t.set i _), List.getElem?_set_ne (fun x => c x.symm), ← List.getD_eq_getElem?_getD]
/-- What a phase has done at the places S. -/
def Phase (n k : Nat) (t t' : List (List Bool)) (S : Nat → Nat → Prop) : Prop := Sq n t' ∧ ∀ a b, a < n → b < n → (tb t' a b = true ↔ tb t a b = true ∨ S a b ∧ tb t a k = true ∧ tb t k b = true)
theorem Phase.step {n k : Nat} {t t' : List (List Bool)} {S : Nat → Nat → Prop} (h : Phase n k t t' S) (hk : k < n) (i j : Nat) (hi : i < n) (hj : j < n) : Phase n k t (stepT t' k i j) (fun a b => S a b ∨ a = i ∧ b = j) := by
  refine ⟨h.1.step k i j hi, fun a b ha hb => ?_⟩
  have h1 : tb t' i k = true ↔ tb t i k = true := by
    rw [h.2 i k hi hk]
    exact ⟨fun x => x.elim id (fun y => y.2.1), Or.inl⟩
  have h2 : tb t' k j = true ↔ tb t k j = true := by
    rw [h.2 k j hk hj]
    exact ⟨fun x => x.elim id (fun y => y.2.2), Or.inl⟩
  unfold stepT
  by_cases c : (tb t' i k && tb t' k j) = true
  · rw [if_pos c, tb_put h.1 i j a b hi hj ha hb]
    rw [Bool.and_eq_true, h1, h2] at c
    by_cases e : a = i ∧ b = j
    · rw [if_pos e]
      obtain ⟨rfl, rfl⟩ := e
      exact ⟨fun _ => Or.inr ⟨Or.inr ⟨rfl, rfl⟩, c.1, c.2⟩, fun _ => rfl⟩
    · rw [if_neg e, h.2 a b ha hb]
      exact ⟨fun x => x.imp id (fun y => ⟨Or.inl y.1, y.2⟩), fun x => x.imp id (fun y => ⟨y.1.resolve_right e, y.2⟩)⟩
  · rw [if_neg c, h.2 a b ha hb]
    rw [Bool.and_eq_true, h1, h2] at c
    refine ⟨fun x => x.imp id (fun y => ⟨Or.inl y.1, y.2⟩), fun x => ?_⟩
    rcases x with x | ⟨s | ⟨rfl, rfl⟩, y⟩
    · exact Or.inl x
    · exact Or.inr ⟨s, y⟩
    · exact absurd y c
theorem Phase.congr {n k : Nat} {t t' : List (List Bool)} {S S' : Nat → Nat → Prop} (h : Phase n k t t' S) (e : ∀ a b, a < n → b < n → (S a b ↔ S' a b)) : Phase n k t t' S' := ⟨h.1, fun a b ha hb => by rw [h.2 a b ha hb, e a b ha hb]⟩
theorem Phase.row {n k : Nat} {t : List (List Bool)} (hk : k < n) (i : Nat) (hi : i < n) : ∀ (js : List Nat) (t' : List (List Bool)) (S : Nat → Nat → Prop), (∀ j ∈ js, j < n) → Phase n k t t' S → Phase n k t (rowF t' k i js) (fun a b => S a b ∨ a = i ∧ b ∈ js) := by
  intro js
  induction js with
  | nil => intro t' S _ h; exact h.congr (fun a b _ _ => by simp)
  | cons j js ih =>
    intro t' S hj h
    have h' := ih (stepT t' k i j) _ (fun x hx => hj x (by simp [hx])) (h.step hk i j hi (hj j (by simp)))
    refine Phase.congr h' (fun a b _ _ => ?_)
    constructor
    · rintro ((s | ⟨rfl, rfl⟩) | ⟨rfl, hb⟩)
      · exact Or.inl s
      · exact Or.inr ⟨rfl, by simp⟩
      · exact Or.inr ⟨rfl, by simp [hb]⟩
    · rintro (s | ⟨rfl, hb⟩)
      · exact Or.inl (Or.inl s)
      · rcases List.mem_cons.mp hb with rfl | hb
        · exact Or.inl (Or.inr ⟨rfl, rfl⟩)
        · exact Or.inr ⟨rfl, hb⟩
theorem Phase.mid {n k : Nat} {t : List (List Bool)} (hk : k < n) : ∀ (is : List Nat) (t' : List (List Bool)) (S : Nat → Nat → Prop), (∀ i ∈ is, i < n) → Phase n k t t' S → Phase n k t (midF n t' k is) (fun a b => S a b ∨ a ∈ is) := by
  intro is
  induction is with
  | nil => intro t' S _ h; exact h.congr (fun a b _ _ => by simp)
  | cons i is ih =>
    intro t' S hi h
    have h' := ih (rowF t' k i (List.range' 0 n)) _ (fun x hx => hi x (by simp [hx])) (Phase.row hk i (hi i (by simp)) (List.range' 0 n) t' S (fun j hj => by rw [List.mem_range'_1] at hj; omega) h)
    refine Phase.congr h' (fun a b _ hb => ?_)
    constructor
    · rintro ((s | ⟨rfl, _⟩) | hm)
      · exact Or.inl s
      · exact Or.inr (by simp)
      · exact Or.inr (by simp [hm])
    · rintro (s | hm)
      · exact Or.inl (Or.inl s)
      · rcases List.mem_cons.mp hm with rfl | hm
        · exact Or.inl (Or.inr ⟨rfl, by rw [List.mem_range'_1]; omega⟩)
        · exact Or.inr hm
theorem mid_tb {n k : Nat} {t : List (List Bool)} (ht : Sq n t) (hk : k < n) (a b : Nat) (ha : a < n) (hb : b < n) : tb (midF n t k (List.range' 0 n)) a b = true ↔ tb t a b = true ∨ tb t a k = true ∧ tb t k b = true := by
  have h0 : Phase n k t t (fun _ _ => False) := ⟨ht, fun a b _ _ => by simp⟩
  have h := Phase.mid hk (List.range' 0 n) t _ (fun i hi => by rw [List.mem_range'_1] at hi; omega) h0
  rw [h.2 a b ha hb]
  have hm : a ∈ List.range' 0 n := by rw [List.mem_range'_1]; omega
  simp [hm]
/-- Steps through the jobs before k are closed. -/
def Tr (n k : Nat) (t : List (List Bool)) : Prop := ∀ m a b, m < k → a < n → b < n → tb t a m = true → tb t m b = true → tb t a b = true
theorem out_tr (n : Nat) : ∀ (d k : Nat) (t : List (List Bool)), k + d = n → Sq n t → Tr n k t → Tr n n (outF n t (List.range' k d)) ∧ Sq n (outF n t (List.range' k d)) := by
  intro d
  induction d with
  | zero => intro k t hk ht h; rw [show k = n by omega] at h; exact ⟨h, ht⟩
  | succ d ih =>
    intro k t hk ht h
    rw [List.range'_succ]
    refine ih (k + 1) (midF n t k (List.range' 0 n)) (by omega) (mid_sq ht k _ (fun i hi => by rw [List.mem_range'_1] at hi; omega)) ?_
    intro m a b hm ha hb h1 h2
    have hkn : k < n := by omega
    have hmn : m < n := by omega
    rw [mid_tb ht hkn a m ha hmn] at h1
    rw [mid_tb ht hkn m b hmn hb] at h2
    rw [mid_tb ht hkn a b ha hb]
    by_cases c : m = k
    · subst c
      exact Or.inr ⟨h1.elim id (fun x => x.1), h2.elim id (fun x => x.2)⟩
    · have hmk : m < k := by omega
      rcases h1 with h1 | ⟨h1, h1'⟩
      · rcases h2 with h2 | ⟨h2, h2'⟩
        · exact Or.inl (h m a b hmk ha hb h1 h2)
        · exact Or.inr ⟨h m a k hmk ha hkn h1 h2, h2'⟩
      · rcases h2 with h2 | ⟨h2, h2'⟩
        · exact Or.inr ⟨h1, h m k b hmk hkn hb h1' h2⟩
        · exact Or.inr ⟨h1, h2'⟩
theorem clos_tr (n : Nat) (es : List S71) (hin : inN n es) : ∀ a m b, a < n → m < n → b < n → tb (closT n es) a m = true → tb (closT n es) m b = true → tb (closT n es) a b = true := by
  have h0 : Sq n (edgeF (List.replicate n (List.replicate n false)) es) := edge_sq ⟨by simp, fun r hr => by rw [List.eq_of_mem_replicate hr]; simp⟩ es hin
  have h := (out_tr n n 0 _ (Nat.zero_add _) h0 (fun m a b hm => by omega)).1
  intro a m b ha hm hb h1 h2
  exact h m a b hm ha hb h1 h2
theorem acy_irr (n : Nat) (t : List (List Bool)) : ∀ (d i : Nat), acyF t i d = true → ∀ j, i ≤ j → j < i + d → tb t j j = false := by
  intro d
  induction d with
  | zero => intro i _ j h1 h2; omega
  | succ d ih =>
    intro i h j h1 h2
    unfold acyF at h
    rw [Bool.and_eq_true] at h
    by_cases e : j = i
    · subst e; simpa using h.1
    · exact ih (i + 1) h.2 j (by omega) (by omega)
/-- What a good precedence gives. -/
theorem good4_facts (n : Int) (es : List S71) (h : good4 n es = true) : ∃ m : Nat, n = m ∧ m ≤ 8 ∧ es.length ≤ 28 ∧ inN m es ∧ (∀ j, j < m → tb (closT m es) j j = false) := by
  unfold good4 at h
  rw [Bool.and_eq_true] at h
  obtain ⟨m, rfl, h1, h2, h3⟩ := okE_in n es h.1
  refine ⟨m, rfl, h1, h2, h3, fun j hj => ?_⟩
  have := h.2
  rw [Int.toNat_natCast] at this
  exact acy_irr m _ m 0 this j (by omega) (by omega)
/-- How many jobs come after a job, among those before a number. -/
def cntF (t : List (List Bool)) (j : Nat) : Nat → Nat
  | 0 => 0
  | d + 1 => cntF t j d + if tb t j d = true then 1 else 0
theorem cnt_le (t : List (List Bool)) (i j : Nat) : ∀ d : Nat, (∀ b, b < d → tb t i b = true → tb t j b = true) → cntF t i d ≤ cntF t j d := by
  intro d
  induction d with
  | zero => intro _; exact Nat.le_refl _
  | succ d ih =>
    intro h
    have h1 := ih (fun b hb => h b (by omega))
    unfold cntF
    by_cases c : tb t i d = true
    · rw [if_pos c, if_pos (h d (by omega) c)]; omega
    · rw [if_neg c]; omega
theorem cnt_lt (t : List (List Bool)) (i j : Nat) : ∀ d : Nat, (∀ b, b < d → tb t i b = true → tb t j b = true) → (∃ b, b < d ∧ tb t i b = false ∧ tb t j b = true) → cntF t i d < cntF t j d := by
  intro d
  induction d with
  | zero => rintro _ ⟨b, hb, _⟩; omega
  | succ d ih =>
    rintro h ⟨b, hb, h1, h2⟩
    unfold cntF
    by_cases e : b = d
    · subst e
      have := cnt_le t i j b (fun x hx => h x (by omega))
      rw [if_pos h2, if_neg (by rw [h1]; decide)]; omega
    · have := ih (fun x hx => h x (by omega)) ⟨b, by omega, h1, h2⟩
      by_cases c : tb t i d = true
      · rw [if_pos c, if_pos (h d (by omega) c)]; omega
      · rw [if_neg c]; omega
theorem cnt_bound (t : List (List Bool)) (j : Nat) : ∀ d : Nat, cntF t j d ≤ d := by
  intro d
  induction d with
  | zero => exact Nat.le_refl _
  | succ d ih => unfold cntF; split <;> omega
/-- Of two jobs in order the later one has fewer after it. -/
theorem cnt_desc (n : Nat) (es : List S71) (hin : inN n es) (hirr : ∀ j, j < n → tb (closT n es) j j = false) (j i : Nat) (hj : j < n) (hi : i < n) (h : tb (closT n es) j i = true) : cntF (closT n es) i n < cntF (closT n es) j n :=
  cnt_lt _ i j n (fun b hb hib => clos_tr n es hin j i b hj hi hb h hib) ⟨i, hi, hirr i hi, h⟩

def par7 (xs : List S79) (m : Int) (es : List S71) : Bool := plainB xs && ((decide (1 ≤ m) && decide (m ≤ 4)) && good4 (xs.length : Int) es)
theorem l7Good_ev (xs : List S79) (m : Int) (es : List S71) (hn : xs.length ≤ 1048576) (he : es.length ≤ 1048576) : Ev (fun k => spec_l7Good.f k xs m es) (par7 xs m es) := by
  have h1 := l2Good_ev xs (by omega)
  have h2 := l3Plain_ev xs (by omega)
  have h3 := l4Good_ev (xs.length : Int) es he
  unfold spec_l7Good.f par7 plainB
  simp only [l1In_eq, Option.bind_some]
  refine ev_bind h1 ?_
  cases goodB xs
  · simp only [Bool.false_eq_true, if_false, Bool.false_and]; exact ev_now _
  · simp only [if_true, Bool.true_and]
    refine ev_bind h2 ?_
    cases xs.all freeJ
    · simp only [Bool.false_eq_true, if_false, Bool.false_and]; exact ev_now _
    · simp only [if_true, Bool.true_and]
      cases (decide (1 ≤ m) && decide (m ≤ 4))
      · simp only [Bool.false_eq_true, if_false, Bool.false_and]; exact ev_now _
      · simp only [if_true, Bool.true_and]; exact ev_bind h3 (ev_now _)
theorem isParallel_ev (xs : List S79) (m : Int) (es : List S71) (hn : xs.length ≤ 1048576) : Ev (fun k => impl_isParallel.f k xs m es) (par7 xs m es) := by
  have h1 := IsPlain_ev xs (by omega)
  have h3 := isPrec_ev (xs.length : Int) es
  unfold impl_isParallel.f par7
  simp only [within_eq, Option.bind_some]
  refine ev_bind h1 ?_
  cases plainB xs
  · simp only [Bool.false_eq_true, if_false, Bool.false_and]; exact ev_now _
  · simp only [if_true, Bool.true_and]
    cases (decide (1 ≤ m) && decide (m ≤ 4))
    · simp only [Bool.false_eq_true, if_false, Bool.false_and]; exact ev_now _
    · simp only [if_true, Bool.true_and]; exact ev_bind h3 (ev_now _)
theorem par7_facts (xs : List S79) (m : Int) (es : List S71) (h : par7 xs m es = true) : goodB xs = true ∧ (1 ≤ m ∧ m ≤ 4) ∧ xs.length ≤ 8 ∧ es.length ≤ 28 ∧ inN xs.length es ∧ (∀ j, j < xs.length → tb (closT xs.length es) j j = false) := by
  unfold par7 at h
  simp only [Bool.and_eq_true, decide_eq_true_eq] at h
  obtain ⟨h1, h2, h3⟩ := h
  obtain ⟨n, e, a, b, c, d⟩ := good4_facts _ es h3
  have e' : xs.length = n := by omega
  subst e'
  exact ⟨plain_good h1, h2, a, b, c, d⟩

theorem scan {β : Type} (n : Nat) (F : Nat → Nat → Option β) (G : Nat → Option β) (bad : Nat → Prop) (x : β)
    (hit : ∀ j, j < n → bad j → Ev (F j) x) (miss : ∀ j r, j < n → ¬ bad j → Ev (F (j + 1)) r → Ev (F j) r) (fin : ∀ r, Ev G r → Ev (F n) r) :
    (∀ d j, j + d = n → (∃ j', j ≤ j' ∧ j' < n ∧ bad j') → Ev (F j) x) ∧ (∀ d j r, j + d = n → (∀ j', j ≤ j' → j' < n → ¬ bad j') → Ev G r → Ev (F j) r) := by
  refine ⟨?_, ?_⟩
  · intro d
    induction d with
    | zero => rintro j hj ⟨j', h1, h2, _⟩; omega
    | succ d ih =>
      rintro j hj ⟨j', h1, h2, h3⟩
      by_cases h : bad j
      · exact hit j (by omega) h
      · refine miss j x (by omega) h (ih (j + 1) (by omega) ⟨j', ?_, h2, h3⟩)
        rcases Nat.lt_or_ge j j' with g | g
        · omega
        · obtain rfl : j' = j := by omega
          exact absurd h3 h
  · intro d
    induction d with
    | zero => intro j r hj _ hr; obtain rfl : j = n := by omega
              exact fin r hr
    | succ d ih =>
      intro j r hj h hr
      exact miss j r (by omega) (h j (Nat.le_refl _) (by omega)) (ih (j + 1) r (by omega) (fun j' h1 h2 => h j' (by omega) h2) hr)
theorem specKey (b : Bool) (A C Q D : Prop) [Decidable A] [Decidable C] [Decidable Q] [Decidable D] (L : Option Bool) :
    ((b = true ∧ ¬ A ∨ C ∧ Q ∧ ¬ A ∧ D) → (if b = true then (if A then (if C then (if Q then L else L) else L) else some false) else (if C then (if Q then (if A then L else (if D then some false else L)) else L) else L)) = some false) ∧
    (¬ (b = true ∧ ¬ A ∨ C ∧ Q ∧ ¬ A ∧ D) → (if b = true then (if A then (if C then (if Q then L else L) else L) else some false) else (if C then (if Q then (if A then L else (if D then some false else L)) else L) else L)) = L) := by
  cases b <;> by_cases hA : A <;> by_cases hC : C <;> by_cases hQ : Q <;> by_cases hD : D <;> simp [hA, hC, hQ, hD]
theorem implKey (b a : Bool) (C Q D : Prop) [Decidable C] [Decidable Q] [Decidable D] (L : Option Bool) :
    ((b = true ∧ a = false ∨ ¬ C ∧ Q ∧ a = false ∧ D) → (if b = true then (if (!a) = true then some false else (if C then L else (if Q then (if a = true then L else (if D then some false else L)) else L))) else (if false = true then some false else (if C then L else (if Q then (if a = true then L else (if D then some false else L)) else L)))) = some false) ∧
    (¬ (b = true ∧ a = false ∨ ¬ C ∧ Q ∧ a = false ∧ D) → (if b = true then (if (!a) = true then some false else (if C then L else (if Q then (if a = true then L else (if D then some false else L)) else L))) else (if false = true then some false else (if C then L else (if Q then (if a = true then L else (if D then some false else L)) else L)))) = L) := by
  cases b <;> cases a <;> by_cases hC : C <;> by_cases hQ : Q <;> by_cases hD : D <;> simp [hC, hQ, hD]
def okT (m : Int) (P : List S91) (i : Nat) : Prop := (rd_T91 P (i : Int)).f0 = (i : Int) ∧ 0 ≤ (rd_T91 P (i : Int)).f1 ∧ (rd_T91 P (i : Int)).f1 ≤ m - 1 ∧ 0 ≤ (rd_T91 P (i : Int)).f2 ∧ (rd_T91 P (i : Int)).f2 ≤ 500
def lateT (l : List S79) (P : List S91) (i k : Nat) : Prop := (rd_T91 P (k : Int)).f2 < (rd_T91 P (i : Int)).f2 + (rd_T79 l (i : Int)).f0
def badSp (l : List S79) (P : List S91) (t : List (List Bool)) (i k : Nat) : Prop := tb t i k = true ∧ lateT l P i k ∨ i < k ∧ (rd_T91 P (i : Int)).f1 = (rd_T91 P (k : Int)).f1 ∧ lateT l P i k ∧ lateT l P k i
def badIm (l : List S79) (P : List S91) (t : List (List Bool)) (i k : Nat) : Prop := tb t i k = true ∧ lateT l P i k ∨ i ≠ k ∧ (rd_T91 P (i : Int)).f1 = (rd_T91 P (k : Int)).f1 ∧ lateT l P i k ∧ lateT l P k i
theorem bad_same (l : List S79) (P : List S91) (t : List (List Bool)) (n : Nat) : (∃ i, i < n ∧ ∃ k, k < n ∧ badSp l P t i k) ↔ (∃ i, i < n ∧ ∃ k, k < n ∧ badIm l P t i k) := by
  constructor
  · rintro ⟨i, hi, k, hk, h | ⟨h1, h2⟩⟩
    · exact ⟨i, hi, k, hk, Or.inl h⟩
    · exact ⟨i, hi, k, hk, Or.inr ⟨by omega, h2⟩⟩
  · rintro ⟨i, hi, k, hk, h | ⟨h1, h2, h3, h4⟩⟩
    · exact ⟨i, hi, k, hk, Or.inl h⟩
    · rcases Nat.lt_or_gt_of_ne h1 with g | g
      · exact ⟨i, hi, k, hk, Or.inr ⟨g, h2, h3, h4⟩⟩
      · exact ⟨k, hk, i, hi, Or.inr ⟨g, h2.symm, h4, h3⟩⟩
section
variable {l : List S79} (hg : goodB l = true) {m : Int} (hm : 1 ≤ m ∧ m ≤ 4) {P : List S91} (hP : P.length = l.length) {t : List (List Bool)} (ht : Sq l.length t)
include hg hP ht
theorem bb_lenP {i : Nat} (hi : i < l.length) : (rd_L7 t (i : Int)).length = l.length := by have _ := hg; have _ := hP; rw [rdBB t i (by have := ht.1; omega)]; exact ht.row i hi
theorem time_at {i : Nat} (hi : i < l.length) : 1 ≤ (rd_T79 l (i : Int)).f0 ∧ (rd_T79 l (i : Int)).f0 ≤ 50 := by
  have _ := hP
  have _ := ht
  have := good_at hg i hi
  rw [rdI l i hi]
  omega
theorem specP_step (hok : ∀ i, i < l.length → okT m P i) (K i k : Nat) (hi : i < l.length) (hk : k < l.length) : (badSp l P t i k → spec_l7Plan.l2 (K + 1) l P t (i : Int) (k : Int) = some false) ∧ (¬ badSp l P t i k → spec_l7Plan.l2 (K + 1) l P t (i : Int) (k : Int) = spec_l7Plan.l2 K l P t (i : Int) ((k + 1 : Nat) : Int)) := by
  have hl := good_len hg
  have htl := ht.1
  have e := wsucc k (by omega)
  have t1 := time_at hg hP ht hi
  have t2 := time_at hg hP ht hk
  obtain ⟨_, _, _, s1, s2⟩ := hok i hi
  obtain ⟨_, _, _, s3, s4⟩ := hok k hk
  have w1 := w64 (x := (rd_T91 P (i : Int)).f2 + (rd_T79 l (i : Int)).f0) (by omega) (by omega)
  have w2 := w64 (x := (rd_T91 P (k : Int)).f2 + (rd_T79 l (k : Int)).f0) (by omega) (by omega)
  simp only [spec_l7Plan.l2, hP, if_pos (show (k : Int) < (l.length : Int) by omega), if_pos (show (0 : Int) ≤ (i : Int) by omega), if_pos (show (i : Int) < (l.length : Int) by omega), if_pos (show (0 : Int) ≤ (k : Int) by omega), if_pos (show (i : Int) < (t.length : Int) by omega), bb_lenP hg hP ht hi, rdTT ht i k hi hk, w1, w2, e]
  have key := specKey (tb t i k) ((rd_T91 P (k : Int)).f2 ≥ (rd_T91 P (i : Int)).f2 + (rd_T79 l (i : Int)).f0) ((i : Int) < (k : Int)) ((rd_T91 P (i : Int)).f1 = (rd_T91 P (k : Int)).f1) ((rd_T91 P (i : Int)).f2 < (rd_T91 P (k : Int)).f2 + (rd_T79 l (k : Int)).f0) (spec_l7Plan.l2 K l P t (i : Int) ((k + 1 : Nat) : Int))
  refine ⟨fun h => key.1 ?_, fun h => key.2 (fun g => h ?_)⟩
  · rcases h with ⟨h1, h2⟩ | ⟨h1, h2, h3, h4⟩
    · exact Or.inl ⟨h1, by unfold lateT at h2; omega⟩
    · exact Or.inr ⟨by omega, h2, by unfold lateT at h3; omega, h4⟩
  · rcases g with ⟨h1, h2⟩ | ⟨h1, h2, h3, h4⟩
    · exact Or.inl ⟨h1, by unfold lateT; omega⟩
    · exact Or.inr ⟨by omega, h2, by unfold lateT; omega, h4⟩
theorem implP_step (hok : ∀ i, i < l.length → okT m P i) (K i k : Nat) (hi : i < l.length) (hk : k < l.length) : (badIm l P t i k → impl_isPlan.l2 (K + 2) l P t (i : Int) P (l.length : Int) (i : Int) P (l.length : Int) (k : Int) ((rd_T91 P (i : Int)).f0) ((rd_T91 P (i : Int)).f1) ((rd_T91 P (i : Int)).f2) = some false) ∧ (¬ badIm l P t i k → impl_isPlan.l2 (K + 2) l P t (i : Int) P (l.length : Int) (i : Int) P (l.length : Int) (k : Int) ((rd_T91 P (i : Int)).f0) ((rd_T91 P (i : Int)).f1) ((rd_T91 P (i : Int)).f2) = impl_isPlan.l2 K l P t (i : Int) P (l.length : Int) (i : Int) P (l.length : Int) ((k + 1 : Nat) : Int) ((rd_T91 P (i : Int)).f0) ((rd_T91 P (i : Int)).f1) ((rd_T91 P (i : Int)).f2)) := by
  have hl := good_len hg
  have htl := ht.1
  have e := wsucc k (by omega)
  have t1 := time_at hg hP ht hi
  have t2 := time_at hg hP ht hk
  obtain ⟨_, _, _, s1, s2⟩ := hok i hi
  obtain ⟨_, _, _, s3, s4⟩ := hok k hk
  have w1 := w64 (x := (rd_T91 P (i : Int)).f2 + (rd_T79 l (i : Int)).f0) (by omega) (by omega)
  have w2 := w64 (x := (rd_T91 P (k : Int)).f2 + (rd_T79 l (k : Int)).f0) (by omega) (by omega)
  have c1 : (k : Int) < (P.length : Int) := by omega
  simp only [impl_isPlan.l2, if_pos (show (k : Int) < (l.length : Int) by omega), if_pos (show (0 : Int) ≤ (i : Int) by omega), if_pos (show (i : Int) < (l.length : Int) by omega), if_pos (show (0 : Int) ≤ (k : Int) by omega), if_pos c1, if_pos (show (i : Int) < (t.length : Int) by omega), bb_lenP hg hP ht hi, rdTT ht i k hi hk, w1]
  have key := implKey (tb t i k) (decide ((rd_T91 P (i : Int)).f2 + (rd_T79 l (i : Int)).f0 ≤ (rd_T91 P (k : Int)).f2)) ((i : Int) = (k : Int)) ((rd_T91 P (i : Int)).f1 = (rd_T91 P (k : Int)).f1) ((rd_T91 P (k : Int)).f2 + (rd_T79 l (k : Int)).f0 > (rd_T91 P (i : Int)).f2) (impl_isPlan.l2 K l P t (i : Int) P (l.length : Int) (i : Int) P (l.length : Int) ((k + 1 : Nat) : Int) ((rd_T91 P (i : Int)).f0) ((rd_T91 P (i : Int)).f1) ((rd_T91 P (i : Int)).f2))
  simp only [impl_isPlan.j3, e, w2, if_pos (show (0 : Int) ≤ (k : Int) by omega), if_pos (show (k : Int) < (l.length : Int) by omega)]
  refine ⟨fun h => key.1 ?_, fun h => key.2 (fun g => h ?_)⟩
  · rcases h with ⟨h1, h2⟩ | ⟨h1, h2, h3, h4⟩
    · exact Or.inl ⟨h1, decide_eq_false (by unfold lateT at h2; omega)⟩
    · exact Or.inr ⟨by omega, h2, decide_eq_false (by unfold lateT at h3; omega), by unfold lateT at h4; omega⟩
  · rcases g with ⟨h1, h2⟩ | ⟨h1, h2, h3, h4⟩
    · exact Or.inl ⟨h1, by have := of_decide_eq_false h2; unfold lateT; omega⟩
    · exact Or.inr ⟨by omega, h2, by have := of_decide_eq_false h3; unfold lateT; omega, by unfold lateT; omega⟩
theorem specP_loop (hok : ∀ i, i < l.length → okT m P i) : ((∃ i, i < l.length ∧ ∃ k, k < l.length ∧ badSp l P t i k) → Ev (fun K => spec_l7Plan.l1 K l P t 0) false) ∧ (¬ (∃ i, i < l.length ∧ ∃ k, k < l.length ∧ badSp l P t i k) → Ev (fun K => spec_l7Plan.l1 K l P t 0) true) := by
  have hl := good_len hg
  have inner : ∀ i, i < l.length → _ := fun i hi => scan l.length (fun k K => spec_l7Plan.l2 K l P t (i : Int) (k : Int)) (fun K => spec_l7Plan.l1 K l P t ((i + 1 : Nat) : Int)) (badSp l P t i) false
    (fun k hk h => ev_succ (by simp only [(specP_step hg hP ht hok _ i k hi hk).1 h]; exact ev_now _))
    (fun k r hk h hr => ev_succ (by simp only [(specP_step hg hP ht hok _ i k hi hk).2 h]; exact hr))
    (fun r hr => ev_succ (by
      have e := wsucc i (by omega)
      simp only [spec_l7Plan.l2, hP, if_neg (show ¬ ((l.length : Int) < (l.length : Int)) by omega), e]
      exact hr))
  have outer := scan l.length (fun i K => spec_l7Plan.l1 K l P t (i : Int)) (fun _ => some true) (fun i => ∃ k, k < l.length ∧ badSp l P t i k) false
    (fun i hi h => ev_succ (by
      simp only [spec_l7Plan.l1, hP, if_pos (show (i : Int) < (l.length : Int) by omega)]
      obtain ⟨k, h1, h2⟩ := h
      exact (inner i hi).1 l.length 0 (by omega) ⟨k, Nat.zero_le _, h1, h2⟩))
    (fun i r hi h hr => ev_succ (by
      simp only [spec_l7Plan.l1, hP, if_pos (show (i : Int) < (l.length : Int) by omega)]
      exact (inner i hi).2 l.length 0 r (by omega) (fun k _ h2 h3 => h ⟨k, h2, h3⟩) hr))
    (fun r hr => ev_succ (by
      simp only [spec_l7Plan.l1, hP, if_neg (show ¬ ((l.length : Int) < (l.length : Int)) by omega)]
      exact hr))
  exact ⟨fun ⟨i, h1, h2⟩ => outer.1 l.length 0 (by omega) ⟨i, Nat.zero_le _, h1, h2⟩, fun h => outer.2 l.length 0 true (by omega) (fun i _ h1 h2 => h ⟨i, h1, h2⟩) (ev_now _)⟩
theorem implP_loop (hok : ∀ i, i < l.length → okT m P i) : ((∃ i, i < l.length ∧ ∃ k, k < l.length ∧ badIm l P t i k) → Ev (fun K => impl_isPlan.l1 K l P t P (l.length : Int) 0) false) ∧ (¬ (∃ i, i < l.length ∧ ∃ k, k < l.length ∧ badIm l P t i k) → Ev (fun K => impl_isPlan.l1 K l P t P (l.length : Int) 0) true) := by
  have hl := good_len hg
  have inner : ∀ i, i < l.length → _ := fun i hi => scan l.length (fun k K => impl_isPlan.l2 K l P t (i : Int) P (l.length : Int) (i : Int) P (l.length : Int) (k : Int) ((rd_T91 P (i : Int)).f0) ((rd_T91 P (i : Int)).f1) ((rd_T91 P (i : Int)).f2)) (fun K => impl_isPlan.l1 K l P t P (l.length : Int) ((i + 1 : Nat) : Int)) (badIm l P t i) false
    (fun k hk h => by
      show Ev (fun K => impl_isPlan.l2 K l P t (i : Int) P (l.length : Int) (i : Int) P (l.length : Int) (k : Int) ((rd_T91 P (i : Int)).f0) ((rd_T91 P (i : Int)).f1) ((rd_T91 P (i : Int)).f2)) _
      refine ev_succ ?_
      refine ev_succ ?_
      simp only [(implP_step hg hP ht hok _ i k hi hk).1 h]
      exact ev_now _)
    (fun k r hk h hr => by
      show Ev (fun K => impl_isPlan.l2 K l P t (i : Int) P (l.length : Int) (i : Int) P (l.length : Int) (k : Int) ((rd_T91 P (i : Int)).f0) ((rd_T91 P (i : Int)).f1) ((rd_T91 P (i : Int)).f2)) _
      refine ev_succ ?_
      refine ev_succ ?_
      simp only [(implP_step hg hP ht hok _ i k hi hk).2 h]
      exact hr)
    (fun r hr => ev_succ (by
      have e := wsucc i (by omega)
      simp only [impl_isPlan.l2, if_neg (show ¬ ((l.length : Int) < (l.length : Int)) by omega), e]
      exact hr))
  have outer := scan l.length (fun i K => impl_isPlan.l1 K l P t P (l.length : Int) (i : Int)) (fun _ => some true) (fun i => ∃ k, k < l.length ∧ badIm l P t i k) false
    (fun i hi h => ev_succ (by
      simp only [impl_isPlan.l1, if_pos (show (i : Int) < (l.length : Int) by omega), if_pos (show (0 : Int) ≤ (i : Int) by omega), if_pos (show (i : Int) < (P.length : Int) by omega), hP]
      obtain ⟨k, h1, h2⟩ := h
      exact (inner i hi).1 l.length 0 (by omega) ⟨k, Nat.zero_le _, h1, h2⟩))
    (fun i r hi h hr => ev_succ (by
      simp only [impl_isPlan.l1, if_pos (show (i : Int) < (l.length : Int) by omega), if_pos (show (0 : Int) ≤ (i : Int) by omega), if_pos (show (i : Int) < (P.length : Int) by omega), hP]
      exact (inner i hi).2 l.length 0 r (by omega) (fun k _ h2 h3 => h ⟨k, h2, h3⟩) hr))
    (fun r hr => ev_succ (by
      simp only [impl_isPlan.l1, if_neg (show ¬ ((l.length : Int) < (l.length : Int)) by omega)]
      exact hr))
  exact ⟨fun ⟨i, h1, h2⟩ => outer.1 l.length 0 (by omega) ⟨i, Nat.zero_le _, h1, h2⟩, fun h => outer.2 l.length 0 true (by omega) (fun i _ h1 h2 => h ⟨i, h1, h2⟩) (ev_now _)⟩
include hm
theorem specP_ok (r : Bool) : ((∃ i, i < l.length ∧ ¬ okT m P i) → Ev (fun K => spec_l7Plan.l0 K l m P t 0) false) ∧ ((∀ i, i < l.length → okT m P i) → Ev (fun K => spec_l7Plan.l1 K l P t 0) r → Ev (fun K => spec_l7Plan.l0 K l m P t 0) r) := by
  have _ := ht
  have hl := good_len hg
  have wm := w64 (x := m - 1) (by omega) (by omega)
  have step : ∀ i, i < l.length → ∀ K, spec_l7Plan.l0 (K + 1) l m P t (i : Int) = if ((rd_T91 P (i : Int)).f0 = (i : Int) ∧ (0 ≤ (rd_T91 P (i : Int)).f1 ∧ (rd_T91 P (i : Int)).f1 ≤ m - 1) ∧ (0 ≤ (rd_T91 P (i : Int)).f2 ∧ (rd_T91 P (i : Int)).f2 ≤ 500)) then spec_l7Plan.l0 K l m P t ((i + 1 : Nat) : Int) else some false := by
    intro i hi K
    have e := wsucc i (by omega)
    simp only [spec_l7Plan.l0, hP, if_pos (show (i : Int) < (l.length : Int) by omega), if_pos (show (0 : Int) ≤ (i : Int) by omega), l1In_eq, Option.bind_some, wm, e, Bool.and_eq_true, decide_eq_true_eq]
    generalize spec_l7Plan.l0 K l m P t ((i + 1 : Nat) : Int) = X
    by_cases h1 : (rd_T91 P (i : Int)).f0 = (i : Int)
    · by_cases h2 : 0 ≤ (rd_T91 P (i : Int)).f1 ∧ (rd_T91 P (i : Int)).f1 ≤ m - 1
      · by_cases h3 : 0 ≤ (rd_T91 P (i : Int)).f2 ∧ (rd_T91 P (i : Int)).f2 ≤ 500
        · rw [if_pos h1, if_pos h2, if_pos h3, if_pos ⟨h1, h2, h3⟩]
        · rw [if_pos h1, if_pos h2, if_neg h3, if_neg (fun h => h3 h.2.2)]
      · rw [if_pos h1, if_neg h2, if_neg (fun h => h2 h.2.1)]
    · rw [if_neg h1, if_neg (fun h => h1 h.1)]
  have out := scan l.length (fun i K => spec_l7Plan.l0 K l m P t (i : Int)) (fun K => spec_l7Plan.l1 K l P t 0) (fun i => ¬ okT m P i) false
    (fun i hi h => ev_succ (by
      simp only [step i hi, if_neg (show ¬ ((rd_T91 P (i : Int)).f0 = (i : Int) ∧ (0 ≤ (rd_T91 P (i : Int)).f1 ∧ (rd_T91 P (i : Int)).f1 ≤ m - 1) ∧ (0 ≤ (rd_T91 P (i : Int)).f2 ∧ (rd_T91 P (i : Int)).f2 ≤ 500)) from fun g => h ⟨g.1, g.2.1.1, g.2.1.2, g.2.2.1, g.2.2.2⟩)]
      exact ev_now _))
    (fun i r hi h hr => ev_succ (by
      have h := Classical.byContradiction h
      simp only [step i hi, if_pos (show ((rd_T91 P (i : Int)).f0 = (i : Int) ∧ (0 ≤ (rd_T91 P (i : Int)).f1 ∧ (rd_T91 P (i : Int)).f1 ≤ m - 1) ∧ (0 ≤ (rd_T91 P (i : Int)).f2 ∧ (rd_T91 P (i : Int)).f2 ≤ 500)) from ⟨h.1, ⟨h.2.1, h.2.2.1⟩, h.2.2.2⟩)]
      exact hr))
    (fun r hr => ev_succ (by
      simp only [spec_l7Plan.l0, hP, if_neg (show ¬ ((l.length : Int) < (l.length : Int)) by omega)]
      exact hr))
  exact ⟨fun ⟨i, h1, h2⟩ => out.1 l.length 0 (by omega) ⟨i, Nat.zero_le _, h1, h2⟩, fun h hr => out.2 l.length 0 r (by omega) (fun i _ h1 h2 => h2 (h i h1)) hr⟩
theorem implP_ok (r : Bool) : ((∃ i, i < l.length ∧ ¬ okT m P i) → Ev (fun K => impl_isPlan.l0 K l m P t P (l.length : Int) 0) false) ∧ ((∀ i, i < l.length → okT m P i) → Ev (fun K => impl_isPlan.l1 K l P t P (l.length : Int) 0) r → Ev (fun K => impl_isPlan.l0 K l m P t P (l.length : Int) 0) r) := by
  have _ := ht
  have hl := good_len hg
  have wm := w64 (x := m - 1) (by omega) (by omega)
  have step : ∀ i, i < l.length → ∀ K, impl_isPlan.l0 (K + 1) l m P t P (l.length : Int) (i : Int) = if ((rd_T91 P (i : Int)).f0 = (i : Int) ∧ (0 ≤ (rd_T91 P (i : Int)).f1 ∧ (rd_T91 P (i : Int)).f1 ≤ m - 1) ∧ (0 ≤ (rd_T91 P (i : Int)).f2 ∧ (rd_T91 P (i : Int)).f2 ≤ 500)) then impl_isPlan.l0 K l m P t P (l.length : Int) ((i + 1 : Nat) : Int) else some false := by
    intro i hi K
    have e := wsucc i (by omega)
    simp only [impl_isPlan.l0, impl_isNumber.f, impl_isDate.f, if_pos (show (i : Int) < (l.length : Int) by omega), if_pos (show (0 : Int) ≤ (i : Int) by omega), if_pos (show (i : Int) < (P.length : Int) by omega), within_eq, Option.bind_some, wm, e, Bool.and_eq_true, decide_eq_true_eq]
    generalize impl_isPlan.l0 K l m P t P (l.length : Int) ((i + 1 : Nat) : Int) = X
    by_cases h1 : (rd_T91 P (i : Int)).f0 = (i : Int)
    · by_cases h2 : 0 ≤ (rd_T91 P (i : Int)).f1 ∧ (rd_T91 P (i : Int)).f1 ≤ m - 1
      · by_cases h3 : 0 ≤ (rd_T91 P (i : Int)).f2 ∧ (rd_T91 P (i : Int)).f2 ≤ 500
        · rw [if_pos h1, if_pos h2, if_pos h3, if_pos ⟨h1, h2, h3⟩]
        · rw [if_pos h1, if_pos h2, if_neg h3, if_neg (fun h => h3 h.2.2)]
      · rw [if_pos h1, if_neg h2, if_neg (fun h => h2 h.2.1)]
    · rw [if_neg h1, if_neg (fun h => h1 h.1)]
  have out := scan l.length (fun i K => impl_isPlan.l0 K l m P t P (l.length : Int) (i : Int)) (fun K => impl_isPlan.l1 K l P t P (l.length : Int) 0) (fun i => ¬ okT m P i) false
    (fun i hi h => ev_succ (by
      simp only [step i hi, if_neg (show ¬ ((rd_T91 P (i : Int)).f0 = (i : Int) ∧ (0 ≤ (rd_T91 P (i : Int)).f1 ∧ (rd_T91 P (i : Int)).f1 ≤ m - 1) ∧ (0 ≤ (rd_T91 P (i : Int)).f2 ∧ (rd_T91 P (i : Int)).f2 ≤ 500)) from fun g => h ⟨g.1, g.2.1.1, g.2.1.2, g.2.2.1, g.2.2.2⟩)]
      exact ev_now _))
    (fun i r hi h hr => ev_succ (by
      have h := Classical.byContradiction h
      simp only [step i hi, if_pos (show ((rd_T91 P (i : Int)).f0 = (i : Int) ∧ (0 ≤ (rd_T91 P (i : Int)).f1 ∧ (rd_T91 P (i : Int)).f1 ≤ m - 1) ∧ (0 ≤ (rd_T91 P (i : Int)).f2 ∧ (rd_T91 P (i : Int)).f2 ≤ 500)) from ⟨h.1, ⟨h.2.1, h.2.2.1⟩, h.2.2.2⟩)]
      exact hr))
    (fun r hr => ev_succ (by
      simp only [impl_isPlan.l0, hP, if_neg (show ¬ ((l.length : Int) < (l.length : Int)) by omega)]
      exact hr))
  exact ⟨fun ⟨i, h1, h2⟩ => out.1 l.length 0 (by omega) ⟨i, Nat.zero_le _, h1, h2⟩, fun h hr => out.2 l.length 0 r (by omega) (fun i _ h1 h2 => h2 (h i h1)) hr⟩
end
theorem plan_both (l : List S79) (m : Int) (es : List S71) (P : List S91) (he : es.length ≤ 1048576) (hp : par7 l m es = true) : ∃ r : Bool, Ev (fun k => spec_l7Plan.f k l m es P) r ∧ Ev (fun k => impl_isPlan.f k l m es P) r ∧ (r = true → P.length = l.length ∧ ∀ i, i < l.length → okT m P i) := by
  obtain ⟨hg, hm, hl, _, hin, _⟩ := par7_facts l m es hp
  have ht := clos_sq l.length es hin
  have e1 := l4Table_ev l.length hl es he hin
  have e2 := closure_ev l.length hl es he hin
  unfold spec_l7Plan.f impl_isPlan.f
  by_cases hP : P.length = l.length
  case neg =>
    refine ⟨false, ev_bind e1 ?_, ?_, fun h => by simp at h⟩
    · simp only [if_neg (show ¬ ((P.length : Int) = (l.length : Int)) by omega)]; exact ev_now _
    · simp only [if_neg (show ¬ ((P.length : Int) = (l.length : Int)) by omega)]; exact ev_now _
  simp only [if_pos (show ((P.length : Int) = (l.length : Int)) by omega)]
  by_cases hok : ∀ i, i < l.length → okT m P i
  case neg =>
    have hx : ∃ i, i < l.length ∧ ¬ okT m P i := Classical.byContradiction (fun g => hok (fun i hi => Classical.byContradiction (fun h => g ⟨i, hi, h⟩)))
    refine ⟨false, ev_bind e1 ((specP_ok hg hm hP ht false).1 hx), ev_bind e2 ?_, fun h => by simp at h⟩
    rw [hP]
    exact (implP_ok hg hm hP ht false).1 hx
  by_cases hb : ∃ i, i < l.length ∧ ∃ k, k < l.length ∧ badSp l P (closT l.length es) i k
  · refine ⟨false, ev_bind e1 ((specP_ok hg hm hP ht false).2 hok ((specP_loop hg hP ht hok).1 hb)), ev_bind e2 ?_, fun h => by simp at h⟩
    rw [hP]
    exact (implP_ok hg hm hP ht false).2 hok ((implP_loop hg hP ht hok).1 ((bad_same l P _ l.length).1 hb))
  · refine ⟨true, ev_bind e1 ((specP_ok hg hm hP ht true).2 hok ((specP_loop hg hP ht hok).2 hb)), ev_bind e2 ?_, fun _ => ⟨hP, hok⟩⟩
    rw [hP]
    exact (implP_ok hg hm hP ht true).2 hok ((implP_loop hg hP ht hok).2 (fun h => hb ((bad_same l P _ l.length).2 h)))

theorem mx_max (a b : Int) : mx a b = max a b := by unfold mx; split <;> omega
theorem most_max (a b : Int) : spec_l1Most.f a b = some (max a b) := by
  unfold spec_l1Most.f
  split
  · rw [Int.max_eq_left (by omega)]
  · rw [Int.max_eq_right (by omega)]
def topT (l : List S79) (P : List S91) (acc : Int) (i : Nat) : Nat → Int
  | 0 => acc
  | d + 1 => topT l P (max acc ((rd_T91 P (i : Int)).f2 + (rd_T79 l (i : Int)).f0)) (i + 1) d
section
variable {l : List S79} (hg : goodB l = true) {m : Int} {P : List S91} (hP : P.length = l.length) (hok : ∀ i, i < l.length → okT m P i)
include hg hP hok
theorem end_bd (i : Nat) (hi : i < l.length) : 0 ≤ (rd_T91 P (i : Int)).f2 + (rd_T79 l (i : Int)).f0 ∧ (rd_T91 P (i : Int)).f2 + (rd_T79 l (i : Int)).f0 ≤ 550 := by
  have _ := hP
  obtain ⟨_, _, _, s1, s2⟩ := hok i hi
  have := good_at hg i hi
  rw [rdI l i hi]
  omega
theorem specL_loop : ∀ (d i : Nat) (acc : Int), i + d = l.length → Ev (fun K => spec_l7Length.l0 K l P acc (i : Int)) (topT l P acc i d) := by
  have hl := good_len hg
  intro d
  induction d with
  | zero =>
    intro i acc hi
    refine ev_succ ?_
    simp only [spec_l7Length.l0, if_neg (show ¬ ((i : Int) < (P.length : Int)) by omega)]
    exact ev_now _
  | succ d ih =>
    intro i acc hi
    have e := wsucc i (by omega)
    have b := end_bd hg hP hok i (by omega)
    refine ev_succ ?_
    simp only [spec_l7Length.l0, if_pos (show (i : Int) < (P.length : Int) by omega), if_pos (show (0 : Int) ≤ (i : Int) by omega), if_pos (show (i : Int) < (l.length : Int) by omega), most_max, Option.bind_some, e, w64 (x := (rd_T91 P (i : Int)).f2 + (rd_T79 l (i : Int)).f0) (by omega) (by omega)]
    exact ih (i + 1) _ (by omega)
theorem implL_loop : ∀ (d i : Nat) (acc : Int), i + d = l.length → Ev (fun K => impl_planLength.l0 K l acc P (P.length : Int) (i : Int)) (topT l P acc i d) := by
  have hl := good_len hg
  intro d
  induction d with
  | zero =>
    intro i acc hi
    refine ev_succ ?_
    simp only [impl_planLength.l0, if_neg (show ¬ ((i : Int) < (P.length : Int)) by omega)]
    exact ev_now _
  | succ d ih =>
    intro i acc hi
    have e := wsucc i (by omega)
    have b := end_bd hg hP hok i (by omega)
    have h0 := (hok i (by omega)).1
    refine ev_succ ?_
    simp only [impl_planLength.l0, if_pos (show (i : Int) < (P.length : Int) by omega), if_pos (show (0 : Int) ≤ (i : Int) by omega), h0, if_pos (show (i : Int) < (l.length : Int) by omega), mx_max, e, w64 (x := (rd_T91 P (i : Int)).f2 + (rd_T79 l (i : Int)).f0) (by omega) (by omega)]
    exact ih (i + 1) _ (by omega)
end
theorem core (l : List S79) (m : Int) (es : List S71) (P : List S91) (hm : l.length ≤ 1048576) (_ : ∀ (i : Nat) (hi : i < l.length), I64 l[i].f0 ∧ I64 l[i].f1 ∧ I64 l[i].f2 ∧ I64 l[i].f3) (_ : I64 m) (he : es.length ≤ 1048576) (_ : P.length ≤ 1048576) :
    ∃ (r : Int) (ok : Bool), True ∧ Ev (fun k => spec_PlanLength.f k l m es P) (r, ok) ∧ Ev (fun k => impl_PlanLength.f k l m es P) (r, ok) := by
  have h1 := l7Good_ev l m es hm he
  have h2 := isParallel_ev l m es hm
  unfold spec_PlanLength.f impl_PlanLength.f
  cases hp : par7 l m es
  · rw [hp] at h1 h2
    exact ⟨0, false, trivial, ev_bind h1 (by simp only [Bool.false_eq_true, if_false]; exact ev_now _), ev_bind h2 (by simp only [Bool.false_eq_true, if_false]; exact ev_now _)⟩
  rw [hp] at h1 h2
  obtain ⟨r, e1, e2, hr⟩ := plan_both l m es P he hp
  cases r with
  | false => exact ⟨0, false, trivial, ev_bind h1 (by simp only [if_true]; exact ev_bind e1 (by simp only [Bool.false_eq_true, if_false]; exact ev_now _)), ev_bind h2 (by simp only [if_true]; exact ev_bind e2 (by simp only [Bool.false_eq_true, if_false]; exact ev_now _))⟩
  | true =>
    obtain ⟨hP, hok⟩ := hr rfl
    have hg := (par7_facts l m es hp).1
    have s1 := specL_loop hg hP hok l.length 0 0 (by omega)
    have s2 := implL_loop hg hP hok l.length 0 0 (by omega)
    refine ⟨topT l P 0 0 l.length, true, trivial, ev_bind h1 (by simp only [if_true]; exact ev_bind e1 (by simp only [if_true]; exact ev_bind (by unfold spec_l7Length.f; exact s1) (ev_now _))), ev_bind h2 (by simp only [if_true]; exact ev_bind e2 (by simp only [if_true]; exact ev_bind (by unfold impl_planLength.f; exact s2) (ev_now _)))⟩

theorem FnExactPlanLength : FnExactPlanLength.Claim := by
  intro l0 a1 l2 l3 hl0 hg0 hi1 hl2 hg2 hl3 hg3
  refine Ev.rounds ?_
  unfold laws_FnExactPlanLength.f
  simp only [szJobS_eq l0 (1048576 : Int) (by omega) (by omega) hl0, Option.bind_some]
  by_cases h0 : (1048576 : Int) < l0.length
  · simp only [if_pos h0, if_pos (show (-1 : Int) < 0 by omega)]
    exact ev_now _
  simp only [if_neg h0, if_neg (show ¬ (((1048576 : Int) - l0.length) < 0) by omega)]
  simp only [szIntA2S_eq l2 ((1048576 : Int) - l0.length) (by omega) (by omega) hl2, Option.bind_some]
  by_cases h2 : ((1048576 : Int) - l0.length) < l2.length
  · simp only [if_pos h2, if_pos (show (-1 : Int) < 0 by omega)]
    exact ev_now _
  simp only [if_neg h2, if_neg (show ¬ ((((1048576 : Int) - l0.length) - l2.length) < 0) by omega)]
  simp only [szTaskS_eq l3 (((1048576 : Int) - l0.length) - l2.length) (by omega) (by omega) hl3, Option.bind_some]
  by_cases h3 : (((1048576 : Int) - l0.length) - l2.length) < l3.length
  · simp only [if_pos h3, if_pos (show (-1 : Int) < 0 by omega)]
    exact ev_now _
  simp only [if_neg h3, if_neg (show ¬ (((((1048576 : Int) - l0.length) - l2.length) - l3.length) < 0) by omega)]
  have ht0 := toJobS_ev l0 (by omega)
  have hm0 : (l0.map conv).length ≤ 1048576 := by simp; omega
  have hq0 := eqJobS_ev (l0.map conv) (by omega)
  have ht2 := toIntA2S_ev l2 (by omega)
  have hm2 : l2.length ≤ 1048576 := by omega
  have hq2 := eqIntA2S_ev l2 (by omega)
  have ht3 := toTaskS_ev l3 (by omega)
  have hm3 : (l3.map convT).length ≤ 1048576 := by simp; omega
  have hq3 := eqTaskS_ev (l3.map convT) (by omega)
  obtain ⟨r0, r1, _, hs, hi⟩ := core (l0.map conv) a1 l2 (l3.map convT) hm0 (conv_I64 l0 hg0) hi1 hm2 hm3
  repeat first
    | exact ev_now _
    | with_reducible refine ev_bind hs ?_
    | with_reducible refine ev_bind hi ?_
    | with_reducible refine ev_bind ht0 ?_
    | with_reducible refine ev_bind hq0 ?_
    | with_reducible refine ev_bind ht2 ?_
    | with_reducible refine ev_bind hq2 ?_
    | with_reducible refine ev_bind ht3 ?_
    | with_reducible refine ev_bind hq3 ?_
    | simp only [if_true, if_false, bne_self_eq_false, Bool.false_eq_true]
    | (refine ev_succ ?_; simp only [laws_FnExactPlanLength.j0])

end Go.Proofs.Ytecdigebnhlfhaa.Pure
