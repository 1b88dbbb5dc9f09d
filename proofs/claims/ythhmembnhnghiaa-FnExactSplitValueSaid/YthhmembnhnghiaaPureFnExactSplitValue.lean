/- The program's function and the reference's come to the same answer: the statement of numbers and lists behind the law FnExactSplitValue. Conditions: none. -/
import Derived.Test.YthhmembnhnghiaaArgFnExactSplitValue
import Derived.Test.YthhmembnhnghiaaBase
namespace Go.Proofs.Ythhmembnhnghiaa.Pure
open Go.RowKit Go.Proofs.Ythhmembnhnghiaa.OFnExactSplitValue Go.Proofs.Ythhmembnhnghiaa.Base Go.Proofs.YthhmembnhnghiaaW.PrintWords Go.Proofs.YthhmembnhnghiaaW.PrintLast Go.Proofs.YthhmembnhnghiaaW.PrintMore Go.Proofs.Ythhmembnhnghiaa.Open
set_option linter.unusedVariables false
set_option linter.unusedSimpArgs false

theorem szJobS_eq (xs : List S63) (left : Int) (h0 : 0 ≤ left) (h1 : left ≤ 1048576) (h : xs.length ≤ 9223372036854775807) : laws_szJobS.f xs left = some (if left < xs.length then -1 else left - xs.length) := by
  unfold laws_szJobS.f
  rw [w64 (by omega) (by omega)]
  by_cases c : left < xs.length
  · rw [if_pos (by omega), if_pos c]
  · rw [if_neg (by omega), if_neg c]

def conv (x : S63) : S59 := ⟨x.f0, x.f1, x.f2, x.f3⟩
theorem rdL (xs : List S63) (i : Nat) (h : i < xs.length) : rd_T63 xs (i : Int) = xs[i] := by
  unfold rd_T63
  rw [Int.toNat_natCast, List.getD_eq_getElem?_getD, List.getElem?_eq_getElem h]
  rfl

theorem toJobS_l (xs : List S63) (hn : xs.length ≤ 8796093022208) : ∀ (d i : Nat) (ys : List S59), i + d = xs.length → ys.length = xs.length → ys.take i = (xs.map conv).take i → Ev (fun k => laws_toJobS.l0 k xs ys (i : Int)) (xs.map conv) := by
  intro d
  induction d with
  | zero =>
    intro i ys hi hl ht
    refine ev_succ ?_
    simp only [laws_toJobS.l0, if_neg (show ¬ (i : Int) < (xs.length : Int) by omega)]
    have : ys = xs.map conv := by
      rw [List.take_of_length_le (by omega), List.take_of_length_le (by simp; omega)] at ht
      exact ht
    rw [this]
    exact ev_now _
  | succ d ih =>
    intro i ys hi hl ht
    refine ev_succ ?_
    have hx : i < xs.length := by omega
    simp only [laws_toJobS.l0, laws_toJob.f, Option.bind_some, if_pos (show (i : Int) < (xs.length : Int) by omega), if_pos (show (i : Int) < (ys.length : Int) by omega), if_pos (show (0 : Int) ≤ (i : Int) by omega), rdL xs i hx, wsucc i (by omega), Int.toNat_natCast]
    refine ih (i + 1) _ (by omega) (by rw [List.length_set]; exact hl) ?_
    rw [take_set_succ ys i _ (by omega), ht, List.take_succ_eq_append_getElem (by simp; omega)]
    simp [conv]
theorem toJobS_ev (xs : List S63) (hn : xs.length ≤ 1048576) : Ev (fun k => laws_toJobS.f k xs) (xs.map conv) := by
  unfold laws_toJobS.f
  simp only [if_pos (show (0 : Int) ≤ (xs.length : Int) by omega), Int.toNat_natCast, if_pos (show xs.length ≤ 8796093022208 by omega)]
  exact toJobS_l xs (by omega) xs.length 0 _ (by omega) (by simp) (by simp)

theorem rdI (xs : List S59) (i : Nat) (h : i < xs.length) : rd_T59 xs (i : Int) = xs[i] := by
  unfold rd_T59
  rw [Int.toNat_natCast, List.getD_eq_getElem?_getD, List.getElem?_eq_getElem h]
  rfl

theorem eqJobS_l (xs : List S59) (hn : xs.length ≤ 4611686018427387904) : ∀ (d i : Nat), i + d = xs.length → Ev (fun k => laws_eqJobS.l0 k xs xs (i : Int)) true := by
  intro d
  induction d with
  | zero =>
    intro i hi
    refine ev_succ ?_
    simp only [laws_eqJobS.l0, if_neg (show ¬ (i : Int) < (xs.length : Int) by omega)]
    exact ev_now _
  | succ d ih =>
    intro i hi
    refine ev_succ ?_
    simp only [laws_eqJobS.l0, laws_eqJob.f, if_true, Option.bind_some, if_pos (show (i : Int) < (xs.length : Int) by omega), if_pos (show (0 : Int) ≤ (i : Int) by omega), wsucc i (by omega)]
    exact ih (i + 1) (by omega)
theorem eqJobS_ev (xs : List S59) (hn : xs.length ≤ 4611686018427387904) : Ev (fun k => laws_eqJobS.f k xs xs) true := by
  unfold laws_eqJobS.f
  simp only [if_true]
  exact eqJobS_l xs hn xs.length 0 (by omega)

theorem conv_I64 (l : List S63) (hg : ∀ x ∈ l, G63 x) (i : Nat) (hi : i < (l.map conv).length) : I64 (l.map conv)[i].f0 ∧ I64 (l.map conv)[i].f1 ∧ I64 (l.map conv)[i].f2 ∧ I64 (l.map conv)[i].f3 := by
  simp only [List.getElem_map, conv]
  exact hg _ (List.getElem_mem _)

theorem szSpanS_eq (xs : List S79) (left : Int) (h0 : 0 ≤ left) (h1 : left ≤ 1048576) (h : xs.length ≤ 9223372036854775807) : laws_szSpanS.f xs left = some (if left < xs.length then -1 else left - xs.length) := by
  unfold laws_szSpanS.f
  rw [w64 (by omega) (by omega)]
  by_cases c : left < xs.length
  · rw [if_pos (by omega), if_pos c]
  · rw [if_neg (by omega), if_neg c]

def convS (x : S79) : S77 := ⟨x.f0, x.f1, x.f2⟩
theorem rdLS (xs : List S79) (i : Nat) (h : i < xs.length) : rd_T79 xs (i : Int) = xs[i] := by
  unfold rd_T79
  rw [Int.toNat_natCast, List.getD_eq_getElem?_getD, List.getElem?_eq_getElem h]
  rfl

theorem toSpanS_l (xs : List S79) (hn : xs.length ≤ 11728124029610) : ∀ (d i : Nat) (ys : List S77), i + d = xs.length → ys.length = xs.length → ys.take i = (xs.map convS).take i → Ev (fun k => laws_toSpanS.l0 k xs ys (i : Int)) (xs.map convS) := by
  intro d
  induction d with
  | zero =>
    intro i ys hi hl ht
    refine ev_succ ?_
    simp only [laws_toSpanS.l0, if_neg (show ¬ (i : Int) < (xs.length : Int) by omega)]
    have : ys = xs.map convS := by
      rw [List.take_of_length_le (by omega), List.take_of_length_le (by simp; omega)] at ht
      exact ht
    rw [this]
    exact ev_now _
  | succ d ih =>
    intro i ys hi hl ht
    refine ev_succ ?_
    have hx : i < xs.length := by omega
    simp only [laws_toSpanS.l0, laws_toSpan.f, Option.bind_some, if_pos (show (i : Int) < (xs.length : Int) by omega), if_pos (show (i : Int) < (ys.length : Int) by omega), if_pos (show (0 : Int) ≤ (i : Int) by omega), rdLS xs i hx, wsucc i (by omega), Int.toNat_natCast]
    refine ih (i + 1) _ (by omega) (by rw [List.length_set]; exact hl) ?_
    rw [take_set_succ ys i _ (by omega), ht, List.take_succ_eq_append_getElem (by simp; omega)]
    simp [convS]
theorem toSpanS_ev (xs : List S79) (hn : xs.length ≤ 1048576) : Ev (fun k => laws_toSpanS.f k xs) (xs.map convS) := by
  unfold laws_toSpanS.f
  simp only [if_pos (show (0 : Int) ≤ (xs.length : Int) by omega), Int.toNat_natCast, if_pos (show xs.length ≤ 11728124029610 by omega)]
  exact toSpanS_l xs (by omega) xs.length 0 _ (by omega) (by simp) (by simp)

theorem rdIS (xs : List S77) (i : Nat) (h : i < xs.length) : rd_T77 xs (i : Int) = xs[i] := by
  unfold rd_T77
  rw [Int.toNat_natCast, List.getD_eq_getElem?_getD, List.getElem?_eq_getElem h]
  rfl

theorem eqSpanS_l (xs : List S77) (hn : xs.length ≤ 4611686018427387904) : ∀ (d i : Nat), i + d = xs.length → Ev (fun k => laws_eqSpanS.l0 k xs xs (i : Int)) true := by
  intro d
  induction d with
  | zero =>
    intro i hi
    refine ev_succ ?_
    simp only [laws_eqSpanS.l0, if_neg (show ¬ (i : Int) < (xs.length : Int) by omega)]
    exact ev_now _
  | succ d ih =>
    intro i hi
    refine ev_succ ?_
    simp only [laws_eqSpanS.l0, laws_eqSpan.f, if_true, Option.bind_some, if_pos (show (i : Int) < (xs.length : Int) by omega), if_pos (show (0 : Int) ≤ (i : Int) by omega), wsucc i (by omega)]
    exact ih (i + 1) (by omega)
theorem eqSpanS_ev (xs : List S77) (hn : xs.length ≤ 4611686018427387904) : Ev (fun k => laws_eqSpanS.f k xs xs) true := by
  unfold laws_eqSpanS.f
  simp only [if_true]
  exact eqSpanS_l xs hn xs.length 0 (by omega)

theorem l1In_eq (a b c : Int) : spec_l1In.f a b c = some (decide (b ≤ a) && decide (a ≤ c)) := by
  unfold spec_l1In.f
  by_cases h : b ≤ a
  · rw [if_pos h]; simp [h]
  · rw [if_neg h]; simp [h]

theorem l3Job_eq (xs : List S59) (i : Int) (hn : xs.length ≤ 1048576) : spec_l3Job.f xs i = some (decide (0 ≤ i) && decide (i < (xs.length : Int))) := by
  unfold spec_l3Job.f
  rw [l1In_eq, w64 (by omega) (by omega)]
  simp only [Option.bind_some]
  congr 2
  rw [decide_eq_decide]
  omega

theorem within_eq (a b c : Int) : impl_within.f a b c = some (decide (b ≤ a) && decide (a ≤ c)) := by
  unfold impl_within.f
  by_cases h : b ≤ a
  · rw [if_pos h]; simp [h]
  · rw [if_neg h]; simp [h]

theorem isNumber_eq (i n : Int) (h0 : 0 ≤ n) (h1 : n ≤ 9223372036854775807) : impl_isNumber.f i n = some (decide (0 ≤ i) && decide (i < n)) := by
  unfold impl_isNumber.f
  rw [within_eq, w64 (by omega) (by omega)]
  simp only [Option.bind_some]
  congr 2
  rw [decide_eq_decide]
  omega

/-- A job's numbers are in their bounds. -/
def okJ (x : S59) : Bool := decide (1 ≤ x.f0) && (decide (x.f0 ≤ 50) && (decide (0 ≤ x.f1) && (decide (x.f1 ≤ 50) && (decide (0 ≤ x.f2) && (decide (x.f2 ≤ 500) && (decide (0 ≤ x.f3) && decide (x.f3 ≤ 500)))))))
def goodB (l : List S59) : Bool := decide (l.length ≤ 8) && l.all okJ
theorem isDate_eq (a : Int) : impl_isDate.f a = some (decide (0 ≤ a) && decide (a ≤ 500)) := by
  unfold impl_isDate.f
  rw [within_eq]
  rfl
theorem job_chain (x : S59) (o : Option Bool) : (if (decide (1 ≤ x.f0) && decide (x.f0 ≤ 50)) = true then (if (decide (0 ≤ x.f1) && decide (x.f1 ≤ 50)) = true then (if (decide (0 ≤ x.f2) && decide (x.f2 ≤ 500)) = true then (if (decide (0 ≤ x.f3) && decide (x.f3 ≤ 500)) = true then o else some false) else some false) else some false) else some false) = if okJ x = true then o else some false := by
  unfold okJ
  by_cases a1 : 1 ≤ x.f0 <;> by_cases a2 : x.f0 ≤ 50 <;> simp [a1, a2]
  by_cases b1 : 0 ≤ x.f1 <;> by_cases b2 : x.f1 ≤ 50 <;> simp [b1, b2]
  by_cases c1 : 0 ≤ x.f2 <;> by_cases c2 : x.f2 ≤ 500 <;> simp [c1, c2]
theorem IsJobs_l (xs : List S59) (hn : xs.length ≤ 4611686018427387904) : ∀ (d i : Nat), i + d = xs.length → Ev (fun k => impl_IsJobs.l0 k xs (xs.length : Int) (i : Int)) ((xs.drop i).all okJ) := by
  intro d
  induction d with
  | zero =>
    intro i hi
    refine ev_succ ?_
    simp only [impl_IsJobs.l0, if_neg (show ¬ (i : Int) < (xs.length : Int) by omega), List.drop_of_length_le (show xs.length ≤ i by omega)]
    exact ev_now _
  | succ d ih =>
    intro i hi
    refine ev_succ ?_
    have hx : i < xs.length := by omega
    have hih := ih (i + 1) (by omega)
    rw [List.drop_eq_getElem_cons hx, List.all_cons]
    simp only [impl_IsJobs.l0, within_eq, isDate_eq, Option.bind_some, if_pos (show (i : Int) < (xs.length : Int) by omega), if_pos (show (0 : Int) ≤ (i : Int) by omega), wsucc i (by omega), rdI xs i hx]
    generalize xs[i] = x at *
    simp only [job_chain]
    by_cases c : okJ x = true
    · simpa only [c, if_true, Bool.true_and] using hih
    · have c' : okJ x = false := by simpa using c
      simp only [c', Bool.false_and]
      exact ev_now _
theorem IsJobs_ev (xs : List S59) (hn : xs.length ≤ 4611686018427387904) : Ev (fun k => impl_IsJobs.f k xs) (goodB xs) := by
  unfold impl_IsJobs.f goodB
  by_cases h : xs.length ≤ 8
  · simp only [if_neg (show ¬ ((xs.length : Int) > 8) by omega), decide_eq_true h, Bool.true_and]
    exact IsJobs_l xs hn xs.length 0 (by omega)
  · simp only [if_pos (show ((xs.length : Int) > 8) by omega), decide_eq_false h, Bool.false_and]
    exact ev_now _

theorem good_len {xs : List S59} (h : goodB xs = true) : xs.length ≤ 8 := by
  unfold goodB at h
  simp only [Bool.and_eq_true, decide_eq_true_eq] at h
  exact h.1
theorem good_at {xs : List S59} (h : goodB xs = true) (i : Nat) (hi : i < xs.length) : 1 ≤ xs[i].f0 ∧ xs[i].f0 ≤ 50 ∧ 0 ≤ xs[i].f1 ∧ xs[i].f1 ≤ 50 ∧ 0 ≤ xs[i].f2 ∧ xs[i].f2 ≤ 500 ∧ 0 ≤ xs[i].f3 ∧ xs[i].f3 ≤ 500 := by
  unfold goodB at h
  simp only [Bool.and_eq_true, List.all_eq_true] at h
  have b := h.2 xs[i] (List.getElem_mem hi)
  simp only [okJ, Bool.and_eq_true, decide_eq_true_eq] at b
  obtain ⟨a1, a2, b1, b2, c1, c2, d1, d2⟩ := b
  exact ⟨a1, a2, b1, b2, c1, c2, d1, d2⟩

theorem l2Job_eq (x : S59) : spec_l2Job.f x.f0 x.f1 x.f2 x.f3 = some (okJ x) := by
  unfold spec_l2Job.f okJ
  simp only [l1In_eq, Option.bind_some]
  by_cases a1 : 1 ≤ x.f0 <;> by_cases a2 : x.f0 ≤ 50 <;> simp [a1, a2]
  by_cases b1 : 0 ≤ x.f1 <;> by_cases b2 : x.f1 ≤ 50 <;> simp [b1, b2]
  by_cases c1 : 0 ≤ x.f2 <;> by_cases c2 : x.f2 ≤ 500 <;> simp [c1, c2]
theorem l2Good_l (xs : List S59) (hn : xs.length ≤ 4611686018427387904) : ∀ (d i : Nat), i + d = xs.length → Ev (fun k => spec_l2Good.l0 k xs (i : Int)) ((xs.drop i).all okJ && decide (xs.length ≤ 8)) := by
  intro d
  induction d with
  | zero =>
    intro i hi
    refine ev_succ ?_
    simp only [spec_l2Good.l0, if_neg (show ¬ (i : Int) < (xs.length : Int) by omega), List.drop_of_length_le (show xs.length ≤ i by omega)]
    refine ev_const ?_
    simp
    omega
  | succ d ih =>
    intro i hi
    refine ev_succ ?_
    have hx : i < xs.length := by omega
    have hih := ih (i + 1) (by omega)
    rw [List.drop_eq_getElem_cons hx, List.all_cons]
    simp only [spec_l2Good.l0, if_pos (show (i : Int) < (xs.length : Int) by omega), if_pos (show (0 : Int) ≤ (i : Int) by omega), wsucc i (by omega), rdI xs i hx, l2Job_eq, Option.bind_some]
    by_cases c : okJ xs[i] = true
    · simpa only [c, if_true, Bool.true_and] using hih
    · have c' : okJ xs[i] = false := by simpa using c
      simp only [c', Bool.false_and]
      exact ev_now _
theorem l2Good_ev (xs : List S59) (hn : xs.length ≤ 4611686018427387904) : Ev (fun k => spec_l2Good.f k xs) (goodB xs) := by
  unfold spec_l2Good.f goodB
  rw [Bool.and_comm]
  exact l2Good_l xs hn xs.length 0 (by omega)

theorem rdN (xs : List Int) (i : Nat) (h : i < xs.length) : rd xs (i : Int) = xs[i] := by
  unfold rd
  rw [Int.toNat_natCast, List.getD_eq_getElem?_getD, List.getElem?_eq_getElem h]
  rfl

theorem rdN_set (xs : List Int) (j : Nat) (v : Int) : xs.set j v = xs.set j v := rfl
/-- Each job has been done for its time: both functions' last loop. -/
theorem times_l (xs : List S59) (ds : List Int) (hd : ds.length = xs.length) (hn : xs.length ≤ 1048576) : ∀ (d i : Nat), i + d = xs.length → ∃ r : Bool, Ev (fun k => spec_l5Split.l1 k xs ds (i : Int)) r ∧ Ev (fun k => impl_isSplit.l1 k ds xs (xs.length : Int) (i : Int)) r := by
  intro d
  induction d with
  | zero =>
    intro i hi
    refine ⟨true, ev_succ ?_, ev_succ ?_⟩
    · simp only [spec_l5Split.l1, if_neg (show ¬ (i : Int) < (xs.length : Int) by omega)]; exact ev_now _
    · simp only [impl_isSplit.l1, if_neg (show ¬ (i : Int) < (xs.length : Int) by omega)]; exact ev_now _
  | succ d ih =>
    intro i hi
    have hx : i < xs.length := by omega
    obtain ⟨r, h1, h2⟩ := ih (i + 1) (by omega)
    by_cases c : ds[i]'(by omega) = xs[i].f0
    · refine ⟨r, ev_succ ?_, ev_succ ?_⟩
      · simp only [spec_l5Split.l1, if_pos (show (i : Int) < (xs.length : Int) by omega), if_pos (show (0 : Int) ≤ (i : Int) by omega), if_pos (show (i : Int) < (ds.length : Int) by omega), rdN ds i (by omega), rdI xs i hx, if_pos c, wsucc i (by omega)]; exact h1
      · simp only [impl_isSplit.l1, if_pos (show (i : Int) < (xs.length : Int) by omega), if_pos (show (0 : Int) ≤ (i : Int) by omega), if_pos (show (i : Int) < (ds.length : Int) by omega), rdN ds i (by omega), rdI xs i hx, if_pos c, wsucc i (by omega)]; exact h2
    · refine ⟨false, ev_succ ?_, ev_succ ?_⟩
      · simp only [spec_l5Split.l1, if_pos (show (i : Int) < (xs.length : Int) by omega), if_pos (show (0 : Int) ≤ (i : Int) by omega), if_pos (show (i : Int) < (ds.length : Int) by omega), rdN ds i (by omega), rdI xs i hx, if_neg c]; exact ev_now _
      · simp only [impl_isSplit.l1, if_pos (show (i : Int) < (xs.length : Int) by omega), if_pos (show (0 : Int) ≤ (i : Int) by omega), if_pos (show (i : Int) < (ds.length : Int) by omega), rdN ds i (by omega), rdI xs i hx, if_neg c]; exact ev_now _
/-- What stands ahead of the span with a number. -/
def prevOk (ss : List S77) (i : Nat) (en la : Int) : Prop := (i = 0 ∧ en = 0 ∧ la = -1) ∨ ∃ h : i - 1 < ss.length, 0 < i ∧ en = (ss[i - 1]).f2 ∧ la = (ss[i - 1]).f0
def spanOk (xs : List S59) (ss : List S77) (i : Nat) : Prop := ∀ (q : Nat) (hq : q < ss.length), i ≤ q → 0 ≤ ss[q].f0 ∧ ss[q].f0 < (xs.length : Int) ∧ 0 ≤ ss[q].f2 ∧ ss[q].f2 ≤ 1000
theorem split_l (xs : List S59) (ss : List S77) (hg : goodB xs = true) (hs : ss.length ≤ 1048576) : ∀ (d i : Nat) (ds : List Int) (en la : Int), i + d = ss.length → ds.length = xs.length → prevOk ss i en la → 0 ≤ en → en ≤ 1000 → (∀ (j : Nat) (hj : j < ds.length), 0 ≤ ds[j] ∧ ds[j] ≤ en) →
    ∃ r : Bool, Ev (fun k => spec_l5Split.l0 k xs ss ds en la (i : Int)) r ∧ Ev (fun k => impl_isSplit.l0 k xs ss ds ss (ss.length : Int) (i : Int)) r ∧ (r = true → spanOk xs ss i) := by
  have hl := good_len hg
  intro d
  induction d with
  | zero =>
    intro i ds en la hi hd hp h0 h1 hds
    obtain ⟨r, e1, e2⟩ := times_l xs ds hd (by omega) xs.length 0 (by omega)
    refine ⟨r, ev_succ ?_, ev_succ ?_, fun _ q hq h => by omega⟩
    · simp only [spec_l5Split.l0, if_neg (show ¬ (i : Int) < (ss.length : Int) by omega)]; exact e1
    · simp only [impl_isSplit.l0, if_neg (show ¬ (i : Int) < (ss.length : Int) by omega)]; exact e2
  | succ d ih =>
    intro i ds en la hi hd hp h0 h1 hds
    have hx : i < ss.length := by omega
    have hw : ∀ x : Int, wrap64 ((xs.length : Int) - 1) = (xs.length : Int) - 1 := fun _ => w64 (by omega) (by omega)
    by_cases v : 0 ≤ ss[i].f0 ∧ ss[i].f0 < (xs.length : Int)
    · obtain ⟨j, hj⟩ := Int.eq_ofNat_of_zero_le v.1
      have hjl : j < xs.length := by omega
      have hgj := good_at hg j hjl
      have hdj := hds j (by omega)
      by_cases ok : xs[j].f2 ≤ ss[i].f1 ∧ ss[i].f1 < ss[i].f2 ∧ ss[i].f2 ≤ 1000 ∧ en ≤ ss[i].f1 ∧ ¬ (ss[i].f0 = la ∧ ss[i].f1 = en)
      · obtain ⟨o1, o2, o3, o4, o5⟩ := ok
        have hp' : prevOk ss (i + 1) ss[i].f2 ss[i].f0 := Or.inr ⟨by simp; omega, by omega, by simp, by simp⟩
        obtain ⟨r, e1, e2, e3⟩ := ih (i + 1) (ds.set j (ds[j]'(by omega) + ss[i].f2 - ss[i].f1)) ss[i].f2 ss[i].f0 (by omega) (by rw [List.length_set]; exact hd) hp' (by omega) (by omega) (by
          intro q hq
          rw [List.length_set] at hq
          rw [List.getElem_set]
          have := hds q hq
          split <;> omega)
        refine ⟨r, ev_succ ?_, ev_succ ?_, fun h q hq hiq => by
          by_cases e : q = i
          · subst e; exact ⟨v.1, v.2, by omega, o3⟩
          · exact e3 h q hq (by omega)⟩
        · simp only [spec_l5Split.l0, l3Job_eq xs _ (by omega), Option.bind_some, if_pos (show (i : Int) < (ss.length : Int) by omega), if_pos (show (0 : Int) ≤ (i : Int) by omega), rdIS ss i hx, decide_eq_true v.1, decide_eq_true v.2, Bool.and_self, if_true, if_neg (show ¬ ss[i].f1 < en by omega), if_pos v.1, if_pos v.2]
          rw [hj]
          simp only [Int.toNat_natCast, rdI xs j hjl, rdN ds j (by omega), if_neg (show ¬ ss[i].f1 < xs[j].f2 by omega), if_neg (show ¬ ss[i].f2 ≤ ss[i].f1 by omega), if_neg (show ¬ ss[i].f2 > 1000 by omega), if_pos (show (j : Int) < (ds.length : Int) by omega), wsucc i (by omega), w64 (x := ds[j]'(by omega) + ss[i].f2) (by omega) (by omega), w64 (x := ds[j]'(by omega) + ss[i].f2 - ss[i].f1) (by omega) (by omega)]
          rw [hj] at e1
          by_cases c : (j : Int) = la
          · have c5 : ¬ ss[i].f1 = en := fun e => o5 ⟨by omega, e⟩
            simp only [if_pos c, if_neg c5]
            exact e1
          · simp only [if_neg c]
            exact e1
        · have step : Ev (fun k => impl_isSplit.l0 k xs ss (ds.set j (wrap64 (ds[j]'(by omega) + wrap64 (ss[i].f2 - ss[i].f1)))) ss (ss.length : Int) ((i + 1 : Nat) : Int)) r := by
            rw [w64 (x := ss[i].f2 - ss[i].f1) (by omega) (by omega), w64 (by omega) (by omega), show ds[j]'(by omega) + (ss[i].f2 - ss[i].f1) = ds[j]'(by omega) + ss[i].f2 - ss[i].f1 by omega]
            exact e2
          have hj1 : Ev (fun k => impl_isSplit.j1 k xs ss ds (i : Int) ss (ss.length : Int) (i : Int) false (j : Int) ss[i].f1 ss[i].f2) r := by
            refine ev_succ ?_
            simp only [impl_isSplit.j1, Bool.false_eq_true, if_false, if_pos (show (0 : Int) ≤ (j : Int) by omega), if_pos (show (j : Int) < (ds.length : Int) by omega), Int.toNat_natCast, rdN ds j (by omega), wsucc i (by omega)]
            rcases hp with ⟨p0, p1, p2⟩ | ⟨hpl, p0, p1, p2⟩
            · simp only [if_neg (show ¬ (i : Int) > 0 by omega)]
              exact step
            · have hwi : wrap64 ((i : Int) - 1) = ((i - 1 : Nat) : Int) := by rw [w64 (by omega) (by omega)]; omega
              simp only [if_pos (show (i : Int) > 0 by omega), hwi, if_pos (show (0 : Int) ≤ ((i - 1 : Nat) : Int) by omega), if_pos (show ((i - 1 : Nat) : Int) < (ss.length : Int) by omega), rdIS ss (i - 1) hpl, if_neg (show ¬ ss[i].f1 < ss[i - 1].f2 by omega)]
              by_cases c : ss[i].f1 = ss[i - 1].f2
              · have c5 : ¬ (j : Int) = ss[i - 1].f0 := fun e => o5 ⟨by omega, by omega⟩
                simp only [if_pos c, if_neg c5]
                exact step
              · simp only [if_neg c]
                exact step
          simp only [impl_isSplit.l0, if_pos (show (i : Int) < (ss.length : Int) by omega), if_pos (show (0 : Int) ≤ (i : Int) by omega), rdIS ss i hx, isNumber_eq _ _ (Int.natCast_nonneg xs.length) (by omega), Option.bind_some, decide_eq_true v.1, decide_eq_true v.2, Bool.and_self, if_true, if_pos v.1, if_pos v.2]
          rw [hj]
          simp only [rdI xs j hjl, if_neg (show ¬ ss[i].f1 < xs[j].f2 by omega), if_neg (show ¬ ss[i].f1 ≥ ss[i].f2 by omega), decide_eq_false (show ¬ ss[i].f2 > 1000 by omega)]
          exact hj1
      · refine ⟨false, ev_succ ?_, ev_succ ?_, fun h => by cases h⟩
        · simp only [spec_l5Split.l0, l3Job_eq xs _ (by omega), Option.bind_some, if_pos (show (i : Int) < (ss.length : Int) by omega), if_pos (show (0 : Int) ≤ (i : Int) by omega), rdIS ss i hx, decide_eq_true v.1, decide_eq_true v.2, Bool.and_self, if_true, if_pos v.1, if_pos v.2]
          by_cases c1 : ss[i].f1 < en
          · simp only [if_pos c1]; exact ev_now _
          · simp only [if_neg c1]
            rw [hj]
            simp only [rdI xs j hjl]
            by_cases c2 : ss[i].f1 < xs[j].f2
            · simp only [if_pos c2]; exact ev_now _
            · simp only [if_neg c2]
              by_cases c3 : ss[i].f2 ≤ ss[i].f1
              · simp only [if_pos c3]; exact ev_now _
              · simp only [if_neg c3]
                by_cases c6 : ss[i].f2 > 1000
                · by_cases c4 : (j : Int) = la
                  · by_cases c5 : ss[i].f1 = en
                    · simp only [if_pos c4, if_pos c5]; exact ev_now _
                    · simp only [if_pos c4, if_neg c5, if_pos c6]; exact ev_now _
                  · simp only [if_neg c4, if_pos c6]; exact ev_now _
                · have c45 : (j : Int) = la ∧ ss[i].f1 = en := by
                    by_cases c4 : (j : Int) = la
                    · by_cases c5 : ss[i].f1 = en
                      · exact ⟨c4, c5⟩
                      · exact absurd ⟨by omega, by omega, by omega, by omega, fun h => c5 h.2⟩ ok
                    · exact absurd ⟨by omega, by omega, by omega, by omega, fun h => c4 (by rw [← hj]; exact h.1)⟩ ok
                  simp only [if_pos c45.1, if_pos c45.2]
                  exact ev_now _
        · have no : ∀ b c d : Int, Ev (fun k => impl_isSplit.j1 k xs ss ds (i : Int) ss (ss.length : Int) (i : Int) true b c d) false := fun b c d => ev_succ (by simp only [impl_isSplit.j1, if_true]; exact ev_now _)
          simp only [impl_isSplit.l0, if_pos (show (i : Int) < (ss.length : Int) by omega), if_pos (show (0 : Int) ≤ (i : Int) by omega), rdIS ss i hx, isNumber_eq _ _ (Int.natCast_nonneg xs.length) (by omega), Option.bind_some, decide_eq_true v.1, decide_eq_true v.2, Bool.and_self, if_true, if_pos v.1, if_pos v.2]
          rw [hj]
          simp only [rdI xs j hjl]
          by_cases c2 : ss[i].f1 < xs[j].f2
          · simp only [if_pos c2]; exact no _ _ _
          · simp only [if_neg c2]
            by_cases c3 : ss[i].f1 ≥ ss[i].f2
            · simp only [if_pos c3]; exact no _ _ _
            · simp only [if_neg c3]
              by_cases c6 : ss[i].f2 > 1000
              · simp only [decide_eq_true c6]; exact no _ _ _
              · simp only [decide_eq_false c6]
                refine ev_succ ?_
                rcases hp with ⟨p0, p1, p2⟩ | ⟨hpl, p0, p1, p2⟩
                · exact absurd ⟨by omega, by omega, by omega, by omega, fun h => by omega⟩ ok
                · have hwi : wrap64 ((i : Int) - 1) = ((i - 1 : Nat) : Int) := by rw [w64 (by omega) (by omega)]; omega
                  simp only [impl_isSplit.j1, Bool.false_eq_true, if_false, if_pos (show (i : Int) > 0 by omega), hwi, if_pos (show (0 : Int) ≤ ((i - 1 : Nat) : Int) by omega), if_pos (show ((i - 1 : Nat) : Int) < (ss.length : Int) by omega), rdIS ss (i - 1) hpl]
                  by_cases c1 : ss[i].f1 < ss[i - 1].f2
                  · simp only [if_pos c1]; exact ev_now _
                  · simp only [if_neg c1]
                    have c45 : (j : Int) = ss[i - 1].f0 ∧ ss[i].f1 = ss[i - 1].f2 := by
                      by_cases c4 : (j : Int) = ss[i - 1].f0
                      · by_cases c5 : ss[i].f1 = ss[i - 1].f2
                        · exact ⟨c4, c5⟩
                        · exact absurd ⟨by omega, by omega, by omega, by omega, fun h => c5 (by omega)⟩ ok
                      · exact absurd ⟨by omega, by omega, by omega, by omega, fun h => c4 (by omega)⟩ ok
                    simp only [if_pos c45.1, if_pos c45.2]
                    exact ev_now _
    · have vb : (decide (0 ≤ ss[i].f0) && decide (ss[i].f0 < (xs.length : Int))) = false := by simpa using v
      refine ⟨false, ev_succ ?_, ev_succ ?_, fun h => by cases h⟩
      · simp only [spec_l5Split.l0, l3Job_eq xs _ (by omega), Option.bind_some, if_pos (show (i : Int) < (ss.length : Int) by omega), if_pos (show (0 : Int) ≤ (i : Int) by omega), rdIS ss i hx, vb, Bool.false_eq_true, if_false]
        exact ev_now _
      · have no : ∀ b c d : Int, Ev (fun k => impl_isSplit.j1 k xs ss ds (i : Int) ss (ss.length : Int) (i : Int) true b c d) false := fun b c d => ev_succ (by simp only [impl_isSplit.j1, if_true]; exact ev_now _)
        simp only [impl_isSplit.l0, if_pos (show (i : Int) < (ss.length : Int) by omega), if_pos (show (0 : Int) ≤ (i : Int) by omega), rdIS ss i hx, isNumber_eq _ _ (Int.natCast_nonneg xs.length) (by omega), Option.bind_some, vb, Bool.false_eq_true, if_false]
        exact no _ _ _
theorem split_ev' (xs : List S59) (ss : List S77) (hg : goodB xs = true) (hs : ss.length ≤ 1048576) : ∃ r : Bool, Ev (fun k => spec_l5Split.f k xs ss) r ∧ Ev (fun k => impl_isSplit.f k xs ss) r ∧ (r = true → spanOk xs ss 0) := by
  have hl := good_len hg
  obtain ⟨r, e1, e2, e3⟩ := split_l xs ss hg hs ss.length 0 (List.replicate xs.length 0) 0 (-1) (by omega) (by simp) (Or.inl ⟨rfl, rfl, rfl⟩) (by omega) (by omega) (by intro j hj; simp)
  refine ⟨r, ?_, ?_, e3⟩
  · unfold spec_l5Split.f
    simp only [if_pos (show (0 : Int) ≤ (xs.length : Int) by omega), Int.toNat_natCast, if_pos (show xs.length ≤ 35184372088832 by omega)]
    exact e1
  · unfold impl_isSplit.f
    simp only [if_pos (show (0 : Int) ≤ (xs.length : Int) by omega), Int.toNat_natCast, if_pos (show xs.length ≤ 35184372088832 by omega)]
    exact e2
theorem split_ev (xs : List S59) (ss : List S77) (hg : goodB xs = true) (hs : ss.length ≤ 1048576) : ∃ r : Bool, Ev (fun k => spec_l5Split.f k xs ss) r ∧ Ev (fun k => impl_isSplit.f k xs ss) r := by
  obtain ⟨r, e1, e2, _⟩ := split_ev' xs ss hg hs
  exact ⟨r, e1, e2⟩

def endF (ds : List Int) : List S77 → List Int
  | [] => ds
  | s :: r => endF (ds.set s.f0.toNat s.f2) r
def endsB (es : List Int) : Prop := ∀ x ∈ es, 0 ≤ x ∧ x ≤ 1000
theorem endF_len (n : Nat) : ∀ (ss : List S77) (ds : List Int), ds.length = n → (endF ds ss).length = n := by
  intro ss
  induction ss with
  | nil => intro ds h; exact h
  | cons s r ih => intro ds h; exact ih _ (by rw [List.length_set]; exact h)
theorem endF_B : ∀ (ss : List S77) (ds : List Int), endsB ds → (∀ s ∈ ss, 0 ≤ s.f2 ∧ s.f2 ≤ 1000) → endsB (endF ds ss) := by
  intro ss
  induction ss with
  | nil => intro ds h _; exact h
  | cons s r ih =>
    intro ds h hs
    refine ih _ (fun x hx => ?_) (fun t ht => hs t (by simp [ht]))
    rcases List.mem_or_eq_of_mem_set hx with hx | rfl
    · exact h x hx
    · exact hs s (by simp)
theorem ends_l (xs : List S59) (ss : List S77) (hs : ss.length ≤ 1048576) (ok : spanOk xs ss 0) : ∀ (d i : Nat) (ds : List Int), i + d = ss.length → ds.length = xs.length →
    Ev (fun k => spec_l5Ends.l0 k ss ds (i : Int)) (endF ds (ss.drop i)) ∧ Ev (fun k => impl_splitEnds.l0 k ds ss (ss.length : Int) (i : Int)) (endF ds (ss.drop i)) := by
  intro d
  induction d with
  | zero =>
    intro i ds hi hd
    rw [List.drop_of_length_le (show ss.length ≤ i by omega)]
    refine ⟨ev_succ ?_, ev_succ ?_⟩
    · simp only [spec_l5Ends.l0, if_neg (show ¬ (i : Int) < (ss.length : Int) by omega)]; exact ev_now _
    · simp only [impl_splitEnds.l0, if_neg (show ¬ (i : Int) < (ss.length : Int) by omega)]; exact ev_now _
  | succ d ih =>
    intro i ds hi hd
    have hx : i < ss.length := by omega
    obtain ⟨h1, h2, _, _⟩ := ok i hx (by omega)
    obtain ⟨e1, e2⟩ := ih (i + 1) (ds.set ss[i].f0.toNat ss[i].f2) (by omega) (by rw [List.length_set]; exact hd)
    rw [List.drop_eq_getElem_cons hx, endF]
    refine ⟨ev_succ ?_, ev_succ ?_⟩
    · simp only [spec_l5Ends.l0, if_pos (show (i : Int) < (ss.length : Int) by omega), if_pos (show (0 : Int) ≤ (i : Int) by omega), rdIS ss i hx, if_pos h1, if_pos (show ss[i].f0 < (ds.length : Int) by omega), wsucc i (by omega)]
      exact e1
    · simp only [impl_splitEnds.l0, if_pos (show (i : Int) < (ss.length : Int) by omega), if_pos (show (0 : Int) ≤ (i : Int) by omega), rdIS ss i hx, if_pos h1, if_pos (show ss[i].f0 < (ds.length : Int) by omega), wsucc i (by omega)]
      exact e2
def endsOf (xs : List S59) (ss : List S77) : List Int := endF (List.replicate xs.length 0) ss
theorem ends_ev (xs : List S59) (ss : List S77) (hn : xs.length ≤ 8) (hs : ss.length ≤ 1048576) (ok : spanOk xs ss 0) : Ev (fun k => spec_l5Ends.f k xs ss) (endsOf xs ss) ∧ Ev (fun k => impl_splitEnds.f k xs ss) (endsOf xs ss) := by
  obtain ⟨e1, e2⟩ := ends_l xs ss hs ok ss.length 0 (List.replicate xs.length 0) (by omega) (by simp)
  unfold spec_l5Ends.f impl_splitEnds.f
  simp only [if_pos (show (0 : Int) ≤ (xs.length : Int) by omega), Int.toNat_natCast, if_pos (show xs.length ≤ 35184372088832 by omega)]
  exact ⟨e1, e2⟩
theorem endsOf_ok (xs : List S59) (ss : List S77) (ok : spanOk xs ss 0) : (endsOf xs ss).length = xs.length ∧ endsB (endsOf xs ss) := by
  refine ⟨endF_len _ ss _ (by simp), endF_B ss _ (fun x hx => by rw [List.eq_of_mem_replicate hx]; omega) (fun s hs => ?_)⟩
  obtain ⟨q, hq, rfl⟩ := List.mem_iff_getElem.mp hs
  exact (ok q hq (by omega)).2.2

theorem shrN (c i : Nat) (h : i ≤ 64) : shr .i64 (c : Int) (i : Int) = ((c / 2 ^ i : Nat) : Int) := by
  unfold shr
  rw [Int.toNat_natCast, Nat.min_eq_left (show i ≤ IntKind.i64.bits from h)]
  rw [Int.natCast_ediv, Int.natCast_pow]
  rfl
theorem and1 : ∀ m : Nat, m < 256 → Go.bits .and .i64 (m : Int) 1 = ((m % 2 : Nat) : Int) := by decide +kernel
theorem shl1 : ∀ i : Nat, i < 9 → shl .i64 1 (i : Int) = ((2 ^ i : Nat) : Int) := by decide +kernel
theorem andn : ∀ c : Nat, c < 256 → ∀ i : Nat, i < 8 → c / 2 ^ i % 2 = 1 → Go.bits .andNot .i64 (c : Int) ((2 ^ i : Nat) : Int) = ((c - 2 ^ i : Nat) : Int) := by decide +kernel
theorem pow8 (n : Nat) (h : n ≤ 8) : 2 ^ n ≤ 256 := Nat.pow_le_pow_right (by omega) h
theorem shr_and (c i : Nat) (hc : c < 256) (hi : i ≤ 64) : Go.bits .and .i64 (shr .i64 (c : Int) (i : Int)) 1 = ((c / 2 ^ i % 2 : Nat) : Int) := by
  rw [shrN c i hi]
  exact and1 _ (Nat.lt_of_le_of_lt (Nat.div_le_self _ _) hc)
theorem mod1 {x : Nat} (h : x % 2 = 1) : ((x % 2 : Nat) : Int) = 1 := by rw [h]; rfl
theorem mod0 {x : Nat} (h : ¬ x % 2 = 1) : ((x % 2 : Nat) : Int) = 0 := by rw [show x % 2 = 0 by omega]; rfl
theorem mod1' {x : Nat} (h : x % 2 = 1) : ¬ ((x % 2 : Nat) : Int) = 0 := by rw [h]; decide
theorem mod0' {x : Nat} (h : ¬ x % 2 = 1) : ¬ ((x % 2 : Nat) : Int) = 1 := by rw [show x % 2 = 0 by omega]; decide
theorem bit_le (c i : Nat) (h : c / 2 ^ i % 2 = 1) : 2 ^ i ≤ c := by
  rcases Nat.lt_or_ge c (2 ^ i) with hl | hl
  · rw [Nat.div_eq_of_lt hl] at h; omega
  · exact hl
/-- The numbers of the bits of c, from i on. -/
def blF (c i : Nat) : Nat → List Int
  | 0 => []
  | d + 1 => if c / 2 ^ i % 2 = 1 then (i : Int) :: blF c (i + 1) d else blF c (i + 1) d
theorem blF_hit {c i : Nat} (h : c / 2 ^ i % 2 = 1) (d : Nat) : blF c i (d + 1) = (i : Int) :: blF c (i + 1) d := by rw [blF, if_pos h]
theorem blF_miss {c i : Nat} (h : ¬ c / 2 ^ i % 2 = 1) (d : Nat) : blF c i (d + 1) = blF c (i + 1) d := by rw [blF, if_neg h]
theorem wsub {c q : Nat} (h : q ≤ c) (hc : c ≤ 4611686018427387904) : wrap64 ((c : Int) - (q : Int)) = ((c - q : Nat) : Int) := by rw [w64 (by omega) (by omega)]; omega
theorem blF_nil (c : Nat) : ∀ d i : Nat, c / 2 ^ i = 0 → blF c i d = [] := by
  intro d
  induction d with
  | zero => intro i _; rfl
  | succ d ih =>
    intro i h
    unfold blF
    rw [if_neg (by omega)]
    refine ih (i + 1) ?_
    rw [Nat.pow_succ, ← Nat.div_div_eq_div_mul, h]
theorem blF_mem (c : Nat) : ∀ d i : Nat, ∀ x ∈ blF c i d, ∃ j : Nat, x = (j : Int) ∧ i ≤ j ∧ j < i + d ∧ c / 2 ^ j % 2 = 1 := by
  intro d
  induction d with
  | zero => intro i x hx; simp [blF] at hx
  | succ d ih =>
    intro i x hx
    unfold blF at hx
    split at hx
    · rcases List.mem_cons.mp hx with rfl | hx
      · exact ⟨i, rfl, by omega, by omega, by assumption⟩
      · obtain ⟨j, a, b, e, f⟩ := ih (i + 1) x hx
        exact ⟨j, a, by omega, by omega, f⟩
    · obtain ⟨j, a, b, e, f⟩ := ih (i + 1) x hx
      exact ⟨j, a, by omega, by omega, f⟩
theorem blF_len (c : Nat) : ∀ d i : Nat, (blF c i d).length ≤ d := by
  intro d
  induction d with
  | zero => intro i; exact Nat.le_refl _
  | succ d ih =>
    intro i
    unfold blF
    have := ih (i + 1)
    split
    · rw [List.length_cons]; omega
    · omega
theorem rdz (xs : List Int) (i : Nat) (h : i < xs.length) : rd xs (i : Int) = xs[i] := by
  unfold rd
  rw [Int.toNat_natCast, List.getD_eq_getElem?_getD, List.getElem?_eq_getElem h]
  rfl
theorem rd_left (a b : List Int) (i : Nat) (h : i < a.length) : rd (a ++ b) (i : Int) = rd a (i : Int) := by
  rw [rdz _ i (by rw [List.length_append]; omega), rdz a i h, List.getElem_append_left h]
theorem rd_mid (a b : List Int) (x : Int) (i : Nat) (h : i = a.length) : rd (a ++ x :: b) (i : Int) = x := by
  subst h
  rw [rdz _ _ (by rw [List.length_append, List.length_cons]; omega)]
  simp
theorem set_mid (a b : List Int) (x y : Int) (i : Nat) (h : i = a.length) : (a ++ x :: b).set i y = a ++ y :: b := by
  subst h
  simp

theorem wrap_I64 (x : Int) : I64 (wrap64 x) := by unfold I64 wrap64; omega
def lateF (j : S59) (e : Int) : Int := if 0 < wrap64 (e - j.f3) then wrap64 (e - j.f3) else 0
def costF (j : S59) (e obj : Int) : Int := if obj = 2 then e else if obj = 3 then wrap64 (j.f1 * e) else if obj = 5 then lateF j e else if obj = 6 then wrap64 (j.f1 * lateF j e) else if lateF j e = 0 then 0 else if obj = 7 then 1 else j.f1
theorem add_eq (a : Int) (j : S59) (e obj : Int) (ha : I64 a) (ho : obj = 2 ∨ obj = 3 ∨ obj = 5 ∨ obj = 6 ∨ obj = 7 ∨ obj = 8) : impl_add.f a j.f0 j.f1 j.f2 j.f3 e obj false = some (wrap64 (a + costF j e obj)) := by
  have hmx : ∀ x : Int, mx 0 x = if 0 < x then x else 0 := fun x => rfl
  have hw : wrap64 a = a := w64 ha.1 ha.2
  unfold impl_add.f costF lateF
  rcases ho with rfl | rfl | rfl | rfl | rfl | rfl
  · rfl
  · rfl
  · rfl
  · rfl
  · by_cases h : wrap64 (e - j.f3) ≤ 0
    · simp only [if_neg (show ¬ (0 : Int) < wrap64 (e - j.f3) by omega), if_pos h]
      simp [hw]
    · simp only [if_pos (show (0 : Int) < wrap64 (e - j.f3) by omega), if_neg h, if_neg (show ¬ wrap64 (e - j.f3) = 0 by omega)]
      rfl
  · by_cases h : wrap64 (e - j.f3) ≤ 0
    · simp only [if_neg (show ¬ (0 : Int) < wrap64 (e - j.f3) by omega), if_pos h]
      simp [hw]
    · simp only [if_pos (show (0 : Int) < wrap64 (e - j.f3) by omega), if_neg h, if_neg (show ¬ wrap64 (e - j.f3) = 0 by omega)]
      rfl
theorem l2Cost_eq (j : S59) (e obj : Int) : spec_l2Cost.f j.f0 j.f1 j.f2 j.f3 e obj = some (costF j e obj) := by
  have hm : spec_l1Most.f (wrap64 (e - j.f3)) 0 = some (lateF j e) := by
    unfold spec_l1Most.f lateF
    by_cases h : wrap64 (e - j.f3) > 0
    · rw [if_pos h, if_pos h]
    · rw [if_neg h, if_neg h]
  unfold spec_l2Cost.f costF
  rw [hm, Option.bind_some]
  repeat' split
  all_goals rfl

def objB (o : Int) : Bool := decide (1 ≤ o) && decide (o ≤ 8)
def greatB (o : Int) : Bool := decide (o = 1) || decide (o = 4)
theorem l2Great_eq (o : Int) : spec_l2Greatest.f o = some (greatB o) := by
  unfold spec_l2Greatest.f greatB
  by_cases h1 : o = 1
  · simp [h1]
  · simp only [if_neg h1, decide_eq_false h1, Bool.false_or]; rfl
/-- The value so far, with one more end. -/
def ofStep (o : Int) (first : Bool) (acc : Int) (j : S59) (e : Int) : Int :=
  if greatB o = true then (let x := if o = 4 then wrap64 (e - j.f3) else e; if first = true then x else if x > acc then x else acc) else wrap64 (acc + costF j e o)
def ofF (o : Int) (xs : List S59) (es : List Int) (i : Nat) (acc : Int) : Nat → Int
  | 0 => acc
  | d + 1 => ofF o xs es (i + 1) (ofStep o (decide (i = 0)) acc (rd_T59 xs (i : Int)) (rd es (i : Int))) d
theorem l2Of_ev (xs : List S59) (es : List Int) (o : Int) (hn : xs.length ≤ 8) (he : es.length = xs.length) : Ev (fun k => spec_l2Of.f k xs es o) (ofF o xs es 0 0 xs.length) := by
  have key : ∀ (d i : Nat) (acc : Int), i + d = xs.length → Ev (fun k => spec_l2Of.l0 k xs es o acc (i : Int)) (ofF o xs es i acc d) := by
    intro d
    induction d with
    | zero =>
      intro i acc hi
      refine ev_succ ?_
      simp only [spec_l2Of.l0, if_neg (show ¬ (i : Int) < (xs.length : Int) by omega)]
      exact ev_now _
    | succ d ih =>
      intro i acc hi
      refine ev_succ ?_
      have h := fun a => ih (i + 1) a (by omega)
      simp only [spec_l2Of.l0, if_pos (show (i : Int) < (xs.length : Int) by omega), l2Great_eq, Option.bind_some, if_pos (show (0 : Int) ≤ (i : Int) by omega), if_pos (show (i : Int) < (es.length : Int) by omega), wsucc i (by omega), l2Cost_eq, ofF, ofStep]
      cases hgr : greatB o
      · simp only [Bool.false_eq_true, if_false]
        exact h _
      · simp only [if_true, decide_eq_true_eq]
        by_cases h4 : o = 4
        · by_cases h0 : i = 0
          · simp only [if_pos h4, if_pos h0, if_pos (show (i : Int) = 0 by omega)]; exact h _
          · by_cases hx : wrap64 (rd es (i : Int) - (rd_T59 xs (i : Int)).f3) > acc
            · simp only [if_pos h4, if_neg h0, if_neg (show ¬ (i : Int) = 0 by omega), if_pos hx]; exact h _
            · simp only [if_pos h4, if_neg h0, if_neg (show ¬ (i : Int) = 0 by omega), if_neg hx]; exact h _
        · by_cases h0 : i = 0
          · simp only [if_neg h4, if_pos h0, if_pos (show (i : Int) = 0 by omega)]; exact h _
          · by_cases hx : rd es (i : Int) > acc
            · simp only [if_neg h4, if_neg h0, if_neg (show ¬ (i : Int) = 0 by omega), if_pos hx]; exact h _
            · simp only [if_neg h4, if_neg h0, if_neg (show ¬ (i : Int) = 0 by omega), if_neg hx]; exact h _
  unfold spec_l2Of.f
  exact key xs.length 0 0 (Nat.zero_add _)
theorem add_full (a : Int) (j : S59) (e o : Int) (first : Bool) (ha : I64 a) (hf : first = true → a = 0) (ho : objB o = true) (he : 0 ≤ e) : impl_add.f a j.f0 j.f1 j.f2 j.f3 e o first = some (ofStep o first a j e) := by
  unfold objB at ho
  simp only [Bool.and_eq_true, decide_eq_true_eq] at ho
  have hmx : ∀ x y : Int, mx x y = if x < y then y else x := fun x y => rfl
  by_cases h1 : o = 1
  · subst h1
    unfold impl_add.f ofStep
    cases first
    · simp only [if_true, hmx, show greatB 1 = true by decide, show ¬ (1 : Int) = 4 by decide, if_false, gt_iff_lt, Bool.false_eq_true]
    · have := hf rfl
      subst this
      simp only [if_true, hmx, show greatB 1 = true by decide, show ¬ (1 : Int) = 4 by decide, if_false]
      congr 1
      split <;> omega
  · by_cases h4 : o = 4
    · subst h4
      unfold impl_add.f ofStep
      cases first
      · simp only [if_true, hmx, show greatB 4 = true by decide, show ¬ (4 : Int) = 1 by decide, show ¬ (4 : Int) = 2 by decide, show ¬ (4 : Int) = 3 by decide, if_false, gt_iff_lt, Bool.false_eq_true]
      · simp only [if_true, show greatB 4 = true by decide, show ¬ (4 : Int) = 1 by decide, show ¬ (4 : Int) = 2 by decide, show ¬ (4 : Int) = 3 by decide, if_false]
    · have hg : greatB o = false := by unfold greatB; rw [decide_eq_false h1, decide_eq_false h4]; rfl
      have h := add_eq a j e o ha (by omega)
      unfold ofStep
      simp only [hg, Bool.false_eq_true, if_false]
      rw [← h]
      unfold impl_add.f
      simp only [if_neg h1, if_neg h4]
theorem ofStep_I64 (o : Int) (first : Bool) (acc : Int) (j : S59) (e : Int) (ha : I64 acc) (he : I64 e) : I64 (ofStep o first acc j e) := by
  unfold ofStep
  have h0 := wrap_I64 (acc + costF j e o)
  have h1 := wrap_I64 (e - j.f3)
  dsimp only
  repeat' split
  all_goals assumption
theorem valueOfEnds_ev (xs : List S59) (es : List Int) (o : Int) (hn : xs.length ≤ 8) (he : es.length = xs.length) (hb : ∀ x ∈ es, 0 ≤ x ∧ x ≤ 4611686018427387904) (ho : objB o = true) : Ev (fun k => impl_valueOfEnds.f k xs es o) (ofF o xs es 0 0 xs.length) := by
  have key : ∀ (d i : Nat) (acc : Int), i + d = xs.length → I64 acc → (i = 0 → acc = 0) → Ev (fun k => impl_valueOfEnds.l0 k es o acc xs (xs.length : Int) (i : Int)) (ofF o xs es i acc d) := by
    intro d
    induction d with
    | zero =>
      intro i acc hi _ _
      refine ev_succ ?_
      simp only [impl_valueOfEnds.l0, if_neg (show ¬ (i : Int) < (xs.length : Int) by omega)]
      exact ev_now _
    | succ d ih =>
      intro i acc hi hI h0
      refine ev_succ ?_
      have hx : i < es.length := by omega
      have hbx := hb es[i] (List.getElem_mem hx)
      have hr := rdz es i hx
      have hf : ((i : Int) == 0) = decide (i = 0) := by rw [Bool.eq_iff_iff]; simp
      have hadd := add_full acc (rd_T59 xs (i : Int)) (rd es (i : Int)) o (decide (i = 0)) hI (fun h => h0 (by simpa using h)) ho (by rw [hr]; exact hbx.1)
      simp only [impl_valueOfEnds.l0, if_pos (show (i : Int) < (xs.length : Int) by omega), if_pos (show (0 : Int) ≤ (i : Int) by omega), if_pos (show (i : Int) < (es.length : Int) by omega), hf, hadd, Option.bind_some, wsucc i (by omega), ofF]
      exact ih (i + 1) _ (by omega) (ofStep_I64 _ _ _ _ _ hI (by rw [hr]; unfold I64; omega)) (fun h => by omega)
  unfold impl_valueOfEnds.f
  exact key xs.length 0 0 (Nat.zero_add _) (by unfold I64; omega) (fun _ => rfl)
theorem l2Obj_eq (o : Int) : spec_l2Objective.f o = some (objB o) := by
  unfold spec_l2Objective.f
  rw [l1In_eq]
  rfl
theorem isObj_eq (o : Int) : impl_isObjective.f o = some (objB o) := by
  unfold impl_isObjective.f
  rw [within_eq]
  rfl

theorem core (l : List S59) (ss : List S77) (o : Int) (hm : l.length ≤ 1048576) (_ : ∀ (i : Nat) (hi : i < l.length), I64 l[i].f0 ∧ I64 l[i].f1 ∧ I64 l[i].f2 ∧ I64 l[i].f3) (hs : ss.length ≤ 1048576) (_ : I64 o) :
    ∃ (r : Int) (ok : Bool), True ∧ Ev (fun k => spec_SplitValue.f k l ss o) (r, ok) ∧ Ev (fun k => impl_SplitValue.f k l ss o) (r, ok) := by
  have h1 := l2Good_ev l (by omega)
  have h2 := IsJobs_ev l (by omega)
  have n1 : Ev (fun k => spec_SplitValue.j0 k l ss o true) (0, false) := ev_succ (by simp only [spec_SplitValue.j0, if_true]; exact ev_now _)
  have n2 : Ev (fun k => impl_SplitValue.j0 k l ss o true) (0, false) := ev_succ (by simp only [impl_SplitValue.j0, if_true]; exact ev_now _)
  unfold spec_SplitValue.f impl_SplitValue.f spec_l5Both.f
  simp only [l2Obj_eq, isObj_eq, Option.bind_some]
  cases hg : goodB l
  · rw [hg] at h1 h2
    exact ⟨0, false, trivial, ev_bind (ev_bind h1 (by simp only [Bool.false_eq_true, if_false]; exact ev_now _)) (by simp only [Bool.false_eq_true, if_false]; exact n1), ev_bind h2 (by simp only [Bool.false_eq_true, if_false]; exact n2)⟩
  rw [hg] at h1 h2
  obtain ⟨r, e1, e2, e3⟩ := split_ev' l ss hg hs
  cases r
  · exact ⟨0, false, trivial, ev_bind (ev_bind h1 (by simp only [if_true]; exact ev_bind e1 (ev_now _))) (by simp only [Bool.false_eq_true, if_false]; exact n1), ev_bind h2 (by simp only [if_true]; exact ev_bind e2 (by simp only [Bool.false_eq_true, if_false]; exact n2))⟩
  cases ho : objB o
  · exact ⟨0, false, trivial, ev_bind (ev_bind h1 (by simp only [if_true]; exact ev_bind e1 (ev_now _))) (by simp only [if_true, Bool.not_false]; exact n1), ev_bind h2 (by simp only [if_true]; exact ev_bind e2 (by simp only [if_true, Bool.not_false]; exact n2))⟩
  have hn := good_len hg
  obtain ⟨f1, f2⟩ := ends_ev l ss hn hs (e3 rfl)
  obtain ⟨g1, g2⟩ := endsOf_ok l ss (e3 rfl)
  have v1 := l2Of_ev l (endsOf l ss) o hn g1
  have v2 := valueOfEnds_ev l (endsOf l ss) o hn g1 (fun x hx => by have := g2 x hx; omega) ho
  refine ⟨ofF o l (endsOf l ss) 0 0 l.length, true, trivial, ev_bind (ev_bind h1 (by simp only [if_true]; exact ev_bind e1 (ev_now _))) ?_, ev_bind h2 ?_⟩
  · simp only [if_true, Bool.not_true]
    refine ev_succ ?_
    simp only [spec_SplitValue.j0, Bool.false_eq_true, if_false]
    exact ev_bind f1 (ev_bind v1 (ev_now _))
  · simp only [if_true, Bool.not_true]
    refine ev_bind e2 ?_
    simp only [if_true]
    refine ev_succ ?_
    simp only [impl_SplitValue.j0, Bool.false_eq_true, if_false]
    exact ev_bind f2 (ev_bind v2 (ev_now _))

theorem FnExactSplitValue : FnExactSplitValue.Claim := by
  intro l0 l1 a2 hl0 hg0 hl1 hg1 hi2
  refine Ev.rounds ?_
  unfold laws_FnExactSplitValue.f
  simp only [szJobS_eq l0 (1048576 : Int) (by omega) (by omega) hl0, Option.bind_some]
  by_cases h0 : (1048576 : Int) < l0.length
  · simp only [if_pos h0, if_pos (show (-1 : Int) < 0 by omega)]
    exact ev_now _
  simp only [if_neg h0, if_neg (show ¬ (((1048576 : Int) - l0.length) < 0) by omega)]
  simp only [szSpanS_eq l1 ((1048576 : Int) - l0.length) (by omega) (by omega) hl1, Option.bind_some]
  by_cases h1 : ((1048576 : Int) - l0.length) < l1.length
  · simp only [if_pos h1, if_pos (show (-1 : Int) < 0 by omega)]
    exact ev_now _
  simp only [if_neg h1, if_neg (show ¬ ((((1048576 : Int) - l0.length) - l1.length) < 0) by omega)]
  have ht0 := toJobS_ev l0 (by omega)
  have hm0 : (l0.map conv).length ≤ 1048576 := by simp; omega
  have hq0 := eqJobS_ev (l0.map conv) (by omega)
  have ht1 := toSpanS_ev l1 (by omega)
  have hm1 : (l1.map convS).length ≤ 1048576 := by simp; omega
  have hq1 := eqSpanS_ev (l1.map convS) (by omega)
  obtain ⟨r0, r1, _, hs, hi⟩ := core (l0.map conv) (l1.map convS) a2 hm0 (conv_I64 l0 hg0) hm1 hi2
  repeat first
    | exact ev_now _
    | with_reducible refine ev_bind hs ?_
    | with_reducible refine ev_bind hi ?_
    | with_reducible refine ev_bind ht0 ?_
    | with_reducible refine ev_bind hq0 ?_
    | with_reducible refine ev_bind ht1 ?_
    | with_reducible refine ev_bind hq1 ?_
    | simp only [if_true, if_false, bne_self_eq_false, Bool.false_eq_true]
    | (refine ev_succ ?_; simp only [laws_FnExactSplitValue.j0])

end Go.Proofs.Ythhmembnhnghiaa.Pure
