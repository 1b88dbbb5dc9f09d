/- The program's function and the reference's come to the same answer: the statement of numbers and lists behind the law FnExactTotalEnd. Conditions: none. -/
import Derived.Test.YtecdigebnhlfhaaArgFnExactTotalEnd
import Derived.Test.YtecdigebnhlfhaaBase
namespace Go.Proofs.Ytecdigebnhlfhaa.Pure
open Go.RowKit Go.Proofs.Ytecdigebnhlfhaa.OFnExactTotalEnd Go.Proofs.Ytecdigebnhlfhaa.Base Go.Proofs.YtecdigebnhlfhaaW.PrintWords Go.Proofs.YtecdigebnhlfhaaW.PrintLast Go.Proofs.YtecdigebnhlfhaaW.PrintMore Go.Proofs.Ytecdigebnhlfhaa.Open
set_option linter.unusedVariables false
set_option linter.unusedSimpArgs false

theorem szJobS_eq (xs : List S83) (left : Int) (h0 : 0 ≤ left) (h1 : left ≤ 1048576) (h : xs.length ≤ 9223372036854775807) : laws_szJobS.f xs left = some (if left < xs.length then -1 else left - xs.length) := by
  unfold laws_szJobS.f
  rw [w64 (by omega) (by omega)]
  by_cases c : left < xs.length
  · rw [if_pos (by omega), if_pos c]
  · rw [if_neg (by omega), if_neg c]

def conv (x : S83) : S79 := ⟨x.f0, x.f1, x.f2, x.f3⟩
theorem rdL (xs : List S83) (i : Nat) (h : i < xs.length) : rd_T83 xs (i : Int) = xs[i] := by
  unfold rd_T83
  rw [Int.toNat_natCast, List.getD_eq_getElem?_getD, List.getElem?_eq_getElem h]
  rfl

theorem toJobS_l (xs : List S83) (hn : xs.length ≤ 8796093022208) : ∀ (d i : Nat) (ys : List S79), i + d = xs.length → ys.length = xs.length → ys.take i = (xs.map conv).take i → Ev (fun k => laws_toJobS.l0 k xs ys (i : Int)) (xs.map conv) := by
  intro d
  induction d with
  | zero =>
    intro i ys hi hl ht
    refine ev_succ ?_
    simp only [laws_toJobS.l0, if_neg (show ¬ (i : Int) < (xs.length : Int) by omega)]
    have : ys = xs.map conv := by
      rw [List.take_of_length_le (by omega), List.take_of_length_le (by simp; omega)] at ht
      exact ht
    rw [this]
    exact ev_now _
  | succ d ih =>
    intro i ys hi hl ht
    refine ev_succ ?_
    have hx : i < xs.length := by omega
    simp only [laws_toJobS.l0, laws_toJob.f, Option.bind_some, if_pos (show (i : Int) < (xs.length : Int) by omega), if_pos (show (i : Int) < (ys.length : Int) by omega), if_pos (show (0 : Int) ≤ (i : Int) by omega), rdL xs i hx, wsucc i (by omega), Int.toNat_natCast]
    refine ih (i + 1) _ (by omega) (by rw [List.length_set]; exact hl) ?_
    rw [take_set_succ ys i _ (by omega), ht, List.take_succ_eq_append_getElem (by simp; omega)]
    simp [conv]
theorem toJobS_ev (xs : List S83) (hn : xs.length ≤ 1048576) : Ev (fun k => laws_toJobS.f k xs) (xs.map conv) := by
  unfold laws_toJobS.f
  simp only [if_pos (show (0 : Int) ≤ (xs.length : Int) by omega), Int.toNat_natCast, if_pos (show xs.length ≤ 8796093022208 by omega)]
  exact toJobS_l xs (by omega) xs.length 0 _ (by omega) (by simp) (by simp)

theorem rdI (xs : List S79) (i : Nat) (h : i < xs.length) : rd_T79 xs (i : Int) = xs[i] := by
  unfold rd_T79
  rw [Int.toNat_natCast, List.getD_eq_getElem?_getD, List.getElem?_eq_getElem h]
  rfl

theorem eqJobS_l (xs : List S79) (hn : xs.length ≤ 4611686018427387904) : ∀ (d i : Nat), i + d = xs.length → Ev (fun k => laws_eqJobS.l0 k xs xs (i : Int)) true := by
  intro d
  induction d with
  | zero =>
    intro i hi
    refine ev_succ ?_
    simp only [laws_eqJobS.l0, if_neg (show ¬ (i : Int) < (xs.length : Int) by omega)]
    exact ev_now _
  | succ d ih =>
    intro i hi
    refine ev_succ ?_
    simp only [laws_eqJobS.l0, laws_eqJob.f, if_true, Option.bind_some, if_pos (show (i : Int) < (xs.length : Int) by omega), if_pos (show (0 : Int) ≤ (i : Int) by omega), wsucc i (by omega)]
    exact ih (i + 1) (by omega)
theorem eqJobS_ev (xs : List S79) (hn : xs.length ≤ 4611686018427387904) : Ev (fun k => laws_eqJobS.f k xs xs) true := by
  unfold laws_eqJobS.f
  simp only [if_true]
  exact eqJobS_l xs hn xs.length 0 (by omega)

theorem conv_I64 (l : List S83) (hg : ∀ x ∈ l, G83 x) (i : Nat) (hi : i < (l.map conv).length) : I64 (l.map conv)[i].f0 ∧ I64 (l.map conv)[i].f1 ∧ I64 (l.map conv)[i].f2 ∧ I64 (l.map conv)[i].f3 := by
  simp only [List.getElem_map, conv]
  exact hg _ (List.getElem_mem _)

theorem within_eq (a b c : Int) : impl_within.f a b c = some (decide (b ≤ a) && decide (a ≤ c)) := by
  unfold impl_within.f
  by_cases h : b ≤ a
  · rw [if_pos h]; simp [h]
  · rw [if_neg h]; simp [h]

/-- A job's numbers are in their bounds. -/
def okJ (x : S79) : Bool := decide (1 ≤ x.f0) && (decide (x.f0 ≤ 50) && (decide (0 ≤ x.f1) && (decide (x.f1 ≤ 50) && (decide (0 ≤ x.f2) && (decide (x.f2 ≤ 500) && (decide (0 ≤ x.f3) && decide (x.f3 ≤ 500)))))))
def goodB (l : List S79) : Bool := decide (l.length ≤ 8) && l.all okJ
theorem isDate_eq (a : Int) : impl_isDate.f a = some (decide (0 ≤ a) && decide (a ≤ 500)) := by
  unfold impl_isDate.f
  rw [within_eq]
  rfl
theorem job_chain (x : S79) (o : Option Bool) : (if (decide (1 ≤ x.f0) && decide (x.f0 ≤ 50)) = true then (if (decide (0 ≤ x.f1) && decide (x.f1 ≤ 50)) = true then (if (decide (0 ≤ x.f2) && decide (x.f2 ≤ 500)) = true then (if (decide (0 ≤ x.f3) && decide (x.f3 ≤ 500)) = true then o else some false) else some false) else some false) else some false) = if okJ x = true then o else some false := by
  unfold okJ
  by_cases a1 : 1 ≤ x.f0 <;> by_cases a2 : x.f0 ≤ 50 <;> simp [a1, a2]
  by_cases b1 : 0 ≤ x.f1 <;> by_cases b2 : x.f1 ≤ 50 <;> simp [b1, b2]
  by_cases c1 : 0 ≤ x.f2 <;> by_cases c2 : x.f2 ≤ 500 <;> simp [c1, c2]
theorem IsJobs_l (xs : List S79) (hn : xs.length ≤ 4611686018427387904) : ∀ (d i : Nat), i + d = xs.length → Ev (fun k => impl_IsJobs.l0 k xs (xs.length : Int) (i : Int)) ((xs.drop i).all okJ) := by
  intro d
  induction d with
  | zero =>
    intro i hi
    refine ev_succ ?_
    simp only [impl_IsJobs.l0, if_neg (show ¬ (i : Int) < (xs.length : Int) by omega), List.drop_of_length_le (show xs.length ≤ i by omega)]
    exact ev_now _
  | succ d ih =>
    intro i hi
    refine ev_succ ?_
    have hx : i < xs.length := by omega
    have hih := ih (i + 1) (by omega)
    rw [List.drop_eq_getElem_cons hx, List.all_cons]
    simp only [impl_IsJobs.l0, within_eq, isDate_eq, Option.bind_some, if_pos (show (i : Int) < (xs.length : Int) by omega), if_pos (show (0 : Int) ≤ (i : Int) by omega), wsucc i (by omega), rdI xs i hx]
    generalize xs[i] = x at *
    simp only [job_chain]
    by_cases c : okJ x = true
    · simpa only [c, if_true, Bool.true_and] using hih
    · have c' : okJ x = false := by simpa using c
      simp only [c', Bool.false_and]
      exact ev_now _
theorem IsJobs_ev (xs : List S79) (hn : xs.length ≤ 4611686018427387904) : Ev (fun k => impl_IsJobs.f k xs) (goodB xs) := by
  unfold impl_IsJobs.f goodB
  by_cases h : xs.length ≤ 8
  · simp only [if_neg (show ¬ ((xs.length : Int) > 8) by omega), decide_eq_true h, Bool.true_and]
    exact IsJobs_l xs hn xs.length 0 (by omega)
  · simp only [if_pos (show ((xs.length : Int) > 8) by omega), decide_eq_false h, Bool.false_and]
    exact ev_now _

def freeJ (x : S79) : Bool := decide (x.f2 = 0)
def plainB (l : List S79) : Bool := goodB l && l.all freeJ
theorem isPlain_l (xs : List S79) (hn : xs.length ≤ 4611686018427387904) : ∀ (d i : Nat), i + d = xs.length → Ev (fun k => impl_isPlain.l0 k xs (xs.length : Int) (i : Int)) ((xs.drop i).all freeJ) := by
  intro d
  induction d with
  | zero =>
    intro i hi
    refine ev_succ ?_
    simp only [impl_isPlain.l0, if_neg (show ¬ (i : Int) < (xs.length : Int) by omega), List.drop_of_length_le (show xs.length ≤ i by omega)]
    exact ev_now _
  | succ d ih =>
    intro i hi
    refine ev_succ ?_
    have hx : i < xs.length := by omega
    have hih := ih (i + 1) (by omega)
    rw [List.drop_eq_getElem_cons hx, List.all_cons]
    simp only [impl_isPlain.l0, if_pos (show (i : Int) < (xs.length : Int) by omega), if_pos (show (0 : Int) ≤ (i : Int) by omega), wsucc i (by omega), rdI xs i hx]
    by_cases c : (xs[i]).f2 = 0
    · simp only [if_pos c, freeJ, decide_eq_true c, Bool.true_and]
      exact hih
    · simp only [if_neg c, freeJ, decide_eq_false c, Bool.false_and]
      exact ev_now _
theorem isPlain_ev (xs : List S79) (hn : xs.length ≤ 4611686018427387904) : Ev (fun k => impl_isPlain.f k xs) (xs.all freeJ) := by
  unfold impl_isPlain.f
  exact isPlain_l xs hn xs.length 0 (by omega)

theorem IsPlain_ev (xs : List S79) (hn : xs.length ≤ 4611686018427387904) : Ev (fun k => impl_IsPlain.f k xs) (plainB xs) := by
  unfold impl_IsPlain.f plainB
  refine ev_bind (IsJobs_ev xs hn) ?_
  cases goodB xs
  · simp only [Bool.false_eq_true, if_false, Bool.false_and]; exact ev_now _
  · simp only [if_true, Bool.true_and]; exact ev_bind (isPlain_ev xs hn) (ev_now _)

theorem plain_good {xs : List S79} (h : plainB xs = true) : goodB xs = true := by
  unfold plainB at h
  simp only [Bool.and_eq_true] at h
  exact h.1

theorem good_len {xs : List S79} (h : goodB xs = true) : xs.length ≤ 8 := by
  unfold goodB at h
  simp only [Bool.and_eq_true, decide_eq_true_eq] at h
  exact h.1
theorem good_at {xs : List S79} (h : goodB xs = true) (i : Nat) (hi : i < xs.length) : 1 ≤ xs[i].f0 ∧ xs[i].f0 ≤ 50 ∧ 0 ≤ xs[i].f1 ∧ xs[i].f1 ≤ 50 ∧ 0 ≤ xs[i].f2 ∧ xs[i].f2 ≤ 500 ∧ 0 ≤ xs[i].f3 ∧ xs[i].f3 ≤ 500 := by
  unfold goodB at h
  simp only [Bool.and_eq_true, List.all_eq_true] at h
  have b := h.2 xs[i] (List.getElem_mem hi)
  simp only [okJ, Bool.and_eq_true, decide_eq_true_eq] at b
  obtain ⟨a1, a2, b1, b2, c1, c2, d1, d2⟩ := b
  exact ⟨a1, a2, b1, b2, c1, c2, d1, d2⟩

theorem l1In_eq (a b c : Int) : spec_l1In.f a b c = some (decide (b ≤ a) && decide (a ≤ c)) := by
  unfold spec_l1In.f
  by_cases h : b ≤ a
  · rw [if_pos h]; simp [h]
  · rw [if_neg h]; simp [h]

theorem l2Job_eq (x : S79) : spec_l2Job.f x.f0 x.f1 x.f2 x.f3 = some (okJ x) := by
  unfold spec_l2Job.f okJ
  simp only [l1In_eq, Option.bind_some]
  by_cases a1 : 1 ≤ x.f0 <;> by_cases a2 : x.f0 ≤ 50 <;> simp [a1, a2]
  by_cases b1 : 0 ≤ x.f1 <;> by_cases b2 : x.f1 ≤ 50 <;> simp [b1, b2]
  by_cases c1 : 0 ≤ x.f2 <;> by_cases c2 : x.f2 ≤ 500 <;> simp [c1, c2]
theorem l2Good_l (xs : List S79) (hn : xs.length ≤ 4611686018427387904) : ∀ (d i : Nat), i + d = xs.length → Ev (fun k => spec_l2Good.l0 k xs (i : Int)) ((xs.drop i).all okJ && decide (xs.length ≤ 8)) := by
  intro d
  induction d with
  | zero =>
    intro i hi
    refine ev_succ ?_
    simp only [spec_l2Good.l0, if_neg (show ¬ (i : Int) < (xs.length : Int) by omega), List.drop_of_length_le (show xs.length ≤ i by omega)]
    refine ev_const ?_
    simp
    omega
  | succ d ih =>
    intro i hi
    refine ev_succ ?_
    have hx : i < xs.length := by omega
    have hih := ih (i + 1) (by omega)
    rw [List.drop_eq_getElem_cons hx, List.all_cons]
    simp only [spec_l2Good.l0, if_pos (show (i : Int) < (xs.length : Int) by omega), if_pos (show (0 : Int) ≤ (i : Int) by omega), wsucc i (by omega), rdI xs i hx, l2Job_eq, Option.bind_some]
    by_cases c : okJ xs[i] = true
    · simpa only [c, if_true, Bool.true_and] using hih
    · have c' : okJ xs[i] = false := by simpa using c
      simp only [c', Bool.false_and]
      exact ev_now _
theorem l2Good_ev (xs : List S79) (hn : xs.length ≤ 4611686018427387904) : Ev (fun k => spec_l2Good.f k xs) (goodB xs) := by
  unfold spec_l2Good.f goodB
  rw [Bool.and_comm]
  exact l2Good_l xs hn xs.length 0 (by omega)

theorem l3Plain_l (xs : List S79) (hn : xs.length ≤ 4611686018427387904) : ∀ (d i : Nat), i + d = xs.length → Ev (fun k => spec_l3Plain.l0 k xs (i : Int)) ((xs.drop i).all freeJ) := by
  intro d
  induction d with
  | zero =>
    intro i hi
    refine ev_succ ?_
    simp only [spec_l3Plain.l0, if_neg (show ¬ (i : Int) < (xs.length : Int) by omega), List.drop_of_length_le (show xs.length ≤ i by omega)]
    exact ev_now _
  | succ d ih =>
    intro i hi
    refine ev_succ ?_
    have hx : i < xs.length := by omega
    have hih := ih (i + 1) (by omega)
    rw [List.drop_eq_getElem_cons hx, List.all_cons]
    simp only [spec_l3Plain.l0, if_pos (show (i : Int) < (xs.length : Int) by omega), if_pos (show (0 : Int) ≤ (i : Int) by omega), wsucc i (by omega), rdI xs i hx]
    by_cases c : (xs[i]).f2 = 0
    · simp only [if_pos c, freeJ, decide_eq_true c, Bool.true_and]
      exact hih
    · simp only [if_neg c, freeJ, decide_eq_false c, Bool.false_and]
      exact ev_now _
theorem l3Plain_ev (xs : List S79) (hn : xs.length ≤ 4611686018427387904) : Ev (fun k => spec_l3Plain.f k xs) (xs.all freeJ) := by
  unfold spec_l3Plain.f
  exact l3Plain_l xs hn xs.length 0 (by omega)

theorem rdA2 (xs : List S71) (i : Nat) (h : i < xs.length) : rd_T71 xs (i : Int) = xs[i] := by
  unfold rd_T71
  rw [Int.toNat_natCast, List.getD_eq_getElem?_getD, List.getElem?_eq_getElem h]
  rfl
/-- A table of n rows and n columns. -/
def Sq (n : Nat) (t : List (List Bool)) : Prop := t.length = n ∧ ∀ r ∈ t, r.length = n
theorem Sq.row {n : Nat} {t : List (List Bool)} (h : Sq n t) (i : Nat) (hi : i < n) : (t[i]'(by rw [h.1]; exact hi)).length = n := h.2 _ (List.getElem_mem _)
def tb (t : List (List Bool)) (i j : Nat) : Bool := (t.getD i []).getD j false
theorem tb_eq (t : List (List Bool)) (i j : Nat) (hi : i < t.length) (hj : j < t[i].length) : tb t i j = t[i][j] := by
  unfold tb
  rw [List.getD_eq_getElem?_getD, List.getD_eq_getElem?_getD, List.getElem?_eq_getElem hi, Option.getD_some, List.getElem?_eq_getElem hj, Option.getD_some]
def putT (t : List (List Bool)) (i j : Nat) (b : Bool) : List (List Bool) := t.set i ((t.getD i []).set j b)
theorem Sq.put {n : Nat} {t : List (List Bool)} (h : Sq n t) (i j : Nat) (hi : i < n) (b : Bool) : Sq n (putT t i j b) := by
  refine ⟨by unfold putT; rw [List.length_set]; exact h.1, fun r hr => ?_⟩
  unfold putT at hr
  rcases List.mem_or_eq_of_mem_set hr with hr | rfl
  · exact h.2 r hr
  · rw [List.length_set, List.getD_eq_getElem?_getD, List.getElem?_eq_getElem (by rw [h.1]; exact hi), Option.getD_some]
    exact h.row i hi
theorem rdBB (t : List (List Bool)) (i : Nat) (h : i < t.length) : rd_L5 t (i : Int) = t[i] := by
  unfold rd_L5
  rw [Int.toNat_natCast, List.getD_eq_getElem?_getD, List.getElem?_eq_getElem h]
  rfl
theorem rdB (r : List Bool) (i : Nat) (h : i < r.length) : rdOf false r (i : Int) = r[i] := by
  unfold rdOf
  rw [Int.toNat_natCast, List.getD_eq_getElem?_getD, List.getElem?_eq_getElem h]
  rfl
theorem rdTB (t : List (List Bool)) (i : Nat) (h : i < t.length) : (rd_L5 t (i : Int)) = t.getD i [] := by
  rw [rdBB t i h, List.getD_eq_getElem?_getD, List.getElem?_eq_getElem h]; rfl
theorem rdTT {n : Nat} {t : List (List Bool)} (h : Sq n t) (i j : Nat) (hi : i < n) (hj : j < n) : rdOf false (rd_L5 t (i : Int)) (j : Int) = tb t i j := by
  have h1 : i < t.length := by rw [h.1]; exact hi
  have h2 := h.row i hi
  rw [rdBB t i h1, rdB _ j (by rw [h2]; exact hj), tb_eq t i j h1 (by rw [h2]; exact hj)]
theorem put_same {n : Nat} {t : List (List Bool)} (h : Sq n t) (i j : Nat) (hi : i < n) (hj : j < n) : putT t i j (tb t i j) = t := by
  have h1 : i < t.length := by rw [h.1]; exact hi
  have h2 := h.row i hi
  have hg : t.getD i [] = t[i] := by rw [List.getD_eq_getElem?_getD, List.getElem?_eq_getElem h1]; rfl
  unfold putT
  rw [hg, tb_eq t i j h1 (by rw [h2]; exact hj), List.set_getElem_self, List.set_getElem_self]
def stepT (t : List (List Bool)) (k i j : Nat) : List (List Bool) := if (tb t i k && tb t k j) = true then putT t i j true else t
theorem Sq.step {n : Nat} {t : List (List Bool)} (h : Sq n t) (k i j : Nat) (hi : i < n) : Sq n (stepT t k i j) := by
  unfold stepT
  split
  · exact h.put i j hi true
  · exact h
def rowF (t : List (List Bool)) (k i : Nat) (js : List Nat) : List (List Bool) := js.foldl (fun t j => stepT t k i j) t
def midF (n : Nat) (t : List (List Bool)) (k : Nat) (is : List Nat) : List (List Bool) := is.foldl (fun t i => rowF t k i (List.range' 0 n)) t
def outF (n : Nat) (t : List (List Bool)) (ks : List Nat) : List (List Bool) := ks.foldl (fun t k => midF n t k (List.range' 0 n)) t
def edgeF (t : List (List Bool)) (es : List S71) : List (List Bool) := es.foldl (fun t e => putT t e.f0.toNat e.f1.toNat true) t
/-- The table of what comes before what. -/
def closT (n : Nat) (es : List S71) : List (List Bool) := outF n (edgeF (List.replicate n (List.replicate n false)) es) (List.range' 0 n)
def inN (n : Nat) (es : List S71) : Prop := ∀ e ∈ es, 0 ≤ e.f0 ∧ e.f0 < n ∧ 0 ≤ e.f1 ∧ e.f1 < n
theorem Sq.row_fold {n : Nat} {t : List (List Bool)} (h : Sq n t) (k i : Nat) (hi : i < n) (js : List Nat) : Sq n (rowF t k i js) := by
  unfold rowF
  induction js generalizing t with
  | nil => exact h
  | cons j js ih => exact ih (h.step k i j hi)
section
variable {F : Nat → List (List Bool) → Nat → Nat → Nat → Option (List (List Bool))}
end
theorem spec_l4 (n : Nat) (hn : n ≤ 8) (kk i : Nat) (hk : kk < n) (hi : i < n) (R : List (List Bool) → List (List Bool))
    (hnext : ∀ t, Sq n t → Ev (fun k => spec_l4Table.l3 k (n : Int) t (kk : Int) ((i + 1 : Nat) : Int)) (R t)) :
    ∀ (d j : Nat) (t : List (List Bool)), j + d = n → Sq n t → Ev (fun k => spec_l4Table.l4 k (n : Int) t (kk : Int) (i : Int) (j : Int)) (R (rowF t kk i (List.range' j d))) := by
  intro d
  induction d with
  | zero =>
    intro j t hj ht
    refine ev_succ ?_
    simp only [spec_l4Table.l4, if_neg (show ¬ (j : Int) < (n : Int) by omega), wsucc i (by omega)]
    exact hnext t ht
  | succ d ih =>
    intro j t hj ht
    refine ev_succ ?_
    have hl := ht.1
    have hri : (rd_L5 t (i : Int)).length = n := by rw [rdBB t i (by omega)]; exact ht.row i hi
    have hrk : (rd_L5 t (kk : Int)).length = n := by rw [rdBB t kk (by omega)]; exact ht.row kk hk
    have h := ih (j + 1) (stepT t kk i j) (by omega) (ht.step kk i j hi)
    rw [List.range'_succ]
    simp only [rowF, List.foldl_cons]
    simp only [rowF] at h
    simp only [spec_l4Table.l4, if_pos (show (j : Int) < (n : Int) by omega), if_pos (show (0 : Int) ≤ (i : Int) by omega), if_pos (show (i : Int) < (t.length : Int) by omega), if_pos (show (0 : Int) ≤ (kk : Int) by omega), if_pos (show (kk : Int) < ((rd_L5 t (i : Int)).length : Int) by omega), if_pos (show (kk : Int) < (t.length : Int) by omega), if_pos (show (0 : Int) ≤ (j : Int) by omega), if_pos (show (j : Int) < ((rd_L5 t (kk : Int)).length : Int) by omega), if_pos (show (j : Int) < ((rd_L5 t (i : Int)).length : Int) by omega), rdTT ht i kk hi hk, rdTT ht kk j hk (by omega), wsucc j (by omega), Int.toNat_natCast]
    by_cases c1 : tb t i kk = true
    · by_cases c2 : tb t kk j = true
      · simp only [if_pos c1, if_pos c2]
        have hs : stepT t kk i j = putT t i j true := by unfold stepT; rw [if_pos (by rw [c1, c2]; rfl)]
        rw [hs] at h ⊢
        rw [rdTB t i (by omega)]
        exact h
      · simp only [if_pos c1, if_neg c2]
        have hs : stepT t kk i j = t := by unfold stepT; rw [if_neg (by rw [c1]; simpa using c2)]
        rw [hs] at h ⊢
        exact h
    · simp only [if_neg c1]
      have hs : stepT t kk i j = t := by unfold stepT; rw [if_neg (by simp only [Bool.and_eq_true]; exact fun x => c1 x.1)]
      rw [hs] at h ⊢
      exact h
theorem spec_l3 (n : Nat) (hn : n ≤ 8) (kk : Nat) (hk : kk < n) (R : List (List Bool) → List (List Bool))
    (hnext : ∀ t, Sq n t → Ev (fun k => spec_l4Table.l2 k (n : Int) t ((kk + 1 : Nat) : Int)) (R t)) :
    ∀ (d i : Nat) (t : List (List Bool)), i + d = n → Sq n t → Ev (fun k => spec_l4Table.l3 k (n : Int) t (kk : Int) (i : Int)) (R (midF n t kk (List.range' i d))) := by
  intro d
  induction d with
  | zero =>
    intro i t hi ht
    refine ev_succ ?_
    simp only [spec_l4Table.l3, if_neg (show ¬ (i : Int) < (n : Int) by omega), wsucc kk (by omega)]
    exact hnext t ht
  | succ d ih =>
    intro i t hi ht
    refine ev_succ ?_
    rw [List.range'_succ]
    simp only [midF, List.foldl_cons, spec_l4Table.l3, if_pos (show (i : Int) < (n : Int) by omega)]
    exact spec_l4 n hn kk i hk (by omega) (fun t => R (midF n t kk (List.range' (i + 1) d))) (fun t ht => ih (i + 1) t (by omega) ht) n 0 t (by omega) ht
theorem mid_sq {n : Nat} {t : List (List Bool)} (h : Sq n t) (k : Nat) : ∀ is : List Nat, (∀ i ∈ is, i < n) → Sq n (midF n t k is) := by
  intro is
  unfold midF
  induction is generalizing t with
  | nil => intro _; exact h
  | cons i is ih => intro hi; exact ih (h.row_fold k i (hi i (by simp)) _) (fun x hx => hi x (by simp [hx]))
theorem spec_l2 (n : Nat) (hn : n ≤ 8) : ∀ (d kk : Nat) (t : List (List Bool)), kk + d = n → Sq n t → Ev (fun k => spec_l4Table.l2 k (n : Int) t (kk : Int)) (outF n t (List.range' kk d)) := by
  intro d
  induction d with
  | zero =>
    intro kk t hk ht
    refine ev_succ ?_
    simp only [spec_l4Table.l2, if_neg (show ¬ (kk : Int) < (n : Int) by omega)]
    exact ev_now _
  | succ d ih =>
    intro kk t hk ht
    refine ev_succ ?_
    rw [List.range'_succ]
    simp only [outF, List.foldl_cons, spec_l4Table.l2, if_pos (show (kk : Int) < (n : Int) by omega)]
    exact spec_l3 n hn kk (by omega) (fun t => outF n t (List.range' (kk + 1) d)) (fun t ht => ih (kk + 1) t (by omega) ht) n 0 t (by omega) ht
theorem edge_sq {n : Nat} {t : List (List Bool)} (h : Sq n t) : ∀ es : List S71, inN n es → Sq n (edgeF t es) := by
  intro es
  unfold edgeF
  induction es generalizing t with
  | nil => intro _; exact h
  | cons e es ih =>
    intro he
    have := he e (by simp)
    exact ih (h.put _ _ (by omega) true) (fun x hx => he x (by simp [hx]))
theorem spec_l1 (n : Nat) (hn : n ≤ 8) (es : List S71) (hes : es.length ≤ 1048576) (hin : inN n es) : ∀ (d i : Nat) (t : List (List Bool)), i + d = es.length → Sq n t → Ev (fun k => spec_l4Table.l1 k (n : Int) es t (i : Int)) (outF n (edgeF t (es.drop i)) (List.range' 0 n)) := by
  intro d
  induction d with
  | zero =>
    intro i t hi ht
    refine ev_succ ?_
    simp only [spec_l4Table.l1, if_neg (show ¬ (i : Int) < (es.length : Int) by omega), List.drop_of_length_le (show es.length ≤ i by omega)]
    exact spec_l2 n hn n 0 t (by omega) ht
  | succ d ih =>
    intro i t hi ht
    refine ev_succ ?_
    have hx : i < es.length := by omega
    have hl := ht.1
    have he := hin es[i] (List.getElem_mem hx)
    obtain ⟨a, ha⟩ := Int.eq_ofNat_of_zero_le he.1
    obtain ⟨b, hb⟩ := Int.eq_ofNat_of_zero_le he.2.2.1
    have hr : (rd_L5 t (a : Int)).length = n := by rw [rdBB t a (by omega)]; exact ht.row a (by omega)
    have h := ih (i + 1) (putT t a b true) (by omega) (ht.put a b (by omega) true)
    rw [List.drop_eq_getElem_cons hx]
    simp only [edgeF, List.foldl_cons, ha, hb, Int.toNat_natCast]
    simp only [edgeF] at h
    simp only [spec_l4Table.l1, if_pos (show (i : Int) < (es.length : Int) by omega), if_pos (show (0 : Int) ≤ (i : Int) by omega), rdA2 es i hx, ha, hb, if_pos (show (0 : Int) ≤ (a : Int) by omega), if_pos (show (a : Int) < (t.length : Int) by omega), if_pos (show (0 : Int) ≤ (b : Int) by omega), if_pos (show (b : Int) < ((rd_L5 t (a : Int)).length : Int) by omega), wsucc i (by omega), Int.toNat_natCast]
    rw [rdTB t a (by omega)]
    exact h
theorem spec_l0 (n : Nat) (hn : n ≤ 8) (es : List S71) (hes : es.length ≤ 1048576) (hin : inN n es) : ∀ (d i : Nat) (t : List (List Bool)), i + d = n → t = List.replicate i (List.replicate n false) → Ev (fun k => spec_l4Table.l0 k (n : Int) es t (i : Int)) (closT n es) := by
  intro d
  induction d with
  | zero =>
    intro i t hi ht
    refine ev_succ ?_
    have hin' : i = n := by omega
    subst hin'
    simp only [spec_l4Table.l0, if_neg (show ¬ (i : Int) < (i : Int) by omega)]
    have := spec_l1 i hn es hes hin es.length 0 t (by omega) (by rw [ht]; exact ⟨by simp, fun r hr => by rw [List.eq_of_mem_replicate hr]; simp⟩)
    rw [List.drop_zero, ht] at this
    rw [ht]
    exact this
  | succ d ih =>
    intro i t hi ht
    refine ev_succ ?_
    have hl : t.length = i := by rw [ht]; simp
    simp only [spec_l4Table.l0, if_pos (show (i : Int) < (n : Int) by omega), if_pos (show (0 : Int) ≤ (n : Int) by omega), Int.toNat_natCast, if_pos (show n ≤ 281474976710656 by omega), if_pos (show t.length < 5864062014805 by omega), wsucc i (by omega)]
    exact ih (i + 1) _ (by omega) (by rw [ht, List.replicate_succ'])
theorem l4Table_ev (n : Nat) (hn : n ≤ 8) (es : List S71) (hes : es.length ≤ 1048576) (hin : inN n es) : Ev (fun k => spec_l4Table.f k (n : Int) es) (closT n es) := by
  unfold spec_l4Table.f
  exact spec_l0 n hn es hes hin n 0 [] (by omega) (by simp)
theorem impl_l4 (n : Nat) (hn : n ≤ 8) (kk i : Nat) (hk : kk < n) (hi : i < n) (R : List (List Bool) → List (List Bool))
    (hnext : ∀ t, Sq n t → Ev (fun k => impl_closure.l3 k (n : Int) t (kk : Int) ((i + 1 : Nat) : Int)) (R t)) :
    ∀ (d j : Nat) (t : List (List Bool)), j + d = n → Sq n t → Ev (fun k => impl_closure.l4 k (n : Int) t (kk : Int) (i : Int) (j : Int)) (R (rowF t kk i (List.range' j d))) := by
  intro d
  induction d with
  | zero =>
    intro j t hj ht
    refine ev_succ ?_
    simp only [impl_closure.l4, if_neg (show ¬ (j : Int) < (n : Int) by omega), wsucc i (by omega)]
    exact hnext t ht
  | succ d ih =>
    intro j t hj ht
    refine ev_succ ?_
    have hl := ht.1
    have hri : (rd_L5 t (i : Int)).length = n := by rw [rdBB t i (by omega)]; exact ht.row i hi
    have hrk : (rd_L5 t (kk : Int)).length = n := by rw [rdBB t kk (by omega)]; exact ht.row kk hk
    have h := ih (j + 1) (stepT t kk i j) (by omega) (ht.step kk i j hi)
    rw [List.range'_succ]
    simp only [rowF, List.foldl_cons]
    simp only [rowF] at h
    simp only [impl_closure.l4, if_pos (show (j : Int) < (n : Int) by omega), if_pos (show (0 : Int) ≤ (i : Int) by omega), if_pos (show (i : Int) < (t.length : Int) by omega), if_pos (show (0 : Int) ≤ (kk : Int) by omega), if_pos (show (kk : Int) < ((rd_L5 t (i : Int)).length : Int) by omega), if_pos (show (kk : Int) < (t.length : Int) by omega), if_pos (show (0 : Int) ≤ (j : Int) by omega), if_pos (show (j : Int) < ((rd_L5 t (kk : Int)).length : Int) by omega), if_pos (show (j : Int) < ((rd_L5 t (i : Int)).length : Int) by omega), rdTT ht i kk hi hk, rdTT ht kk j hk (by omega), rdTT ht i j hi (by omega), wsucc j (by omega), Int.toNat_natCast]
    have hput : ∀ b, t.set i ((rd_L5 t (i : Int)).set j b) = putT t i j b := fun b => by rw [rdTB t i (by omega)]; rfl
    have hsame := put_same ht i j hi (show j < n by omega)
    by_cases c0 : tb t i j = true
    · simp only [if_pos c0, hput]
      have hs : stepT t kk i j = t := by
        unfold stepT
        split
        · rw [c0] at hsame; exact hsame
        · rfl
      rw [hs] at h ⊢
      rw [c0] at hsame
      rw [hsame]
      exact h
    · have c0' : tb t i j = false := by simpa using c0
      rw [c0'] at hsame
      by_cases c1 : tb t i kk = true
      · simp only [if_neg c0, if_pos c1, hput]
        by_cases c2 : tb t kk j = true
        · have hs : stepT t kk i j = putT t i j true := by unfold stepT; rw [if_pos (by rw [c1, c2]; rfl)]
          rw [hs] at h ⊢
          rw [c2]
          exact h
        · have c2' : tb t kk j = false := by simpa using c2
          have hs : stepT t kk i j = t := by unfold stepT; rw [if_neg (by rw [c1]; simpa using c2)]
          rw [hs] at h ⊢
          rw [c2', hsame]
          exact h
      · simp only [if_neg c0, if_neg c1, hput]
        have hs : stepT t kk i j = t := by unfold stepT; rw [if_neg (by simp only [Bool.and_eq_true]; exact fun x => c1 x.1)]
        rw [hs] at h ⊢
        rw [hsame]
        exact h
theorem impl_l3 (n : Nat) (hn : n ≤ 8) (kk : Nat) (hk : kk < n) (R : List (List Bool) → List (List Bool))
    (hnext : ∀ t, Sq n t → Ev (fun k => impl_closure.l2 k (n : Int) t ((kk + 1 : Nat) : Int)) (R t)) :
    ∀ (d i : Nat) (t : List (List Bool)), i + d = n → Sq n t → Ev (fun k => impl_closure.l3 k (n : Int) t (kk : Int) (i : Int)) (R (midF n t kk (List.range' i d))) := by
  intro d
  induction d with
  | zero =>
    intro i t hi ht
    refine ev_succ ?_
    simp only [impl_closure.l3, if_neg (show ¬ (i : Int) < (n : Int) by omega), wsucc kk (by omega)]
    exact hnext t ht
  | succ d ih =>
    intro i t hi ht
    refine ev_succ ?_
    rw [List.range'_succ]
    simp only [midF, List.foldl_cons, impl_closure.l3, if_pos (show (i : Int) < (n : Int) by omega)]
    exact impl_l4 n hn kk i hk (by omega) (fun t => R (midF n t kk (List.range' (i + 1) d))) (fun t ht => ih (i + 1) t (by omega) ht) n 0 t (by omega) ht
theorem impl_l2 (n : Nat) (hn : n ≤ 8) : ∀ (d kk : Nat) (t : List (List Bool)), kk + d = n → Sq n t → Ev (fun k => impl_closure.l2 k (n : Int) t (kk : Int)) (outF n t (List.range' kk d)) := by
  intro d
  induction d with
  | zero =>
    intro kk t hk ht
    refine ev_succ ?_
    simp only [impl_closure.l2, if_neg (show ¬ (kk : Int) < (n : Int) by omega)]
    exact ev_now _
  | succ d ih =>
    intro kk t hk ht
    refine ev_succ ?_
    rw [List.range'_succ]
    simp only [outF, List.foldl_cons, impl_closure.l2, if_pos (show (kk : Int) < (n : Int) by omega)]
    exact impl_l3 n hn kk (by omega) (fun t => outF n t (List.range' (kk + 1) d)) (fun t ht => ih (kk + 1) t (by omega) ht) n 0 t (by omega) ht
theorem impl_l1 (n : Nat) (hn : n ≤ 8) (es : List S71) (hes : es.length ≤ 1048576) (hin : inN n es) : ∀ (d i : Nat) (t : List (List Bool)), i + d = es.length → Sq n t → Ev (fun k => impl_closure.l1 k (n : Int) t es (es.length : Int) (i : Int)) (outF n (edgeF t (es.drop i)) (List.range' 0 n)) := by
  intro d
  induction d with
  | zero =>
    intro i t hi ht
    refine ev_succ ?_
    simp only [impl_closure.l1, if_neg (show ¬ (i : Int) < (es.length : Int) by omega), List.drop_of_length_le (show es.length ≤ i by omega)]
    exact impl_l2 n hn n 0 t (by omega) ht
  | succ d ih =>
    intro i t hi ht
    refine ev_succ ?_
    have hx : i < es.length := by omega
    have hl := ht.1
    have he := hin es[i] (List.getElem_mem hx)
    obtain ⟨a, ha⟩ := Int.eq_ofNat_of_zero_le he.1
    obtain ⟨b, hb⟩ := Int.eq_ofNat_of_zero_le he.2.2.1
    have hr : (rd_L5 t (a : Int)).length = n := by rw [rdBB t a (by omega)]; exact ht.row a (by omega)
    have h := ih (i + 1) (putT t a b true) (by omega) (ht.put a b (by omega) true)
    rw [List.drop_eq_getElem_cons hx]
    simp only [edgeF, List.foldl_cons, ha, hb, Int.toNat_natCast]
    simp only [edgeF] at h
    simp only [impl_closure.l1, if_pos (show (i : Int) < (es.length : Int) by omega), if_pos (show (0 : Int) ≤ (i : Int) by omega), rdA2 es i hx, ha, hb, if_pos (show (0 : Int) ≤ (a : Int) by omega), if_pos (show (a : Int) < (t.length : Int) by omega), if_pos (show (0 : Int) ≤ (b : Int) by omega), if_pos (show (b : Int) < ((rd_L5 t (a : Int)).length : Int) by omega), wsucc i (by omega), Int.toNat_natCast]
    rw [rdTB t a (by omega)]
    exact h
theorem impl_l0 (n : Nat) (hn : n ≤ 8) (es : List S71) (hes : es.length ≤ 1048576) (hin : inN n es) : ∀ (d i : Nat) (t : List (List Bool)), i + d = n → t.length = n → t.take i = List.replicate i (List.replicate n false) → Ev (fun k => impl_closure.l0 k (n : Int) es t (n : Int) (i : Int)) (closT n es) := by
  intro d
  induction d with
  | zero =>
    intro i t hi hl ht
    refine ev_succ ?_
    have hin' : i = n := by omega
    subst hin'
    rw [List.take_of_length_le (by omega)] at ht
    simp only [impl_closure.l0, if_neg (show ¬ (i : Int) < (i : Int) by omega)]
    have := impl_l1 i hn es hes hin es.length 0 t (by omega) (by rw [ht]; exact ⟨by simp, fun r hr => by rw [List.eq_of_mem_replicate hr]; simp⟩)
    rw [List.drop_zero, ht] at this
    rw [ht]
    exact this
  | succ d ih =>
    intro i t hi hl ht
    refine ev_succ ?_
    simp only [impl_closure.l0, if_pos (show (i : Int) < (n : Int) by omega), if_pos (show (0 : Int) ≤ (n : Int) by omega), Int.toNat_natCast, if_pos (show n ≤ 281474976710656 by omega), if_pos (show (0 : Int) ≤ (i : Int) by omega), if_pos (show (i : Int) < (t.length : Int) by omega), wsucc i (by omega)]
    exact ih (i + 1) _ (by omega) (by rw [List.length_set]; exact hl) (by rw [take_set_succ t i _ (by omega), ht, List.replicate_succ'])
theorem closure_ev (n : Nat) (hn : n ≤ 8) (es : List S71) (hes : es.length ≤ 1048576) (hin : inN n es) : Ev (fun k => impl_closure.f k (n : Int) es) (closT n es) := by
  unfold impl_closure.f
  simp only [if_pos (show (0 : Int) ≤ (n : Int) by omega), Int.toNat_natCast, if_pos (show n ≤ 11728124029610 by omega), Option.bind_some, List.length_replicate]
  exact impl_l0 n hn es hes hin n 0 _ (by omega) (by simp) (by simp)
theorem clos_sq (n : Nat) (es : List S71) (hin : inN n es) : Sq n (closT n es) := by
  unfold closT
  have h0 : Sq n (edgeF (List.replicate n (List.replicate n false)) es) := edge_sq ⟨by simp, fun r hr => by rw [List.eq_of_mem_replicate hr]; simp⟩ es hin
  have key : ∀ (ks : List Nat) (t : List (List Bool)), Sq n t → Sq n (outF n t ks) := by
    intro ks
    unfold outF
    induction ks with
    | nil => intro t h; exact h
    | cons k ks ih => intro t h; exact ih _ (mid_sq h k _ (fun i hi => by rw [List.mem_range'_1] at hi; omega))
  exact key _ _ h0

theorem isNumber_eq (i n : Int) (h0 : 0 ≤ n) (h1 : n ≤ 9223372036854775807) : impl_isNumber.f i n = some (decide (0 ≤ i) && decide (i < n)) := by
  unfold impl_isNumber.f
  rw [within_eq, w64 (by omega) (by omega)]
  simp only [Option.bind_some]
  congr 2
  rw [decide_eq_decide]
  omega

def cE (m : Int) (es : List S71) (i : Nat) : Bool :=
  decide (0 ≤ (rd_T71 es (i : Int)).f0) && decide ((rd_T71 es (i : Int)).f0 ≤ m) && (decide (0 ≤ (rd_T71 es (i : Int)).f1) && decide ((rd_T71 es (i : Int)).f1 ≤ m)) && !decide ((rd_T71 es (i : Int)).f0 = (rd_T71 es (i : Int)).f1) &&
  (decide (i = 0) || decide ((rd_T71 es ((i - 1 : Nat) : Int)).f0 < (rd_T71 es (i : Int)).f0) || decide ((rd_T71 es ((i - 1 : Nat) : Int)).f0 = (rd_T71 es (i : Int)).f0) && decide ((rd_T71 es ((i - 1 : Nat) : Int)).f1 < (rd_T71 es (i : Int)).f1))
def pfE (m : Int) (es : List S71) (i : Nat) : Nat → Bool
  | 0 => true
  | d + 1 => cE m es i && pfE m es (i + 1) d
theorem l4Before_eq (a b c d : Int) : spec_l4Before.f a b c d = some (decide (a < c) || decide (a = c) && decide (b < d)) := by
  unfold spec_l4Before.f
  by_cases h : a < c
  · rw [if_pos h]; simp [h]
  · rw [if_neg h]
    by_cases h' : a = c
    · rw [if_pos h']; simp [h, h']
    · rw [if_neg h']; simp [h, h']
theorem wpred (i : Nat) (h0 : 0 < i) (h : i < 4611686018427387904) : wrap64 ((i : Int) - 1) = ((i - 1 : Nat) : Int) := by
  rw [w64 (by omega) (by omega)]; omega
theorem l4Pairs_l (n : Int) (es : List S71) (hes : es.length ≤ 1048576) : ∀ (d i : Nat), i + d = es.length → Ev (fun k => spec_l4Pairs.l0 k n es (i : Int)) (pfE (wrap64 (n - 1)) es i d && ((decide (0 ≤ n) && decide (n ≤ 8)) && decide ((es.length : Int) ≤ 28))) := by
  intro d
  induction d with
  | zero =>
    intro i hi
    refine ev_succ ?_
    simp only [spec_l4Pairs.l0, if_neg (show ¬ (i : Int) < (es.length : Int) by omega), l1In_eq, Option.bind_some, pfE, Bool.true_and]
    cases hb : (decide (0 ≤ n) && decide (n ≤ 8))
    · simp only [Bool.false_eq_true, if_false, Bool.false_and]; exact ev_now _
    · simp only [if_true, Bool.true_and]; exact ev_now _
  | succ d ih =>
    intro i hi
    refine ev_succ ?_
    have h := ih (i + 1) (by omega)
    simp only [spec_l4Pairs.l0, if_pos (show (i : Int) < (es.length : Int) by omega), if_pos (show (0 : Int) ≤ (i : Int) by omega), l1In_eq, l4Before_eq, Option.bind_some, pfE, wsucc i (by omega)]
    unfold cE
    by_cases ha : (decide (0 ≤ (rd_T71 es (i : Int)).f0) && decide ((rd_T71 es (i : Int)).f0 ≤ wrap64 (n - 1))) = true
    · by_cases hb : (decide (0 ≤ (rd_T71 es (i : Int)).f1) && decide ((rd_T71 es (i : Int)).f1 ≤ wrap64 (n - 1))) = true
      · by_cases hc : (rd_T71 es (i : Int)).f0 = (rd_T71 es (i : Int)).f1
        · simp only [ha, hb, if_true, if_pos hc, decide_eq_true hc, Bool.not_true, Bool.and_false, Bool.false_and]; exact ev_now _
        · by_cases h0 : i = 0
          · subst h0
            simp only [ha, hb, if_true, if_neg hc, decide_true, Bool.true_or, Bool.true_and, decide_eq_false hc, Bool.not_false, gt_iff_lt, if_neg (show ¬ ((0 : Int) < ((0 : Nat) : Int)) by omega)]
            exact h
          · simp only [ha, hb, if_true, if_neg hc, if_pos (show (i : Int) > 0 by omega), wpred i (by omega) (by omega), if_pos (show (0 : Int) ≤ ((i - 1 : Nat) : Int) by omega), if_pos (show ((i - 1 : Nat) : Int) < (es.length : Int) by omega), decide_eq_false h0, Bool.false_or, Bool.true_and, decide_eq_false hc, Bool.not_false]
            cases hd : (decide ((rd_T71 es ((i - 1 : Nat) : Int)).f0 < (rd_T71 es (i : Int)).f0) || decide ((rd_T71 es ((i - 1 : Nat) : Int)).f0 = (rd_T71 es (i : Int)).f0) && decide ((rd_T71 es ((i - 1 : Nat) : Int)).f1 < (rd_T71 es (i : Int)).f1))
            · simp only [Bool.false_eq_true, if_false, Bool.false_and]; exact ev_now _
            · simp only [if_true, Bool.true_and]; exact h
      · simp only [ha, if_true, if_neg hb, Bool.not_eq_true .. ▸ hb, Bool.and_false, Bool.false_and]; exact ev_now _
    · simp only [if_neg ha, Bool.not_eq_true .. ▸ ha, Bool.false_and]; exact ev_now _
def okE (n : Int) (es : List S71) : Bool := pfE (wrap64 (n - 1)) es 0 es.length && ((decide (0 ≤ n) && decide (n ≤ 8)) && decide ((es.length : Int) ≤ 28))
theorem l4Pairs_ev (n : Int) (es : List S71) (hes : es.length ≤ 1048576) : Ev (fun k => spec_l4Pairs.f k n es) (okE n es) := by
  unfold spec_l4Pairs.f
  exact l4Pairs_l n es hes es.length 0 (by omega)
theorem pfE_in (n : Nat) (hn : n ≤ 8) (es : List S71) : ∀ (d i : Nat), i + d = es.length → pfE (wrap64 ((n : Int) - 1)) es i d = true → ∀ j, i ≤ j → (hj : j < es.length) → 0 ≤ (es[j]).f0 ∧ (es[j]).f0 < n ∧ 0 ≤ (es[j]).f1 ∧ (es[j]).f1 < n := by
  intro d
  induction d with
  | zero => intro i hi _ j hj hj'; omega
  | succ d ih =>
    intro i hi h j hj hj'
    unfold pfE at h
    rw [Bool.and_eq_true] at h
    by_cases he : j = i
    · subst he
      have h1 := h.1
      unfold cE at h1
      rw [rdA2 es j hj', w64 (by omega) (by omega)] at h1
      simp only [Bool.and_eq_true, decide_eq_true_eq] at h1
      obtain ⟨⟨⟨⟨a1, a2⟩, ⟨a3, a4⟩⟩, _⟩, _⟩ := h1
      exact ⟨a1, by omega, a3, by omega⟩
    · exact ih (i + 1) (by omega) h.2 j (by omega) hj'
theorem okE_in (n : Int) (es : List S71) (h : okE n es = true) : ∃ m : Nat, n = m ∧ m ≤ 8 ∧ es.length ≤ 28 ∧ inN m es := by
  unfold okE at h
  simp only [Bool.and_eq_true, decide_eq_true_eq] at h
  obtain ⟨h1, ⟨h2, h3⟩, h4⟩ := h
  obtain ⟨m, rfl⟩ := Int.eq_ofNat_of_zero_le h2
  refine ⟨m, rfl, by omega, by omega, fun e he => ?_⟩
  obtain ⟨j, hj, rfl⟩ := List.mem_iff_getElem.mp he
  have := pfE_in m (by omega) es es.length 0 (by omega) h1 j (by omega) hj
  omega
/-- No job stands before itself, from the i-th on. -/
def acyF (t : List (List Bool)) (i : Nat) : Nat → Bool
  | 0 => true
  | d + 1 => !tb t i i && acyF t (i + 1) d
def good4 (n : Int) (es : List S71) : Bool := okE n es && acyF (closT n.toNat es) 0 n.toNat
theorem l4Good_l (n : Nat) (hn : n ≤ 8) (t : List (List Bool)) (ht : Sq n t) : ∀ (d i : Nat), i + d = n → Ev (fun k => spec_l4Good.l0 k (n : Int) t (i : Int)) (acyF t i d) := by
  intro d
  induction d with
  | zero =>
    intro i hi
    refine ev_succ ?_
    simp only [spec_l4Good.l0, if_neg (show ¬ (i : Int) < (n : Int) by omega), acyF]
    exact ev_now _
  | succ d ih =>
    intro i hi
    refine ev_succ ?_
    have h := ih (i + 1) (by omega)
    have hl := ht.1
    have hr : (rd_L5 t (i : Int)).length = n := by rw [rdBB t i (by omega)]; exact ht.row i (by omega)
    simp only [spec_l4Good.l0, if_pos (show (i : Int) < (n : Int) by omega), if_pos (show (0 : Int) ≤ (i : Int) by omega), if_pos (show (i : Int) < (t.length : Int) by omega), if_pos (show (i : Int) < ((rd_L5 t (i : Int)).length : Int) by omega), rdTT ht i i (by omega) (by omega), wsucc i (by omega), acyF]
    cases tb t i i
    · simp only [Bool.false_eq_true, if_false, Bool.not_false, Bool.true_and]; exact h
    · simp only [if_true, Bool.not_true, Bool.false_and]; exact ev_now _
theorem l4Good_ev (n : Int) (es : List S71) (hes : es.length ≤ 1048576) : Ev (fun k => spec_l4Good.f k n es) (good4 n es) := by
  unfold spec_l4Good.f good4
  refine ev_bind (l4Pairs_ev n es hes) ?_
  cases hk : okE n es
  · simp only [Bool.false_eq_true, if_false, Bool.false_and]; exact ev_now _
  · obtain ⟨m, rfl, hm, hl, hin⟩ := okE_in n es hk
    simp only [if_true, Bool.true_and, Int.toNat_natCast]
    exact ev_bind (l4Table_ev m hm es hes hin) (l4Good_l m hm _ (clos_sq m es hin) m 0 (by omega))
theorem isPrec_l1 (n : Nat) (hn : n ≤ 8) (t : List (List Bool)) (ht : Sq n t) : ∀ (d i : Nat), i + d = n → Ev (fun k => impl_IsPrecedence.l1 k t (n : Int) (i : Int)) (acyF t i d) := by
  intro d
  induction d with
  | zero =>
    intro i hi
    refine ev_succ ?_
    simp only [impl_IsPrecedence.l1, if_neg (show ¬ (i : Int) < (n : Int) by omega), acyF]
    exact ev_now _
  | succ d ih =>
    intro i hi
    refine ev_succ ?_
    have h := ih (i + 1) (by omega)
    have hl := ht.1
    have hr : (rd_L5 t (i : Int)).length = n := by rw [rdBB t i (by omega)]; exact ht.row i (by omega)
    simp only [impl_IsPrecedence.l1, if_pos (show (i : Int) < (n : Int) by omega), if_pos (show (0 : Int) ≤ (i : Int) by omega), if_pos (show (i : Int) < (t.length : Int) by omega), if_pos (show (i : Int) < ((rd_L5 t (i : Int)).length : Int) by omega), rdTT ht i i (by omega) (by omega), wsucc i (by omega), acyF]
    cases tb t i i
    · simp only [Bool.false_eq_true, if_false, Bool.not_false, Bool.true_and]; exact h
    · simp only [if_true, Bool.not_true, Bool.false_and]; exact ev_now _
theorem isPrec_l0 (n : Nat) (hn : n ≤ 8) (es : List S71) (hes : es.length ≤ 28) (hG : pfE (wrap64 ((n : Int) - 1)) es 0 es.length = true → inN n es) :
    ∀ (d i : Nat), i + d = es.length → (pfE (wrap64 ((n : Int) - 1)) es i d = true → pfE (wrap64 ((n : Int) - 1)) es 0 es.length = true) → Ev (fun k => impl_IsPrecedence.l0 k (n : Int) es es (es.length : Int) (i : Int)) (pfE (wrap64 ((n : Int) - 1)) es i d && acyF (closT n es) 0 n) := by
  intro d
  induction d with
  | zero =>
    intro i hi hp
    have hin := hG (hp rfl)
    have hl := (clos_sq n es hin).1
    refine ev_succ ?_
    simp only [impl_IsPrecedence.l0, if_neg (show ¬ (i : Int) < (es.length : Int) by omega), pfE, Bool.true_and]
    refine ev_bind (closure_ev n hn es (by omega) hin) ?_
    rw [hl]
    exact isPrec_l1 n hn _ (clos_sq n es hin) n 0 (by omega)
  | succ d ih =>
    intro i hi hp
    refine ev_succ ?_
    have hm : wrap64 ((n : Int) - 1) = (n : Int) - 1 := w64 (by omega) (by omega)
    have e1 : ∀ x : Int, decide (x ≤ (n : Int) - 1) = decide (x < (n : Int)) := fun x => by rw [decide_eq_decide]; omega
    have h := fun (hq : cE (wrap64 ((n : Int) - 1)) es i = true) => ih (i + 1) (by omega) (fun x => hp (by rw [pfE, hq, x]; rfl))
    simp only [impl_IsPrecedence.l0, if_pos (show (i : Int) < (es.length : Int) by omega), if_pos (show (0 : Int) ≤ (i : Int) by omega), isNumber_eq _ (n : Int) (by omega) (by omega), Option.bind_some, pfE]
    have hcE : cE (wrap64 ((n : Int) - 1)) es i = (decide (0 ≤ (rd_T71 es (i : Int)).f0) && decide ((rd_T71 es (i : Int)).f0 < (n : Int)) && (decide (0 ≤ (rd_T71 es (i : Int)).f1) && decide ((rd_T71 es (i : Int)).f1 < (n : Int))) && !decide ((rd_T71 es (i : Int)).f0 = (rd_T71 es (i : Int)).f1) &&
        (decide (i = 0) || decide ((rd_T71 es ((i - 1 : Nat) : Int)).f0 < (rd_T71 es (i : Int)).f0) || decide ((rd_T71 es ((i - 1 : Nat) : Int)).f0 = (rd_T71 es (i : Int)).f0) && decide ((rd_T71 es ((i - 1 : Nat) : Int)).f1 < (rd_T71 es (i : Int)).f1))) := by
      unfold cE; rw [hm, e1, e1]
    by_cases ha : (decide (0 ≤ (rd_T71 es (i : Int)).f0) && decide ((rd_T71 es (i : Int)).f0 < (n : Int))) = true
    · by_cases hb : (decide (0 ≤ (rd_T71 es (i : Int)).f1) && decide ((rd_T71 es (i : Int)).f1 < (n : Int))) = true
      · simp only [ha, hb, if_true]
        refine ev_succ ?_
        rw [ha, hb] at hcE
        by_cases hc : (rd_T71 es (i : Int)).f0 = (rd_T71 es (i : Int)).f1
        · rw [hcE]
          simp only [impl_IsPrecedence.j2, hc, beq_self_eq_true, if_true, decide_true, Bool.not_true, Bool.and_false, Bool.false_and]; exact ev_now _
        · by_cases h0 : i = 0
          · have hc' : cE (wrap64 ((n : Int) - 1)) es i = true := by rw [hcE]; simp only [decide_eq_false hc, decide_eq_true h0]; rfl
            have h := h hc'
            rw [hc']
            subst h0
            simp only [impl_IsPrecedence.j2, beq_eq_false_iff_ne.mpr hc, Bool.false_eq_true, if_false, gt_iff_lt, if_neg (show ¬ ((0 : Int) < ((0 : Nat) : Int)) by omega), wsucc 0 (by omega), Bool.true_and]
            exact h
          · simp only [impl_IsPrecedence.j2, beq_eq_false_iff_ne.mpr hc, Bool.false_eq_true, if_false, gt_iff_lt, ge_iff_le, if_pos (show (0 : Int) < (i : Int) by omega), wpred i (by omega) (by omega), if_pos (show (0 : Int) ≤ ((i - 1 : Nat) : Int) by omega), if_pos (show ((i - 1 : Nat) : Int) < (es.length : Int) by omega), wsucc i (by omega)]
            by_cases g1 : (rd_T71 es (i : Int)).f0 < (rd_T71 es ((i - 1 : Nat) : Int)).f0
            · have hc' : cE (wrap64 ((n : Int) - 1)) es i = false := by rw [hcE]; simp only [decide_eq_false h0, decide_eq_false (show ¬ (rd_T71 es ((i - 1 : Nat) : Int)).f0 < (rd_T71 es (i : Int)).f0 by omega), decide_eq_false (show ¬ (rd_T71 es ((i - 1 : Nat) : Int)).f0 = (rd_T71 es (i : Int)).f0 by omega), Bool.false_and, Bool.false_or, Bool.or_false, Bool.and_false]
              simp only [if_pos g1, hc', Bool.false_and]; exact ev_now _
            · simp only [if_neg g1]
              by_cases g2 : (rd_T71 es ((i - 1 : Nat) : Int)).f0 = (rd_T71 es (i : Int)).f0
              · simp only [if_pos g2]
                by_cases g3 : (rd_T71 es (i : Int)).f1 ≤ (rd_T71 es ((i - 1 : Nat) : Int)).f1
                · have hc' : cE (wrap64 ((n : Int) - 1)) es i = false := by rw [hcE]; simp only [decide_eq_false h0, decide_eq_false (show ¬ (rd_T71 es ((i - 1 : Nat) : Int)).f0 < (rd_T71 es (i : Int)).f0 by omega), decide_eq_false (show ¬ (rd_T71 es ((i - 1 : Nat) : Int)).f1 < (rd_T71 es (i : Int)).f1 by omega), Bool.and_false, Bool.false_or, Bool.or_false]
                  simp only [if_pos g3, hc', Bool.false_and]; exact ev_now _
                · have hc' : cE (wrap64 ((n : Int) - 1)) es i = true := by rw [hcE]; simp only [decide_eq_false hc, decide_eq_true g2, decide_eq_true (show (rd_T71 es ((i - 1 : Nat) : Int)).f1 < (rd_T71 es (i : Int)).f1 by omega), Bool.and_true, Bool.or_true, Bool.not_false]
                  simp only [if_neg g3, hc', Bool.true_and]; exact h hc'
              · have hc' : cE (wrap64 ((n : Int) - 1)) es i = true := by rw [hcE]; simp only [decide_eq_false hc, decide_eq_true (show (rd_T71 es ((i - 1 : Nat) : Int)).f0 < (rd_T71 es (i : Int)).f0 by omega), Bool.and_true, Bool.or_true, Bool.true_or, Bool.not_false]
                simp only [if_neg g2, hc', Bool.true_and]; exact h hc'
      · have hb' : (decide (0 ≤ (rd_T71 es (i : Int)).f1) && decide ((rd_T71 es (i : Int)).f1 < (n : Int))) = false := by simpa using hb
        have hc' : cE (wrap64 ((n : Int) - 1)) es i = false := by rw [hcE, hb', Bool.and_false, Bool.false_and, Bool.false_and]
        simp only [ha, if_true, if_neg hb, hc', Bool.false_and]
        refine ev_succ ?_
        simp only [impl_IsPrecedence.j2, if_true]; exact ev_now _
    · have ha' : (decide (0 ≤ (rd_T71 es (i : Int)).f0) && decide ((rd_T71 es (i : Int)).f0 < (n : Int))) = false := by simpa using ha
      have hc' : cE (wrap64 ((n : Int) - 1)) es i = false := by rw [hcE, ha', Bool.false_and, Bool.false_and, Bool.false_and]
      simp only [if_neg ha, hc', Bool.false_and]
      refine ev_succ ?_
      simp only [impl_IsPrecedence.j2, if_true]; exact ev_now _
theorem isPrec_ev (n : Int) (es : List S71) : Ev (fun k => impl_IsPrecedence.f k n es) (good4 n es) := by
  unfold impl_IsPrecedence.f
  simp only [within_eq, Option.bind_some]
  by_cases h : 0 ≤ n ∧ n ≤ 8
  · obtain ⟨m, rfl⟩ := Int.eq_ofNat_of_zero_le h.1
    have hb : (decide (0 ≤ (m : Int)) && decide ((m : Int) ≤ 8)) = true := by simp; omega
    simp only [hb, if_true]
    refine ev_succ ?_
    by_cases hl : (es.length : Int) > 28
    · have : good4 (m : Int) es = false := by unfold good4 okE; rw [decide_eq_false (show ¬ (es.length : Int) ≤ 28 by omega)]; simp
      simp only [impl_IsPrecedence.j0, decide_eq_true hl, if_true, this]; exact ev_now _
    · simp only [impl_IsPrecedence.j0, decide_eq_false hl, Bool.false_eq_true, if_false]
      have hk : good4 (m : Int) es = (pfE (wrap64 ((m : Int) - 1)) es 0 es.length && acyF (closT m es) 0 m) := by
        unfold good4 okE; rw [hb, decide_eq_true (show (es.length : Int) ≤ 28 by omega)]; simp
      rw [hk]
      refine isPrec_l0 m (by omega) es (by omega) (fun hp => ?_) es.length 0 (by omega) (fun x => x)
      obtain ⟨m', e, _, _, hin⟩ := okE_in (m : Int) es (by unfold okE; rw [hp, hb, decide_eq_true (show (es.length : Int) ≤ 28 by omega)]; rfl)
      rw [show m = m' by omega]; exact hin
  · have hb : (decide (0 ≤ n) && decide (n ≤ 8)) = false := by
      rw [Bool.eq_false_iff]; intro x; simp only [Bool.and_eq_true, decide_eq_true_eq] at x; exact h x
    have : good4 n es = false := by unfold good4 okE; rw [hb]; simp
    simp only [hb, Bool.false_eq_true, if_false, this]
    refine ev_succ ?_
    simp only [impl_IsPrecedence.j0, if_true]; exact ev_now _

theorem tb_put {n : Nat} {t : List (List Bool)} (h : Sq n t) (i j a b : Nat) (hi : i < n) (hj : j < n) (ha : a < n) (hb : b < n) (v : Bool) : tb (putT t i j v) a b = if a = i ∧ b = j then v else tb t a b := by
  have hl := h.1
  have hri := h.row i hi
  have hg : t.getD i [] = t[i] := by rw [List.getD_eq_getElem?_getD, List.getElem?_eq_getElem (by omega)]; rfl
  unfold tb putT
  rw [hg]
  by_cases c : a = i
  · subst c
    rw [List.getD_eq_getElem?_getD (l := t.set a _), List.getElem?_set_self (by omega), Option.getD_some, hg]
    by_cases cb : b = j
    · subst cb
      rw [if_pos ⟨rfl, rfl⟩, List.getD_eq_getElem?_getD, List.getElem?_set_self (by omega), Option.getD_some]
    · rw [if_neg (fun x => cb x.2), List.getD_eq_getElem?_getD, List.getElem?_set_ne (fun x => cb x.symm), ← List.getD_eq_getElem?_getD]
  · rw [if_neg (fun x => c x.1), List.getD_eq_getElem?_getD (l := t.set i _), List.getElem?_set_ne (fun x => c x.symm), ← List.getD_eq_getElem?_getD]
/-- What a phase has done at the places S. -/
def Phase (n k : Nat) (t t' : List (List Bool)) (S : Nat → Nat → Prop) : Prop := Sq n t' ∧ ∀ a b, a < n → b < n → (tb t' a b = true ↔ tb t a b = true ∨ S a b ∧ tb t a k = true ∧ tb t k b = true)
theorem Phase.step {n k : Nat} {t t' : List (List Bool)} {S : Nat → Nat → Prop} (h : Phase n k t t' S) (hk : k < n) (i j : Nat) (hi : i < n) (hj : j < n) : Phase n k t (stepT t' k i j) (fun a b => S a b ∨ a = i ∧ b = j) := by
  refine ⟨h.1.step k i j hi, fun a b ha hb => ?_⟩
  have h1 : tb t' i k = true ↔ tb t i k = true := by
    rw [h.2 i k hi hk]
    exact ⟨fun x => x.elim id (fun y => y.2.1), Or.inl⟩
  have h2 : tb t' k j = true ↔ tb t k j = true := by
    rw [h.2 k j hk hj]
    exact ⟨fun x => x.elim id (fun y => y.2.2), Or.inl⟩
  unfold stepT
  by_cases c : (tb t' i k && tb t' k j) = true
  · rw [if_pos c, tb_put h.1 i j a b hi hj ha hb]
    rw [Bool.and_eq_true, h1, h2] at c
    by_cases e : a = i ∧ b = j
    · rw [if_pos e]
      obtain ⟨rfl, rfl⟩ := e
      exact ⟨fun _ => Or.inr ⟨Or.inr ⟨rfl, rfl⟩, c.1, c.2⟩, fun _ => rfl⟩
    · rw [if_neg e, h.2 a b ha hb]
      exact ⟨fun x => x.imp id (fun y => ⟨Or.inl y.1, y.2⟩), fun x => x.imp id (fun y => ⟨y.1.resolve_right e, y.2⟩)⟩
  · rw [if_neg c, h.2 a b ha hb]
    rw [Bool.and_eq_true, h1, h2] at c
    refine ⟨fun x => x.imp id (fun y => ⟨Or.inl y.1, y.2⟩), fun x => ?_⟩
    rcases x with x | ⟨s | ⟨rfl, rfl⟩, y⟩
    · exact Or.inl x
    · exact Or.inr ⟨s, y⟩
    · exact absurd y c
theorem Phase.congr {n k : Nat} {t t' : List (List Bool)} {S S' : Nat → Nat → Prop} (h : Phase n k t t' S) (e : ∀ a b, a < n → b < n → (S a b ↔ S' a b)) : Phase n k t t' S' := ⟨h.1, fun a b ha hb => by rw [h.2 a b ha hb, e a b ha hb]⟩
theorem Phase.row {n k : Nat} {t : List (List Bool)} (hk : k < n) (i : Nat) (hi : i < n) : ∀ (js : List Nat) (t' : List (List Bool)) (S : Nat → Nat → Prop), (∀ j ∈ js, j < n) → Phase n k t t' S → Phase n k t (rowF t' k i js) (fun a b => S a b ∨ a = i ∧ b ∈ js) := by
  intro js
  induction js with
  | nil => intro t' S _ h; exact h.congr (fun a b _ _ => by simp)
  | cons j js ih =>
    intro t' S hj h
    have h' := ih (stepT t' k i j) _ (fun x hx => hj x (by simp [hx])) (h.step hk i j hi (hj j (by simp)))
    refine Phase.congr h' (fun a b _ _ => ?_)
    constructor
    · rintro ((s | ⟨rfl, rfl⟩) | ⟨rfl, hb⟩)
      · exact Or.inl s
      · exact Or.inr ⟨rfl, by simp⟩
      · exact Or.inr ⟨rfl, by simp [hb]⟩
    · rintro (s | ⟨rfl, hb⟩)
      · exact Or.inl (Or.inl s)
      · rcases List.mem_cons.mp hb with rfl | hb
        · exact Or.inl (Or.inr ⟨rfl, rfl⟩)
        · exact Or.inr ⟨rfl, hb⟩
theorem Phase.mid {n k : Nat} {t : List (List Bool)} (hk : k < n) : ∀ (is : List Nat) (t' : List (List Bool)) (S : Nat → Nat → Prop), (∀ i ∈ is, i < n) → Phase n k t t' S → Phase n k t (midF n t' k is) (fun a b => S a b ∨ a ∈ is) := by
  intro is
  induction is with
  | nil => intro t' S _ h; exact h.congr (fun a b _ _ => by simp)
  | cons i is ih =>
    intro t' S hi h
    have h' := ih (rowF t' k i (List.range' 0 n)) _ (fun x hx => hi x (by simp [hx])) (Phase.row hk i (hi i (by simp)) (List.range' 0 n) t' S (fun j hj => by rw [List.mem_range'_1] at hj; omega) h)
    refine Phase.congr h' (fun a b _ hb => ?_)
    constructor
    · rintro ((s | ⟨rfl, _⟩) | hm)
      · exact Or.inl s
      · exact Or.inr (by simp)
      · exact Or.inr (by simp [hm])
    · rintro (s | hm)
      · exact Or.inl (Or.inl s)
      · rcases List.mem_cons.mp hm with rfl | hm
        · exact Or.inl (Or.inr ⟨rfl, by rw [List.mem_range'_1]; omega⟩)
        · exact Or.inr hm
theorem acy_irr (n : Nat) (t : List (List Bool)) : ∀ (d i : Nat), acyF t i d = true → ∀ j, i ≤ j → j < i + d → tb t j j = false := by
  intro d
  induction d with
  | zero => intro i _ j h1 h2; omega
  | succ d ih =>
    intro i h j h1 h2
    unfold acyF at h
    rw [Bool.and_eq_true] at h
    by_cases e : j = i
    · subst e; simpa using h.1
    · exact ih (i + 1) h.2 j (by omega) (by omega)
/-- What a good precedence gives. -/
theorem good4_facts (n : Int) (es : List S71) (h : good4 n es = true) : ∃ m : Nat, n = m ∧ m ≤ 8 ∧ es.length ≤ 28 ∧ inN m es ∧ (∀ j, j < m → tb (closT m es) j j = false) := by
  unfold good4 at h
  rw [Bool.and_eq_true] at h
  obtain ⟨m, rfl, h1, h2, h3⟩ := okE_in n es h.1
  refine ⟨m, rfl, h1, h2, h3, fun j hj => ?_⟩
  have := h.2
  rw [Int.toNat_natCast] at this
  exact acy_irr m _ m 0 this j (by omega) (by omega)
def par7 (xs : List S79) (m : Int) (es : List S71) : Bool := plainB xs && ((decide (1 ≤ m) && decide (m ≤ 4)) && good4 (xs.length : Int) es)
theorem l7Good_ev (xs : List S79) (m : Int) (es : List S71) (hn : xs.length ≤ 1048576) (he : es.length ≤ 1048576) : Ev (fun k => spec_l7Good.f k xs m es) (par7 xs m es) := by
  have h1 := l2Good_ev xs (by omega)
  have h2 := l3Plain_ev xs (by omega)
  have h3 := l4Good_ev (xs.length : Int) es he
  unfold spec_l7Good.f par7 plainB
  simp only [l1In_eq, Option.bind_some]
  refine ev_bind h1 ?_
  cases goodB xs
  · simp only [Bool.false_eq_true, if_false, Bool.false_and]; exact ev_now _
  · simp only [if_true, Bool.true_and]
    refine ev_bind h2 ?_
    cases xs.all freeJ
    · simp only [Bool.false_eq_true, if_false, Bool.false_and]; exact ev_now _
    · simp only [if_true, Bool.true_and]
      cases (decide (1 ≤ m) && decide (m ≤ 4))
      · simp only [Bool.false_eq_true, if_false, Bool.false_and]; exact ev_now _
      · simp only [if_true, Bool.true_and]; exact ev_bind h3 (ev_now _)
theorem isParallel_ev (xs : List S79) (m : Int) (es : List S71) (hn : xs.length ≤ 1048576) : Ev (fun k => impl_isParallel.f k xs m es) (par7 xs m es) := by
  have h1 := IsPlain_ev xs (by omega)
  have h3 := isPrec_ev (xs.length : Int) es
  unfold impl_isParallel.f par7
  simp only [within_eq, Option.bind_some]
  refine ev_bind h1 ?_
  cases plainB xs
  · simp only [Bool.false_eq_true, if_false, Bool.false_and]; exact ev_now _
  · simp only [if_true, Bool.true_and]
    cases (decide (1 ≤ m) && decide (m ≤ 4))
    · simp only [Bool.false_eq_true, if_false, Bool.false_and]; exact ev_now _
    · simp only [if_true, Bool.true_and]; exact ev_bind h3 (ev_now _)
theorem par7_facts (xs : List S79) (m : Int) (es : List S71) (h : par7 xs m es = true) : goodB xs = true ∧ (1 ≤ m ∧ m ≤ 4) ∧ xs.length ≤ 8 ∧ es.length ≤ 28 ∧ inN xs.length es ∧ (∀ j, j < xs.length → tb (closT xs.length es) j j = false) := by
  unfold par7 at h
  simp only [Bool.and_eq_true, decide_eq_true_eq] at h
  obtain ⟨h1, h2, h3⟩ := h
  obtain ⟨n, e, a, b, c, d⟩ := good4_facts _ es h3
  have e' : xs.length = n := by omega
  subst e'
  exact ⟨plain_good h1, h2, a, b, c, d⟩

def idsW (n : Nat) : List Int := (List.range n).map (fun (i : Nat) => (i : Int))
theorem idsW_len (n : Nat) : (idsW n).length = n := by simp [idsW]
theorem idsW_mem {n : Nat} {b : Int} (h : b ∈ idsW n) : 0 ≤ b ∧ b < (n : Int) := by
  unfold idsW at h
  obtain ⟨i, hi, rfl⟩ := List.mem_map.1 h
  have := List.mem_range.1 hi
  omega
theorem idsW_succ (n : Nat) : idsW (n + 1) = idsW n ++ [(n : Int)] := by simp [idsW, List.range_succ]

theorem numbersTo_l0 (n : Nat) (hn : n ≤ 1048576) : ∀ (d i : Nat), i + d = n → Ev (fun k => impl_numbersTo.l0 k (n : Int) (idsW i) (i : Int)) (idsW n) := by
  intro d
  induction d with
  | zero =>
    intro i hi
    refine ev_succ ?_
    simp only [impl_numbersTo.l0, if_neg (show ¬ ((i : Int) < n) by omega)]
    rw [show i = n by omega]
    exact ev_now _
  | succ d ih =>
    intro i hi
    refine ev_succ ?_
    simp only [impl_numbersTo.l0, if_pos (show (i : Int) < n by omega), if_pos (show (idsW i).length < 17592186044416 by rw [idsW_len]; omega), w64 (x := (i : Int) + 1) (by omega) (by omega)]
    have := ih (i + 1) (by omega)
    rw [idsW_succ] at this
    exact this
theorem numbersTo_ev (n : Nat) (hn : n ≤ 1048576) : Ev (fun k => impl_numbersTo.f k (n : Int)) (idsW n) := numbersTo_l0 n hn n 0 (by omega)

/-- The rule difference of two jobs. -/
def gapJ (a b : S79) (o : Int) : Int := if o = 1 then a.f2 - b.f2 else if o = 2 then a.f0 - b.f0 else if o = 3 then a.f0 * b.f1 - b.f0 * a.f1 else a.f3 - b.f3

theorem mul_bd (a b : Int) (h0 : 0 ≤ a) (h1 : a ≤ 50) (h2 : 0 ≤ b) (h3 : b ≤ 50) : 0 ≤ a * b ∧ a * b ≤ 2500 :=
  ⟨Int.mul_nonneg h0 h2, Int.le_trans (Int.mul_le_mul_of_nonneg_right h1 h2) (by omega)⟩
theorem difference_eq (a b : S79) (o : Int) (ha : 1 ≤ a.f0 ∧ a.f0 ≤ 50 ∧ 0 ≤ a.f1 ∧ a.f1 ≤ 50 ∧ 0 ≤ a.f2 ∧ a.f2 ≤ 500 ∧ 0 ≤ a.f3 ∧ a.f3 ≤ 500) (hb : 1 ≤ b.f0 ∧ b.f0 ≤ 50 ∧ 0 ≤ b.f1 ∧ b.f1 ≤ 50 ∧ 0 ≤ b.f2 ∧ b.f2 ≤ 500 ∧ 0 ≤ b.f3 ∧ b.f3 ≤ 500) :
    impl_difference.f a.f0 a.f1 a.f2 a.f3 b.f0 b.f1 b.f2 b.f3 o = some (gapJ a b o) := by
  have m1 := mul_bd a.f0 b.f1 (by omega) (by omega) (by omega) (by omega)
  have m2 := mul_bd b.f0 a.f1 (by omega) (by omega) (by omega) (by omega)
  unfold impl_difference.f gapJ
  rw [w64 (x := a.f2 - b.f2) (by omega) (by omega), w64 (x := a.f0 - b.f0) (by omega) (by omega), w64 (x := a.f0 * b.f1) (by omega) (by omega), w64 (x := b.f0 * a.f1) (by omega) (by omega), w64 (x := a.f0 * b.f1 - b.f0 * a.f1) (by omega) (by omega), w64 (x := a.f3 - b.f3) (by omega) (by omega)]
  split
  · rfl
  · split
    · rfl
    · split <;> rfl
theorem gap_eq (xs : List S79) (hg : goodB xs = true) (o : Int) (i j : Nat) (hi : i < xs.length) (hj : j < xs.length) : spec_l3Gap.f xs o (i : Int) (j : Int) = some (gapJ xs[i] xs[j] o) := by
  have ha := good_at hg i hi
  have hb := good_at hg j hj
  unfold spec_l3Gap.f
  rw [if_pos (by omega), if_pos (by omega), if_pos (by omega), if_pos (by omega), rdI xs i hi, rdI xs j hj]
  generalize xs[i] = a at *
  generalize xs[j] = b at *
  have m1 := mul_bd a.f0 b.f1 (by omega) (by omega) (by omega) (by omega)
  have m2 := mul_bd b.f0 a.f1 (by omega) (by omega) (by omega) (by omega)
  unfold gapJ
  rw [w64 (x := a.f2 - b.f2) (by omega) (by omega), w64 (x := a.f0 - b.f0) (by omega) (by omega), w64 (x := a.f0 * b.f1) (by omega) (by omega), w64 (x := b.f0 * a.f1) (by omega) (by omega), w64 (x := a.f0 * b.f1 - b.f0 * a.f1) (by omega) (by omega), w64 (x := a.f3 - b.f3) (by omega) (by omega)]
  split
  · rfl
  · split
    · rfl
    · split <;> rfl

theorem rdW (o : List Int) (n : Nat) (h : n < o.length) : rd o (n : Int) = o[n] := by
  simp [rd]
  rw [List.getElem?_eq_getElem h]; rfl

/-- Where a number goes among sorted ones: ahead of the first that it comes ahead of. -/
def posW (lt : Int → Int → Bool) (i : Int) (o : List Int) : Nat := o.findIdx (fun b => lt i b)
def insW (lt : Int → Int → Bool) (i : Int) (o : List Int) : List Int := o.take (posW lt i o) ++ i :: o.drop (posW lt i o)
def sortW (lt : Int → Int → Bool) : List Int → List Int → List Int
  | [], o => o
  | i :: t, o => sortW lt t (insW lt i o)
structure OrdW (lt : Int → Int → Bool) (D : Int → Prop) : Prop where
  asym : ∀ a b, D a → D b → lt a b = true → lt b a = false
  co : ∀ i a b, D i → D a → D b → lt i a = true → lt b a = false → lt i b = true
abbrev SortedW (lt : Int → Int → Bool) (o : List Int) : Prop := o.Pairwise (fun a b => lt b a = false)
theorem posW_le (lt : Int → Int → Bool) (i : Int) (o : List Int) : posW lt i o ≤ o.length := List.findIdx_le_length
theorem posW_before {lt : Int → Int → Bool} {i : Int} {o : List Int} {j : Nat} (h : j < posW lt i o) : lt i (o[j]'(Nat.lt_of_lt_of_le h (posW_le _ _ _))) = false := by
  have := List.not_of_lt_findIdx (p := fun b => lt i b) h
  simpa using this
theorem posW_at {lt : Int → Int → Bool} {i : Int} {o : List Int} (h : posW lt i o < o.length) : lt i (o[posW lt i o]'h) = true := List.findIdx_getElem (w := h)
theorem posW_behind {lt : Int → Int → Bool} {D : Int → Prop} (H : OrdW lt D) {i : Int} {o : List Int} (hi : D i) (ho : ∀ b ∈ o, D b) (hs : SortedW lt o) {j : Nat} (hj : posW lt i o ≤ j) (hl : j < o.length) : lt i (o[j]'hl) = true := by
  have hp : posW lt i o < o.length := by omega
  have h0 := posW_at hp
  rcases Nat.lt_or_ge (posW lt i o) j with h | h
  · have h1 := List.pairwise_iff_getElem.1 hs _ _ hp hl h
    exact H.co i _ _ hi (ho _ (List.getElem_mem hp)) (ho _ (List.getElem_mem hl)) h0 h1
  · have : j = posW lt i o := by omega
    subst this
    exact h0
theorem insW_perm (lt : Int → Int → Bool) (i : Int) (o : List Int) : (insW lt i o).Perm (i :: o) := by
  unfold insW
  refine List.perm_middle.trans ?_
  rw [List.take_append_drop]
theorem insW_sorted {lt : Int → Int → Bool} {D : Int → Prop} (H : OrdW lt D) {i : Int} {o : List Int} (hi : D i) (ho : ∀ b ∈ o, D b) (hs : SortedW lt o) : SortedW lt (insW lt i o) := by
  unfold insW SortedW
  rw [List.pairwise_append]
  refine ⟨hs.sublist (List.take_sublist _ _), List.pairwise_cons.2 ⟨?_, hs.sublist (List.drop_sublist _ _)⟩, ?_⟩
  · intro b hb
    obtain ⟨j, hj, rfl⟩ := List.mem_iff_getElem.1 hb
    rw [List.getElem_drop]
    have hl : posW lt i o + j < o.length := by rw [List.length_drop] at hj; omega
    exact H.asym _ _ hi (ho _ (List.getElem_mem hl)) (posW_behind H hi ho hs (by omega) hl)
  · intro a ha b hb
    obtain ⟨j, hj, rfl⟩ := List.mem_iff_getElem.1 ha
    have hjp : j < posW lt i o := by rw [List.length_take] at hj; omega
    rw [List.getElem_take]
    rcases List.mem_cons.1 hb with rfl | hb
    · exact posW_before hjp
    · obtain ⟨q, hq, rfl⟩ := List.mem_iff_getElem.1 hb
      have hl : posW lt i o + q < o.length := by rw [List.length_drop] at hq; omega
      rw [List.getElem_drop]
      exact List.pairwise_iff_getElem.1 hs _ _ _ hl (by omega)
theorem sortW_perm (lt : Int → Int → Bool) : ∀ (l o : List Int), (sortW lt l o).Perm (l ++ o)
  | [], o => by unfold sortW; exact List.Perm.refl _
  | i :: t, o => by
    unfold sortW
    refine (sortW_perm lt t _).trans ?_
    refine ((List.Perm.append_left t (insW_perm lt i o))).trans ?_
    exact List.perm_middle
theorem sortW_append (lt : Int → Int → Bool) : ∀ (a b o : List Int), sortW lt (a ++ b) o = sortW lt b (sortW lt a o)
  | [], b, o => rfl
  | i :: t, b, o => by simp only [List.cons_append, sortW]; exact sortW_append lt t b _

abbrev inJ (n : Nat) (i : Int) : Prop := 0 ≤ i ∧ i < (n : Int)
theorem inJ_nat {n : Nat} {a : Int} (h : inJ n a) : ∃ i : Nat, i < n ∧ a = (i : Int) := ⟨a.toNat, by have := h.1; have := h.2; omega, by have := h.1; omega⟩
theorem rd_nat (l : List S79) {a : Int} (h : inJ l.length a) : rd_T79 l a = l[a.toNat]'(by have := h.1; have := h.2; omega) := by
  obtain ⟨i, hi, rfl⟩ := inJ_nat h
  rw [rdI l i hi]
  rfl

theorem sbK_pos {p : Int → Option Bool} {f : Int → Bool} {o : List Int} {t : Nat} (hp : ∀ b ∈ o, p b = some (f b)) (ht : t ≤ o.length) (h1 : ∀ j (hj : j < o.length), t ≤ j → f o[j] = true) (h2 : ∀ j (hj : j < o.length), j < t → f o[j] = false) :
    ∀ n, n ≤ o.length → t ≤ n → sbK p o n = some t
  | 0, _, h => by
    have : t = 0 := by omega
    subst this
    rfl
  | n + 1, hn, h => by
    unfold sbK
    rw [rdW o n (by omega), hp _ (List.getElem_mem (by omega)), Option.bind_some]
    rcases Nat.lt_or_ge n t with hlt | hge
    · rw [h2 n (by omega) hlt, if_neg (by simp)]
      congr 1; omega
    · rw [h1 n (by omega) hge, if_pos rfl]
      exact sbK_pos hp ht h1 h2 n (by omega) hge
theorem sbL_eq {p : Int → Int → Option Bool} {lt : Int → Int → Bool} {D : Int → Prop} (H : OrdW lt D) (hp : ∀ a b, D a → D b → p a b = some (lt a b)) : ∀ (l o : List Int), (∀ b ∈ l, D b) → (∀ b ∈ o, D b) → SortedW lt o → sbL p l o = some (sortW lt l o)
  | [], o, _, _, _ => rfl
  | i :: t, o, hl, ho, hs => by
    have hi : D i := hl i (by simp)
    unfold sbL sortW
    rw [sbK_pos (f := fun b => lt i b) (t := posW lt i o) (fun b hb => hp i b hi (ho b hb)) (posW_le _ _ _) (fun j hj h => posW_behind H hi ho hs h hj) (fun j hj h => posW_before h) _ (Nat.le_refl _) (posW_le _ _ _), Option.bind_some]
    refine sbL_eq H hp t _ (fun b hb => hl b (by simp [hb])) ?_ (insW_sorted H hi ho hs)
    intro b hb
    rcases List.mem_cons.1 ((insW_perm lt i o).mem_iff.1 hb) with rfl | h
    · exact hi
    · exact ho b h

def ltR (l : List S79) (o : Int) (a b : Int) : Bool := decide (gapJ (rd_T79 l a) (rd_T79 l b) o < 0)
theorem gapJ_neg (a b : S79) (o : Int) : gapJ b a o = - gapJ a b o := by
  unfold gapJ
  split
  · omega
  · split
    · omega
    · split <;> omega
theorem gap_co (i a b : S79) (o : Int) (hi : 1 ≤ i.f0) (ha : 1 ≤ a.f0) (hb : 1 ≤ b.f0) (h1 : gapJ i a o < 0) (h2 : ¬ gapJ b a o < 0) : gapJ i b o < 0 := by
  unfold gapJ at *
  split at h1
  · rename_i h; simp only [if_pos h] at *; omega
  · rename_i h
    simp only [if_neg h] at *
    split at h1
    · rename_i h'; simp only [if_pos h'] at *; omega
    · rename_i h'
      simp only [if_neg h'] at *
      split at h1
      · rename_i h''
        simp only [if_pos h''] at *
        have e1 : i.f0 * a.f1 < a.f0 * i.f1 := by omega
        have e2 : a.f0 * b.f1 ≤ b.f0 * a.f1 := by omega
        have e3 : b.f0 * (i.f0 * a.f1) < b.f0 * (a.f0 * i.f1) := Int.mul_lt_mul_of_pos_left e1 (by omega)
        have e4 : i.f0 * (a.f0 * b.f1) ≤ i.f0 * (b.f0 * a.f1) := Int.mul_le_mul_of_nonneg_left e2 (by omega)
        have e5 : a.f0 * (i.f0 * b.f1) < a.f0 * (b.f0 * i.f1) := by
          have q1 : a.f0 * (i.f0 * b.f1) = i.f0 * (a.f0 * b.f1) := by rw [← Int.mul_assoc, Int.mul_comm a.f0 i.f0, Int.mul_assoc]
          have q2 : a.f0 * (b.f0 * i.f1) = b.f0 * (a.f0 * i.f1) := by rw [← Int.mul_assoc, Int.mul_comm a.f0 b.f0, Int.mul_assoc]
          have q3 : i.f0 * (b.f0 * a.f1) = b.f0 * (i.f0 * a.f1) := by rw [← Int.mul_assoc, Int.mul_comm i.f0 b.f0, Int.mul_assoc]
          omega
        have := Int.lt_of_mul_lt_mul_left e5 (by omega)
        omega
      · rename_i h''
        simp only [if_neg h''] at *
        omega
theorem ordR (l : List S79) (hg : goodB l = true) (o : Int) : OrdW (ltR l o) (inJ l.length) := by
  constructor
  · intro a b ha hb h
    unfold ltR at *
    have h := of_decide_eq_true h
    rw [gapJ_neg]
    exact decide_eq_false (by omega)
  · intro i a b hi ha hb h1 h2
    unfold ltR at *
    have h1 := of_decide_eq_true h1
    have h2 := of_decide_eq_false h2
    refine decide_eq_true (gap_co _ _ _ o ?_ ?_ ?_ h1 h2)
    · rw [rd_nat l hi]; exact (good_at hg _ _).1
    · rw [rd_nat l ha]; exact (good_at hg _ _).1
    · rw [rd_nat l hb]; exact (good_at hg _ _).1
/-- The ruled order. -/
def ruledL (l : List S79) (o : Int) : List Int := sortW (ltR l o) (idsW l.length) []
theorem ruledL_perm (l : List S79) (o : Int) : (ruledL l o).Perm (idsW l.length) := by
  have := sortW_perm (ltR l o) (idsW l.length) []
  rw [List.append_nil] at this
  exact this
theorem closureR (l : List S79) (hg : goodB l = true) (o a b : Int) (ha : inJ l.length a) (hb : inJ l.length b) : impl_ruledOrder_1.f a b l o = some (ltR l o a b) := by
  unfold impl_ruledOrder_1.f
  rw [if_pos ha.1, if_pos ha.2, if_pos hb.1, if_pos hb.2, difference_eq (rd_T79 l a) (rd_T79 l b) o (by rw [rd_nat l ha]; exact good_at hg _ _) (by rw [rd_nat l hb]; exact good_at hg _ _), Option.bind_some]
  rfl
theorem ruledOrder_ev (l : List S79) (hg : goodB l = true) (o : Int) : Ev (fun k => impl_ruledOrder.f k l o) (ruledL l o) := by
  have hl := good_len hg
  unfold impl_ruledOrder.f
  refine ev_bind (numbersTo_ev l.length (by omega)) ?_
  simp only [impl_sortedBy_142.f, if_pos (show (idsW l.length).length < 17592186044416 by rw [idsW_len]; omega)]
  rw [sbL_eq (ordR l hg o) (fun a b ha hb => closureR l hg o a b ha hb) _ _ (fun b hb => idsW_mem hb) (by simp) List.Pairwise.nil]
  exact ev_now _

theorem l1Own_eq (l : List Int) (h : l.length < 17592186044416) : spec_l1Own.f l = some l := by
  unfold spec_l1Own.f
  simp only [Option.bind_some, List.length_nil, Nat.zero_add, if_pos h, List.nil_append]
theorem gap_rd (l : List S79) (hg : goodB l = true) (o : Int) {a b : Int} (ha : inJ l.length a) (hb : inJ l.length b) : spec_l3Gap.f l o a b = some (gapJ (rd_T79 l a) (rd_T79 l b) o) := by
  obtain ⟨i, hi, rfl⟩ := inJ_nat ha
  obtain ⟨j, hj, rfl⟩ := inJ_nat hb
  rw [gap_eq l hg o i j hi hj, rdI l i hi, rdI l j hj]
theorem l3Order_l1 (l : List S79) (hg : goodB l = true) (o : Int) (out : List Int) (i : Int) (hi : inJ l.length i) (ho : ∀ b ∈ out, inJ l.length b) (hlen : out.length ≤ 8) (r : List Int)
    (hnext : Ev (fun k => spec_l3Order.l0 k l o (insW (ltR l o) i out) (wrap64 (i + 1))) r) : ∀ (d k : Nat), k + d = posW (ltR l o) i out → Ev (fun K => spec_l3Order.l1 K l o out i (k : Int)) r := by
  have fin : ∀ k : Nat, k = posW (ltR l o) i out → ((out.take ((k : Nat) : Int).toNat ++ [i]) ++ out.drop ((k : Nat) : Int).toNat) = insW (ltR l o) i out := by
    intro k hk
    subst hk
    simp [insW]
  have hp := posW_le (ltR l o) i out
  intro d
  induction d with
  | zero =>
    intro k hk
    have hk' : k = posW (ltR l o) i out := by omega
    refine ev_succ ?_
    have c1 : ((out.take ((k : Nat) : Int).toNat).length + [i].length < 17592186044416) := by simp only [List.length_take, List.length_singleton]; omega
    have c2 : (((out.take ((k : Nat) : Int).toNat) ++ [i]).length + (out.drop ((k : Nat) : Int).toNat).length < 17592186044416) := by simp only [List.length_append, List.length_take, List.length_drop, List.length_singleton]; omega
    have tail : Ev (fun K => (spec_l1Own.f (out.take ((k : Nat) : Int).toNat)).bind fun t => ((some (([i] : List Int) : List Int)).bind fun y => (if t.length + y.length < 17592186044416 then ((some (t ++ y : List Int)).bind fun y2 => ((some (out.drop ((k : Nat) : Int).toNat : List Int)).bind fun y3 => (if y2.length + y3.length < 17592186044416 then (spec_l3Order.l0 K l o (y2 ++ y3) (wrap64 (i + 1))) else (none)))) else (none)))) r := by
      simp only [l1Own_eq (out.take ((k : Nat) : Int).toNat) (by rw [List.length_take]; omega), Option.bind_some, if_pos c1, if_pos c2, fin k hk']
      exact hnext
    by_cases hkl : k < out.length
    · have hlt : ltR l o i (out[k]'hkl) = true := by
        subst hk'
        exact posW_at hkl
      have hm : inJ l.length out[k] := ho _ (List.getElem_mem hkl)
      simp only [spec_l3Order.l1, if_pos (show ((k : Nat) : Int) < (out.length : Int) by omega), if_pos (show (0 : Int) ≤ ((k : Nat) : Int) by omega), rdW out k hkl, gap_rd l hg o hm hi, Option.bind_some]
      have hgap : ¬ (gapJ (rd_T79 l out[k]) (rd_T79 l i) o ≤ 0) := by
        have h := of_decide_eq_true hlt
        rw [gapJ_neg]; omega
      simp only [if_neg hgap, if_pos (show ((k : Nat) : Int) ≤ (out.length : Int) by omega)]
      exact tail
    · simp only [spec_l3Order.l1, if_neg (show ¬ ((k : Nat) : Int) < (out.length : Int) by omega), if_pos (show (0 : Int) ≤ ((k : Nat) : Int) by omega), if_pos (show ((k : Nat) : Int) ≤ (out.length : Int) by omega)]
      exact tail
  | succ d ih =>
    intro k hk
    refine ev_succ ?_
    have hkl : k < out.length := by omega
    have hm : inJ l.length out[k] := ho _ (List.getElem_mem hkl)
    have hlt : ltR l o i out[k] = false := posW_before (by omega)
    have hgap : gapJ (rd_T79 l out[k]) (rd_T79 l i) o ≤ 0 := by
      have h := of_decide_eq_false hlt
      rw [gapJ_neg]; omega
    simp only [spec_l3Order.l1, if_pos (show ((k : Nat) : Int) < (out.length : Int) by omega), if_pos (show (0 : Int) ≤ ((k : Nat) : Int) by omega), rdW out k hkl, gap_rd l hg o hm hi, Option.bind_some, if_pos hgap, w64 (x := ((k : Nat) : Int) + 1) (by omega) (by omega)]
    exact ih (k + 1) (by omega)
theorem l3Order_ev (l : List S79) (hg : goodB l = true) (o : Int) : Ev (fun k => spec_l3Order.f k l o) (ruledL l o) := by
  have hl := good_len hg
  have main : ∀ (d i : Nat), i + d = l.length → Ev (fun k => spec_l3Order.l0 k l o (sortW (ltR l o) (idsW i) []) (i : Int)) (ruledL l o) := by
    intro d
    induction d with
    | zero =>
      intro i hi
      refine ev_succ ?_
      simp only [spec_l3Order.l0, if_neg (show ¬ ((i : Int) < (l.length : Int)) by omega)]
      unfold ruledL
      rw [show i = l.length by omega]
      exact ev_now _
    | succ d ih =>
      intro i hi
      refine ev_succ ?_
      simp only [spec_l3Order.l0, if_pos (show (i : Int) < (l.length : Int) by omega)]
      have hp := sortW_perm (ltR l o) (idsW i) []
      rw [List.append_nil] at hp
      refine l3Order_l1 l hg o _ (i : Int) ⟨by omega, by omega⟩ (fun b hb => ?_) (by rw [hp.length_eq, idsW_len]; omega) _ ?_ (posW (ltR l o) i (sortW (ltR l o) (idsW i) [])) 0 (by omega)
      · have := idsW_mem (hp.mem_iff.1 hb)
        exact ⟨this.1, by omega⟩
      · have := ih (i + 1) (by omega)
        rw [idsW_succ, sortW_append] at this
        rw [w64 (x := (i : Int) + 1) (by omega) (by omega)]
        exact this
  exact main l.length 0 (by omega)

set_option maxRecDepth 100000 in
theorem closT_nil0 : ∀ n, n < 9 → closT n [] = List.replicate n (List.replicate n false)
  | 0, _ => by decide +kernel
  | 1, _ => by decide +kernel
  | 2, _ => by decide +kernel
  | 3, _ => by decide +kernel
  | 4, _ => by decide +kernel
  | 5, _ => by decide +kernel
  | 6, _ => by decide +kernel
  | 7, _ => by decide +kernel
  | 8, _ => by decide +kernel
theorem rep_row (n i : Nat) (h : i < n) : rd_L5 (List.replicate n (List.replicate n false)) (i : Int) = List.replicate n false := by
  unfold rd_L5
  rw [Int.toNat_natCast, List.getD_eq_getElem?_getD, List.getElem?_replicate, if_pos h]
  rfl
theorem rep_cell (n : Nat) (x : Int) : rdOf false (List.replicate n false) x = false := by
  unfold rdOf
  rw [List.getD_eq_getElem?_getD, List.getElem?_replicate]
  split <;> rfl
theorem rdS (E : List Int) (a b : Nat) (v : Int) (ha : a < E.length) : rd (E.set a v) (b : Int) = if b = a then v else rd E (b : Int) := by
  unfold rd
  rw [Int.toNat_natCast, List.getD_eq_getElem?_getD, List.getD_eq_getElem?_getD, List.getElem?_set]
  by_cases h : a = b
  · subst h; rw [if_pos rfl, if_pos rfl, if_pos ha]; rfl
  · rw [if_neg h, if_neg (Ne.symm h)]
theorem rdITS (P : List S91) (a b : Nat) (v : S91) (ha : a < P.length) : rd_T91 (P.set a v) (b : Int) = if b = a then v else rd_T91 P (b : Int) := by
  unfold rd_T91
  rw [Int.toNat_natCast, List.getD_eq_getElem?_getD, List.getD_eq_getElem?_getD, List.getElem?_set]
  by_cases h : a = b
  · subst h; rw [if_pos rfl, if_pos rfl, if_pos ha]; rfl
  · rw [if_neg h, if_neg (Ne.symm h)]
def begB (E : List Int) : List Bool := E.map (fun e => decide (0 ≤ e))
theorem begB_at (E : List Int) (i : Nat) (h : i < E.length) : rdOf false (begB E) (i : Int) = decide (0 ≤ rd E (i : Int)) := by
  unfold rdOf rd begB
  rw [Int.toNat_natCast, List.getD_eq_getElem?_getD, List.getD_eq_getElem?_getD, List.getElem?_map, List.getElem?_eq_getElem h]
  rfl
theorem begB_len (E : List Int) : (begB E).length = E.length := by unfold begB; rw [List.length_map]
theorem begB_set (E : List Int) (i : Nat) (v : Int) (h : 0 ≤ v) : (begB E).set i true = begB (E.set i v) := by
  unfold begB
  rw [List.map_set]
  simp [h]
abbrev StP := Nat × List S91 × List Int × List Int
def stepM (l : List S79) (D : List Int) (t : Int) (q : Nat) (s : StP) : StP :=
  if rd s.2.2.2 (q : Int) ≤ t ∧ s.1 < l.length then (s.1 + 1, s.2.1.set (rd D (s.1 : Int)).toNat ⟨rd D (s.1 : Int), (q : Int), t⟩, s.2.2.1.set (rd D (s.1 : Int)).toNat (t + (rd_T79 l (rd D (s.1 : Int))).f0), s.2.2.2.set q (t + (rd_T79 l (rd D (s.1 : Int))).f0)) else s
def roundM (l : List S79) (D : List Int) (t : Int) (q : Nat) : Nat → StP → StP
  | 0, s => s
  | d + 1, s => roundM l D t (q + 1) d (stepM l D t q s)
structure InvP (l : List S79) (D : List Int) (m : Nat) (t : Int) (s : StP) : Prop where
  cle : s.1 ≤ l.length
  pl : s.2.1.length = l.length
  el : s.2.2.1.length = l.length
  fl : s.2.2.2.length = m
  don : ∀ j : Nat, j < s.1 → 0 ≤ rd s.2.2.1 (rd D (j : Int))
  und : ∀ j : Nat, s.1 ≤ j → j < l.length → rd s.2.2.1 (rd D (j : Int)) = -1
  job : ∀ j : Nat, j < s.1 → (rd_T91 s.2.1 (rd D (j : Int))).f0 = rd D (j : Int)
  tb : 0 ≤ t ∧ t ≤ 50 * (s.1 : Int)
  eb : ∀ i : Nat, i < l.length → rd s.2.2.1 (i : Int) ≤ 50 * (s.1 : Int)
  fb : ∀ q : Nat, q < m → 0 ≤ rd s.2.2.2 (q : Int) ∧ rd s.2.2.2 (q : Int) ≤ 50 * (s.1 : Int)
  lk : ∀ q : Nat, q < m → rd s.2.2.2 (q : Int) = 0 ∨ ∃ i : Nat, i < l.length ∧ rd s.2.2.1 (i : Int) = rd s.2.2.2 (q : Int)
section
variable {l : List S79} (hg : goodB l = true) {D : List Int} (hD : D.Perm (idsW l.length)) {m : Nat} (hm : 1 ≤ m ∧ m ≤ 4)
include hD
theorem D_len : D.length = l.length := by rw [hD.length_eq, idsW_len]
theorem D_at (j : Nat) (hj : j < l.length) : ∃ i : Nat, i < l.length ∧ rd D (j : Int) = (i : Int) := by
  have hl := D_len hD
  have hm : D[j]'(by omega) ∈ idsW l.length := hD.mem_iff.mp (List.getElem_mem _)
  have hb := idsW_mem hm
  refine ⟨(D[j]'(by omega)).toNat, by omega, ?_⟩
  unfold rd
  rw [Int.toNat_natCast, List.getD_eq_getElem?_getD, List.getElem?_eq_getElem (by omega), Option.getD_some]
  omega
theorem D_inj (i j : Nat) (hi : i < l.length) (hj : j < l.length) (h : rd D (i : Int) = rd D (j : Int)) : i = j := by
  have hl := D_len hD
  have hn : D.Nodup := hD.nodup_iff.mpr (by unfold idsW; rw [List.nodup_iff_pairwise_ne, List.pairwise_map]; exact List.pairwise_lt_range.imp (fun h => by omega))
  unfold rd at h
  rw [Int.toNat_natCast, Int.toNat_natCast, List.getD_eq_getElem?_getD, List.getD_eq_getElem?_getD, List.getElem?_eq_getElem (by omega), List.getElem?_eq_getElem (by omega), Option.getD_some, Option.getD_some] at h
  have hpw := List.pairwise_iff_getElem.mp hn
  rcases Nat.lt_trichotomy i j with h1 | h1 | h1
  · exact absurd h (hpw i j (by omega) (by omega) h1)
  · exact h1
  · exact absurd h.symm (hpw j i (by omega) (by omega) h1)
theorem D_onto (i : Nat) (hi : i < l.length) : ∃ j : Nat, j < l.length ∧ rd D (j : Int) = (i : Int) := by
  have hl := D_len hD
  have hmem : (i : Int) ∈ D := hD.mem_iff.mpr (by unfold idsW; exact List.mem_map.mpr ⟨i, List.mem_range.mpr hi, rfl⟩)
  obtain ⟨j, hj, e⟩ := List.getElem_of_mem hmem
  refine ⟨j, by omega, ?_⟩
  unfold rd
  rw [Int.toNat_natCast, List.getD_eq_getElem?_getD, List.getElem?_eq_getElem hj, Option.getD_some, e]
include hg
theorem step_inv {t : Int} {s : StP} (I : InvP l D m t s) (q : Nat) (hq : q < m) : InvP l D m t (stepM l D t q s) := by
  obtain ⟨c, P, E, F⟩ := s
  unfold stepM
  dsimp only
  split
  case isFalse => exact I
  case isTrue h =>
  obtain ⟨hF, hc⟩ := h
  have hpl : P.length = l.length := I.pl
  have hel : E.length = l.length := I.el
  have hfl : F.length = m := I.fl
  have htb := I.tb
  dsimp only at htb
  obtain ⟨i0, hi0, e0⟩ := D_at hD c hc
  have hu : rd E (rd D (c : Int)) = -1 := I.und c (Nat.le_refl _) hc
  have htm := good_at hg i0 hi0
  have hti := rdI l i0 hi0
  rw [e0, Int.toNat_natCast]
  have T1 : 1 ≤ (rd_T79 l (i0 : Int)).f0 ∧ (rd_T79 l (i0 : Int)).f0 ≤ 50 := by rw [hti]; omega
  have other : ∀ j : Nat, j < l.length → j ≠ c → ∃ i : Nat, i < l.length ∧ rd D (j : Int) = (i : Int) ∧ i ≠ i0 := by
    intro j hj hne
    obtain ⟨i, hi, e⟩ := D_at hD j hj
    exact ⟨i, hi, e, fun h => hne (D_inj hD j c hj hc (by rw [e, e0, h]))⟩
  refine ⟨?_, ?_, ?_, ?_, ?_, ?_, ?_, ?_, ?_, ?_, ?_⟩
  · show c + 1 ≤ l.length; omega
  · simp only [List.length_set]; exact hpl
  · simp only [List.length_set]; exact hel
  · simp only [List.length_set]; exact hfl
  · intro j hj
    dsimp only at hj ⊢
    by_cases hjc : j = c
    · subst hjc; rw [e0, rdS E i0 i0 _ (by omega), if_pos rfl]; omega
    · obtain ⟨i, hi, e, hne⟩ := other j (by omega) hjc
      rw [e, rdS E i0 i _ (by omega), if_neg hne, ← e]
      exact I.don j (by dsimp only; omega)
  · intro j hj hjl
    dsimp only at hj ⊢
    obtain ⟨i, hi, e, hne⟩ := other j hjl (by omega)
    rw [e, rdS E i0 i _ (by omega), if_neg hne, ← e]
    exact I.und j (by dsimp only; omega) hjl
  · intro j hj
    dsimp only at hj ⊢
    by_cases hjc : j = c
    · subst hjc; rw [e0, rdITS P i0 i0 _ (by omega), if_pos rfl]
    · obtain ⟨i, hi, e, hne⟩ := other j (by omega) hjc
      rw [e, rdITS P i0 i _ (by omega), if_neg hne, ← e]
      exact I.job j (by dsimp only; omega)
  · dsimp only; omega
  · intro i hi
    dsimp only
    rw [rdS E i0 i _ (by omega)]
    have := I.eb i hi
    dsimp only at this
    split <;> omega
  · intro q' hq'
    dsimp only
    rw [rdS F q q' _ (by omega)]
    have := I.fb q' hq'
    dsimp only at this
    split <;> omega
  · intro q' hq'
    dsimp only
    rw [rdS F q q' _ (by omega)]
    split
    · exact Or.inr ⟨i0, hi0, by rw [rdS E i0 i0 _ (by omega), if_pos rfl]⟩
    · rcases I.lk q' hq' with h | ⟨i, hi, h⟩
      · exact Or.inl h
      · refine Or.inr ⟨i, hi, ?_⟩
        dsimp only at h ⊢
        have hne : i ≠ i0 := by
          intro h2
          subst h2
          rw [← e0, hu] at h
          have := (I.fb q' hq').1
          dsimp only at this
          omega
        rw [rdS E i0 i _ (by omega), if_neg hne]
        exact h
theorem round_facts {t : Int} : ∀ (d q : Nat) (s : StP), q + d = m → InvP l D m t s → InvP l D m t (roundM l D t q d s) ∧ s.1 ≤ (roundM l D t q d s).1 ∧ (∀ q' : Nat, q' < q → rd (roundM l D t q d s).2.2.2 (q' : Int) = rd s.2.2.2 (q' : Int)) ∧ ((roundM l D t q d s).1 < l.length → ∀ q' : Nat, q ≤ q' → q' < m → t < rd (roundM l D t q d s).2.2.2 (q' : Int)) := by
  intro d
  induction d with
  | zero => intro q s hq I; exact ⟨I, Nat.le_refl _, fun _ _ => rfl, fun _ q' h1 h2 => by omega⟩
  | succ d ih =>
    intro q s hq I
    have I1 := step_inv hg hD I q (by omega)
    obtain ⟨J, hc, hF, hB⟩ := ih (q + 1) (stepM l D t q s) (by omega) I1
    have hs : s.1 ≤ (stepM l D t q s).1 := by unfold stepM; split <;> simp
    have hfl : s.2.2.2.length = m := I.fl
    refine ⟨J, Nat.le_trans hs hc, ?_, ?_⟩
    · intro q' hq'
      show rd (roundM l D t (q + 1) d (stepM l D t q s)).2.2.2 (q' : Int) = _
      rw [hF q' (by omega)]
      unfold stepM
      split
      · dsimp only; rw [rdS _ q q' _ (by omega), if_neg (by omega)]
      · rfl
    · intro hlt q' h1 h2
      have hlt' : (roundM l D t (q + 1) d (stepM l D t q s)).1 < l.length := hlt
      show t < rd (roundM l D t (q + 1) d (stepM l D t q s)).2.2.2 (q' : Int)
      rcases Nat.lt_or_ge q q' with h | h
      · exact hB hlt' q' h h2
      · obtain rfl : q' = q := by omega
        rw [hF q' (by omega)]
        unfold stepM
        split
        case isTrue hh =>
          dsimp only
          rw [rdS _ q' q' _ (by omega), if_pos rfl]
          obtain ⟨i0, hi0, e0⟩ := D_at hD s.1 hh.2
          have := good_at hg i0 hi0
          rw [e0, rdI l i0 hi0]
          omega
        case isFalse hh =>
          rcases Int.lt_or_le t (rd s.2.2.2 (q' : Int)) with h3 | h3
          · exact h3
          · exact absurd ⟨h3, by omega⟩ hh
end

def soonF (E : List Int) (t : Int) (i : Nat) : Nat → Int → Int
  | 0, b => b
  | d + 1, b => soonF E t (i + 1) d (if rd E (i : Int) > t then (if b < 0 then rd E (i : Int) else if rd E (i : Int) < b then rd E (i : Int) else b) else b)
theorem soonF_facts (E : List Int) (t : Int) (ht : 0 ≤ t) : ∀ (d i : Nat) (b : Int), (b < 0 ∨ t < b) →
    (0 ≤ b → soonF E t i d b ≤ b) ∧ (∀ i' : Nat, i ≤ i' → i' < i + d → t < rd E (i' : Int) → soonF E t i d b ≤ rd E (i' : Int)) ∧ ((0 ≤ b ∨ ∃ i' : Nat, i ≤ i' ∧ i' < i + d ∧ t < rd E (i' : Int)) → t < soonF E t i d b ∧ (soonF E t i d b = b ∨ ∃ i' : Nat, i ≤ i' ∧ i' < i + d ∧ rd E (i' : Int) = soonF E t i d b)) := by
  intro d
  induction d with
  | zero =>
    intro i b hb
    refine ⟨fun _ => Int.le_refl _, fun i' h1 h2 => by omega, fun h => ?_⟩
    rcases h with h | ⟨i', h1, h2, _⟩
    · exact ⟨by rcases hb with hb | hb; omega; exact hb, Or.inl rfl⟩
    · omega
  | succ d ih =>
    intro i b hb
    have hb2 : (if rd E (i : Int) > t then (if b < 0 then rd E (i : Int) else if rd E (i : Int) < b then rd E (i : Int) else b) else b) < 0 ∨ t < (if rd E (i : Int) > t then (if b < 0 then rd E (i : Int) else if rd E (i : Int) < b then rd E (i : Int) else b) else b) := by
      split
      · split
        · right; omega
        · split <;> right <;> omega
      · exact hb
    obtain ⟨h1, h2, h3⟩ := ih (i + 1) _ hb2
    generalize hg : (if rd E (i : Int) > t then (if b < 0 then rd E (i : Int) else if rd E (i : Int) < b then rd E (i : Int) else b) else b) = b2 at h1 h2 h3 hb2
    have hbe : soonF E t i (d + 1) b = soonF E t (i + 1) d b2 := by rw [soonF, hg]
    rw [hbe]
    have k1 : 0 ≤ b → 0 ≤ b2 ∧ b2 ≤ b := by
      intro h
      rw [← hg]
      split
      · split
        · omega
        · split <;> omega
      · omega
    have k2 : t < rd E (i : Int) → 0 ≤ b2 ∧ b2 ≤ rd E (i : Int) := by
      intro h
      rw [← hg, if_pos h]
      split
      · omega
      · split <;> omega
    have k3 : b2 = b ∨ b2 = rd E (i : Int) := by
      rw [← hg]
      split
      · split
        · exact Or.inr rfl
        · split
          · exact Or.inr rfl
          · exact Or.inl rfl
      · exact Or.inl rfl
    refine ⟨fun h => Int.le_trans (h1 (k1 h).1) (k1 h).2, ?_, ?_⟩
    · intro i' h4 h5 h6
      rcases Nat.lt_or_ge i i' with h | h
      · exact h2 i' (by omega) (by omega) h6
      · obtain rfl : i' = i := by omega
        exact Int.le_trans (h1 (k2 h6).1) (k2 h6).2
    · intro h
      have hh : 0 ≤ b2 ∨ ∃ i' : Nat, i + 1 ≤ i' ∧ i' < i + 1 + d ∧ t < rd E (i' : Int) := by
        rcases h with h | ⟨i', h4, h5, h6⟩
        · exact Or.inl (k1 h).1
        · rcases Nat.lt_or_ge i i' with h7 | h7
          · exact Or.inr ⟨i', by omega, by omega, h6⟩
          · obtain rfl : i' = i := by omega
            exact Or.inl (k2 h6).1
      obtain ⟨h4, h5⟩ := h3 hh
      refine ⟨h4, ?_⟩
      rcases h5 with h5 | ⟨i', h6, h7, h8⟩
      · rcases k3 with h9 | h9
        · exact Or.inl (h5.trans h9)
        · exact Or.inr ⟨i, by omega, by omega, by rw [h5, h9]⟩
      · exact Or.inr ⟨i', by omega, by omega, h8⟩
theorem soon_ev (E : List Int) (t : Int) (n : Nat) (hE : E.length = n) (hn : n ≤ 8) : ∀ (d i : Nat) (b : Int), i + d = n → Ev (fun k => spec_l7Soon.l0 k E t b (i : Int)) (soonF E t i d b) := by
  intro d
  induction d with
  | zero =>
    intro i b hi
    refine ev_succ ?_
    simp only [spec_l7Soon.l0, if_neg (show ¬ ((i : Int) < (E.length : Int)) by omega)]
    exact ev_now _
  | succ d ih =>
    intro i b hi
    have h := ih (i + 1) (if rd E (i : Int) > t then (if b < 0 then rd E (i : Int) else if rd E (i : Int) < b then rd E (i : Int) else b) else b) (by omega)
    refine ev_succ ?_
    simp only [spec_l7Soon.l0, if_pos (show (i : Int) < (E.length : Int) by omega), if_pos (show (0 : Int) ≤ (i : Int) by omega), wsucc i (by omega), soonF]
    by_cases h1 : rd E (i : Int) > t
    · simp only [if_pos h1] at h ⊢
      by_cases h2 : b < 0
      · simp only [if_pos h2] at h ⊢; exact h
      · simp only [if_neg h2] at h ⊢
        by_cases h3 : rd E (i : Int) < b
        · simp only [if_pos h3] at h ⊢; exact h
        · simp only [if_neg h3] at h ⊢; exact h
    · simp only [if_neg h1] at h ⊢; exact h
section
variable {l : List S79} (hg : goodB l = true) {D : List Int} (hD : D.Perm (idsW l.length)) {m : Nat} (hm : 1 ≤ m ∧ m ≤ 4)
include hg hD
theorem next_ev {t : Int} {s : StP} (I : InvP l D m t s) : Ev (fun k => spec_l7Next.f k (List.replicate l.length (List.replicate l.length false)) D s.2.2.1 t) (if s.1 < l.length then rd D (s.1 : Int) else -1) := by
  have hl := good_len hg
  have hDl := D_len hD
  have hel : s.2.2.1.length = l.length := I.el
  have hcle := I.cle
  unfold spec_l7Next.f
  have inner : ∀ (e i : Nat), i + e = l.length → s.1 < l.length → Ev (fun k => spec_l7Next.l1 k (List.replicate l.length (List.replicate l.length false)) D s.2.2.1 t (s.1 : Int) true (i : Int)) (rd D (s.1 : Int)) := by
    intro e
    induction e with
    | zero =>
      intro i hi hc
      refine ev_succ ?_
      simp only [spec_l7Next.l1, if_neg (show ¬ ((i : Int) < (s.2.2.1.length : Int)) by omega), if_true, if_pos (show (0 : Int) ≤ (s.1 : Int) by omega), if_pos (show (s.1 : Int) < (D.length : Int) by omega)]
      exact ev_now _
    | succ e ih =>
      intro i hi hc
      obtain ⟨x, hx, ex⟩ := D_at hD s.1 hc
      refine ev_succ ?_
      simp only [spec_l7Next.l1, if_pos (show (i : Int) < (s.2.2.1.length : Int) by omega), if_pos (show (0 : Int) ≤ (i : Int) by omega), List.length_replicate, if_pos (show (i : Int) < (l.length : Int) by omega), if_pos (show (0 : Int) ≤ (s.1 : Int) by omega), if_pos (show (s.1 : Int) < (D.length : Int) by omega), rep_row l.length i (by omega), rep_cell, if_pos (show (0 : Int) ≤ rd D (s.1 : Int) by omega), if_pos (show rd D (s.1 : Int) < (l.length : Int) by omega), Bool.false_eq_true, if_false, wsucc i (by omega)]
      exact ih (i + 1) (by omega) hc
  have outer : ∀ (e j : Nat), j + e = l.length → j ≤ s.1 → Ev (fun k => spec_l7Next.l0 k (List.replicate l.length (List.replicate l.length false)) D s.2.2.1 t (j : Int)) (if s.1 < l.length then rd D (s.1 : Int) else -1) := by
    intro e
    induction e with
    | zero =>
      intro j hj hc
      refine ev_succ ?_
      simp only [spec_l7Next.l0, if_neg (show ¬ ((j : Int) < (D.length : Int)) by omega), if_neg (show ¬ s.1 < l.length by omega)]
      exact ev_now _
    | succ e ih =>
      intro j hj hc
      obtain ⟨x, hx, ex⟩ := D_at hD j (by omega)
      refine ev_succ ?_
      simp only [spec_l7Next.l0, if_pos (show (j : Int) < (D.length : Int) by omega), if_pos (show (0 : Int) ≤ (j : Int) by omega), if_pos (show (0 : Int) ≤ rd D (j : Int) by omega), if_pos (show rd D (j : Int) < (s.2.2.1.length : Int) by omega), wsucc j (by omega)]
      rcases Nat.lt_or_ge j s.1 with h | h
      · have := I.don j h
        simp only [ge_iff_le, if_pos this]
        exact ih (j + 1) (by omega) (by omega)
      · obtain rfl : j = s.1 := by omega
        have := I.und s.1 (Nat.le_refl _) (by omega)
        simp only [ge_iff_le, if_neg (show ¬ (0 ≤ rd s.2.2.1 (rd D (s.1 : Int))) by omega), if_pos (show s.1 < l.length by omega)]
        exact inner l.length 0 (by omega) (by omega)
  exact outer l.length 0 (by omega) (by omega)
include hm
theorem spec_step {t : Int} {s : StP} (I : InvP l D m t s) (q : Nat) (hq : q < m) (r : List S91)
    (h : Ev (fun k => spec_l7List.l2 k l (m : Int) D (List.replicate l.length (List.replicate l.length false)) (stepM l D t q s).2.1 (stepM l D t q s).2.2.1 (stepM l D t q s).2.2.2 t ((l.length : Int) - ((stepM l D t q s).1 : Int)) ((q + 1 : Nat) : Int)) r) :
    Ev (fun k => spec_l7List.l2 k l (m : Int) D (List.replicate l.length (List.replicate l.length false)) s.2.1 s.2.2.1 s.2.2.2 t ((l.length : Int) - (s.1 : Int)) (q : Int)) r := by
  have hl := good_len hg
  have hpl := I.pl
  have hel := I.el
  have hfl := I.fl
  have htb := I.tb
  have hcle := I.cle
  refine ev_succ ?_
  simp only [spec_l7List.l2, if_pos (show (q : Int) < (m : Int) by omega), if_pos (show (0 : Int) ≤ (q : Int) by omega), if_pos (show (q : Int) < (s.2.2.2.length : Int) by omega), wsucc q (by omega)]
  unfold stepM at h
  by_cases hF : rd s.2.2.2 (q : Int) ≤ t
  · simp only [if_pos hF]
    refine ev_bind (next_ev hg hD I) ?_
    by_cases hc : s.1 < l.length
    · rw [if_pos ⟨hF, hc⟩] at h
      dsimp only at h
      obtain ⟨i0, hi0, e0⟩ := D_at hD s.1 hc
      have htm := good_at hg i0 hi0
      have hti := rdI l i0 hi0
      have T1 : 1 ≤ (rd_T79 l (i0 : Int)).f0 ∧ (rd_T79 l (i0 : Int)).f0 ≤ 50 := by rw [hti]; omega
      rw [e0, Int.toNat_natCast] at h
      simp only [if_pos hc, e0, ge_iff_le, if_pos (show (0 : Int) ≤ (i0 : Int) by omega), if_pos (show (i0 : Int) < (s.2.1.length : Int) by omega), if_pos (show (i0 : Int) < (l.length : Int) by omega), if_pos (show (i0 : Int) < (s.2.2.1.length : Int) by omega), Option.bind_some, Int.toNat_natCast, w64 (x := t + (rd_T79 l (i0 : Int)).f0) (by omega) (by omega), w64 (x := (l.length : Int) - (s.1 : Int) - 1) (by omega) (by omega), rdS s.2.2.1 i0 i0 (t + (rd_T79 l (i0 : Int)).f0) (by omega), if_true]
      rw [show (l.length : Int) - ((s.1 + 1 : Nat) : Int) = (l.length : Int) - (s.1 : Int) - 1 by omega] at h
      exact h
    · rw [if_neg (fun h_ => hc h_.2)] at h
      simp only [if_neg hc, ge_iff_le, if_neg (show ¬ ((0 : Int) ≤ -1) by omega)]
      exact h
  · rw [if_neg (fun h_ => hF h_.1)] at h
    simp only [if_neg hF, ge_iff_le, if_neg (show ¬ ((0 : Int) ≤ -1) by omega)]
    exact h
theorem ready_ev {t : Int} {s : StP} (I : InvP l D m t s) (j : Nat) (hj : j < l.length) : Ev (fun k => impl_listPlan_1.f k (rd D (j : Int)) t (begB s.2.2.1) l (List.replicate l.length (List.replicate l.length false)) s.2.1) (decide (s.1 ≤ j)) := by
  have _ := hm
  have hl := good_len hg
  have hel := I.el
  obtain ⟨x, hx, ex⟩ := D_at hD j hj
  unfold impl_listPlan_1.f
  rw [ex]
  simp only [begB_len, if_pos (show (0 : Int) ≤ (x : Int) by omega), if_pos (show (x : Int) < (s.2.2.1.length : Int) by omega), begB_at s.2.2.1 x (by omega)]
  rcases Nat.lt_or_ge j s.1 with h | h
  · have := I.don j h
    rw [ex] at this
    simp only [decide_eq_true this, if_true, decide_eq_false (show ¬ s.1 ≤ j by omega)]
    exact ev_now _
  · have := I.und j h hj
    rw [ex] at this
    simp only [decide_eq_false (show ¬ (0 ≤ rd s.2.2.1 (x : Int)) by omega), Bool.false_eq_true, if_false, decide_eq_true h]
    have loop : ∀ (e i : Nat), i + e = l.length → Ev (fun k => impl_listPlan_1.l0 k (x : Int) t (l.length : Int) (i : Int) (begB s.2.2.1) l (List.replicate l.length (List.replicate l.length false)) s.2.1) true := by
      intro e
      induction e with
      | zero =>
        intro i hi
        refine ev_succ ?_
        simp only [impl_listPlan_1.l0, if_neg (show ¬ ((i : Int) < (l.length : Int)) by omega)]
        exact ev_now _
      | succ e ih =>
        intro i hi
        refine ev_succ ?_
        simp only [impl_listPlan_1.l0, if_pos (show (i : Int) < (l.length : Int) by omega), if_pos (show (0 : Int) ≤ (i : Int) by omega), List.length_replicate, if_pos (show (0 : Int) ≤ (x : Int) by omega), rep_row l.length i (by omega), if_pos (show (x : Int) < (l.length : Int) by omega), rep_cell, Bool.false_eq_true, if_false, wsucc i (by omega)]
        exact ih (i + 1) (by omega)
    exact loop l.length 0 (by omega)
theorem impl_step {t : Int} {s : StP} (I : InvP l D m t s) (q : Nat) (hq : q < m) (r : List S91)
    (h : Ev (fun k => impl_listPlan.l1 k D (stepM l D t q s).2.2.2 t ((l.length : Int) - ((stepM l D t q s).1 : Int)) (m : Int) ((q + 1 : Nat) : Int) l (List.replicate l.length (List.replicate l.length false)) (stepM l D t q s).2.1 (begB (stepM l D t q s).2.2.1)) r) :
    Ev (fun k => impl_listPlan.l1 k D s.2.2.2 t ((l.length : Int) - (s.1 : Int)) (m : Int) (q : Int) l (List.replicate l.length (List.replicate l.length false)) s.2.1 (begB s.2.2.1)) r := by
  have hl := good_len hg
  have hDl := D_len hD
  have hpl := I.pl
  have hel := I.el
  have hfl := I.fl
  have htb := I.tb
  have hcle := I.cle
  refine ev_succ ?_
  simp only [impl_listPlan.l1, if_pos (show (q : Int) < (m : Int) by omega), if_pos (show (0 : Int) ≤ (q : Int) by omega), if_pos (show (q : Int) < (s.2.2.2.length : Int) by omega), wsucc q (by omega)]
  unfold stepM at h
  by_cases hF : rd s.2.2.2 (q : Int) ≤ t
  · simp only [gt_iff_lt, if_neg (show ¬ (t < rd s.2.2.2 (q : Int)) by omega)]
    have loop : ∀ (e j : Nat), j + e = l.length → j ≤ s.1 → Ev (fun k => impl_listPlan.l2 k D s.2.2.2 t ((l.length : Int) - (s.1 : Int)) (q : Int) (m : Int) (q : Int) D (D.length : Int) (j : Int) l (List.replicate l.length (List.replicate l.length false)) s.2.1 (begB s.2.2.1)) r := by
      intro e
      induction e with
      | zero =>
        intro j hj hc
        rw [if_neg (fun h_ => by have := h_.2; omega)] at h
        refine ev_succ ?_
        simp only [impl_listPlan.l2, if_neg (show ¬ ((j : Int) < (D.length : Int)) by omega), wsucc q (by omega)]
        exact h
      | succ e ih =>
        intro j hj hc
        refine ev_succ ?_
        simp only [impl_listPlan.l2, if_pos (show (j : Int) < (D.length : Int) by omega), if_pos (show (0 : Int) ≤ (j : Int) by omega), wsucc j (by omega)]
        refine ev_bind (ready_ev hg hD hm I j (by omega)) ?_
        rcases Nat.lt_or_ge j s.1 with h1 | h1
        · simp only [decide_eq_false (show ¬ s.1 ≤ j by omega), Bool.false_eq_true, if_false]
          exact ih (j + 1) (by omega) (by omega)
        · obtain rfl : j = s.1 := by omega
          have hc : s.1 < l.length := by omega
          rw [if_pos ⟨hF, hc⟩] at h
          dsimp only at h
          obtain ⟨i0, hi0, e0⟩ := D_at hD s.1 hc
          have htm := good_at hg i0 hi0
          have hti := rdI l i0 hi0
          have T1 : 1 ≤ (rd_T79 l (i0 : Int)).f0 ∧ (rd_T79 l (i0 : Int)).f0 ≤ 50 := by rw [hti]; omega
          rw [e0, Int.toNat_natCast] at h
          simp only [decide_eq_true (Nat.le_refl s.1), if_true, e0, if_pos (show (0 : Int) ≤ (i0 : Int) by omega), if_pos (show (i0 : Int) < (s.2.1.length : Int) by omega), begB_len, if_pos (show (i0 : Int) < (s.2.2.1.length : Int) by omega), if_pos (show (i0 : Int) < (l.length : Int) by omega), if_pos (show (0 : Int) ≤ (q : Int) by omega), if_pos (show (q : Int) < (s.2.2.2.length : Int) by omega), Int.toNat_natCast, w64 (x := t + (rd_T79 l (i0 : Int)).f0) (by omega) (by omega), w64 (x := (l.length : Int) - (s.1 : Int) - 1) (by omega) (by omega), wsucc q (by omega), begB_set s.2.2.1 i0 (t + (rd_T79 l (i0 : Int)).f0) (by omega)]
          rw [show (l.length : Int) - ((s.1 + 1 : Nat) : Int) = (l.length : Int) - (s.1 : Int) - 1 by omega] at h
          exact h
    exact loop l.length 0 (by omega) (by omega)
  · rw [if_neg (fun h_ => hF h_.1)] at h
    simp only [gt_iff_lt, if_pos (show t < rd s.2.2.2 (q : Int) by omega)]
    exact h
theorem spec_round {t : Int} (r : List S91) : ∀ (d q : Nat) (s : StP), q + d = m → InvP l D m t s →
    Ev (fun k => spec_l7List.l1 k l (m : Int) D (List.replicate l.length (List.replicate l.length false)) (roundM l D t q d s).2.1 (roundM l D t q d s).2.2.1 (roundM l D t q d s).2.2.2 (soonF (roundM l D t q d s).2.2.1 t 0 l.length (-1)) ((l.length : Int) - ((roundM l D t q d s).1 : Int))) r →
    Ev (fun k => spec_l7List.l2 k l (m : Int) D (List.replicate l.length (List.replicate l.length false)) s.2.1 s.2.2.1 s.2.2.2 t ((l.length : Int) - (s.1 : Int)) (q : Int)) r := by
  have hl := good_len hg
  intro d
  induction d with
  | zero =>
    intro q s hq I h
    refine ev_succ ?_
    simp only [spec_l7List.l2, if_neg (show ¬ ((q : Int) < (m : Int)) by omega)]
    unfold spec_l7Soon.f
    exact ev_bind (soon_ev s.2.2.1 t l.length I.el hl l.length 0 (-1) (by omega)) h
  | succ d ih =>
    intro q s hq I h
    exact spec_step hg hD hm I q (by omega) r (ih (q + 1) (stepM l D t q s) (by omega) (step_inv hg hD I q (by omega)) h)
theorem impl_round {t : Int} (r : List S91) : ∀ (d q : Nat) (s : StP), q + d = m → InvP l D m t s →
    Ev (fun k => impl_listPlan.l0 k D (roundM l D t q d s).2.2.2 (t + 1) ((l.length : Int) - ((roundM l D t q d s).1 : Int)) l (List.replicate l.length (List.replicate l.length false)) (roundM l D t q d s).2.1 (begB (roundM l D t q d s).2.2.1)) r →
    Ev (fun k => impl_listPlan.l1 k D s.2.2.2 t ((l.length : Int) - (s.1 : Int)) (m : Int) (q : Int) l (List.replicate l.length (List.replicate l.length false)) s.2.1 (begB s.2.2.1)) r := by
  have hl := good_len hg
  intro d
  induction d with
  | zero =>
    intro q s hq I h
    have htb := I.tb
    have hcle := I.cle
    refine ev_succ ?_
    simp only [impl_listPlan.l1, if_neg (show ¬ ((q : Int) < (m : Int)) by omega), w64 (x := t + 1) (by omega) (by omega)]
    exact h
  | succ d ih =>
    intro q s hq I h
    exact impl_step hg hD hm I q (by omega) r (ih (q + 1) (stepM l D t q s) (by omega) (step_inv hg hD I q (by omega)) h)
/-- While all machines are busy, nothing is begun. -/
theorem impl_idle {t : Int} {s : StP} (hfl : s.2.2.2.length = m) (ht : 0 ≤ t ∧ t ≤ 1000) (hc : s.1 < l.length) (hb : ∀ q : Nat, q < m → t < rd s.2.2.2 (q : Int)) (r : List S91)
    (h : Ev (fun k => impl_listPlan.l0 k D s.2.2.2 (t + 1) ((l.length : Int) - (s.1 : Int)) l (List.replicate l.length (List.replicate l.length false)) s.2.1 (begB s.2.2.1)) r) :
    Ev (fun k => impl_listPlan.l0 k D s.2.2.2 t ((l.length : Int) - (s.1 : Int)) l (List.replicate l.length (List.replicate l.length false)) s.2.1 (begB s.2.2.1)) r := by
  have _ := hD
  have hl := good_len hg
  have loop : ∀ (d q : Nat), q + d = m → Ev (fun k => impl_listPlan.l1 k D s.2.2.2 t ((l.length : Int) - (s.1 : Int)) (m : Int) (q : Int) l (List.replicate l.length (List.replicate l.length false)) s.2.1 (begB s.2.2.1)) r := by
    intro d
    induction d with
    | zero =>
      intro q hq
      refine ev_succ ?_
      simp only [impl_listPlan.l1, if_neg (show ¬ ((q : Int) < (m : Int)) by omega), w64 (x := t + 1) (by omega) (by omega)]
      exact h
    | succ d ih =>
      intro q hq
      refine ev_succ ?_
      simp only [impl_listPlan.l1, if_pos (show (q : Int) < (m : Int) by omega), if_pos (show (0 : Int) ≤ (q : Int) by omega), if_pos (show (q : Int) < (s.2.2.2.length : Int) by omega), gt_iff_lt, if_pos (hb q (by omega)), wsucc q (by omega)]
      exact ih (q + 1) (by omega)
  refine ev_succ ?_
  simp only [impl_listPlan.l0, gt_iff_lt, if_pos (show (0 : Int) < (l.length : Int) - (s.1 : Int) by omega), hfl]
  exact loop m 0 (by omega)
theorem plan_done {t : Int} {s : StP} (I : InvP l D m t s) (hc : s.1 = l.length) : s.2.1.length = l.length ∧ ∀ i : Nat, i < l.length → (rd_T91 s.2.1 (i : Int)).f0 = (i : Int) := by
  have _ := hm
  have _ := hg
  refine ⟨I.pl, fun i hi => ?_⟩
  obtain ⟨j, hj, e⟩ := D_onto hD i hi
  have := I.job j (by omega)
  rw [e] at this
  exact this
theorem plans : ∀ (μ : Nat) (t : Int) (s : StP), InvP l D m t s → 400 - t < (μ : Int) → ∃ R : List S91,
    Ev (fun k => spec_l7List.l1 k l (m : Int) D (List.replicate l.length (List.replicate l.length false)) s.2.1 s.2.2.1 s.2.2.2 t ((l.length : Int) - (s.1 : Int))) R ∧
    Ev (fun k => impl_listPlan.l0 k D s.2.2.2 t ((l.length : Int) - (s.1 : Int)) l (List.replicate l.length (List.replicate l.length false)) s.2.1 (begB s.2.2.1)) R ∧ R.length = l.length ∧ ∀ i : Nat, i < l.length → (rd_T91 R (i : Int)).f0 = (i : Int) := by
  have hl := good_len hg
  intro μ
  induction μ with
  | zero =>
    intro t s I h
    have htb := I.tb
    have hcle := I.cle
    omega
  | succ μ ih =>
    intro t s I h
    have htb := I.tb
    have hcle := I.cle
    rcases Nat.lt_or_ge s.1 l.length with hc | hc
    case inr =>
      have hce : s.1 = l.length := by omega
      refine ⟨s.2.1, ev_succ ?_, ev_succ ?_, plan_done hg hD hm I hce⟩
      · simp only [spec_l7List.l1, gt_iff_lt, if_neg (show ¬ ((0 : Int) < (l.length : Int) - (s.1 : Int)) by omega)]
        exact ev_now _
      · simp only [impl_listPlan.l0, gt_iff_lt, if_neg (show ¬ ((0 : Int) < (l.length : Int) - (s.1 : Int)) by omega)]
        exact ev_now _
    obtain ⟨J, hcm, _, hB⟩ := round_facts hg hD m 0 s (by omega) I
    have ss : ∀ R : List S91, Ev (fun k => spec_l7List.l1 k l (m : Int) D (List.replicate l.length (List.replicate l.length false)) (roundM l D t 0 m s).2.1 (roundM l D t 0 m s).2.2.1 (roundM l D t 0 m s).2.2.2 (soonF (roundM l D t 0 m s).2.2.1 t 0 l.length (-1)) ((l.length : Int) - ((roundM l D t 0 m s).1 : Int))) R →
        Ev (fun k => spec_l7List.l1 k l (m : Int) D (List.replicate l.length (List.replicate l.length false)) s.2.1 s.2.2.1 s.2.2.2 t ((l.length : Int) - (s.1 : Int))) R := by
      intro R hR
      refine ev_succ ?_
      simp only [spec_l7List.l1, gt_iff_lt, if_pos (show (0 : Int) < (l.length : Int) - (s.1 : Int) by omega)]
      exact spec_round hg hD hm R m 0 s (by omega) I hR
    have ii : ∀ R : List S91, Ev (fun k => impl_listPlan.l0 k D (roundM l D t 0 m s).2.2.2 (t + 1) ((l.length : Int) - ((roundM l D t 0 m s).1 : Int)) l (List.replicate l.length (List.replicate l.length false)) (roundM l D t 0 m s).2.1 (begB (roundM l D t 0 m s).2.2.1)) R →
        Ev (fun k => impl_listPlan.l0 k D s.2.2.2 t ((l.length : Int) - (s.1 : Int)) l (List.replicate l.length (List.replicate l.length false)) s.2.1 (begB s.2.2.1)) R := by
      intro R hR
      refine ev_succ ?_
      simp only [impl_listPlan.l0, gt_iff_lt, if_pos (show (0 : Int) < (l.length : Int) - (s.1 : Int) by omega), I.fl]
      exact impl_round hg hD hm R m 0 s (by omega) I hR
    generalize roundM l D t 0 m s = s1 at J hcm hB ss ii
    have hcle1 := J.cle
    rcases Nat.lt_or_ge s1.1 l.length with hc1 | hc1
    case inr =>
      have hce : s1.1 = l.length := by omega
      refine ⟨s1.2.1, ss _ (ev_succ ?_), ii _ (ev_succ ?_), plan_done hg hD hm J hce⟩
      · simp only [spec_l7List.l1, gt_iff_lt, if_neg (show ¬ ((0 : Int) < (l.length : Int) - (s1.1 : Int)) by omega)]
        exact ev_now _
      · simp only [impl_listPlan.l0, gt_iff_lt, if_neg (show ¬ ((0 : Int) < (l.length : Int) - (s1.1 : Int)) by omega)]
        exact ev_now _
    have hbusy := hB hc1
    obtain ⟨f1, f2, f3⟩ := soonF_facts s1.2.2.1 t htb.1 l.length 0 (-1) (Or.inl (by omega))
    have link : ∀ q : Nat, q < m → ∃ i : Nat, i < l.length ∧ rd s1.2.2.1 (i : Int) = rd s1.2.2.2 (q : Int) := by
      intro q hq
      have hb := hbusy q (Nat.zero_le _) hq
      rcases J.lk q hq with h0 | h0
      · omega
      · exact h0
    obtain ⟨i0, hi0, e0⟩ := link 0 (by omega)
    have hb0 := hbusy 0 (Nat.le_refl _) (by omega)
    obtain ⟨g1, g2⟩ := f3 (Or.inr ⟨i0, Nat.zero_le _, by omega, by rw [e0]; exact hb0⟩)
    have hnx : ∃ i : Nat, i < l.length ∧ rd s1.2.2.1 (i : Int) = soonF s1.2.2.1 t 0 l.length (-1) := by
      rcases g2 with g2 | ⟨i, _, h2, h3⟩
      · omega
      · exact ⟨i, by omega, h3⟩
    obtain ⟨i1, hi1, e1⟩ := hnx
    have eb1 := J.eb i1 hi1
    have hmin : ∀ q : Nat, q < m → soonF s1.2.2.1 t 0 l.length (-1) ≤ rd s1.2.2.2 (q : Int) := by
      intro q hq
      obtain ⟨i, hi, e⟩ := link q hq
      rw [← e]
      exact f2 i (Nat.zero_le _) (by omega) (by rw [e]; exact hbusy q (Nat.zero_le _) hq)
    rw [e1] at eb1
    generalize soonF s1.2.2.1 t 0 l.length (-1) = nx at g1 eb1 hmin ss e1
    have K : InvP l D m nx s1 := ⟨J.cle, J.pl, J.el, J.fl, J.don, J.und, J.job, ⟨by omega, eb1⟩, J.eb, J.fb, J.lk⟩
    obtain ⟨R, r1, r2, r3⟩ := ih nx s1 K (by omega)
    refine ⟨R, ss R r1, ii R ?_, r3⟩
    have back : ∀ (d : Nat) (u : Int), u + (d : Int) = nx → t < u → Ev (fun k => impl_listPlan.l0 k D s1.2.2.2 u ((l.length : Int) - (s1.1 : Int)) l (List.replicate l.length (List.replicate l.length false)) s1.2.1 (begB s1.2.2.1)) R := by
      intro d
      induction d with
      | zero =>
        intro u hu _
        obtain rfl : u = nx := by omega
        exact r2
      | succ d ihd =>
        intro u hu htu
        exact impl_idle hg hD hm J.fl ⟨by omega, by omega⟩ hc1 (fun q hq => by have := hmin q hq; omega) R (ihd (u + 1) (by omega) (by omega))
    exact back (nx - (t + 1)).toNat (t + 1) (by omega) (by omega)
end

theorem inN_nil (n : Nat) : inN n [] := by unfold inN; simp
theorem wrap3 (a b c : Int) : wrap64 (wrap64 (a + b) + c) = wrap64 (a + wrap64 (b + c)) := by unfold wrap64; omega
def sumT (l : List S79) (R : List S91) (i : Nat) : Nat → Int → Int
  | 0, acc => acc
  | d + 1, acc => sumT l R (i + 1) d (wrap64 (acc + wrap64 ((rd_T91 R (i : Int)).f2 + (rd_T79 l (i : Int)).f0)))
theorem minus_loop (l : List S79) (hg : goodB l = true) (m : Nat) (D : List Int) (tbl : List (List Bool)) (P : List S91) (r : List S91) (hm : m ≤ 4)
    (h : Ev (fun k => spec_l7List.l1 k l (m : Int) D tbl P (List.replicate l.length (-1)) (List.replicate m 0) 0 (l.length : Int)) r) :
    ∀ (d i : Nat), i + d = l.length → Ev (fun k => spec_l7List.l0 k l (m : Int) D (l.length : Int) tbl P (List.replicate i (-1) ++ List.replicate d 0) (i : Int)) r := by
  have hl := good_len hg
  intro d
  induction d with
  | zero =>
    intro i hi
    refine ev_succ ?_
    rw [List.replicate_zero, List.append_nil, show i = l.length by omega]
    simp only [spec_l7List.l0, if_neg (show ¬ ((l.length : Int) < (l.length : Int)) by omega), if_pos (show (0 : Int) ≤ (m : Int) by omega), Int.toNat_natCast, if_pos (show m ≤ 35184372088832 by omega)]
    exact h
  | succ d ih =>
    intro i hi
    refine ev_succ ?_
    have e1 : (List.replicate i (-1 : Int) ++ List.replicate (d + 1) 0).length = l.length := by simp; omega
    have e2 : (List.replicate i (-1 : Int) ++ List.replicate (d + 1) 0).set i (-1) = List.replicate (i + 1) (-1) ++ List.replicate d 0 := by
      rw [List.set_append_right _ _ (by simp), List.length_replicate, Nat.sub_self, List.replicate_succ, List.set_cons_zero, List.replicate_succ', List.append_assoc]
      rfl
    simp only [spec_l7List.l0, if_pos (show (i : Int) < (l.length : Int) by omega), if_pos (show (0 : Int) ≤ (i : Int) by omega), e1, Int.toNat_natCast, e2, wsucc i (by omega)]
    exact ih (i + 1) (by omega)
theorem start_inv (l : List S79) (D : List Int) (hD : D.Perm (idsW l.length)) (m : Nat) (z : S91) : InvP l D m 0 (0, List.replicate l.length z, List.replicate l.length (-1), List.replicate m 0) := by
  have r1 : ∀ i : Nat, i < l.length → rd (List.replicate l.length (-1 : Int)) (i : Int) = -1 := by
    intro i hi
    unfold rd
    rw [Int.toNat_natCast, List.getD_eq_getElem?_getD, List.getElem?_replicate, if_pos hi]
    rfl
  have r2 : ∀ q : Nat, q < m → rd (List.replicate m (0 : Int)) (q : Int) = 0 := by
    intro q hq
    unfold rd
    rw [Int.toNat_natCast, List.getD_eq_getElem?_getD, List.getElem?_replicate, if_pos hq]
    rfl
  refine ⟨Nat.zero_le _, by simp, by simp, by simp, fun j hj => ?_, fun j _ hj => ?_, fun j hj => ?_, by simp, fun i hi => ?_, fun q hq => ?_, fun q hq => ?_⟩
  · dsimp only at hj; omega
  · obtain ⟨i, hi, e⟩ := D_at hD j hj
    dsimp only
    rw [e]
    exact r1 i hi
  · dsimp only at hj; omega
  · dsimp only; rw [r1 i hi]; omega
  · dsimp only; rw [r2 q hq]; omega
  · exact Or.inl (r2 q hq)
theorem core (l : List S79) (m : Int) (hm : l.length ≤ 1048576) (_ : ∀ (i : Nat) (hi : i < l.length), I64 l[i].f0 ∧ I64 l[i].f1 ∧ I64 l[i].f2 ∧ I64 l[i].f3) (_ : I64 m) :
    ∃ (r : Int) (ok : Bool), True ∧ Ev (fun k => spec_TotalEnd.f k l m) (r, ok) ∧ Ev (fun k => impl_TotalEnd.f k l m) (r, ok) := by
  have h1 := l7Good_ev l m [] hm (by simp)
  have h2 := isParallel_ev l m [] hm
  unfold spec_TotalEnd.f impl_TotalEnd.f
  simp only [Option.bind_some]
  cases hp : par7 l m []
  · rw [hp] at h1 h2
    exact ⟨0, false, trivial, ev_bind h1 (by simp only [Bool.false_eq_true, if_false]; exact ev_now _), ev_bind h2 (by simp only [Bool.false_eq_true, if_false]; exact ev_now _)⟩
  rw [hp] at h1 h2
  obtain ⟨hg, hmm, hl, _⟩ := par7_facts l m [] hp
  obtain ⟨mN, rfl⟩ : ∃ mN : Nat, m = (mN : Int) := ⟨m.toNat, by omega⟩
  have hD := ruledL_perm l 2
  have tb1 := l4Table_ev l.length hl [] (by simp) (inN_nil _)
  have tb2 := closure_ev l.length hl [] (by simp) (inN_nil _)
  rw [closT_nil0 l.length (by omega)] at tb1 tb2
  have eb : begB (List.replicate l.length (-1)) = List.replicate l.length false := by unfold begB; rw [List.map_replicate]; rfl
  have hall := fun z => plans hg hD (m := mN) (by omega) 401 0 _ (start_inv l (ruledL l 2) hD mN z) (by omega)
  have sums : ∀ R : List S91, R.length = l.length → (∀ i : Nat, i < l.length → (rd_T91 R (i : Int)).f0 = (i : Int)) →
      (∀ (d i : Nat) (acc : Int), i + d = l.length → Ev (fun k => spec_TotalEnd.l0 k l R acc (i : Int)) (sumT l R i d acc, true)) ∧ (∀ (d i : Nat) (acc : Int), i + d = l.length → Ev (fun k => impl_TotalEnd.l0 k l acc R (R.length : Int) (i : Int)) (sumT l R i d acc, true)) := by
    intro R hR hf
    refine ⟨?_, ?_⟩
    · intro d
      induction d with
      | zero =>
        intro i acc hi
        refine ev_succ ?_
        simp only [spec_TotalEnd.l0, if_neg (show ¬ ((i : Int) < (R.length : Int)) by omega)]
        exact ev_now _
      | succ d ih =>
        intro i acc hi
        refine ev_succ ?_
        simp only [spec_TotalEnd.l0, if_pos (show (i : Int) < (R.length : Int) by omega), if_pos (show (0 : Int) ≤ (i : Int) by omega), if_pos (show (i : Int) < (l.length : Int) by omega), wsucc i (by omega), wrap3]
        exact ih (i + 1) _ (by omega)
    · intro d
      induction d with
      | zero =>
        intro i acc hi
        refine ev_succ ?_
        simp only [impl_TotalEnd.l0, if_neg (show ¬ ((i : Int) < (R.length : Int)) by omega)]
        exact ev_now _
      | succ d ih =>
        intro i acc hi
        have h0 := hf i (by omega)
        refine ev_succ ?_
        simp only [impl_TotalEnd.l0, if_pos (show (i : Int) < (R.length : Int) by omega), if_pos (show (0 : Int) ≤ (i : Int) by omega), h0, if_pos (show (i : Int) < (l.length : Int) by omega), wsucc i (by omega)]
        exact ih (i + 1) _ (by omega)
  obtain ⟨R, r1, r2, r3, r4⟩ := hall z91
  dsimp only at r1 r2
  rw [show (l.length : Int) - ((0 : Nat) : Int) = (l.length : Int) by omega] at r1 r2
  rw [eb] at r2
  obtain ⟨s1, s2⟩ := sums R r3 r4
  refine ⟨sumT l R 0 l.length 0, true, trivial, ev_bind h1 ?_, ev_bind h2 ?_⟩
  · simp only [if_true]
    refine ev_bind (l3Order_ev l hg 2) (ev_bind ?_ (s1 l.length 0 0 (by omega)))
    unfold spec_l7List.f
    refine ev_bind tb1 ?_
    simp only [if_pos (show (0 : Int) ≤ (l.length : Int) by omega), Int.toNat_natCast, if_pos (show l.length ≤ 11728124029610 by omega), if_pos (show l.length ≤ 35184372088832 by omega)]
    exact minus_loop l hg mN (ruledL l 2) _ _ R (by omega) r1 l.length 0 (by omega)
  · simp only [if_true]
    refine ev_bind (ruledOrder_ev l hg 2) (ev_bind ?_ (s2 l.length 0 0 (by omega)))
    unfold impl_listPlan.f
    refine ev_bind tb2 ?_
    simp only [if_pos (show (0 : Int) ≤ (l.length : Int) by omega), Int.toNat_natCast, if_pos (show l.length ≤ 11728124029610 by omega), if_pos (show l.length ≤ 281474976710656 by omega), if_pos (show (0 : Int) ≤ (mN : Int) by omega), if_pos (show mN ≤ 35184372088832 by omega)]
    exact r2

theorem FnExactTotalEnd : FnExactTotalEnd.Claim := by
  intro l0 a1 hl0 hg0 hi1
  refine Ev.rounds ?_
  unfold laws_FnExactTotalEnd.f
  simp only [szJobS_eq l0 (1048576 : Int) (by omega) (by omega) hl0, Option.bind_some]
  by_cases h0 : (1048576 : Int) < l0.length
  · simp only [if_pos h0, if_pos (show (-1 : Int) < 0 by omega)]
    exact ev_now _
  simp only [if_neg h0, if_neg (show ¬ (((1048576 : Int) - l0.length) < 0) by omega)]
  have ht0 := toJobS_ev l0 (by omega)
  have hm0 : (l0.map conv).length ≤ 1048576 := by simp; omega
  have hq0 := eqJobS_ev (l0.map conv) (by omega)
  obtain ⟨r0, r1, _, hs, hi⟩ := core (l0.map conv) a1 hm0 (conv_I64 l0 hg0) hi1
  repeat first
    | exact ev_now _
    | with_reducible refine ev_bind hs ?_
    | with_reducible refine ev_bind hi ?_
    | with_reducible refine ev_bind ht0 ?_
    | with_reducible refine ev_bind hq0 ?_
    | simp only [if_true, if_false, bne_self_eq_false, Bool.false_eq_true]
    | (refine ev_succ ?_; simp only [laws_FnExactTotalEnd.j0])

end Go.Proofs.Ytecdigebnhlfhaa.Pure
