/- The program's function and the reference's come to the same answer: the statement of numbers and lists behind the law FnExactParseJobs. Conditions: none. -/
import Derived.Test.YtnhceifdiaigbaaArgFnExactParseJobs
import Derived.Test.YtnhceifdiaigbaaBase
namespace Go.Proofs.Ytnhceifdiaigbaa.Pure
open Go.RowKit Go.Proofs.Ytnhceifdiaigbaa.OFnExactParseJobs Go.Proofs.Ytnhceifdiaigbaa.Base Go.Proofs.YtnhceifdiaigbaaW.PrintWords Go.Proofs.YtnhceifdiaigbaaW.PrintLast Go.Proofs.YtnhceifdiaigbaaW.PrintMore Go.Proofs.Ytnhceifdiaigbaa.Open
set_option linter.unusedVariables false
set_option linter.unusedSimpArgs false

theorem rdI (xs : List S63) (i : Nat) (h : i < xs.length) : rd_T63 xs (i : Int) = xs[i] := by
  unfold rd_T63
  rw [Int.toNat_natCast, List.getD_eq_getElem?_getD, List.getElem?_eq_getElem h]
  rfl

theorem within_eq (a b c : Int) : impl_within.f a b c = some (decide (b ≤ a) && decide (a ≤ c)) := by
  unfold impl_within.f
  by_cases h : b ≤ a
  · rw [if_pos h]; simp [h]
  · rw [if_neg h]; simp [h]

/-- A job's numbers are in their bounds. -/
def okJ (x : S63) : Bool := decide (1 ≤ x.f0) && (decide (x.f0 ≤ 50) && (decide (0 ≤ x.f1) && (decide (x.f1 ≤ 50) && (decide (0 ≤ x.f2) && (decide (x.f2 ≤ 500) && (decide (0 ≤ x.f3) && decide (x.f3 ≤ 500)))))))
def goodB (l : List S63) : Bool := decide (l.length ≤ 8) && l.all okJ
theorem isDate_eq (a : Int) : impl_isDate.f a = some (decide (0 ≤ a) && decide (a ≤ 500)) := by
  unfold impl_isDate.f
  rw [within_eq]
  rfl
theorem job_chain (x : S63) (o : Option Bool) : (if (decide (1 ≤ x.f0) && decide (x.f0 ≤ 50)) = true then (if (decide (0 ≤ x.f1) && decide (x.f1 ≤ 50)) = true then (if (decide (0 ≤ x.f2) && decide (x.f2 ≤ 500)) = true then (if (decide (0 ≤ x.f3) && decide (x.f3 ≤ 500)) = true then o else some false) else some false) else some false) else some false) = if okJ x = true then o else some false := by
  unfold okJ
  by_cases a1 : 1 ≤ x.f0 <;> by_cases a2 : x.f0 ≤ 50 <;> simp [a1, a2]
  by_cases b1 : 0 ≤ x.f1 <;> by_cases b2 : x.f1 ≤ 50 <;> simp [b1, b2]
  by_cases c1 : 0 ≤ x.f2 <;> by_cases c2 : x.f2 ≤ 500 <;> simp [c1, c2]
theorem IsJobs_l (xs : List S63) (hn : xs.length ≤ 4611686018427387904) : ∀ (d i : Nat), i + d = xs.length → Ev (fun k => impl_IsJobs.l0 k xs (xs.length : Int) (i : Int)) ((xs.drop i).all okJ) := by
  intro d
  induction d with
  | zero =>
    intro i hi
    refine ev_succ ?_
    simp only [impl_IsJobs.l0, if_neg (show ¬ (i : Int) < (xs.length : Int) by omega), List.drop_of_length_le (show xs.length ≤ i by omega)]
    exact ev_now _
  | succ d ih =>
    intro i hi
    refine ev_succ ?_
    have hx : i < xs.length := by omega
    have hih := ih (i + 1) (by omega)
    rw [List.drop_eq_getElem_cons hx, List.all_cons]
    simp only [impl_IsJobs.l0, within_eq, isDate_eq, Option.bind_some, if_pos (show (i : Int) < (xs.length : Int) by omega), if_pos (show (0 : Int) ≤ (i : Int) by omega), wsucc i (by omega), rdI xs i hx]
    generalize xs[i] = x at *
    simp only [job_chain]
    by_cases c : okJ x = true
    · simpa only [c, if_true, Bool.true_and] using hih
    · have c' : okJ x = false := by simpa using c
      simp only [c', Bool.false_and]
      exact ev_now _
theorem IsJobs_ev (xs : List S63) (hn : xs.length ≤ 4611686018427387904) : Ev (fun k => impl_IsJobs.f k xs) (goodB xs) := by
  unfold impl_IsJobs.f goodB
  by_cases h : xs.length ≤ 8
  · simp only [if_neg (show ¬ ((xs.length : Int) > 8) by omega), decide_eq_true h, Bool.true_and]
    exact IsJobs_l xs hn xs.length 0 (by omega)
  · simp only [if_pos (show ((xs.length : Int) > 8) by omega), decide_eq_false h, Bool.false_and]
    exact ev_now _

theorem good_len {xs : List S63} (h : goodB xs = true) : xs.length ≤ 8 := by
  unfold goodB at h
  simp only [Bool.and_eq_true, decide_eq_true_eq] at h
  exact h.1
theorem good_at {xs : List S63} (h : goodB xs = true) (i : Nat) (hi : i < xs.length) : 1 ≤ xs[i].f0 ∧ xs[i].f0 ≤ 50 ∧ 0 ≤ xs[i].f1 ∧ xs[i].f1 ≤ 50 ∧ 0 ≤ xs[i].f2 ∧ xs[i].f2 ≤ 500 ∧ 0 ≤ xs[i].f3 ∧ xs[i].f3 ≤ 500 := by
  unfold goodB at h
  simp only [Bool.and_eq_true, List.all_eq_true] at h
  have b := h.2 xs[i] (List.getElem_mem hi)
  simp only [okJ, Bool.and_eq_true, decide_eq_true_eq] at b
  obtain ⟨a1, a2, b1, b2, c1, c2, d1, d2⟩ := b
  exact ⟨a1, a2, b1, b2, c1, c2, d1, d2⟩

theorem l1In_eq (a b c : Int) : spec_l1In.f a b c = some (decide (b ≤ a) && decide (a ≤ c)) := by
  unfold spec_l1In.f
  by_cases h : b ≤ a
  · rw [if_pos h]; simp [h]
  · rw [if_neg h]; simp [h]

theorem l2Job_eq (x : S63) : spec_l2Job.f x.f0 x.f1 x.f2 x.f3 = some (okJ x) := by
  unfold spec_l2Job.f okJ
  simp only [l1In_eq, Option.bind_some]
  by_cases a1 : 1 ≤ x.f0 <;> by_cases a2 : x.f0 ≤ 50 <;> simp [a1, a2]
  by_cases b1 : 0 ≤ x.f1 <;> by_cases b2 : x.f1 ≤ 50 <;> simp [b1, b2]
  by_cases c1 : 0 ≤ x.f2 <;> by_cases c2 : x.f2 ≤ 500 <;> simp [c1, c2]
theorem l2Good_l (xs : List S63) (hn : xs.length ≤ 4611686018427387904) : ∀ (d i : Nat), i + d = xs.length → Ev (fun k => spec_l2Good.l0 k xs (i : Int)) ((xs.drop i).all okJ && decide (xs.length ≤ 8)) := by
  intro d
  induction d with
  | zero =>
    intro i hi
    refine ev_succ ?_
    simp only [spec_l2Good.l0, if_neg (show ¬ (i : Int) < (xs.length : Int) by omega), List.drop_of_length_le (show xs.length ≤ i by omega)]
    refine ev_const ?_
    simp
    omega
  | succ d ih =>
    intro i hi
    refine ev_succ ?_
    have hx : i < xs.length := by omega
    have hih := ih (i + 1) (by omega)
    rw [List.drop_eq_getElem_cons hx, List.all_cons]
    simp only [spec_l2Good.l0, if_pos (show (i : Int) < (xs.length : Int) by omega), if_pos (show (0 : Int) ≤ (i : Int) by omega), wsucc i (by omega), rdI xs i hx, l2Job_eq, Option.bind_some]
    by_cases c : okJ xs[i] = true
    · simpa only [c, if_true, Bool.true_and] using hih
    · have c' : okJ xs[i] = false := by simpa using c
      simp only [c', Bool.false_and]
      exact ev_now _
theorem l2Good_ev (xs : List S63) (hn : xs.length ≤ 4611686018427387904) : Ev (fun k => spec_l2Good.f k xs) (goodB xs) := by
  unfold spec_l2Good.f goodB
  rw [Bool.and_comm]
  exact l2Good_l xs hn xs.length 0 (by omega)

theorem tdivN (n : Nat) : Int.tdiv (n : Int) 10 = ((n / 10 : Nat) : Int) := by
  rw [Int.tdiv_eq_ediv_of_nonneg (by omega)]; omega
theorem tmodN (n : Nat) : Int.tmod (n : Int) 10 = ((n % 10 : Nat) : Int) := by
  rw [Int.tmod_eq_emod_of_nonneg (by omega)]; omega
theorem wN (n : Nat) (h : n ≤ 4611686018427387904) : wrap64 (n : Int) = (n : Int) := w64 (by omega) (by omega)
theorem one_ext_size (n : Nat) (h : n < 10) : ((⟨#[48, 49, 50, 51, 52, 53, 54, 55, 56, 57]⟩ : ByteArray).extract n (n + 1)).size = 1 := by
  rw [digits_extract n h]; rfl
/-- A number that may be negative, as it is written. -/
def numS (n : Int) : ByteArray := if n < 0 then (⟨#[45]⟩ : ByteArray) ++ digS n.natAbs else digS n.natAbs
theorem numS_nat (n : Nat) : numS (n : Int) = digS n := by
  unfold numS
  rw [if_neg (by omega)]
  rfl
theorem digS_size' (n : Nat) (h : n ≤ 1152921504606846976) : (digS n).size ≤ 1152921504606846977 := by
  have := digS_size n
  omega

theorem numS_size (n : Int) (h0 : 0 ≤ n) (h1 : n ≤ 1000) : (numS n).size ≤ 1001 := by
  obtain ⟨m, rfl⟩ := Int.eq_ofNat_of_zero_le h0
  rw [numS_nat]
  have := digS_size m
  omega

theorem l1Num_nat : ∀ n : Nat, n ≤ 1152921504606846976 → Ev (fun k => spec_l1Num.f k (n : Int)) (digS n) := by
  intro n
  induction n using Nat.strongRecOn with
  | ind n ih =>
    intro hn
    refine ev_succ ?_
    by_cases h : n < 10
    · simp only [spec_l1Num.f, if_neg (show ¬ (n : Int) < 0 by omega), if_pos (show (n : Int) < 10 by omega), if_pos (show (0 : Int) ≤ (n : Int) by omega), wsucc n (by omega), if_pos (show (n : Int) ≤ ((n + 1 : Nat) : Int) by omega), if_pos (show ((n + 1 : Nat) : Int) ≤ 10 by omega), Int.toNat_natCast, digits_extract n h]
      rw [digS_lt h]
      exact ev_now _
    · have hd : n % 10 < 10 := by omega
      have hs := digS_size (n / 10)
      simp only [spec_l1Num.f, if_neg (show ¬ (n : Int) < 0 by omega), if_neg (show ¬ (n : Int) < 10 by omega), tdivN, tmodN, wN (n / 10) (by omega), wsucc (n % 10) (by omega), if_pos (show (0 : Int) ≤ ((n % 10 : Nat) : Int) by omega), if_pos (show ((n % 10 : Nat) : Int) ≤ ((n % 10 + 1 : Nat) : Int) by omega), if_pos (show ((n % 10 + 1 : Nat) : Int) ≤ 10 by omega), Int.toNat_natCast]
      refine ev_bind (ih (n / 10) (by omega) (by omega)) ?_
      simp only [if_pos (show (digS (n / 10)).size + ((⟨#[48, 49, 50, 51, 52, 53, 54, 55, 56, 57]⟩ : ByteArray).extract (n % 10) (n % 10 + 1)).size ≤ 9223372036854775807 by rw [one_ext_size _ hd]; omega)]
      simp only [digits_extract _ hd]
      rw [digS_ge h]
      exact ev_now _
theorem l1Num_ev (n : Int) (h0 : -1152921504606846976 ≤ n) (h1 : n ≤ 1152921504606846976) : Ev (fun k => spec_l1Num.f k n) (numS n) := by
  by_cases h : n < 0
  · unfold numS
    rw [if_pos h]
    refine ev_succ ?_
    have hw : wrap64 (-n) = ((n.natAbs : Nat) : Int) := by rw [w64 (by omega) (by omega)]; omega
    have hs := digS_size n.natAbs
    simp only [spec_l1Num.f, if_pos h, hw]
    refine ev_bind (l1Num_nat n.natAbs (by omega)) ?_
    simp only [if_pos (show 1 + (digS n.natAbs).size ≤ 9223372036854775807 by omega)]
    exact ev_now _
  · obtain ⟨m, rfl⟩ := Int.eq_ofNat_of_zero_le (show 0 ≤ n by omega)
    rw [numS_nat]
    exact l1Num_nat m (by omega)

def sumSz : List ByteArray → Nat
  | [] => 0
  | x :: t => x.size + sumSz t
theorem part_le : ∀ (l : List ByteArray) (x : ByteArray), x ∈ l → x.size ≤ sumSz l := by
  intro l
  induction l with
  | nil => intro x h; cases h
  | cons y t ih =>
    intro x h
    rw [List.mem_cons] at h
    rw [sumSz]
    rcases h with rfl | h
    · omega
    · have := ih x h; omega

theorem rdS (xs : List ByteArray) (i : Nat) (h : i < xs.length) : rdOf ByteArray.empty xs (i : Int) = xs[i] := by
  unfold rdOf
  rw [Int.toNat_natCast, List.getD_eq_getElem?_getD, List.getElem?_eq_getElem h]
  rfl

/-- What is joined onto a beginning. -/
def jn (sep acc : ByteArray) (l : List ByteArray) : ByteArray := l.foldl (fun o x => (o ++ sep) ++ x) acc
theorem jn_cons (sep acc x : ByteArray) (l : List ByteArray) : jn sep acc (x :: l) = jn sep ((acc ++ sep) ++ x) l := rfl
theorem jn_size (sep : ByteArray) (hs : sep.size = 1) : ∀ (l : List ByteArray) (acc : ByteArray), (jn sep acc l).size = acc.size + l.length + sumSz l := by
  intro l
  induction l with
  | nil => intro acc; rfl
  | cons x t ih =>
    intro acc
    rw [jn_cons, ih, ByteArray.size_append, ByteArray.size_append, hs, List.length_cons, sumSz]
    omega
theorem empty_append (x : ByteArray) : (⟨#[]⟩ : ByteArray) ++ x = x := L_inj (by rw [L_append]; rfl)

def slash : ByteArray := ⟨#[47]⟩
def space : ByteArray := ⟨#[32]⟩
def jobS (x : S63) : ByteArray := jn slash (numS x.f0) [numS x.f1, numS x.f2, numS x.f3]

theorem jobS_size (x : S63) (h : okJ x = true) : (jobS x).size ≤ 5000 := by
  simp only [okJ, Bool.and_eq_true, decide_eq_true_eq] at h
  obtain ⟨a1, a2, b1, b2, c1, c2, d1, d2⟩ := h
  have h0 := numS_size x.f0 (by omega) (by omega)
  have h1 := numS_size x.f1 (by omega) (by omega)
  have h2 := numS_size x.f2 (by omega) (by omega)
  have h3 := numS_size x.f3 (by omega) (by omega)
  unfold jobS
  rw [jn_size slash rfl]
  simp only [List.length_cons, List.length_nil, sumSz]
  omega
theorem sum_jobs : ∀ l : List S63, (∀ x ∈ l, okJ x = true) → sumSz (l.map jobS) ≤ 5000 * l.length := by
  intro l
  induction l with
  | nil => intro _; simp [sumSz]
  | cons x t ih =>
    intro h
    have h1 := jobS_size x (h x (by simp))
    have h2 := ih (fun y hy => h y (by simp [hy]))
    rw [List.map_cons, sumSz, List.length_cons]
    omega
theorem good_ok {xs : List S63} (h : goodB xs = true) : ∀ x ∈ xs, okJ x = true := by
  unfold goodB at h
  simp only [Bool.and_eq_true, List.all_eq_true] at h
  exact h.2
theorem spec_j1 (xs : List S63) (hg : goodB xs = true) (i : Nat) (hi : i < xs.length) (out : ByteArray) (ho : out.size ≤ 1000000) (r : ByteArray) (h : Ev (fun k => spec_l2Text.l0 k xs (out ++ jobS xs[i]) ((i + 1 : Nat) : Int)) r) : Ev (fun k => spec_l2Text.j1 k xs out (i : Int)) r := by
  have hl := good_len hg
  have hb := good_at hg i hi
  refine ev_succ ?_
  have h0 := numS_size xs[i].f0 (by omega) (by omega)
  have h1 := numS_size xs[i].f1 (by omega) (by omega)
  have h2 := numS_size xs[i].f2 (by omega) (by omega)
  have h3 := numS_size xs[i].f3 (by omega) (by omega)
  have hs : (⟨#[47]⟩ : ByteArray).size = 1 := rfl
  have e := fun (a b : ByteArray) => @ByteArray.size_append a b
  have he : out ++ jobS xs[i] = ((((((out ++ numS xs[i].f0) ++ (⟨#[47]⟩ : ByteArray)) ++ numS xs[i].f1) ++ (⟨#[47]⟩ : ByteArray)) ++ numS xs[i].f2) ++ (⟨#[47]⟩ : ByteArray)) ++ numS xs[i].f3 := by
    simp only [jobS, jn, List.foldl_cons, List.foldl_nil, slash, ByteArray.append_assoc]
  rw [he] at h
  simp only [spec_l2Text.j1, if_pos (show (i : Int) < (xs.length : Int) by omega), if_pos (show (0 : Int) ≤ (i : Int) by omega), rdI xs i hi, wsucc i (by omega)]
  refine ev_bind (l1Num_ev _ (by omega) (by omega)) ?_
  simp only [if_pos (show out.size + (numS xs[i].f0).size ≤ 9223372036854775807 by omega), if_pos (show (out ++ numS xs[i].f0).size + 1 ≤ 9223372036854775807 by rw [e]; omega)]
  refine ev_bind (l1Num_ev _ (by omega) (by omega)) ?_
  simp only [if_pos (show ((out ++ numS xs[i].f0) ++ (⟨#[47]⟩ : ByteArray)).size + (numS xs[i].f1).size ≤ 9223372036854775807 by rw [e, e, hs]; omega), if_pos (show (((out ++ numS xs[i].f0) ++ (⟨#[47]⟩ : ByteArray)) ++ numS xs[i].f1).size + 1 ≤ 9223372036854775807 by rw [e, e, e, hs]; omega)]
  refine ev_bind (l1Num_ev _ (by omega) (by omega)) ?_
  simp only [if_pos (show ((((out ++ numS xs[i].f0) ++ (⟨#[47]⟩ : ByteArray)) ++ numS xs[i].f1) ++ (⟨#[47]⟩ : ByteArray)).size + (numS xs[i].f2).size ≤ 9223372036854775807 by rw [e, e, e, e, hs]; omega), if_pos (show (((((out ++ numS xs[i].f0) ++ (⟨#[47]⟩ : ByteArray)) ++ numS xs[i].f1) ++ (⟨#[47]⟩ : ByteArray)) ++ numS xs[i].f2).size + 1 ≤ 9223372036854775807 by rw [e, e, e, e, e, hs]; omega)]
  refine ev_bind (l1Num_ev _ (by omega) (by omega)) ?_
  simp only [if_pos (show ((((((out ++ numS xs[i].f0) ++ (⟨#[47]⟩ : ByteArray)) ++ numS xs[i].f1) ++ (⟨#[47]⟩ : ByteArray)) ++ numS xs[i].f2) ++ (⟨#[47]⟩ : ByteArray)).size + (numS xs[i].f3).size ≤ 9223372036854775807 by rw [e, e, e, e, e, e, hs]; omega)]
  exact h
theorem spec_tailT (xs : List S63) (hg : goodB xs = true) : ∀ (d i : Nat) (out : ByteArray), i + d = xs.length → 0 < i → out.size ≤ 100000 * i → Ev (fun k => spec_l2Text.l0 k xs out (i : Int)) (jn space out ((xs.drop i).map jobS)) := by
  have hl := good_len hg
  intro d
  induction d with
  | zero =>
    intro i out hi h0 ho
    refine ev_succ ?_
    simp only [spec_l2Text.l0, if_neg (show ¬ (i : Int) < (xs.length : Int) by omega), if_neg (show ¬ (xs.length : Int) = 0 by omega), List.drop_of_length_le (show xs.length ≤ i by omega)]
    exact ev_now _
  | succ d ih =>
    intro i out hi h0 ho
    refine ev_succ ?_
    have hil : i < xs.length := by omega
    have hz := jobS_size xs[i] (good_ok hg _ (List.getElem_mem hil))
    have e1 : (out ++ (⟨#[32]⟩ : ByteArray)).size = out.size + 1 := by rw [ByteArray.size_append]; rfl
    have e2 : ((out ++ (⟨#[32]⟩ : ByteArray)) ++ jobS xs[i]).size = out.size + 1 + (jobS xs[i]).size := by rw [ByteArray.size_append, e1]
    rw [List.drop_eq_getElem_cons hil, List.map_cons, jn_cons]
    simp only [spec_l2Text.l0, if_pos (show (i : Int) < (xs.length : Int) by omega), if_pos (show (i : Int) > 0 by omega), if_pos (show out.size + 1 ≤ 9223372036854775807 by omega)]
    exact spec_j1 xs hg i hil _ (by omega) _ (ih (i + 1) _ (by omega) (by omega) (by omega))
/-- The text of a list of jobs that has some. -/
def textS : List S63 → ByteArray
  | [] => (⟨#[110, 111, 110, 101]⟩ : ByteArray)
  | x :: t => jn space (jobS x) (t.map jobS)
theorem l2Text_ev (l : List S63) (hg : goodB l = true) : Ev (fun k => spec_l2Text.f k l) (textS l) := by
  have hl := good_len hg
  cases hx : l with
  | nil =>
    unfold spec_l2Text.f
    refine ev_succ ?_
    simp only [spec_l2Text.l0, if_neg (show ¬ (0 : Int) < ((([] : List S63).length : Nat) : Int) by simp), if_pos (show ((([] : List S63).length : Nat) : Int) = 0 from rfl)]
    exact ev_now _
  | cons x t =>
    rw [← hx]
    have h0 : 0 < l.length := by rw [hx]; simp
    have hx0 : l[0] = x := by simp [hx]
    have hd : l.drop 1 = t := by rw [hx]; rfl
    have ht : textS l = jn space (jobS x) (t.map jobS) := by rw [hx]; rfl
    have hok := jobS_size x (good_ok hg x (by rw [hx]; simp))
    have h := spec_tailT l hg (l.length - 1) 1 (jobS x) (by omega) (by omega) (by omega)
    rw [hd] at h
    unfold spec_l2Text.f
    refine ev_succ ?_
    simp only [spec_l2Text.l0, if_pos (show (0 : Int) < (l.length : Int) by omega), if_neg (show ¬ (0 : Int) > 0 by omega)]
    rw [ht]
    refine spec_j1 l hg 0 h0 (⟨#[]⟩ : ByteArray) (by decide) _ ?_
    rw [hx0, empty_append]
    exact h

def isDig (c : UInt8) : Bool := decide (48 ≤ c.toNat) && decide (c.toNat ≤ 57)
def valF (n : Nat) (l : List UInt8) : Nat := l.foldl (fun n c => 10 * n + (c.toNat - 48)) n
theorem valF_cons (n : Nat) (c : UInt8) (l : List UInt8) : valF n (c :: l) = valF (10 * n + (c.toNat - 48)) l := by unfold valF; rw [List.foldl_cons]
theorem valF_snoc (n : Nat) (c : UInt8) (l : List UInt8) : valF n (l ++ [c]) = 10 * valF n l + (c.toNat - 48) := by simp [valF]
theorem byte_of (c : UInt8) (h : isDig c = true) : UInt8.ofNat (48 + (c.toNat - 48)) = c := by
  simp only [isDig, Bool.and_eq_true, decide_eq_true_eq] at h
  rw [show 48 + (c.toNat - 48) = c.toNat by omega]
  exact UInt8.ofNat_toNat
theorem snoc_ind {α : Type} {P : List α → Prop} (nil : P []) (snoc : ∀ t c, P t → P (t ++ [c])) (l : List α) : P l := by
  have key : ∀ (n : Nat) (l : List α), l.length = n → P l := by
    intro n
    induction n with
    | zero => intro l hl; rw [List.length_eq_zero_iff.1 hl]; exact nil
    | succ n ih =>
      intro l hl
      have hne : l ≠ [] := fun e => by rw [e] at hl; simp at hl
      rw [← List.dropLast_concat_getLast hne]
      exact snoc _ _ (ih _ (by rw [List.length_dropLast]; omega))
  exact key _ l rfl
/-- Written as a number is: a single digit, or more of which the first is not 0. -/
def canon (l : List UInt8) : Prop := l ≠ [] ∧ (l.length = 1 ∨ l.head? ≠ some 48)
theorem valF_pos (l : List UInt8) (hd : l.all isDig = true) (h : l ≠ []) (h0 : l.head? ≠ some 48) : 10 ^ (l.length - 1) ≤ valF 0 l := by
  induction l using snoc_ind with
  | nil => exact absurd rfl h
  | snoc t c ih =>
    rw [valF_snoc]
    by_cases ht : t = []
    · subst ht
      simp only [List.nil_append, List.all_cons, List.all_nil, Bool.and_true] at hd
      simp only [isDig, Bool.and_eq_true, decide_eq_true_eq] at hd
      have hne : c ≠ 48 := by simpa using h0
      have : c.toNat ≠ 48 := fun e => hne (UInt8.toNat_inj.1 (by rw [e]; rfl))
      simp [valF]
      omega
    · have hh : t.head? ≠ some 48 := by
        intro e
        apply h0
        rw [List.head?_append, e]
        rfl
      rw [List.all_append, Bool.and_eq_true] at hd
      have := ih hd.1 ht hh
      rw [List.length_append, List.length_singleton, Nat.add_sub_cancel]
      have hl : 0 < t.length := List.length_pos_iff.2 ht
      have hp : 10 ^ t.length = 10 ^ (t.length - 1) * 10 := by rw [← Nat.pow_succ]; congr 1; omega
      omega
theorem valF_lt (l : List UInt8) (hd : l.all isDig = true) : valF 0 l < 10 ^ l.length := by
  induction l using snoc_ind with
  | nil => simp [valF]
  | snoc t c ih =>
    rw [List.all_append, Bool.and_eq_true] at hd
    have h1 := ih hd.1
    have h2 : isDig c = true := by simpa using hd.2
    simp only [isDig, Bool.and_eq_true, decide_eq_true_eq] at h2
    rw [valF_snoc, List.length_append, List.length_singleton, Nat.pow_succ]
    omega
theorem dig_val (l : List UInt8) (hd : l.all isDig = true) (hc : canon l) : dig (valF 0 l) = l := by
  induction l using snoc_ind with
  | nil => exact absurd rfl hc.1
  | snoc t c ih =>
    rw [List.all_append, Bool.and_eq_true] at hd
    have h2 : isDig c = true := by simpa using hd.2
    have hb := byte_of c h2
    simp only [isDig, Bool.and_eq_true, decide_eq_true_eq] at h2
    rw [valF_snoc]
    by_cases ht : t = []
    · subst ht
      rw [show 10 * valF 0 [] + (c.toNat - 48) = c.toNat - 48 by simp [valF], dig_lt (by omega), hb]
      rfl
    · have hh : t.head? ≠ some 48 := by
        intro e
        rcases hc.2 with h1 | h1
        · have hl : 0 < t.length := List.length_pos_iff.2 ht
          simp at h1
          exact ht h1
        · apply h1
          rw [List.head?_append, e]
          rfl
      have hp := valF_pos t hd.1 ht hh
      have hp1 : 1 ≤ 10 ^ (t.length - 1) := Nat.one_le_pow _ _ (by omega)
      rw [dig_ge (by omega), show (10 * valF 0 t + (c.toNat - 48)) / 10 = valF 0 t by omega, show (10 * valF 0 t + (c.toNat - 48)) % 10 = c.toNat - 48 by omega, hb, ih hd.1 ⟨ht, Or.inr hh⟩]
theorem dig_ne (n : Nat) : dig n ≠ [] := by
  by_cases h : n < 10
  · rw [dig_lt h]; simp
  · rw [dig_ge h]; simp
theorem dig_length_ge (n : Nat) (h : ¬ n < 10) : 2 ≤ (dig n).length := by
  rw [dig_ge h, List.length_append, List.length_singleton]
  have := List.length_pos_iff.2 (dig_ne (n / 10))
  omega
theorem dig_canon (n : Nat) : canon (dig n) := by
  induction n using Nat.strongRecOn with
  | ind n ih =>
    by_cases h : n < 10
    · rw [dig_lt h]; exact ⟨by simp, Or.inl rfl⟩
    · rw [dig_ge h]
      obtain ⟨h1, h2⟩ := ih (n / 10) (by omega)
      refine ⟨by simp, Or.inr ?_⟩
      rw [List.head?_append]
      rcases h2 with h2 | h2
      · by_cases h10 : n / 10 < 10
        · rw [dig_lt h10]
          have : UInt8.ofNat (48 + n / 10) ≠ 48 := by
            intro e
            have := congrArg UInt8.toNat e
            rw [UInt8.toNat_ofNat'] at this
            have h48 : (48 : UInt8).toNat = 48 := rfl
            omega
          simpa using this
        · have := dig_length_ge (n / 10) h10
          omega
      · obtain ⟨x, hx⟩ : ∃ x, (dig (n / 10)).head? = some x := by
          cases hd : dig (n / 10) with
          | nil => exact absurd hd h1
          | cons a t => exact ⟨a, rfl⟩
        rw [hx]
        rw [hx] at h2
        simpa using h2

theorem dig_step (n : Nat) (c : UInt8) (h1 : ¬ ((c.toNat : Int) < 48)) (h2 : ¬ ((c.toNat : Int) > 57)) (hn : n ≤ 1000000000) : wrap64 ((wrap64 (10 * (n : Int))) + (((c.toNat : Int) - 48) % 256)) = ((10 * n + (c.toNat - 48) : Nat) : Int) := by
  rw [w64 (x := 10 * (n : Int)) (by omega) (by omega), w64 (by omega) (by omega)]
  omega
theorem isDig_iff (c : UInt8) : isDig c = true ↔ ¬ ((c.toNat : Int) < 48) ∧ ¬ ((c.toNat : Int) > 57) := by
  simp only [isDig, Bool.and_eq_true, decide_eq_true_eq]
  omega
theorem number_l (s : ByteArray) (hs : s.size ≤ 9) : ∀ (d i n : Nat), i + d = s.size → n < 10 ^ i → Ev (fun k => impl_number.l0 k s (n : Int) (i : Int)) (if ((L s).drop i).all isDig = true then ((valF n ((L s).drop i) : Nat), true) else (0, false)) := by
  have hL := L_size s
  intro d
  induction d with
  | zero =>
    intro i n hi hn
    refine ev_succ ?_
    simp only [impl_number.l0, if_neg (show ¬ (i : Int) < (s.size : Int) by omega), List.drop_of_length_le (show (L s).length ≤ i by omega)]
    exact ev_const (by simp [valF])
  | succ d ih =>
    intro i n hi hn
    refine ev_succ ?_
    have hx : i < (L s).length := by omega
    have hp : 10 ^ i ≤ 10 ^ 8 := Nat.pow_le_pow_right (by omega) (by omega)
    rw [List.drop_eq_getElem_cons hx, List.all_cons, valF_cons]
    simp only [impl_number.l0, if_pos (show (i : Int) < (s.size : Int) by omega), if_pos (show (0 : Int) ≤ (i : Int) by omega), wsucc i (by omega), bt_L s i hx]
    by_cases c : isDig (L s)[i] = true
    · have c' := (isDig_iff _).1 c
      have c'' := c
      simp only [isDig, Bool.and_eq_true, decide_eq_true_eq] at c''
      simp only [if_neg c'.1, if_neg c'.2, dig_step n _ c'.1 c'.2 (by omega), c, Bool.true_and]
      exact ih (i + 1) _ (by omega) (by rw [Nat.pow_succ]; omega)
    · have c' : ¬ (¬ (((L s)[i].toNat : Int) < 48) ∧ ¬ (((L s)[i].toNat : Int) > 57)) := fun h => c ((isDig_iff _).2 h)
      have cf : isDig (L s)[i] = false := by simpa using c
      simp only [cf, Bool.false_and, Bool.false_eq_true, if_false]
      by_cases h1 : ((L s)[i].toNat : Int) < 48
      · simp only [if_pos h1]; exact ev_now _
      · have h2 : ((L s)[i].toNat : Int) > 57 := by omega
        simp only [if_neg h1, if_pos h2]; exact ev_now _
instance (l : List UInt8) : Decidable (canon l) := by unfold canon; infer_instance
theorem number_ev (s : ByteArray) (hs : s.size ≤ 1048576) : Ev (fun k => impl_number.f k s) (if canon (L s) ∧ (L s).length ≤ 9 ∧ (L s).all isDig = true then ((valF 0 (L s) : Nat), true) else (0, false)) := by
  have hL := L_size s
  unfold impl_number.f
  have no : ∀ b : Bool, b = true → Ev (fun k => impl_number.j0 k s b) (0, false) := fun b hb => ev_succ (by subst hb; simp only [impl_number.j0, if_true]; exact ev_now _)
  by_cases h0 : (s.size : Int) = 0
  · simp only [if_pos h0]
    rw [if_neg (fun h => h.1.1 (List.length_eq_zero_iff.1 (by omega)))]
    exact no _ rfl
  simp only [if_neg h0]
  by_cases h9 : (s.size : Int) > 9
  · simp only [if_pos h9]
    rw [if_neg (fun h => by have := h.2.1; omega)]
    exact no _ rfl
  simp only [if_neg h9, if_pos (show (0 : Int) < (s.size : Int) by omega)]
  have hx : 0 < (L s).length := by omega
  have hb := bt_L s 0 hx
  have hhead : (L s).head? = some (L s)[0] := by rw [List.head?_eq_getElem?, List.getElem?_eq_getElem hx]
  have yes : ∀ b : Bool, b = false → Ev (fun k => impl_number.j0 k s b) (if (L s).all isDig = true then ((valF 0 (L s) : Nat), true) else (0, false)) := fun b hb => ev_succ (by
    subst hb
    simp only [impl_number.j0, Bool.false_eq_true, if_false]
    have := number_l s (by omega) s.size 0 0 (by omega) (by simp)
    simpa using this)
  rw [show bt s 0 = (((L s)[0]).toNat : Int) from hb]
  by_cases c : (L s)[0] = 48
  · have c' : (((L s)[0]).toNat : Int) = 48 := by rw [c]; rfl
    simp only [if_pos c']
    by_cases h1 : (s.size : Int) > 1
    · rw [if_neg (fun h => h.1.2.elim (fun e => by omega) (fun e => e (by rw [hhead, c])))]
      exact no _ (decide_eq_true h1)
    · have hc : canon (L s) := ⟨fun e => by rw [e] at hx; simp at hx, Or.inl (by omega)⟩
      have := yes _ (decide_eq_false h1)
      by_cases hd : (L s).all isDig = true
      · rw [if_pos ⟨hc, by omega, hd⟩]; rw [if_pos hd] at this; exact this
      · rw [if_neg (fun h => hd h.2.2)]; rw [if_neg hd] at this; exact this
  · have c' : ¬ (((L s)[0]).toNat : Int) = 48 := fun e => c (UInt8.toNat_inj.1 (by have h48 : (48 : UInt8).toNat = 48 := rfl; omega))
    simp only [if_neg c']
    have hc : canon (L s) := ⟨fun e => by rw [e] at hx; simp at hx, Or.inr (by rw [hhead]; simpa using c)⟩
    have := yes _ rfl
    by_cases hd : (L s).all isDig = true
    · rw [if_pos ⟨hc, by omega, hd⟩]; rw [if_pos hd] at this; exact this
    · rw [if_neg (fun h => hd h.2.2)]; rw [if_neg hd] at this; exact this

/-- What a string of digits t, of a whole string s with or without a sign, reads as. -/
def readOf (s : ByteArray) (neg : Bool) (v : Nat) : Int × Bool := if numS (if neg then -(v : Int) else (v : Int)) = s then ((if neg then -(v : Int) else (v : Int)), true) else (0, false)
theorem l1Read_l (s t : ByteArray) (neg : Bool) (ht : t.size ≤ 6) (hst : if neg = true then t.size < s.size else t.size = s.size) : ∀ (d i n : Nat), i + d = t.size → n < 10 ^ i → Ev (fun k => spec_l1Read.l0 k s t (n : Int) (i : Int)) (if ((L t).drop i).all isDig = true then readOf s neg (valF n ((L t).drop i)) else (0, false)) := by
  have hL := L_size t
  intro d
  induction d with
  | zero =>
    intro i n hi hn
    refine ev_succ ?_
    have hp : 10 ^ i ≤ 10 ^ 6 := Nat.pow_le_pow_right (by omega) (by omega)
    simp only [spec_l1Read.l0, if_neg (show ¬ (i : Int) < (t.size : Int) by omega), List.drop_of_length_le (show (L t).length ≤ i by omega), List.all_nil, if_true, valF, List.foldl_nil]
    unfold readOf
    cases neg
    · simp only [Bool.false_eq_true, if_false] at hst ⊢
      simp only [if_neg (show ¬ (t.size : Int) < (s.size : Int) by omega)]
      refine ev_bind (l1Num_ev n (by omega) (by omega)) ?_
      by_cases q : numS (n : Int) = s
      · simp only [if_pos ((toList_iff _ _).2 q), if_pos q]; exact ev_now _
      · simp only [if_neg (fun e => q ((toList_iff _ _).1 e)), if_neg q]; exact ev_now _
    · simp only [if_true] at hst ⊢
      simp only [if_pos (show (t.size : Int) < (s.size : Int) by omega), w64 (x := -(n : Int)) (by omega) (by omega)]
      refine ev_bind (l1Num_ev (-(n : Int)) (by omega) (by omega)) ?_
      by_cases q : numS (-(n : Int)) = s
      · simp only [if_pos ((toList_iff _ _).2 q), if_pos q]; exact ev_now _
      · simp only [if_neg (fun e => q ((toList_iff _ _).1 e)), if_neg q]; exact ev_now _
  | succ d ih =>
    intro i n hi hn
    refine ev_succ ?_
    have hx : i < (L t).length := by omega
    have hp : 10 ^ i ≤ 10 ^ 6 := Nat.pow_le_pow_right (by omega) (by omega)
    rw [List.drop_eq_getElem_cons hx, List.all_cons, valF_cons]
    simp only [spec_l1Read.l0, if_pos (show (i : Int) < (t.size : Int) by omega), if_pos (show (0 : Int) ≤ (i : Int) by omega), wsucc i (by omega), bt_L t i hx]
    by_cases c : isDig (L t)[i] = true
    · have c' := (isDig_iff _).1 c
      have c'' := c
      simp only [isDig, Bool.and_eq_true, decide_eq_true_eq] at c''
      simp only [if_neg c'.1, if_neg c'.2, dig_step n _ c'.1 c'.2 (by omega), c, Bool.true_and]
      exact ih (i + 1) _ (by omega) (by rw [Nat.pow_succ]; omega)
    · have c' : ¬ (¬ (((L t)[i].toNat : Int) < 48) ∧ ¬ (((L t)[i].toNat : Int) > 57)) := fun h => c ((isDig_iff _).2 h)
      have cf : isDig (L t)[i] = false := by simpa using c
      simp only [cf, Bool.false_and, Bool.false_eq_true, if_false]
      by_cases h1 : ((L t)[i].toNat : Int) < 48
      · simp only [if_pos h1]; exact ev_now _
      · have h2 : ((L t)[i].toNat : Int) > 57 := by omega
        simp only [if_neg h1, if_pos h2]; exact ev_now _
theorem l1Read_j1 (s t : ByteArray) (neg : Bool) (hst : if neg = true then t.size < s.size else t.size = s.size) : Ev (fun k => spec_l1Read.j1 k s t) (if 1 ≤ (L t).length ∧ (L t).length ≤ 6 ∧ (L t).all isDig = true then readOf s neg (valF 0 (L t)) else (0, false)) := by
  have hL := L_size t
  refine ev_succ ?_
  simp only [spec_l1Read.j1, l1In_eq, Option.bind_some]
  by_cases h : 1 ≤ t.size ∧ t.size ≤ 6
  · have e1 : decide ((1 : Int) ≤ (t.size : Int)) = true := decide_eq_true (by omega)
    have e2 : decide ((t.size : Int) ≤ 6) = true := decide_eq_true (by omega)
    simp only [e1, e2, Bool.and_self, if_true]
    have := l1Read_l s t neg h.2 hst t.size 0 0 (by omega) (by simp)
    simp only [List.drop_zero] at this
    by_cases hd : (L t).all isDig = true
    · rw [if_pos ⟨by omega, by omega, hd⟩]; rw [if_pos hd] at this; exact this
    · rw [if_neg (fun h => hd h.2.2)]; rw [if_neg hd] at this; exact this
  · have e : (decide ((1 : Int) ≤ (t.size : Int)) && decide ((t.size : Int) ≤ 6)) = false := by
      rw [Bool.and_eq_false_iff]
      by_cases h1 : 1 ≤ t.size
      · right; exact decide_eq_false (by omega)
      · left; exact decide_eq_false (by omega)
    simp only [e, Bool.false_eq_true, if_false]
    rw [if_neg (by omega)]
    exact ev_now _

/-- A string cut at a byte: the first part, and the others. -/
def splitL (b : UInt8) : List UInt8 → List UInt8 × List (List UInt8)
  | [] => ([], [])
  | c :: t => if c = b then ([], (splitL b t).1 :: (splitL b t).2) else (c :: (splitL b t).1, (splitL b t).2)
def mkS (l : List UInt8) : ByteArray := ⟨l.toArray⟩
theorem mkS_L (s : ByteArray) : mkS (L s) = s := rfl
theorem L_mkS (l : List UInt8) : L (mkS l) = l := rfl
theorem extract_mkS (s : ByteArray) (a b : Nat) : s.extract a b = mkS (((L s).drop a).take (b - a)) := by
  apply L_inj
  rw [L_mkS]
  exact Go.Lib.extract_data s a b
theorem byte_eq (c b : UInt8) : ((c.toNat : Int) = (b.toNat : Int)) ↔ c = b := by
  constructor
  · intro h
    exact UInt8.toNat_inj.1 (by omega)
  · intro h; rw [h]
/-- All parts, where a part has begun. -/
def partsS (b : UInt8) (pre l : List UInt8) : List ByteArray := mkS (pre ++ (splitL b l).1) :: (splitL b l).2.map mkS
theorem parts_hit (b : UInt8) (pre : List UInt8) (l : List UInt8) : partsS b pre (b :: l) = mkS pre :: partsS b [] l := by
  simp [partsS, splitL]
theorem parts_miss (b : UInt8) (pre : List UInt8) (c : UInt8) (l : List UInt8) (h : c ≠ b) : partsS b pre (c :: l) = partsS b (pre ++ [c]) l := by
  simp [partsS, splitL, h]
theorem parts_end (b : UInt8) (pre : List UInt8) : partsS b pre [] = [mkS pre] := by
  simp [partsS, splitL]

theorem implSplit_l (s : ByteArray) (b : UInt8) (hn : s.size ≤ 4398046511104) : ∀ (d i fr : Nat) (acc : List ByteArray), i + d = s.size → fr ≤ i → acc.length ≤ i → Ev (fun k => impl_split.l0 k s (b.toNat : Int) acc (fr : Int) (i : Int)) (acc ++ partsS b (((L s).drop fr).take (i - fr)) ((L s).drop i)) := by
  have hL := L_size s
  intro d
  induction d with
  | zero =>
    intro i fr acc hi hf ha
    refine ev_succ ?_
    simp only [impl_split.l0, if_neg (show ¬ (i : Int) < (s.size : Int) by omega), if_pos (show (0 : Int) ≤ (fr : Int) by omega), if_pos (show (fr : Int) ≤ (s.size : Int) by omega), if_pos (show acc.length < 8796093022208 by omega), Int.toNat_natCast, List.drop_of_length_le (show (L s).length ≤ i by omega), parts_end, extract_mkS]
    rw [show s.size - fr = i - fr by omega]
    exact ev_now _
  | succ d ih =>
    intro i fr acc hi hf ha
    refine ev_succ ?_
    have hx : i < (L s).length := by omega
    simp only [impl_split.l0, if_pos (show (i : Int) < (s.size : Int) by omega), if_pos (show (0 : Int) ≤ (i : Int) by omega), if_pos (show (0 : Int) ≤ (fr : Int) by omega), if_pos (show (fr : Int) ≤ (i : Int) by omega), if_pos (show (i : Int) ≤ (s.size : Int) by omega), if_pos (show acc.length < 8796093022208 by omega), Int.toNat_natCast, wsucc i (by omega), bt_L s i hx, extract_mkS]
    rw [List.drop_eq_getElem_cons hx]
    by_cases c : (L s)[i] = b
    · have c' : (((L s)[i]).toNat : Int) = (b.toNat : Int) := (byte_eq _ _).2 c
      simp only [if_pos c']
      rw [c, parts_hit]
      have := ih (i + 1) (i + 1) (acc ++ [mkS (((L s).drop fr).take (i - fr))]) (by omega) (by omega) (by simp; omega)
      rw [show i + 1 - (i + 1) = 0 by omega, List.take_zero, List.append_assoc, List.singleton_append] at this
      exact this
    · have c' : ¬ (((L s)[i]).toNat : Int) = (b.toNat : Int) := fun h => c ((byte_eq _ _).1 h)
      simp only [if_neg c']
      rw [parts_miss _ _ _ _ c]
      have := ih (i + 1) fr acc (by omega) (by omega) (by omega)
      have ht : ((L s).drop fr).take (i + 1 - fr) = ((L s).drop fr).take (i - fr) ++ [(L s)[i]] := by
        rw [show i + 1 - fr = (i - fr) + 1 by omega, List.take_succ_eq_append_getElem (by rw [List.length_drop]; omega)]
        congr 2
        rw [List.getElem_drop]
        congr 1
        omega
      rw [ht] at this
      exact this
theorem implSplit_ev (s : ByteArray) (b : UInt8) (hn : s.size ≤ 4398046511104) : Ev (fun k => impl_split.f k s (b.toNat : Int)) (partsS b [] (L s)) := by
  have := implSplit_l s b hn s.size 0 0 [] (by omega) (by omega) (by simp)
  unfold impl_split.f
  simpa using this

theorem l1Split_l (s : ByteArray) (b : UInt8) (hn : s.size ≤ 4398046511104) : ∀ (d i fr : Nat) (acc : List ByteArray), i + d = s.size → fr ≤ i → acc.length ≤ i → Ev (fun k => spec_l1Split.l0 k s (b.toNat : Int) acc (fr : Int) (i : Int)) (acc ++ partsS b (((L s).drop fr).take (i - fr)) ((L s).drop i)) := by
  have hL := L_size s
  intro d
  induction d with
  | zero =>
    intro i fr acc hi hf ha
    refine ev_succ ?_
    simp only [spec_l1Split.l0, if_neg (show ¬ (i : Int) < (s.size : Int) by omega), if_pos (show (0 : Int) ≤ (fr : Int) by omega), if_pos (show (fr : Int) ≤ (s.size : Int) by omega), if_pos (show acc.length < 8796093022208 by omega), Int.toNat_natCast, List.drop_of_length_le (show (L s).length ≤ i by omega), parts_end, extract_mkS]
    rw [show s.size - fr = i - fr by omega]
    exact ev_now _
  | succ d ih =>
    intro i fr acc hi hf ha
    refine ev_succ ?_
    have hx : i < (L s).length := by omega
    simp only [spec_l1Split.l0, if_pos (show (i : Int) < (s.size : Int) by omega), if_pos (show (0 : Int) ≤ (i : Int) by omega), if_pos (show (0 : Int) ≤ (fr : Int) by omega), if_pos (show (fr : Int) ≤ (i : Int) by omega), if_pos (show (i : Int) ≤ (s.size : Int) by omega), if_pos (show acc.length < 8796093022208 by omega), Int.toNat_natCast, wsucc i (by omega), bt_L s i hx, extract_mkS]
    rw [List.drop_eq_getElem_cons hx]
    by_cases c : (L s)[i] = b
    · have c' : (((L s)[i]).toNat : Int) = (b.toNat : Int) := (byte_eq _ _).2 c
      simp only [if_pos c']
      rw [c, parts_hit]
      have := ih (i + 1) (i + 1) (acc ++ [mkS (((L s).drop fr).take (i - fr))]) (by omega) (by omega) (by simp; omega)
      rw [show i + 1 - (i + 1) = 0 by omega, List.take_zero, List.append_assoc, List.singleton_append] at this
      exact this
    · have c' : ¬ (((L s)[i]).toNat : Int) = (b.toNat : Int) := fun h => c ((byte_eq _ _).1 h)
      simp only [if_neg c']
      rw [parts_miss _ _ _ _ c]
      have := ih (i + 1) fr acc (by omega) (by omega) (by omega)
      have ht : ((L s).drop fr).take (i + 1 - fr) = ((L s).drop fr).take (i - fr) ++ [(L s)[i]] := by
        rw [show i + 1 - fr = (i - fr) + 1 by omega, List.take_succ_eq_append_getElem (by rw [List.length_drop]; omega)]
        congr 2
        rw [List.getElem_drop]
        congr 1
        omega
      rw [ht] at this
      exact this
theorem l1Split_ev (s : ByteArray) (b : UInt8) (hn : s.size ≤ 4398046511104) : Ev (fun k => spec_l1Split.f k s (b.toNat : Int)) (partsS b [] (L s)) := by
  have := l1Split_l s b hn s.size 0 0 [] (by omega) (by omega) (by simp)
  unfold spec_l1Split.f
  simpa using this

theorem dig_isDig (n : Nat) : (dig n).all isDig = true := by
  induction n using Nat.strongRecOn with
  | _ n ih =>
    have hb : ∀ m : Nat, m < 10 → isDig (UInt8.ofNat (48 + m)) = true := by decide
    by_cases h : n < 10
    · rw [dig_lt h]; simp only [List.all_cons, List.all_nil, Bool.and_true]; exact hb n h
    · rw [dig_ge h, List.all_append, ih (n / 10) (by omega)]; simp only [List.all_cons, List.all_nil, Bool.and_true, Bool.true_and]; exact hb (n % 10) (by omega)
theorem val_dig (n : Nat) : valF 0 (dig n) = n := by
  induction n using Nat.strongRecOn with
  | _ n ih =>
    have hb : ∀ m : Nat, m < 10 → (UInt8.ofNat (48 + m)).toNat - 48 = m := by decide
    by_cases h : n < 10
    · rw [dig_lt h]; show 10 * 0 + _ = n; rw [hb n h]; omega
    · rw [dig_ge h, valF_snoc, ih (n / 10) (by omega), hb (n % 10) (by omega)]; omega
theorem dig_len : ∀ (k n : Nat), n < 10 ^ (k + 1) → (dig n).length ≤ k + 1 := by
  intro k
  induction k with
  | zero => intro n h; rw [dig_lt (by simpa using h)]; simp
  | succ k ih =>
    intro n h
    by_cases h' : n < 10
    · rw [dig_lt h']; simp
    · have := ih (n / 10) (by rw [Nat.pow_succ] at h; omega)
      rw [dig_ge h', List.length_append, List.length_singleton]; omega
theorem dig_pos (n : Nat) : 1 ≤ (dig n).length := by
  have := dig_ne n
  cases hd : dig n with
  | nil => exact absurd hd this
  | cons a b => simp
theorem L_digS (n : Nat) : L (digS n) = dig n := rfl
theorem l1Read_any (s : ByteArray) : ∃ r, Ev (fun k => spec_l1Read.f k s) r := by
  unfold spec_l1Read.f
  by_cases h : (s.size : Int) > 1
  · simp only [if_pos h, if_pos (show (0 : Int) < (s.size : Int) by omega)]
    cases (bt s 0 == 45)
    · exact ⟨_, ev_succ (by simp only [spec_l1Read.j0, Bool.false_eq_true, if_false]; exact l1Read_j1 s s false (by simp))⟩
    · refine ⟨_, ev_succ (by simp only [spec_l1Read.j0, if_true, if_pos (show (1 : Int) ≤ (s.size : Int) by omega)]; exact l1Read_j1 s (s.extract 1 s.size) true (by
        have e : s.extract 1 s.size = mkS (((L s).drop 1).take (s.size - 1)) := extract_mkS s 1 s.size
        have := L_size (s.extract 1 s.size)
        rw [e, L_mkS, List.length_take, List.length_drop, L_size] at this
        rw [if_pos rfl, e]
        omega))⟩
  · simp only [if_neg h]
    exact ⟨_, ev_succ (by simp only [spec_l1Read.j0, Bool.false_eq_true, if_false]; exact l1Read_j1 s s false (by simp))⟩
theorem l1Read_dig (v : Nat) (hv : v < 1000000) : Ev (fun k => spec_l1Read.f k (digS v)) ((v : Int), true) := by
  have hlen : (dig v).length ≤ 6 := dig_len 5 v (by simpa using hv)
  have hpos := dig_pos v
  have hsz : (digS v).size = (dig v).length := by rw [← L_size, L_digS]
  have hj := l1Read_j1 (digS v) (digS v) false (by simp)
  rw [L_digS, if_pos ⟨hpos, hlen, dig_isDig v⟩, val_dig] at hj
  have hr : readOf (digS v) false v = ((v : Int), true) := by
    unfold readOf
    simp only [Bool.false_eq_true, if_false]
    rw [if_pos (numS_nat v)]
  rw [hr] at hj
  have hj0 : Ev (fun k => spec_l1Read.j0 k (digS v) (digS v) false) ((v : Int), true) := ev_succ (by simp only [spec_l1Read.j0, Bool.false_eq_true, if_false]; exact hj)
  unfold spec_l1Read.f
  by_cases h : ((digS v).size : Int) > 1
  · have hb : (bt (digS v) 0 == 45) = false := by
      have hx : 0 < (L (digS v)).length := by rw [L_digS]; omega
      have e := bt_L (digS v) 0 hx
      have hd := (List.all_eq_true.mp (dig_isDig v)) ((L (digS v))[0]) (List.getElem_mem hx)
      unfold isDig at hd
      simp only [Bool.and_eq_true, decide_eq_true_eq] at hd
      rw [show (0 : Int) = ((0 : Nat) : Int) from rfl, e, beq_eq_false_iff_ne]
      omega
    simp only [if_pos h, if_pos (show (0 : Int) < ((digS v).size : Int) by omega), hb]
    exact hj0
  · simp only [if_neg h]
    exact hj0
/-! Joining and splitting lists of bytes. -/
def joinB (b : UInt8) : List UInt8 → List (List UInt8) → List UInt8
  | x, [] => x
  | x, y :: r => x ++ b :: joinB b y r
theorem split_join (b : UInt8) : ∀ (r : List (List UInt8)) (x : List UInt8), b ∉ x → (∀ y ∈ r, b ∉ y) → splitL b (joinB b x r) = (x, r) := by
  have base : ∀ (x t : List UInt8), b ∉ x → splitL b (x ++ b :: t) = (x, (splitL b t).1 :: (splitL b t).2) := by
    intro x
    induction x with
    | nil => intro t _; simp [splitL]
    | cons c x ih =>
      intro t h
      have hc : c ≠ b := fun e => h (by simp [e])
      have h' := ih t (fun e => h (by simp [e]))
      rw [List.cons_append, splitL, if_neg hc, h']
  have last : ∀ x : List UInt8, b ∉ x → splitL b x = (x, []) := by
    intro x
    induction x with
    | nil => intro _; rfl
    | cons c x ih =>
      intro h
      have hc : c ≠ b := fun e => h (by simp [e])
      rw [splitL, if_neg hc, ih (fun e => h (by simp [e]))]
  intro r
  induction r with
  | nil => intro x hx _; exact last x hx
  | cons y r ih =>
    intro x hx hr
    rw [joinB, base x _ hx, ih y (hr y (by simp)) (fun z hz => hr z (by simp [hz]))]
theorem join_split (b : UInt8) : ∀ l : List UInt8, joinB b (splitL b l).1 (splitL b l).2 = l := by
  intro l
  induction l with
  | nil => rfl
  | cons c l ih =>
    rw [splitL]
    by_cases h : c = b
    · rw [if_pos h]
      show ([] : List UInt8) ++ b :: joinB b (splitL b l).1 (splitL b l).2 = _
      rw [ih, h]; rfl
    · rw [if_neg h]
      show joinB b (c :: (splitL b l).1) (splitL b l).2 = _
      have : ∀ r : List (List UInt8), joinB b (c :: (splitL b l).1) r = c :: joinB b (splitL b l).1 r := by
        intro r
        cases r <;> rfl
      rw [this, ih]
theorem jn_L (b : UInt8) (sep : ByteArray) (hs : L sep = [b]) : ∀ (r : List ByteArray) (x : ByteArray), L (jn sep x r) = joinB b (L x) (r.map L) := by
  intro r
  induction r with
  | nil => intro x; rfl
  | cons y r ih =>
    intro x
    rw [jn_cons, ih]
    cases r with
    | nil => rw [L_append, L_append, hs]; simp [joinB]
    | cons z r => simp only [List.map_cons, joinB]; rw [L_append, L_append, hs]; simp
/-- The numbers of a job, as natural ones. -/
def natJ (x : S63) (a b c d : Nat) : Prop := x = ⟨(a : Int), (b : Int), (c : Int), (d : Int)⟩
theorem jobS_L (a b c d : Nat) : L (jobS ⟨(a : Int), (b : Int), (c : Int), (d : Int)⟩) = joinB 47 (dig a) [dig b, dig c, dig d] := by
  unfold jobS
  rw [jn_L 47 slash rfl]
  simp only [numS_nat, List.map_cons, List.map_nil, L_digS]
theorem dig_no (b : UInt8) (hb : isDig b = false) (n : Nat) : b ∉ dig n := by
  intro h
  have := (List.all_eq_true.mp (dig_isDig n)) b h
  rw [hb] at this; cases this
theorem job_no (b : UInt8) (hb : isDig b = false) (h47 : b ≠ 47) (n1 n2 n3 n4 : Nat) : b ∉ L (jobS ⟨(n1 : Int), (n2 : Int), (n3 : Int), (n4 : Int)⟩) := by
  rw [jobS_L]
  simp only [joinB, List.mem_append, List.mem_cons, not_or]
  exact ⟨dig_no b hb _, h47, dig_no b hb _, h47, dig_no b hb _, h47, dig_no b hb _⟩
/-- Whether a word is a job's text, and which. -/
def partW (w : ByteArray) : List (List UInt8) := (splitL 47 (L w)).1 :: (splitL 47 (L w)).2
def okN (l : List UInt8) : Prop := canon l ∧ l.length ≤ 9 ∧ l.all isDig = true
theorem okN_dig {l : List UInt8} (h : okN l) : l = dig (valF 0 l) := (dig_val l h.2.2 h.1).symm
theorem okN_of (v : Nat) (hv : v < 1000000000) : okN (dig v) := ⟨dig_canon v, dig_len 8 v (by simpa using hv), dig_isDig v⟩
def okW (w : ByteArray) (x : S63) : Prop := ∃ a b c d : List UInt8, partW w = [a, b, c, d] ∧ okN a ∧ okN b ∧ okN c ∧ okN d ∧ x = ⟨(valF 0 a : Nat), (valF 0 b : Nat), (valF 0 c : Nat), (valF 0 d : Nat)⟩
theorem okW_text {w : ByteArray} {x : S63} (h : okW w x) : jobS x = w := by
  obtain ⟨a, b, c, d, hp, ha, hb, hc, hd, rfl⟩ := h
  apply L_inj
  rw [jobS_L, ← okN_dig ha, ← okN_dig hb, ← okN_dig hc, ← okN_dig hd]
  have hj := join_split 47 (L w)
  have h1 : (splitL 47 (L w)).1 = a := (List.cons.inj hp).1
  have h2 : (splitL 47 (L w)).2 = [b, c, d] := (List.cons.inj hp).2
  rw [h1, h2] at hj
  exact hj
theorem okJ_nat {x : S63} (h : okJ x = true) : ∃ a b c d : Nat, a < 1000 ∧ b < 1000 ∧ c < 1000 ∧ d < 1000 ∧ x = ⟨(a : Int), (b : Int), (c : Int), (d : Int)⟩ := by
  simp only [okJ, Bool.and_eq_true, decide_eq_true_eq] at h
  obtain ⟨a1, a2, b1, b2, c1, c2, d1, d2⟩ := h
  obtain ⟨a, ha⟩ := Int.eq_ofNat_of_zero_le (show 0 ≤ x.f0 by omega)
  obtain ⟨b, hb⟩ := Int.eq_ofNat_of_zero_le b1
  obtain ⟨c, hc⟩ := Int.eq_ofNat_of_zero_le c1
  obtain ⟨d, hd⟩ := Int.eq_ofNat_of_zero_le d1
  refine ⟨a, b, c, d, by omega, by omega, by omega, by omega, ?_⟩
  rw [← ha, ← hb, ← hc, ← hd]
theorem okW_job {x : S63} (h : okJ x = true) : okW (jobS x) x := by
  obtain ⟨a, b, c, d, ha, hb, hc, hd, rfl⟩ := okJ_nat h
  have hs := split_join 47 [dig b, dig c, dig d] (dig a) (dig_no 47 (by decide) a) (by
    intro y hy
    simp only [List.mem_cons, List.not_mem_nil, or_false] at hy
    rcases hy with rfl | rfl | rfl <;> exact dig_no 47 (by decide) _)
  refine ⟨dig a, dig b, dig c, dig d, ?_, okN_of a (by omega), okN_of b (by omega), okN_of c (by omega), okN_of d (by omega), by simp only [val_dig]⟩
  unfold partW
  rw [jobS_L, hs]
theorem number_ok {w : ByteArray} (hw : w.size ≤ 1048576) : (okN (L w) → Ev (fun k => impl_number.f k w) ((valF 0 (L w) : Nat), true)) ∧ (¬ okN (L w) → Ev (fun k => impl_number.f k w) (0, false)) := by
  have h := number_ev w hw
  exact ⟨fun c => by
    have c' : canon (L w) ∧ (L w).length ≤ 9 ∧ (L w).all isDig = true := c
    rw [if_pos c'] at h; exact h, fun c => by
    have c' : ¬ (canon (L w) ∧ (L w).length ≤ 9 ∧ (L w).all isDig = true) := c
    rw [if_neg c'] at h; exact h⟩
theorem partsS_eq (b : UInt8) (s : ByteArray) : partsS b [] (L s) = ((splitL b (L s)).1 :: (splitL b (L s)).2).map mkS := by unfold partsS; simp
theorem split_size (b : UInt8) : ∀ l : List UInt8, (splitL b l).1.length ≤ l.length ∧ (∀ x ∈ (splitL b l).2, x.length ≤ l.length) ∧ (splitL b l).2.length ≤ l.length := by
  intro l
  induction l with
  | nil => simp [splitL]
  | cons c l ih =>
    obtain ⟨h1, h2, h3⟩ := ih
    rw [splitL]
    by_cases h : c = b
    · rw [if_pos h]
      refine ⟨by simp, fun x hx => ?_, by simp only [List.length_cons]; omega⟩
      rcases List.mem_cons.mp hx with rfl | hx
      · simp only [List.length_cons]; omega
      · have := h2 x hx; simp only [List.length_cons]; omega
    · rw [if_neg h]
      exact ⟨by simp only [List.length_cons]; omega, fun x hx => by have := h2 x hx; simp only [List.length_cons]; omega, by simp only [List.length_cons]; omega⟩
theorem mkS_size (l : List UInt8) : (mkS l).size = l.length := by rw [← L_size, L_mkS]
theorem word_step (w : ByteArray) (hw : w.size ≤ 1048576) (out : List S63) (ho : out.length ≤ 1048577) (ws : List ByteArray) (n i : Int) (R : List S63 × Bool)
    (hok : ∀ x, okW w x → Ev (fun k => impl_ParseJobs.l0 k (out ++ [x]) ws n (wrap64 (i + 1))) R) (hno : (¬ ∃ x, okW w x) → R = ([], false)) :
    Ev (fun k => (impl_split.f k w 47).bind fun t => (if (t.length : Int) = 4 then (impl_ParseJobs.l1 k out ws n i t (t.length : Int) 0 0 0 0 0) else (some (([] : List S63), false)))) R := by
  refine ev_bind (implSplit_ev w 47 (by omega)) ?_
  have hsz := split_size 47 (L w)
  rw [L_size] at hsz
  rw [partsS_eq]
  have hP : partW w = (splitL 47 (L w)).1 :: (splitL 47 (L w)).2 := rfl
  rw [← hP]
  have hall : ∀ x ∈ partW w, x.length ≤ 1048576 := by
    intro x hx
    rw [hP] at hx
    rcases List.mem_cons.mp hx with rfl | hx
    · omega
    · have := hsz.2.1 x hx; omega
  rw [List.length_map]
  by_cases h4 : (partW w).length = 4
  · simp only [if_pos (show ((partW w).length : Int) = 4 by omega)]
    match hq : partW w, h4 with
    | [a, b, c, d], _ =>
      rw [hq] at hall
      have la := hall a (by simp); have lb := hall b (by simp); have lc := hall c (by simp); have ld := hall d (by simp)
      have na := number_ok (w := mkS a) (by rw [mkS_size]; exact la)
      have nb := number_ok (w := mkS b) (by rw [mkS_size]; exact lb)
      have nc := number_ok (w := mkS c) (by rw [mkS_size]; exact lc)
      have nd := number_ok (w := mkS d) (by rw [mkS_size]; exact ld)
      rw [L_mkS] at na nb nc nd
      have r0 : rdOf ByteArray.empty ([a, b, c, d].map mkS) 0 = mkS a := rfl
      have r1 : rdOf ByteArray.empty ([a, b, c, d].map mkS) 1 = mkS b := rfl
      have r2 : rdOf ByteArray.empty ([a, b, c, d].map mkS) 2 = mkS c := rfl
      have r3 : rdOf ByteArray.empty ([a, b, c, d].map mkS) 3 = mkS d := rfl
      have hl : (([a, b, c, d].map mkS).length : Int) = 4 := rfl
      have hl' : (([a, b, c, d] : List (List UInt8)).length : Int) = 4 := rfl
      have w0 : wrap64 (0 + 1) = 1 := by unfold wrap64; omega
      have w1 : wrap64 (1 + 1) = 2 := by unfold wrap64; omega
      have w2 : wrap64 (2 + 1) = 3 := by unfold wrap64; omega
      have w3 : wrap64 (3 + 1) = 4 := by unfold wrap64; omega
      rw [hl']
      refine ev_succ ?_
      simp only [impl_ParseJobs.l1, hl, show (0 : Int) < 4 by decide, show (0 : Int) ≤ 0 by decide, if_true, r0]
      by_cases ca : okN a
      · refine ev_bind (na.1 ca) ?_
        simp only [if_true, w0]
        refine ev_succ ?_
        simp only [impl_ParseJobs.l1, hl, show (1 : Int) < 4 by decide, show (0 : Int) ≤ 1 by decide, show ¬ (1 : Int) = 0 by decide, if_true, if_false, r1]
        by_cases cb : okN b
        · refine ev_bind (nb.1 cb) ?_
          simp only [if_true, w1]
          refine ev_succ ?_
          simp only [impl_ParseJobs.l1, hl, show (2 : Int) < 4 by decide, show (0 : Int) ≤ 2 by decide, show ¬ (2 : Int) = 0 by decide, show ¬ (2 : Int) = 1 by decide, if_true, if_false, r2]
          by_cases cc : okN c
          · refine ev_bind (nc.1 cc) ?_
            simp only [if_true, w2]
            refine ev_succ ?_
            simp only [impl_ParseJobs.l1, hl, show (3 : Int) < 4 by decide, show (0 : Int) ≤ 3 by decide, show ¬ (3 : Int) = 0 by decide, show ¬ (3 : Int) = 1 by decide, show ¬ (3 : Int) = 2 by decide, if_true, if_false, r3]
            by_cases cd : okN d
            · refine ev_bind (nd.1 cd) ?_
              simp only [if_true, w3]
              refine ev_succ ?_
              simp only [impl_ParseJobs.l1, show ¬ (4 : Int) < 4 by decide, if_false, if_pos (show out.length < 4398046511104 by omega)]
              exact hok _ ⟨a, b, c, d, hq, ca, cb, cc, cd, rfl⟩
            · refine ev_bind (nd.2 cd) ?_
              simp only [Bool.false_eq_true, if_false]
              rw [hno (fun ⟨x, a', b', c', d', hp, _, _, _, h, _⟩ => cd (by rw [hq] at hp; simp only [List.cons.injEq, and_true] at hp; rw [hp.2.2.2]; exact h))]
              exact ev_now _
          · refine ev_bind (nc.2 cc) ?_
            simp only [Bool.false_eq_true, if_false]
            rw [hno (fun ⟨x, a', b', c', d', hp, _, _, h, _, _⟩ => cc (by rw [hq] at hp; simp only [List.cons.injEq, and_true] at hp; rw [hp.2.2.1]; exact h))]
            exact ev_now _
        · refine ev_bind (nb.2 cb) ?_
          simp only [Bool.false_eq_true, if_false]
          rw [hno (fun ⟨x, a', b', c', d', hp, _, h, _, _, _⟩ => cb (by rw [hq] at hp; simp only [List.cons.injEq, and_true] at hp; rw [hp.2.1]; exact h))]
          exact ev_now _
      · refine ev_bind (na.2 ca) ?_
        simp only [Bool.false_eq_true, if_false]
        rw [hno (fun ⟨x, a', b', c', d', hp, h, _, _, _, _⟩ => ca (by rw [hq] at hp; simp only [List.cons.injEq, and_true] at hp; rw [hp.1]; exact h))]
        exact ev_now _
  · simp only [if_neg (show ¬ ((partW w).length : Int) = 4 by omega)]
    rw [hno (fun ⟨x, a', b', c', d', hp, _⟩ => h4 (by rw [hp]; rfl))]
    exact ev_now _
/-- All words are jobs' texts. -/
def okWs : List ByteArray → List S63 → Prop
  | [], xs => xs = []
  | w :: ws, xs => ∃ x t, xs = x :: t ∧ okW w x ∧ okWs ws t
theorem impl_words_l (ws : List ByteArray) (hn : ws.length ≤ 1048577) (hw : ∀ w ∈ ws, w.size ≤ 1048576) (R : List S63 × Bool) :
    ∀ (d i : Nat) (out : List S63), i + d = ws.length → out.length = i → (∀ xs, okWs (ws.drop i) xs → R = if goodB (out ++ xs) = true then (out ++ xs, true) else ([], false)) → ((¬ ∃ xs, okWs (ws.drop i) xs) → R = ([], false)) →
      Ev (fun k => impl_ParseJobs.l0 k out ws (ws.length : Int) (i : Int)) R := by
  intro d
  induction d with
  | zero =>
    intro i out hi ho h1 _
    refine ev_succ ?_
    rw [List.drop_of_length_le (by omega)] at h1
    have := h1 [] rfl
    rw [List.append_nil] at this
    simp only [impl_ParseJobs.l0, if_neg (show ¬ (i : Int) < (ws.length : Int) by omega)]
    refine ev_bind (IsJobs_ev out (by omega)) ?_
    rw [this]
    cases goodB out
    · simp only [Bool.false_eq_true, if_false]; exact ev_now _
    · simp only [if_true]; exact ev_now _
  | succ d ih =>
    intro i out hi ho h1 h2
    have hx : i < ws.length := by omega
    rw [List.drop_eq_getElem_cons hx] at h1 h2
    refine ev_succ ?_
    simp only [impl_ParseJobs.l0, if_pos (show (i : Int) < (ws.length : Int) by omega), if_pos (show (0 : Int) ≤ (i : Int) by omega), rdS ws i hx]
    refine word_step ws[i] (hw _ (List.getElem_mem hx)) out (by omega) ws _ _ R (fun x hok => ?_) (fun hno => h2 (fun ⟨xs, x, t, _, hok, _⟩ => hno ⟨x, hok⟩))
    rw [wsucc i (by omega)]
    refine ih (i + 1) (out ++ [x]) (by omega) (by rw [List.length_append, List.length_singleton]; omega) (fun xs hxs => ?_) (fun hno => ?_)
    · have := h1 (x :: xs) ⟨x, xs, rfl, hok, hxs⟩
      rw [List.append_assoc]
      exact this
    · refine h2 (fun ⟨xs, x', t, _, _, ht⟩ => hno ⟨t, ht⟩)
theorem l2Read_any (w : ByteArray) (hw : w.size ≤ 1048576) : ∃ r, Ev (fun k => spec_l2Read.f k w) r := by
  unfold spec_l2Read.f
  have hs := l1Split_ev w 47 (by omega)
  by_cases h : ((partsS 47 [] (L w)).length : Int) = 4
  · obtain ⟨a, ha⟩ := l1Read_any (rdOf ByteArray.empty (partsS 47 [] (L w)) 0)
    obtain ⟨b, hb⟩ := l1Read_any (rdOf ByteArray.empty (partsS 47 [] (L w)) 1)
    obtain ⟨c, hc⟩ := l1Read_any (rdOf ByteArray.empty (partsS 47 [] (L w)) 2)
    obtain ⟨d, hd⟩ := l1Read_any (rdOf ByteArray.empty (partsS 47 [] (L w)) 3)
    refine ⟨if a.2 = true then if b.2 = true then if c.2 = true then (a.1, b.1, c.1, d.1, d.2) else (a.1, b.1, c.1, d.1, false) else (a.1, b.1, c.1, d.1, false) else (a.1, b.1, c.1, d.1, false), ev_bind hs ?_⟩
    simp only [h, if_true, show (0 : Int) < 4 by decide, show (1 : Int) < 4 by decide, show (2 : Int) < 4 by decide, show (3 : Int) < 4 by decide]
    refine ev_bind ha (ev_bind hb (ev_bind hc (ev_bind hd ?_)))
    by_cases c1 : a.2 = true
    · by_cases c2 : b.2 = true
      · by_cases c3 : c.2 = true
        · simp only [if_pos c1, if_pos c2, if_pos c3]; exact ev_now _
        · simp only [if_pos c1, if_pos c2, if_neg c3]; exact ev_now _
      · simp only [if_pos c1, if_neg c2]; exact ev_now _
    · simp only [if_neg c1]; exact ev_now _
  · exact ⟨_, ev_bind hs (by simp only [if_neg h]; exact ev_now _)⟩
theorem l2Read_job {x : S63} (h : okJ x = true) (hsz : (jobS x).size ≤ 1048576) : Ev (fun k => spec_l2Read.f k (jobS x)) (x.f0, x.f1, x.f2, x.f3, true) := by
  obtain ⟨a, b, c, d, ha, hb, hc, hd, rfl⟩ := okJ_nat h
  have hs := split_join 47 [dig b, dig c, dig d] (dig a) (dig_no 47 (by decide) a) (by
    intro y hy
    simp only [List.mem_cons, List.not_mem_nil, or_false] at hy
    rcases hy with rfl | rfl | rfl <;> exact dig_no 47 (by decide) _)
  unfold spec_l2Read.f
  refine ev_bind (l1Split_ev _ 47 (by omega)) ?_
  have hp : partsS 47 [] (L (jobS ⟨(a : Int), (b : Int), (c : Int), (d : Int)⟩)) = [digS a, digS b, digS c, digS d] := by
    rw [partsS_eq, jobS_L, hs]; rfl
  rw [hp]
  simp only [show (([digS a, digS b, digS c, digS d].length : Nat) : Int) = 4 from rfl, if_true, show (0 : Int) < 4 by decide, show (1 : Int) < 4 by decide, show (2 : Int) < 4 by decide, show (3 : Int) < 4 by decide]
  refine ev_bind (l1Read_dig a (by omega)) (ev_bind (l1Read_dig b (by omega)) (ev_bind (l1Read_dig c (by omega)) (ev_bind (l1Read_dig d (by omega)) ?_)))
  simp only [if_true]
  exact ev_now _
/-- What the reading comes to: nothing, or jobs whose text is the string. -/
def fine (s : ByteArray) (r : List S63 × Bool) : Prop := r = ([], false) ∨ ∃ xs, r = (xs, true) ∧ goodB xs = true ∧ xs ≠ [] ∧ textS xs = s
theorem spec_end (s : ByteArray) (ws : List ByteArray) (i : Int) (out : List S63) (hne : out ≠ []) (ho : out.length ≤ 100) : ∃ r, Ev (fun k => spec_ParseJobs.j1 k s out ws i false) r ∧ fine s r := by
  have hg := l2Good_ev out (by omega)
  cases hgd : goodB out
  · rw [hgd] at hg
    exact ⟨([], false), ev_succ (by simp only [spec_ParseJobs.j1, Bool.false_eq_true, if_false]; exact ev_bind hg (by simp only [Bool.false_eq_true, if_false]; exact ev_now _)), Or.inl rfl⟩
  · rw [hgd] at hg
    have ht := l2Text_ev out hgd
    by_cases he : textS out = s
    · exact ⟨(out, true), ev_succ (by simp only [spec_ParseJobs.j1, Bool.false_eq_true, if_false]; exact ev_bind hg (by simp only [if_true]; exact ev_bind ht (by simp only [toList_iff, if_pos he]; exact ev_now _))), Or.inr ⟨out, rfl, hgd, hne, he⟩⟩
    · exact ⟨([], false), ev_succ (by simp only [spec_ParseJobs.j1, Bool.false_eq_true, if_false]; exact ev_bind hg (by simp only [if_true]; exact ev_bind ht (by simp only [toList_iff, if_neg he]; exact ev_now _))), Or.inl rfl⟩
theorem spec_any (s : ByteArray) (ws : List ByteArray) (hn : ws.length ≤ 1048577) (h0 : 0 < ws.length) (hw : ∀ w ∈ ws, w.size ≤ 1048576) : ∀ (d i : Nat) (out : List S63), i + d = 9 → out.length = i → i ≤ ws.length → ∃ r, Ev (fun k => spec_ParseJobs.l0 k s out ws (i : Int)) r ∧ fine s r := by
  intro d
  induction d with
  | zero =>
    intro i out hi ho hle
    obtain ⟨r, h1, h2⟩ := spec_end s ws (i : Int) out (by intro h; rw [h] at ho; simp at ho; omega) (by omega)
    refine ⟨r, ev_succ ?_, h2⟩
    by_cases hlt : (i : Int) < (ws.length : Int)
    · simp only [spec_ParseJobs.l0, if_pos hlt, decide_eq_false (show ¬ (i : Int) ≤ 8 by omega)]; exact h1
    · simp only [spec_ParseJobs.l0, if_neg hlt]; exact h1
  | succ d ih =>
    intro i out hi ho hle
    by_cases hlt : i < ws.length
    · obtain ⟨q, hq⟩ := l2Read_any ws[i] (hw _ (List.getElem_mem hlt))
      by_cases hb : q.2.2.2.2 = true
      · obtain ⟨r, h1, h2⟩ := ih (i + 1) (out ++ [⟨q.1, q.2.1, q.2.2.1, q.2.2.2.1⟩]) (by omega) (by rw [List.length_append, List.length_singleton]; omega) (by omega)
        refine ⟨r, ev_succ ?_, h2⟩
        simp only [spec_ParseJobs.l0, if_pos (show (i : Int) < (ws.length : Int) by omega), decide_eq_true (show (i : Int) ≤ 8 by omega)]
        refine ev_succ ?_
        simp only [spec_ParseJobs.j1, if_true, if_pos (show (i : Int) < (ws.length : Int) by omega), if_pos (show (0 : Int) ≤ (i : Int) by omega), rdS ws i hlt]
        refine ev_bind hq ?_
        simp only [hb, if_true, if_pos (show out.length < 4398046511104 by omega), wsucc i (by omega)]
        exact h1
      · refine ⟨([], false), ev_succ ?_, Or.inl rfl⟩
        simp only [spec_ParseJobs.l0, if_pos (show (i : Int) < (ws.length : Int) by omega), decide_eq_true (show (i : Int) ≤ 8 by omega)]
        refine ev_succ ?_
        simp only [spec_ParseJobs.j1, if_true, if_pos (show (i : Int) < (ws.length : Int) by omega), if_pos (show (0 : Int) ≤ (i : Int) by omega), rdS ws i hlt]
        refine ev_bind hq ?_
        simp only [if_neg hb]
        exact ev_now _
    · obtain ⟨r, h1, h2⟩ := spec_end s ws (i : Int) out (by intro h; rw [h] at ho; simp at ho; omega) (by omega)
      refine ⟨r, ev_succ ?_, h2⟩
      simp only [spec_ParseJobs.l0, if_neg (show ¬ (i : Int) < (ws.length : Int) by omega)]; exact h1
theorem spec_jobs (s : ByteArray) (xs : List S63) (hg : goodB xs = true) (ht : textS xs = s) (hne : xs ≠ []) (hsz : ∀ x ∈ xs, (jobS x).size ≤ 1048576) : ∀ (d i : Nat), i + d = xs.length → Ev (fun k => spec_ParseJobs.l0 k s (xs.take i) (xs.map jobS) (i : Int)) (xs, true) := by
  have hl := good_len hg
  intro d
  induction d with
  | zero =>
    intro i hi
    refine ev_succ ?_
    rw [List.take_of_length_le (by omega)]
    simp only [spec_ParseJobs.l0, List.length_map, if_neg (show ¬ (i : Int) < (xs.length : Int) by omega)]
    refine ev_succ ?_
    have h1 := l2Good_ev xs (by omega)
    rw [hg] at h1
    simp only [spec_ParseJobs.j1, Bool.false_eq_true, if_false]
    refine ev_bind h1 ?_
    simp only [if_true]
    refine ev_bind (l2Text_ev xs hg) ?_
    simp only [toList_iff, if_pos ht]
    exact ev_now _
  | succ d ih =>
    intro i hi
    have hx : i < xs.length := by omega
    have hok := good_ok hg xs[i] (List.getElem_mem hx)
    refine ev_succ ?_
    simp only [spec_ParseJobs.l0, List.length_map, if_pos (show (i : Int) < (xs.length : Int) by omega), decide_eq_true (show (i : Int) ≤ 8 by omega)]
    refine ev_succ ?_
    simp only [spec_ParseJobs.j1, List.length_map, if_true, if_pos (show (i : Int) < (xs.length : Int) by omega), if_pos (show (0 : Int) ≤ (i : Int) by omega), rdS (xs.map jobS) i (by rw [List.length_map]; exact hx), List.getElem_map]
    refine ev_bind (l2Read_job hok (hsz _ (List.getElem_mem hx))) ?_
    have hle : (xs.take i).length ≤ 8 := by rw [List.length_take]; omega
    simp only [if_true, if_pos (show (xs.take i).length < 4398046511104 by omega), wsucc i (by omega)]
    have h := ih (i + 1) (by omega)
    rw [List.take_succ_eq_append_getElem hx] at h
    exact h
theorem okWs_text : ∀ (ws : List ByteArray) (xs : List S63), okWs ws xs → xs.map jobS = ws := by
  intro ws
  induction ws with
  | nil => intro xs h; rw [show xs = [] from h]; rfl
  | cons w ws ih =>
    rintro xs ⟨x, t, rfl, h1, h2⟩
    rw [List.map_cons, okW_text h1, ih t h2]
theorem okWs_jobs : ∀ xs : List S63, (∀ x ∈ xs, okJ x = true) → okWs (xs.map jobS) xs := by
  intro xs
  induction xs with
  | nil => intro _; rfl
  | cons x xs ih => intro h; exact ⟨x, xs, rfl, okW_job (h x (by simp)), ih (fun y hy => h y (by simp [hy]))⟩
theorem text_words (xs : List S63) (hg : goodB xs = true) (hne : xs ≠ []) : partsS 32 [] (L (textS xs)) = xs.map jobS := by
  match xs, hne with
  | x :: t, _ =>
    have hno : ∀ y ∈ x :: t, (32 : UInt8) ∉ L (jobS y) := by
      intro y hy
      obtain ⟨a, b, c, d, _, _, _, _, rfl⟩ := okJ_nat (good_ok hg y hy)
      exact job_no 32 (by decide) (by decide) a b c d
    rw [partsS_eq]
    show ((splitL 32 (L (jn space (jobS x) (t.map jobS)))).1 :: (splitL 32 (L (jn space (jobS x) (t.map jobS)))).2).map mkS = _
    rw [jn_L 32 space rfl, split_join 32 _ _ (hno x (by simp)) (by
      intro y hy
      simp only [List.mem_map] at hy
      obtain ⟨z, ⟨w, hw, rfl⟩, rfl⟩ := hy
      exact hno w (by simp [hw]))]
    simp only [List.map_cons, List.map_map]
    rfl
theorem words_text (s : ByteArray) (xs : List S63) (hne : xs ≠ []) (h : xs.map jobS = partsS 32 [] (L s)) : textS xs = s := by
  match xs, hne with
  | x :: t, _ =>
    apply L_inj
    show L (jn space (jobS x) (t.map jobS)) = L s
    rw [partsS_eq, List.map_cons, List.map_cons] at h
    have h1 := congrArg L (List.cons.inj h).1
    have h2 := congrArg (List.map L) (List.cons.inj h).2
    rw [L_mkS] at h1
    have e : ∀ l : List (List UInt8), (l.map mkS).map L = l := fun l => by rw [List.map_map, show L ∘ mkS = id from funext (fun l => L_mkS l), List.map_id]
    rw [e] at h2
    rw [jn_L 32 space rfl, h1, h2]
    exact join_split 32 (L s)
theorem core (s : ByteArray) (hs : s.size ≤ 1048576) : ∃ (r : List S63) (ok : Bool), r.length ≤ 1048576 ∧ Ev (fun k => spec_ParseJobs.f k s) (r, ok) ∧ Ev (fun k => impl_ParseJobs.f k s) (r, ok) := by
  unfold spec_ParseJobs.f impl_ParseJobs.f
  simp only [Option.bind_some]
  by_cases hnone : s.toList = ([110, 111, 110, 101] : List UInt8)
  · simp only [if_pos hnone]
    exact ⟨[], true, by simp, ev_now _, ev_now _⟩
  simp only [if_neg hnone]
  have hsz := split_size 32 (L s)
  rw [L_size] at hsz
  have hws : ∀ w ∈ partsS 32 [] (L s), w.size ≤ 1048576 := by
    intro w hw
    rw [partsS_eq] at hw
    obtain ⟨l, hl, rfl⟩ := List.mem_map.mp hw
    rw [mkS_size]
    rcases List.mem_cons.mp hl with rfl | hl
    · omega
    · have := hsz.2.1 l hl; omega
  have hlen : (partsS 32 [] (L s)).length ≤ 1048577 ∧ 0 < (partsS 32 [] (L s)).length := by
    rw [partsS_eq, List.length_map, List.length_cons]; omega
  have h1 := l1Split_ev s 32 (by omega)
  have h2 := implSplit_ev s 32 (by omega)
  by_cases hg : ∃ xs, okWs (partsS 32 [] (L s)) xs ∧ goodB xs = true
  · obtain ⟨xs, hok, hgd⟩ := hg
    have hmap := okWs_text _ _ hok
    have hne : xs ≠ [] := by rintro rfl; rw [← hmap] at hlen; simp at hlen
    have htext := words_text s xs hne hmap
    have hl := good_len hgd
    refine ⟨xs, true, by omega, ev_bind h1 ?_, ev_bind h2 ?_⟩
    · rw [← hmap]
      exact spec_jobs s xs hgd htext hne (fun x hx => hws _ (by rw [← hmap]; exact List.mem_map_of_mem hx)) xs.length 0 (Nat.zero_add _)
    · refine impl_words_l _ hlen.1 hws _ _ 0 [] (Nat.zero_add _) rfl (fun ys hys => ?_) (fun hno => absurd ⟨xs, by rw [List.drop_zero]; exact hok⟩ hno)
      rw [List.drop_zero] at hys
      have hm2 := okWs_text _ _ hys
      have : ys = xs := by
        have aux : ∀ (ws : List ByteArray) (a b : List S63), okWs ws a → okWs ws b → a = b := by
          intro ws
          induction ws with
          | nil => intro a b ha hb; rw [show a = [] from ha, show b = [] from hb]
          | cons w ws ih =>
            rintro a b ⟨x, t, rfl, hx, ht⟩ ⟨y, u, rfl, hy, hu⟩
            rw [ih t u ht hu]
            obtain ⟨a1, b1, c1, d1, e1, _, _, _, _, rfl⟩ := hx
            obtain ⟨a2, b2, c2, d2, e2, _, _, _, _, rfl⟩ := hy
            rw [e1] at e2
            simp only [List.cons.injEq, and_true] at e2
            obtain ⟨rfl, rfl, rfl, rfl⟩ := e2
            rfl
        exact aux _ _ _ hys hok
      rw [this, List.nil_append, if_pos hgd]
  · obtain ⟨r, e1, e2⟩ := spec_any s (partsS 32 [] (L s)) hlen.1 hlen.2 hws 9 0 [] (by omega) rfl (by omega)
    have hr : r = ([], false) := by
      rcases e2 with e2 | ⟨xs, rfl, hgd, hne, ht⟩
      · exact e2
      · exfalso
        refine hg ⟨xs, ?_, hgd⟩
        rw [← ht, text_words xs hgd hne]
        exact okWs_jobs xs (good_ok hgd)
    subst hr
    refine ⟨[], false, by simp, ev_bind h1 e1, ev_bind h2 ?_⟩
    refine impl_words_l _ hlen.1 hws _ _ 0 [] (Nat.zero_add _) rfl (fun ys hys => ?_) (fun _ => rfl)
    rw [List.drop_zero] at hys
    rw [List.nil_append, if_neg (fun h => hg ⟨ys, hys, h⟩)]

theorem eqJobS_l (xs : List S63) (hn : xs.length ≤ 4611686018427387904) : ∀ (d i : Nat), i + d = xs.length → Ev (fun k => laws_eqJobS.l0 k xs xs (i : Int)) true := by
  intro d
  induction d with
  | zero =>
    intro i hi
    refine ev_succ ?_
    simp only [laws_eqJobS.l0, if_neg (show ¬ (i : Int) < (xs.length : Int) by omega)]
    exact ev_now _
  | succ d ih =>
    intro i hi
    refine ev_succ ?_
    simp only [laws_eqJobS.l0, laws_eqJob.f, if_true, Option.bind_some, if_pos (show (i : Int) < (xs.length : Int) by omega), if_pos (show (0 : Int) ≤ (i : Int) by omega), wsucc i (by omega)]
    exact ih (i + 1) (by omega)
theorem eqJobS_ev (xs : List S63) (hn : xs.length ≤ 4611686018427387904) : Ev (fun k => laws_eqJobS.f k xs xs) true := by
  unfold laws_eqJobS.f
  simp only [if_true]
  exact eqJobS_l xs hn xs.length 0 (by omega)

theorem rdI_set (xs : List S63) (i : Nat) (h : i < xs.length) (v : S63) : rd_T63 (xs.set i v) (i : Int) = v := by
  rw [rdI _ i (by rw [List.length_set]; exact h)]
  simp
theorem markJobS_l : ∀ (d i m : Nat) (xs : List S63), i + d = xs.length → m + 4 * d ≤ 1152921504606846976 → xs.length ≤ 1152921504606846976 →
    ∃ (q : Nat) (ys : List S63), Ev (fun k => laws_markJobS.l0 k xs (m : Int) (i : Int)) ((q : Int), ys) ∧ ys.length = xs.length ∧ ys.take i = xs.take i ∧ m ≤ q ∧ q ≤ m + 4 * d ∧ Ev (fun k => laws_heldJobS.l0 k ys (m : Int) (i : Int)) (q : Int) := by
  intro d
  induction d with
  | zero =>
    intro i m xs hi hmd hxl
    refine ⟨m, xs, ev_succ ?_, rfl, rfl, Nat.le_refl _, by omega, ev_succ ?_⟩
    · simp only [laws_markJobS.l0, if_neg (show ¬ (i : Int) < (xs.length : Int) by omega)]
      exact ev_now _
    · simp only [laws_heldJobS.l0, if_neg (show ¬ (i : Int) < (xs.length : Int) by omega)]
      exact ev_now _
  | succ d ih =>
    intro i m xs hi hmd hxl
    obtain ⟨q, ys, h1, h2, h3, h4, h4', h5⟩ := ih (i + 1) (m + 4) (xs.set i ⟨(m : Int), ((m + 1 : Nat) : Int), ((m + 2 : Nat) : Int), ((m + 3 : Nat) : Int)⟩) (by rw [List.length_set]; omega) (by omega) (by rw [List.length_set]; omega)
    rw [List.length_set] at h2
    rw [take_set_succ xs i _ (by omega)] at h3
    have hy : ys[i]'(by omega) = ⟨(m : Int), ((m + 1 : Nat) : Int), ((m + 2 : Nat) : Int), ((m + 3 : Nat) : Int)⟩ := by
      have := congrArg (fun l => l[i]?) h3
      simp only [List.getElem?_take, if_pos (show i < i + 1 by omega)] at this
      rw [List.getElem?_append_right (by simp; omega), List.getElem?_eq_getElem (by omega)] at this
      simpa [Nat.min_eq_left (show i ≤ xs.length by omega)] using this
    refine ⟨q, ys, ev_succ ?_, h2, ?_, by omega, by omega, ev_succ ?_⟩
    · simp only [laws_markJobS.l0, Option.bind_some, if_pos (show (i : Int) < (xs.length : Int) by omega), if_pos (show (0 : Int) ≤ (i : Int) by omega), wsucc i (by omega), wsucc m (by omega), wsucc (m + 1) (by omega), wsucc (m + 2) (by omega), wsucc (m + 3) (by omega), Int.toNat_natCast, rdI_set xs i (by omega), List.set_set]
      exact h1
    · have := congrArg (fun l => l.take i) h3
      simp only [List.take_take, Nat.min_eq_left (show i ≤ i + 1 by omega)] at this
      rw [this, List.take_append_of_le_length (by simp; omega), List.take_take, Nat.min_self]
    · simp only [laws_heldJobS.l0, if_pos (show (i : Int) < (ys.length : Int) by omega), if_pos (show (0 : Int) ≤ (i : Int) by omega), wsucc i (by omega), wsucc m (by omega), wsucc (m + 1) (by omega), wsucc (m + 2) (by omega), wsucc (m + 3) (by omega), rdI ys i (by omega), hy, if_true]
      exact h5
theorem markJobS_ev (xs : List S63) (h : xs.length ≤ 1048576) : ∃ (q : Nat) (ys : List S63), 1 ≤ q ∧ Ev (fun k => laws_markJobS.f k xs 1) ((q : Int), ys) ∧ Ev (fun k => laws_heldJobS.f k ys 1) (q : Int) := by
  obtain ⟨q, ys, h1, h2, h3, h4, h4', h5⟩ := markJobS_l xs.length 0 1 xs (by omega) (by omega) (by omega)
  exact ⟨q, ys, h4, h1, h5⟩

theorem FnExactParseJobs : FnExactParseJobs.Claim := by
  intro s hs
  refine Ev.rounds ?_
  unfold laws_FnExactParseJobs.f
  by_cases h : (s.size : Int) > 1048576
  · simp only [if_pos h]; exact ev_now _
  simp only [if_neg h]
  obtain ⟨r0, r1, hr0, e1, e2⟩ := core s (by omega)
  have he0 := eqJobS_ev r0 (by omega)
  obtain ⟨q0, y0, hq_0, m0, e0⟩ := markJobS_ev r0 hr0
  repeat first
    | exact ev_now _
    | with_reducible refine ev_bind e1 ?_
    | with_reducible refine ev_bind e2 ?_
    | with_reducible refine ev_bind he0 ?_
    | with_reducible refine ev_bind m0 ?_
    | with_reducible refine ev_bind e0 ?_
    | simp only [if_true, if_false, bne_self_eq_false, Bool.false_eq_true, if_neg (show ¬ ((q0 : Int) < 0) by omega)]
    | (refine ev_succ ?_; simp only [laws_FnExactParseJobs.j0])
    | (refine ev_succ ?_; simp only [laws_FnExactParseJobs.j1])

end Go.Proofs.Ytnhceifdiaigbaa.Pure
