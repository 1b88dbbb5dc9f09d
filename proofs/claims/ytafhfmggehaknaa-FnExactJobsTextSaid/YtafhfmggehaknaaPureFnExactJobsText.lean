/- The program's function and the reference's come to the same answer: the statement of numbers and lists behind the law FnExactJobsText. Conditions: none. -/
import Derived.Test.YtafhfmggehaknaaArgFnExactJobsText
import Derived.Test.YtafhfmggehaknaaBase
namespace Go.Proofs.Ytafhfmggehaknaa.Pure
open Go.RowKit Go.Proofs.Ytafhfmggehaknaa.OFnExactJobsText Go.Proofs.Ytafhfmggehaknaa.Base Go.Proofs.YtafhfmggehaknaaW.PrintWords Go.Proofs.YtafhfmggehaknaaW.PrintLast Go.Proofs.YtafhfmggehaknaaW.PrintMore Go.Proofs.Ytafhfmggehaknaa.Open
set_option linter.unusedVariables false
set_option linter.unusedSimpArgs false

theorem szJobS_eq (xs : List S60) (left : Int) (h0 : 0 ≤ left) (h1 : left ≤ 1048576) (h : xs.length ≤ 9223372036854775807) : laws_szJobS.f xs left = some (if left < xs.length then -1 else left - xs.length) := by
  unfold laws_szJobS.f
  rw [w64 (by omega) (by omega)]
  by_cases c : left < xs.length
  · rw [if_pos (by omega), if_pos c]
  · rw [if_neg (by omega), if_neg c]

def conv (x : S60) : S58 := ⟨x.f0, x.f1, x.f2, x.f3⟩
theorem rdL (xs : List S60) (i : Nat) (h : i < xs.length) : rd_T60 xs (i : Int) = xs[i] := by
  unfold rd_T60
  rw [Int.toNat_natCast, List.getD_eq_getElem?_getD, List.getElem?_eq_getElem h]
  rfl

theorem toJobS_l (xs : List S60) (hn : xs.length ≤ 8796093022208) : ∀ (d i : Nat) (ys : List S58), i + d = xs.length → ys.length = xs.length → ys.take i = (xs.map conv).take i → Ev (fun k => laws_toJobS.l0 k xs ys (i : Int)) (xs.map conv) := by
  intro d
  induction d with
  | zero =>
    intro i ys hi hl ht
    refine ev_succ ?_
    simp only [laws_toJobS.l0, if_neg (show ¬ (i : Int) < (xs.length : Int) by omega)]
    have : ys = xs.map conv := by
      rw [List.take_of_length_le (by omega), List.take_of_length_le (by simp; omega)] at ht
      exact ht
    rw [this]
    exact ev_now _
  | succ d ih =>
    intro i ys hi hl ht
    refine ev_succ ?_
    have hx : i < xs.length := by omega
    simp only [laws_toJobS.l0, laws_toJob.f, Option.bind_some, if_pos (show (i : Int) < (xs.length : Int) by omega), if_pos (show (i : Int) < (ys.length : Int) by omega), if_pos (show (0 : Int) ≤ (i : Int) by omega), rdL xs i hx, wsucc i (by omega), Int.toNat_natCast]
    refine ih (i + 1) _ (by omega) (by rw [List.length_set]; exact hl) ?_
    rw [take_set_succ ys i _ (by omega), ht, List.take_succ_eq_append_getElem (by simp; omega)]
    simp [conv]
theorem toJobS_ev (xs : List S60) (hn : xs.length ≤ 1048576) : Ev (fun k => laws_toJobS.f k xs) (xs.map conv) := by
  unfold laws_toJobS.f
  simp only [if_pos (show (0 : Int) ≤ (xs.length : Int) by omega), Int.toNat_natCast, if_pos (show xs.length ≤ 8796093022208 by omega)]
  exact toJobS_l xs (by omega) xs.length 0 _ (by omega) (by simp) (by simp)

theorem rdI (xs : List S58) (i : Nat) (h : i < xs.length) : rd_T58 xs (i : Int) = xs[i] := by
  unfold rd_T58
  rw [Int.toNat_natCast, List.getD_eq_getElem?_getD, List.getElem?_eq_getElem h]
  rfl

theorem eqJobS_l (xs : List S58) (hn : xs.length ≤ 4611686018427387904) : ∀ (d i : Nat), i + d = xs.length → Ev (fun k => laws_eqJobS.l0 k xs xs (i : Int)) true := by
  intro d
  induction d with
  | zero =>
    intro i hi
    refine ev_succ ?_
    simp only [laws_eqJobS.l0, if_neg (show ¬ (i : Int) < (xs.length : Int) by omega)]
    exact ev_now _
  | succ d ih =>
    intro i hi
    refine ev_succ ?_
    simp only [laws_eqJobS.l0, laws_eqJob.f, if_true, Option.bind_some, if_pos (show (i : Int) < (xs.length : Int) by omega), if_pos (show (0 : Int) ≤ (i : Int) by omega), wsucc i (by omega)]
    exact ih (i + 1) (by omega)
theorem eqJobS_ev (xs : List S58) (hn : xs.length ≤ 4611686018427387904) : Ev (fun k => laws_eqJobS.f k xs xs) true := by
  unfold laws_eqJobS.f
  simp only [if_true]
  exact eqJobS_l xs hn xs.length 0 (by omega)

theorem conv_I64 (l : List S60) (hg : ∀ x ∈ l, G60 x) (i : Nat) (hi : i < (l.map conv).length) : I64 (l.map conv)[i].f0 ∧ I64 (l.map conv)[i].f1 ∧ I64 (l.map conv)[i].f2 ∧ I64 (l.map conv)[i].f3 := by
  simp only [List.getElem_map, conv]
  exact hg _ (List.getElem_mem _)

theorem within_eq (a b c : Int) : impl_within.f a b c = some (decide (b ≤ a) && decide (a ≤ c)) := by
  unfold impl_within.f
  by_cases h : b ≤ a
  · rw [if_pos h]; simp [h]
  · rw [if_neg h]; simp [h]

/-- A job's numbers are in their bounds. -/
def okJ (x : S58) : Bool := decide (1 ≤ x.f0) && (decide (x.f0 ≤ 50) && (decide (0 ≤ x.f1) && (decide (x.f1 ≤ 50) && (decide (0 ≤ x.f2) && (decide (x.f2 ≤ 500) && (decide (0 ≤ x.f3) && decide (x.f3 ≤ 500)))))))
def goodB (l : List S58) : Bool := decide (l.length ≤ 8) && l.all okJ
theorem isDate_eq (a : Int) : impl_isDate.f a = some (decide (0 ≤ a) && decide (a ≤ 500)) := by
  unfold impl_isDate.f
  rw [within_eq]
  rfl
theorem job_chain (x : S58) (o : Option Bool) : (if (decide (1 ≤ x.f0) && decide (x.f0 ≤ 50)) = true then (if (decide (0 ≤ x.f1) && decide (x.f1 ≤ 50)) = true then (if (decide (0 ≤ x.f2) && decide (x.f2 ≤ 500)) = true then (if (decide (0 ≤ x.f3) && decide (x.f3 ≤ 500)) = true then o else some false) else some false) else some false) else some false) = if okJ x = true then o else some false := by
  unfold okJ
  by_cases a1 : 1 ≤ x.f0 <;> by_cases a2 : x.f0 ≤ 50 <;> simp [a1, a2]
  by_cases b1 : 0 ≤ x.f1 <;> by_cases b2 : x.f1 ≤ 50 <;> simp [b1, b2]
  by_cases c1 : 0 ≤ x.f2 <;> by_cases c2 : x.f2 ≤ 500 <;> simp [c1, c2]
theorem IsJobs_l (xs : List S58) (hn : xs.length ≤ 4611686018427387904) : ∀ (d i : Nat), i + d = xs.length → Ev (fun k => impl_IsJobs.l0 k xs (xs.length : Int) (i : Int)) ((xs.drop i).all okJ) := by
  intro d
  induction d with
  | zero =>
    intro i hi
    refine ev_succ ?_
    simp only [impl_IsJobs.l0, if_neg (show ¬ (i : Int) < (xs.length : Int) by omega), List.drop_of_length_le (show xs.length ≤ i by omega)]
    exact ev_now _
  | succ d ih =>
    intro i hi
    refine ev_succ ?_
    have hx : i < xs.length := by omega
    have hih := ih (i + 1) (by omega)
    rw [List.drop_eq_getElem_cons hx, List.all_cons]
    simp only [impl_IsJobs.l0, within_eq, isDate_eq, Option.bind_some, if_pos (show (i : Int) < (xs.length : Int) by omega), if_pos (show (0 : Int) ≤ (i : Int) by omega), wsucc i (by omega), rdI xs i hx]
    generalize xs[i] = x at *
    simp only [job_chain]
    by_cases c : okJ x = true
    · simpa only [c, if_true, Bool.true_and] using hih
    · have c' : okJ x = false := by simpa using c
      simp only [c', Bool.false_and]
      exact ev_now _
theorem IsJobs_ev (xs : List S58) (hn : xs.length ≤ 4611686018427387904) : Ev (fun k => impl_IsJobs.f k xs) (goodB xs) := by
  unfold impl_IsJobs.f goodB
  by_cases h : xs.length ≤ 8
  · simp only [if_neg (show ¬ ((xs.length : Int) > 8) by omega), decide_eq_true h, Bool.true_and]
    exact IsJobs_l xs hn xs.length 0 (by omega)
  · simp only [if_pos (show ((xs.length : Int) > 8) by omega), decide_eq_false h, Bool.false_and]
    exact ev_now _

theorem good_len {xs : List S58} (h : goodB xs = true) : xs.length ≤ 8 := by
  unfold goodB at h
  simp only [Bool.and_eq_true, decide_eq_true_eq] at h
  exact h.1
theorem good_at {xs : List S58} (h : goodB xs = true) (i : Nat) (hi : i < xs.length) : 1 ≤ xs[i].f0 ∧ xs[i].f0 ≤ 50 ∧ 0 ≤ xs[i].f1 ∧ xs[i].f1 ≤ 50 ∧ 0 ≤ xs[i].f2 ∧ xs[i].f2 ≤ 500 ∧ 0 ≤ xs[i].f3 ∧ xs[i].f3 ≤ 500 := by
  unfold goodB at h
  simp only [Bool.and_eq_true, List.all_eq_true] at h
  have b := h.2 xs[i] (List.getElem_mem hi)
  simp only [okJ, Bool.and_eq_true, decide_eq_true_eq] at b
  obtain ⟨a1, a2, b1, b2, c1, c2, d1, d2⟩ := b
  exact ⟨a1, a2, b1, b2, c1, c2, d1, d2⟩

theorem l1In_eq (a b c : Int) : spec_l1In.f a b c = some (decide (b ≤ a) && decide (a ≤ c)) := by
  unfold spec_l1In.f
  by_cases h : b ≤ a
  · rw [if_pos h]; simp [h]
  · rw [if_neg h]; simp [h]

theorem l2Job_eq (x : S58) : spec_l2Job.f x.f0 x.f1 x.f2 x.f3 = some (okJ x) := by
  unfold spec_l2Job.f okJ
  simp only [l1In_eq, Option.bind_some]
  by_cases a1 : 1 ≤ x.f0 <;> by_cases a2 : x.f0 ≤ 50 <;> simp [a1, a2]
  by_cases b1 : 0 ≤ x.f1 <;> by_cases b2 : x.f1 ≤ 50 <;> simp [b1, b2]
  by_cases c1 : 0 ≤ x.f2 <;> by_cases c2 : x.f2 ≤ 500 <;> simp [c1, c2]
theorem l2Good_l (xs : List S58) (hn : xs.length ≤ 4611686018427387904) : ∀ (d i : Nat), i + d = xs.length → Ev (fun k => spec_l2Good.l0 k xs (i : Int)) ((xs.drop i).all okJ && decide (xs.length ≤ 8)) := by
  intro d
  induction d with
  | zero =>
    intro i hi
    refine ev_succ ?_
    simp only [spec_l2Good.l0, if_neg (show ¬ (i : Int) < (xs.length : Int) by omega), List.drop_of_length_le (show xs.length ≤ i by omega)]
    refine ev_const ?_
    simp
    omega
  | succ d ih =>
    intro i hi
    refine ev_succ ?_
    have hx : i < xs.length := by omega
    have hih := ih (i + 1) (by omega)
    rw [List.drop_eq_getElem_cons hx, List.all_cons]
    simp only [spec_l2Good.l0, if_pos (show (i : Int) < (xs.length : Int) by omega), if_pos (show (0 : Int) ≤ (i : Int) by omega), wsucc i (by omega), rdI xs i hx, l2Job_eq, Option.bind_some]
    by_cases c : okJ xs[i] = true
    · simpa only [c, if_true, Bool.true_and] using hih
    · have c' : okJ xs[i] = false := by simpa using c
      simp only [c', Bool.false_and]
      exact ev_now _
theorem l2Good_ev (xs : List S58) (hn : xs.length ≤ 4611686018427387904) : Ev (fun k => spec_l2Good.f k xs) (goodB xs) := by
  unfold spec_l2Good.f goodB
  rw [Bool.and_comm]
  exact l2Good_l xs hn xs.length 0 (by omega)

def sumSz : List ByteArray → Nat
  | [] => 0
  | x :: t => x.size + sumSz t
theorem part_le : ∀ (l : List ByteArray) (x : ByteArray), x ∈ l → x.size ≤ sumSz l := by
  intro l
  induction l with
  | nil => intro x h; cases h
  | cons y t ih =>
    intro x h
    rw [List.mem_cons] at h
    rw [sumSz]
    rcases h with rfl | h
    · omega
    · have := ih x h; omega

theorem rdS (xs : List ByteArray) (i : Nat) (h : i < xs.length) : rdOf ByteArray.empty xs (i : Int) = xs[i] := by
  unfold rdOf
  rw [Int.toNat_natCast, List.getD_eq_getElem?_getD, List.getElem?_eq_getElem h]
  rfl

/-- What is joined onto a beginning. -/
def jn (sep acc : ByteArray) (l : List ByteArray) : ByteArray := l.foldl (fun o x => (o ++ sep) ++ x) acc
theorem jn_cons (sep acc x : ByteArray) (l : List ByteArray) : jn sep acc (x :: l) = jn sep ((acc ++ sep) ++ x) l := rfl
theorem jn_size (sep : ByteArray) (hs : sep.size = 1) : ∀ (l : List ByteArray) (acc : ByteArray), (jn sep acc l).size = acc.size + l.length + sumSz l := by
  intro l
  induction l with
  | nil => intro acc; rfl
  | cons x t ih =>
    intro acc
    rw [jn_cons, ih, ByteArray.size_append, ByteArray.size_append, hs, List.length_cons, sumSz]
    omega
theorem join_l (xs : List ByteArray) (sep : ByteArray) (hs : sep.size = 1) (hn : xs.length ≤ 1048576) (hz : sumSz xs ≤ 1048576) : ∀ (d i : Nat) (out : ByteArray), i + d = xs.length → 0 < i → out.size + (xs.drop i).length + sumSz (xs.drop i) ≤ 4611686018427387904 →
    Ev (fun k => impl_join.l0 k sep out xs (xs.length : Int) (i : Int)) (jn sep out (xs.drop i)) := by
  intro d
  induction d with
  | zero =>
    intro i out hi h0 ho
    refine ev_succ ?_
    simp only [impl_join.l0, if_neg (show ¬ (i : Int) < (xs.length : Int) by omega), List.drop_of_length_le (show xs.length ≤ i by omega)]
    exact ev_now _
  | succ d ih =>
    intro i out hi h0 ho
    refine ev_succ ?_
    have hx : i < xs.length := by omega
    rw [List.drop_eq_getElem_cons hx, List.length_cons, sumSz] at ho
    rw [List.drop_eq_getElem_cons hx, jn_cons]
    have e1 : (out ++ sep).size = out.size + 1 := by rw [ByteArray.size_append, hs]
    have e2 : ((out ++ sep) ++ xs[i]).size = out.size + 1 + xs[i].size := by rw [ByteArray.size_append, e1]
    simp only [impl_join.l0, if_pos (show (i : Int) < (xs.length : Int) by omega), if_pos (show (0 : Int) ≤ (i : Int) by omega), rdS xs i hx, wsucc i (by omega), if_pos (show (i : Int) > 0 by omega), if_pos (show out.size + sep.size ≤ 9223372036854775807 by omega), if_pos (show (out ++ sep).size + xs[i].size ≤ 9223372036854775807 by omega)]
    exact ih (i + 1) _ (by omega) (by omega) (by omega)
theorem empty_append (x : ByteArray) : (⟨#[]⟩ : ByteArray) ++ x = x := L_inj (by rw [L_append]; rfl)
theorem join_ev (xs : List ByteArray) (sep x : ByteArray) (t : List ByteArray) (hx : xs = x :: t) (hs : sep.size = 1) (hn : xs.length ≤ 1048576) (hz : sumSz xs ≤ 1048576) : Ev (fun k => impl_join.f k xs sep) (jn sep x t) := by
  unfold impl_join.f
  refine ev_succ ?_
  have hl : 0 < xs.length := by rw [hx]; simp
  have h0 : rdOf ByteArray.empty xs 0 = x := by rw [hx]; rfl
  have hsz : xs.length = t.length + 1 := by rw [hx]; simp
  have hsu : sumSz xs = x.size + sumSz t := by rw [hx]; rfl
  simp only [impl_join.l0, if_pos (show (0 : Int) < (xs.length : Int) by omega), if_pos (show (0 : Int) ≤ 0 by omega), if_neg (show ¬ (0 : Int) > 0 by omega), h0, if_pos (show (⟨#[]⟩ : ByteArray).size + x.size ≤ 9223372036854775807 by rw [show (⟨#[]⟩ : ByteArray).size = 0 from rfl]; omega), empty_append]
  have := join_l xs sep hs hn hz (xs.length - 1) 1 x (by omega) (by omega) (by rw [hx]; simp; omega)
  rw [show wrap64 (0 + 1) = ((1 : Nat) : Int) by unfold wrap64; omega]
  rw [show xs.drop 1 = t by rw [hx]; rfl] at this
  exact this

theorem tdivN (n : Nat) : Int.tdiv (n : Int) 10 = ((n / 10 : Nat) : Int) := by
  rw [Int.tdiv_eq_ediv_of_nonneg (by omega)]; omega
theorem tmodN (n : Nat) : Int.tmod (n : Int) 10 = ((n % 10 : Nat) : Int) := by
  rw [Int.tmod_eq_emod_of_nonneg (by omega)]; omega
theorem wN (n : Nat) (h : n ≤ 4611686018427387904) : wrap64 (n : Int) = (n : Int) := w64 (by omega) (by omega)
theorem one_ext_size (n : Nat) (h : n < 10) : ((⟨#[48, 49, 50, 51, 52, 53, 54, 55, 56, 57]⟩ : ByteArray).extract n (n + 1)).size = 1 := by
  rw [digits_extract n h]; rfl
/-- A number that may be negative, as it is written. -/
def numS (n : Int) : ByteArray := if n < 0 then (⟨#[45]⟩ : ByteArray) ++ digS n.natAbs else digS n.natAbs
theorem numS_nat (n : Nat) : numS (n : Int) = digS n := by
  unfold numS
  rw [if_neg (by omega)]
  rfl
theorem digS_size' (n : Nat) (h : n ≤ 1152921504606846976) : (digS n).size ≤ 1152921504606846977 := by
  have := digS_size n
  omega

theorem text_l : ∀ (n : Nat) (acc : ByteArray), acc.size + n ≤ 2305843009213693952 → Ev (fun k => impl_text.l0 k (n : Int) acc) (digS n ++ acc) := by
  intro n
  induction n using Nat.strongRecOn with
  | ind n ih =>
    intro acc ha
    refine ev_succ ?_
    have hb : (wrap64 (48 + Int.tmod (n : Int) 10)) % 256 = ((48 + n % 10 : Nat) : Int) := by
      rw [tmodN, w64 (by omega) (by omega)]
      omega
    have hs1 : (strOfNums [((48 + n % 10 : Nat) : Int)]).size = 1 := rfl
    simp only [impl_text.l0, Option.bind_some, hb, tdivN, wN (n / 10) (by omega)]
    simp only [if_pos (show (strOfNums [((48 + n % 10 : Nat) : Int)]).size + acc.size ≤ 9223372036854775807 by omega)]
    rw [show strOfNums [((48 + n % 10 : Nat) : Int)] = (⟨#[UInt8.ofNat (48 + n % 10)]⟩ : ByteArray) from rfl]
    by_cases h : n < 10
    · simp only [if_pos (show ((n / 10 : Nat) : Int) = 0 by omega)]
      rw [digS_lt h, Nat.mod_eq_of_lt h]
      exact ev_now _
    · simp only [if_neg (show ¬ ((n / 10 : Nat) : Int) = 0 by omega)]
      rw [digS_ge h, ByteArray.append_assoc]
      refine ih (n / 10) (by omega) _ ?_
      rw [ByteArray.size_append, show (⟨#[UInt8.ofNat (48 + n % 10)]⟩ : ByteArray).size = 1 from rfl]
      omega
theorem text_nat (n : Nat) (hn : n ≤ 1152921504606846976) : Ev (fun k => impl_text.f k (n : Int)) (digS n) := by
  refine ev_succ ?_
  simp only [impl_text.f, if_neg (show ¬ (n : Int) < 0 by omega)]
  have := text_l n (⟨#[]⟩ : ByteArray) (by rw [show (⟨#[]⟩ : ByteArray).size = 0 from rfl]; omega)
  rw [show digS n ++ (⟨#[]⟩ : ByteArray) = digS n from L_inj (by rw [L_append]; simp [L])] at this
  exact this
theorem text_ev (n : Int) (h0 : -1152921504606846976 ≤ n) (h1 : n ≤ 1152921504606846976) : Ev (fun k => impl_text.f k n) (numS n) := by
  by_cases h : n < 0
  · unfold numS
    rw [if_pos h]
    refine ev_succ ?_
    have hw : wrap64 (-n) = ((n.natAbs : Nat) : Int) := by rw [w64 (by omega) (by omega)]; omega
    have hs := digS_size n.natAbs
    simp only [impl_text.f, if_pos h, hw]
    refine ev_bind (text_nat n.natAbs (by omega)) ?_
    simp only [if_pos (show 1 + (digS n.natAbs).size ≤ 9223372036854775807 by omega)]
    exact ev_now _
  · obtain ⟨m, rfl⟩ := Int.eq_ofNat_of_zero_le (show 0 ≤ n by omega)
    rw [numS_nat]
    exact text_nat m (by omega)

theorem rdN (xs : List Int) (i : Nat) (h : i < xs.length) : rd xs (i : Int) = xs[i] := by
  unfold rd
  rw [Int.toNat_natCast, List.getD_eq_getElem?_getD, List.getElem?_eq_getElem h]
  rfl

theorem numS_size (n : Int) (h0 : 0 ≤ n) (h1 : n ≤ 1000) : (numS n).size ≤ 1001 := by
  obtain ⟨m, rfl⟩ := Int.eq_ofNat_of_zero_le h0
  rw [numS_nat]
  have := digS_size m
  omega
theorem sum_nums : ∀ l : List Int, (∀ x ∈ l, 0 ≤ x ∧ x ≤ 1000) → sumSz (l.map numS) ≤ 1001 * l.length := by
  intro l
  induction l with
  | nil => intro _; simp [sumSz]
  | cons x t ih =>
    intro h
    have h1 := numS_size x (h x (by simp)).1 (h x (by simp)).2
    have h2 := ih (fun y hy => h y (by simp [hy]))
    rw [List.map_cons, sumSz, List.length_cons]
    omega
theorem numberText_l (xs : List Int) (sep : ByteArray) (hs : sep.size = 1) (hn : xs.length ≤ 100) (hx : ∀ x ∈ xs, 0 ≤ x ∧ x ≤ 1000) (w : ByteArray) (t : List ByteArray) (hw : xs.map numS = w :: t) : ∀ (d i : Nat) (acc : List ByteArray), i + d = xs.length → acc = (xs.map numS).take i →
    Ev (fun k => impl_numberText.l0 k sep acc xs (xs.length : Int) (i : Int)) (jn sep w t) := by
  intro d
  induction d with
  | zero =>
    intro i acc hi ha
    refine ev_succ ?_
    have hacc : acc = w :: t := by rw [ha, List.take_of_length_le (by simp; omega), hw]
    simp only [impl_numberText.l0, if_neg (show ¬ (i : Int) < (xs.length : Int) by omega)]
    have hsum := sum_nums xs hx
    rw [hw] at hsum
    have hlen : (w :: t).length = xs.length := by rw [← hw]; simp
    rw [hacc]
    exact ev_bind (join_ev (w :: t) sep w t rfl hs (by omega) (by omega)) (ev_now _)
  | succ d ih =>
    intro i acc hi ha
    refine ev_succ ?_
    have hil : i < xs.length := by omega
    have hb := hx xs[i] (List.getElem_mem hil)
    have hal : acc.length = i := by rw [ha]; simp; omega
    simp only [impl_numberText.l0, if_pos (show (i : Int) < (xs.length : Int) by omega), if_pos (show (0 : Int) ≤ (i : Int) by omega), rdN xs i hil, wsucc i (by omega), if_pos (show acc.length < 8796093022208 by omega)]
    refine ev_bind (text_ev xs[i] (by omega) (by omega)) ?_
    refine ih (i + 1) _ (by omega) ?_
    rw [ha, List.take_succ_eq_append_getElem (by simp; omega)]
    simp
theorem numberText_ev (xs : List Int) (sep : ByteArray) (hs : sep.size = 1) (hn : xs.length ≤ 100) (hx : ∀ x ∈ xs, 0 ≤ x ∧ x ≤ 1000) (w : ByteArray) (t : List ByteArray) (hw : xs.map numS = w :: t) : Ev (fun k => impl_numberText.f k xs sep) (jn sep w t) := by
  unfold impl_numberText.f
  exact numberText_l xs sep hs hn hx w t hw xs.length 0 [] (by omega) (by simp)

theorem l1Num_nat : ∀ n : Nat, n ≤ 1152921504606846976 → Ev (fun k => spec_l1Num.f k (n : Int)) (digS n) := by
  intro n
  induction n using Nat.strongRecOn with
  | ind n ih =>
    intro hn
    refine ev_succ ?_
    by_cases h : n < 10
    · simp only [spec_l1Num.f, if_neg (show ¬ (n : Int) < 0 by omega), if_pos (show (n : Int) < 10 by omega), if_pos (show (0 : Int) ≤ (n : Int) by omega), wsucc n (by omega), if_pos (show (n : Int) ≤ ((n + 1 : Nat) : Int) by omega), if_pos (show ((n + 1 : Nat) : Int) ≤ 10 by omega), Int.toNat_natCast, digits_extract n h]
      rw [digS_lt h]
      exact ev_now _
    · have hd : n % 10 < 10 := by omega
      have hs := digS_size (n / 10)
      simp only [spec_l1Num.f, if_neg (show ¬ (n : Int) < 0 by omega), if_neg (show ¬ (n : Int) < 10 by omega), tdivN, tmodN, wN (n / 10) (by omega), wsucc (n % 10) (by omega), if_pos (show (0 : Int) ≤ ((n % 10 : Nat) : Int) by omega), if_pos (show ((n % 10 : Nat) : Int) ≤ ((n % 10 + 1 : Nat) : Int) by omega), if_pos (show ((n % 10 + 1 : Nat) : Int) ≤ 10 by omega), Int.toNat_natCast]
      refine ev_bind (ih (n / 10) (by omega) (by omega)) ?_
      simp only [if_pos (show (digS (n / 10)).size + ((⟨#[48, 49, 50, 51, 52, 53, 54, 55, 56, 57]⟩ : ByteArray).extract (n % 10) (n % 10 + 1)).size ≤ 9223372036854775807 by rw [one_ext_size _ hd]; omega)]
      simp only [digits_extract _ hd]
      rw [digS_ge h]
      exact ev_now _
theorem l1Num_ev (n : Int) (h0 : -1152921504606846976 ≤ n) (h1 : n ≤ 1152921504606846976) : Ev (fun k => spec_l1Num.f k n) (numS n) := by
  by_cases h : n < 0
  · unfold numS
    rw [if_pos h]
    refine ev_succ ?_
    have hw : wrap64 (-n) = ((n.natAbs : Nat) : Int) := by rw [w64 (by omega) (by omega)]; omega
    have hs := digS_size n.natAbs
    simp only [spec_l1Num.f, if_pos h, hw]
    refine ev_bind (l1Num_nat n.natAbs (by omega)) ?_
    simp only [if_pos (show 1 + (digS n.natAbs).size ≤ 9223372036854775807 by omega)]
    exact ev_now _
  · obtain ⟨m, rfl⟩ := Int.eq_ofNat_of_zero_le (show 0 ≤ n by omega)
    rw [numS_nat]
    exact l1Num_nat m (by omega)

def slash : ByteArray := ⟨#[47]⟩
def space : ByteArray := ⟨#[32]⟩
def jobS (x : S58) : ByteArray := jn slash (numS x.f0) [numS x.f1, numS x.f2, numS x.f3]

theorem jobS_size (x : S58) (h : okJ x = true) : (jobS x).size ≤ 5000 := by
  simp only [okJ, Bool.and_eq_true, decide_eq_true_eq] at h
  obtain ⟨a1, a2, b1, b2, c1, c2, d1, d2⟩ := h
  have h0 := numS_size x.f0 (by omega) (by omega)
  have h1 := numS_size x.f1 (by omega) (by omega)
  have h2 := numS_size x.f2 (by omega) (by omega)
  have h3 := numS_size x.f3 (by omega) (by omega)
  unfold jobS
  rw [jn_size slash rfl]
  simp only [List.length_cons, List.length_nil, sumSz]
  omega
theorem sum_jobs : ∀ l : List S58, (∀ x ∈ l, okJ x = true) → sumSz (l.map jobS) ≤ 5000 * l.length := by
  intro l
  induction l with
  | nil => intro _; simp [sumSz]
  | cons x t ih =>
    intro h
    have h1 := jobS_size x (h x (by simp))
    have h2 := ih (fun y hy => h y (by simp [hy]))
    rw [List.map_cons, sumSz, List.length_cons]
    omega
theorem good_ok {xs : List S58} (h : goodB xs = true) : ∀ x ∈ xs, okJ x = true := by
  unfold goodB at h
  simp only [Bool.and_eq_true, List.all_eq_true] at h
  exact h.2
theorem impl_words (xs : List S58) (hg : goodB xs = true) (w : ByteArray) (t : List ByteArray) (hw : xs.map jobS = w :: t) : ∀ (d i : Nat) (acc : List ByteArray), i + d = xs.length → acc = (xs.map jobS).take i →
    Ev (fun k => impl_JobsText.l0 k acc xs (xs.length : Int) (i : Int)) (jn space w t, true) := by
  have hl := good_len hg
  intro d
  induction d with
  | zero =>
    intro i acc hi ha
    refine ev_succ ?_
    have hacc : acc = w :: t := by rw [ha, List.take_of_length_le (by simp; omega), hw]
    simp only [impl_JobsText.l0, if_neg (show ¬ (i : Int) < (xs.length : Int) by omega)]
    have hsum := sum_jobs xs (good_ok hg)
    rw [hw] at hsum
    have hlen : (w :: t).length = xs.length := by rw [← hw]; simp
    rw [hacc]
    exact ev_bind (join_ev (w :: t) space w t rfl rfl (by omega) (by omega)) (ev_now _)
  | succ d ih =>
    intro i acc hi ha
    refine ev_succ ?_
    have hil : i < xs.length := by omega
    have hb := good_at hg i hil
    have hal : acc.length = i := by rw [ha]; simp; omega
    simp only [impl_JobsText.l0, if_pos (show (i : Int) < (xs.length : Int) by omega), if_pos (show (0 : Int) ≤ (i : Int) by omega), rdI xs i hil, wsucc i (by omega), if_pos (show acc.length < 8796093022208 by omega)]
    refine ev_bind (numberText_ev [xs[i].f0, xs[i].f1, xs[i].f2, xs[i].f3] slash rfl (by simp) (by
      intro y hy
      simp only [List.mem_cons, List.not_mem_nil, or_false] at hy
      rcases hy with rfl | rfl | rfl | rfl <;> omega) _ _ rfl) ?_
    refine ih (i + 1) _ (by omega) ?_
    rw [ha, List.take_succ_eq_append_getElem (by simp; omega)]
    simp [jobS]
theorem spec_j1 (xs : List S58) (hg : goodB xs = true) (i : Nat) (hi : i < xs.length) (out : ByteArray) (ho : out.size ≤ 1000000) (r : ByteArray) (h : Ev (fun k => spec_l2Text.l0 k xs (out ++ jobS xs[i]) ((i + 1 : Nat) : Int)) r) : Ev (fun k => spec_l2Text.j1 k xs out (i : Int)) r := by
  have hl := good_len hg
  have hb := good_at hg i hi
  refine ev_succ ?_
  have h0 := numS_size xs[i].f0 (by omega) (by omega)
  have h1 := numS_size xs[i].f1 (by omega) (by omega)
  have h2 := numS_size xs[i].f2 (by omega) (by omega)
  have h3 := numS_size xs[i].f3 (by omega) (by omega)
  have hs : (⟨#[47]⟩ : ByteArray).size = 1 := rfl
  have e := fun (a b : ByteArray) => @ByteArray.size_append a b
  have he : out ++ jobS xs[i] = ((((((out ++ numS xs[i].f0) ++ (⟨#[47]⟩ : ByteArray)) ++ numS xs[i].f1) ++ (⟨#[47]⟩ : ByteArray)) ++ numS xs[i].f2) ++ (⟨#[47]⟩ : ByteArray)) ++ numS xs[i].f3 := by
    simp only [jobS, jn, List.foldl_cons, List.foldl_nil, slash, ByteArray.append_assoc]
  rw [he] at h
  simp only [spec_l2Text.j1, if_pos (show (i : Int) < (xs.length : Int) by omega), if_pos (show (0 : Int) ≤ (i : Int) by omega), rdI xs i hi, wsucc i (by omega)]
  refine ev_bind (l1Num_ev _ (by omega) (by omega)) ?_
  simp only [if_pos (show out.size + (numS xs[i].f0).size ≤ 9223372036854775807 by omega), if_pos (show (out ++ numS xs[i].f0).size + 1 ≤ 9223372036854775807 by rw [e]; omega)]
  refine ev_bind (l1Num_ev _ (by omega) (by omega)) ?_
  simp only [if_pos (show ((out ++ numS xs[i].f0) ++ (⟨#[47]⟩ : ByteArray)).size + (numS xs[i].f1).size ≤ 9223372036854775807 by rw [e, e, hs]; omega), if_pos (show (((out ++ numS xs[i].f0) ++ (⟨#[47]⟩ : ByteArray)) ++ numS xs[i].f1).size + 1 ≤ 9223372036854775807 by rw [e, e, e, hs]; omega)]
  refine ev_bind (l1Num_ev _ (by omega) (by omega)) ?_
  simp only [if_pos (show ((((out ++ numS xs[i].f0) ++ (⟨#[47]⟩ : ByteArray)) ++ numS xs[i].f1) ++ (⟨#[47]⟩ : ByteArray)).size + (numS xs[i].f2).size ≤ 9223372036854775807 by rw [e, e, e, e, hs]; omega), if_pos (show (((((out ++ numS xs[i].f0) ++ (⟨#[47]⟩ : ByteArray)) ++ numS xs[i].f1) ++ (⟨#[47]⟩ : ByteArray)) ++ numS xs[i].f2).size + 1 ≤ 9223372036854775807 by rw [e, e, e, e, e, hs]; omega)]
  refine ev_bind (l1Num_ev _ (by omega) (by omega)) ?_
  simp only [if_pos (show ((((((out ++ numS xs[i].f0) ++ (⟨#[47]⟩ : ByteArray)) ++ numS xs[i].f1) ++ (⟨#[47]⟩ : ByteArray)) ++ numS xs[i].f2) ++ (⟨#[47]⟩ : ByteArray)).size + (numS xs[i].f3).size ≤ 9223372036854775807 by rw [e, e, e, e, e, e, hs]; omega)]
  exact h
theorem spec_tailT (xs : List S58) (hg : goodB xs = true) : ∀ (d i : Nat) (out : ByteArray), i + d = xs.length → 0 < i → out.size ≤ 100000 * i → Ev (fun k => spec_l2Text.l0 k xs out (i : Int)) (jn space out ((xs.drop i).map jobS)) := by
  have hl := good_len hg
  intro d
  induction d with
  | zero =>
    intro i out hi h0 ho
    refine ev_succ ?_
    simp only [spec_l2Text.l0, if_neg (show ¬ (i : Int) < (xs.length : Int) by omega), if_neg (show ¬ (xs.length : Int) = 0 by omega), List.drop_of_length_le (show xs.length ≤ i by omega)]
    exact ev_now _
  | succ d ih =>
    intro i out hi h0 ho
    refine ev_succ ?_
    have hil : i < xs.length := by omega
    have hz := jobS_size xs[i] (good_ok hg _ (List.getElem_mem hil))
    have e1 : (out ++ (⟨#[32]⟩ : ByteArray)).size = out.size + 1 := by rw [ByteArray.size_append]; rfl
    have e2 : ((out ++ (⟨#[32]⟩ : ByteArray)) ++ jobS xs[i]).size = out.size + 1 + (jobS xs[i]).size := by rw [ByteArray.size_append, e1]
    rw [List.drop_eq_getElem_cons hil, List.map_cons, jn_cons]
    simp only [spec_l2Text.l0, if_pos (show (i : Int) < (xs.length : Int) by omega), if_pos (show (i : Int) > 0 by omega), if_pos (show out.size + 1 ≤ 9223372036854775807 by omega)]
    exact spec_j1 xs hg i hil _ (by omega) _ (ih (i + 1) _ (by omega) (by omega) (by omega))
theorem core (l : List S58) (hm : l.length ≤ 1048576) (_ : ∀ (i : Nat) (hi : i < l.length), I64 l[i].f0 ∧ I64 l[i].f1 ∧ I64 l[i].f2 ∧ I64 l[i].f3) :
    ∃ (r : ByteArray) (ok : Bool), True ∧ Ev (fun k => spec_JobsText.f k l) (r, ok) ∧ Ev (fun k => impl_JobsText.f k l) (r, ok) := by
  have h1 := l2Good_ev l (by omega)
  have h2 := IsJobs_ev l (by omega)
  unfold spec_JobsText.f impl_JobsText.f
  cases hg : goodB l
  · rw [hg] at h1 h2
    exact ⟨(⟨#[]⟩ : ByteArray), false, trivial, ev_bind h1 (by simp only [Bool.false_eq_true, if_false]; exact ev_now _), ev_bind h2 (by simp only [Bool.false_eq_true, if_false]; exact ev_now _)⟩
  rw [hg] at h1 h2
  have hl := good_len hg
  cases hx : l with
  | nil =>
    rw [hx] at h1 h2
    refine ⟨(⟨#[110, 111, 110, 101]⟩ : ByteArray), true, trivial, ev_bind h1 ?_, ev_bind h2 ?_⟩
    · simp only [if_true]
      refine ev_bind (a := (⟨#[110, 111, 110, 101]⟩ : ByteArray)) ?_ (ev_now _)
      unfold spec_l2Text.f
      refine ev_succ ?_
      simp only [spec_l2Text.l0, if_neg (show ¬ (0 : Int) < ((([] : List S58).length : Nat) : Int) by simp), if_pos (show ((([] : List S58).length : Nat) : Int) = 0 from rfl)]
      exact ev_now _
    · simp only [if_true, if_pos (show ((([] : List S58).length : Nat) : Int) = 0 from rfl)]
      exact ev_now _
  | cons x t =>
    rw [← hx]
    have h0 : 0 < l.length := by rw [hx]; simp
    have hx0 : l[0] = x := by simp [hx]
    have hd : l.drop 1 = t := by rw [hx]; rfl
    refine ⟨jn space (jobS x) (t.map jobS), true, trivial, ev_bind h1 ?_, ev_bind h2 ?_⟩
    · simp only [if_true]
      refine ev_bind (a := jn space (jobS x) (t.map jobS)) ?_ (ev_now _)
      unfold spec_l2Text.f
      refine ev_succ ?_
      simp only [spec_l2Text.l0, if_pos (show (0 : Int) < (l.length : Int) by omega), if_neg (show ¬ (0 : Int) > 0 by omega)]
      have hz := jobS_size l[0] (good_ok hg _ (List.getElem_mem h0))
      have := spec_tailT l hg (l.length - 1) 1 ((⟨#[]⟩ : ByteArray) ++ jobS l[0]) (by omega) (by omega) (by rw [empty_append]; omega)
      have := spec_j1 l hg 0 h0 (⟨#[]⟩ : ByteArray) (by rw [show (⟨#[]⟩ : ByteArray).size = 0 from rfl]; omega) _ this
      rw [empty_append, hx0, hd] at this
      exact this
    · simp only [if_true, if_neg (show ¬ (l.length : Int) = 0 by omega)]
      exact impl_words l hg (jobS x) (t.map jobS) (by rw [hx]; rfl) l.length 0 [] (by omega) (by simp)

theorem FnExactJobsText : FnExactJobsText.Claim := by
  intro l0 hl0 hg0
  refine Ev.rounds ?_
  unfold laws_FnExactJobsText.f
  simp only [szJobS_eq l0 1048576 (by omega) (by omega) hl0, Option.bind_some]
  by_cases h : (1048576 : Int) < l0.length
  · simp only [if_pos h, if_pos (show (-1 : Int) < 0 by omega)]
    exact ev_now _
  · simp only [if_neg h, if_neg (show ¬ ((1048576 : Int) - l0.length < 0) by omega)]
    have ht := toJobS_ev l0 (by omega)
    have hm : (l0.map conv).length ≤ 1048576 := by simp; omega
    have hq := eqJobS_ev (l0.map conv) (by omega)
    obtain ⟨r0, r1, _, hs, hi⟩ := core (l0.map conv) hm (conv_I64 l0 hg0)
    repeat first
      | exact ev_now _
      | with_reducible refine ev_bind hs ?_
      | with_reducible refine ev_bind hi ?_
      | with_reducible refine ev_bind ht ?_
      | with_reducible refine ev_bind hq ?_
      | simp only [if_true, if_false, bne_self_eq_false, Bool.false_eq_true]
      | (refine ev_succ ?_; simp only [laws_FnExactJobsText.j0])

end Go.Proofs.Ytafhfmggehaknaa.Pure
