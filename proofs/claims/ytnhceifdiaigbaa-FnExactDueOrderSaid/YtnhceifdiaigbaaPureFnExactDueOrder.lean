/- The program's function and the reference's come to the same answer: the statement of numbers and lists behind the law FnExactDueOrder. Conditions: none. -/
import Derived.Test.YtnhceifdiaigbaaArgFnExactDueOrder
import Derived.Test.YtnhceifdiaigbaaBase
namespace Go.Proofs.Ytnhceifdiaigbaa.Pure
open Go.RowKit Go.Proofs.Ytnhceifdiaigbaa.OFnExactDueOrder Go.Proofs.Ytnhceifdiaigbaa.Base Go.Proofs.YtnhceifdiaigbaaW.PrintWords Go.Proofs.YtnhceifdiaigbaaW.PrintLast Go.Proofs.YtnhceifdiaigbaaW.PrintMore Go.Proofs.Ytnhceifdiaigbaa.Open
set_option linter.unusedVariables false
set_option linter.unusedSimpArgs false

def laws_heldJobS.l0 : Nat → List (S63) → Int → Int → Option (Int)
  | 0, _, _, _ => none
  | k + 1, x0, x1, x5 => if x5 < (x0.length : Int) then (if 0 ≤ x5 then (if ((rd_T63 x0 x5).f0) = x1 then (if ((rd_T63 x0 x5).f1) = (wrap64 (x1 + 1)) then (if ((rd_T63 x0 x5).f2) = (wrap64 ((wrap64 (x1 + 1)) + 1)) then (if ((rd_T63 x0 x5).f3) = (wrap64 ((wrap64 ((wrap64 (x1 + 1)) + 1)) + 1)) then (laws_heldJobS.l0 k x0 (wrap64 ((wrap64 ((wrap64 ((wrap64 (x1 + 1)) + 1)) + 1)) + 1)) (wrap64 (x5 + 1))) else (some (-1))) else (some (-1))) else (some (-1))) else (some (-1))) else (none)) else (some x1)
def laws_heldJobS.f (k : Nat) (l0 : List (S63)) (a1 : Int) : Option (Int) := laws_heldJobS.l0 k l0 a1 0

theorem szJobS_eq (xs : List S67) (left : Int) (h0 : 0 ≤ left) (h1 : left ≤ 1048576) (h : xs.length ≤ 9223372036854775807) : laws_szJobS.f xs left = some (if left < xs.length then -1 else left - xs.length) := by
  unfold laws_szJobS.f
  rw [w64 (by omega) (by omega)]
  by_cases c : left < xs.length
  · rw [if_pos (by omega), if_pos c]
  · rw [if_neg (by omega), if_neg c]

def conv (x : S67) : S63 := ⟨x.f0, x.f1, x.f2, x.f3⟩
theorem rdL (xs : List S67) (i : Nat) (h : i < xs.length) : rd_T67 xs (i : Int) = xs[i] := by
  unfold rd_T67
  rw [Int.toNat_natCast, List.getD_eq_getElem?_getD, List.getElem?_eq_getElem h]
  rfl

theorem toJobS_l (xs : List S67) (hn : xs.length ≤ 8796093022208) : ∀ (d i : Nat) (ys : List S63), i + d = xs.length → ys.length = xs.length → ys.take i = (xs.map conv).take i → Ev (fun k => laws_toJobS.l0 k xs ys (i : Int)) (xs.map conv) := by
  intro d
  induction d with
  | zero =>
    intro i ys hi hl ht
    refine ev_succ ?_
    simp only [laws_toJobS.l0, if_neg (show ¬ (i : Int) < (xs.length : Int) by omega)]
    have : ys = xs.map conv := by
      rw [List.take_of_length_le (by omega), List.take_of_length_le (by simp; omega)] at ht
      exact ht
    rw [this]
    exact ev_now _
  | succ d ih =>
    intro i ys hi hl ht
    refine ev_succ ?_
    have hx : i < xs.length := by omega
    simp only [laws_toJobS.l0, laws_toJob.f, Option.bind_some, if_pos (show (i : Int) < (xs.length : Int) by omega), if_pos (show (i : Int) < (ys.length : Int) by omega), if_pos (show (0 : Int) ≤ (i : Int) by omega), rdL xs i hx, wsucc i (by omega), Int.toNat_natCast]
    refine ih (i + 1) _ (by omega) (by rw [List.length_set]; exact hl) ?_
    rw [take_set_succ ys i _ (by omega), ht, List.take_succ_eq_append_getElem (by simp; omega)]
    simp [conv]
theorem toJobS_ev (xs : List S67) (hn : xs.length ≤ 1048576) : Ev (fun k => laws_toJobS.f k xs) (xs.map conv) := by
  unfold laws_toJobS.f
  simp only [if_pos (show (0 : Int) ≤ (xs.length : Int) by omega), Int.toNat_natCast, if_pos (show xs.length ≤ 8796093022208 by omega)]
  exact toJobS_l xs (by omega) xs.length 0 _ (by omega) (by simp) (by simp)

theorem rdI (xs : List S63) (i : Nat) (h : i < xs.length) : rd_T63 xs (i : Int) = xs[i] := by
  unfold rd_T63
  rw [Int.toNat_natCast, List.getD_eq_getElem?_getD, List.getElem?_eq_getElem h]
  rfl

theorem eqJobS_l (xs : List S63) (hn : xs.length ≤ 4611686018427387904) : ∀ (d i : Nat), i + d = xs.length → Ev (fun k => laws_eqJobS.l0 k xs xs (i : Int)) true := by
  intro d
  induction d with
  | zero =>
    intro i hi
    refine ev_succ ?_
    simp only [laws_eqJobS.l0, if_neg (show ¬ (i : Int) < (xs.length : Int) by omega)]
    exact ev_now _
  | succ d ih =>
    intro i hi
    refine ev_succ ?_
    simp only [laws_eqJobS.l0, laws_eqJob.f, if_true, Option.bind_some, if_pos (show (i : Int) < (xs.length : Int) by omega), if_pos (show (0 : Int) ≤ (i : Int) by omega), wsucc i (by omega)]
    exact ih (i + 1) (by omega)
theorem eqJobS_ev (xs : List S63) (hn : xs.length ≤ 4611686018427387904) : Ev (fun k => laws_eqJobS.f k xs xs) true := by
  unfold laws_eqJobS.f
  simp only [if_true]
  exact eqJobS_l xs hn xs.length 0 (by omega)

theorem conv_I64 (l : List S67) (hg : ∀ x ∈ l, G67 x) (i : Nat) (hi : i < (l.map conv).length) : I64 (l.map conv)[i].f0 ∧ I64 (l.map conv)[i].f1 ∧ I64 (l.map conv)[i].f2 ∧ I64 (l.map conv)[i].f3 := by
  simp only [List.getElem_map, conv]
  exact hg _ (List.getElem_mem _)

theorem rdI_set (xs : List S63) (i : Nat) (h : i < xs.length) (v : S63) : rd_T63 (xs.set i v) (i : Int) = v := by
  rw [rdI _ i (by rw [List.length_set]; exact h)]
  simp
theorem markJobS_l : ∀ (d i m : Nat) (xs : List S63), i + d = xs.length → m + 4 * d ≤ 1152921504606846976 → xs.length ≤ 1152921504606846976 →
    ∃ (q : Nat) (ys : List S63), Ev (fun k => laws_markJobS.l0 k xs (m : Int) (i : Int)) ((q : Int), ys) ∧ ys.length = xs.length ∧ ys.take i = xs.take i ∧ m ≤ q ∧ q ≤ m + 4 * d ∧ Ev (fun k => laws_heldJobS.l0 k ys (m : Int) (i : Int)) (q : Int) := by
  intro d
  induction d with
  | zero =>
    intro i m xs hi hmd hxl
    refine ⟨m, xs, ev_succ ?_, rfl, rfl, Nat.le_refl _, by omega, ev_succ ?_⟩
    · simp only [laws_markJobS.l0, if_neg (show ¬ (i : Int) < (xs.length : Int) by omega)]
      exact ev_now _
    · simp only [laws_heldJobS.l0, if_neg (show ¬ (i : Int) < (xs.length : Int) by omega)]
      exact ev_now _
  | succ d ih =>
    intro i m xs hi hmd hxl
    obtain ⟨q, ys, h1, h2, h3, h4, h4', h5⟩ := ih (i + 1) (m + 4) (xs.set i ⟨(m : Int), ((m + 1 : Nat) : Int), ((m + 2 : Nat) : Int), ((m + 3 : Nat) : Int)⟩) (by rw [List.length_set]; omega) (by omega) (by rw [List.length_set]; omega)
    rw [List.length_set] at h2
    rw [take_set_succ xs i _ (by omega)] at h3
    have hy : ys[i]'(by omega) = ⟨(m : Int), ((m + 1 : Nat) : Int), ((m + 2 : Nat) : Int), ((m + 3 : Nat) : Int)⟩ := by
      have := congrArg (fun l => l[i]?) h3
      simp only [List.getElem?_take, if_pos (show i < i + 1 by omega)] at this
      rw [List.getElem?_append_right (by simp; omega), List.getElem?_eq_getElem (by omega)] at this
      simpa [Nat.min_eq_left (show i ≤ xs.length by omega)] using this
    refine ⟨q, ys, ev_succ ?_, h2, ?_, by omega, by omega, ev_succ ?_⟩
    · simp only [laws_markJobS.l0, Option.bind_some, if_pos (show (i : Int) < (xs.length : Int) by omega), if_pos (show (0 : Int) ≤ (i : Int) by omega), wsucc i (by omega), wsucc m (by omega), wsucc (m + 1) (by omega), wsucc (m + 2) (by omega), wsucc (m + 3) (by omega), Int.toNat_natCast, rdI_set xs i (by omega), List.set_set]
      exact h1
    · have := congrArg (fun l => l.take i) h3
      simp only [List.take_take, Nat.min_eq_left (show i ≤ i + 1 by omega)] at this
      rw [this, List.take_append_of_le_length (by simp; omega), List.take_take, Nat.min_self]
    · simp only [laws_heldJobS.l0, if_pos (show (i : Int) < (ys.length : Int) by omega), if_pos (show (0 : Int) ≤ (i : Int) by omega), wsucc i (by omega), wsucc m (by omega), wsucc (m + 1) (by omega), wsucc (m + 2) (by omega), wsucc (m + 3) (by omega), rdI ys i (by omega), hy, if_true]
      exact h5
theorem markJobS_ev (xs : List S63) (h : xs.length ≤ 1048576) : ∃ (q : Nat) (ys : List S63), 1 ≤ q ∧ Ev (fun k => laws_markJobS.f k xs 1) ((q : Int), ys) ∧ Ev (fun k => laws_heldJobS.f k ys 1) (q : Int) := by
  obtain ⟨q, ys, h1, h2, h3, h4, h4', h5⟩ := markJobS_l xs.length 0 1 xs (by omega) (by omega) (by omega)
  exact ⟨q, ys, h4, h1, h5⟩

theorem markJobS_from (xs : List S63) (h : xs.length ≤ 1048576) (m : Nat) (hm : m ≤ 1000000000) : ∃ (q : Nat) (ys : List S63), m ≤ q ∧ q ≤ m + 4194304 ∧ Ev (fun k => laws_markJobS.f k xs (m : Int)) ((q : Int), ys) := by
  obtain ⟨q, ys, h1, h2, h3, h4, h4', h5⟩ := markJobS_l xs.length 0 m xs (by omega) (by omega) (by omega)
  exact ⟨q, ys, h4, by omega, h1⟩
theorem markJobS_from1 (xs : List S63) (h : xs.length ≤ 1048576) : ∃ (q : Nat) (ys : List S63), 1 ≤ q ∧ q ≤ 1 + 4194304 ∧ Ev (fun k => laws_markJobS.f k xs 1) ((q : Int), ys) := markJobS_from xs h 1 (by omega)

theorem eqIntS_l (xs : List Int) (hn : xs.length ≤ 4611686018427387904) : ∀ (d i : Nat), i + d = xs.length → Ev (fun k => laws_eqIntS.l0 k xs xs (i : Int)) true := by
  intro d
  induction d with
  | zero =>
    intro i hi
    refine ev_succ ?_
    simp only [laws_eqIntS.l0, if_neg (show ¬ (i : Int) < (xs.length : Int) by omega)]
    exact ev_now _
  | succ d ih =>
    intro i hi
    refine ev_succ ?_
    simp only [laws_eqIntS.l0, if_true, if_pos (show (i : Int) < (xs.length : Int) by omega), if_pos (show (0 : Int) ≤ (i : Int) by omega), wsucc i (by omega)]
    exact ih (i + 1) (by omega)
theorem eqIntS_ev (xs : List Int) (hn : xs.length ≤ 4611686018427387904) : Ev (fun k => laws_eqIntS.f k xs xs) true := by
  unfold laws_eqIntS.f
  simp only [if_true]
  exact eqIntS_l xs hn xs.length 0 (by omega)

theorem rdN (xs : List Int) (i : Nat) (h : i < xs.length) : rd xs (i : Int) = xs[i] := by
  unfold rd
  rw [Int.toNat_natCast, List.getD_eq_getElem?_getD, List.getElem?_eq_getElem h]
  rfl

theorem markIntS_l : ∀ (d i m : Nat) (xs : List Int), i + d = xs.length → m + d ≤ 1152921504606846976 → xs.length ≤ 1152921504606846976 →
    ∃ (q : Nat) (ys : List Int), Ev (fun k => laws_markIntS.l0 k xs (m : Int) (i : Int)) ((q : Int), ys) ∧ ys.length = xs.length ∧ ys.take i = xs.take i ∧ m ≤ q ∧ q ≤ m + d ∧ Ev (fun k => laws_heldIntS.l0 k ys (m : Int) (i : Int)) (q : Int) := by
  intro d
  induction d with
  | zero =>
    intro i m xs hi hmd hxl
    refine ⟨m, xs, ev_succ ?_, rfl, rfl, Nat.le_refl _, by omega, ev_succ ?_⟩
    · simp only [laws_markIntS.l0, if_neg (show ¬ (i : Int) < (xs.length : Int) by omega)]
      exact ev_now _
    · simp only [laws_heldIntS.l0, if_neg (show ¬ (i : Int) < (xs.length : Int) by omega)]
      exact ev_now _
  | succ d ih =>
    intro i m xs hi hmd hxl
    obtain ⟨q, ys, h1, h2, h3, h4, h4', h5⟩ := ih (i + 1) (m + 1) (xs.set i (m : Int)) (by rw [List.length_set]; omega) (by omega) (by rw [List.length_set]; omega)
    rw [List.length_set] at h2
    rw [take_set_succ xs i _ (by omega)] at h3
    have hy : ys[i]'(by omega) = (m : Int) := by
      have := congrArg (fun l => l[i]?) h3
      simp only [List.getElem?_take, if_pos (show i < i + 1 by omega)] at this
      rw [List.getElem?_append_right (by simp; omega), List.getElem?_eq_getElem (by omega)] at this
      simpa [Nat.min_eq_left (show i ≤ xs.length by omega)] using this
    have hx : i < xs.length := by omega
    refine ⟨q, ys, ev_succ ?_, h2, ?_, by omega, by omega, ev_succ ?_⟩
    · simp only [laws_markIntS.l0, if_pos (show (i : Int) < (xs.length : Int) by omega), if_pos (show (0 : Int) ≤ (i : Int) by omega), Int.toNat_natCast, wsucc m (by omega), wsucc i (by omega)]
      exact h1
    · have := congrArg (fun l => l.take i) h3
      simp only [List.take_take, Nat.min_eq_left (show i ≤ i + 1 by omega)] at this
      rw [this, List.take_append_of_le_length (by simp; omega), List.take_take, Nat.min_self]
    · simp only [laws_heldIntS.l0, if_pos (show (i : Int) < (ys.length : Int) by omega), if_pos (show (0 : Int) ≤ (i : Int) by omega), rdN ys i (by omega), hy, if_true, wsucc m (by omega), wsucc i (by omega)]
      exact h5
theorem markIntS_ev (xs : List Int) (h : xs.length ≤ 1048576) : ∃ (q : Nat) (ys : List Int), 1 ≤ q ∧ Ev (fun k => laws_markIntS.f k xs 1) ((q : Int), ys) ∧ Ev (fun k => laws_heldIntS.f k ys 1) (q : Int) := by
  obtain ⟨q, ys, h1, h2, h3, h4, h4', h5⟩ := markIntS_l xs.length 0 1 xs (by omega) (by omega) (by omega)
  exact ⟨q, ys, h4, h1, h5⟩

def idsW (n : Nat) : List Int := (List.range n).map (fun (i : Nat) => (i : Int))
theorem idsW_len (n : Nat) : (idsW n).length = n := by simp [idsW]
theorem idsW_mem {n : Nat} {b : Int} (h : b ∈ idsW n) : 0 ≤ b ∧ b < (n : Int) := by
  unfold idsW at h
  obtain ⟨i, hi, rfl⟩ := List.mem_map.1 h
  have := List.mem_range.1 hi
  omega
theorem idsW_succ (n : Nat) : idsW (n + 1) = idsW n ++ [(n : Int)] := by simp [idsW, List.range_succ]

theorem numbersTo_l0 (n : Nat) (hn : n ≤ 1048576) : ∀ (d i : Nat), i + d = n → Ev (fun k => impl_numbersTo.l0 k (n : Int) (idsW i) (i : Int)) (idsW n) := by
  intro d
  induction d with
  | zero =>
    intro i hi
    refine ev_succ ?_
    simp only [impl_numbersTo.l0, if_neg (show ¬ ((i : Int) < n) by omega)]
    rw [show i = n by omega]
    exact ev_now _
  | succ d ih =>
    intro i hi
    refine ev_succ ?_
    simp only [impl_numbersTo.l0, if_pos (show (i : Int) < n by omega), if_pos (show (idsW i).length < 17592186044416 by rw [idsW_len]; omega), w64 (x := (i : Int) + 1) (by omega) (by omega)]
    have := ih (i + 1) (by omega)
    rw [idsW_succ] at this
    exact this
theorem numbersTo_ev (n : Nat) (hn : n ≤ 1048576) : Ev (fun k => impl_numbersTo.f k (n : Int)) (idsW n) := numbersTo_l0 n hn n 0 (by omega)

theorem within_eq (a b c : Int) : impl_within.f a b c = some (decide (b ≤ a) && decide (a ≤ c)) := by
  unfold impl_within.f
  by_cases h : b ≤ a
  · rw [if_pos h]; simp [h]
  · rw [if_neg h]; simp [h]

/-- A job's numbers are in their bounds. -/
def okJ (x : S63) : Bool := decide (1 ≤ x.f0) && (decide (x.f0 ≤ 50) && (decide (0 ≤ x.f1) && (decide (x.f1 ≤ 50) && (decide (0 ≤ x.f2) && (decide (x.f2 ≤ 500) && (decide (0 ≤ x.f3) && decide (x.f3 ≤ 500)))))))
def goodB (l : List S63) : Bool := decide (l.length ≤ 8) && l.all okJ
theorem isDate_eq (a : Int) : impl_isDate.f a = some (decide (0 ≤ a) && decide (a ≤ 500)) := by
  unfold impl_isDate.f
  rw [within_eq]
  rfl
theorem job_chain (x : S63) (o : Option Bool) : (if (decide (1 ≤ x.f0) && decide (x.f0 ≤ 50)) = true then (if (decide (0 ≤ x.f1) && decide (x.f1 ≤ 50)) = true then (if (decide (0 ≤ x.f2) && decide (x.f2 ≤ 500)) = true then (if (decide (0 ≤ x.f3) && decide (x.f3 ≤ 500)) = true then o else some false) else some false) else some false) else some false) = if okJ x = true then o else some false := by
  unfold okJ
  by_cases a1 : 1 ≤ x.f0 <;> by_cases a2 : x.f0 ≤ 50 <;> simp [a1, a2]
  by_cases b1 : 0 ≤ x.f1 <;> by_cases b2 : x.f1 ≤ 50 <;> simp [b1, b2]
  by_cases c1 : 0 ≤ x.f2 <;> by_cases c2 : x.f2 ≤ 500 <;> simp [c1, c2]
theorem IsJobs_l (xs : List S63) (hn : xs.length ≤ 4611686018427387904) : ∀ (d i : Nat), i + d = xs.length → Ev (fun k => impl_IsJobs.l0 k xs (xs.length : Int) (i : Int)) ((xs.drop i).all okJ) := by
  intro d
  induction d with
  | zero =>
    intro i hi
    refine ev_succ ?_
    simp only [impl_IsJobs.l0, if_neg (show ¬ (i : Int) < (xs.length : Int) by omega), List.drop_of_length_le (show xs.length ≤ i by omega)]
    exact ev_now _
  | succ d ih =>
    intro i hi
    refine ev_succ ?_
    have hx : i < xs.length := by omega
    have hih := ih (i + 1) (by omega)
    rw [List.drop_eq_getElem_cons hx, List.all_cons]
    simp only [impl_IsJobs.l0, within_eq, isDate_eq, Option.bind_some, if_pos (show (i : Int) < (xs.length : Int) by omega), if_pos (show (0 : Int) ≤ (i : Int) by omega), wsucc i (by omega), rdI xs i hx]
    generalize xs[i] = x at *
    simp only [job_chain]
    by_cases c : okJ x = true
    · simpa only [c, if_true, Bool.true_and] using hih
    · have c' : okJ x = false := by simpa using c
      simp only [c', Bool.false_and]
      exact ev_now _
theorem IsJobs_ev (xs : List S63) (hn : xs.length ≤ 4611686018427387904) : Ev (fun k => impl_IsJobs.f k xs) (goodB xs) := by
  unfold impl_IsJobs.f goodB
  by_cases h : xs.length ≤ 8
  · simp only [if_neg (show ¬ ((xs.length : Int) > 8) by omega), decide_eq_true h, Bool.true_and]
    exact IsJobs_l xs hn xs.length 0 (by omega)
  · simp only [if_pos (show ((xs.length : Int) > 8) by omega), decide_eq_false h, Bool.false_and]
    exact ev_now _

def freeJ (x : S63) : Bool := decide (x.f2 = 0)
def plainB (l : List S63) : Bool := goodB l && l.all freeJ
theorem isPlain_l (xs : List S63) (hn : xs.length ≤ 4611686018427387904) : ∀ (d i : Nat), i + d = xs.length → Ev (fun k => impl_isPlain.l0 k xs (xs.length : Int) (i : Int)) ((xs.drop i).all freeJ) := by
  intro d
  induction d with
  | zero =>
    intro i hi
    refine ev_succ ?_
    simp only [impl_isPlain.l0, if_neg (show ¬ (i : Int) < (xs.length : Int) by omega), List.drop_of_length_le (show xs.length ≤ i by omega)]
    exact ev_now _
  | succ d ih =>
    intro i hi
    refine ev_succ ?_
    have hx : i < xs.length := by omega
    have hih := ih (i + 1) (by omega)
    rw [List.drop_eq_getElem_cons hx, List.all_cons]
    simp only [impl_isPlain.l0, if_pos (show (i : Int) < (xs.length : Int) by omega), if_pos (show (0 : Int) ≤ (i : Int) by omega), wsucc i (by omega), rdI xs i hx]
    by_cases c : (xs[i]).f2 = 0
    · simp only [if_pos c, freeJ, decide_eq_true c, Bool.true_and]
      exact hih
    · simp only [if_neg c, freeJ, decide_eq_false c, Bool.false_and]
      exact ev_now _
theorem isPlain_ev (xs : List S63) (hn : xs.length ≤ 4611686018427387904) : Ev (fun k => impl_isPlain.f k xs) (xs.all freeJ) := by
  unfold impl_isPlain.f
  exact isPlain_l xs hn xs.length 0 (by omega)

theorem IsPlain_ev (xs : List S63) (hn : xs.length ≤ 4611686018427387904) : Ev (fun k => impl_IsPlain.f k xs) (plainB xs) := by
  unfold impl_IsPlain.f plainB
  refine ev_bind (IsJobs_ev xs hn) ?_
  cases goodB xs
  · simp only [Bool.false_eq_true, if_false, Bool.false_and]; exact ev_now _
  · simp only [if_true, Bool.true_and]; exact ev_bind (isPlain_ev xs hn) (ev_now _)

theorem l1In_eq (a b c : Int) : spec_l1In.f a b c = some (decide (b ≤ a) && decide (a ≤ c)) := by
  unfold spec_l1In.f
  by_cases h : b ≤ a
  · rw [if_pos h]; simp [h]
  · rw [if_neg h]; simp [h]

theorem l2Job_eq (x : S63) : spec_l2Job.f x.f0 x.f1 x.f2 x.f3 = some (okJ x) := by
  unfold spec_l2Job.f okJ
  simp only [l1In_eq, Option.bind_some]
  by_cases a1 : 1 ≤ x.f0 <;> by_cases a2 : x.f0 ≤ 50 <;> simp [a1, a2]
  by_cases b1 : 0 ≤ x.f1 <;> by_cases b2 : x.f1 ≤ 50 <;> simp [b1, b2]
  by_cases c1 : 0 ≤ x.f2 <;> by_cases c2 : x.f2 ≤ 500 <;> simp [c1, c2]
theorem l2Good_l (xs : List S63) (hn : xs.length ≤ 4611686018427387904) : ∀ (d i : Nat), i + d = xs.length → Ev (fun k => spec_l2Good.l0 k xs (i : Int)) ((xs.drop i).all okJ && decide (xs.length ≤ 8)) := by
  intro d
  induction d with
  | zero =>
    intro i hi
    refine ev_succ ?_
    simp only [spec_l2Good.l0, if_neg (show ¬ (i : Int) < (xs.length : Int) by omega), List.drop_of_length_le (show xs.length ≤ i by omega)]
    refine ev_const ?_
    simp
    omega
  | succ d ih =>
    intro i hi
    refine ev_succ ?_
    have hx : i < xs.length := by omega
    have hih := ih (i + 1) (by omega)
    rw [List.drop_eq_getElem_cons hx, List.all_cons]
    simp only [spec_l2Good.l0, if_pos (show (i : Int) < (xs.length : Int) by omega), if_pos (show (0 : Int) ≤ (i : Int) by omega), wsucc i (by omega), rdI xs i hx, l2Job_eq, Option.bind_some]
    by_cases c : okJ xs[i] = true
    · simpa only [c, if_true, Bool.true_and] using hih
    · have c' : okJ xs[i] = false := by simpa using c
      simp only [c', Bool.false_and]
      exact ev_now _
theorem l2Good_ev (xs : List S63) (hn : xs.length ≤ 4611686018427387904) : Ev (fun k => spec_l2Good.f k xs) (goodB xs) := by
  unfold spec_l2Good.f goodB
  rw [Bool.and_comm]
  exact l2Good_l xs hn xs.length 0 (by omega)

def freeJ' (x : S63) : Bool := decide (¬ x.f2 > 0)
theorem l4Free_l (xs : List S63) (hn : xs.length ≤ 4611686018427387904) : ∀ (d i : Nat), i + d = xs.length → Ev (fun k => spec_l4Free.l0 k xs (i : Int)) ((xs.drop i).all freeJ') := by
  intro d
  induction d with
  | zero =>
    intro i hi
    refine ev_succ ?_
    simp only [spec_l4Free.l0, if_neg (show ¬ (i : Int) < (xs.length : Int) by omega), List.drop_of_length_le (show xs.length ≤ i by omega)]
    exact ev_now _
  | succ d ih =>
    intro i hi
    refine ev_succ ?_
    have hx : i < xs.length := by omega
    have hih := ih (i + 1) (by omega)
    rw [List.drop_eq_getElem_cons hx, List.all_cons]
    simp only [spec_l4Free.l0, if_pos (show (i : Int) < (xs.length : Int) by omega), if_pos (show (0 : Int) ≤ (i : Int) by omega), wsucc i (by omega), rdI xs i hx]
    by_cases c : (xs[i]).f2 > 0
    · simp only [if_pos c, freeJ', decide_eq_false (show ¬ ¬ (xs[i]).f2 > 0 by omega), Bool.false_and]
      exact ev_now _
    · simp only [if_neg c, freeJ', decide_eq_true c, Bool.true_and]
      exact hih
theorem l4Free_ev (xs : List S63) (hn : xs.length ≤ 4611686018427387904) : Ev (fun k => spec_l4Free.f k xs) (xs.all freeJ') := by
  unfold spec_l4Free.f
  exact l4Free_l xs hn xs.length 0 (by omega)
theorem good_free (xs : List S63) (h : goodB xs = true) : xs.all freeJ' = xs.all freeJ := by
  unfold goodB at h
  simp only [Bool.and_eq_true, List.all_eq_true] at h
  rw [Bool.eq_iff_iff]
  simp only [List.all_eq_true]
  constructor
  · intro hh x hx
    have a := hh x hx
    have b := h.2 x hx
    simp only [okJ, Bool.and_eq_true, decide_eq_true_eq] at b
    simp only [freeJ', decide_eq_true_eq] at a
    simp only [freeJ, decide_eq_true_eq]
    omega
  · intro hh x hx
    have a := hh x hx
    simp only [freeJ, decide_eq_true_eq] at a
    simp only [freeJ', decide_eq_true_eq]
    omega

theorem l6Good_ev (xs : List S63) (hn : xs.length ≤ 4611686018427387904) : Ev (fun k => spec_l6Good.f k xs) (plainB xs) := by
  unfold spec_l6Good.f plainB
  refine ev_bind (l2Good_ev xs hn) ?_
  cases hg : goodB xs
  · simp only [Bool.false_eq_true, if_false, Bool.false_and]; exact ev_now _
  · simp only [if_true, Bool.true_and]
    rw [← good_free xs hg]
    exact ev_bind (l4Free_ev xs hn) (ev_now _)

theorem plain_good {xs : List S63} (h : plainB xs = true) : goodB xs = true := by
  unfold plainB at h
  simp only [Bool.and_eq_true] at h
  exact h.1

theorem good_len {xs : List S63} (h : goodB xs = true) : xs.length ≤ 8 := by
  unfold goodB at h
  simp only [Bool.and_eq_true, decide_eq_true_eq] at h
  exact h.1
theorem good_at {xs : List S63} (h : goodB xs = true) (i : Nat) (hi : i < xs.length) : 1 ≤ xs[i].f0 ∧ xs[i].f0 ≤ 50 ∧ 0 ≤ xs[i].f1 ∧ xs[i].f1 ≤ 50 ∧ 0 ≤ xs[i].f2 ∧ xs[i].f2 ≤ 500 ∧ 0 ≤ xs[i].f3 ∧ xs[i].f3 ≤ 500 := by
  unfold goodB at h
  simp only [Bool.and_eq_true, List.all_eq_true] at h
  have b := h.2 xs[i] (List.getElem_mem hi)
  simp only [okJ, Bool.and_eq_true, decide_eq_true_eq] at b
  obtain ⟨a1, a2, b1, b2, c1, c2, d1, d2⟩ := b
  exact ⟨a1, a2, b1, b2, c1, c2, d1, d2⟩

/-- Where a number goes among sorted ones: ahead of the first that it comes ahead of. -/
def posW (lt : Int → Int → Bool) (i : Int) (o : List Int) : Nat := o.findIdx (fun b => lt i b)
def insW (lt : Int → Int → Bool) (i : Int) (o : List Int) : List Int := o.take (posW lt i o) ++ i :: o.drop (posW lt i o)
def sortW (lt : Int → Int → Bool) : List Int → List Int → List Int
  | [], o => o
  | i :: t, o => sortW lt t (insW lt i o)
structure OrdW (lt : Int → Int → Bool) (D : Int → Prop) : Prop where
  asym : ∀ a b, D a → D b → lt a b = true → lt b a = false
  co : ∀ i a b, D i → D a → D b → lt i a = true → lt b a = false → lt i b = true
abbrev SortedW (lt : Int → Int → Bool) (o : List Int) : Prop := o.Pairwise (fun a b => lt b a = false)
theorem posW_le (lt : Int → Int → Bool) (i : Int) (o : List Int) : posW lt i o ≤ o.length := List.findIdx_le_length
theorem posW_before {lt : Int → Int → Bool} {i : Int} {o : List Int} {j : Nat} (h : j < posW lt i o) : lt i (o[j]'(Nat.lt_of_lt_of_le h (posW_le _ _ _))) = false := by
  have := List.not_of_lt_findIdx (p := fun b => lt i b) h
  simpa using this
theorem posW_at {lt : Int → Int → Bool} {i : Int} {o : List Int} (h : posW lt i o < o.length) : lt i (o[posW lt i o]'h) = true := List.findIdx_getElem (w := h)
theorem posW_behind {lt : Int → Int → Bool} {D : Int → Prop} (H : OrdW lt D) {i : Int} {o : List Int} (hi : D i) (ho : ∀ b ∈ o, D b) (hs : SortedW lt o) {j : Nat} (hj : posW lt i o ≤ j) (hl : j < o.length) : lt i (o[j]'hl) = true := by
  have hp : posW lt i o < o.length := by omega
  have h0 := posW_at hp
  rcases Nat.lt_or_ge (posW lt i o) j with h | h
  · have h1 := List.pairwise_iff_getElem.1 hs _ _ hp hl h
    exact H.co i _ _ hi (ho _ (List.getElem_mem hp)) (ho _ (List.getElem_mem hl)) h0 h1
  · have : j = posW lt i o := by omega
    subst this
    exact h0
theorem insW_perm (lt : Int → Int → Bool) (i : Int) (o : List Int) : (insW lt i o).Perm (i :: o) := by
  unfold insW
  refine List.perm_middle.trans ?_
  rw [List.take_append_drop]
theorem insW_sorted {lt : Int → Int → Bool} {D : Int → Prop} (H : OrdW lt D) {i : Int} {o : List Int} (hi : D i) (ho : ∀ b ∈ o, D b) (hs : SortedW lt o) : SortedW lt (insW lt i o) := by
  unfold insW SortedW
  rw [List.pairwise_append]
  refine ⟨hs.sublist (List.take_sublist _ _), List.pairwise_cons.2 ⟨?_, hs.sublist (List.drop_sublist _ _)⟩, ?_⟩
  · intro b hb
    obtain ⟨j, hj, rfl⟩ := List.mem_iff_getElem.1 hb
    rw [List.getElem_drop]
    have hl : posW lt i o + j < o.length := by rw [List.length_drop] at hj; omega
    exact H.asym _ _ hi (ho _ (List.getElem_mem hl)) (posW_behind H hi ho hs (by omega) hl)
  · intro a ha b hb
    obtain ⟨j, hj, rfl⟩ := List.mem_iff_getElem.1 ha
    have hjp : j < posW lt i o := by rw [List.length_take] at hj; omega
    rw [List.getElem_take]
    rcases List.mem_cons.1 hb with rfl | hb
    · exact posW_before hjp
    · obtain ⟨q, hq, rfl⟩ := List.mem_iff_getElem.1 hb
      have hl : posW lt i o + q < o.length := by rw [List.length_drop] at hq; omega
      rw [List.getElem_drop]
      exact List.pairwise_iff_getElem.1 hs _ _ _ hl (by omega)
theorem sortW_perm (lt : Int → Int → Bool) : ∀ (l o : List Int), (sortW lt l o).Perm (l ++ o)
  | [], o => by unfold sortW; exact List.Perm.refl _
  | i :: t, o => by
    unfold sortW
    refine (sortW_perm lt t _).trans ?_
    refine ((List.Perm.append_left t (insW_perm lt i o))).trans ?_
    exact List.perm_middle
theorem sortW_sorted {lt : Int → Int → Bool} {D : Int → Prop} (H : OrdW lt D) : ∀ (l o : List Int), (∀ b ∈ l, D b) → (∀ b ∈ o, D b) → SortedW lt o → SortedW lt (sortW lt l o)
  | [], o, _, _, hs => by unfold sortW; exact hs
  | i :: t, o, hl, ho, hs => by
    unfold sortW
    refine sortW_sorted H t _ (fun b hb => hl b (by simp [hb])) ?_ (insW_sorted H (hl i (by simp)) ho hs)
    intro b hb
    rcases List.mem_cons.1 ((insW_perm lt i o).mem_iff.1 hb) with rfl | h
    · exact hl _ (by simp)
    · exact ho b h
theorem rdW (o : List Int) (n : Nat) (h : n < o.length) : rd o (n : Int) = o[n] := by
  simp [rd]
  rw [List.getElem?_eq_getElem h]; rfl
theorem sbK_pos {p : Int → Option Bool} {f : Int → Bool} {o : List Int} {t : Nat} (hp : ∀ b ∈ o, p b = some (f b)) (ht : t ≤ o.length) (h1 : ∀ j (hj : j < o.length), t ≤ j → f o[j] = true) (h2 : ∀ j (hj : j < o.length), j < t → f o[j] = false) :
    ∀ n, n ≤ o.length → t ≤ n → sbK p o n = some t
  | 0, _, h => by
    have : t = 0 := by omega
    subst this
    rfl
  | n + 1, hn, h => by
    unfold sbK
    rw [rdW o n (by omega), hp _ (List.getElem_mem (by omega)), Option.bind_some]
    rcases Nat.lt_or_ge n t with hlt | hge
    · rw [h2 n (by omega) hlt, if_neg (by simp)]
      congr 1; omega
    · rw [h1 n (by omega) hge, if_pos rfl]
      exact sbK_pos hp ht h1 h2 n (by omega) hge
theorem sbL_eq {p : Int → Int → Option Bool} {lt : Int → Int → Bool} {D : Int → Prop} (H : OrdW lt D) (hp : ∀ a b, D a → D b → p a b = some (lt a b)) : ∀ (l o : List Int), (∀ b ∈ l, D b) → (∀ b ∈ o, D b) → SortedW lt o → sbL p l o = some (sortW lt l o)
  | [], o, _, _, _ => rfl
  | i :: t, o, hl, ho, hs => by
    have hi : D i := hl i (by simp)
    unfold sbL sortW
    rw [sbK_pos (f := fun b => lt i b) (t := posW lt i o) (fun b hb => hp i b hi (ho b hb)) (posW_le _ _ _) (fun j hj h => posW_behind H hi ho hs h hj) (fun j hj h => posW_before h) _ (Nat.le_refl _) (posW_le _ _ _), Option.bind_some]
    refine sbL_eq H hp t _ (fun b hb => hl b (by simp [hb])) ?_ (insW_sorted H hi ho hs)
    intro b hb
    rcases List.mem_cons.1 ((insW_perm lt i o).mem_iff.1 hb) with rfl | h
    · exact hi
    · exact ho b h
/-- Two sorted forms of the same numbers, where no two tie. -/
theorem sortedW_unique {lt : Int → Int → Bool} {a b : List Int} (hd : ∀ x ∈ a, ∀ y ∈ b, lt x y = false → lt y x = false → x = y) (ha : SortedW lt a) (hb : SortedW lt b) (hp : a.Perm b) : a = b :=
  List.Perm.eq_of_pairwise (fun x y hx hy h1 h2 => hd x hx y hy h2 h1) ha hb hp
theorem sortW_append (lt : Int → Int → Bool) : ∀ (a b o : List Int), sortW lt (a ++ b) o = sortW lt b (sortW lt a o)
  | [], b, o => rfl
  | i :: t, b, o => by simp only [List.cons_append, sortW]; exact sortW_append lt t b _

abbrev inJ (n : Nat) (i : Int) : Prop := 0 ≤ i ∧ i < (n : Int)
theorem inJ_nat {n : Nat} {a : Int} (h : inJ n a) : ∃ i : Nat, i < n ∧ a = (i : Int) := ⟨a.toNat, by have := h.1; have := h.2; omega, by have := h.1; omega⟩
theorem rd_nat (l : List S63) {a : Int} (h : inJ l.length a) : rd_T63 l a = l[a.toNat]'(by have := h.1; have := h.2; omega) := by
  obtain ⟨i, hi, rfl⟩ := inJ_nat h
  rw [rdI l i hi]
  rfl

def ltN (a b : Int) : Bool := decide (a < b)
def ltD (l : List S63) (a b : Int) : Bool := decide ((rd_T63 l a).f3 < (rd_T63 l b).f3) || (decide ((rd_T63 l a).f3 = (rd_T63 l b).f3) && decide ((rd_T63 l a).f0 < (rd_T63 l b).f0))
def ltS (l : List S63) (a b : Int) : Bool := ltD l a b || (decide ((rd_T63 l a).f3 = (rd_T63 l b).f3) && (decide ((rd_T63 l a).f0 = (rd_T63 l b).f0) && decide (a < b)))
theorem ordN (D : Int → Prop) : OrdW ltN D := by
  constructor
  · intro a b _ _ h; unfold ltN at *; simp only [decide_eq_true_eq, decide_eq_false_iff_not] at *; omega
  · intro i a b _ _ _ h1 h2; unfold ltN at *; simp only [decide_eq_true_eq, decide_eq_false_iff_not] at *; omega
theorem ordD (l : List S63) (D : Int → Prop) : OrdW (ltD l) D := by
  constructor
  · intro a b _ _ h
    unfold ltD at *
    generalize (rd_T63 l a).f3 = x, (rd_T63 l b).f3 = y, (rd_T63 l a).f0 = u, (rd_T63 l b).f0 = v at *
    simp only [Bool.or_eq_true, Bool.and_eq_true, Bool.or_eq_false_iff, Bool.and_eq_false_iff, decide_eq_true_eq, decide_eq_false_iff_not] at *
    omega
  · intro i a b _ _ _ h1 h2
    unfold ltD at *
    generalize (rd_T63 l a).f3 = x, (rd_T63 l b).f3 = y, (rd_T63 l a).f0 = u, (rd_T63 l b).f0 = v, (rd_T63 l i).f3 = p, (rd_T63 l i).f0 = q at *
    simp only [Bool.or_eq_true, Bool.and_eq_true, Bool.or_eq_false_iff, Bool.and_eq_false_iff, decide_eq_true_eq, decide_eq_false_iff_not] at *
    omega
theorem ordS (l : List S63) (D : Int → Prop) : OrdW (ltS l) D := by
  constructor
  · intro a b _ _ h
    unfold ltS ltD at *
    generalize (rd_T63 l a).f3 = x, (rd_T63 l b).f3 = y, (rd_T63 l a).f0 = u, (rd_T63 l b).f0 = v at *
    simp only [Bool.or_eq_true, Bool.and_eq_true, Bool.or_eq_false_iff, Bool.and_eq_false_iff, decide_eq_true_eq, decide_eq_false_iff_not] at *
    omega
  · intro i a b _ _ _ h1 h2
    unfold ltS ltD at *
    generalize (rd_T63 l a).f3 = x, (rd_T63 l b).f3 = y, (rd_T63 l a).f0 = u, (rd_T63 l b).f0 = v, (rd_T63 l i).f3 = p, (rd_T63 l i).f0 = q at *
    simp only [Bool.or_eq_true, Bool.and_eq_true, Bool.or_eq_false_iff, Bool.and_eq_false_iff, decide_eq_true_eq, decide_eq_false_iff_not] at *
    omega
theorem ltS_total (l : List S63) (a b : Int) (h1 : ltS l a b = false) (h2 : ltS l b a = false) : a = b := by
  unfold ltS ltD at *
  generalize (rd_T63 l a).f3 = x, (rd_T63 l b).f3 = y, (rd_T63 l a).f0 = u, (rd_T63 l b).f0 = v at *
  simp only [Bool.or_eq_false_iff, Bool.and_eq_false_iff, decide_eq_false_iff_not] at *
  omega
theorem ltS_not (l : List S63) {a b : Int} (h : a ≠ b) : (!ltS l a b) = ltS l b a := by
  cases h1 : ltS l a b with
  | true => exact ((ordS l (fun _ => True)).asym a b trivial trivial h1).symm
  | false =>
    cases h2 : ltS l b a with
    | true => rfl
    | false => exact absurd (ltS_total l a b h1 h2) h
theorem posW_congr {lt lt' : Int → Int → Bool} {i : Int} : ∀ {o : List Int}, (∀ b ∈ o, lt i b = lt' i b) → posW lt i o = posW lt' i o := by
  intro o
  unfold posW
  induction o with
  | nil => intro _; rfl
  | cons x o ih =>
    intro h
    rw [List.findIdx_cons, List.findIdx_cons, h x (by simp), ih (fun b hb => h b (by simp [hb]))]
theorem sortDS (l : List S63) : ∀ (t o : List Int), (∀ b ∈ o, ∀ i ∈ t, b ≤ i) → t.Pairwise (fun a b => a ≤ b) → sortW (ltD l) t o = sortW (ltS l) t o
  | [], o, _, _ => rfl
  | i :: t, o, h, hs => by
    have e : insW (ltD l) i o = insW (ltS l) i o := by
      unfold insW
      rw [posW_congr (lt := ltD l) (lt' := ltS l) (fun b hb => by
        have := h b hb i (by simp)
        unfold ltS
        rw [decide_eq_false (show ¬ i < b by omega), Bool.and_false, Bool.and_false, Bool.or_false])]
    unfold sortW
    rw [e]
    rw [List.pairwise_cons] at hs
    refine sortDS l t _ ?_ hs.2
    intro b hb j hj
    rcases List.mem_cons.1 ((insW_perm _ i o).mem_iff.1 hb) with rfl | hb
    · exact hs.1 j hj
    · exact h b hb j (by simp [hj])
/-- In ascending order. -/
def ascW (L : List Int) : List Int := sortW ltN L []
theorem ascW_perm (L : List Int) : (ascW L).Perm L := by
  have := sortW_perm ltN L []
  rw [List.append_nil] at this
  exact this
theorem ascW_sorted (L : List Int) : (ascW L).Pairwise (fun a b => a ≤ b) := by
  have := sortW_sorted (ordN (fun _ => True)) L [] (fun _ _ => trivial) (by simp) List.Pairwise.nil
  exact this.imp (fun h => by unfold ltN at h; have := of_decide_eq_false h; omega)
theorem ascW_id {L : List Int} (h : L.Pairwise (fun a b => a ≤ b)) : ascW L = L :=
  List.Perm.eq_of_pairwise (fun a b _ _ h1 h2 => by omega) (ascW_sorted L) h (ascW_perm L)
theorem idsW_asc (n : Nat) : (idsW n).Pairwise (fun a b => a ≤ b) := by
  unfold idsW
  rw [List.pairwise_map]
  exact List.pairwise_lt_range.imp (fun h => by omega)
/-- In due order. -/
def dueL (l : List S63) (L : List Int) : List Int := sortW (ltS l) L []
theorem dueL_perm (l : List S63) (L : List Int) : (dueL l L).Perm L := by
  have := sortW_perm (ltS l) L []
  rw [List.append_nil] at this
  exact this
theorem dueL_sorted (l : List S63) (L : List Int) : SortedW (ltS l) (dueL l L) := sortW_sorted (ordS l (fun _ => True)) L [] (fun _ _ => trivial) (by simp) List.Pairwise.nil
theorem dueL_congr (l : List S63) {L M : List Int} (h : L.Perm M) : dueL l L = dueL l M :=
  sortedW_unique (fun x _ y _ h1 h2 => ltS_total l x y h1 h2) (dueL_sorted l L) (dueL_sorted l M) ((dueL_perm l L).trans (h.trans (dueL_perm l M).symm))

theorem ascending_eq (L : List Int) (h : L.length < 17592186044416) : impl_ascending.f L = some (ascW L) := by
  unfold impl_ascending.f
  simp only [impl_sortedBy_147.f, if_pos h]
  rw [sbL_eq (p := fun a b => impl_ascending_1.f a b) (lt := ltN) (ordN (fun _ => True)) (fun a b _ _ => rfl) _ _ (fun _ _ => trivial) (by simp) List.Pairwise.nil]
  rfl

theorem closureD (l : List S63) {a b : Int} (ha : inJ l.length a) (hb : inJ l.length b) : impl_inDueOrder_1.f a b l = some (ltD l a b) := by
  unfold impl_inDueOrder_1.f ltD
  simp only [if_pos ha.1, if_pos ha.2, if_pos hb.1, if_pos hb.2]
  by_cases h1 : (rd_T63 l a).f3 < (rd_T63 l b).f3
  · simp only [if_pos h1, decide_eq_true h1, Bool.true_or]
  · simp only [if_neg h1, decide_eq_false h1, Bool.false_or]
    by_cases h2 : (rd_T63 l a).f3 = (rd_T63 l b).f3
    · simp only [if_pos h2, decide_eq_true h2, Bool.true_and]
    · simp only [if_neg h2, decide_eq_false h2, Bool.false_and]
theorem inDueOrder_eq (l : List S63) (L : List Int) (hL : ∀ b ∈ L, inJ l.length b) (hn : L.length < 17592186044416) : impl_inDueOrder.f l L = some (dueL l L) := by
  unfold impl_inDueOrder.f
  rw [ascending_eq L hn, Option.bind_some]
  have hp := ascW_perm L
  simp only [impl_sortedBy_124.f, if_pos (show (ascW L).length < 17592186044416 by rw [hp.length_eq]; exact hn)]
  rw [sbL_eq (ordD l (inJ l.length)) (fun a b ha hb => closureD l ha hb) _ _ (fun b hb => hL b (hp.mem_iff.1 hb)) (by simp) List.Pairwise.nil, Option.bind_some,
    sortDS l _ _ (by simp) (ascW_sorted L)]
  congr 1
  exact dueL_congr l hp

theorem sooner_eq (l : List S63) {a b : Int} (ha : inJ l.length a) (hb : inJ l.length b) : spec_l6Sooner.f l a b = some (ltS l a b) := by
  unfold spec_l6Sooner.f ltS ltD
  simp only [if_pos ha.1, if_pos ha.2, if_pos hb.1, if_pos hb.2]
  by_cases h1 : (rd_T63 l a).f3 = (rd_T63 l b).f3
  · simp only [if_pos h1, decide_eq_true h1, decide_eq_false (show ¬ (rd_T63 l a).f3 < (rd_T63 l b).f3 by omega), Bool.true_and, Bool.false_or]
    by_cases h2 : (rd_T63 l a).f0 = (rd_T63 l b).f0
    · simp only [if_pos h2, decide_eq_true h2, decide_eq_false (show ¬ (rd_T63 l a).f0 < (rd_T63 l b).f0 by omega), Bool.true_and, Bool.false_or]
    · simp only [if_neg h2, decide_eq_false h2, Bool.false_and, Bool.or_false]
  · simp only [if_neg h1, decide_eq_false h1, Bool.false_and, Bool.or_false]
theorem l6Due_l1 (l : List S63) (L out : List Int) (q : Nat) (hq : q < L.length) (hi : inJ l.length L[q]) (ho : ∀ b ∈ out, inJ l.length b) (hne : ∀ b ∈ out, b ≠ L[q]) (hlen : out.length ≤ 1048576) (hL : L.length ≤ 1048576) (r : List Int)
    (hnext : Ev (fun k => spec_l6Due.l0 k l L (insW (ltS l) L[q] out) (wrap64 ((q : Int) + 1))) r) : ∀ (d k : Nat), k + d = posW (ltS l) L[q] out → Ev (fun K => spec_l6Due.l1 K l L out (q : Int) (k : Int)) r := by
  have fin : ∀ k : Nat, k = posW (ltS l) L[q] out → ((out.take ((k : Nat) : Int).toNat ++ [L[q]]) ++ out.drop ((k : Nat) : Int).toNat) = insW (ltS l) L[q] out := by
    intro k hk
    subst hk
    simp [insW]
  have hp := posW_le (ltS l) L[q] out
  intro d
  induction d with
  | zero =>
    intro k hk
    have hk' : k = posW (ltS l) L[q] out := by omega
    refine ev_succ ?_
    have c0 : ([] : List Int).length + (out.take ((k : Nat) : Int).toNat).length < 17592186044416 := by simp only [List.length_take, List.length_nil]; omega
    have c1 : ((out.take ((k : Nat) : Int).toNat).length + [L[q]].length < 17592186044416) := by simp only [List.length_take, List.length_singleton]; omega
    have c2 : (((out.take ((k : Nat) : Int).toNat) ++ [L[q]]).length + (out.drop ((k : Nat) : Int).toNat).length < 17592186044416) := by simp only [List.length_append, List.length_take, List.length_drop, List.length_singleton]; omega
    by_cases hkl : k < out.length
    · have hlt : ltS l L[q] (out[k]'hkl) = true := by
        subst hk'
        exact posW_at hkl
      have hm : inJ l.length out[k] := ho _ (List.getElem_mem hkl)
      have hs : ltS l out[k] L[q] = false := (ordS l (fun _ => True)).asym _ _ trivial trivial hlt
      simp only [spec_l6Due.l1, if_pos (show ((k : Nat) : Int) < (out.length : Int) by omega), if_pos (show (0 : Int) ≤ ((k : Nat) : Int) by omega), if_pos (show (0 : Int) ≤ (q : Int) by omega), if_pos (show (q : Int) < (L.length : Int) by omega), rdW out k hkl, rdW L q hq, sooner_eq l hm hi, hs, Option.bind_some, Bool.false_eq_true, if_false, if_pos c0, List.nil_append, if_pos c1, if_pos c2, if_pos (show ((k : Nat) : Int) ≤ (out.length : Int) by omega), fin k hk']
      exact hnext
    · simp only [spec_l6Due.l1, if_neg (show ¬ ((k : Nat) : Int) < (out.length : Int) by omega), if_pos (show (0 : Int) ≤ ((k : Nat) : Int) by omega), if_pos (show ((k : Nat) : Int) ≤ (out.length : Int) by omega), if_pos (show (0 : Int) ≤ (q : Int) by omega), if_pos (show (q : Int) < (L.length : Int) by omega), rdW L q hq, Option.bind_some, if_pos c0, List.nil_append, if_pos c1, if_pos c2, fin k hk']
      exact hnext
  | succ d ih =>
    intro k hk
    refine ev_succ ?_
    have hkl : k < out.length := by omega
    have hm : inJ l.length out[k] := ho _ (List.getElem_mem hkl)
    have hlt : ltS l L[q] out[k] = false := posW_before (by omega)
    have hs : ltS l out[k] L[q] = true := by
      have := ltS_not l (fun h => hne _ (List.getElem_mem hkl) h.symm)
      rw [hlt] at this
      exact this.symm
    simp only [spec_l6Due.l1, if_pos (show ((k : Nat) : Int) < (out.length : Int) by omega), if_pos (show (0 : Int) ≤ ((k : Nat) : Int) by omega), if_pos (show (0 : Int) ≤ (q : Int) by omega), if_pos (show (q : Int) < (L.length : Int) by omega), rdW out k hkl, rdW L q hq, sooner_eq l hm hi, hs, Option.bind_some, if_true, w64 (x := ((k : Nat) : Int) + 1) (by omega) (by omega)]
    exact ih (k + 1) (by omega)
theorem l6Due_ev (l : List S63) (L : List Int) (hL : ∀ b ∈ L, inJ l.length b) (hd : L.Nodup) (hn : L.length ≤ 1048576) : Ev (fun k => spec_l6Due.f k l L) (dueL l L) := by
  have main : ∀ (d i : Nat), i + d = L.length → Ev (fun k => spec_l6Due.l0 k l L (sortW (ltS l) (L.take i) []) (i : Int)) (dueL l L) := by
    intro d
    induction d with
    | zero =>
      intro i hi
      refine ev_succ ?_
      simp only [spec_l6Due.l0, if_neg (show ¬ ((i : Int) < (L.length : Int)) by omega)]
      rw [List.take_of_length_le (by omega)]
      exact ev_now _
    | succ d ih =>
      intro i hi
      refine ev_succ ?_
      have hil : i < L.length := by omega
      simp only [spec_l6Due.l0, if_pos (show (i : Int) < (L.length : Int) by omega)]
      have hp := sortW_perm (ltS l) (L.take i) []
      rw [List.append_nil] at hp
      refine l6Due_l1 l L _ i hil (hL _ (List.getElem_mem hil)) (fun b hb => hL b (List.mem_of_mem_take (hp.mem_iff.1 hb))) (fun b hb he => ?_) (by rw [hp.length_eq, List.length_take]; omega) hn _ ?_ (posW (ltS l) L[i] (sortW (ltS l) (L.take i) [])) 0 (by omega)
      · obtain ⟨j, hj, rfl⟩ := List.mem_iff_getElem.1 (hp.mem_iff.1 hb)
        rw [List.length_take] at hj
        rw [List.getElem_take] at he
        have := (List.getElem_inj hd).1 he
        omega
      · have := ih (i + 1) (by omega)
        rw [List.take_succ_eq_append_getElem hil, sortW_append] at this
        rw [w64 (x := (i : Int) + 1) (by omega) (by omega)]
        exact this
  exact main L.length 0 (by omega)

theorem shrN (c i : Nat) (h : i ≤ 64) : shr .i64 (c : Int) (i : Int) = ((c / 2 ^ i : Nat) : Int) := by
  unfold shr
  rw [Int.toNat_natCast, Nat.min_eq_left (show i ≤ IntKind.i64.bits from h)]
  rw [Int.natCast_ediv, Int.natCast_pow]
  rfl
theorem and1 : ∀ m : Nat, m < 256 → Go.bits .and .i64 (m : Int) 1 = ((m % 2 : Nat) : Int) := by decide +kernel
theorem shl1 : ∀ i : Nat, i < 9 → shl .i64 1 (i : Int) = ((2 ^ i : Nat) : Int) := by decide +kernel
theorem andn : ∀ c : Nat, c < 256 → ∀ i : Nat, i < 8 → c / 2 ^ i % 2 = 1 → Go.bits .andNot .i64 (c : Int) ((2 ^ i : Nat) : Int) = ((c - 2 ^ i : Nat) : Int) := by decide +kernel
theorem pow8 (n : Nat) (h : n ≤ 8) : 2 ^ n ≤ 256 := Nat.pow_le_pow_right (by omega) h
theorem shr_and (c i : Nat) (hc : c < 256) (hi : i ≤ 64) : Go.bits .and .i64 (shr .i64 (c : Int) (i : Int)) 1 = ((c / 2 ^ i % 2 : Nat) : Int) := by
  rw [shrN c i hi]
  exact and1 _ (Nat.lt_of_le_of_lt (Nat.div_le_self _ _) hc)
theorem mod1 {x : Nat} (h : x % 2 = 1) : ((x % 2 : Nat) : Int) = 1 := by rw [h]; rfl
theorem mod0 {x : Nat} (h : ¬ x % 2 = 1) : ((x % 2 : Nat) : Int) = 0 := by rw [show x % 2 = 0 by omega]; rfl
theorem mod1' {x : Nat} (h : x % 2 = 1) : ¬ ((x % 2 : Nat) : Int) = 0 := by rw [h]; decide
theorem mod0' {x : Nat} (h : ¬ x % 2 = 1) : ¬ ((x % 2 : Nat) : Int) = 1 := by rw [show x % 2 = 0 by omega]; decide
theorem bit_le (c i : Nat) (h : c / 2 ^ i % 2 = 1) : 2 ^ i ≤ c := by
  rcases Nat.lt_or_ge c (2 ^ i) with hl | hl
  · rw [Nat.div_eq_of_lt hl] at h; omega
  · exact hl
/-- The numbers of the bits of c, from i on. -/
def blF (c i : Nat) : Nat → List Int
  | 0 => []
  | d + 1 => if c / 2 ^ i % 2 = 1 then (i : Int) :: blF c (i + 1) d else blF c (i + 1) d
theorem blF_hit {c i : Nat} (h : c / 2 ^ i % 2 = 1) (d : Nat) : blF c i (d + 1) = (i : Int) :: blF c (i + 1) d := by rw [blF, if_pos h]
theorem blF_miss {c i : Nat} (h : ¬ c / 2 ^ i % 2 = 1) (d : Nat) : blF c i (d + 1) = blF c (i + 1) d := by rw [blF, if_neg h]
theorem wsub {c q : Nat} (h : q ≤ c) (hc : c ≤ 4611686018427387904) : wrap64 ((c : Int) - (q : Int)) = ((c - q : Nat) : Int) := by rw [w64 (by omega) (by omega)]; omega
theorem blF_nil (c : Nat) : ∀ d i : Nat, c / 2 ^ i = 0 → blF c i d = [] := by
  intro d
  induction d with
  | zero => intro i _; rfl
  | succ d ih =>
    intro i h
    unfold blF
    rw [if_neg (by omega)]
    refine ih (i + 1) ?_
    rw [Nat.pow_succ, ← Nat.div_div_eq_div_mul, h]
theorem blF_mem (c : Nat) : ∀ d i : Nat, ∀ x ∈ blF c i d, ∃ j : Nat, x = (j : Int) ∧ i ≤ j ∧ j < i + d ∧ c / 2 ^ j % 2 = 1 := by
  intro d
  induction d with
  | zero => intro i x hx; simp [blF] at hx
  | succ d ih =>
    intro i x hx
    unfold blF at hx
    split at hx
    · rcases List.mem_cons.mp hx with rfl | hx
      · exact ⟨i, rfl, by omega, by omega, by assumption⟩
      · obtain ⟨j, a, b, e, f⟩ := ih (i + 1) x hx
        exact ⟨j, a, by omega, by omega, f⟩
    · obtain ⟨j, a, b, e, f⟩ := ih (i + 1) x hx
      exact ⟨j, a, by omega, by omega, f⟩
theorem blF_len (c : Nat) : ∀ d i : Nat, (blF c i d).length ≤ d := by
  intro d
  induction d with
  | zero => intro i; exact Nat.le_refl _
  | succ d ih =>
    intro i
    unfold blF
    have := ih (i + 1)
    split
    · rw [List.length_cons]; omega
    · omega
theorem rdz (xs : List Int) (i : Nat) (h : i < xs.length) : rd xs (i : Int) = xs[i] := by
  unfold rd
  rw [Int.toNat_natCast, List.getD_eq_getElem?_getD, List.getElem?_eq_getElem h]
  rfl
theorem rd_left (a b : List Int) (i : Nat) (h : i < a.length) : rd (a ++ b) (i : Int) = rd a (i : Int) := by
  rw [rdz _ i (by rw [List.length_append]; omega), rdz a i h, List.getElem_append_left h]
theorem rd_mid (a b : List Int) (x : Int) (i : Nat) (h : i = a.length) : rd (a ++ x :: b) (i : Int) = x := by
  subst h
  rw [rdz _ _ (by rw [List.length_append, List.length_cons]; omega)]
  simp
theorem set_mid (a b : List Int) (x y : Int) (i : Nat) (h : i = a.length) : (a ++ x :: b).set i y = a ++ y :: b := by
  subst h
  simp

theorem all_bit : ∀ n : Nat, n < 9 → ∀ i : Nat, i < n → (2 ^ n - 1) / 2 ^ i % 2 = 1 := by decide +kernel
theorem l4Set_all (n : Nat) (hn : n ≤ 8) : ∀ (d i : Nat), i + d = n → Ev (fun k => spec_l4Set.l0 k (n : Int) ((2 ^ n - 1 : Nat) : Int) (idsW i) (i : Int)) (idsW n) := by
  have h8 := pow8 n hn
  intro d
  induction d with
  | zero =>
    intro i hi
    refine ev_succ ?_
    simp only [spec_l4Set.l0, if_neg (show ¬ ((i : Int) < n) by omega)]
    rw [show i = n by omega]
    exact ev_now _
  | succ d ih =>
    intro i hi
    refine ev_succ ?_
    have hb : (2 ^ n - 1) / 2 ^ i % 2 = 1 := all_bit n (by omega) i (by omega)
    have := ih (i + 1) (by omega)
    rw [idsW_succ] at this
    simp only [spec_l4Set.l0, if_pos (show (i : Int) < n by omega), if_pos (show (0 : Int) ≤ (i : Int) by omega), shr_and (2 ^ n - 1) i (by omega) (by omega), if_pos (mod1 hb), if_pos (show (idsW i).length < 17592186044416 by rw [idsW_len]; omega), w64 (x := (i : Int) + 1) (by omega) (by omega)]
    exact this
theorem l6All_ev (xs : List S63) (hn : xs.length ≤ 8) : Ev (fun k => spec_l6All.f k xs) (idsW xs.length) := by
  unfold spec_l6All.f
  have h8 := pow8 xs.length hn
  have hp : 0 < 2 ^ xs.length := Nat.pow_pos (by omega)
  rw [shl1 xs.length (by omega), w64 (x := ((2 ^ xs.length : Nat) : Int) - 1) (by omega) (by omega), show ((2 ^ xs.length : Nat) : Int) - 1 = ((2 ^ xs.length - 1 : Nat) : Int) by omega]
  refine ev_bind (a := idsW xs.length) ?_ (ev_now _)
  exact l4Set_all xs.length hn xs.length 0 (by omega)
theorem idsW_nodup (n : Nat) : (idsW n).Nodup := by
  unfold idsW List.Nodup
  rw [List.pairwise_map]
  exact List.pairwise_lt_range.imp (fun h => by omega)

theorem core (l : List S63) (hm : l.length ≤ 1048576) (_ : ∀ (i : Nat) (hi : i < l.length), I64 l[i].f0 ∧ I64 l[i].f1 ∧ I64 l[i].f2 ∧ I64 l[i].f3) :
    ∃ (r : List Int) (ok : Bool), r.length ≤ 1048576 ∧ Ev (fun k => spec_DueOrder.f k l) (r, ok) ∧ Ev (fun k => impl_DueOrder.f k l) (r, ok) := by
  have h1 := l6Good_ev l (by omega)
  have h2 := IsPlain_ev l (by omega)
  unfold spec_DueOrder.f impl_DueOrder.f
  cases hp : plainB l
  · rw [hp] at h1 h2
    exact ⟨[], false, by simp, ev_bind h1 (by simp only [Bool.false_eq_true, if_false]; exact ev_now _), ev_bind h2 (by simp only [Bool.false_eq_true, if_false]; exact ev_now _)⟩
  rw [hp] at h1 h2
  have hl := good_len (plain_good hp)
  refine ⟨dueL l (idsW l.length), true, by rw [(dueL_perm l _).length_eq, idsW_len]; omega, ev_bind h1 ?_, ev_bind h2 ?_⟩ <;> simp only [if_true]
  · exact ev_bind (l6All_ev l hl) (ev_bind (l6Due_ev l _ (fun b hb => idsW_mem hb) (idsW_nodup _) (by rw [idsW_len]; omega)) (ev_now _))
  · refine ev_bind (numbersTo_ev l.length (by omega)) ?_
    simp only [inDueOrder_eq l (idsW l.length) (fun b hb => idsW_mem hb) (by rw [idsW_len]; omega), Option.bind_some]
    exact ev_now _

theorem FnExactDueOrder : FnExactDueOrder.Claim := by
  intro l0 hl0 hg0
  refine Ev.rounds ?_
  unfold laws_FnExactDueOrder.f
  simp only [szJobS_eq l0 (1048576 : Int) (by omega) (by omega) hl0, Option.bind_some]
  by_cases h0 : (1048576 : Int) < l0.length
  · simp only [if_pos h0, if_pos (show (-1 : Int) < 0 by omega)]
    exact ev_now _
  simp only [if_neg h0, if_neg (show ¬ (((1048576 : Int) - l0.length) < 0) by omega)]
  have ht0 := toJobS_ev l0 (by omega)
  have hm0 : (l0.map conv).length ≤ 1048576 := by simp; omega
  have hq0 := eqJobS_ev (l0.map conv) (by omega)
  obtain ⟨r0, r1, hr0, hs, hi⟩ := core (l0.map conv) hm0 (conv_I64 l0 hg0)
  obtain ⟨qa0, ya0, _, hb0, ma0⟩ := markJobS_from1 (l0.map conv) hm0
  have he0 := eqIntS_ev r0 (by omega)
  obtain ⟨q0, y0, hq_0, m0, e0⟩ := markIntS_ev r0 hr0
  repeat first
    | exact ev_now _
    | with_reducible refine ev_bind hs ?_
    | with_reducible refine ev_bind hi ?_
    | with_reducible refine ev_bind ht0 ?_
    | with_reducible refine ev_bind hq0 ?_
    | with_reducible refine ev_bind ma0 ?_
    | with_reducible refine ev_bind he0 ?_
    | with_reducible refine ev_bind m0 ?_
    | with_reducible refine ev_bind e0 ?_
    | simp only [if_true, if_false, bne_self_eq_false, Bool.false_eq_true, if_neg (show ¬ ((qa0 : Int) < 0) by omega), if_neg (show ¬ ((q0 : Int) < 0) by omega)]
    | (refine ev_succ ?_; simp only [laws_FnExactDueOrder.j0])
    | (refine ev_succ ?_; simp only [laws_FnExactDueOrder.j1])
    | (refine ev_succ ?_; simp only [laws_FnExactDueOrder.j2])

end Go.Proofs.Ytnhceifdiaigbaa.Pure
