/- The program's function and the reference's come to the same answer: the statement of numbers and lists behind the law FnExactLatenessProof. Conditions: none. -/
import Derived.Test.YtnhceifdiaigbaaArgFnExactLatenessProof
import Derived.Test.YtnhceifdiaigbaaBase
namespace Go.Proofs.Ytnhceifdiaigbaa.Pure
open Go.RowKit Go.Proofs.Ytnhceifdiaigbaa.OFnExactLatenessProof Go.Proofs.Ytnhceifdiaigbaa.Base Go.Proofs.YtnhceifdiaigbaaW.PrintWords Go.Proofs.YtnhceifdiaigbaaW.PrintLast Go.Proofs.YtnhceifdiaigbaaW.PrintMore Go.Proofs.Ytnhceifdiaigbaa.Open
set_option linter.unusedVariables false
set_option linter.unusedSimpArgs false

def laws_heldJobS.l0 : Nat → List (S63) → Int → Int → Option (Int)
  | 0, _, _, _ => none
  | k + 1, x0, x1, x5 => if x5 < (x0.length : Int) then (if 0 ≤ x5 then (if ((rd_T63 x0 x5).f0) = x1 then (if ((rd_T63 x0 x5).f1) = (wrap64 (x1 + 1)) then (if ((rd_T63 x0 x5).f2) = (wrap64 ((wrap64 (x1 + 1)) + 1)) then (if ((rd_T63 x0 x5).f3) = (wrap64 ((wrap64 ((wrap64 (x1 + 1)) + 1)) + 1)) then (laws_heldJobS.l0 k x0 (wrap64 ((wrap64 ((wrap64 ((wrap64 (x1 + 1)) + 1)) + 1)) + 1)) (wrap64 (x5 + 1))) else (some (-1))) else (some (-1))) else (some (-1))) else (some (-1))) else (none)) else (some x1)
def laws_heldJobS.f (k : Nat) (l0 : List (S63)) (a1 : Int) : Option (Int) := laws_heldJobS.l0 k l0 a1 0

theorem szJobS_eq (xs : List S67) (left : Int) (h0 : 0 ≤ left) (h1 : left ≤ 1048576) (h : xs.length ≤ 9223372036854775807) : laws_szJobS.f xs left = some (if left < xs.length then -1 else left - xs.length) := by
  unfold laws_szJobS.f
  rw [w64 (by omega) (by omega)]
  by_cases c : left < xs.length
  · rw [if_pos (by omega), if_pos c]
  · rw [if_neg (by omega), if_neg c]

def conv (x : S67) : S63 := ⟨x.f0, x.f1, x.f2, x.f3⟩
theorem rdL (xs : List S67) (i : Nat) (h : i < xs.length) : rd_T67 xs (i : Int) = xs[i] := by
  unfold rd_T67
  rw [Int.toNat_natCast, List.getD_eq_getElem?_getD, List.getElem?_eq_getElem h]
  rfl

theorem toJobS_l (xs : List S67) (hn : xs.length ≤ 8796093022208) : ∀ (d i : Nat) (ys : List S63), i + d = xs.length → ys.length = xs.length → ys.take i = (xs.map conv).take i → Ev (fun k => laws_toJobS.l0 k xs ys (i : Int)) (xs.map conv) := by
  intro d
  induction d with
  | zero =>
    intro i ys hi hl ht
    refine ev_succ ?_
    simp only [laws_toJobS.l0, if_neg (show ¬ (i : Int) < (xs.length : Int) by omega)]
    have : ys = xs.map conv := by
      rw [List.take_of_length_le (by omega), List.take_of_length_le (by simp; omega)] at ht
      exact ht
    rw [this]
    exact ev_now _
  | succ d ih =>
    intro i ys hi hl ht
    refine ev_succ ?_
    have hx : i < xs.length := by omega
    simp only [laws_toJobS.l0, laws_toJob.f, Option.bind_some, if_pos (show (i : Int) < (xs.length : Int) by omega), if_pos (show (i : Int) < (ys.length : Int) by omega), if_pos (show (0 : Int) ≤ (i : Int) by omega), rdL xs i hx, wsucc i (by omega), Int.toNat_natCast]
    refine ih (i + 1) _ (by omega) (by rw [List.length_set]; exact hl) ?_
    rw [take_set_succ ys i _ (by omega), ht, List.take_succ_eq_append_getElem (by simp; omega)]
    simp [conv]
theorem toJobS_ev (xs : List S67) (hn : xs.length ≤ 1048576) : Ev (fun k => laws_toJobS.f k xs) (xs.map conv) := by
  unfold laws_toJobS.f
  simp only [if_pos (show (0 : Int) ≤ (xs.length : Int) by omega), Int.toNat_natCast, if_pos (show xs.length ≤ 8796093022208 by omega)]
  exact toJobS_l xs (by omega) xs.length 0 _ (by omega) (by simp) (by simp)

theorem rdI (xs : List S63) (i : Nat) (h : i < xs.length) : rd_T63 xs (i : Int) = xs[i] := by
  unfold rd_T63
  rw [Int.toNat_natCast, List.getD_eq_getElem?_getD, List.getElem?_eq_getElem h]
  rfl

theorem eqJobS_l (xs : List S63) (hn : xs.length ≤ 4611686018427387904) : ∀ (d i : Nat), i + d = xs.length → Ev (fun k => laws_eqJobS.l0 k xs xs (i : Int)) true := by
  intro d
  induction d with
  | zero =>
    intro i hi
    refine ev_succ ?_
    simp only [laws_eqJobS.l0, if_neg (show ¬ (i : Int) < (xs.length : Int) by omega)]
    exact ev_now _
  | succ d ih =>
    intro i hi
    refine ev_succ ?_
    simp only [laws_eqJobS.l0, laws_eqJob.f, if_true, Option.bind_some, if_pos (show (i : Int) < (xs.length : Int) by omega), if_pos (show (0 : Int) ≤ (i : Int) by omega), wsucc i (by omega)]
    exact ih (i + 1) (by omega)
theorem eqJobS_ev (xs : List S63) (hn : xs.length ≤ 4611686018427387904) : Ev (fun k => laws_eqJobS.f k xs xs) true := by
  unfold laws_eqJobS.f
  simp only [if_true]
  exact eqJobS_l xs hn xs.length 0 (by omega)

theorem conv_I64 (l : List S67) (hg : ∀ x ∈ l, G67 x) (i : Nat) (hi : i < (l.map conv).length) : I64 (l.map conv)[i].f0 ∧ I64 (l.map conv)[i].f1 ∧ I64 (l.map conv)[i].f2 ∧ I64 (l.map conv)[i].f3 := by
  simp only [List.getElem_map, conv]
  exact hg _ (List.getElem_mem _)

theorem rdI_set (xs : List S63) (i : Nat) (h : i < xs.length) (v : S63) : rd_T63 (xs.set i v) (i : Int) = v := by
  rw [rdI _ i (by rw [List.length_set]; exact h)]
  simp
theorem markJobS_l : ∀ (d i m : Nat) (xs : List S63), i + d = xs.length → m + 4 * d ≤ 1152921504606846976 → xs.length ≤ 1152921504606846976 →
    ∃ (q : Nat) (ys : List S63), Ev (fun k => laws_markJobS.l0 k xs (m : Int) (i : Int)) ((q : Int), ys) ∧ ys.length = xs.length ∧ ys.take i = xs.take i ∧ m ≤ q ∧ q ≤ m + 4 * d ∧ Ev (fun k => laws_heldJobS.l0 k ys (m : Int) (i : Int)) (q : Int) := by
  intro d
  induction d with
  | zero =>
    intro i m xs hi hmd hxl
    refine ⟨m, xs, ev_succ ?_, rfl, rfl, Nat.le_refl _, by omega, ev_succ ?_⟩
    · simp only [laws_markJobS.l0, if_neg (show ¬ (i : Int) < (xs.length : Int) by omega)]
      exact ev_now _
    · simp only [laws_heldJobS.l0, if_neg (show ¬ (i : Int) < (xs.length : Int) by omega)]
      exact ev_now _
  | succ d ih =>
    intro i m xs hi hmd hxl
    obtain ⟨q, ys, h1, h2, h3, h4, h4', h5⟩ := ih (i + 1) (m + 4) (xs.set i ⟨(m : Int), ((m + 1 : Nat) : Int), ((m + 2 : Nat) : Int), ((m + 3 : Nat) : Int)⟩) (by rw [List.length_set]; omega) (by omega) (by rw [List.length_set]; omega)
    rw [List.length_set] at h2
    rw [take_set_succ xs i _ (by omega)] at h3
    have hy : ys[i]'(by omega) = ⟨(m : Int), ((m + 1 : Nat) : Int), ((m + 2 : Nat) : Int), ((m + 3 : Nat) : Int)⟩ := by
      have := congrArg (fun l => l[i]?) h3
      simp only [List.getElem?_take, if_pos (show i < i + 1 by omega)] at this
      rw [List.getElem?_append_right (by simp; omega), List.getElem?_eq_getElem (by omega)] at this
      simpa [Nat.min_eq_left (show i ≤ xs.length by omega)] using this
    refine ⟨q, ys, ev_succ ?_, h2, ?_, by omega, by omega, ev_succ ?_⟩
    · simp only [laws_markJobS.l0, Option.bind_some, if_pos (show (i : Int) < (xs.length : Int) by omega), if_pos (show (0 : Int) ≤ (i : Int) by omega), wsucc i (by omega), wsucc m (by omega), wsucc (m + 1) (by omega), wsucc (m + 2) (by omega), wsucc (m + 3) (by omega), Int.toNat_natCast, rdI_set xs i (by omega), List.set_set]
      exact h1
    · have := congrArg (fun l => l.take i) h3
      simp only [List.take_take, Nat.min_eq_left (show i ≤ i + 1 by omega)] at this
      rw [this, List.take_append_of_le_length (by simp; omega), List.take_take, Nat.min_self]
    · simp only [laws_heldJobS.l0, if_pos (show (i : Int) < (ys.length : Int) by omega), if_pos (show (0 : Int) ≤ (i : Int) by omega), wsucc i (by omega), wsucc m (by omega), wsucc (m + 1) (by omega), wsucc (m + 2) (by omega), wsucc (m + 3) (by omega), rdI ys i (by omega), hy, if_true]
      exact h5
theorem markJobS_ev (xs : List S63) (h : xs.length ≤ 1048576) : ∃ (q : Nat) (ys : List S63), 1 ≤ q ∧ Ev (fun k => laws_markJobS.f k xs 1) ((q : Int), ys) ∧ Ev (fun k => laws_heldJobS.f k ys 1) (q : Int) := by
  obtain ⟨q, ys, h1, h2, h3, h4, h4', h5⟩ := markJobS_l xs.length 0 1 xs (by omega) (by omega) (by omega)
  exact ⟨q, ys, h4, h1, h5⟩

theorem markJobS_from (xs : List S63) (h : xs.length ≤ 1048576) (m : Nat) (hm : m ≤ 1000000000) : ∃ (q : Nat) (ys : List S63), m ≤ q ∧ q ≤ m + 4194304 ∧ Ev (fun k => laws_markJobS.f k xs (m : Int)) ((q : Int), ys) := by
  obtain ⟨q, ys, h1, h2, h3, h4, h4', h5⟩ := markJobS_l xs.length 0 m xs (by omega) (by omega) (by omega)
  exact ⟨q, ys, h4, by omega, h1⟩
theorem markJobS_from1 (xs : List S63) (h : xs.length ≤ 1048576) : ∃ (q : Nat) (ys : List S63), 1 ≤ q ∧ q ≤ 1 + 4194304 ∧ Ev (fun k => laws_markJobS.f k xs 1) ((q : Int), ys) := markJobS_from xs h 1 (by omega)

theorem eqIntS_l (xs : List Int) (hn : xs.length ≤ 4611686018427387904) : ∀ (d i : Nat), i + d = xs.length → Ev (fun k => laws_eqIntS.l0 k xs xs (i : Int)) true := by
  intro d
  induction d with
  | zero =>
    intro i hi
    refine ev_succ ?_
    simp only [laws_eqIntS.l0, if_neg (show ¬ (i : Int) < (xs.length : Int) by omega)]
    exact ev_now _
  | succ d ih =>
    intro i hi
    refine ev_succ ?_
    simp only [laws_eqIntS.l0, if_true, if_pos (show (i : Int) < (xs.length : Int) by omega), if_pos (show (0 : Int) ≤ (i : Int) by omega), wsucc i (by omega)]
    exact ih (i + 1) (by omega)
theorem eqIntS_ev (xs : List Int) (hn : xs.length ≤ 4611686018427387904) : Ev (fun k => laws_eqIntS.f k xs xs) true := by
  unfold laws_eqIntS.f
  simp only [if_true]
  exact eqIntS_l xs hn xs.length 0 (by omega)

theorem rdN (xs : List Int) (i : Nat) (h : i < xs.length) : rd xs (i : Int) = xs[i] := by
  unfold rd
  rw [Int.toNat_natCast, List.getD_eq_getElem?_getD, List.getElem?_eq_getElem h]
  rfl

theorem markIntS_l : ∀ (d i m : Nat) (xs : List Int), i + d = xs.length → m + d ≤ 1152921504606846976 → xs.length ≤ 1152921504606846976 →
    ∃ (q : Nat) (ys : List Int), Ev (fun k => laws_markIntS.l0 k xs (m : Int) (i : Int)) ((q : Int), ys) ∧ ys.length = xs.length ∧ ys.take i = xs.take i ∧ m ≤ q ∧ q ≤ m + d ∧ Ev (fun k => laws_heldIntS.l0 k ys (m : Int) (i : Int)) (q : Int) := by
  intro d
  induction d with
  | zero =>
    intro i m xs hi hmd hxl
    refine ⟨m, xs, ev_succ ?_, rfl, rfl, Nat.le_refl _, by omega, ev_succ ?_⟩
    · simp only [laws_markIntS.l0, if_neg (show ¬ (i : Int) < (xs.length : Int) by omega)]
      exact ev_now _
    · simp only [laws_heldIntS.l0, if_neg (show ¬ (i : Int) < (xs.length : Int) by omega)]
      exact ev_now _
  | succ d ih =>
    intro i m xs hi hmd hxl
    obtain ⟨q, ys, h1, h2, h3, h4, h4', h5⟩ := ih (i + 1) (m + 1) (xs.set i (m : Int)) (by rw [List.length_set]; omega) (by omega) (by rw [List.length_set]; omega)
    rw [List.length_set] at h2
    rw [take_set_succ xs i _ (by omega)] at h3
    have hy : ys[i]'(by omega) = (m : Int) := by
      have := congrArg (fun l => l[i]?) h3
      simp only [List.getElem?_take, if_pos (show i < i + 1 by omega)] at this
      rw [List.getElem?_append_right (by simp; omega), List.getElem?_eq_getElem (by omega)] at this
      simpa [Nat.min_eq_left (show i ≤ xs.length by omega)] using this
    have hx : i < xs.length := by omega
    refine ⟨q, ys, ev_succ ?_, h2, ?_, by omega, by omega, ev_succ ?_⟩
    · simp only [laws_markIntS.l0, if_pos (show (i : Int) < (xs.length : Int) by omega), if_pos (show (0 : Int) ≤ (i : Int) by omega), Int.toNat_natCast, wsucc m (by omega), wsucc i (by omega)]
      exact h1
    · have := congrArg (fun l => l.take i) h3
      simp only [List.take_take, Nat.min_eq_left (show i ≤ i + 1 by omega)] at this
      rw [this, List.take_append_of_le_length (by simp; omega), List.take_take, Nat.min_self]
    · simp only [laws_heldIntS.l0, if_pos (show (i : Int) < (ys.length : Int) by omega), if_pos (show (0 : Int) ≤ (i : Int) by omega), rdN ys i (by omega), hy, if_true, wsucc m (by omega), wsucc i (by omega)]
      exact h5
theorem markIntS_ev (xs : List Int) (h : xs.length ≤ 1048576) : ∃ (q : Nat) (ys : List Int), 1 ≤ q ∧ Ev (fun k => laws_markIntS.f k xs 1) ((q : Int), ys) ∧ Ev (fun k => laws_heldIntS.f k ys 1) (q : Int) := by
  obtain ⟨q, ys, h1, h2, h3, h4, h4', h5⟩ := markIntS_l xs.length 0 1 xs (by omega) (by omega) (by omega)
  exact ⟨q, ys, h4, h1, h5⟩

theorem within_eq (a b c : Int) : impl_within.f a b c = some (decide (b ≤ a) && decide (a ≤ c)) := by
  unfold impl_within.f
  by_cases h : b ≤ a
  · rw [if_pos h]; simp [h]
  · rw [if_neg h]; simp [h]

/-- A job's numbers are in their bounds. -/
def okJ (x : S63) : Bool := decide (1 ≤ x.f0) && (decide (x.f0 ≤ 50) && (decide (0 ≤ x.f1) && (decide (x.f1 ≤ 50) && (decide (0 ≤ x.f2) && (decide (x.f2 ≤ 500) && (decide (0 ≤ x.f3) && decide (x.f3 ≤ 500)))))))
def goodB (l : List S63) : Bool := decide (l.length ≤ 8) && l.all okJ
theorem isDate_eq (a : Int) : impl_isDate.f a = some (decide (0 ≤ a) && decide (a ≤ 500)) := by
  unfold impl_isDate.f
  rw [within_eq]
  rfl
theorem job_chain (x : S63) (o : Option Bool) : (if (decide (1 ≤ x.f0) && decide (x.f0 ≤ 50)) = true then (if (decide (0 ≤ x.f1) && decide (x.f1 ≤ 50)) = true then (if (decide (0 ≤ x.f2) && decide (x.f2 ≤ 500)) = true then (if (decide (0 ≤ x.f3) && decide (x.f3 ≤ 500)) = true then o else some false) else some false) else some false) else some false) = if okJ x = true then o else some false := by
  unfold okJ
  by_cases a1 : 1 ≤ x.f0 <;> by_cases a2 : x.f0 ≤ 50 <;> simp [a1, a2]
  by_cases b1 : 0 ≤ x.f1 <;> by_cases b2 : x.f1 ≤ 50 <;> simp [b1, b2]
  by_cases c1 : 0 ≤ x.f2 <;> by_cases c2 : x.f2 ≤ 500 <;> simp [c1, c2]
theorem IsJobs_l (xs : List S63) (hn : xs.length ≤ 4611686018427387904) : ∀ (d i : Nat), i + d = xs.length → Ev (fun k => impl_IsJobs.l0 k xs (xs.length : Int) (i : Int)) ((xs.drop i).all okJ) := by
  intro d
  induction d with
  | zero =>
    intro i hi
    refine ev_succ ?_
    simp only [impl_IsJobs.l0, if_neg (show ¬ (i : Int) < (xs.length : Int) by omega), List.drop_of_length_le (show xs.length ≤ i by omega)]
    exact ev_now _
  | succ d ih =>
    intro i hi
    refine ev_succ ?_
    have hx : i < xs.length := by omega
    have hih := ih (i + 1) (by omega)
    rw [List.drop_eq_getElem_cons hx, List.all_cons]
    simp only [impl_IsJobs.l0, within_eq, isDate_eq, Option.bind_some, if_pos (show (i : Int) < (xs.length : Int) by omega), if_pos (show (0 : Int) ≤ (i : Int) by omega), wsucc i (by omega), rdI xs i hx]
    generalize xs[i] = x at *
    simp only [job_chain]
    by_cases c : okJ x = true
    · simpa only [c, if_true, Bool.true_and] using hih
    · have c' : okJ x = false := by simpa using c
      simp only [c', Bool.false_and]
      exact ev_now _
theorem IsJobs_ev (xs : List S63) (hn : xs.length ≤ 4611686018427387904) : Ev (fun k => impl_IsJobs.f k xs) (goodB xs) := by
  unfold impl_IsJobs.f goodB
  by_cases h : xs.length ≤ 8
  · simp only [if_neg (show ¬ ((xs.length : Int) > 8) by omega), decide_eq_true h, Bool.true_and]
    exact IsJobs_l xs hn xs.length 0 (by omega)
  · simp only [if_pos (show ((xs.length : Int) > 8) by omega), decide_eq_false h, Bool.false_and]
    exact ev_now _

theorem l1In_eq (a b c : Int) : spec_l1In.f a b c = some (decide (b ≤ a) && decide (a ≤ c)) := by
  unfold spec_l1In.f
  by_cases h : b ≤ a
  · rw [if_pos h]; simp [h]
  · rw [if_neg h]; simp [h]

theorem l2Job_eq (x : S63) : spec_l2Job.f x.f0 x.f1 x.f2 x.f3 = some (okJ x) := by
  unfold spec_l2Job.f okJ
  simp only [l1In_eq, Option.bind_some]
  by_cases a1 : 1 ≤ x.f0 <;> by_cases a2 : x.f0 ≤ 50 <;> simp [a1, a2]
  by_cases b1 : 0 ≤ x.f1 <;> by_cases b2 : x.f1 ≤ 50 <;> simp [b1, b2]
  by_cases c1 : 0 ≤ x.f2 <;> by_cases c2 : x.f2 ≤ 500 <;> simp [c1, c2]
theorem l2Good_l (xs : List S63) (hn : xs.length ≤ 4611686018427387904) : ∀ (d i : Nat), i + d = xs.length → Ev (fun k => spec_l2Good.l0 k xs (i : Int)) ((xs.drop i).all okJ && decide (xs.length ≤ 8)) := by
  intro d
  induction d with
  | zero =>
    intro i hi
    refine ev_succ ?_
    simp only [spec_l2Good.l0, if_neg (show ¬ (i : Int) < (xs.length : Int) by omega), List.drop_of_length_le (show xs.length ≤ i by omega)]
    refine ev_const ?_
    simp
    omega
  | succ d ih =>
    intro i hi
    refine ev_succ ?_
    have hx : i < xs.length := by omega
    have hih := ih (i + 1) (by omega)
    rw [List.drop_eq_getElem_cons hx, List.all_cons]
    simp only [spec_l2Good.l0, if_pos (show (i : Int) < (xs.length : Int) by omega), if_pos (show (0 : Int) ≤ (i : Int) by omega), wsucc i (by omega), rdI xs i hx, l2Job_eq, Option.bind_some]
    by_cases c : okJ xs[i] = true
    · simpa only [c, if_true, Bool.true_and] using hih
    · have c' : okJ xs[i] = false := by simpa using c
      simp only [c', Bool.false_and]
      exact ev_now _
theorem l2Good_ev (xs : List S63) (hn : xs.length ≤ 4611686018427387904) : Ev (fun k => spec_l2Good.f k xs) (goodB xs) := by
  unfold spec_l2Good.f goodB
  rw [Bool.and_comm]
  exact l2Good_l xs hn xs.length 0 (by omega)

theorem good_len {xs : List S63} (h : goodB xs = true) : xs.length ≤ 8 := by
  unfold goodB at h
  simp only [Bool.and_eq_true, decide_eq_true_eq] at h
  exact h.1
theorem good_at {xs : List S63} (h : goodB xs = true) (i : Nat) (hi : i < xs.length) : 1 ≤ xs[i].f0 ∧ xs[i].f0 ≤ 50 ∧ 0 ≤ xs[i].f1 ∧ xs[i].f1 ≤ 50 ∧ 0 ≤ xs[i].f2 ∧ xs[i].f2 ≤ 500 ∧ 0 ≤ xs[i].f3 ∧ xs[i].f3 ≤ 500 := by
  unfold goodB at h
  simp only [Bool.and_eq_true, List.all_eq_true] at h
  have b := h.2 xs[i] (List.getElem_mem hi)
  simp only [okJ, Bool.and_eq_true, decide_eq_true_eq] at b
  obtain ⟨a1, a2, b1, b2, c1, c2, d1, d2⟩ := b
  exact ⟨a1, a2, b1, b2, c1, c2, d1, d2⟩

abbrev inJ (n : Nat) (i : Int) : Prop := 0 ≤ i ∧ i < (n : Int)
theorem inJ_nat {n : Nat} {a : Int} (h : inJ n a) : ∃ i : Nat, i < n ∧ a = (i : Int) := ⟨a.toNat, by have := h.1; have := h.2; omega, by have := h.1; omega⟩
theorem rd_nat (l : List S63) {a : Int} (h : inJ l.length a) : rd_T63 l a = l[a.toNat]'(by have := h.1; have := h.2; omega) := by
  obtain ⟨i, hi, rfl⟩ := inJ_nat h
  rw [rdI l i hi]
  rfl

def tmJ (l : List S63) (a : Int) : Int := (rd_T63 l a).f0
def duJ (l : List S63) (a : Int) : Int := (rd_T63 l a).f3
/-- Times and dates that stay small. -/
def smallJ (l : List S63) : Prop := ∀ (i : Nat) (hi : i < l.length), 0 ≤ l[i].f0 ∧ l[i].f0 ≤ 50 ∧ 0 ≤ l[i].f3 ∧ l[i].f3 ≤ 1000
theorem small_at {l : List S63} (h : smallJ l) {a : Int} (ha : inJ l.length a) : 0 ≤ tmJ l a ∧ tmJ l a ≤ 50 ∧ 0 ≤ duJ l a ∧ duJ l a ≤ 1000 := by
  unfold tmJ duJ
  rw [rd_nat l ha]
  exact h _ _

theorem good_small {l : List S63} (hg : goodB l = true) : smallJ l := by
  intro i hi
  have := good_at hg i hi
  omega

theorem rdW (o : List Int) (n : Nat) (h : n < o.length) : rd o (n : Int) = o[n] := by
  simp [rd]
  rw [List.getElem?_eq_getElem h]; rfl

def sumW (tm : Int → Int) : List Int → Int
  | [] => 0
  | i :: L => tm i + sumW tm L

theorem l3Total_l0 (l : List S63) (hs : smallJ l) (M : List Int) (hM : ∀ b ∈ M, inJ l.length b) (hlen : M.length ≤ 1000) : ∀ (d i : Nat) (t : Int), i + d = M.length → 0 ≤ t → t ≤ 50 * i → Ev (fun k => spec_l3Total.l0 k l M t (i : Int)) (t + sumW (tmJ l) (M.drop i)) := by
  intro d
  induction d with
  | zero =>
    intro i t hi _ _
    refine ev_succ ?_
    simp only [spec_l3Total.l0, if_neg (show ¬ ((i : Int) < (M.length : Int)) by omega)]
    rw [List.drop_eq_nil_of_le (by omega), sumW, Int.add_zero]
    exact ev_now _
  | succ d ih =>
    intro i t hi h0 h1
    refine ev_succ ?_
    have hil : i < M.length := by omega
    have hm := hM _ (List.getElem_mem hil)
    have hb := small_at hs hm
    unfold tmJ duJ at hb
    rw [List.drop_eq_getElem_cons hil, sumW, show t + (tmJ l M[i] + sumW (tmJ l) (M.drop (i + 1))) = (t + (rd_T63 l M[i]).f0) + sumW (tmJ l) (M.drop (i + 1)) by unfold tmJ; omega]
    simp only [spec_l3Total.l0, if_pos (show (i : Int) < (M.length : Int) by omega), if_pos (show (0 : Int) ≤ (i : Int) by omega), rdW M i hil, if_pos hm.1, if_pos hm.2, w64 (x := t + (rd_T63 l M[i]).f0) (by omega) (by omega), w64 (x := (i : Int) + 1) (by omega) (by omega)]
    exact ih (i + 1) _ (by omega) (by omega) (by omega)
theorem l3Total_ev (l : List S63) (hs : smallJ l) (M : List Int) (hM : ∀ b ∈ M, inJ l.length b) (hlen : M.length ≤ 1000) : Ev (fun k => spec_l3Total.f k l M) (sumW (tmJ l) M) := by
  have := l3Total_l0 l hs M hM hlen M.length 0 0 (by omega) (by omega) (by omega)
  rw [Int.zero_add] at this
  exact this

theorem shrN (c i : Nat) (h : i ≤ 64) : shr .i64 (c : Int) (i : Int) = ((c / 2 ^ i : Nat) : Int) := by
  unfold shr
  rw [Int.toNat_natCast, Nat.min_eq_left (show i ≤ IntKind.i64.bits from h)]
  rw [Int.natCast_ediv, Int.natCast_pow]
  rfl
theorem and1 : ∀ m : Nat, m < 256 → Go.bits .and .i64 (m : Int) 1 = ((m % 2 : Nat) : Int) := by decide +kernel
theorem shl1 : ∀ i : Nat, i < 9 → shl .i64 1 (i : Int) = ((2 ^ i : Nat) : Int) := by decide +kernel
theorem andn : ∀ c : Nat, c < 256 → ∀ i : Nat, i < 8 → c / 2 ^ i % 2 = 1 → Go.bits .andNot .i64 (c : Int) ((2 ^ i : Nat) : Int) = ((c - 2 ^ i : Nat) : Int) := by decide +kernel
theorem pow8 (n : Nat) (h : n ≤ 8) : 2 ^ n ≤ 256 := Nat.pow_le_pow_right (by omega) h
theorem shr_and (c i : Nat) (hc : c < 256) (hi : i ≤ 64) : Go.bits .and .i64 (shr .i64 (c : Int) (i : Int)) 1 = ((c / 2 ^ i % 2 : Nat) : Int) := by
  rw [shrN c i hi]
  exact and1 _ (Nat.lt_of_le_of_lt (Nat.div_le_self _ _) hc)
theorem mod1 {x : Nat} (h : x % 2 = 1) : ((x % 2 : Nat) : Int) = 1 := by rw [h]; rfl
theorem mod0 {x : Nat} (h : ¬ x % 2 = 1) : ((x % 2 : Nat) : Int) = 0 := by rw [show x % 2 = 0 by omega]; rfl
theorem mod1' {x : Nat} (h : x % 2 = 1) : ¬ ((x % 2 : Nat) : Int) = 0 := by rw [h]; decide
theorem mod0' {x : Nat} (h : ¬ x % 2 = 1) : ¬ ((x % 2 : Nat) : Int) = 1 := by rw [show x % 2 = 0 by omega]; decide
theorem bit_le (c i : Nat) (h : c / 2 ^ i % 2 = 1) : 2 ^ i ≤ c := by
  rcases Nat.lt_or_ge c (2 ^ i) with hl | hl
  · rw [Nat.div_eq_of_lt hl] at h; omega
  · exact hl
/-- The numbers of the bits of c, from i on. -/
def blF (c i : Nat) : Nat → List Int
  | 0 => []
  | d + 1 => if c / 2 ^ i % 2 = 1 then (i : Int) :: blF c (i + 1) d else blF c (i + 1) d
theorem blF_hit {c i : Nat} (h : c / 2 ^ i % 2 = 1) (d : Nat) : blF c i (d + 1) = (i : Int) :: blF c (i + 1) d := by rw [blF, if_pos h]
theorem blF_miss {c i : Nat} (h : ¬ c / 2 ^ i % 2 = 1) (d : Nat) : blF c i (d + 1) = blF c (i + 1) d := by rw [blF, if_neg h]
theorem wsub {c q : Nat} (h : q ≤ c) (hc : c ≤ 4611686018427387904) : wrap64 ((c : Int) - (q : Int)) = ((c - q : Nat) : Int) := by rw [w64 (by omega) (by omega)]; omega
theorem blF_nil (c : Nat) : ∀ d i : Nat, c / 2 ^ i = 0 → blF c i d = [] := by
  intro d
  induction d with
  | zero => intro i _; rfl
  | succ d ih =>
    intro i h
    unfold blF
    rw [if_neg (by omega)]
    refine ih (i + 1) ?_
    rw [Nat.pow_succ, ← Nat.div_div_eq_div_mul, h]
theorem blF_mem (c : Nat) : ∀ d i : Nat, ∀ x ∈ blF c i d, ∃ j : Nat, x = (j : Int) ∧ i ≤ j ∧ j < i + d ∧ c / 2 ^ j % 2 = 1 := by
  intro d
  induction d with
  | zero => intro i x hx; simp [blF] at hx
  | succ d ih =>
    intro i x hx
    unfold blF at hx
    split at hx
    · rcases List.mem_cons.mp hx with rfl | hx
      · exact ⟨i, rfl, by omega, by omega, by assumption⟩
      · obtain ⟨j, a, b, e, f⟩ := ih (i + 1) x hx
        exact ⟨j, a, by omega, by omega, f⟩
    · obtain ⟨j, a, b, e, f⟩ := ih (i + 1) x hx
      exact ⟨j, a, by omega, by omega, f⟩
theorem blF_len (c : Nat) : ∀ d i : Nat, (blF c i d).length ≤ d := by
  intro d
  induction d with
  | zero => intro i; exact Nat.le_refl _
  | succ d ih =>
    intro i
    unfold blF
    have := ih (i + 1)
    split
    · rw [List.length_cons]; omega
    · omega
theorem rdz (xs : List Int) (i : Nat) (h : i < xs.length) : rd xs (i : Int) = xs[i] := by
  unfold rd
  rw [Int.toNat_natCast, List.getD_eq_getElem?_getD, List.getElem?_eq_getElem h]
  rfl
theorem rd_left (a b : List Int) (i : Nat) (h : i < a.length) : rd (a ++ b) (i : Int) = rd a (i : Int) := by
  rw [rdz _ i (by rw [List.length_append]; omega), rdz a i h, List.getElem_append_left h]
theorem rd_mid (a b : List Int) (x : Int) (i : Nat) (h : i = a.length) : rd (a ++ x :: b) (i : Int) = x := by
  subst h
  rw [rdz _ _ (by rw [List.length_append, List.length_cons]; omega)]
  simp
theorem set_mid (a b : List Int) (x y : Int) (i : Nat) (h : i = a.length) : (a ++ x :: b).set i y = a ++ y :: b := by
  subst h
  simp

theorem listOf_l (c n : Nat) (hn : n ≤ 8) (hc : c < 2 ^ n) : ∀ (d i : Nat) (acc : List Int), i + d = n → acc.length ≤ i → Ev (fun k => impl_listOf.l0 k (c : Int) acc (i : Int)) (acc ++ blF c i d) := by
  intro d
  have h8 := pow8 n hn
  induction d with
  | zero =>
    intro i acc hi ha
    refine ev_succ ?_
    have hz : c / 2 ^ i = 0 := Nat.div_eq_of_lt (by rw [show i = n by omega]; exact hc)
    simp only [impl_listOf.l0, if_pos (show (0 : Int) ≤ (i : Int) by omega), shrN c i (by omega), hz, gt_iff_lt, if_neg (show ¬ (0 : Int) < ((0 : Nat) : Int) by omega), blF, List.append_nil]
    exact ev_now _
  | succ d ih =>
    intro i acc hi ha
    refine ev_succ ?_
    by_cases hz : c / 2 ^ i = 0
    · rw [blF_nil c _ i hz, List.append_nil]
      simp only [impl_listOf.l0, if_pos (show (0 : Int) ≤ (i : Int) by omega), shrN c i (by omega), hz, gt_iff_lt, if_neg (show ¬ (0 : Int) < ((0 : Nat) : Int) by omega)]
      exact ev_now _
    · simp only [impl_listOf.l0, if_pos (show (0 : Int) ≤ (i : Int) by omega), shr_and c i (by omega) (by omega), blF, wsucc i (by omega)]
      simp only [shrN c i (by omega), gt_iff_lt, if_pos (Int.natCast_pos.mpr (Nat.pos_of_ne_zero hz))]
      by_cases hb : c / 2 ^ i % 2 = 1
      · have h := ih (i + 1) (acc ++ [(i : Int)]) (by omega) (by rw [List.length_append, List.length_singleton]; omega)
        rw [List.append_assoc] at h
        simp only [if_pos hb, if_pos (mod1 hb), if_pos (show acc.length < 17592186044416 by omega)]
        exact h
      · simp only [if_neg hb, if_neg (mod0' hb)]
        exact ih (i + 1) acc (by omega) (by omega)
theorem listOf_ev (c n : Nat) (hn : n ≤ 8) (hc : c < 2 ^ n) : Ev (fun k => impl_listOf.f k (c : Int)) (blF c 0 n) := by
  unfold impl_listOf.f
  exact listOf_l c n hn hc n 0 [] (by omega) (by simp)

theorem pc_less : ∀ c : Nat, c < 256 → ∀ i : Nat, i < 8 → c / 2 ^ i % 2 = 1 → (blF (c - 2 ^ i) 0 8).length + 1 = (blF c 0 8).length := by decide +kernel
theorem pc_all : ∀ n : Nat, n < 9 → (blF (2 ^ n - 1) 0 8).length = n := by decide +kernel
theorem pc_pos : ∀ c : Nat, c < 256 → 0 < c → 0 < (blF c 0 8).length := by decide +kernel
theorem pc_zero : ∀ c : Nat, c < 256 → (blF c 0 8).length = 0 → c = 0 := by
  intro c hc h
  rcases Nat.eq_zero_or_pos c with h0 | h0
  · exact h0
  · have := pc_pos c hc h0; omega
theorem blF_ext (c e : Nat) : ∀ d i : Nat, c / 2 ^ (i + d) = 0 → blF c i (d + e) = blF c i d := by
  intro d
  induction d with
  | zero => intro i h; rw [Nat.zero_add]; exact blF_nil c e i h
  | succ d ih =>
    intro i h
    rw [show d + 1 + e = (d + e) + 1 by omega, blF, blF, ih (i + 1) (by rw [show i + 1 + d = i + (d + 1) by omega]; exact h)]
theorem bl8 (c n : Nat) (hn : n ≤ 8) (hc : c < 2 ^ n) : blF c 0 8 = blF c 0 n := by
  have := blF_ext c (8 - n) n 0 (by rw [Nat.zero_add]; exact Nat.div_eq_of_lt hc)
  rwa [show n + (8 - n) = 8 by omega] at this

theorem mn_min (a b : Int) : mn a b = min a b := by unfold mn; split <;> omega
theorem mx_max (a b : Int) : mx a b = max a b := by unfold mx; split <;> omega
theorem least_min (a b : Int) : spec_l1Least.f a b = some (min a b) := by
  unfold spec_l1Least.f
  split
  · rw [Int.min_eq_left (by omega)]
  · rw [Int.min_eq_right (by omega)]
theorem most_max (a b : Int) : spec_l1Most.f a b = some (max a b) := by
  unfold spec_l1Most.f
  split
  · rw [Int.max_eq_left (by omega)]
  · rw [Int.max_eq_right (by omega)]
def lowF (l : List S63) (x : Int) (L : List Int) : Int := L.foldl (fun x i => min x (rd_T63 l i).f2) x
def topF (l : List S63) (y : Int) (L : List Int) : Int := L.foldl (fun y i => max y (rd_T63 l i).f3) y
theorem rel_at {l : List S63} (hg : goodB l = true) {a : Int} (ha : inJ l.length a) : 1 ≤ (rd_T63 l a).f0 ∧ (rd_T63 l a).f0 ≤ 50 ∧ 0 ≤ (rd_T63 l a).f2 ∧ (rd_T63 l a).f2 ≤ 500 ∧ 0 ≤ (rd_T63 l a).f3 ∧ (rd_T63 l a).f3 ≤ 500 := by
  rw [rd_nat l ha]
  have := good_at hg a.toNat (by have := ha.1; have := ha.2; omega)
  omega
theorem sum_bd {l : List S63} (hg : goodB l = true) : ∀ L : List Int, (∀ b ∈ L, inJ l.length b) → 0 ≤ sumW (tmJ l) L ∧ sumW (tmJ l) L ≤ 50 * L.length := by
  intro L
  induction L with
  | nil => intro _; simp [sumW]
  | cons a L ih =>
    intro h
    have h1 := ih (fun b hb => h b (by simp [hb]))
    have h2 := rel_at hg (h a (by simp))
    simp only [sumW, List.length_cons]
    unfold tmJ at h1 ⊢
    omega
theorem lowF_bd {l : List S63} (hg : goodB l = true) : ∀ (L : List Int) (x : Int), (∀ b ∈ L, inJ l.length b) → 0 ≤ x → x ≤ 500 → 0 ≤ lowF l x L ∧ lowF l x L ≤ 500 := by
  intro L
  induction L with
  | nil => intro x _ h1 h2; exact ⟨h1, h2⟩
  | cons a L ih =>
    intro x h h1 h2
    have := rel_at hg (h a (by simp))
    exact ih (min x (rd_T63 l a).f2) (fun b hb => h b (by simp [hb])) (by omega) (by omega)
theorem topF_bd {l : List S63} (hg : goodB l = true) : ∀ (L : List Int) (x : Int), (∀ b ∈ L, inJ l.length b) → 0 ≤ x → x ≤ 500 → 0 ≤ topF l x L ∧ topF l x L ≤ 500 := by
  intro L
  induction L with
  | nil => intro x _ h1 h2; exact ⟨h1, h2⟩
  | cons a L ih =>
    intro x h h1 h2
    have := rel_at hg (h a (by simp))
    exact ih (max x (rd_T63 l a).f3) (fun b hb => h b (by simp [hb])) (by omega) (by omega)
theorem bound_l0 (l : List S63) (hg : goodB l = true) (L : List Int) (hL : ∀ b ∈ L, inJ l.length b) (hlen : L.length ≤ 8) : ∀ (d i : Nat) (x y t : Int), i + d = L.length → 0 ≤ x → x ≤ 500 → 0 ≤ y → y ≤ 500 → 0 ≤ t → t ≤ 50 * i →
    Ev (fun K => impl_latenessBound.l0 K l x y t L (L.length : Int) (i : Int)) (lowF l x (L.drop i) + (t + sumW (tmJ l) (L.drop i)) - topF l y (L.drop i)) := by
  intro d
  induction d with
  | zero =>
    intro i x y t hi h1 h2 h3 h4 h5 h6
    refine ev_succ ?_
    simp only [impl_latenessBound.l0, if_neg (show ¬ ((i : Int) < (L.length : Int)) by omega)]
    rw [List.drop_eq_nil_of_le (by omega), w64 (x := x + t) (by omega) (by omega), w64 (by omega) (by omega)]
    simp only [lowF, topF, sumW, List.foldl_nil, Int.add_zero]
    exact ev_now _
  | succ d ih =>
    intro i x y t hi h1 h2 h3 h4 h5 h6
    refine ev_succ ?_
    have hil : i < L.length := by omega
    have hm := hL _ (List.getElem_mem hil)
    have hb := rel_at hg hm
    simp only [impl_latenessBound.l0, if_pos (show (i : Int) < (L.length : Int) by omega), if_pos (show (0 : Int) ≤ (i : Int) by omega), rdW L i hil, if_pos hm.1, if_pos hm.2, w64 (x := t + (rd_T63 l L[i]).f0) (by omega) (by omega), w64 (x := (i : Int) + 1) (by omega) (by omega), mn_min, mx_max]
    have := ih (i + 1) (min x (rd_T63 l L[i]).f2) (max y (rd_T63 l L[i]).f3) (t + (rd_T63 l L[i]).f0) (by omega) (by omega) (by omega) (by omega) (by omega) (by omega) (by omega)
    rw [List.drop_eq_getElem_cons hil]
    show Ev _ (lowF l (min x (rd_T63 l L[i]).f2) (L.drop (i + 1)) + (t + (tmJ l L[i] + sumW (tmJ l) (L.drop (i + 1)))) - topF l (max y (rd_T63 l L[i]).f3) (L.drop (i + 1)))
    rw [← Int.add_assoc t]
    exact this
theorem set_l0 (l : List S63) (hg : goodB l = true) (L : List Int) (hL : ∀ b ∈ L, inJ l.length b) (hlen : L.length ≤ 8) : ∀ (d i : Nat) (x y : Int), i + d = L.length → 0 ≤ x → x ≤ 500 → 0 ≤ y → y ≤ 500 →
    Ev (fun K => spec_l5Set.l0 K l L x y (i : Int)) (lowF l x (L.drop i) + sumW (tmJ l) L - topF l y (L.drop i)) := by
  have hs := sum_bd hg L hL
  intro d
  induction d with
  | zero =>
    intro i x y hi h1 h2 h3 h4
    refine ev_succ ?_
    simp only [spec_l5Set.l0, if_neg (show ¬ ((i : Int) < (L.length : Int)) by omega)]
    refine ev_bind (l3Total_ev l (good_small hg) L hL (by omega)) ?_
    rw [List.drop_eq_nil_of_le (by omega), w64 (x := x + sumW (tmJ l) L) (by omega) (by omega), w64 (by omega) (by omega)]
    simp only [lowF, topF, List.foldl_nil]
    exact ev_now _
  | succ d ih =>
    intro i x y hi h1 h2 h3 h4
    refine ev_succ ?_
    have hil : i < L.length := by omega
    have hm := hL _ (List.getElem_mem hil)
    have hb := rel_at hg hm
    simp only [spec_l5Set.l0, if_pos (show (i : Int) < (L.length : Int) by omega), if_pos (show (0 : Int) ≤ (i : Int) by omega), rdW L i hil, if_pos hm.1, if_pos hm.2, w64 (x := (i : Int) + 1) (by omega) (by omega), least_min, most_max, Option.bind_some]
    have := ih (i + 1) (min x (rd_T63 l L[i]).f2) (max y (rd_T63 l L[i]).f3) (by omega) (by omega) (by omega) (by omega) (by omega)
    rw [List.drop_eq_getElem_cons hil]
    exact this
theorem bound_both (l : List S63) (hg : goodB l = true) (L : List Int) (hL : ∀ b ∈ L, inJ l.length b) (hlen : L.length ≤ 8) (h0 : 0 < L.length) : ∃ b : Int, -2000 ≤ b ∧ b ≤ 2000 ∧ Ev (fun k => spec_l5Set.f k l L) b ∧ Ev (fun k => impl_latenessBound.f k l L) b := by
  have hs := sum_bd hg L hL
  have h1 := lowF_bd hg L 500 hL (by omega) (by omega)
  have h2 := topF_bd hg L 0 hL (by omega) (by omega)
  refine ⟨lowF l 500 L + sumW (tmJ l) L - topF l 0 L, by omega, by omega, ?_, ?_⟩
  · have hm := hL _ (List.getElem_mem h0)
    have hb := rel_at hg hm
    unfold spec_l5Set.f
    rw [show ((0 : Int)) = ((0 : Nat) : Int) from rfl, rdW L 0 h0]
    simp only [if_pos (show ((0 : Nat) : Int) < (L.length : Int) by omega), if_pos (show ((0 : Nat) : Int) ≤ L[0] from hm.1), if_pos hm.2]
    have := set_l0 l hg L hL hlen L.length 0 (rd_T63 l L[0]).f2 (rd_T63 l L[0]).f3 (by omega) (by omega) (by omega) (by omega) (by omega)
    rw [List.drop_zero] at this
    have e1 : lowF l (rd_T63 l L[0]).f2 L = lowF l 500 L := by
      obtain ⟨a, t, rfl⟩ : ∃ a t, L = a :: t := by cases L with | nil => simp at h0 | cons a t => exact ⟨a, t, rfl⟩
      have hb : 0 ≤ (rd_T63 l a).f2 ∧ (rd_T63 l a).f2 ≤ 500 := ⟨hb.2.2.1, hb.2.2.2.1⟩
      show lowF l (min (rd_T63 l a).f2 (rd_T63 l a).f2) t = lowF l (min 500 (rd_T63 l a).f2) t
      rw [show min (rd_T63 l a).f2 (rd_T63 l a).f2 = min 500 (rd_T63 l a).f2 by omega]
    have e2 : topF l (rd_T63 l L[0]).f3 L = topF l 0 L := by
      obtain ⟨a, t, rfl⟩ : ∃ a t, L = a :: t := by cases L with | nil => simp at h0 | cons a t => exact ⟨a, t, rfl⟩
      have hb : 0 ≤ (rd_T63 l a).f3 ∧ (rd_T63 l a).f3 ≤ 500 := ⟨hb.2.2.2.2.1, hb.2.2.2.2.2⟩
      show topF l (max (rd_T63 l a).f3 (rd_T63 l a).f3) t = topF l (max 0 (rd_T63 l a).f3) t
      rw [show max (rd_T63 l a).f3 (rd_T63 l a).f3 = max 0 (rd_T63 l a).f3 by omega]
    rw [e1, e2] at this
    exact this
  · have := bound_l0 l hg L hL hlen L.length 0 500 0 0 (by omega) (by omega) (by omega) (by omega) (by omega) (by omega) (by omega)
    rw [List.drop_zero, Int.zero_add] at this
    exact this
theorem lex_both (a b : List Int) (ha : a.length ≤ 1000) (hb : b.length ≤ 1000) (h1 : ∀ x ∈ a, 0 ≤ x ∧ x ≤ 1000) (h2 : ∀ x ∈ b, 0 ≤ x ∧ x ≤ 1000) : ∀ (d i : Nat), i + d = a.length → ∃ c : Int, Ev (fun K => impl_compareLists.l0 K a b (i : Int)) c ∧ Ev (fun K => spec_l5Less.l0 K a b (i : Int)) (decide (c < 0)) := by
  have fin : ∀ i : Nat, (i : Int) ≤ a.length → ∃ c : Int, Ev (fun K => impl_compareLists.j1 K a b (i : Int) false) c ∧ Ev (fun K => spec_l5Less.j1 K a b (i : Int) false) (decide (c < 0)) := by
    intro i hi
    refine ⟨(a.length : Int) - (b.length : Int), ev_succ ?_, ev_succ ?_⟩
    · simp only [impl_compareLists.j1, Bool.false_eq_true, if_false]
      rw [w64 (by omega) (by omega)]
      exact ev_now _
    · simp only [spec_l5Less.j1, Bool.false_eq_true, if_false]
      rw [show decide ((a.length : Int) - (b.length : Int) < 0) = decide ((a.length : Int) < (b.length : Int)) from decide_eq_decide.2 (by omega)]
      exact ev_now _
  intro d
  induction d with
  | zero =>
    intro i hi
    obtain ⟨c, e1, e2⟩ := fin i (by omega)
    refine ⟨c, ev_succ ?_, ev_succ ?_⟩
    · simp only [impl_compareLists.l0, if_neg (show ¬ ((i : Int) < (a.length : Int)) by omega)]
      exact e1
    · simp only [spec_l5Less.l0, if_neg (show ¬ ((i : Int) < (a.length : Int)) by omega)]
      exact e2
  | succ d ih =>
    intro i hi
    have hia : i < a.length := by omega
    by_cases hib : i < b.length
    · by_cases he : a[i] = b[i]
      · obtain ⟨c, e1, e2⟩ := ih (i + 1) (by omega)
        refine ⟨c, ev_succ ?_, ev_succ ?_⟩
        · simp only [impl_compareLists.l0, if_pos (show ((i : Int) < (a.length : Int)) by omega), decide_eq_true (show ((i : Int) < (b.length : Int)) by omega)]
          refine ev_succ ?_
          simp only [impl_compareLists.j1, if_true, if_pos (show (0 : Int) ≤ (i : Int) by omega), if_pos (show ((i : Int) < (a.length : Int)) by omega), if_pos (show ((i : Int) < (b.length : Int)) by omega), rdW a i hia, rdW b i hib, if_pos he, w64 (x := (i : Int) + 1) (by omega) (by omega)]
          exact e1
        · simp only [spec_l5Less.l0, if_pos (show ((i : Int) < (a.length : Int)) by omega), decide_eq_true (show ((i : Int) < (b.length : Int)) by omega)]
          refine ev_succ ?_
          simp only [spec_l5Less.j1, if_true, if_pos (show (0 : Int) ≤ (i : Int) by omega), if_pos (show ((i : Int) < (a.length : Int)) by omega), if_pos (show ((i : Int) < (b.length : Int)) by omega), rdW a i hia, rdW b i hib, if_pos he, w64 (x := (i : Int) + 1) (by omega) (by omega)]
          exact e2
      · have b1 := h1 _ (List.getElem_mem hia)
        have b2 := h2 _ (List.getElem_mem hib)
        refine ⟨a[i] - b[i], ev_succ ?_, ev_succ ?_⟩
        · simp only [impl_compareLists.l0, if_pos (show ((i : Int) < (a.length : Int)) by omega), decide_eq_true (show ((i : Int) < (b.length : Int)) by omega)]
          refine ev_succ ?_
          simp only [impl_compareLists.j1, if_true, if_pos (show (0 : Int) ≤ (i : Int) by omega), if_pos (show ((i : Int) < (a.length : Int)) by omega), if_pos (show ((i : Int) < (b.length : Int)) by omega), rdW a i hia, rdW b i hib, if_neg he, w64 (x := a[i] - b[i]) (by omega) (by omega)]
          exact ev_now _
        · simp only [spec_l5Less.l0, if_pos (show ((i : Int) < (a.length : Int)) by omega), decide_eq_true (show ((i : Int) < (b.length : Int)) by omega)]
          refine ev_succ ?_
          simp only [spec_l5Less.j1, if_true, if_pos (show (0 : Int) ≤ (i : Int) by omega), if_pos (show ((i : Int) < (a.length : Int)) by omega), if_pos (show ((i : Int) < (b.length : Int)) by omega), rdW a i hia, rdW b i hib, if_neg he]
          rw [show decide (a[i] - b[i] < 0) = decide (a[i] < b[i]) from decide_eq_decide.2 (by omega)]
          exact ev_now _
    · obtain ⟨c, e1, e2⟩ := fin i (by omega)
      refine ⟨c, ev_succ ?_, ev_succ ?_⟩
      · simp only [impl_compareLists.l0, if_pos (show ((i : Int) < (a.length : Int)) by omega), decide_eq_false (show ¬ ((i : Int) < (b.length : Int)) by omega)]
        exact e1
      · simp only [spec_l5Less.l0, if_pos (show ((i : Int) < (a.length : Int)) by omega), decide_eq_false (show ¬ ((i : Int) < (b.length : Int)) by omega)]
        exact e2
theorem tmod2 (m : Nat) : Int.tmod (m : Int) 2 = ((m % 2 : Nat) : Int) := by rw [Int.tmod_eq_emod_of_nonneg (by omega)]; omega
theorem tdiv2 (m : Nat) : Int.tdiv (m : Int) 2 = ((m / 2 : Nat) : Int) := by rw [Int.tdiv_eq_ediv_of_nonneg (by omega)]; omega
theorem l5Subset_l0 (n c : Nat) (hn : n ≤ 8) (hc : c < 256) : ∀ (d i : Nat) (acc : List Int), i + d = n → acc.length ≤ i → Ev (fun K => spec_l5Subset.l0 K (n : Int) ((c / 2 ^ i : Nat) : Int) acc (i : Int)) (acc ++ blF c i d) := by
  intro d
  induction d with
  | zero =>
    intro i acc hi ha
    refine ev_succ ?_
    simp only [spec_l5Subset.l0, if_neg (show ¬ ((i : Int) < (n : Int)) by omega), blF, List.append_nil]
    exact ev_now _
  | succ d ih =>
    intro i acc hi ha
    refine ev_succ ?_
    have hq : c / 2 ^ i ≤ 256 := Nat.le_trans (Nat.div_le_self _ _) (by omega)
    have hd : c / 2 ^ i / 2 = c / 2 ^ (i + 1) := by rw [Nat.div_div_eq_div_mul, Nat.pow_succ]
    have wq : wrap64 ((c / 2 ^ (i + 1) : Nat) : Int) = ((c / 2 ^ (i + 1) : Nat) : Int) := by
      have h_ := Nat.div_le_self c (2 ^ (i + 1))
      generalize c / 2 ^ (i + 1) = z at h_ ⊢
      exact w64 (by omega) (by omega)
    simp only [spec_l5Subset.l0, if_pos (show ((i : Int) < (n : Int)) by omega), tmod2, tdiv2, hd, blF, wq, w64 (x := (i : Int) + 1) (by omega) (by omega)]
    by_cases hb : c / 2 ^ i % 2 = 1
    · have h := ih (i + 1) (acc ++ [(i : Int)]) (by omega) (by rw [List.length_append, List.length_singleton]; omega)
      rw [List.append_assoc] at h
      simp only [if_pos hb, if_pos (mod1 hb), if_pos (show acc.length < 17592186044416 by omega)]
      exact h
    · simp only [if_neg hb, if_neg (mod0' hb)]
      exact ih (i + 1) acc (by omega) (by omega)
theorem l5Subset_ev (n c : Nat) (hn : n ≤ 8) (hc : c < 256) : Ev (fun K => spec_l5Subset.f K (n : Int) (c : Int)) (blF c 0 n) := by
  have := l5Subset_l0 n c hn hc n 0 [] (by omega) (by simp)
  rw [Nat.pow_zero, Nat.div_one, List.nil_append] at this
  exact this
theorem blF_in (c n : Nat) : ∀ b ∈ blF c 0 n, 0 ≤ b ∧ b < (n : Int) := by
  intro b hb
  obtain ⟨j, rfl, h1, h2, _⟩ := blF_mem c n 0 b hb
  omega
theorem proof_loop (l : List S63) (hg : goodB l = true) : ∀ (d k : Nat) (B : List Int), k + d = 2 ^ l.length → 0 < k → B.length ≤ 8 → (∀ b ∈ B, inJ l.length b) → (1 < k → 0 < B.length) →
    ∃ r : List Int, r.length ≤ 8 ∧ Ev (fun K => spec_LatenessProof.l0 K l B (k : Int)) (r, true) ∧ Ev (fun K => impl_LatenessProof.l0 K l B (k : Int)) (r, true) := by
  have hl := good_len hg
  have h8 := pow8 l.length hl
  have hsh := shl1 l.length (by omega)
  intro d
  induction d with
  | zero =>
    intro k B hk hk0 hB hm h0
    refine ⟨B, hB, ev_succ ?_, ev_succ ?_⟩
    · simp only [spec_LatenessProof.l0, hsh, if_neg (show ¬ ((k : Int) < ((2 ^ l.length : Nat) : Int)) by omega)]
      exact ev_now _
    · simp only [impl_LatenessProof.l0, hsh, if_neg (show ¬ ((k : Int) < ((2 ^ l.length : Nat) : Int)) by omega)]
      exact ev_now _
  | succ d ih =>
    intro k B hk hk0 hB hm h0
    have hkl : k < 2 ^ l.length := by omega
    have s1 := l5Subset_ev l.length k hl (by omega)
    have s2 := listOf_ev k l.length hl hkl
    have hL := blF_in k l.length
    have hLn := blF_len k l.length 0
    have hLp : 0 < (blF k 0 l.length).length := by
      rw [← bl8 k l.length hl hkl]
      exact pc_pos k (by omega) hk0
    generalize blF k 0 l.length = L at s1 s2 hL hLn hLp
    have nextL := ih (k + 1) L (by omega) (by omega) (by omega) hL (fun _ => hLp)
    have wk := w64 (x := (k : Int) + 1) (by omega) (by omega)
    rw [show ((k : Int) + 1) = ((k + 1 : Nat) : Int) by omega] at wk
    have wk' : wrap64 ((k : Int) + 1) = ((k + 1 : Nat) : Int) := wk
    have gL : ∀ x : Option (List Int × Bool), (if (0 : Int) < (L.length : Int) then x else none) = x := fun x => if_pos (by omega)
    by_cases hz : (B.length : Int) = 0
    · obtain ⟨r, hr, e1, e2⟩ := nextL
      refine ⟨r, hr, ev_succ ?_, ev_succ ?_⟩
      · simp only [spec_LatenessProof.l0, hsh, if_pos (show ((k : Int) < ((2 ^ l.length : Nat) : Int)) by omega)]
        refine ev_bind s1 ?_
        simp only [if_pos hz, wk']
        exact e1
      · simp only [impl_LatenessProof.l0, hsh, if_pos (show ((k : Int) < ((2 ^ l.length : Nat) : Int)) by omega)]
        refine ev_bind s2 ?_
        simp only [if_pos hz, gL, wk']
        exact e2
    · have hB0 : 0 < B.length := by omega
      have nextB := ih (k + 1) B (by omega) (by omega) hB hm (fun _ => hB0)
      obtain ⟨b1, l1, u1, p1, q1⟩ := bound_both l hg L hL (by omega) hLp
      obtain ⟨b2, l2, u2, p2, q2⟩ := bound_both l hg B hm hB hB0
      have wb := w64 (x := b1 - b2) (by omega) (by omega)
      have start1 : ∀ r : List Int × Bool, Ev (fun K => if b1 > b2 then spec_LatenessProof.l0 K l L ((k + 1 : Nat) : Int) else ((spec_l5Set.f K l L).bind fun t165 => ((spec_l5Set.f K l B).bind fun t166 => (if t165 = t166 then ((spec_l5Less.f K L B).bind fun t167 => (if t167 = true then (spec_LatenessProof.l0 K l L ((k + 1 : Nat) : Int)) else (spec_LatenessProof.l0 K l B ((k + 1 : Nat) : Int)))) else (spec_LatenessProof.l0 K l B ((k + 1 : Nat) : Int)))))) r → Ev (fun K => spec_LatenessProof.l0 K l B (k : Int)) r := by
        intro r h
        refine ev_succ ?_
        simp only [spec_LatenessProof.l0, hsh, if_pos (show ((k : Int) < ((2 ^ l.length : Nat) : Int)) by omega)]
        refine ev_bind s1 ?_
        simp only [if_neg hz, wk']
        refine ev_bind p1 ?_
        refine ev_bind p2 ?_
        exact h
      have start2 : ∀ r : List Int × Bool, Ev (fun K => if b1 - b2 > 0 then impl_LatenessProof.l0 K l L ((k + 1 : Nat) : Int) else (if b1 - b2 = 0 then ((impl_compareLists.f K L B).bind fun t192 => (if t192 < 0 then (impl_LatenessProof.l0 K l L ((k + 1 : Nat) : Int)) else (impl_LatenessProof.l0 K l B ((k + 1 : Nat) : Int)))) else (impl_LatenessProof.l0 K l B ((k + 1 : Nat) : Int)))) r → Ev (fun K => impl_LatenessProof.l0 K l B (k : Int)) r := by
        intro r h
        refine ev_succ ?_
        simp only [impl_LatenessProof.l0, hsh, if_pos (show ((k : Int) < ((2 ^ l.length : Nat) : Int)) by omega)]
        refine ev_bind s2 ?_
        simp only [if_neg hz, gL, wk']
        refine ev_bind q1 ?_
        refine ev_bind q2 ?_
        simp only [wb]
        exact h
      by_cases hgt : b1 > b2
      · obtain ⟨r, hr, e1, e2⟩ := nextL
        refine ⟨r, hr, start1 _ ?_, start2 _ ?_⟩
        · simp only [if_pos hgt]; exact e1
        · simp only [if_pos (show b1 - b2 > 0 by omega)]; exact e2
      · by_cases heq : b1 = b2
        · obtain ⟨c, c1, c2⟩ := lex_both L B (by omega) (by omega) (fun x hx => by have := hL x hx; omega) (fun x hx => by have := hm x hx; have := this.1; have := (hm x hx).2; omega) L.length 0 (by omega)
          by_cases hc : c < 0
          · obtain ⟨r, hr, e1, e2⟩ := nextL
            refine ⟨r, hr, start1 _ ?_, start2 _ ?_⟩
            · simp only [if_neg hgt]
              refine ev_bind p1 ?_
              refine ev_bind p2 ?_
              simp only [if_pos heq]
              refine ev_bind c2 ?_
              simp only [decide_eq_true hc, if_true]
              exact e1
            · simp only [if_neg (show ¬ b1 - b2 > 0 by omega), if_pos (show b1 - b2 = 0 by omega)]
              refine ev_bind c1 ?_
              simp only [if_pos hc]
              exact e2
          · obtain ⟨r, hr, e1, e2⟩ := nextB
            refine ⟨r, hr, start1 _ ?_, start2 _ ?_⟩
            · simp only [if_neg hgt]
              refine ev_bind p1 ?_
              refine ev_bind p2 ?_
              simp only [if_pos heq]
              refine ev_bind c2 ?_
              simp only [decide_eq_false hc, Bool.false_eq_true, if_false]
              exact e1
            · simp only [if_neg (show ¬ b1 - b2 > 0 by omega), if_pos (show b1 - b2 = 0 by omega)]
              refine ev_bind c1 ?_
              simp only [if_neg hc]
              exact e2
        · obtain ⟨r, hr, e1, e2⟩ := nextB
          refine ⟨r, hr, start1 _ ?_, start2 _ ?_⟩
          · simp only [if_neg hgt]
            refine ev_bind p1 ?_
            refine ev_bind p2 ?_
            simp only [if_neg heq]
            exact e1
          · simp only [if_neg (show ¬ b1 - b2 > 0 by omega), if_neg (show ¬ b1 - b2 = 0 by omega)]
            exact e2
theorem core (l : List S63) (hm : l.length ≤ 1048576) (_ : ∀ (i : Nat) (hi : i < l.length), I64 l[i].f0 ∧ I64 l[i].f1 ∧ I64 l[i].f2 ∧ I64 l[i].f3) :
    ∃ (r : List Int) (ok : Bool), r.length ≤ 1048576 ∧ Ev (fun k => spec_LatenessProof.f k l) (r, ok) ∧ Ev (fun k => impl_LatenessProof.f k l) (r, ok) := by
  have h1 := l2Good_ev l (by omega)
  have h2 := IsJobs_ev l (by omega)
  have n1 : Ev (fun k => spec_LatenessProof.j0 k l [] true) ([], false) := ev_succ (by simp only [spec_LatenessProof.j0, if_true]; exact ev_now _)
  have n2 : Ev (fun k => impl_LatenessProof.j0 k l true) ([], false) := ev_succ (by simp only [impl_LatenessProof.j0, if_true]; exact ev_now _)
  unfold spec_LatenessProof.f impl_LatenessProof.f
  simp only [Option.bind_some]
  cases hp : goodB l
  · rw [hp] at h1 h2
    exact ⟨[], false, by simp, ev_bind h1 (by simp only [Bool.false_eq_true, if_false]; exact n1), ev_bind h2 (by simp only [Bool.false_eq_true, if_false]; exact n2)⟩
  rw [hp] at h1 h2
  by_cases hz : (l.length : Int) = 0
  · refine ⟨[], false, by simp, ev_bind h1 ?_, ev_bind h2 ?_⟩ <;> simp only [if_true, beq_iff_eq.2 hz]
    · exact n1
    · exact n2
  have hb : ((l.length : Int) == 0) = false := beq_eq_false_iff_ne.2 hz
  have hpos : 0 < 2 ^ l.length := Nat.pow_pos (by omega)
  obtain ⟨r, hr, e1, e2⟩ := proof_loop l hp (2 ^ l.length - 1) 1 [] (by omega) (by omega) (by simp) (by simp) (by omega)
  refine ⟨r, true, by omega, ev_bind h1 ?_, ev_bind h2 ?_⟩ <;> simp only [if_true, hb]
  · refine ev_succ ?_
    simp only [spec_LatenessProof.j0, Bool.false_eq_true, if_false]
    exact e1
  · refine ev_succ ?_
    simp only [impl_LatenessProof.j0, Bool.false_eq_true, if_false]
    exact e2

theorem FnExactLatenessProof : FnExactLatenessProof.Claim := by
  intro l0 hl0 hg0
  refine Ev.rounds ?_
  unfold laws_FnExactLatenessProof.f
  simp only [szJobS_eq l0 (1048576 : Int) (by omega) (by omega) hl0, Option.bind_some]
  by_cases h0 : (1048576 : Int) < l0.length
  · simp only [if_pos h0, if_pos (show (-1 : Int) < 0 by omega)]
    exact ev_now _
  simp only [if_neg h0, if_neg (show ¬ (((1048576 : Int) - l0.length) < 0) by omega)]
  have ht0 := toJobS_ev l0 (by omega)
  have hm0 : (l0.map conv).length ≤ 1048576 := by simp; omega
  have hq0 := eqJobS_ev (l0.map conv) (by omega)
  obtain ⟨r0, r1, hr0, hs, hi⟩ := core (l0.map conv) hm0 (conv_I64 l0 hg0)
  obtain ⟨qa0, ya0, _, hb0, ma0⟩ := markJobS_from1 (l0.map conv) hm0
  have he0 := eqIntS_ev r0 (by omega)
  obtain ⟨q0, y0, hq_0, m0, e0⟩ := markIntS_ev r0 hr0
  repeat first
    | exact ev_now _
    | with_reducible refine ev_bind hs ?_
    | with_reducible refine ev_bind hi ?_
    | with_reducible refine ev_bind ht0 ?_
    | with_reducible refine ev_bind hq0 ?_
    | with_reducible refine ev_bind ma0 ?_
    | with_reducible refine ev_bind he0 ?_
    | with_reducible refine ev_bind m0 ?_
    | with_reducible refine ev_bind e0 ?_
    | simp only [if_true, if_false, bne_self_eq_false, Bool.false_eq_true, if_neg (show ¬ ((qa0 : Int) < 0) by omega), if_neg (show ¬ ((q0 : Int) < 0) by omega)]
    | (refine ev_succ ?_; simp only [laws_FnExactLatenessProof.j0])
    | (refine ev_succ ?_; simp only [laws_FnExactLatenessProof.j1])
    | (refine ev_succ ?_; simp only [laws_FnExactLatenessProof.j2])

end Go.Proofs.Ytnhceifdiaigbaa.Pure
