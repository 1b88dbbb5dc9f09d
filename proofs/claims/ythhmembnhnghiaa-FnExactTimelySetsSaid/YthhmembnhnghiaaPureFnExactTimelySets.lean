/- The program's function and the reference's come to the same answer: the statement of numbers and lists behind the law FnExactTimelySets. Conditions: none. -/
import Derived.Test.YthhmembnhnghiaaArgFnExactTimelySets
import Derived.Test.YthhmembnhnghiaaBase
namespace Go.Proofs.Ythhmembnhnghiaa.Pure
open Go.RowKit Go.Proofs.Ythhmembnhnghiaa.OFnExactTimelySets Go.Proofs.Ythhmembnhnghiaa.Base Go.Proofs.YthhmembnhnghiaaW.PrintWords Go.Proofs.YthhmembnhnghiaaW.PrintLast Go.Proofs.YthhmembnhnghiaaW.PrintMore Go.Proofs.Ythhmembnhnghiaa.Open
set_option linter.unusedVariables false
set_option linter.unusedSimpArgs false

def laws_heldJobS.l0 : Nat → List (S59) → Int → Int → Option (Int)
  | 0, _, _, _ => none
  | k + 1, x0, x1, x5 => if x5 < (x0.length : Int) then (if 0 ≤ x5 then (if ((rd_T59 x0 x5).f0) = x1 then (if ((rd_T59 x0 x5).f1) = (wrap64 (x1 + 1)) then (if ((rd_T59 x0 x5).f2) = (wrap64 ((wrap64 (x1 + 1)) + 1)) then (if ((rd_T59 x0 x5).f3) = (wrap64 ((wrap64 ((wrap64 (x1 + 1)) + 1)) + 1)) then (laws_heldJobS.l0 k x0 (wrap64 ((wrap64 ((wrap64 ((wrap64 (x1 + 1)) + 1)) + 1)) + 1)) (wrap64 (x5 + 1))) else (some (-1))) else (some (-1))) else (some (-1))) else (some (-1))) else (none)) else (some x1)
def laws_heldJobS.f (k : Nat) (l0 : List (S59)) (a1 : Int) : Option (Int) := laws_heldJobS.l0 k l0 a1 0

theorem szJobS_eq (xs : List S63) (left : Int) (h0 : 0 ≤ left) (h1 : left ≤ 1048576) (h : xs.length ≤ 9223372036854775807) : laws_szJobS.f xs left = some (if left < xs.length then -1 else left - xs.length) := by
  unfold laws_szJobS.f
  rw [w64 (by omega) (by omega)]
  by_cases c : left < xs.length
  · rw [if_pos (by omega), if_pos c]
  · rw [if_neg (by omega), if_neg c]

def conv (x : S63) : S59 := ⟨x.f0, x.f1, x.f2, x.f3⟩
theorem rdL (xs : List S63) (i : Nat) (h : i < xs.length) : rd_T63 xs (i : Int) = xs[i] := by
  unfold rd_T63
  rw [Int.toNat_natCast, List.getD_eq_getElem?_getD, List.getElem?_eq_getElem h]
  rfl

theorem toJobS_l (xs : List S63) (hn : xs.length ≤ 8796093022208) : ∀ (d i : Nat) (ys : List S59), i + d = xs.length → ys.length = xs.length → ys.take i = (xs.map conv).take i → Ev (fun k => laws_toJobS.l0 k xs ys (i : Int)) (xs.map conv) := by
  intro d
  induction d with
  | zero =>
    intro i ys hi hl ht
    refine ev_succ ?_
    simp only [laws_toJobS.l0, if_neg (show ¬ (i : Int) < (xs.length : Int) by omega)]
    have : ys = xs.map conv := by
      rw [List.take_of_length_le (by omega), List.take_of_length_le (by simp; omega)] at ht
      exact ht
    rw [this]
    exact ev_now _
  | succ d ih =>
    intro i ys hi hl ht
    refine ev_succ ?_
    have hx : i < xs.length := by omega
    simp only [laws_toJobS.l0, laws_toJob.f, Option.bind_some, if_pos (show (i : Int) < (xs.length : Int) by omega), if_pos (show (i : Int) < (ys.length : Int) by omega), if_pos (show (0 : Int) ≤ (i : Int) by omega), rdL xs i hx, wsucc i (by omega), Int.toNat_natCast]
    refine ih (i + 1) _ (by omega) (by rw [List.length_set]; exact hl) ?_
    rw [take_set_succ ys i _ (by omega), ht, List.take_succ_eq_append_getElem (by simp; omega)]
    simp [conv]
theorem toJobS_ev (xs : List S63) (hn : xs.length ≤ 1048576) : Ev (fun k => laws_toJobS.f k xs) (xs.map conv) := by
  unfold laws_toJobS.f
  simp only [if_pos (show (0 : Int) ≤ (xs.length : Int) by omega), Int.toNat_natCast, if_pos (show xs.length ≤ 8796093022208 by omega)]
  exact toJobS_l xs (by omega) xs.length 0 _ (by omega) (by simp) (by simp)

theorem rdI (xs : List S59) (i : Nat) (h : i < xs.length) : rd_T59 xs (i : Int) = xs[i] := by
  unfold rd_T59
  rw [Int.toNat_natCast, List.getD_eq_getElem?_getD, List.getElem?_eq_getElem h]
  rfl

theorem eqJobS_l (xs : List S59) (hn : xs.length ≤ 4611686018427387904) : ∀ (d i : Nat), i + d = xs.length → Ev (fun k => laws_eqJobS.l0 k xs xs (i : Int)) true := by
  intro d
  induction d with
  | zero =>
    intro i hi
    refine ev_succ ?_
    simp only [laws_eqJobS.l0, if_neg (show ¬ (i : Int) < (xs.length : Int) by omega)]
    exact ev_now _
  | succ d ih =>
    intro i hi
    refine ev_succ ?_
    simp only [laws_eqJobS.l0, laws_eqJob.f, if_true, Option.bind_some, if_pos (show (i : Int) < (xs.length : Int) by omega), if_pos (show (0 : Int) ≤ (i : Int) by omega), wsucc i (by omega)]
    exact ih (i + 1) (by omega)
theorem eqJobS_ev (xs : List S59) (hn : xs.length ≤ 4611686018427387904) : Ev (fun k => laws_eqJobS.f k xs xs) true := by
  unfold laws_eqJobS.f
  simp only [if_true]
  exact eqJobS_l xs hn xs.length 0 (by omega)

theorem conv_I64 (l : List S63) (hg : ∀ x ∈ l, G63 x) (i : Nat) (hi : i < (l.map conv).length) : I64 (l.map conv)[i].f0 ∧ I64 (l.map conv)[i].f1 ∧ I64 (l.map conv)[i].f2 ∧ I64 (l.map conv)[i].f3 := by
  simp only [List.getElem_map, conv]
  exact hg _ (List.getElem_mem _)

theorem rdI_set (xs : List S59) (i : Nat) (h : i < xs.length) (v : S59) : rd_T59 (xs.set i v) (i : Int) = v := by
  rw [rdI _ i (by rw [List.length_set]; exact h)]
  simp
theorem markJobS_l : ∀ (d i m : Nat) (xs : List S59), i + d = xs.length → m + 4 * d ≤ 1152921504606846976 → xs.length ≤ 1152921504606846976 →
    ∃ (q : Nat) (ys : List S59), Ev (fun k => laws_markJobS.l0 k xs (m : Int) (i : Int)) ((q : Int), ys) ∧ ys.length = xs.length ∧ ys.take i = xs.take i ∧ m ≤ q ∧ q ≤ m + 4 * d ∧ Ev (fun k => laws_heldJobS.l0 k ys (m : Int) (i : Int)) (q : Int) := by
  intro d
  induction d with
  | zero =>
    intro i m xs hi hmd hxl
    refine ⟨m, xs, ev_succ ?_, rfl, rfl, Nat.le_refl _, by omega, ev_succ ?_⟩
    · simp only [laws_markJobS.l0, if_neg (show ¬ (i : Int) < (xs.length : Int) by omega)]
      exact ev_now _
    · simp only [laws_heldJobS.l0, if_neg (show ¬ (i : Int) < (xs.length : Int) by omega)]
      exact ev_now _
  | succ d ih =>
    intro i m xs hi hmd hxl
    obtain ⟨q, ys, h1, h2, h3, h4, h4', h5⟩ := ih (i + 1) (m + 4) (xs.set i ⟨(m : Int), ((m + 1 : Nat) : Int), ((m + 2 : Nat) : Int), ((m + 3 : Nat) : Int)⟩) (by rw [List.length_set]; omega) (by omega) (by rw [List.length_set]; omega)
    rw [List.length_set] at h2
    rw [take_set_succ xs i _ (by omega)] at h3
    have hy : ys[i]'(by omega) = ⟨(m : Int), ((m + 1 : Nat) : Int), ((m + 2 : Nat) : Int), ((m + 3 : Nat) : Int)⟩ := by
      have := congrArg (fun l => l[i]?) h3
      simp only [List.getElem?_take, if_pos (show i < i + 1 by omega)] at this
      rw [List.getElem?_append_right (by simp; omega), List.getElem?_eq_getElem (by omega)] at this
      simpa [Nat.min_eq_left (show i ≤ xs.length by omega)] using this
    refine ⟨q, ys, ev_succ ?_, h2, ?_, by omega, by omega, ev_succ ?_⟩
    · simp only [laws_markJobS.l0, Option.bind_some, if_pos (show (i : Int) < (xs.length : Int) by omega), if_pos (show (0 : Int) ≤ (i : Int) by omega), wsucc i (by omega), wsucc m (by omega), wsucc (m + 1) (by omega), wsucc (m + 2) (by omega), wsucc (m + 3) (by omega), Int.toNat_natCast, rdI_set xs i (by omega), List.set_set]
      exact h1
    · have := congrArg (fun l => l.take i) h3
      simp only [List.take_take, Nat.min_eq_left (show i ≤ i + 1 by omega)] at this
      rw [this, List.take_append_of_le_length (by simp; omega), List.take_take, Nat.min_self]
    · simp only [laws_heldJobS.l0, if_pos (show (i : Int) < (ys.length : Int) by omega), if_pos (show (0 : Int) ≤ (i : Int) by omega), wsucc i (by omega), wsucc m (by omega), wsucc (m + 1) (by omega), wsucc (m + 2) (by omega), wsucc (m + 3) (by omega), rdI ys i (by omega), hy, if_true]
      exact h5
theorem markJobS_from (xs : List S59) (h : xs.length ≤ 1048576) (m : Nat) (hm : m ≤ 1000000000) : ∃ (q : Nat) (ys : List S59), m ≤ q ∧ q ≤ m + 4194304 ∧ Ev (fun k => laws_markJobS.f k xs (m : Int)) ((q : Int), ys) := by
  obtain ⟨q, ys, h1, h2, h3, h4, h4', h5⟩ := markJobS_l xs.length 0 m xs (by omega) (by omega) (by omega)
  exact ⟨q, ys, h4, by omega, h1⟩
theorem markJobS_from1 (xs : List S59) (h : xs.length ≤ 1048576) : ∃ (q : Nat) (ys : List S59), 1 ≤ q ∧ q ≤ 1 + 4194304 ∧ Ev (fun k => laws_markJobS.f k xs 1) ((q : Int), ys) := markJobS_from xs h 1 (by omega)

theorem rdN (xs : List Int) (i : Nat) (h : i < xs.length) : rd xs (i : Int) = xs[i] := by
  unfold rd
  rw [Int.toNat_natCast, List.getD_eq_getElem?_getD, List.getElem?_eq_getElem h]
  rfl

theorem markIntS_l : ∀ (d i m : Nat) (xs : List Int), i + d = xs.length → m + d ≤ 1152921504606846976 → xs.length ≤ 1152921504606846976 →
    ∃ (q : Nat) (ys : List Int), Ev (fun k => laws_markIntS.l0 k xs (m : Int) (i : Int)) ((q : Int), ys) ∧ ys.length = xs.length ∧ ys.take i = xs.take i ∧ m ≤ q ∧ q ≤ m + d ∧ Ev (fun k => laws_heldIntS.l0 k ys (m : Int) (i : Int)) (q : Int) := by
  intro d
  induction d with
  | zero =>
    intro i m xs hi hmd hxl
    refine ⟨m, xs, ev_succ ?_, rfl, rfl, Nat.le_refl _, by omega, ev_succ ?_⟩
    · simp only [laws_markIntS.l0, if_neg (show ¬ (i : Int) < (xs.length : Int) by omega)]
      exact ev_now _
    · simp only [laws_heldIntS.l0, if_neg (show ¬ (i : Int) < (xs.length : Int) by omega)]
      exact ev_now _
  | succ d ih =>
    intro i m xs hi hmd hxl
    obtain ⟨q, ys, h1, h2, h3, h4, h4', h5⟩ := ih (i + 1) (m + 1) (xs.set i (m : Int)) (by rw [List.length_set]; omega) (by omega) (by rw [List.length_set]; omega)
    rw [List.length_set] at h2
    rw [take_set_succ xs i _ (by omega)] at h3
    have hy : ys[i]'(by omega) = (m : Int) := by
      have := congrArg (fun l => l[i]?) h3
      simp only [List.getElem?_take, if_pos (show i < i + 1 by omega)] at this
      rw [List.getElem?_append_right (by simp; omega), List.getElem?_eq_getElem (by omega)] at this
      simpa [Nat.min_eq_left (show i ≤ xs.length by omega)] using this
    have hx : i < xs.length := by omega
    refine ⟨q, ys, ev_succ ?_, h2, ?_, by omega, by omega, ev_succ ?_⟩
    · simp only [laws_markIntS.l0, if_pos (show (i : Int) < (xs.length : Int) by omega), if_pos (show (0 : Int) ≤ (i : Int) by omega), Int.toNat_natCast, wsucc m (by omega), wsucc i (by omega)]
      exact h1
    · have := congrArg (fun l => l.take i) h3
      simp only [List.take_take, Nat.min_eq_left (show i ≤ i + 1 by omega)] at this
      rw [this, List.take_append_of_le_length (by simp; omega), List.take_take, Nat.min_self]
    · simp only [laws_heldIntS.l0, if_pos (show (i : Int) < (ys.length : Int) by omega), if_pos (show (0 : Int) ≤ (i : Int) by omega), rdN ys i (by omega), hy, if_true, wsucc m (by omega), wsucc i (by omega)]
      exact h5
theorem eqIntS_l (xs : List Int) (hn : xs.length ≤ 4611686018427387904) : ∀ (d i : Nat), i + d = xs.length → Ev (fun k => laws_eqIntS.l0 k xs xs (i : Int)) true := by
  intro d
  induction d with
  | zero =>
    intro i hi
    refine ev_succ ?_
    simp only [laws_eqIntS.l0, if_neg (show ¬ (i : Int) < (xs.length : Int) by omega)]
    exact ev_now _
  | succ d ih =>
    intro i hi
    refine ev_succ ?_
    simp only [laws_eqIntS.l0, if_true, if_pos (show (i : Int) < (xs.length : Int) by omega), if_pos (show (0 : Int) ≤ (i : Int) by omega), wsucc i (by omega)]
    exact ih (i + 1) (by omega)
theorem eqIntS_ev (xs : List Int) (hn : xs.length ≤ 4611686018427387904) : Ev (fun k => laws_eqIntS.f k xs xs) true := by
  unfold laws_eqIntS.f
  simp only [if_true]
  exact eqIntS_l xs hn xs.length 0 (by omega)

theorem rdSS (xs : List (List Int)) (i : Nat) (h : i < xs.length) : rd_L3 xs (i : Int) = xs[i] := by
  unfold rd_L3
  rw [Int.toNat_natCast, List.getD_eq_getElem?_getD, List.getElem?_eq_getElem h]
  rfl
theorem eqIntSS_ev (xs : List (List Int)) (hn : xs.length ≤ 1048576) (hr : ∀ x ∈ xs, x.length ≤ 1048576) : Ev (fun k => laws_eqIntSS.f k xs xs) true := by
  unfold laws_eqIntSS.f
  simp only [if_true]
  have loop : ∀ (d i : Nat), i + d = xs.length → Ev (fun k => laws_eqIntSS.l0 k xs xs (i : Int)) true := by
    intro d
    induction d with
    | zero =>
      intro i hi
      refine ev_succ ?_
      simp only [laws_eqIntSS.l0, if_neg (show ¬ ((i : Int) < (xs.length : Int)) by omega)]
      exact ev_now _
    | succ d ih =>
      intro i hi
      refine ev_succ ?_
      simp only [laws_eqIntSS.l0, if_pos (show (i : Int) < (xs.length : Int) by omega), if_pos (show (0 : Int) ≤ (i : Int) by omega), rdSS xs i (by omega), wsucc i (by omega)]
      refine ev_bind (eqIntS_ev xs[i] (by have := hr _ (List.getElem_mem (show i < xs.length by omega)); omega)) ?_
      simp only [if_true]
      exact ih (i + 1) (by omega)
  exact loop xs.length 0 (by omega)
theorem markIntSS_l : ∀ (d i m : Nat) (xs : List (List Int)), i + d = xs.length → m + 1048576 * d ≤ 1152921504606846976 → xs.length ≤ 1048576 → (∀ x ∈ xs, x.length ≤ 1048576) →
    ∃ (q : Nat) (ys : List (List Int)), Ev (fun k => laws_markIntSS.l0 k xs (m : Int) (i : Int)) ((q : Int), ys) ∧ ys.length = xs.length ∧ ys.take i = xs.take i ∧ m ≤ q ∧ Ev (fun k => laws_heldIntSS.l0 k ys (m : Int) (i : Int)) (q : Int) := by
  intro d
  induction d with
  | zero =>
    intro i m xs hi hmd hxl _
    refine ⟨m, xs, ev_succ ?_, rfl, rfl, Nat.le_refl _, ev_succ ?_⟩
    · simp only [laws_markIntSS.l0, if_neg (show ¬ (i : Int) < (xs.length : Int) by omega)]
      exact ev_now _
    · simp only [laws_heldIntSS.l0, if_neg (show ¬ (i : Int) < (xs.length : Int) by omega)]
      exact ev_now _
  | succ d ih =>
    intro i m xs hi hmd hxl hr
    have hrow := hr _ (List.getElem_mem (show i < xs.length by omega))
    obtain ⟨q1, y1, a1, a2, _, a4, a5, a6⟩ := markIntS_l xs[i].length 0 m xs[i] (by omega) (by omega) (by omega)
    obtain ⟨q, ys, h1, h2, h3, h4, h5⟩ := ih (i + 1) q1 (xs.set i y1) (by rw [List.length_set]; omega) (by omega) (by rw [List.length_set]; omega) (fun x hx => by
      rcases List.mem_or_eq_of_mem_set hx with h | h
      · exact hr x h
      · subst h; omega)
    rw [List.length_set] at h2
    have hy : ys[i]'(by omega) = y1 := by
      have := congrArg (fun l => l[i]?) h3
      simp only [List.getElem?_take, if_pos (show i < i + 1 by omega)] at this
      rw [List.getElem?_eq_getElem (by omega), List.getElem?_set, if_pos rfl, if_pos (by omega)] at this
      exact Option.some.inj this
    refine ⟨q, ys, ev_succ ?_, h2, ?_, by omega, ev_succ ?_⟩
    · simp only [laws_markIntSS.l0, if_pos (show (i : Int) < (xs.length : Int) by omega), if_pos (show (0 : Int) ≤ (i : Int) by omega), Int.toNat_natCast, rdSS xs i (by omega), wsucc i (by omega)]
      exact ev_bind (by unfold laws_markIntS.f; exact a1) h1
    · have := congrArg (fun l => l.take i) h3
      simp only [List.take_take, Nat.min_eq_left (show i ≤ i + 1 by omega)] at this
      rw [this, List.take_set, List.set_eq_of_length_le (by rw [List.length_take]; omega)]
    · simp only [laws_heldIntSS.l0, if_pos (show (i : Int) < (ys.length : Int) by omega), if_pos (show (0 : Int) ≤ (i : Int) by omega), rdSS ys i (by omega), hy, wsucc i (by omega)]
      refine ev_bind (by unfold laws_heldIntS.f; exact a6) ?_
      simp only [if_neg (show ¬ ((q1 : Int) < 0) by omega)]
      exact h5
theorem markIntSS_ev (xs : List (List Int)) (hn : xs.length ≤ 1048576) (hr : ∀ x ∈ xs, x.length ≤ 1048576) : ∃ (q : Nat) (ys : List (List Int)), Ev (fun k => laws_markIntSS.f k xs 1) ((q : Int), ys) ∧ Ev (fun k => laws_heldIntSS.f k ys 1) (q : Int) := by
  obtain ⟨q, ys, h1, _, _, _, h5⟩ := markIntSS_l xs.length 0 1 xs (by omega) (by omega) hn hr
  exact ⟨q, ys, h1, h5⟩

theorem within_eq (a b c : Int) : impl_within.f a b c = some (decide (b ≤ a) && decide (a ≤ c)) := by
  unfold impl_within.f
  by_cases h : b ≤ a
  · rw [if_pos h]; simp [h]
  · rw [if_neg h]; simp [h]

/-- A job's numbers are in their bounds. -/
def okJ (x : S59) : Bool := decide (1 ≤ x.f0) && (decide (x.f0 ≤ 50) && (decide (0 ≤ x.f1) && (decide (x.f1 ≤ 50) && (decide (0 ≤ x.f2) && (decide (x.f2 ≤ 500) && (decide (0 ≤ x.f3) && decide (x.f3 ≤ 500)))))))
def goodB (l : List S59) : Bool := decide (l.length ≤ 8) && l.all okJ
theorem isDate_eq (a : Int) : impl_isDate.f a = some (decide (0 ≤ a) && decide (a ≤ 500)) := by
  unfold impl_isDate.f
  rw [within_eq]
  rfl
theorem job_chain (x : S59) (o : Option Bool) : (if (decide (1 ≤ x.f0) && decide (x.f0 ≤ 50)) = true then (if (decide (0 ≤ x.f1) && decide (x.f1 ≤ 50)) = true then (if (decide (0 ≤ x.f2) && decide (x.f2 ≤ 500)) = true then (if (decide (0 ≤ x.f3) && decide (x.f3 ≤ 500)) = true then o else some false) else some false) else some false) else some false) = if okJ x = true then o else some false := by
  unfold okJ
  by_cases a1 : 1 ≤ x.f0 <;> by_cases a2 : x.f0 ≤ 50 <;> simp [a1, a2]
  by_cases b1 : 0 ≤ x.f1 <;> by_cases b2 : x.f1 ≤ 50 <;> simp [b1, b2]
  by_cases c1 : 0 ≤ x.f2 <;> by_cases c2 : x.f2 ≤ 500 <;> simp [c1, c2]
theorem IsJobs_l (xs : List S59) (hn : xs.length ≤ 4611686018427387904) : ∀ (d i : Nat), i + d = xs.length → Ev (fun k => impl_IsJobs.l0 k xs (xs.length : Int) (i : Int)) ((xs.drop i).all okJ) := by
  intro d
  induction d with
  | zero =>
    intro i hi
    refine ev_succ ?_
    simp only [impl_IsJobs.l0, if_neg (show ¬ (i : Int) < (xs.length : Int) by omega), List.drop_of_length_le (show xs.length ≤ i by omega)]
    exact ev_now _
  | succ d ih =>
    intro i hi
    refine ev_succ ?_
    have hx : i < xs.length := by omega
    have hih := ih (i + 1) (by omega)
    rw [List.drop_eq_getElem_cons hx, List.all_cons]
    simp only [impl_IsJobs.l0, within_eq, isDate_eq, Option.bind_some, if_pos (show (i : Int) < (xs.length : Int) by omega), if_pos (show (0 : Int) ≤ (i : Int) by omega), wsucc i (by omega), rdI xs i hx]
    generalize xs[i] = x at *
    simp only [job_chain]
    by_cases c : okJ x = true
    · simpa only [c, if_true, Bool.true_and] using hih
    · have c' : okJ x = false := by simpa using c
      simp only [c', Bool.false_and]
      exact ev_now _
theorem IsJobs_ev (xs : List S59) (hn : xs.length ≤ 4611686018427387904) : Ev (fun k => impl_IsJobs.f k xs) (goodB xs) := by
  unfold impl_IsJobs.f goodB
  by_cases h : xs.length ≤ 8
  · simp only [if_neg (show ¬ ((xs.length : Int) > 8) by omega), decide_eq_true h, Bool.true_and]
    exact IsJobs_l xs hn xs.length 0 (by omega)
  · simp only [if_pos (show ((xs.length : Int) > 8) by omega), decide_eq_false h, Bool.false_and]
    exact ev_now _

def freeJ (x : S59) : Bool := decide (x.f2 = 0)
def plainB (l : List S59) : Bool := goodB l && l.all freeJ
theorem isPlain_l (xs : List S59) (hn : xs.length ≤ 4611686018427387904) : ∀ (d i : Nat), i + d = xs.length → Ev (fun k => impl_isPlain.l0 k xs (xs.length : Int) (i : Int)) ((xs.drop i).all freeJ) := by
  intro d
  induction d with
  | zero =>
    intro i hi
    refine ev_succ ?_
    simp only [impl_isPlain.l0, if_neg (show ¬ (i : Int) < (xs.length : Int) by omega), List.drop_of_length_le (show xs.length ≤ i by omega)]
    exact ev_now _
  | succ d ih =>
    intro i hi
    refine ev_succ ?_
    have hx : i < xs.length := by omega
    have hih := ih (i + 1) (by omega)
    rw [List.drop_eq_getElem_cons hx, List.all_cons]
    simp only [impl_isPlain.l0, if_pos (show (i : Int) < (xs.length : Int) by omega), if_pos (show (0 : Int) ≤ (i : Int) by omega), wsucc i (by omega), rdI xs i hx]
    by_cases c : (xs[i]).f2 = 0
    · simp only [if_pos c, freeJ, decide_eq_true c, Bool.true_and]
      exact hih
    · simp only [if_neg c, freeJ, decide_eq_false c, Bool.false_and]
      exact ev_now _
theorem isPlain_ev (xs : List S59) (hn : xs.length ≤ 4611686018427387904) : Ev (fun k => impl_isPlain.f k xs) (xs.all freeJ) := by
  unfold impl_isPlain.f
  exact isPlain_l xs hn xs.length 0 (by omega)

theorem IsPlain_ev (xs : List S59) (hn : xs.length ≤ 4611686018427387904) : Ev (fun k => impl_IsPlain.f k xs) (plainB xs) := by
  unfold impl_IsPlain.f plainB
  refine ev_bind (IsJobs_ev xs hn) ?_
  cases goodB xs
  · simp only [Bool.false_eq_true, if_false, Bool.false_and]; exact ev_now _
  · simp only [if_true, Bool.true_and]; exact ev_bind (isPlain_ev xs hn) (ev_now _)

theorem l1In_eq (a b c : Int) : spec_l1In.f a b c = some (decide (b ≤ a) && decide (a ≤ c)) := by
  unfold spec_l1In.f
  by_cases h : b ≤ a
  · rw [if_pos h]; simp [h]
  · rw [if_neg h]; simp [h]

theorem l2Job_eq (x : S59) : spec_l2Job.f x.f0 x.f1 x.f2 x.f3 = some (okJ x) := by
  unfold spec_l2Job.f okJ
  simp only [l1In_eq, Option.bind_some]
  by_cases a1 : 1 ≤ x.f0 <;> by_cases a2 : x.f0 ≤ 50 <;> simp [a1, a2]
  by_cases b1 : 0 ≤ x.f1 <;> by_cases b2 : x.f1 ≤ 50 <;> simp [b1, b2]
  by_cases c1 : 0 ≤ x.f2 <;> by_cases c2 : x.f2 ≤ 500 <;> simp [c1, c2]
theorem l2Good_l (xs : List S59) (hn : xs.length ≤ 4611686018427387904) : ∀ (d i : Nat), i + d = xs.length → Ev (fun k => spec_l2Good.l0 k xs (i : Int)) ((xs.drop i).all okJ && decide (xs.length ≤ 8)) := by
  intro d
  induction d with
  | zero =>
    intro i hi
    refine ev_succ ?_
    simp only [spec_l2Good.l0, if_neg (show ¬ (i : Int) < (xs.length : Int) by omega), List.drop_of_length_le (show xs.length ≤ i by omega)]
    refine ev_const ?_
    simp
    omega
  | succ d ih =>
    intro i hi
    refine ev_succ ?_
    have hx : i < xs.length := by omega
    have hih := ih (i + 1) (by omega)
    rw [List.drop_eq_getElem_cons hx, List.all_cons]
    simp only [spec_l2Good.l0, if_pos (show (i : Int) < (xs.length : Int) by omega), if_pos (show (0 : Int) ≤ (i : Int) by omega), wsucc i (by omega), rdI xs i hx, l2Job_eq, Option.bind_some]
    by_cases c : okJ xs[i] = true
    · simpa only [c, if_true, Bool.true_and] using hih
    · have c' : okJ xs[i] = false := by simpa using c
      simp only [c', Bool.false_and]
      exact ev_now _
theorem l2Good_ev (xs : List S59) (hn : xs.length ≤ 4611686018427387904) : Ev (fun k => spec_l2Good.f k xs) (goodB xs) := by
  unfold spec_l2Good.f goodB
  rw [Bool.and_comm]
  exact l2Good_l xs hn xs.length 0 (by omega)

def freeJ' (x : S59) : Bool := decide (¬ x.f2 > 0)
theorem l4Free_l (xs : List S59) (hn : xs.length ≤ 4611686018427387904) : ∀ (d i : Nat), i + d = xs.length → Ev (fun k => spec_l4Free.l0 k xs (i : Int)) ((xs.drop i).all freeJ') := by
  intro d
  induction d with
  | zero =>
    intro i hi
    refine ev_succ ?_
    simp only [spec_l4Free.l0, if_neg (show ¬ (i : Int) < (xs.length : Int) by omega), List.drop_of_length_le (show xs.length ≤ i by omega)]
    exact ev_now _
  | succ d ih =>
    intro i hi
    refine ev_succ ?_
    have hx : i < xs.length := by omega
    have hih := ih (i + 1) (by omega)
    rw [List.drop_eq_getElem_cons hx, List.all_cons]
    simp only [spec_l4Free.l0, if_pos (show (i : Int) < (xs.length : Int) by omega), if_pos (show (0 : Int) ≤ (i : Int) by omega), wsucc i (by omega), rdI xs i hx]
    by_cases c : (xs[i]).f2 > 0
    · simp only [if_pos c, freeJ', decide_eq_false (show ¬ ¬ (xs[i]).f2 > 0 by omega), Bool.false_and]
      exact ev_now _
    · simp only [if_neg c, freeJ', decide_eq_true c, Bool.true_and]
      exact hih
theorem l4Free_ev (xs : List S59) (hn : xs.length ≤ 4611686018427387904) : Ev (fun k => spec_l4Free.f k xs) (xs.all freeJ') := by
  unfold spec_l4Free.f
  exact l4Free_l xs hn xs.length 0 (by omega)
theorem good_free (xs : List S59) (h : goodB xs = true) : xs.all freeJ' = xs.all freeJ := by
  unfold goodB at h
  simp only [Bool.and_eq_true, List.all_eq_true] at h
  rw [Bool.eq_iff_iff]
  simp only [List.all_eq_true]
  constructor
  · intro hh x hx
    have a := hh x hx
    have b := h.2 x hx
    simp only [okJ, Bool.and_eq_true, decide_eq_true_eq] at b
    simp only [freeJ', decide_eq_true_eq] at a
    simp only [freeJ, decide_eq_true_eq]
    omega
  · intro hh x hx
    have a := hh x hx
    simp only [freeJ, decide_eq_true_eq] at a
    simp only [freeJ', decide_eq_true_eq]
    omega

theorem l6Good_ev (xs : List S59) (hn : xs.length ≤ 4611686018427387904) : Ev (fun k => spec_l6Good.f k xs) (plainB xs) := by
  unfold spec_l6Good.f plainB
  refine ev_bind (l2Good_ev xs hn) ?_
  cases hg : goodB xs
  · simp only [Bool.false_eq_true, if_false, Bool.false_and]; exact ev_now _
  · simp only [if_true, Bool.true_and]
    rw [← good_free xs hg]
    exact ev_bind (l4Free_ev xs hn) (ev_now _)

theorem plain_good {xs : List S59} (h : plainB xs = true) : goodB xs = true := by
  unfold plainB at h
  simp only [Bool.and_eq_true] at h
  exact h.1

theorem good_len {xs : List S59} (h : goodB xs = true) : xs.length ≤ 8 := by
  unfold goodB at h
  simp only [Bool.and_eq_true, decide_eq_true_eq] at h
  exact h.1
theorem good_at {xs : List S59} (h : goodB xs = true) (i : Nat) (hi : i < xs.length) : 1 ≤ xs[i].f0 ∧ xs[i].f0 ≤ 50 ∧ 0 ≤ xs[i].f1 ∧ xs[i].f1 ≤ 50 ∧ 0 ≤ xs[i].f2 ∧ xs[i].f2 ≤ 500 ∧ 0 ≤ xs[i].f3 ∧ xs[i].f3 ≤ 500 := by
  unfold goodB at h
  simp only [Bool.and_eq_true, List.all_eq_true] at h
  have b := h.2 xs[i] (List.getElem_mem hi)
  simp only [okJ, Bool.and_eq_true, decide_eq_true_eq] at b
  obtain ⟨a1, a2, b1, b2, c1, c2, d1, d2⟩ := b
  exact ⟨a1, a2, b1, b2, c1, c2, d1, d2⟩

abbrev inJ (n : Nat) (i : Int) : Prop := 0 ≤ i ∧ i < (n : Int)
theorem inJ_nat {n : Nat} {a : Int} (h : inJ n a) : ∃ i : Nat, i < n ∧ a = (i : Int) := ⟨a.toNat, by have := h.1; have := h.2; omega, by have := h.1; omega⟩
theorem rd_nat (l : List S59) {a : Int} (h : inJ l.length a) : rd_T59 l a = l[a.toNat]'(by have := h.1; have := h.2; omega) := by
  obtain ⟨i, hi, rfl⟩ := inJ_nat h
  rw [rdI l i hi]
  rfl

def tmJ (l : List S59) (a : Int) : Int := (rd_T59 l a).f0
def duJ (l : List S59) (a : Int) : Int := (rd_T59 l a).f3
/-- Times and dates that stay small. -/
def smallJ (l : List S59) : Prop := ∀ (i : Nat) (hi : i < l.length), 0 ≤ l[i].f0 ∧ l[i].f0 ≤ 50 ∧ 0 ≤ l[i].f3 ∧ l[i].f3 ≤ 1000
theorem small_at {l : List S59} (h : smallJ l) {a : Int} (ha : inJ l.length a) : 0 ≤ tmJ l a ∧ tmJ l a ≤ 50 ∧ 0 ≤ duJ l a ∧ duJ l a ≤ 1000 := by
  unfold tmJ duJ
  rw [rd_nat l ha]
  exact h _ _

theorem good_small {l : List S59} (hg : goodB l = true) : smallJ l := by
  intro i hi
  have := good_at hg i hi
  omega

theorem rdW (o : List Int) (n : Nat) (h : n < o.length) : rd o (n : Int) = o[n] := by
  simp [rd]
  rw [List.getElem?_eq_getElem h]; rfl

/-- Where a number goes among sorted ones: ahead of the first that it comes ahead of. -/
def posW (lt : Int → Int → Bool) (i : Int) (o : List Int) : Nat := o.findIdx (fun b => lt i b)
def insW (lt : Int → Int → Bool) (i : Int) (o : List Int) : List Int := o.take (posW lt i o) ++ i :: o.drop (posW lt i o)
def sortW (lt : Int → Int → Bool) : List Int → List Int → List Int
  | [], o => o
  | i :: t, o => sortW lt t (insW lt i o)
structure OrdW (lt : Int → Int → Bool) (D : Int → Prop) : Prop where
  asym : ∀ a b, D a → D b → lt a b = true → lt b a = false
  co : ∀ i a b, D i → D a → D b → lt i a = true → lt b a = false → lt i b = true
abbrev SortedW (lt : Int → Int → Bool) (o : List Int) : Prop := o.Pairwise (fun a b => lt b a = false)
theorem posW_le (lt : Int → Int → Bool) (i : Int) (o : List Int) : posW lt i o ≤ o.length := List.findIdx_le_length
theorem posW_before {lt : Int → Int → Bool} {i : Int} {o : List Int} {j : Nat} (h : j < posW lt i o) : lt i (o[j]'(Nat.lt_of_lt_of_le h (posW_le _ _ _))) = false := by
  have := List.not_of_lt_findIdx (p := fun b => lt i b) h
  simpa using this
theorem posW_at {lt : Int → Int → Bool} {i : Int} {o : List Int} (h : posW lt i o < o.length) : lt i (o[posW lt i o]'h) = true := List.findIdx_getElem (w := h)
theorem posW_behind {lt : Int → Int → Bool} {D : Int → Prop} (H : OrdW lt D) {i : Int} {o : List Int} (hi : D i) (ho : ∀ b ∈ o, D b) (hs : SortedW lt o) {j : Nat} (hj : posW lt i o ≤ j) (hl : j < o.length) : lt i (o[j]'hl) = true := by
  have hp : posW lt i o < o.length := by omega
  have h0 := posW_at hp
  rcases Nat.lt_or_ge (posW lt i o) j with h | h
  · have h1 := List.pairwise_iff_getElem.1 hs _ _ hp hl h
    exact H.co i _ _ hi (ho _ (List.getElem_mem hp)) (ho _ (List.getElem_mem hl)) h0 h1
  · have : j = posW lt i o := by omega
    subst this
    exact h0
theorem insW_perm (lt : Int → Int → Bool) (i : Int) (o : List Int) : (insW lt i o).Perm (i :: o) := by
  unfold insW
  refine List.perm_middle.trans ?_
  rw [List.take_append_drop]
theorem insW_sorted {lt : Int → Int → Bool} {D : Int → Prop} (H : OrdW lt D) {i : Int} {o : List Int} (hi : D i) (ho : ∀ b ∈ o, D b) (hs : SortedW lt o) : SortedW lt (insW lt i o) := by
  unfold insW SortedW
  rw [List.pairwise_append]
  refine ⟨hs.sublist (List.take_sublist _ _), List.pairwise_cons.2 ⟨?_, hs.sublist (List.drop_sublist _ _)⟩, ?_⟩
  · intro b hb
    obtain ⟨j, hj, rfl⟩ := List.mem_iff_getElem.1 hb
    rw [List.getElem_drop]
    have hl : posW lt i o + j < o.length := by rw [List.length_drop] at hj; omega
    exact H.asym _ _ hi (ho _ (List.getElem_mem hl)) (posW_behind H hi ho hs (by omega) hl)
  · intro a ha b hb
    obtain ⟨j, hj, rfl⟩ := List.mem_iff_getElem.1 ha
    have hjp : j < posW lt i o := by rw [List.length_take] at hj; omega
    rw [List.getElem_take]
    rcases List.mem_cons.1 hb with rfl | hb
    · exact posW_before hjp
    · obtain ⟨q, hq, rfl⟩ := List.mem_iff_getElem.1 hb
      have hl : posW lt i o + q < o.length := by rw [List.length_drop] at hq; omega
      rw [List.getElem_drop]
      exact List.pairwise_iff_getElem.1 hs _ _ _ hl (by omega)
theorem sortW_perm (lt : Int → Int → Bool) : ∀ (l o : List Int), (sortW lt l o).Perm (l ++ o)
  | [], o => by unfold sortW; exact List.Perm.refl _
  | i :: t, o => by
    unfold sortW
    refine (sortW_perm lt t _).trans ?_
    refine ((List.Perm.append_left t (insW_perm lt i o))).trans ?_
    exact List.perm_middle
theorem sortW_sorted {lt : Int → Int → Bool} {D : Int → Prop} (H : OrdW lt D) : ∀ (l o : List Int), (∀ b ∈ l, D b) → (∀ b ∈ o, D b) → SortedW lt o → SortedW lt (sortW lt l o)
  | [], o, _, _, hs => by unfold sortW; exact hs
  | i :: t, o, hl, ho, hs => by
    unfold sortW
    refine sortW_sorted H t _ (fun b hb => hl b (by simp [hb])) ?_ (insW_sorted H (hl i (by simp)) ho hs)
    intro b hb
    rcases List.mem_cons.1 ((insW_perm lt i o).mem_iff.1 hb) with rfl | h
    · exact hl _ (by simp)
    · exact ho b h
theorem sortW_append (lt : Int → Int → Bool) : ∀ (a b o : List Int), sortW lt (a ++ b) o = sortW lt b (sortW lt a o)
  | [], b, o => rfl
  | i :: t, b, o => by simp only [List.cons_append, sortW]; exact sortW_append lt t b _

def sumW (tm : Int → Int) : List Int → Int
  | [] => 0
  | i :: L => tm i + sumW tm L

/-- Is nobody late, one behind the other? -/
def okL (tm du : Int → Int) : Int → List Int → Bool
  | _, [] => true
  | t, i :: L => if t + tm i > du i then false else okL tm du (t + tm i) L

theorem sumW_perm (tm : Int → Int) {A B : List Int} (h : A.Perm B) : sumW tm A = sumW tm B := by
  induction h with
  | nil => rfl
  | cons x _ ih => simp only [sumW, ih]
  | swap x y l => simp only [sumW]; omega
  | trans _ _ h1 h2 => rw [h1, h2]
theorem sumW_nonneg (tm : Int → Int) : ∀ A : List Int, (∀ a ∈ A, 0 ≤ tm a) → 0 ≤ sumW tm A
  | [], _ => by simp [sumW]
  | a :: A, h => by
    have h1 := h a (by simp)
    have h2 := sumW_nonneg tm A (fun b hb => h b (by simp [hb]))
    simp only [sumW]; omega
theorem sumW_congr (tm tm' : Int → Int) : ∀ A : List Int, (∀ a ∈ A, tm a = tm' a) → sumW tm A = sumW tm' A
  | [], _ => rfl
  | a :: A, h => by simp only [sumW, h a (by simp), sumW_congr tm tm' A (fun b hb => h b (by simp [hb]))]
theorem okL_iff (tm du : Int → Int) : ∀ (L : List Int) (t : Int), (∀ a ∈ L, 0 ≤ tm a) → L.Pairwise (fun a b => du a ≤ du b) →
    (okL tm du t L = true ↔ ∀ j ∈ L, t + sumW tm (L.filter (fun b => decide (du b ≤ du j))) ≤ du j)
  | [], t, _, _ => by simp [okL]
  | i :: L, t, h0, hs => by
    rw [List.pairwise_cons] at hs
    have hL : ∀ a ∈ L, 0 ≤ tm a := fun a ha => h0 a (by simp [ha])
    have ih := okL_iff tm du L (t + tm i) hL hs.2
    have hf : ∀ j ∈ i :: L, sumW tm ((i :: L).filter (fun b => decide (du b ≤ du j))) = tm i + sumW tm (L.filter (fun b => decide (du b ≤ du j))) := by
      intro j hj
      have hij : du i ≤ du j := by
        rcases List.mem_cons.1 hj with rfl | hj
        · exact Int.le_refl _
        · exact hs.1 j hj
      rw [List.filter_cons_of_pos (by simpa using hij)]
      rfl
    have hnn : ∀ j, 0 ≤ sumW tm (L.filter (fun b => decide (du b ≤ du j))) := fun j => sumW_nonneg tm _ (fun a ha => hL a (List.mem_filter.1 ha).1)
    unfold okL
    constructor
    · intro h
      by_cases hc : t + tm i > du i
      · rw [if_pos hc] at h; simp at h
      · rw [if_neg hc] at h
        have h := ih.1 h
        intro j hj
        rw [hf j hj]
        rcases List.mem_cons.1 hj with rfl | hj'
        · by_cases he : L.filter (fun b => decide (du b ≤ du j)) = []
          · rw [he]; simp only [sumW]; omega
          · obtain ⟨b, hb⟩ := List.exists_mem_of_ne_nil _ he
            have hb := List.mem_filter.1 hb
            have h1 := of_decide_eq_true hb.2
            have h2 := hs.1 b hb.1
            have h3 := h b hb.1
            have h4 : du b = du j := by omega
            rw [h4] at h3
            omega
        · have := h j hj'
          omega
    · intro h
      have h1 := h i (by simp)
      rw [hf i (by simp)] at h1
      have := hnn i
      rw [if_neg (by omega)]
      refine ih.2 (fun j hj => ?_)
      have h2 := h j (by simp [hj])
      rw [hf j (by simp [hj])] at h2
      omega
theorem okL_perm {tm du tm' du' : Int → Int} {A B : List Int} (t : Int) (hp : A.Perm B) (hc : ∀ a ∈ A, tm a = tm' a ∧ du a = du' a) (h0 : ∀ a ∈ A, 0 ≤ tm a)
    (hA : A.Pairwise (fun a b => du a ≤ du b)) (hB : B.Pairwise (fun a b => du' a ≤ du' b)) : okL tm du t A = okL tm' du' t B := by
  have hcB : ∀ b ∈ B, tm b = tm' b ∧ du b = du' b := fun b hb => hc b (hp.mem_iff.2 hb)
  have e : (okL tm du t A = true) ↔ (okL tm' du' t B = true) := by
    rw [okL_iff tm du A t h0 hA, okL_iff tm' du' B t (fun b hb => by rw [← (hcB b hb).1]; exact h0 b (hp.mem_iff.2 hb)) hB]
    have key : ∀ j ∈ A, sumW tm (A.filter (fun b => decide (du b ≤ du j))) = sumW tm' (B.filter (fun b => decide (du' b ≤ du' j))) := by
      intro j hj
      rw [sumW_perm tm (hp.filter _), sumW_congr tm tm' _ (fun b hb => (hcB b (List.mem_filter.1 hb).1).1)]
      congr 1
      refine List.filter_congr (fun b hb => ?_)
      rw [(hcB b hb).2, (hc j hj).2]
    constructor
    · intro h j hj
      have hj := hp.mem_iff.2 hj
      have := h j hj
      rw [key j hj, (hc j hj).2] at this
      exact this
    · intro h j hj
      have := h j (hp.mem_iff.1 hj)
      rw [key j hj, (hc j hj).2]
      exact this
  cases h1 : okL tm du t A <;> cases h2 : okL tm' du' t B <;> simp_all

def ltD (l : List S59) (a b : Int) : Bool := decide ((rd_T59 l a).f3 < (rd_T59 l b).f3) || (decide ((rd_T59 l a).f3 = (rd_T59 l b).f3) && decide ((rd_T59 l a).f0 < (rd_T59 l b).f0))
def ltS (l : List S59) (a b : Int) : Bool := ltD l a b || (decide ((rd_T59 l a).f3 = (rd_T59 l b).f3) && (decide ((rd_T59 l a).f0 = (rd_T59 l b).f0) && decide (a < b)))
theorem ordS (l : List S59) (D : Int → Prop) : OrdW (ltS l) D := by
  constructor
  · intro a b _ _ h
    unfold ltS ltD at *
    generalize (rd_T59 l a).f3 = x, (rd_T59 l b).f3 = y, (rd_T59 l a).f0 = u, (rd_T59 l b).f0 = v at *
    simp only [Bool.or_eq_true, Bool.and_eq_true, Bool.or_eq_false_iff, Bool.and_eq_false_iff, decide_eq_true_eq, decide_eq_false_iff_not] at *
    omega
  · intro i a b _ _ _ h1 h2
    unfold ltS ltD at *
    generalize (rd_T59 l a).f3 = x, (rd_T59 l b).f3 = y, (rd_T59 l a).f0 = u, (rd_T59 l b).f0 = v, (rd_T59 l i).f3 = p, (rd_T59 l i).f0 = q at *
    simp only [Bool.or_eq_true, Bool.and_eq_true, Bool.or_eq_false_iff, Bool.and_eq_false_iff, decide_eq_true_eq, decide_eq_false_iff_not] at *
    omega
theorem ltS_total (l : List S59) (a b : Int) (h1 : ltS l a b = false) (h2 : ltS l b a = false) : a = b := by
  unfold ltS ltD at *
  generalize (rd_T59 l a).f3 = x, (rd_T59 l b).f3 = y, (rd_T59 l a).f0 = u, (rd_T59 l b).f0 = v at *
  simp only [Bool.or_eq_false_iff, Bool.and_eq_false_iff, decide_eq_false_iff_not] at *
  omega
theorem ltS_not (l : List S59) {a b : Int} (h : a ≠ b) : (!ltS l a b) = ltS l b a := by
  cases h1 : ltS l a b with
  | true => exact ((ordS l (fun _ => True)).asym a b trivial trivial h1).symm
  | false =>
    cases h2 : ltS l b a with
    | true => rfl
    | false => exact absurd (ltS_total l a b h1 h2) h
/-- In due order. -/
def dueL (l : List S59) (L : List Int) : List Int := sortW (ltS l) L []
theorem dueL_perm (l : List S59) (L : List Int) : (dueL l L).Perm L := by
  have := sortW_perm (ltS l) L []
  rw [List.append_nil] at this
  exact this
theorem dueL_sorted (l : List S59) (L : List Int) : SortedW (ltS l) (dueL l L) := sortW_sorted (ordS l (fun _ => True)) L [] (fun _ _ => trivial) (by simp) List.Pairwise.nil
theorem sbK_pos {p : Int → Option Bool} {f : Int → Bool} {o : List Int} {t : Nat} (hp : ∀ b ∈ o, p b = some (f b)) (ht : t ≤ o.length) (h1 : ∀ j (hj : j < o.length), t ≤ j → f o[j] = true) (h2 : ∀ j (hj : j < o.length), j < t → f o[j] = false) :
    ∀ n, n ≤ o.length → t ≤ n → sbK p o n = some t
  | 0, _, h => by
    have : t = 0 := by omega
    subst this
    rfl
  | n + 1, hn, h => by
    unfold sbK
    rw [rdW o n (by omega), hp _ (List.getElem_mem (by omega)), Option.bind_some]
    rcases Nat.lt_or_ge n t with hlt | hge
    · rw [h2 n (by omega) hlt, if_neg (by simp)]
      congr 1; omega
    · rw [h1 n (by omega) hge, if_pos rfl]
      exact sbK_pos hp ht h1 h2 n (by omega) hge
theorem sbL_eq {p : Int → Int → Option Bool} {lt : Int → Int → Bool} {D : Int → Prop} (H : OrdW lt D) (hp : ∀ a b, D a → D b → p a b = some (lt a b)) : ∀ (l o : List Int), (∀ b ∈ l, D b) → (∀ b ∈ o, D b) → SortedW lt o → sbL p l o = some (sortW lt l o)
  | [], o, _, _, _ => rfl
  | i :: t, o, hl, ho, hs => by
    have hi : D i := hl i (by simp)
    unfold sbL sortW
    rw [sbK_pos (f := fun b => lt i b) (t := posW lt i o) (fun b hb => hp i b hi (ho b hb)) (posW_le _ _ _) (fun j hj h => posW_behind H hi ho hs h hj) (fun j hj h => posW_before h) _ (Nat.le_refl _) (posW_le _ _ _), Option.bind_some]
    refine sbL_eq H hp t _ (fun b hb => hl b (by simp [hb])) ?_ (insW_sorted H hi ho hs)
    intro b hb
    rcases List.mem_cons.1 ((insW_perm lt i o).mem_iff.1 hb) with rfl | h
    · exact hi
    · exact ho b h

def ltU (l : List S59) (a b : Int) : Bool := decide ((rd_T59 l a).f3 < (rd_T59 l b).f3)
theorem ordU (l : List S59) (D : Int → Prop) : OrdW (ltU l) D := by
  constructor
  · intro a b _ _ h; unfold ltU at *; simp only [decide_eq_true_eq, decide_eq_false_iff_not] at *; omega
  · intro i a b _ _ _ h1 h2; unfold ltU at *; simp only [decide_eq_true_eq, decide_eq_false_iff_not] at *; omega
def dueU (l : List S59) (L : List Int) : List Int := sortW (ltU l) L []
theorem dueU_perm (l : List S59) (L : List Int) : (dueU l L).Perm L := by
  have := sortW_perm (ltU l) L []
  rw [List.append_nil] at this
  exact this
theorem dueU_sorted (l : List S59) (L : List Int) : (dueU l L).Pairwise (fun a b => duJ l a ≤ duJ l b) :=
  (sortW_sorted (ordU l (fun _ => True)) L [] (fun _ _ => trivial) (by simp) List.Pairwise.nil).imp (fun h => by unfold ltU at h; have := of_decide_eq_false h; unfold duJ; omega)
theorem dueL_due (l : List S59) (L : List Int) : (dueL l L).Pairwise (fun a b => duJ l a ≤ duJ l b) :=
  (dueL_sorted l L).imp (fun h => by
    unfold ltS ltD at h
    simp only [Bool.or_eq_false_iff, decide_eq_false_iff_not] at h
    unfold duJ; omega)
theorem onTime_l0 (l : List S59) (hs : smallJ l) (M : List Int) (hM : ∀ b ∈ M, inJ l.length b) (hlen : M.length ≤ 1000) : ∀ (d i : Nat) (t : Int), i + d = M.length → 0 ≤ t → t ≤ 50 * i → Ev (fun k => impl_onTime.l0 k t M (M.length : Int) (i : Int) l) (okL (tmJ l) (duJ l) t (M.drop i)) := by
  intro d
  induction d with
  | zero =>
    intro i t hi _ _
    refine ev_succ ?_
    simp only [impl_onTime.l0, if_neg (show ¬ ((i : Int) < (M.length : Int)) by omega)]
    rw [List.drop_eq_nil_of_le (by omega)]
    exact ev_now _
  | succ d ih =>
    intro i t hi h0 h1
    refine ev_succ ?_
    have hil : i < M.length := by omega
    have hm := hM _ (List.getElem_mem hil)
    have hb := small_at hs hm
    unfold tmJ duJ at hb
    rw [List.drop_eq_getElem_cons hil]
    by_cases hc : t + (rd_T59 l M[i]).f0 > (rd_T59 l M[i]).f3
    · rw [show okL (tmJ l) (duJ l) t (M[i] :: M.drop (i + 1)) = false from by unfold okL; exact if_pos hc]
      simp only [impl_onTime.l0, if_pos (show (i : Int) < (M.length : Int) by omega), if_pos (show (0 : Int) ≤ (i : Int) by omega), rdW M i hil, if_pos hm.1, if_pos hm.2, w64 (x := t + (rd_T59 l M[i]).f0) (by omega) (by omega), if_pos hc]
      exact ev_now _
    · rw [show okL (tmJ l) (duJ l) t (M[i] :: M.drop (i + 1)) = okL (tmJ l) (duJ l) (t + (rd_T59 l M[i]).f0) (M.drop (i + 1)) from by rw [okL]; exact if_neg hc]
      simp only [impl_onTime.l0, if_pos (show (i : Int) < (M.length : Int) by omega), if_pos (show (0 : Int) ≤ (i : Int) by omega), rdW M i hil, if_pos hm.1, if_pos hm.2, w64 (x := t + (rd_T59 l M[i]).f0) (by omega) (by omega), w64 (x := (i : Int) + 1) (by omega) (by omega), if_neg hc]
      exact ih (i + 1) _ (by omega) (by omega) (by omega)
theorem closureU (l : List S59) {a b : Int} (ha : inJ l.length a) (hb : inJ l.length b) : impl_onTime_1.f a b l = some (ltU l a b) := by
  unfold impl_onTime_1.f ltU
  simp only [if_pos ha.1, if_pos ha.2, if_pos hb.1, if_pos hb.2]
theorem onTime_ev (l : List S59) (hs : smallJ l) (L : List Int) (hL : ∀ b ∈ L, inJ l.length b) (hlen : L.length ≤ 1000) : Ev (fun k => impl_onTime.f k l L) (okL (tmJ l) (duJ l) 0 (dueU l L)) := by
  have hp := dueU_perm l L
  unfold impl_onTime.f
  simp only [impl_sortedBy_141.f, if_pos (show L.length < 17592186044416 by omega)]
  rw [sbL_eq (ordU l (inJ l.length)) (fun a b ha hb => closureU l ha hb) _ _ hL (by simp) List.Pairwise.nil]
  simp only [Option.bind_some]
  exact onTime_l0 l hs (dueU l L) (fun b hb => hL b (hp.mem_iff.1 hb)) (by rw [hp.length_eq]; exact hlen) (dueU l L).length 0 0 (by omega) (by omega) (by omega)

theorem sooner_eq (l : List S59) {a b : Int} (ha : inJ l.length a) (hb : inJ l.length b) : spec_l6Sooner.f l a b = some (ltS l a b) := by
  unfold spec_l6Sooner.f ltS ltD
  simp only [if_pos ha.1, if_pos ha.2, if_pos hb.1, if_pos hb.2]
  by_cases h1 : (rd_T59 l a).f3 = (rd_T59 l b).f3
  · simp only [if_pos h1, decide_eq_true h1, decide_eq_false (show ¬ (rd_T59 l a).f3 < (rd_T59 l b).f3 by omega), Bool.true_and, Bool.false_or]
    by_cases h2 : (rd_T59 l a).f0 = (rd_T59 l b).f0
    · simp only [if_pos h2, decide_eq_true h2, decide_eq_false (show ¬ (rd_T59 l a).f0 < (rd_T59 l b).f0 by omega), Bool.true_and, Bool.false_or]
    · simp only [if_neg h2, decide_eq_false h2, Bool.false_and, Bool.or_false]
  · simp only [if_neg h1, decide_eq_false h1, Bool.false_and, Bool.or_false]
theorem l6Due_l1 (l : List S59) (L out : List Int) (q : Nat) (hq : q < L.length) (hi : inJ l.length L[q]) (ho : ∀ b ∈ out, inJ l.length b) (hne : ∀ b ∈ out, b ≠ L[q]) (hlen : out.length ≤ 1048576) (hL : L.length ≤ 1048576) (r : List Int)
    (hnext : Ev (fun k => spec_l6Due.l0 k l L (insW (ltS l) L[q] out) (wrap64 ((q : Int) + 1))) r) : ∀ (d k : Nat), k + d = posW (ltS l) L[q] out → Ev (fun K => spec_l6Due.l1 K l L out (q : Int) (k : Int)) r := by
  have fin : ∀ k : Nat, k = posW (ltS l) L[q] out → ((out.take ((k : Nat) : Int).toNat ++ [L[q]]) ++ out.drop ((k : Nat) : Int).toNat) = insW (ltS l) L[q] out := by
    intro k hk
    subst hk
    simp [insW]
  have hp := posW_le (ltS l) L[q] out
  intro d
  induction d with
  | zero =>
    intro k hk
    have hk' : k = posW (ltS l) L[q] out := by omega
    refine ev_succ ?_
    have c0 : ([] : List Int).length + (out.take ((k : Nat) : Int).toNat).length < 17592186044416 := by simp only [List.length_take, List.length_nil]; omega
    have c1 : ((out.take ((k : Nat) : Int).toNat).length + [L[q]].length < 17592186044416) := by simp only [List.length_take, List.length_singleton]; omega
    have c2 : (((out.take ((k : Nat) : Int).toNat) ++ [L[q]]).length + (out.drop ((k : Nat) : Int).toNat).length < 17592186044416) := by simp only [List.length_append, List.length_take, List.length_drop, List.length_singleton]; omega
    by_cases hkl : k < out.length
    · have hlt : ltS l L[q] (out[k]'hkl) = true := by
        subst hk'
        exact posW_at hkl
      have hm : inJ l.length out[k] := ho _ (List.getElem_mem hkl)
      have hs : ltS l out[k] L[q] = false := (ordS l (fun _ => True)).asym _ _ trivial trivial hlt
      simp only [spec_l6Due.l1, if_pos (show ((k : Nat) : Int) < (out.length : Int) by omega), if_pos (show (0 : Int) ≤ ((k : Nat) : Int) by omega), if_pos (show (0 : Int) ≤ (q : Int) by omega), if_pos (show (q : Int) < (L.length : Int) by omega), rdW out k hkl, rdW L q hq, sooner_eq l hm hi, hs, Option.bind_some, Bool.false_eq_true, if_false, if_pos c0, List.nil_append, if_pos c1, if_pos c2, if_pos (show ((k : Nat) : Int) ≤ (out.length : Int) by omega), fin k hk']
      exact hnext
    · simp only [spec_l6Due.l1, if_neg (show ¬ ((k : Nat) : Int) < (out.length : Int) by omega), if_pos (show (0 : Int) ≤ ((k : Nat) : Int) by omega), if_pos (show ((k : Nat) : Int) ≤ (out.length : Int) by omega), if_pos (show (0 : Int) ≤ (q : Int) by omega), if_pos (show (q : Int) < (L.length : Int) by omega), rdW L q hq, Option.bind_some, if_pos c0, List.nil_append, if_pos c1, if_pos c2, fin k hk']
      exact hnext
  | succ d ih =>
    intro k hk
    refine ev_succ ?_
    have hkl : k < out.length := by omega
    have hm : inJ l.length out[k] := ho _ (List.getElem_mem hkl)
    have hlt : ltS l L[q] out[k] = false := posW_before (by omega)
    have hs : ltS l out[k] L[q] = true := by
      have := ltS_not l (fun h => hne _ (List.getElem_mem hkl) h.symm)
      rw [hlt] at this
      exact this.symm
    simp only [spec_l6Due.l1, if_pos (show ((k : Nat) : Int) < (out.length : Int) by omega), if_pos (show (0 : Int) ≤ ((k : Nat) : Int) by omega), if_pos (show (0 : Int) ≤ (q : Int) by omega), if_pos (show (q : Int) < (L.length : Int) by omega), rdW out k hkl, rdW L q hq, sooner_eq l hm hi, hs, Option.bind_some, if_true, w64 (x := ((k : Nat) : Int) + 1) (by omega) (by omega)]
    exact ih (k + 1) (by omega)
theorem l6Due_ev (l : List S59) (L : List Int) (hL : ∀ b ∈ L, inJ l.length b) (hd : L.Nodup) (hn : L.length ≤ 1048576) : Ev (fun k => spec_l6Due.f k l L) (dueL l L) := by
  have main : ∀ (d i : Nat), i + d = L.length → Ev (fun k => spec_l6Due.l0 k l L (sortW (ltS l) (L.take i) []) (i : Int)) (dueL l L) := by
    intro d
    induction d with
    | zero =>
      intro i hi
      refine ev_succ ?_
      simp only [spec_l6Due.l0, if_neg (show ¬ ((i : Int) < (L.length : Int)) by omega)]
      rw [List.take_of_length_le (by omega)]
      exact ev_now _
    | succ d ih =>
      intro i hi
      refine ev_succ ?_
      have hil : i < L.length := by omega
      simp only [spec_l6Due.l0, if_pos (show (i : Int) < (L.length : Int) by omega)]
      have hp := sortW_perm (ltS l) (L.take i) []
      rw [List.append_nil] at hp
      refine l6Due_l1 l L _ i hil (hL _ (List.getElem_mem hil)) (fun b hb => hL b (List.mem_of_mem_take (hp.mem_iff.1 hb))) (fun b hb he => ?_) (by rw [hp.length_eq, List.length_take]; omega) hn _ ?_ (posW (ltS l) L[i] (sortW (ltS l) (L.take i) [])) 0 (by omega)
      · obtain ⟨j, hj, rfl⟩ := List.mem_iff_getElem.1 (hp.mem_iff.1 hb)
        rw [List.length_take] at hj
        rw [List.getElem_take] at he
        have := (List.getElem_inj hd).1 he
        omega
      · have := ih (i + 1) (by omega)
        rw [List.take_succ_eq_append_getElem hil, sortW_append] at this
        rw [w64 (x := (i : Int) + 1) (by omega) (by omega)]
        exact this
  exact main L.length 0 (by omega)

theorem l6Timely_l0 (l : List S59) (hs : smallJ l) (M : List Int) (hM : ∀ b ∈ M, inJ l.length b) (hlen : M.length ≤ 1000) : ∀ (d i : Nat) (t : Int), i + d = M.length → 0 ≤ t → t ≤ 50 * i → Ev (fun k => spec_l6Timely.l0 k l M t (i : Int)) (okL (tmJ l) (duJ l) t (M.drop i)) := by
  intro d
  induction d with
  | zero =>
    intro i t hi _ _
    refine ev_succ ?_
    simp only [spec_l6Timely.l0, if_neg (show ¬ ((i : Int) < (M.length : Int)) by omega)]
    rw [List.drop_eq_nil_of_le (by omega)]
    exact ev_now _
  | succ d ih =>
    intro i t hi h0 h1
    refine ev_succ ?_
    have hil : i < M.length := by omega
    have hm := hM _ (List.getElem_mem hil)
    have hb := small_at hs hm
    unfold tmJ duJ at hb
    rw [List.drop_eq_getElem_cons hil]
    by_cases hc : t + (rd_T59 l M[i]).f0 > (rd_T59 l M[i]).f3
    · rw [show okL (tmJ l) (duJ l) t (M[i] :: M.drop (i + 1)) = false from by unfold okL; exact if_pos hc]
      simp only [spec_l6Timely.l0, if_pos (show (i : Int) < (M.length : Int) by omega), if_pos (show (0 : Int) ≤ (i : Int) by omega), rdW M i hil, if_pos hm.1, if_pos hm.2, w64 (x := t + (rd_T59 l M[i]).f0) (by omega) (by omega), if_pos hc]
      exact ev_now _
    · rw [show okL (tmJ l) (duJ l) t (M[i] :: M.drop (i + 1)) = okL (tmJ l) (duJ l) (t + (rd_T59 l M[i]).f0) (M.drop (i + 1)) from by rw [okL]; exact if_neg hc]
      simp only [spec_l6Timely.l0, if_pos (show (i : Int) < (M.length : Int) by omega), if_pos (show (0 : Int) ≤ (i : Int) by omega), rdW M i hil, if_pos hm.1, if_pos hm.2, w64 (x := t + (rd_T59 l M[i]).f0) (by omega) (by omega), w64 (x := (i : Int) + 1) (by omega) (by omega), if_neg hc]
      exact ih (i + 1) _ (by omega) (by omega) (by omega)
theorem l6Timely_ev (l : List S59) (hs : smallJ l) (L : List Int) (hL : ∀ b ∈ L, inJ l.length b) (hd : L.Nodup) (hlen : L.length ≤ 1000) : Ev (fun k => spec_l6Timely.f k l L) (okL (tmJ l) (duJ l) 0 (dueL l L)) := by
  have hp := dueL_perm l L
  unfold spec_l6Timely.f
  refine ev_bind (l6Due_ev l L hL hd (by omega)) ?_
  exact l6Timely_l0 l hs (dueL l L) (fun b hb => hL b (hp.mem_iff.1 hb)) (by rw [hp.length_eq]; exact hlen) (dueL l L).length 0 0 (by omega) (by omega) (by omega)

theorem shrN (c i : Nat) (h : i ≤ 64) : shr .i64 (c : Int) (i : Int) = ((c / 2 ^ i : Nat) : Int) := by
  unfold shr
  rw [Int.toNat_natCast, Nat.min_eq_left (show i ≤ IntKind.i64.bits from h)]
  rw [Int.natCast_ediv, Int.natCast_pow]
  rfl
theorem and1 : ∀ m : Nat, m < 256 → Go.bits .and .i64 (m : Int) 1 = ((m % 2 : Nat) : Int) := by decide +kernel
theorem shl1 : ∀ i : Nat, i < 9 → shl .i64 1 (i : Int) = ((2 ^ i : Nat) : Int) := by decide +kernel
theorem pow8 (n : Nat) (h : n ≤ 8) : 2 ^ n ≤ 256 := Nat.pow_le_pow_right (by omega) h
theorem shr_and (c i : Nat) (hc : c < 256) (hi : i ≤ 64) : Go.bits .and .i64 (shr .i64 (c : Int) (i : Int)) 1 = ((c / 2 ^ i % 2 : Nat) : Int) := by
  rw [shrN c i hi]
  exact and1 _ (Nat.lt_of_le_of_lt (Nat.div_le_self _ _) hc)
theorem mod1 {x : Nat} (h : x % 2 = 1) : ((x % 2 : Nat) : Int) = 1 := by rw [h]; rfl
theorem mod0' {x : Nat} (h : ¬ x % 2 = 1) : ¬ ((x % 2 : Nat) : Int) = 1 := by rw [show x % 2 = 0 by omega]; decide
/-- The numbers of the bits of c, from i on. -/
def blF (c i : Nat) : Nat → List Int
  | 0 => []
  | d + 1 => if c / 2 ^ i % 2 = 1 then (i : Int) :: blF c (i + 1) d else blF c (i + 1) d
theorem blF_nil (c : Nat) : ∀ d i : Nat, c / 2 ^ i = 0 → blF c i d = [] := by
  intro d
  induction d with
  | zero => intro i _; rfl
  | succ d ih =>
    intro i h
    unfold blF
    rw [if_neg (by omega)]
    refine ih (i + 1) ?_
    rw [Nat.pow_succ, ← Nat.div_div_eq_div_mul, h]
theorem blF_mem (c : Nat) : ∀ d i : Nat, ∀ x ∈ blF c i d, ∃ j : Nat, x = (j : Int) ∧ i ≤ j ∧ j < i + d ∧ c / 2 ^ j % 2 = 1 := by
  intro d
  induction d with
  | zero => intro i x hx; simp [blF] at hx
  | succ d ih =>
    intro i x hx
    unfold blF at hx
    split at hx
    · rcases List.mem_cons.mp hx with rfl | hx
      · exact ⟨i, rfl, by omega, by omega, by assumption⟩
      · obtain ⟨j, a, b, e, f⟩ := ih (i + 1) x hx
        exact ⟨j, a, by omega, by omega, f⟩
    · obtain ⟨j, a, b, e, f⟩ := ih (i + 1) x hx
      exact ⟨j, a, by omega, by omega, f⟩
theorem blF_len (c : Nat) : ∀ d i : Nat, (blF c i d).length ≤ d := by
  intro d
  induction d with
  | zero => intro i; exact Nat.le_refl _
  | succ d ih =>
    intro i
    unfold blF
    have := ih (i + 1)
    split
    · rw [List.length_cons]; omega
    · omega
theorem listOf_l (c n : Nat) (hn : n ≤ 8) (hc : c < 2 ^ n) : ∀ (d i : Nat) (acc : List Int), i + d = n → acc.length ≤ i → Ev (fun k => impl_listOf.l0 k (c : Int) acc (i : Int)) (acc ++ blF c i d) := by
  intro d
  have h8 := pow8 n hn
  induction d with
  | zero =>
    intro i acc hi ha
    refine ev_succ ?_
    have hz : c / 2 ^ i = 0 := Nat.div_eq_of_lt (by rw [show i = n by omega]; exact hc)
    simp only [impl_listOf.l0, if_pos (show (0 : Int) ≤ (i : Int) by omega), shrN c i (by omega), hz, gt_iff_lt, if_neg (show ¬ (0 : Int) < ((0 : Nat) : Int) by omega), blF, List.append_nil]
    exact ev_now _
  | succ d ih =>
    intro i acc hi ha
    refine ev_succ ?_
    by_cases hz : c / 2 ^ i = 0
    · rw [blF_nil c _ i hz, List.append_nil]
      simp only [impl_listOf.l0, if_pos (show (0 : Int) ≤ (i : Int) by omega), shrN c i (by omega), hz, gt_iff_lt, if_neg (show ¬ (0 : Int) < ((0 : Nat) : Int) by omega)]
      exact ev_now _
    · simp only [impl_listOf.l0, if_pos (show (0 : Int) ≤ (i : Int) by omega), shr_and c i (by omega) (by omega), blF, wsucc i (by omega)]
      simp only [shrN c i (by omega), gt_iff_lt, if_pos (Int.natCast_pos.mpr (Nat.pos_of_ne_zero hz))]
      by_cases hb : c / 2 ^ i % 2 = 1
      · have h := ih (i + 1) (acc ++ [(i : Int)]) (by omega) (by rw [List.length_append, List.length_singleton]; omega)
        rw [List.append_assoc] at h
        simp only [if_pos hb, if_pos (mod1 hb), if_pos (show acc.length < 17592186044416 by omega)]
        exact h
      · simp only [if_neg hb, if_neg (mod0' hb)]
        exact ih (i + 1) acc (by omega) (by omega)
theorem listOf_ev (c n : Nat) (hn : n ≤ 8) (hc : c < 2 ^ n) : Ev (fun k => impl_listOf.f k (c : Int)) (blF c 0 n) := by
  unfold impl_listOf.f
  exact listOf_l c n hn hc n 0 [] (by omega) (by simp)

theorem l4Set_l (c n : Nat) (hn : n ≤ 8) (hc : c < 256) : ∀ (d i : Nat) (acc : List Int), i + d = n → acc.length ≤ i → Ev (fun k => spec_l4Set.l0 k (n : Int) (c : Int) acc (i : Int)) (acc ++ blF c i d) := by
  intro d
  induction d with
  | zero =>
    intro i acc hi _
    refine ev_succ ?_
    simp only [spec_l4Set.l0, if_neg (show ¬ (i : Int) < (n : Int) by omega), blF, List.append_nil]
    exact ev_now _
  | succ d ih =>
    intro i acc hi ha
    refine ev_succ ?_
    simp only [spec_l4Set.l0, if_pos (show (i : Int) < (n : Int) by omega), if_pos (show (0 : Int) ≤ (i : Int) by omega), shr_and c i hc (by omega), blF, wsucc i (by omega)]
    by_cases hb : c / 2 ^ i % 2 = 1
    · have h := ih (i + 1) (acc ++ [(i : Int)]) (by omega) (by rw [List.length_append, List.length_singleton]; omega)
      rw [List.append_assoc] at h
      simp only [if_pos hb, if_pos (mod1 hb), if_pos (show acc.length < 17592186044416 by omega)]
      exact h
    · simp only [if_neg hb, if_neg (mod0' hb)]
      exact ih (i + 1) acc (by omega) (by omega)
theorem l4Set_ev (c n : Nat) (hn : n ≤ 8) (hc : c < 256) : Ev (fun k => spec_l4Set.f k (n : Int) (c : Int)) (blF c 0 n) := by
  unfold spec_l4Set.f
  exact l4Set_l c n hn hc n 0 [] (by omega) (by simp)
theorem blF_hasB (c : Nat) : ∀ (d i j : Nat), i ≤ j → j < i + d → c / 2 ^ j % 2 = 1 → (j : Int) ∈ blF c i d := by
  intro d
  induction d with
  | zero => intro i j h1 h2; omega
  | succ d ih =>
    intro i j h1 h2 hb
    unfold blF
    by_cases e : i = j
    · subst e
      rw [if_pos hb]
      exact List.mem_cons_self
    · have := ih (i + 1) j (by omega) (by omega) hb
      split
      · exact List.mem_cons_of_mem _ this
      · exact this
theorem blF_inj {c c' n : Nat} (hc : c < 2 ^ n) (hc' : c' < 2 ^ n) (h : blF c 0 n = blF c' 0 n) : c = c' := by
  apply Nat.eq_of_testBit_eq
  intro j
  have key : ∀ a b : Nat, a < 2 ^ n → blF a 0 n = blF b 0 n → a / 2 ^ j % 2 = 1 → b / 2 ^ j % 2 = 1 := by
    intro a b ha he hj
    have hjn : j < n := by
      rcases Nat.lt_or_ge j n with h | h
      · exact h
      · have h1 : 2 ^ n ≤ 2 ^ j := Nat.pow_le_pow_right (by omega) h
        rw [Nat.div_eq_of_lt (by omega)] at hj; omega
    have hm := blF_hasB a n 0 j (by omega) (by omega) hj
    rw [he] at hm
    obtain ⟨q, hq, _, _, hb⟩ := blF_mem b n 0 _ hm
    have : j = q := by omega
    rw [this]
    exact hb
  rw [Nat.testBit_eq_decide_div_mod_eq, Nat.testBit_eq_decide_div_mod_eq]
  exact decide_eq_decide.2 ⟨key c c' hc h, key c' c hc' h.symm⟩
def lexB : List Int → List Int → Bool
  | a :: s, b :: t => if a = b then lexB s t else decide (a < b)
  | _, _ => false
def ltB (a b : List Int) : Bool := if a.length = b.length then lexB a b else decide (a.length < b.length)
theorem lexB_asym : ∀ s t : List Int, lexB s t = true → lexB t s = false
  | [], _, h => by simp [lexB] at h
  | _ :: _, [], h => by simp [lexB] at h
  | a :: s, b :: t, h => by
    unfold lexB at h ⊢
    by_cases e : a = b
    · rw [if_pos e] at h; rw [if_pos e.symm]; exact lexB_asym s t h
    · rw [if_neg e] at h; rw [if_neg (fun h => e h.symm)]
      simp only [decide_eq_true_eq] at h; exact decide_eq_false (by omega)
theorem lexB_co : ∀ i a b : List Int, i.length = a.length → a.length = b.length → lexB i a = true → lexB b a = false → lexB i b = true
  | [], _, _, _, _, h, _ => by simp [lexB] at h
  | _ :: _, [], _, h, _, _, _ => by simp at h
  | _ :: _, _ :: _, [], _, h, _, _ => by simp at h
  | x :: i, y :: a, z :: b, l1, l2, h1, h2 => by
    rw [List.length_cons, List.length_cons] at l1 l2
    unfold lexB at h1 h2 ⊢
    by_cases e1 : x = y
    · rw [if_pos e1] at h1
      by_cases e2 : z = y
      · rw [if_pos e2] at h2; rw [if_pos (by omega)]; exact lexB_co i a b (by omega) (by omega) h1 h2
      · rw [if_neg e2] at h2; have h2 := of_decide_eq_false h2; rw [if_neg (by omega)]; exact decide_eq_true (by omega)
    · rw [if_neg e1] at h1; have h1 := of_decide_eq_true h1
      by_cases e2 : z = y
      · rw [if_neg (by omega)]; exact decide_eq_true (by omega)
      · rw [if_neg e2] at h2; have h2 := of_decide_eq_false h2; rw [if_neg (by omega)]; exact decide_eq_true (by omega)
theorem lexB_tot : ∀ s t : List Int, s.length = t.length → lexB s t = false → lexB t s = false → s = t
  | [], [], _, _, _ => rfl
  | [], _ :: _, h, _, _ => by simp at h
  | _ :: _, [], h, _, _ => by simp at h
  | a :: s, b :: t, l, h1, h2 => by
    rw [List.length_cons, List.length_cons] at l
    unfold lexB at h1 h2
    by_cases e : a = b
    · rw [if_pos e] at h1; rw [if_pos e.symm] at h2; rw [e, lexB_tot s t (by omega) h1 h2]
    · rw [if_neg e] at h1; rw [if_neg (fun h => e h.symm)] at h2
      have h1 := of_decide_eq_false h1
      have h2 := of_decide_eq_false h2
      omega
theorem ltB_asym (a b : List Int) (h : ltB a b = true) : ltB b a = false := by
  unfold ltB at *
  by_cases e : a.length = b.length
  · rw [if_pos e] at h; rw [if_pos e.symm]; exact lexB_asym a b h
  · rw [if_neg e] at h; rw [if_neg (fun h => e h.symm)]; have h := of_decide_eq_true h; exact decide_eq_false (by omega)
theorem ltB_co (i a b : List Int) (h1 : ltB i a = true) (h2 : ltB b a = false) : ltB i b = true := by
  unfold ltB at *
  by_cases e1 : i.length = a.length
  · rw [if_pos e1] at h1
    by_cases e2 : b.length = a.length
    · rw [if_pos e2] at h2; rw [if_pos (by omega)]; exact lexB_co i a b e1 e2.symm h1 h2
    · rw [if_neg e2] at h2; have h2 := of_decide_eq_false h2; rw [if_neg (by omega)]; exact decide_eq_true (by omega)
  · rw [if_neg e1] at h1; have h1 := of_decide_eq_true h1
    by_cases e2 : b.length = a.length
    · rw [if_neg (by omega)]; exact decide_eq_true (by omega)
    · rw [if_neg e2] at h2; have h2 := of_decide_eq_false h2; rw [if_neg (by omega)]; exact decide_eq_true (by omega)
theorem ltB_tot (a b : List Int) (h1 : ltB a b = false) (h2 : ltB b a = false) : a = b := by
  unfold ltB at *
  by_cases e : a.length = b.length
  · rw [if_pos e] at h1; rw [if_pos e.symm] at h2; exact lexB_tot a b e h1 h2
  · rw [if_neg e] at h1; rw [if_neg (fun h => e h.symm)] at h2
    have h1 := of_decide_eq_false h1
    have h2 := of_decide_eq_false h2
    omega
theorem l4Less_ev (a b : List Int) (ha : a.length ≤ 8) : Ev (fun k => spec_l4Less.f k a b) (ltB a b) := by
  have main : a.length = b.length → ∀ (d i : Nat), i + d = a.length → Ev (fun k => spec_l4Less.l0 k a b (i : Int)) (lexB (a.drop i) (b.drop i)) := by
    intro hl d
    induction d with
    | zero =>
      intro i hi
      refine ev_succ ?_
      simp only [spec_l4Less.l0, if_neg (show ¬ (i : Int) < (a.length : Int) by omega)]
      rw [List.drop_eq_nil_of_le (show a.length ≤ i by omega)]
      exact ev_now _
    | succ d ih =>
      intro i hi
      refine ev_succ ?_
      have h1 : i < a.length := by omega
      have h2 : i < b.length := by omega
      rw [List.drop_eq_getElem_cons h1, List.drop_eq_getElem_cons h2]
      simp only [spec_l4Less.l0, if_pos (show (i : Int) < (a.length : Int) by omega), if_pos (show (0 : Int) ≤ (i : Int) by omega), if_pos (show (i : Int) < (b.length : Int) by omega), rdW a i h1, rdW b i h2, wsucc i (by omega), lexB]
      by_cases e : a[i] = b[i]
      · simp only [if_pos e]; exact ih (i + 1) (by omega)
      · simp only [if_neg e]; exact ev_now _
  unfold spec_l4Less.f ltB
  by_cases e : a.length = b.length
  · simp only [if_pos (show (a.length : Int) = (b.length : Int) by omega), if_pos e]
    exact main e a.length 0 (by omega)
  · simp only [if_neg (show ¬ (a.length : Int) = (b.length : Int) by omega), if_neg e]
    rw [show decide ((a.length : Int) < (b.length : Int)) = decide (a.length < b.length) from decide_eq_decide.2 (by omega)]
    exact ev_now _
theorem cmp_l0 (a b : List Int) (ha : a.length ≤ 8) (hl : a.length = b.length) (h1 : ∀ x ∈ a, 0 ≤ x ∧ x ≤ 1000) (h2 : ∀ x ∈ b, 0 ≤ x ∧ x ≤ 1000) : ∀ (d i : Nat), i + d = a.length → ∃ c : Int, Ev (fun k => impl_compareLists.l0 k a b (i : Int)) c ∧ decide (c > 0) = lexB (b.drop i) (a.drop i) := by
  intro d
  induction d with
  | zero =>
    intro i hi
    refine ⟨0, ev_succ ?_, ?_⟩
    · simp only [impl_compareLists.l0, if_neg (show ¬ ((i : Int) < (a.length : Int)) by omega)]
      refine ev_succ ?_
      simp only [impl_compareLists.j1, Bool.false_eq_true, if_false]
      rw [w64 (by omega) (by omega), show (a.length : Int) - (b.length : Int) = 0 by omega]
      exact ev_now _
    · rw [List.drop_eq_nil_of_le (show b.length ≤ i by omega)]
      rfl
  | succ d ih =>
    intro i hi
    have hia : i < a.length := by omega
    have hib : i < b.length := by omega
    rw [List.drop_eq_getElem_cons hia, List.drop_eq_getElem_cons hib]
    by_cases he : a[i] = b[i]
    · obtain ⟨c, e1, e2⟩ := ih (i + 1) (by omega)
      refine ⟨c, ev_succ ?_, ?_⟩
      · simp only [impl_compareLists.l0, if_pos (show ((i : Int) < (a.length : Int)) by omega), decide_eq_true (show ((i : Int) < (b.length : Int)) by omega)]
        refine ev_succ ?_
        simp only [impl_compareLists.j1, if_true, if_pos (show (0 : Int) ≤ (i : Int) by omega), if_pos (show ((i : Int) < (a.length : Int)) by omega), if_pos (show ((i : Int) < (b.length : Int)) by omega), rdW a i hia, rdW b i hib, if_pos he, wsucc i (by omega)]
        exact e1
      · rw [e2, lexB, if_pos he.symm]
    · have b1 := h1 _ (List.getElem_mem hia)
      have b2 := h2 _ (List.getElem_mem hib)
      refine ⟨a[i] - b[i], ev_succ ?_, ?_⟩
      · simp only [impl_compareLists.l0, if_pos (show ((i : Int) < (a.length : Int)) by omega), decide_eq_true (show ((i : Int) < (b.length : Int)) by omega)]
        refine ev_succ ?_
        simp only [impl_compareLists.j1, if_true, if_pos (show (0 : Int) ≤ (i : Int) by omega), if_pos (show ((i : Int) < (a.length : Int)) by omega), if_pos (show ((i : Int) < (b.length : Int)) by omega), rdW a i hia, rdW b i hib, if_neg he, w64 (x := a[i] - b[i]) (by omega) (by omega)]
        exact ev_now _
      · rw [lexB, if_neg (fun h => he h.symm)]
        exact decide_eq_decide.2 (by omega)
def okS (x : List Int) : Prop := x.length ≤ 8 ∧ ∀ y ∈ x, 0 ≤ y ∧ y ≤ 1000
def ltI (l : List (List Int)) (i j : Int) : Bool := ltB (osB l i) (osB l j)
theorem osP_ev (l : List (List Int)) (i j : Int) (hi : okS (osB l i)) (hj : okS (osB l j)) : Ev (fun k => osP k l i j) (ltI l i j) := by
  unfold osP ltI ltB
  by_cases c1 : (osB l j).length > (osB l i).length
  · simp only [if_pos (show ((osB l j).length : Int) > ((osB l i).length : Int) by omega), if_neg (show ¬ (osB l i).length = (osB l j).length by omega), decide_eq_true (show (osB l i).length < (osB l j).length by omega)]
    exact ev_now _
  · by_cases c2 : (osB l j).length = (osB l i).length
    · simp only [if_neg (show ¬ ((osB l j).length : Int) > ((osB l i).length : Int) by omega), if_pos (show ((osB l j).length : Int) = ((osB l i).length : Int) by omega), if_pos c2.symm]
      obtain ⟨c, e1, e2⟩ := cmp_l0 (osB l j) (osB l i) hj.1 c2 hj.2 hi.2 (osB l j).length 0 (by omega)
      rw [List.drop_zero, List.drop_zero] at e2
      rw [← e2]
      unfold impl_compareLists.f
      exact ev_bind e1 (ev_now _)
    · simp only [if_neg (show ¬ ((osB l j).length : Int) > ((osB l i).length : Int) by omega), if_neg (show ¬ ((osB l j).length : Int) = ((osB l i).length : Int) by omega), if_neg (show ¬ (osB l i).length = (osB l j).length by omega), decide_eq_false (show ¬ (osB l i).length < (osB l j).length by omega)]
      exact ev_now _
theorem ev_list {α β : Type} (f : Nat → α → Option β) (g : α → β) : ∀ L : List α, (∀ a ∈ L, Ev (fun k => f k a) (g a)) → ∃ K, ∀ k, K ≤ k → ∀ a ∈ L, f k a = some (g a)
  | [], _ => ⟨0, fun _ _ _ h => by cases h⟩
  | a :: L, h => by
    obtain ⟨K1, h1⟩ := h a List.mem_cons_self
    obtain ⟨K2, h2⟩ := ev_list f g L (fun b hb => h b (List.mem_cons_of_mem _ hb))
    refine ⟨max K1 K2, fun k hk b hb => ?_⟩
    rcases List.mem_cons.mp hb with rfl | hb
    · exact h1 k (by omega)
    · exact h2 k (by omega) b hb
theorem ordI (l : List (List Int)) (D : Int → Prop) : OrdW (ltI l) D := ⟨fun a b _ _ h => ltB_asym _ _ h, fun i a b _ _ _ h1 h2 => ltB_co _ _ _ h1 h2⟩
theorem osB_in {l : List (List Int)} {p : Int} (h1 : 1 ≤ p) (h2 : p ≤ (l.length : Int)) : osB l p ∈ l := by
  unfold osB
  rw [List.getD_eq_getElem?_getD, List.getElem?_eq_getElem (by omega)]
  exact List.getElem_mem _
theorem osSort (l : List (List Int)) (hl : l.length < 1000000) (hs : ∀ x ∈ l, okS x) : Ev (fun k => impl_orderedSets.f k l) ((sortW (ltI l) (osN l.length) []).map (osB l)) := by
  obtain ⟨K, hK⟩ := ev_list (fun k (p : Int × Int) => osP k l p.1 p.2) (fun p => ltI l p.1 p.2) ((osN l.length).flatMap fun i => (osN l.length).map (Prod.mk i)) (fun p hp => by
    obtain ⟨i, hi, hp⟩ := List.mem_flatMap.mp hp
    obtain ⟨j, hj, rfl⟩ := List.mem_map.mp hp
    have bi := osN_mem hi
    have bj := osN_mem hj
    exact osP_ev l i j (hs _ (osB_in bi.1 bi.2)) (hs _ (osB_in bj.1 bj.2)))
  refine ⟨K, fun k hk => ?_⟩
  show impl_orderedSets.f k l = _
  unfold impl_orderedSets.f
  rw [if_pos hl, sbL_eq (ordI l (fun b => b ∈ osN l.length)) (fun a b ha hb => hK k hk (a, b) (List.mem_flatMap.mpr ⟨a, ha, List.mem_map.mpr ⟨b, hb, rfl⟩⟩)) (osN l.length) [] (fun b hb => hb) (fun b hb => by cases hb) List.Pairwise.nil]
  rfl
/-- The sets of the codes below c that are chosen. -/
def selL (sel : Nat → Bool) (n : Nat) (c : Nat) : List (List Int) := ((List.range c).filter sel).map (fun c => blF c 0 n)
theorem selL_hit {sel : Nat → Bool} {n c : Nat} (h : sel c = true) : selL sel n (c + 1) = selL sel n c ++ [blF c 0 n] := by
  unfold selL
  rw [List.range_succ, List.filter_append, List.map_append]
  simp [h]
theorem selL_miss {sel : Nat → Bool} {n c : Nat} (h : sel c = false) : selL sel n (c + 1) = selL sel n c := by
  unfold selL
  rw [List.range_succ, List.filter_append, List.map_append]
  simp [h]
theorem selL_pre (sel : Nat → Bool) (n : Nat) : ∀ (d c : Nat), ∃ R, selL sel n (c + d) = selL sel n c ++ R
  | 0, c => ⟨[], by simp⟩
  | d + 1, c => by
    obtain ⟨R, hR⟩ := selL_pre sel n d (c + 1)
    rw [show c + (d + 1) = c + 1 + d by omega, hR]
    cases h : sel c with
    | true => rw [selL_hit h, List.append_assoc]; exact ⟨_, rfl⟩
    | false => rw [selL_miss h]; exact ⟨_, rfl⟩
theorem selL_len (sel : Nat → Bool) (n c : Nat) : (selL sel n c).length ≤ c := by
  unfold selL
  rw [List.length_map]
  have := List.length_filter_le sel (List.range c)
  rwa [List.length_range] at this
theorem selL_okS (sel : Nat → Bool) (n c : Nat) (hn : n ≤ 8) : ∀ x ∈ selL sel n c, okS x := by
  intro x hx
  unfold selL at hx
  obtain ⟨q, _, rfl⟩ := List.mem_map.mp hx
  refine ⟨Nat.le_trans (blF_len q n 0) hn, fun y hy => ?_⟩
  obtain ⟨j, rfl, _, _, _⟩ := blF_mem q n 0 y hy
  omega
theorem selL_nodup (sel : Nat → Bool) (n : Nat) : (selL sel n (2 ^ n)).Nodup := by
  unfold selL
  rw [List.nodup_iff_pairwise_ne, List.pairwise_map]
  have h0 : ((List.range (2 ^ n)).filter sel).Pairwise (fun a b => a ≠ b) := List.nodup_iff_pairwise_ne.mp (List.nodup_range.sublist List.filter_sublist)
  refine h0.imp_of_mem (fun {a b} ha hb hne he => hne (blF_inj ?_ ?_ he))
  · exact List.mem_range.mp (List.mem_filter.mp ha).1
  · exact List.mem_range.mp (List.mem_filter.mp hb).1
/-- What stands when the sets of the codes below c have been put in. -/
def ordC (sel : Nat → Bool) (n c : Nat) : List Int := sortW (ltI (selL sel n (2 ^ n))) ((osN (selL sel n (2 ^ n)).length).take (selL sel n c).length) []
theorem ordC_mem {sel : Nat → Bool} {n c : Nat} {b : Int} (h : b ∈ ordC sel n c) : 1 ≤ b ∧ b ≤ ((selL sel n c).length : Int) ∧ b ≤ ((selL sel n (2 ^ n)).length : Int) := by
  unfold ordC at h
  have h := (sortW_perm _ _ _).mem_iff.1 h
  rw [List.append_nil] at h
  obtain ⟨j, hj, rfl⟩ := List.mem_iff_getElem.1 h
  rw [List.length_take] at hj
  have hb := osN_mem (List.mem_of_mem_take h)
  rw [List.getElem_take] at hb ⊢
  have e : (osN (selL sel n (2 ^ n)).length)[j]'(by omega) = (j : Int) + 1 := by simp [osN]
  rw [e] at hb ⊢
  omega
theorem ordC_at {sel : Nat → Bool} {n c : Nat} (hc : c < 2 ^ n) (h : sel c = true) : (selL sel n c).length < (selL sel n (2 ^ n)).length ∧ osB (selL sel n (2 ^ n)) (((selL sel n c).length : Int) + 1) = blF c 0 n := by
  obtain ⟨R, hR⟩ := selL_pre sel n (2 ^ n - (c + 1)) (c + 1)
  rw [show c + 1 + (2 ^ n - (c + 1)) = 2 ^ n by omega, selL_hit h, List.append_assoc] at hR
  unfold osB
  rw [hR]
  constructor
  · simp
  · rw [show (((selL sel n c).length : Int) + 1).toNat - 1 = (selL sel n c).length by omega, List.getD_eq_getElem?_getD, List.getElem?_append_right (Nat.le_refl _)]
    simp
theorem ordC_hit {sel : Nat → Bool} {n c : Nat} (hc : c < 2 ^ n) (h : sel c = true) : ordC sel n (c + 1) = insW (ltI (selL sel n (2 ^ n))) (((selL sel n c).length : Int) + 1) (ordC sel n c) := by
  have hl := (ordC_at hc h).1
  unfold ordC
  rw [selL_hit h, List.length_append, List.length_singleton, List.take_succ_eq_append_getElem (by simpa [osN] using hl), sortW_append]
  rw [show (osN (selL sel n (2 ^ n)).length)[(selL sel n c).length]'(by simpa [osN] using hl) = ((selL sel n c).length : Int) + 1 by simp [osN]]
  rfl
theorem ordC_end (sel : Nat → Bool) (n : Nat) : ordC sel n (2 ^ n) = sortW (ltI (selL sel n (2 ^ n))) (osN (selL sel n (2 ^ n)).length) [] := by
  unfold ordC
  rw [List.take_of_length_le (by simp [osN])]
/-- Where the reference puts the set: at the place of insertion. -/
theorem ordC_pos {sel : Nat → Bool} {n c : Nat} (hc : c < 2 ^ n) (h : sel c = true) (j : Nat) (hj : j < (ordC sel n c).length) (hp : j ≤ posW (ltI (selL sel n (2 ^ n))) (((selL sel n c).length : Int) + 1) (ordC sel n c)) :
    ltB (osB (selL sel n (2 ^ n)) (ordC sel n c)[j]) (blF c 0 n) = decide (j < posW (ltI (selL sel n (2 ^ n))) (((selL sel n c).length : Int) + 1) (ordC sel n c)) := by
  obtain ⟨hl, he⟩ := ordC_at hc h
  have hm := ordC_mem (List.getElem_mem hj)
  rcases Nat.lt_or_ge j (posW (ltI (selL sel n (2 ^ n))) (((selL sel n c).length : Int) + 1) (ordC sel n c)) with hlt | hge
  · rw [decide_eq_true hlt]
    have h1 := posW_before hlt
    unfold ltI at h1
    rw [he] at h1
    cases h2 : ltB (osB (selL sel n (2 ^ n)) (ordC sel n c)[j]) (blF c 0 n) with
    | true => rfl
    | false =>
      have e := ltB_tot _ _ h2 h1
      rw [← he] at e
      unfold osB at e
      rw [List.getD_eq_getElem?_getD, List.getElem?_eq_getElem (by omega), List.getD_eq_getElem?_getD, List.getElem?_eq_getElem (by omega)] at e
      have := (List.getElem_inj (selL_nodup sel n)).1 (show (selL sel n (2 ^ n))[(ordC sel n c)[j].toNat - 1]'(by omega) = (selL sel n (2 ^ n))[(((selL sel n c).length : Int) + 1).toNat - 1]'(by omega) from e)
      omega
  · have hej : j = posW (ltI (selL sel n (2 ^ n))) (((selL sel n c).length : Int) + 1) (ordC sel n c) := by omega
    rw [decide_eq_false (by omega)]
    have h1 := posW_at (lt := ltI (selL sel n (2 ^ n))) (i := ((selL sel n c).length : Int) + 1) (o := ordC sel n c) (by omega)
    unfold ltI at h1
    rw [he] at h1
    have h2 := ltB_asym _ _ h1
    simp only [hej]
    exact h2

theorem blF_nodup (c : Nat) : ∀ (d i : Nat), (blF c i d).Nodup := by
  intro d
  induction d with
  | zero => intro i; exact List.Pairwise.nil
  | succ d ih =>
    intro i
    unfold blF
    split
    · refine List.nodup_cons.mpr ⟨fun h => ?_, ih (i + 1)⟩
      obtain ⟨j, e, h1, _, _⟩ := blF_mem c d (i + 1) _ h
      omega
    · exact ih (i + 1)
theorem core (l : List S59) (hm : l.length ≤ 1048576) (_ : ∀ (i : Nat) (hi : i < l.length), I64 l[i].f0 ∧ I64 l[i].f1 ∧ I64 l[i].f2 ∧ I64 l[i].f3) :
    ∃ (r : List (List Int)) (ok : Bool), (r.length ≤ 1048576 ∧ ∀ x ∈ r, x.length ≤ 1048576) ∧ Ev (fun k => spec_TimelySets.f k l) (r, ok) ∧ Ev (fun k => impl_TimelySets.f k l) (r, ok) := by
  have h1 := l6Good_ev l (by omega)
  have h2 := IsPlain_ev l (by omega)
  unfold spec_TimelySets.f impl_TimelySets.f
  simp only [Option.bind_some]
  cases hp : plainB l
  · rw [hp] at h1 h2
    exact ⟨[], false, ⟨by simp, fun x hx => by cases hx⟩, ev_bind h1 (by simp only [Bool.false_eq_true, if_false]; exact ev_now _), ev_bind h2 (by simp only [Bool.false_eq_true, if_false]; exact ev_now _)⟩
  rw [hp] at h1 h2
  have hg := plain_good hp
  have hl := good_len hg
  have hs := good_small hg
  have h8 := pow8 l.length (by omega)
  have bl : ∀ c, ∀ b ∈ blF c 0 l.length, inJ l.length b := by
    intro c b hb
    obtain ⟨j, rfl, _, h, _⟩ := blF_mem c _ _ b hb
    exact ⟨by omega, by omega⟩
  have bn : ∀ c, (blF c 0 l.length).length ≤ 8 := fun c => by have := blF_len c l.length 0; omega
  obtain ⟨sel, hsel⟩ : ∃ sel : Nat → Bool, ∀ c, okL (tmJ l) (duJ l) 0 (dueU l (blF c 0 l.length)) = sel c := ⟨_, fun _ => rfl⟩
  have agree : ∀ c, okL (tmJ l) (duJ l) 0 (dueL l (blF c 0 l.length)) = sel c := by
    intro c
    rw [← hsel]
    exact okL_perm 0 ((dueL_perm _ _).trans (dueU_perm _ _).symm) (fun _ _ => ⟨rfl, rfl⟩) (fun a ha => (small_at hs (bl c a ((dueL_perm _ _).mem_iff.1 ha))).1) (dueL_due _ _) (dueU_sorted _ _)
  have hol : ∀ c, (ordC sel l.length c).length ≤ c := by
    intro c
    unfold ordC
    rw [(sortW_perm _ _ _).length_eq, List.append_nil, List.length_take]
    have := selL_len sel l.length c
    omega
  obtain ⟨L, hL⟩ : ∃ L, L = selL sel l.length (2 ^ l.length) := ⟨_, rfl⟩
  refine ⟨(ordC sel l.length (2 ^ l.length)).map (osB L), true, ⟨by rw [List.length_map]; have := hol (2 ^ l.length); omega, ?_⟩, ev_bind h1 ?_, ev_bind h2 ?_⟩
  · intro x hx
    obtain ⟨p, hp, rfl⟩ := List.mem_map.mp hx
    have hb := ordC_mem hp
    have := (selL_okS sel l.length _ hl _ (osB_in hb.1 hb.2.2)).1
    rw [hL]
    omega
  · simp only [if_true]
    have insEq : ∀ c, c < 2 ^ l.length → sel c = true → ∀ p, p = posW (ltI L) (((selL sel l.length c).length : Int) + 1) (ordC sel l.length c) → (((ordC sel l.length c).map (osB L)).take p ++ [blF c 0 l.length]) ++ ((ordC sel l.length c).map (osB L)).drop p = (ordC sel l.length (c + 1)).map (osB L) := by
      intro c hc h p hpos
      rw [ordC_hit hc h, ← hL]
      unfold insW
      rw [← hpos, List.map_append, List.map_cons, List.map_take, List.map_drop, hL, (ordC_at hc h).2, List.append_assoc]
      rfl
    have main : ∀ (d c : Nat), c + d = 2 ^ l.length → Ev (fun k => spec_TimelySets.l0 k l ((ordC sel l.length c).map (osB L)) (c : Int)) ((ordC sel l.length (2 ^ l.length)).map (osB L), true) := by
      intro d
      induction d with
      | zero =>
        intro c hc
        refine ev_succ ?_
        simp only [spec_TimelySets.l0, shl1 _ (show l.length < 9 by omega), if_neg (show ¬ (c : Int) < ((2 ^ l.length : Nat) : Int) by omega)]
        rw [show c = 2 ^ l.length by omega]
        exact ev_now _
      | succ d ih =>
        intro c hc
        have hcl : c < 2 ^ l.length := by omega
        refine ev_succ ?_
        simp only [spec_TimelySets.l0, shl1 _ (show l.length < 9 by omega), if_pos (show (c : Int) < ((2 ^ l.length : Nat) : Int) by omega)]
        refine ev_bind (l4Set_ev c l.length hl (by omega)) (ev_bind (l6Timely_ev l hs _ (bl c) (blF_nodup c _ _) (by have := bn c; omega)) ?_)
        rw [agree]
        have hlen := hol c
        cases h : sel c with
        | false =>
          simp only [Bool.false_eq_true, if_false, wsucc c (by omega)]
          have := ih (c + 1) (by omega)
          unfold ordC at this ⊢
          rw [selL_miss h] at this
          exact this
        | true =>
          simp only [if_true]
          have hn := ih (c + 1) (by omega)
          obtain ⟨p, hpos⟩ : ∃ p, p = posW (ltI L) (((selL sel l.length c).length : Int) + 1) (ordC sel l.length c) := ⟨_, rfl⟩
          have hple : p ≤ (ordC sel l.length c).length := by rw [hpos]; exact posW_le _ _ _
          rw [← insEq c hcl h p hpos] at hn
          have inner : ∀ (e j : Nat), j + e = p → Ev (fun k => spec_TimelySets.l1 k l ((ordC sel l.length c).map (osB L)) (c : Int) (blF c 0 l.length) (j : Int)) ((ordC sel l.length (2 ^ l.length)).map (osB L), true) := by
            intro e
            induction e with
            | zero =>
              intro j hj
              obtain rfl : j = p := by omega
              refine ev_succ ?_
              by_cases hjl : j < (ordC sel l.length c).length
              · have hlt := ordC_pos hcl h j hjl (by rw [← hL, ← hpos]; exact Nat.le_refl _)
                rw [← hL, ← hpos, decide_eq_false (Nat.lt_irrefl _)] at hlt
                have hrd : rd_L3 ((ordC sel l.length c).map (osB L)) (j : Int) = osB L (ordC sel l.length c)[j] := by
                  unfold rd_L3
                  rw [Int.toNat_natCast, List.getD_eq_getElem?_getD, List.getElem?_map, List.getElem?_eq_getElem hjl]
                  rfl
                simp only [spec_TimelySets.l1, List.length_map, if_pos (show (j : Int) < ((ordC sel l.length c).length : Int) by omega), if_pos (show (0 : Int) ≤ (j : Int) by omega), hrd]
                refine ev_bind (l4Less_ev _ _ (by have hb := ordC_mem (List.getElem_mem hjl); rw [hL]; exact (selL_okS sel l.length _ hl _ (osB_in hb.1 hb.2.2)).1)) ?_
                rw [hlt]
                simp only [Bool.false_eq_true, if_false, Option.bind_some, if_pos (show (j : Int) ≤ ((ordC sel l.length c).length : Int) by omega), Int.toNat_natCast, List.nil_append, List.length_nil, List.length_append, List.length_take, List.length_map, List.length_drop, List.length_singleton, wsucc c (by omega)]
                simp only [if_pos (show 0 + min j (ordC sel l.length c).length < 5864062014805 by omega), if_pos (show 0 + min j (ordC sel l.length c).length + 1 < 5864062014805 by omega), if_pos (show 0 + min j (ordC sel l.length c).length + 1 + ((ordC sel l.length c).length - j) < 5864062014805 by omega)]
                exact hn
              · simp only [spec_TimelySets.l1, List.length_map, if_neg (show ¬ (j : Int) < ((ordC sel l.length c).length : Int) by omega), Option.bind_some, if_pos (show (0 : Int) ≤ (j : Int) by omega), if_pos (show (j : Int) ≤ ((ordC sel l.length c).length : Int) by omega), Int.toNat_natCast, List.nil_append, List.length_nil, List.length_append, List.length_take, List.length_drop, List.length_singleton, wsucc c (by omega)]
                simp only [if_pos (show 0 + min j (ordC sel l.length c).length < 5864062014805 by omega), if_pos (show 0 + min j (ordC sel l.length c).length + 1 < 5864062014805 by omega), if_pos (show 0 + min j (ordC sel l.length c).length + 1 + ((ordC sel l.length c).length - j) < 5864062014805 by omega)]
                exact hn
            | succ e ihe =>
              intro j hj
              have hjl : j < (ordC sel l.length c).length := by omega
              refine ev_succ ?_
              have hlt := ordC_pos hcl h j hjl (by rw [← hL, ← hpos]; omega)
              rw [← hL, ← hpos, decide_eq_true (show j < p by omega)] at hlt
              have hrd : rd_L3 ((ordC sel l.length c).map (osB L)) (j : Int) = osB L (ordC sel l.length c)[j] := by
                unfold rd_L3
                rw [Int.toNat_natCast, List.getD_eq_getElem?_getD, List.getElem?_map, List.getElem?_eq_getElem hjl]
                rfl
              simp only [spec_TimelySets.l1, List.length_map, if_pos (show (j : Int) < ((ordC sel l.length c).length : Int) by omega), if_pos (show (0 : Int) ≤ (j : Int) by omega), hrd]
              refine ev_bind (l4Less_ev _ _ (by have hb := ordC_mem (List.getElem_mem hjl); rw [hL]; exact (selL_okS sel l.length _ hl _ (osB_in hb.1 hb.2.2)).1)) ?_
              rw [hlt]
              simp only [if_true, wsucc j (by omega)]
              exact ihe (j + 1) (by omega)
          exact inner p 0 (by omega)
    have := main (2 ^ l.length) 0 (by omega)
    simpa [ordC, selL, sortW] using this
  · simp only [if_true]
    have main : ∀ (d c : Nat), c + d = 2 ^ l.length → Ev (fun k => impl_TimelySets.l0 k l (selL sel l.length c) (c : Int)) ((ordC sel l.length (2 ^ l.length)).map (osB L), true) := by
      intro d
      induction d with
      | zero =>
        intro c hc
        refine ev_succ ?_
        simp only [impl_TimelySets.l0, shl1 _ (show l.length < 9 by omega), if_neg (show ¬ (c : Int) < ((2 ^ l.length : Nat) : Int) by omega)]
        rw [show c = 2 ^ l.length by omega, ordC_end, ← hL]
        have hLl := selL_len sel l.length (2 ^ l.length)
        exact ev_bind (osSort L (by rw [hL]; omega) (by rw [hL]; exact selL_okS sel l.length _ hl)) (ev_now _)
      | succ d ih =>
        intro c hc
        have hcl : c < 2 ^ l.length := by omega
        refine ev_succ ?_
        have hll := selL_len sel l.length c
        simp only [impl_TimelySets.l0, shl1 _ (show l.length < 9 by omega), if_pos (show (c : Int) < ((2 ^ l.length : Nat) : Int) by omega)]
        refine ev_bind (listOf_ev c l.length hl hcl) (ev_bind (onTime_ev l hs _ (bl c) (by have := bn c; omega)) ?_)
        rw [hsel]
        have hn := ih (c + 1) (by omega)
        cases h : sel c with
        | false =>
          rw [selL_miss h] at hn
          simp only [Bool.false_eq_true, if_false, wsucc c (by omega)]
          exact hn
        | true =>
          rw [selL_hit h] at hn
          simp only [if_true, if_pos (show (selL sel l.length c).length < 5864062014805 by omega), wsucc c (by omega)]
          exact hn
    exact main (2 ^ l.length) 0 (by omega)

theorem FnExactTimelySets : FnExactTimelySets.Claim := by
  intro l0 hl0 hg0
  refine Ev.rounds ?_
  unfold laws_FnExactTimelySets.f
  simp only [szJobS_eq l0 (1048576 : Int) (by omega) (by omega) hl0, Option.bind_some]
  by_cases h0 : (1048576 : Int) < l0.length
  · simp only [if_pos h0, if_pos (show (-1 : Int) < 0 by omega)]
    exact ev_now _
  simp only [if_neg h0, if_neg (show ¬ (((1048576 : Int) - l0.length) < 0) by omega)]
  have hm0 : (l0.map conv).length ≤ 1048576 := by simp; omega
  obtain ⟨r0, r1, hr0, hs, hi⟩ := core (l0.map conv) hm0 (conv_I64 l0 hg0)
  obtain ⟨qa0, ya0, _, hb0, ma0⟩ := markJobS_from1 (l0.map conv) hm0
  obtain ⟨q0, y0, m0, e0⟩ := markIntSS_ev r0 hr0.1 hr0.2
  refine ev_bind (toJobS_ev l0 (by omega)) (ev_bind hs (ev_bind hi (ev_bind (eqIntSS_ev r0 hr0.1 hr0.2) (ev_bind (eqJobS_ev (l0.map conv) (by omega)) (ev_bind ma0 (ev_bind m0 (ev_bind e0 ?_)))))))
  simp only [if_pos (show (true = true ∧ r1 = r1 ∧ true = true ∧ ¬ ((qa0 : Int) < 0) ∧ ¬ ((q0 : Int) < 0) ∧ (q0 : Int) = (q0 : Int)) from ⟨rfl, rfl, rfl, by omega, by omega, rfl⟩)]
  exact ev_now _

end Go.Proofs.Ythhmembnhnghiaa.Pure
