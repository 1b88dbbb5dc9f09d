/- The program's function and the reference's come to the same answer: the statement of numbers and lists behind the law FnExactTieGroups. Conditions: none. -/
import Derived.Test.YthhmembnhnghiaaArgFnExactTieGroups
import Derived.Test.YthhmembnhnghiaaBase
namespace Go.Proofs.Ythhmembnhnghiaa.Pure
open Go.RowKit Go.Proofs.Ythhmembnhnghiaa.OFnExactTieGroups Go.Proofs.Ythhmembnhnghiaa.Base Go.Proofs.YthhmembnhnghiaaW.PrintWords Go.Proofs.YthhmembnhnghiaaW.PrintLast Go.Proofs.YthhmembnhnghiaaW.PrintMore Go.Proofs.Ythhmembnhnghiaa.Open
set_option linter.unusedVariables false
set_option linter.unusedSimpArgs false

def laws_heldJobS.l0 : Nat → List (S59) → Int → Int → Option (Int)
  | 0, _, _, _ => none
  | k + 1, x0, x1, x5 => if x5 < (x0.length : Int) then (if 0 ≤ x5 then (if ((rd_T59 x0 x5).f0) = x1 then (if ((rd_T59 x0 x5).f1) = (wrap64 (x1 + 1)) then (if ((rd_T59 x0 x5).f2) = (wrap64 ((wrap64 (x1 + 1)) + 1)) then (if ((rd_T59 x0 x5).f3) = (wrap64 ((wrap64 ((wrap64 (x1 + 1)) + 1)) + 1)) then (laws_heldJobS.l0 k x0 (wrap64 ((wrap64 ((wrap64 ((wrap64 (x1 + 1)) + 1)) + 1)) + 1)) (wrap64 (x5 + 1))) else (some (-1))) else (some (-1))) else (some (-1))) else (some (-1))) else (none)) else (some x1)
def laws_heldJobS.f (k : Nat) (l0 : List (S59)) (a1 : Int) : Option (Int) := laws_heldJobS.l0 k l0 a1 0

theorem szJobS_eq (xs : List S63) (left : Int) (h0 : 0 ≤ left) (h1 : left ≤ 1048576) (h : xs.length ≤ 9223372036854775807) : laws_szJobS.f xs left = some (if left < xs.length then -1 else left - xs.length) := by
  unfold laws_szJobS.f
  rw [w64 (by omega) (by omega)]
  by_cases c : left < xs.length
  · rw [if_pos (by omega), if_pos c]
  · rw [if_neg (by omega), if_neg c]

def conv (x : S63) : S59 := ⟨x.f0, x.f1, x.f2, x.f3⟩
theorem rdL (xs : List S63) (i : Nat) (h : i < xs.length) : rd_T63 xs (i : Int) = xs[i] := by
  unfold rd_T63
  rw [Int.toNat_natCast, List.getD_eq_getElem?_getD, List.getElem?_eq_getElem h]
  rfl

theorem toJobS_l (xs : List S63) (hn : xs.length ≤ 8796093022208) : ∀ (d i : Nat) (ys : List S59), i + d = xs.length → ys.length = xs.length → ys.take i = (xs.map conv).take i → Ev (fun k => laws_toJobS.l0 k xs ys (i : Int)) (xs.map conv) := by
  intro d
  induction d with
  | zero =>
    intro i ys hi hl ht
    refine ev_succ ?_
    simp only [laws_toJobS.l0, if_neg (show ¬ (i : Int) < (xs.length : Int) by omega)]
    have : ys = xs.map conv := by
      rw [List.take_of_length_le (by omega), List.take_of_length_le (by simp; omega)] at ht
      exact ht
    rw [this]
    exact ev_now _
  | succ d ih =>
    intro i ys hi hl ht
    refine ev_succ ?_
    have hx : i < xs.length := by omega
    simp only [laws_toJobS.l0, laws_toJob.f, Option.bind_some, if_pos (show (i : Int) < (xs.length : Int) by omega), if_pos (show (i : Int) < (ys.length : Int) by omega), if_pos (show (0 : Int) ≤ (i : Int) by omega), rdL xs i hx, wsucc i (by omega), Int.toNat_natCast]
    refine ih (i + 1) _ (by omega) (by rw [List.length_set]; exact hl) ?_
    rw [take_set_succ ys i _ (by omega), ht, List.take_succ_eq_append_getElem (by simp; omega)]
    simp [conv]
theorem toJobS_ev (xs : List S63) (hn : xs.length ≤ 1048576) : Ev (fun k => laws_toJobS.f k xs) (xs.map conv) := by
  unfold laws_toJobS.f
  simp only [if_pos (show (0 : Int) ≤ (xs.length : Int) by omega), Int.toNat_natCast, if_pos (show xs.length ≤ 8796093022208 by omega)]
  exact toJobS_l xs (by omega) xs.length 0 _ (by omega) (by simp) (by simp)

theorem rdI (xs : List S59) (i : Nat) (h : i < xs.length) : rd_T59 xs (i : Int) = xs[i] := by
  unfold rd_T59
  rw [Int.toNat_natCast, List.getD_eq_getElem?_getD, List.getElem?_eq_getElem h]
  rfl

theorem eqJobS_l (xs : List S59) (hn : xs.length ≤ 4611686018427387904) : ∀ (d i : Nat), i + d = xs.length → Ev (fun k => laws_eqJobS.l0 k xs xs (i : Int)) true := by
  intro d
  induction d with
  | zero =>
    intro i hi
    refine ev_succ ?_
    simp only [laws_eqJobS.l0, if_neg (show ¬ (i : Int) < (xs.length : Int) by omega)]
    exact ev_now _
  | succ d ih =>
    intro i hi
    refine ev_succ ?_
    simp only [laws_eqJobS.l0, laws_eqJob.f, if_true, Option.bind_some, if_pos (show (i : Int) < (xs.length : Int) by omega), if_pos (show (0 : Int) ≤ (i : Int) by omega), wsucc i (by omega)]
    exact ih (i + 1) (by omega)
theorem eqJobS_ev (xs : List S59) (hn : xs.length ≤ 4611686018427387904) : Ev (fun k => laws_eqJobS.f k xs xs) true := by
  unfold laws_eqJobS.f
  simp only [if_true]
  exact eqJobS_l xs hn xs.length 0 (by omega)

theorem conv_I64 (l : List S63) (hg : ∀ x ∈ l, G63 x) (i : Nat) (hi : i < (l.map conv).length) : I64 (l.map conv)[i].f0 ∧ I64 (l.map conv)[i].f1 ∧ I64 (l.map conv)[i].f2 ∧ I64 (l.map conv)[i].f3 := by
  simp only [List.getElem_map, conv]
  exact hg _ (List.getElem_mem _)

theorem rdI_set (xs : List S59) (i : Nat) (h : i < xs.length) (v : S59) : rd_T59 (xs.set i v) (i : Int) = v := by
  rw [rdI _ i (by rw [List.length_set]; exact h)]
  simp
theorem markJobS_l : ∀ (d i m : Nat) (xs : List S59), i + d = xs.length → m + 4 * d ≤ 1152921504606846976 → xs.length ≤ 1152921504606846976 →
    ∃ (q : Nat) (ys : List S59), Ev (fun k => laws_markJobS.l0 k xs (m : Int) (i : Int)) ((q : Int), ys) ∧ ys.length = xs.length ∧ ys.take i = xs.take i ∧ m ≤ q ∧ q ≤ m + 4 * d ∧ Ev (fun k => laws_heldJobS.l0 k ys (m : Int) (i : Int)) (q : Int) := by
  intro d
  induction d with
  | zero =>
    intro i m xs hi hmd hxl
    refine ⟨m, xs, ev_succ ?_, rfl, rfl, Nat.le_refl _, by omega, ev_succ ?_⟩
    · simp only [laws_markJobS.l0, if_neg (show ¬ (i : Int) < (xs.length : Int) by omega)]
      exact ev_now _
    · simp only [laws_heldJobS.l0, if_neg (show ¬ (i : Int) < (xs.length : Int) by omega)]
      exact ev_now _
  | succ d ih =>
    intro i m xs hi hmd hxl
    obtain ⟨q, ys, h1, h2, h3, h4, h4', h5⟩ := ih (i + 1) (m + 4) (xs.set i ⟨(m : Int), ((m + 1 : Nat) : Int), ((m + 2 : Nat) : Int), ((m + 3 : Nat) : Int)⟩) (by rw [List.length_set]; omega) (by omega) (by rw [List.length_set]; omega)
    rw [List.length_set] at h2
    rw [take_set_succ xs i _ (by omega)] at h3
    have hy : ys[i]'(by omega) = ⟨(m : Int), ((m + 1 : Nat) : Int), ((m + 2 : Nat) : Int), ((m + 3 : Nat) : Int)⟩ := by
      have := congrArg (fun l => l[i]?) h3
      simp only [List.getElem?_take, if_pos (show i < i + 1 by omega)] at this
      rw [List.getElem?_append_right (by simp; omega), List.getElem?_eq_getElem (by omega)] at this
      simpa [Nat.min_eq_left (show i ≤ xs.length by omega)] using this
    refine ⟨q, ys, ev_succ ?_, h2, ?_, by omega, by omega, ev_succ ?_⟩
    · simp only [laws_markJobS.l0, Option.bind_some, if_pos (show (i : Int) < (xs.length : Int) by omega), if_pos (show (0 : Int) ≤ (i : Int) by omega), wsucc i (by omega), wsucc m (by omega), wsucc (m + 1) (by omega), wsucc (m + 2) (by omega), wsucc (m + 3) (by omega), Int.toNat_natCast, rdI_set xs i (by omega), List.set_set]
      exact h1
    · have := congrArg (fun l => l.take i) h3
      simp only [List.take_take, Nat.min_eq_left (show i ≤ i + 1 by omega)] at this
      rw [this, List.take_append_of_le_length (by simp; omega), List.take_take, Nat.min_self]
    · simp only [laws_heldJobS.l0, if_pos (show (i : Int) < (ys.length : Int) by omega), if_pos (show (0 : Int) ≤ (i : Int) by omega), wsucc i (by omega), wsucc m (by omega), wsucc (m + 1) (by omega), wsucc (m + 2) (by omega), wsucc (m + 3) (by omega), rdI ys i (by omega), hy, if_true]
      exact h5
theorem markJobS_ev (xs : List S59) (h : xs.length ≤ 1048576) : ∃ (q : Nat) (ys : List S59), 1 ≤ q ∧ Ev (fun k => laws_markJobS.f k xs 1) ((q : Int), ys) ∧ Ev (fun k => laws_heldJobS.f k ys 1) (q : Int) := by
  obtain ⟨q, ys, h1, h2, h3, h4, h4', h5⟩ := markJobS_l xs.length 0 1 xs (by omega) (by omega) (by omega)
  exact ⟨q, ys, h4, h1, h5⟩

theorem markJobS_from (xs : List S59) (h : xs.length ≤ 1048576) (m : Nat) (hm : m ≤ 1000000000) : ∃ (q : Nat) (ys : List S59), m ≤ q ∧ q ≤ m + 4194304 ∧ Ev (fun k => laws_markJobS.f k xs (m : Int)) ((q : Int), ys) := by
  obtain ⟨q, ys, h1, h2, h3, h4, h4', h5⟩ := markJobS_l xs.length 0 m xs (by omega) (by omega) (by omega)
  exact ⟨q, ys, h4, by omega, h1⟩
theorem markJobS_from1 (xs : List S59) (h : xs.length ≤ 1048576) : ∃ (q : Nat) (ys : List S59), 1 ≤ q ∧ q ≤ 1 + 4194304 ∧ Ev (fun k => laws_markJobS.f k xs 1) ((q : Int), ys) := markJobS_from xs h 1 (by omega)

theorem rdN (xs : List Int) (i : Nat) (h : i < xs.length) : rd xs (i : Int) = xs[i] := by
  unfold rd
  rw [Int.toNat_natCast, List.getD_eq_getElem?_getD, List.getElem?_eq_getElem h]
  rfl

theorem markIntS_l : ∀ (d i m : Nat) (xs : List Int), i + d = xs.length → m + d ≤ 1152921504606846976 → xs.length ≤ 1152921504606846976 →
    ∃ (q : Nat) (ys : List Int), Ev (fun k => laws_markIntS.l0 k xs (m : Int) (i : Int)) ((q : Int), ys) ∧ ys.length = xs.length ∧ ys.take i = xs.take i ∧ m ≤ q ∧ q ≤ m + d ∧ Ev (fun k => laws_heldIntS.l0 k ys (m : Int) (i : Int)) (q : Int) := by
  intro d
  induction d with
  | zero =>
    intro i m xs hi hmd hxl
    refine ⟨m, xs, ev_succ ?_, rfl, rfl, Nat.le_refl _, by omega, ev_succ ?_⟩
    · simp only [laws_markIntS.l0, if_neg (show ¬ (i : Int) < (xs.length : Int) by omega)]
      exact ev_now _
    · simp only [laws_heldIntS.l0, if_neg (show ¬ (i : Int) < (xs.length : Int) by omega)]
      exact ev_now _
  | succ d ih =>
    intro i m xs hi hmd hxl
    obtain ⟨q, ys, h1, h2, h3, h4, h4', h5⟩ := ih (i + 1) (m + 1) (xs.set i (m : Int)) (by rw [List.length_set]; omega) (by omega) (by rw [List.length_set]; omega)
    rw [List.length_set] at h2
    rw [take_set_succ xs i _ (by omega)] at h3
    have hy : ys[i]'(by omega) = (m : Int) := by
      have := congrArg (fun l => l[i]?) h3
      simp only [List.getElem?_take, if_pos (show i < i + 1 by omega)] at this
      rw [List.getElem?_append_right (by simp; omega), List.getElem?_eq_getElem (by omega)] at this
      simpa [Nat.min_eq_left (show i ≤ xs.length by omega)] using this
    have hx : i < xs.length := by omega
    refine ⟨q, ys, ev_succ ?_, h2, ?_, by omega, by omega, ev_succ ?_⟩
    · simp only [laws_markIntS.l0, if_pos (show (i : Int) < (xs.length : Int) by omega), if_pos (show (0 : Int) ≤ (i : Int) by omega), Int.toNat_natCast, wsucc m (by omega), wsucc i (by omega)]
      exact h1
    · have := congrArg (fun l => l.take i) h3
      simp only [List.take_take, Nat.min_eq_left (show i ≤ i + 1 by omega)] at this
      rw [this, List.take_append_of_le_length (by simp; omega), List.take_take, Nat.min_self]
    · simp only [laws_heldIntS.l0, if_pos (show (i : Int) < (ys.length : Int) by omega), if_pos (show (0 : Int) ≤ (i : Int) by omega), rdN ys i (by omega), hy, if_true, wsucc m (by omega), wsucc i (by omega)]
      exact h5
theorem markIntS_ev (xs : List Int) (h : xs.length ≤ 1048576) : ∃ (q : Nat) (ys : List Int), 1 ≤ q ∧ Ev (fun k => laws_markIntS.f k xs 1) ((q : Int), ys) ∧ Ev (fun k => laws_heldIntS.f k ys 1) (q : Int) := by
  obtain ⟨q, ys, h1, h2, h3, h4, h4', h5⟩ := markIntS_l xs.length 0 1 xs (by omega) (by omega) (by omega)
  exact ⟨q, ys, h4, h1, h5⟩

theorem eqIntS_l (xs : List Int) (hn : xs.length ≤ 4611686018427387904) : ∀ (d i : Nat), i + d = xs.length → Ev (fun k => laws_eqIntS.l0 k xs xs (i : Int)) true := by
  intro d
  induction d with
  | zero =>
    intro i hi
    refine ev_succ ?_
    simp only [laws_eqIntS.l0, if_neg (show ¬ (i : Int) < (xs.length : Int) by omega)]
    exact ev_now _
  | succ d ih =>
    intro i hi
    refine ev_succ ?_
    simp only [laws_eqIntS.l0, if_true, if_pos (show (i : Int) < (xs.length : Int) by omega), if_pos (show (0 : Int) ≤ (i : Int) by omega), wsucc i (by omega)]
    exact ih (i + 1) (by omega)
theorem eqIntS_ev (xs : List Int) (hn : xs.length ≤ 4611686018427387904) : Ev (fun k => laws_eqIntS.f k xs xs) true := by
  unfold laws_eqIntS.f
  simp only [if_true]
  exact eqIntS_l xs hn xs.length 0 (by omega)

theorem rdSS (xs : List (List Int)) (i : Nat) (h : i < xs.length) : rd_L3 xs (i : Int) = xs[i] := by
  unfold rd_L3
  rw [Int.toNat_natCast, List.getD_eq_getElem?_getD, List.getElem?_eq_getElem h]
  rfl
theorem eqIntSS_ev (xs : List (List Int)) (hn : xs.length ≤ 1048576) (hr : ∀ x ∈ xs, x.length ≤ 1048576) : Ev (fun k => laws_eqIntSS.f k xs xs) true := by
  unfold laws_eqIntSS.f
  simp only [if_true]
  have loop : ∀ (d i : Nat), i + d = xs.length → Ev (fun k => laws_eqIntSS.l0 k xs xs (i : Int)) true := by
    intro d
    induction d with
    | zero =>
      intro i hi
      refine ev_succ ?_
      simp only [laws_eqIntSS.l0, if_neg (show ¬ ((i : Int) < (xs.length : Int)) by omega)]
      exact ev_now _
    | succ d ih =>
      intro i hi
      refine ev_succ ?_
      simp only [laws_eqIntSS.l0, if_pos (show (i : Int) < (xs.length : Int) by omega), if_pos (show (0 : Int) ≤ (i : Int) by omega), rdSS xs i (by omega), wsucc i (by omega)]
      refine ev_bind (eqIntS_ev xs[i] (by have := hr _ (List.getElem_mem (show i < xs.length by omega)); omega)) ?_
      simp only [if_true]
      exact ih (i + 1) (by omega)
  exact loop xs.length 0 (by omega)
theorem markIntSS_l : ∀ (d i m : Nat) (xs : List (List Int)), i + d = xs.length → m + 1048576 * d ≤ 1152921504606846976 → xs.length ≤ 1048576 → (∀ x ∈ xs, x.length ≤ 1048576) →
    ∃ (q : Nat) (ys : List (List Int)), Ev (fun k => laws_markIntSS.l0 k xs (m : Int) (i : Int)) ((q : Int), ys) ∧ ys.length = xs.length ∧ ys.take i = xs.take i ∧ m ≤ q ∧ Ev (fun k => laws_heldIntSS.l0 k ys (m : Int) (i : Int)) (q : Int) := by
  intro d
  induction d with
  | zero =>
    intro i m xs hi hmd hxl _
    refine ⟨m, xs, ev_succ ?_, rfl, rfl, Nat.le_refl _, ev_succ ?_⟩
    · simp only [laws_markIntSS.l0, if_neg (show ¬ (i : Int) < (xs.length : Int) by omega)]
      exact ev_now _
    · simp only [laws_heldIntSS.l0, if_neg (show ¬ (i : Int) < (xs.length : Int) by omega)]
      exact ev_now _
  | succ d ih =>
    intro i m xs hi hmd hxl hr
    have hrow := hr _ (List.getElem_mem (show i < xs.length by omega))
    obtain ⟨q1, y1, a1, a2, _, a4, a5, a6⟩ := markIntS_l xs[i].length 0 m xs[i] (by omega) (by omega) (by omega)
    obtain ⟨q, ys, h1, h2, h3, h4, h5⟩ := ih (i + 1) q1 (xs.set i y1) (by rw [List.length_set]; omega) (by omega) (by rw [List.length_set]; omega) (fun x hx => by
      rcases List.mem_or_eq_of_mem_set hx with h | h
      · exact hr x h
      · subst h; omega)
    rw [List.length_set] at h2
    have hy : ys[i]'(by omega) = y1 := by
      have := congrArg (fun l => l[i]?) h3
      simp only [List.getElem?_take, if_pos (show i < i + 1 by omega)] at this
      rw [List.getElem?_eq_getElem (by omega), List.getElem?_set, if_pos rfl, if_pos (by omega)] at this
      exact Option.some.inj this
    refine ⟨q, ys, ev_succ ?_, h2, ?_, by omega, ev_succ ?_⟩
    · simp only [laws_markIntSS.l0, if_pos (show (i : Int) < (xs.length : Int) by omega), if_pos (show (0 : Int) ≤ (i : Int) by omega), Int.toNat_natCast, rdSS xs i (by omega), wsucc i (by omega)]
      exact ev_bind (by unfold laws_markIntS.f; exact a1) h1
    · have := congrArg (fun l => l.take i) h3
      simp only [List.take_take, Nat.min_eq_left (show i ≤ i + 1 by omega)] at this
      rw [this, List.take_set, List.set_eq_of_length_le (by rw [List.length_take]; omega)]
    · simp only [laws_heldIntSS.l0, if_pos (show (i : Int) < (ys.length : Int) by omega), if_pos (show (0 : Int) ≤ (i : Int) by omega), rdSS ys i (by omega), hy, wsucc i (by omega)]
      refine ev_bind (by unfold laws_heldIntS.f; exact a6) ?_
      simp only [if_neg (show ¬ ((q1 : Int) < 0) by omega)]
      exact h5
theorem markIntSS_ev (xs : List (List Int)) (hn : xs.length ≤ 1048576) (hr : ∀ x ∈ xs, x.length ≤ 1048576) : ∃ (q : Nat) (ys : List (List Int)), Ev (fun k => laws_markIntSS.f k xs 1) ((q : Int), ys) ∧ Ev (fun k => laws_heldIntSS.f k ys 1) (q : Int) := by
  obtain ⟨q, ys, h1, _, _, _, h5⟩ := markIntSS_l xs.length 0 1 xs (by omega) (by omega) hn hr
  exact ⟨q, ys, h1, h5⟩

theorem within_eq (a b c : Int) : impl_within.f a b c = some (decide (b ≤ a) && decide (a ≤ c)) := by
  unfold impl_within.f
  by_cases h : b ≤ a
  · rw [if_pos h]; simp [h]
  · rw [if_neg h]; simp [h]

/-- A job's numbers are in their bounds. -/
def okJ (x : S59) : Bool := decide (1 ≤ x.f0) && (decide (x.f0 ≤ 50) && (decide (0 ≤ x.f1) && (decide (x.f1 ≤ 50) && (decide (0 ≤ x.f2) && (decide (x.f2 ≤ 500) && (decide (0 ≤ x.f3) && decide (x.f3 ≤ 500)))))))
def goodB (l : List S59) : Bool := decide (l.length ≤ 8) && l.all okJ
theorem isDate_eq (a : Int) : impl_isDate.f a = some (decide (0 ≤ a) && decide (a ≤ 500)) := by
  unfold impl_isDate.f
  rw [within_eq]
  rfl
theorem job_chain (x : S59) (o : Option Bool) : (if (decide (1 ≤ x.f0) && decide (x.f0 ≤ 50)) = true then (if (decide (0 ≤ x.f1) && decide (x.f1 ≤ 50)) = true then (if (decide (0 ≤ x.f2) && decide (x.f2 ≤ 500)) = true then (if (decide (0 ≤ x.f3) && decide (x.f3 ≤ 500)) = true then o else some false) else some false) else some false) else some false) = if okJ x = true then o else some false := by
  unfold okJ
  by_cases a1 : 1 ≤ x.f0 <;> by_cases a2 : x.f0 ≤ 50 <;> simp [a1, a2]
  by_cases b1 : 0 ≤ x.f1 <;> by_cases b2 : x.f1 ≤ 50 <;> simp [b1, b2]
  by_cases c1 : 0 ≤ x.f2 <;> by_cases c2 : x.f2 ≤ 500 <;> simp [c1, c2]
theorem IsJobs_l (xs : List S59) (hn : xs.length ≤ 4611686018427387904) : ∀ (d i : Nat), i + d = xs.length → Ev (fun k => impl_IsJobs.l0 k xs (xs.length : Int) (i : Int)) ((xs.drop i).all okJ) := by
  intro d
  induction d with
  | zero =>
    intro i hi
    refine ev_succ ?_
    simp only [impl_IsJobs.l0, if_neg (show ¬ (i : Int) < (xs.length : Int) by omega), List.drop_of_length_le (show xs.length ≤ i by omega)]
    exact ev_now _
  | succ d ih =>
    intro i hi
    refine ev_succ ?_
    have hx : i < xs.length := by omega
    have hih := ih (i + 1) (by omega)
    rw [List.drop_eq_getElem_cons hx, List.all_cons]
    simp only [impl_IsJobs.l0, within_eq, isDate_eq, Option.bind_some, if_pos (show (i : Int) < (xs.length : Int) by omega), if_pos (show (0 : Int) ≤ (i : Int) by omega), wsucc i (by omega), rdI xs i hx]
    generalize xs[i] = x at *
    simp only [job_chain]
    by_cases c : okJ x = true
    · simpa only [c, if_true, Bool.true_and] using hih
    · have c' : okJ x = false := by simpa using c
      simp only [c', Bool.false_and]
      exact ev_now _
theorem IsJobs_ev (xs : List S59) (hn : xs.length ≤ 4611686018427387904) : Ev (fun k => impl_IsJobs.f k xs) (goodB xs) := by
  unfold impl_IsJobs.f goodB
  by_cases h : xs.length ≤ 8
  · simp only [if_neg (show ¬ ((xs.length : Int) > 8) by omega), decide_eq_true h, Bool.true_and]
    exact IsJobs_l xs hn xs.length 0 (by omega)
  · simp only [if_pos (show ((xs.length : Int) > 8) by omega), decide_eq_false h, Bool.false_and]
    exact ev_now _

theorem good_len {xs : List S59} (h : goodB xs = true) : xs.length ≤ 8 := by
  unfold goodB at h
  simp only [Bool.and_eq_true, decide_eq_true_eq] at h
  exact h.1
theorem good_at {xs : List S59} (h : goodB xs = true) (i : Nat) (hi : i < xs.length) : 1 ≤ xs[i].f0 ∧ xs[i].f0 ≤ 50 ∧ 0 ≤ xs[i].f1 ∧ xs[i].f1 ≤ 50 ∧ 0 ≤ xs[i].f2 ∧ xs[i].f2 ≤ 500 ∧ 0 ≤ xs[i].f3 ∧ xs[i].f3 ≤ 500 := by
  unfold goodB at h
  simp only [Bool.and_eq_true, List.all_eq_true] at h
  have b := h.2 xs[i] (List.getElem_mem hi)
  simp only [okJ, Bool.and_eq_true, decide_eq_true_eq] at b
  obtain ⟨a1, a2, b1, b2, c1, c2, d1, d2⟩ := b
  exact ⟨a1, a2, b1, b2, c1, c2, d1, d2⟩

/-- The rule difference of two jobs. -/
def gapJ (a b : S59) (o : Int) : Int := if o = 1 then a.f2 - b.f2 else if o = 2 then a.f0 - b.f0 else if o = 3 then a.f0 * b.f1 - b.f0 * a.f1 else a.f3 - b.f3

def freeJ (x : S59) : Bool := decide (x.f2 = 0)
def plainB (l : List S59) : Bool := goodB l && l.all freeJ
theorem isPlain_l (xs : List S59) (hn : xs.length ≤ 4611686018427387904) : ∀ (d i : Nat), i + d = xs.length → Ev (fun k => impl_isPlain.l0 k xs (xs.length : Int) (i : Int)) ((xs.drop i).all freeJ) := by
  intro d
  induction d with
  | zero =>
    intro i hi
    refine ev_succ ?_
    simp only [impl_isPlain.l0, if_neg (show ¬ (i : Int) < (xs.length : Int) by omega), List.drop_of_length_le (show xs.length ≤ i by omega)]
    exact ev_now _
  | succ d ih =>
    intro i hi
    refine ev_succ ?_
    have hx : i < xs.length := by omega
    have hih := ih (i + 1) (by omega)
    rw [List.drop_eq_getElem_cons hx, List.all_cons]
    simp only [impl_isPlain.l0, if_pos (show (i : Int) < (xs.length : Int) by omega), if_pos (show (0 : Int) ≤ (i : Int) by omega), wsucc i (by omega), rdI xs i hx]
    by_cases c : (xs[i]).f2 = 0
    · simp only [if_pos c, freeJ, decide_eq_true c, Bool.true_and]
      exact hih
    · simp only [if_neg c, freeJ, decide_eq_false c, Bool.false_and]
      exact ev_now _
theorem isPlain_ev (xs : List S59) (hn : xs.length ≤ 4611686018427387904) : Ev (fun k => impl_isPlain.f k xs) (xs.all freeJ) := by
  unfold impl_isPlain.f
  exact isPlain_l xs hn xs.length 0 (by omega)

theorem l1In_eq (a b c : Int) : spec_l1In.f a b c = some (decide (b ≤ a) && decide (a ≤ c)) := by
  unfold spec_l1In.f
  by_cases h : b ≤ a
  · rw [if_pos h]; simp [h]
  · rw [if_neg h]; simp [h]

theorem l2Job_eq (x : S59) : spec_l2Job.f x.f0 x.f1 x.f2 x.f3 = some (okJ x) := by
  unfold spec_l2Job.f okJ
  simp only [l1In_eq, Option.bind_some]
  by_cases a1 : 1 ≤ x.f0 <;> by_cases a2 : x.f0 ≤ 50 <;> simp [a1, a2]
  by_cases b1 : 0 ≤ x.f1 <;> by_cases b2 : x.f1 ≤ 50 <;> simp [b1, b2]
  by_cases c1 : 0 ≤ x.f2 <;> by_cases c2 : x.f2 ≤ 500 <;> simp [c1, c2]
theorem l2Good_l (xs : List S59) (hn : xs.length ≤ 4611686018427387904) : ∀ (d i : Nat), i + d = xs.length → Ev (fun k => spec_l2Good.l0 k xs (i : Int)) ((xs.drop i).all okJ && decide (xs.length ≤ 8)) := by
  intro d
  induction d with
  | zero =>
    intro i hi
    refine ev_succ ?_
    simp only [spec_l2Good.l0, if_neg (show ¬ (i : Int) < (xs.length : Int) by omega), List.drop_of_length_le (show xs.length ≤ i by omega)]
    refine ev_const ?_
    simp
    omega
  | succ d ih =>
    intro i hi
    refine ev_succ ?_
    have hx : i < xs.length := by omega
    have hih := ih (i + 1) (by omega)
    rw [List.drop_eq_getElem_cons hx, List.all_cons]
    simp only [spec_l2Good.l0, if_pos (show (i : Int) < (xs.length : Int) by omega), if_pos (show (0 : Int) ≤ (i : Int) by omega), wsucc i (by omega), rdI xs i hx, l2Job_eq, Option.bind_some]
    by_cases c : okJ xs[i] = true
    · simpa only [c, if_true, Bool.true_and] using hih
    · have c' : okJ xs[i] = false := by simpa using c
      simp only [c', Bool.false_and]
      exact ev_now _
theorem l2Good_ev (xs : List S59) (hn : xs.length ≤ 4611686018427387904) : Ev (fun k => spec_l2Good.f k xs) (goodB xs) := by
  unfold spec_l2Good.f goodB
  rw [Bool.and_comm]
  exact l2Good_l xs hn xs.length 0 (by omega)

theorem l3Plain_l (xs : List S59) (hn : xs.length ≤ 4611686018427387904) : ∀ (d i : Nat), i + d = xs.length → Ev (fun k => spec_l3Plain.l0 k xs (i : Int)) ((xs.drop i).all freeJ) := by
  intro d
  induction d with
  | zero =>
    intro i hi
    refine ev_succ ?_
    simp only [spec_l3Plain.l0, if_neg (show ¬ (i : Int) < (xs.length : Int) by omega), List.drop_of_length_le (show xs.length ≤ i by omega)]
    exact ev_now _
  | succ d ih =>
    intro i hi
    refine ev_succ ?_
    have hx : i < xs.length := by omega
    have hih := ih (i + 1) (by omega)
    rw [List.drop_eq_getElem_cons hx, List.all_cons]
    simp only [spec_l3Plain.l0, if_pos (show (i : Int) < (xs.length : Int) by omega), if_pos (show (0 : Int) ≤ (i : Int) by omega), wsucc i (by omega), rdI xs i hx]
    by_cases c : (xs[i]).f2 = 0
    · simp only [if_pos c, freeJ, decide_eq_true c, Bool.true_and]
      exact hih
    · simp only [if_neg c, freeJ, decide_eq_false c, Bool.false_and]
      exact ev_now _
theorem l3Plain_ev (xs : List S59) (hn : xs.length ≤ 4611686018427387904) : Ev (fun k => spec_l3Plain.f k xs) (xs.all freeJ) := by
  unfold spec_l3Plain.f
  exact l3Plain_l xs hn xs.length 0 (by omega)

/-- An objective is ruled for jobs. -/
def ruledB (l : List S59) (o : Int) : Bool := goodB l && (decide (o = 1) || (decide (2 ≤ o) && decide (o ≤ 4) && l.all freeJ))
theorem isRuled_ev (xs : List S59) (o : Int) (hn : xs.length ≤ 1048576) : Ev (fun k => impl_isRuled.f k xs o) (ruledB xs o) := by
  unfold impl_isRuled.f ruledB
  refine ev_bind (IsJobs_ev xs (by omega)) ?_
  cases goodB xs
  · simp only [Bool.false_eq_true, if_false, Bool.false_and]; exact ev_now _
  · simp only [if_true, Bool.true_and]
    by_cases h : o = 1
    · simp only [if_pos h, decide_eq_true h, Bool.true_or]; exact ev_now _
    · simp only [if_neg h, decide_eq_false h, Bool.false_or, within_eq, Option.bind_some]
      cases (decide (2 ≤ o) && decide (o ≤ 4))
      · simp only [Bool.false_eq_true, if_false, Bool.false_and]; exact ev_now _
      · simp only [if_true, Bool.true_and]; exact ev_bind (isPlain_ev xs (by omega)) (ev_now _)
theorem l3Ruled_ev (xs : List S59) (o : Int) (hn : xs.length ≤ 1048576) : Ev (fun k => spec_l3Ruled.f k xs o) (ruledB xs o) := by
  unfold spec_l3Ruled.f ruledB
  refine ev_bind (l2Good_ev xs (by omega)) ?_
  cases goodB xs
  · simp only [Bool.false_eq_true, if_false, Bool.false_and]; exact ev_now _
  · simp only [if_true, Bool.true_and, l1In_eq, Option.bind_some]
    by_cases h : o = 1
    · subst h
      simp only [show (decide ((1 : Int) ≤ 1) && decide ((1 : Int) ≤ 4)) = true from by decide, if_true, decide_true, Bool.true_or]
      exact ev_now _
    · have e : (decide ((1 : Int) ≤ o) && decide (o ≤ 4)) = (decide (2 ≤ o) && decide (o ≤ 4)) := by
        congr 1
        rw [decide_eq_decide]
        omega
      rw [e]
      simp only [if_neg h, decide_eq_false h, Bool.false_or]
      cases (decide (2 ≤ o) && decide (o ≤ 4))
      · simp only [Bool.false_eq_true, if_false, Bool.false_and]; exact ev_now _
      · simp only [if_true, Bool.true_and]; exact ev_bind (l3Plain_ev xs (by omega)) (ev_now _)
theorem ruled_good {xs : List S59} {o : Int} (h : ruledB xs o = true) : goodB xs = true := by
  unfold ruledB at h
  simp only [Bool.and_eq_true] at h
  exact h.1

theorem mul_bd (a b : Int) (h0 : 0 ≤ a) (h1 : a ≤ 50) (h2 : 0 ≤ b) (h3 : b ≤ 50) : 0 ≤ a * b ∧ a * b ≤ 2500 :=
  ⟨Int.mul_nonneg h0 h2, Int.le_trans (Int.mul_le_mul_of_nonneg_right h1 h2) (by omega)⟩
theorem difference_eq (a b : S59) (o : Int) (ha : 1 ≤ a.f0 ∧ a.f0 ≤ 50 ∧ 0 ≤ a.f1 ∧ a.f1 ≤ 50 ∧ 0 ≤ a.f2 ∧ a.f2 ≤ 500 ∧ 0 ≤ a.f3 ∧ a.f3 ≤ 500) (hb : 1 ≤ b.f0 ∧ b.f0 ≤ 50 ∧ 0 ≤ b.f1 ∧ b.f1 ≤ 50 ∧ 0 ≤ b.f2 ∧ b.f2 ≤ 500 ∧ 0 ≤ b.f3 ∧ b.f3 ≤ 500) :
    impl_difference.f a.f0 a.f1 a.f2 a.f3 b.f0 b.f1 b.f2 b.f3 o = some (gapJ a b o) := by
  have m1 := mul_bd a.f0 b.f1 (by omega) (by omega) (by omega) (by omega)
  have m2 := mul_bd b.f0 a.f1 (by omega) (by omega) (by omega) (by omega)
  unfold impl_difference.f gapJ
  rw [w64 (x := a.f2 - b.f2) (by omega) (by omega), w64 (x := a.f0 - b.f0) (by omega) (by omega), w64 (x := a.f0 * b.f1) (by omega) (by omega), w64 (x := b.f0 * a.f1) (by omega) (by omega), w64 (x := a.f0 * b.f1 - b.f0 * a.f1) (by omega) (by omega), w64 (x := a.f3 - b.f3) (by omega) (by omega)]
  split
  · rfl
  · split
    · rfl
    · split <;> rfl
theorem gap_eq (xs : List S59) (hg : goodB xs = true) (o : Int) (i j : Nat) (hi : i < xs.length) (hj : j < xs.length) : spec_l3Gap.f xs o (i : Int) (j : Int) = some (gapJ xs[i] xs[j] o) := by
  have ha := good_at hg i hi
  have hb := good_at hg j hj
  unfold spec_l3Gap.f
  rw [if_pos (by omega), if_pos (by omega), if_pos (by omega), if_pos (by omega), rdI xs i hi, rdI xs j hj]
  generalize xs[i] = a at *
  generalize xs[j] = b at *
  have m1 := mul_bd a.f0 b.f1 (by omega) (by omega) (by omega) (by omega)
  have m2 := mul_bd b.f0 a.f1 (by omega) (by omega) (by omega) (by omega)
  unfold gapJ
  rw [w64 (x := a.f2 - b.f2) (by omega) (by omega), w64 (x := a.f0 - b.f0) (by omega) (by omega), w64 (x := a.f0 * b.f1) (by omega) (by omega), w64 (x := b.f0 * a.f1) (by omega) (by omega), w64 (x := a.f0 * b.f1 - b.f0 * a.f1) (by omega) (by omega), w64 (x := a.f3 - b.f3) (by omega) (by omega)]
  split
  · rfl
  · split
    · rfl
    · split <;> rfl

abbrev inJ (n : Nat) (i : Int) : Prop := 0 ≤ i ∧ i < (n : Int)
theorem inJ_nat {n : Nat} {a : Int} (h : inJ n a) : ∃ i : Nat, i < n ∧ a = (i : Int) := ⟨a.toNat, by have := h.1; have := h.2; omega, by have := h.1; omega⟩
theorem rd_nat (l : List S59) {a : Int} (h : inJ l.length a) : rd_T59 l a = l[a.toNat]'(by have := h.1; have := h.2; omega) := by
  obtain ⟨i, hi, rfl⟩ := inJ_nat h
  rw [rdI l i hi]
  rfl

theorem rdW (o : List Int) (n : Nat) (h : n < o.length) : rd o (n : Int) = o[n] := by
  simp [rd]
  rw [List.getElem?_eq_getElem h]; rfl

/-- Where a number goes among sorted ones: ahead of the first that it comes ahead of. -/
def posW (lt : Int → Int → Bool) (i : Int) (o : List Int) : Nat := o.findIdx (fun b => lt i b)
def insW (lt : Int → Int → Bool) (i : Int) (o : List Int) : List Int := o.take (posW lt i o) ++ i :: o.drop (posW lt i o)
def sortW (lt : Int → Int → Bool) : List Int → List Int → List Int
  | [], o => o
  | i :: t, o => sortW lt t (insW lt i o)
structure OrdW (lt : Int → Int → Bool) (D : Int → Prop) : Prop where
  asym : ∀ a b, D a → D b → lt a b = true → lt b a = false
  co : ∀ i a b, D i → D a → D b → lt i a = true → lt b a = false → lt i b = true
abbrev SortedW (lt : Int → Int → Bool) (o : List Int) : Prop := o.Pairwise (fun a b => lt b a = false)
theorem posW_le (lt : Int → Int → Bool) (i : Int) (o : List Int) : posW lt i o ≤ o.length := List.findIdx_le_length
theorem posW_before {lt : Int → Int → Bool} {i : Int} {o : List Int} {j : Nat} (h : j < posW lt i o) : lt i (o[j]'(Nat.lt_of_lt_of_le h (posW_le _ _ _))) = false := by
  have := List.not_of_lt_findIdx (p := fun b => lt i b) h
  simpa using this
theorem posW_at {lt : Int → Int → Bool} {i : Int} {o : List Int} (h : posW lt i o < o.length) : lt i (o[posW lt i o]'h) = true := List.findIdx_getElem (w := h)
theorem posW_behind {lt : Int → Int → Bool} {D : Int → Prop} (H : OrdW lt D) {i : Int} {o : List Int} (hi : D i) (ho : ∀ b ∈ o, D b) (hs : SortedW lt o) {j : Nat} (hj : posW lt i o ≤ j) (hl : j < o.length) : lt i (o[j]'hl) = true := by
  have hp : posW lt i o < o.length := by omega
  have h0 := posW_at hp
  rcases Nat.lt_or_ge (posW lt i o) j with h | h
  · have h1 := List.pairwise_iff_getElem.1 hs _ _ hp hl h
    exact H.co i _ _ hi (ho _ (List.getElem_mem hp)) (ho _ (List.getElem_mem hl)) h0 h1
  · have : j = posW lt i o := by omega
    subst this
    exact h0
theorem insW_perm (lt : Int → Int → Bool) (i : Int) (o : List Int) : (insW lt i o).Perm (i :: o) := by
  unfold insW
  refine List.perm_middle.trans ?_
  rw [List.take_append_drop]
theorem insW_sorted {lt : Int → Int → Bool} {D : Int → Prop} (H : OrdW lt D) {i : Int} {o : List Int} (hi : D i) (ho : ∀ b ∈ o, D b) (hs : SortedW lt o) : SortedW lt (insW lt i o) := by
  unfold insW SortedW
  rw [List.pairwise_append]
  refine ⟨hs.sublist (List.take_sublist _ _), List.pairwise_cons.2 ⟨?_, hs.sublist (List.drop_sublist _ _)⟩, ?_⟩
  · intro b hb
    obtain ⟨j, hj, rfl⟩ := List.mem_iff_getElem.1 hb
    rw [List.getElem_drop]
    have hl : posW lt i o + j < o.length := by rw [List.length_drop] at hj; omega
    exact H.asym _ _ hi (ho _ (List.getElem_mem hl)) (posW_behind H hi ho hs (by omega) hl)
  · intro a ha b hb
    obtain ⟨j, hj, rfl⟩ := List.mem_iff_getElem.1 ha
    have hjp : j < posW lt i o := by rw [List.length_take] at hj; omega
    rw [List.getElem_take]
    rcases List.mem_cons.1 hb with rfl | hb
    · exact posW_before hjp
    · obtain ⟨q, hq, rfl⟩ := List.mem_iff_getElem.1 hb
      have hl : posW lt i o + q < o.length := by rw [List.length_drop] at hq; omega
      rw [List.getElem_drop]
      exact List.pairwise_iff_getElem.1 hs _ _ _ hl (by omega)
theorem sortW_perm (lt : Int → Int → Bool) : ∀ (l o : List Int), (sortW lt l o).Perm (l ++ o)
  | [], o => by unfold sortW; exact List.Perm.refl _
  | i :: t, o => by
    unfold sortW
    refine (sortW_perm lt t _).trans ?_
    refine ((List.Perm.append_left t (insW_perm lt i o))).trans ?_
    exact List.perm_middle
theorem sortW_sorted {lt : Int → Int → Bool} {D : Int → Prop} (H : OrdW lt D) : ∀ (l o : List Int), (∀ b ∈ l, D b) → (∀ b ∈ o, D b) → SortedW lt o → SortedW lt (sortW lt l o)
  | [], o, _, _, hs => by unfold sortW; exact hs
  | i :: t, o, hl, ho, hs => by
    unfold sortW
    refine sortW_sorted H t _ (fun b hb => hl b (by simp [hb])) ?_ (insW_sorted H (hl i (by simp)) ho hs)
    intro b hb
    rcases List.mem_cons.1 ((insW_perm lt i o).mem_iff.1 hb) with rfl | h
    · exact hl _ (by simp)
    · exact ho b h
/-- Two sorted forms of the same numbers, where no two tie. -/
theorem sortedW_unique {lt : Int → Int → Bool} {a b : List Int} (hd : ∀ x ∈ a, ∀ y ∈ b, lt x y = false → lt y x = false → x = y) (ha : SortedW lt a) (hb : SortedW lt b) (hp : a.Perm b) : a = b :=
  List.Perm.eq_of_pairwise (fun x y hx hy h1 h2 => hd x hx y hy h2 h1) ha hb hp
theorem sortW_append (lt : Int → Int → Bool) : ∀ (a b o : List Int), sortW lt (a ++ b) o = sortW lt b (sortW lt a o)
  | [], b, o => rfl
  | i :: t, b, o => by simp only [List.cons_append, sortW]; exact sortW_append lt t b _

theorem rdIIn (xs : List (List Int)) (i : Nat) (h : i < xs.length) : rd_L3 xs (i : Int) = xs[i] := by
  unfold rd_L3
  simp only [Int.toNat_natCast]
  rw [List.getD_eq_getElem?_getD, List.getElem?_eq_getElem h]
  rfl
/-- The groups of tied jobs: those that are closed, and the one at hand, by its first job and the others. -/
def grpS (l : List S59) (o : Int) (H : List (List Int)) (f : Int) (R : List Int) : List Int → List (List Int)
  | [] => H ++ [f :: R]
  | x :: t => if gapJ (rd_T59 l f) (rd_T59 l x) o = 0 then grpS l o H f (R ++ [x]) t else grpS l o (H ++ [f :: R]) x [] t
theorem tie_trans (a b c : S59) (o : Int) (ha : 1 ≤ a.f0) (hb : 1 ≤ b.f0) (h1 : gapJ a b o = 0) : gapJ b c o = 0 ↔ gapJ a c o = 0 := by
  unfold gapJ at *
  split at h1
  · rename_i h; simp only [if_pos h]; omega
  · rename_i h
    simp only [if_neg h]
    split at h1
    · rename_i h'; simp only [if_pos h']; omega
    · rename_i h'
      simp only [if_neg h']
      split at h1
      · rename_i h''
        simp only [if_pos h'']
        have e : a.f0 * b.f1 = b.f0 * a.f1 := by omega
        constructor
        · intro h2
          have e2 : b.f0 * c.f1 = c.f0 * b.f1 := by omega
          have e3 : b.f0 * (a.f0 * c.f1) = b.f0 * (c.f0 * a.f1) := by
            calc b.f0 * (a.f0 * c.f1) = a.f0 * (b.f0 * c.f1) := by rw [← Int.mul_assoc, Int.mul_comm b.f0 a.f0, Int.mul_assoc]
              _ = a.f0 * (c.f0 * b.f1) := by rw [e2]
              _ = c.f0 * (a.f0 * b.f1) := by rw [← Int.mul_assoc, Int.mul_comm a.f0 c.f0, Int.mul_assoc]
              _ = c.f0 * (b.f0 * a.f1) := by rw [e]
              _ = b.f0 * (c.f0 * a.f1) := by rw [← Int.mul_assoc, Int.mul_comm c.f0 b.f0, Int.mul_assoc]
          have := Int.eq_of_mul_eq_mul_left (by omega) e3
          omega
        · intro h2
          have e2 : a.f0 * c.f1 = c.f0 * a.f1 := by omega
          have e3 : a.f0 * (b.f0 * c.f1) = a.f0 * (c.f0 * b.f1) := by
            calc a.f0 * (b.f0 * c.f1) = b.f0 * (a.f0 * c.f1) := by rw [← Int.mul_assoc, Int.mul_comm a.f0 b.f0, Int.mul_assoc]
              _ = b.f0 * (c.f0 * a.f1) := by rw [e2]
              _ = c.f0 * (b.f0 * a.f1) := by rw [← Int.mul_assoc, Int.mul_comm b.f0 c.f0, Int.mul_assoc]
              _ = c.f0 * (a.f0 * b.f1) := by rw [e]
              _ = a.f0 * (c.f0 * b.f1) := by rw [← Int.mul_assoc, Int.mul_comm c.f0 a.f0, Int.mul_assoc]
          have := Int.eq_of_mul_eq_mul_left (by omega) e3
          omega
      · rename_i h''; simp only [if_neg h'']; omega
theorem grpS_len (l : List S59) (o : Int) : ∀ (M : List Int) (H : List (List Int)) (f : Int) (R : List Int), (grpS l o H f R M).length ≤ H.length + 1 + M.length
  | [], H, f, R => by simp [grpS]
  | x :: t, H, f, R => by
    unfold grpS
    split
    · have := grpS_len l o t H f (R ++ [x]); simp only [List.length_cons]; omega
    · have := grpS_len l o t (H ++ [f :: R]) x []
      have e : (H ++ [f :: R]).length = H.length + 1 := by simp
      rw [e] at this
      simp only [List.length_cons]
      omega
theorem grpS_row (l : List S59) (o : Int) (B : Nat) : ∀ (M : List Int) (H : List (List Int)) (f : Int) (R : List Int), (∀ r ∈ H, r ≠ [] ∧ r.length ≤ B) → R.length + 1 + M.length ≤ B → ∀ r ∈ grpS l o H f R M, r ≠ [] ∧ r.length ≤ B
  | [], H, f, R, hH, hB, r, hr => by
    unfold grpS at hr
    rcases List.mem_append.1 hr with h | h
    · exact hH r h
    · rw [List.mem_singleton.1 h]; simp only [List.length_nil] at hB; exact ⟨by simp, by simp; omega⟩
  | x :: t, H, f, R, hH, hB, r, hr => by
    unfold grpS at hr
    simp only [List.length_cons] at hB
    split at hr
    · exact grpS_row l o B t H f (R ++ [x]) hH (by simp; omega) r hr
    · refine grpS_row l o B t (H ++ [f :: R]) x [] (fun q hq => ?_) (by simp; omega) r hr
      rcases List.mem_append.1 hq with h | h
      · exact hH q h
      · rw [List.mem_singleton.1 h]; exact ⟨by simp, by simp; omega⟩
theorem last_set (H : List (List Int)) (L L' : List Int) (n : Nat) (h : n = H.length) : (H ++ [L]).set n L' = H ++ [L'] := by
  subst h
  rw [List.set_append_right _ _ (Nat.le_refl _), Nat.sub_self, List.set_cons_zero]
theorem last_rd (H : List (List Int)) (L : List Int) : rd_L3 (H ++ [L]) (H.length : Int) = L := by
  rw [rdIIn _ _ (by simp)]
  simp

def idsW (n : Nat) : List Int := (List.range n).map (fun (i : Nat) => (i : Int))
theorem idsW_len (n : Nat) : (idsW n).length = n := by simp [idsW]
theorem idsW_mem {n : Nat} {b : Int} (h : b ∈ idsW n) : 0 ≤ b ∧ b < (n : Int) := by
  unfold idsW at h
  obtain ⟨i, hi, rfl⟩ := List.mem_map.1 h
  have := List.mem_range.1 hi
  omega
theorem idsW_succ (n : Nat) : idsW (n + 1) = idsW n ++ [(n : Int)] := by simp [idsW, List.range_succ]

theorem numbersTo_l0 (n : Nat) (hn : n ≤ 1048576) : ∀ (d i : Nat), i + d = n → Ev (fun k => impl_numbersTo.l0 k (n : Int) (idsW i) (i : Int)) (idsW n) := by
  intro d
  induction d with
  | zero =>
    intro i hi
    refine ev_succ ?_
    simp only [impl_numbersTo.l0, if_neg (show ¬ ((i : Int) < n) by omega)]
    rw [show i = n by omega]
    exact ev_now _
  | succ d ih =>
    intro i hi
    refine ev_succ ?_
    simp only [impl_numbersTo.l0, if_pos (show (i : Int) < n by omega), if_pos (show (idsW i).length < 17592186044416 by rw [idsW_len]; omega), w64 (x := (i : Int) + 1) (by omega) (by omega)]
    have := ih (i + 1) (by omega)
    rw [idsW_succ] at this
    exact this
theorem numbersTo_ev (n : Nat) (hn : n ≤ 1048576) : Ev (fun k => impl_numbersTo.f k (n : Int)) (idsW n) := numbersTo_l0 n hn n 0 (by omega)

theorem sbK_pos {p : Int → Option Bool} {f : Int → Bool} {o : List Int} {t : Nat} (hp : ∀ b ∈ o, p b = some (f b)) (ht : t ≤ o.length) (h1 : ∀ j (hj : j < o.length), t ≤ j → f o[j] = true) (h2 : ∀ j (hj : j < o.length), j < t → f o[j] = false) :
    ∀ n, n ≤ o.length → t ≤ n → sbK p o n = some t
  | 0, _, h => by
    have : t = 0 := by omega
    subst this
    rfl
  | n + 1, hn, h => by
    unfold sbK
    rw [rdW o n (by omega), hp _ (List.getElem_mem (by omega)), Option.bind_some]
    rcases Nat.lt_or_ge n t with hlt | hge
    · rw [h2 n (by omega) hlt, if_neg (by simp)]
      congr 1; omega
    · rw [h1 n (by omega) hge, if_pos rfl]
      exact sbK_pos hp ht h1 h2 n (by omega) hge
theorem sbL_eq {p : Int → Int → Option Bool} {lt : Int → Int → Bool} {D : Int → Prop} (H : OrdW lt D) (hp : ∀ a b, D a → D b → p a b = some (lt a b)) : ∀ (l o : List Int), (∀ b ∈ l, D b) → (∀ b ∈ o, D b) → SortedW lt o → sbL p l o = some (sortW lt l o)
  | [], o, _, _, _ => rfl
  | i :: t, o, hl, ho, hs => by
    have hi : D i := hl i (by simp)
    unfold sbL sortW
    rw [sbK_pos (f := fun b => lt i b) (t := posW lt i o) (fun b hb => hp i b hi (ho b hb)) (posW_le _ _ _) (fun j hj h => posW_behind H hi ho hs h hj) (fun j hj h => posW_before h) _ (Nat.le_refl _) (posW_le _ _ _), Option.bind_some]
    refine sbL_eq H hp t _ (fun b hb => hl b (by simp [hb])) ?_ (insW_sorted H hi ho hs)
    intro b hb
    rcases List.mem_cons.1 ((insW_perm lt i o).mem_iff.1 hb) with rfl | h
    · exact hi
    · exact ho b h

def ltR (l : List S59) (o : Int) (a b : Int) : Bool := decide (gapJ (rd_T59 l a) (rd_T59 l b) o < 0)
theorem gapJ_neg (a b : S59) (o : Int) : gapJ b a o = - gapJ a b o := by
  unfold gapJ
  split
  · omega
  · split
    · omega
    · split <;> omega
theorem gap_co (i a b : S59) (o : Int) (hi : 1 ≤ i.f0) (ha : 1 ≤ a.f0) (hb : 1 ≤ b.f0) (h1 : gapJ i a o < 0) (h2 : ¬ gapJ b a o < 0) : gapJ i b o < 0 := by
  unfold gapJ at *
  split at h1
  · rename_i h; simp only [if_pos h] at *; omega
  · rename_i h
    simp only [if_neg h] at *
    split at h1
    · rename_i h'; simp only [if_pos h'] at *; omega
    · rename_i h'
      simp only [if_neg h'] at *
      split at h1
      · rename_i h''
        simp only [if_pos h''] at *
        have e1 : i.f0 * a.f1 < a.f0 * i.f1 := by omega
        have e2 : a.f0 * b.f1 ≤ b.f0 * a.f1 := by omega
        have e3 : b.f0 * (i.f0 * a.f1) < b.f0 * (a.f0 * i.f1) := Int.mul_lt_mul_of_pos_left e1 (by omega)
        have e4 : i.f0 * (a.f0 * b.f1) ≤ i.f0 * (b.f0 * a.f1) := Int.mul_le_mul_of_nonneg_left e2 (by omega)
        have e5 : a.f0 * (i.f0 * b.f1) < a.f0 * (b.f0 * i.f1) := by
          have q1 : a.f0 * (i.f0 * b.f1) = i.f0 * (a.f0 * b.f1) := by rw [← Int.mul_assoc, Int.mul_comm a.f0 i.f0, Int.mul_assoc]
          have q2 : a.f0 * (b.f0 * i.f1) = b.f0 * (a.f0 * i.f1) := by rw [← Int.mul_assoc, Int.mul_comm a.f0 b.f0, Int.mul_assoc]
          have q3 : i.f0 * (b.f0 * a.f1) = b.f0 * (i.f0 * a.f1) := by rw [← Int.mul_assoc, Int.mul_comm i.f0 b.f0, Int.mul_assoc]
          omega
        have := Int.lt_of_mul_lt_mul_left e5 (by omega)
        omega
      · rename_i h''
        simp only [if_neg h''] at *
        omega
theorem ordR (l : List S59) (hg : goodB l = true) (o : Int) : OrdW (ltR l o) (inJ l.length) := by
  constructor
  · intro a b ha hb h
    unfold ltR at *
    have h := of_decide_eq_true h
    rw [gapJ_neg]
    exact decide_eq_false (by omega)
  · intro i a b hi ha hb h1 h2
    unfold ltR at *
    have h1 := of_decide_eq_true h1
    have h2 := of_decide_eq_false h2
    refine decide_eq_true (gap_co _ _ _ o ?_ ?_ ?_ h1 h2)
    · rw [rd_nat l hi]; exact (good_at hg _ _).1
    · rw [rd_nat l ha]; exact (good_at hg _ _).1
    · rw [rd_nat l hb]; exact (good_at hg _ _).1
/-- The ruled order. -/
def ruledL (l : List S59) (o : Int) : List Int := sortW (ltR l o) (idsW l.length) []
theorem ruledL_perm (l : List S59) (o : Int) : (ruledL l o).Perm (idsW l.length) := by
  have := sortW_perm (ltR l o) (idsW l.length) []
  rw [List.append_nil] at this
  exact this
theorem ruledL_len (l : List S59) (o : Int) : (ruledL l o).length = l.length := by rw [(ruledL_perm l o).length_eq, idsW_len]
theorem ruledL_mem {l : List S59} {o b : Int} (h : b ∈ ruledL l o) : inJ l.length b := idsW_mem ((ruledL_perm l o).mem_iff.1 h)
theorem ruledL_sorted (l : List S59) (hg : goodB l = true) (o : Int) : SortedW (ltR l o) (ruledL l o) :=
  sortW_sorted (ordR l hg o) _ _ (fun b hb => idsW_mem hb) (by simp) List.Pairwise.nil
theorem closureR (l : List S59) (hg : goodB l = true) (o a b : Int) (ha : inJ l.length a) (hb : inJ l.length b) : impl_ruledOrder_1.f a b l o = some (ltR l o a b) := by
  unfold impl_ruledOrder_1.f
  rw [if_pos ha.1, if_pos ha.2, if_pos hb.1, if_pos hb.2, difference_eq (rd_T59 l a) (rd_T59 l b) o (by rw [rd_nat l ha]; exact good_at hg _ _) (by rw [rd_nat l hb]; exact good_at hg _ _), Option.bind_some]
  rfl
theorem ruledOrder_ev (l : List S59) (hg : goodB l = true) (o : Int) : Ev (fun k => impl_ruledOrder.f k l o) (ruledL l o) := by
  have hl := good_len hg
  unfold impl_ruledOrder.f
  refine ev_bind (numbersTo_ev l.length (by omega)) ?_
  simp only [impl_sortedBy_144.f, if_pos (show (idsW l.length).length < 17592186044416 by rw [idsW_len]; omega)]
  rw [sbL_eq (ordR l hg o) (fun a b ha hb => closureR l hg o a b ha hb) _ _ (fun b hb => idsW_mem hb) (by simp) List.Pairwise.nil]
  exact ev_now _

theorem l1Own_eq (l : List Int) (h : l.length < 17592186044416) : spec_l1Own.f l = some l := by
  unfold spec_l1Own.f
  simp only [Option.bind_some, List.length_nil, Nat.zero_add, if_pos h, List.nil_append]
theorem gap_rd (l : List S59) (hg : goodB l = true) (o : Int) {a b : Int} (ha : inJ l.length a) (hb : inJ l.length b) : spec_l3Gap.f l o a b = some (gapJ (rd_T59 l a) (rd_T59 l b) o) := by
  obtain ⟨i, hi, rfl⟩ := inJ_nat ha
  obtain ⟨j, hj, rfl⟩ := inJ_nat hb
  rw [gap_eq l hg o i j hi hj, rdI l i hi, rdI l j hj]
theorem l3Order_l1 (l : List S59) (hg : goodB l = true) (o : Int) (out : List Int) (i : Int) (hi : inJ l.length i) (ho : ∀ b ∈ out, inJ l.length b) (hlen : out.length ≤ 8) (r : List Int)
    (hnext : Ev (fun k => spec_l3Order.l0 k l o (insW (ltR l o) i out) (wrap64 (i + 1))) r) : ∀ (d k : Nat), k + d = posW (ltR l o) i out → Ev (fun K => spec_l3Order.l1 K l o out i (k : Int)) r := by
  have fin : ∀ k : Nat, k = posW (ltR l o) i out → ((out.take ((k : Nat) : Int).toNat ++ [i]) ++ out.drop ((k : Nat) : Int).toNat) = insW (ltR l o) i out := by
    intro k hk
    subst hk
    simp [insW]
  have hp := posW_le (ltR l o) i out
  intro d
  induction d with
  | zero =>
    intro k hk
    have hk' : k = posW (ltR l o) i out := by omega
    refine ev_succ ?_
    have c1 : ((out.take ((k : Nat) : Int).toNat).length + [i].length < 17592186044416) := by simp only [List.length_take, List.length_singleton]; omega
    have c2 : (((out.take ((k : Nat) : Int).toNat) ++ [i]).length + (out.drop ((k : Nat) : Int).toNat).length < 17592186044416) := by simp only [List.length_append, List.length_take, List.length_drop, List.length_singleton]; omega
    have tail : Ev (fun K => (spec_l1Own.f (out.take ((k : Nat) : Int).toNat)).bind fun t => ((some (([i] : List Int) : List Int)).bind fun y => (if t.length + y.length < 17592186044416 then ((some (t ++ y : List Int)).bind fun y2 => ((some (out.drop ((k : Nat) : Int).toNat : List Int)).bind fun y3 => (if y2.length + y3.length < 17592186044416 then (spec_l3Order.l0 K l o (y2 ++ y3) (wrap64 (i + 1))) else (none)))) else (none)))) r := by
      simp only [l1Own_eq (out.take ((k : Nat) : Int).toNat) (by rw [List.length_take]; omega), Option.bind_some, if_pos c1, if_pos c2, fin k hk']
      exact hnext
    by_cases hkl : k < out.length
    · have hlt : ltR l o i (out[k]'hkl) = true := by
        subst hk'
        exact posW_at hkl
      have hm : inJ l.length out[k] := ho _ (List.getElem_mem hkl)
      simp only [spec_l3Order.l1, if_pos (show ((k : Nat) : Int) < (out.length : Int) by omega), if_pos (show (0 : Int) ≤ ((k : Nat) : Int) by omega), rdW out k hkl, gap_rd l hg o hm hi, Option.bind_some]
      have hgap : ¬ (gapJ (rd_T59 l out[k]) (rd_T59 l i) o ≤ 0) := by
        have h := of_decide_eq_true hlt
        rw [gapJ_neg]; omega
      simp only [if_neg hgap, if_pos (show ((k : Nat) : Int) ≤ (out.length : Int) by omega)]
      exact tail
    · simp only [spec_l3Order.l1, if_neg (show ¬ ((k : Nat) : Int) < (out.length : Int) by omega), if_pos (show (0 : Int) ≤ ((k : Nat) : Int) by omega), if_pos (show ((k : Nat) : Int) ≤ (out.length : Int) by omega)]
      exact tail
  | succ d ih =>
    intro k hk
    refine ev_succ ?_
    have hkl : k < out.length := by omega
    have hm : inJ l.length out[k] := ho _ (List.getElem_mem hkl)
    have hlt : ltR l o i out[k] = false := posW_before (by omega)
    have hgap : gapJ (rd_T59 l out[k]) (rd_T59 l i) o ≤ 0 := by
      have h := of_decide_eq_false hlt
      rw [gapJ_neg]; omega
    simp only [spec_l3Order.l1, if_pos (show ((k : Nat) : Int) < (out.length : Int) by omega), if_pos (show (0 : Int) ≤ ((k : Nat) : Int) by omega), rdW out k hkl, gap_rd l hg o hm hi, Option.bind_some, if_pos hgap, w64 (x := ((k : Nat) : Int) + 1) (by omega) (by omega)]
    exact ih (k + 1) (by omega)
theorem l3Order_ev (l : List S59) (hg : goodB l = true) (o : Int) : Ev (fun k => spec_l3Order.f k l o) (ruledL l o) := by
  have hl := good_len hg
  have main : ∀ (d i : Nat), i + d = l.length → Ev (fun k => spec_l3Order.l0 k l o (sortW (ltR l o) (idsW i) []) (i : Int)) (ruledL l o) := by
    intro d
    induction d with
    | zero =>
      intro i hi
      refine ev_succ ?_
      simp only [spec_l3Order.l0, if_neg (show ¬ ((i : Int) < (l.length : Int)) by omega)]
      unfold ruledL
      rw [show i = l.length by omega]
      exact ev_now _
    | succ d ih =>
      intro i hi
      refine ev_succ ?_
      simp only [spec_l3Order.l0, if_pos (show (i : Int) < (l.length : Int) by omega)]
      have hp := sortW_perm (ltR l o) (idsW i) []
      rw [List.append_nil] at hp
      refine l3Order_l1 l hg o _ (i : Int) ⟨by omega, by omega⟩ (fun b hb => ?_) (by rw [hp.length_eq, idsW_len]; omega) _ ?_ (posW (ltR l o) i (sortW (ltR l o) (idsW i) [])) 0 (by omega)
      · have := idsW_mem (hp.mem_iff.1 hb)
        exact ⟨this.1, by omega⟩
      · have := ih (i + 1) (by omega)
        rw [idsW_succ, sortW_append] at this
        rw [w64 (x := (i : Int) + 1) (by omega) (by omega)]
        exact this
  exact main l.length 0 (by omega)

theorem l3Groups_l0 (l : List S59) (hg : goodB l = true) (o : Int) (M : List Int) (hM : ∀ b ∈ M, inJ l.length b) (hn : M.length ≤ 8) : ∀ (d i : Nat) (H : List (List Int)) (f : Int) (R : List Int), i + d = M.length → inJ l.length f → H.length + 1 ≤ i → R.length + 1 ≤ i →
    Ev (fun k => spec_l3Groups.l0 k l o (H ++ [f :: R]) M (i : Int)) (grpS l o H f R (M.drop i)) := by
  intro d
  induction d with
  | zero =>
    intro i H f R hi _ _ _
    refine ev_succ ?_
    simp only [spec_l3Groups.l0, if_neg (show ¬ ((i : Int) < (M.length : Int)) by omega)]
    rw [List.drop_eq_nil_of_le (by omega)]
    exact ev_now _
  | succ d ih =>
    intro i H f R hi hf hH hR
    refine ev_succ ?_
    have hil : i < M.length := by omega
    have hm := hM _ (List.getElem_mem hil)
    have hlen : (H ++ [f :: R]).length = H.length + 1 := by simp
    have hw : wrap64 (((H ++ [f :: R]).length : Int) - 1) = (H.length : Int) := by rw [hlen, w64 (by omega) (by omega)]; omega
    have h0 : rd (f :: R) 0 = f := rfl
    rw [List.drop_eq_getElem_cons hil, grpS]
    simp only [spec_l3Groups.l0, if_pos (show (i : Int) < (M.length : Int) by omega), hw, if_pos (show ((H.length : Nat) : Int) ≥ 0 by omega), if_pos (show (0 : Int) ≤ ((H.length : Nat) : Int) by omega), if_pos (show ((H.length : Nat) : Int) < ((H ++ [f :: R]).length : Int) by rw [hlen]; omega), last_rd, if_pos (show (0 : Int) < ((f :: R).length : Int) by simp only [List.length_cons]; omega), if_pos (show (0 : Int) ≤ (i : Int) by omega), h0, rdW M i hil, gap_rd l hg o hf hm, Option.bind_some, w64 (x := (i : Int) + 1) (by omega) (by omega), Int.toNat_natCast, last_set H (f :: R) (f :: R ++ [M[i]]) H.length rfl]
    by_cases hc : gapJ (rd_T59 l f) (rd_T59 l M[i]) o = 0
    · simp only [if_pos hc, if_pos (show (f :: R).length < 17592186044416 by simp only [List.length_cons]; omega)]
      exact ih (i + 1) H f (R ++ [M[i]]) (by omega) hf (by omega) (by simp; omega)
    · simp only [if_neg hc, if_pos (show (H ++ [f :: R]).length < 5864062014805 by rw [hlen]; omega)]
      exact ih (i + 1) (H ++ [f :: R]) M[i] [] (by omega) hm (by rw [hlen]; omega) (by simp)
def groupsL (l : List S59) (o : Int) : List Int → List (List Int)
  | [] => []
  | x :: t => grpS l o [] x [] t
theorem l3Groups_ev (l : List S59) (hg : goodB l = true) (o : Int) : Ev (fun k => spec_l3Groups.f k l o) (groupsL l o (ruledL l o)) := by
  have hl := good_len hg
  have hlen := ruledL_len l o
  unfold spec_l3Groups.f
  refine ev_bind (l3Order_ev l hg o) ?_
  have hmem : ∀ b ∈ ruledL l o, inJ l.length b := fun b hb => ruledL_mem hb
  generalize ruledL l o = M at *
  cases M with
  | nil =>
    refine ev_succ ?_
    simp only [spec_l3Groups.l0, List.length_nil, if_neg (show ¬ ((0 : Int) < ((0 : Nat) : Int)) by omega), groupsL]
    exact ev_now _
  | cons x t =>
    refine ev_succ ?_
    have hw : wrap64 ((([] : List (List Int)).length : Int) - 1) = -1 := by rw [w64 (by simp) (by simp)]; simp
    have := l3Groups_l0 l hg o (x :: t) hmem (by omega) t.length 1 [] x [] (by simp; omega) (hmem x (by simp)) (by simp) (by simp)
    have h0 : rd (x :: t) 0 = x := rfl
    simp only [spec_l3Groups.l0, if_pos (show (0 : Int) < ((x :: t).length : Int) by simp only [List.length_cons]; omega), hw, if_neg (show ¬ ((-1 : Int) ≥ 0) by omega), if_pos (show (0 : Int) ≤ 0 by omega), if_pos (show ([] : List (List Int)).length < 5864062014805 by simp), h0, w64 (x := (0 : Int) + 1) (by omega) (by omega), groupsL]
    exact this

theorem tieGroups_l0 (l : List S59) (hg : goodB l = true) (o : Int) (M : List Int) (hM : ∀ b ∈ M, inJ l.length b) (hn : M.length ≤ 8) : ∀ (d i : Nat) (H : List (List Int)) (f : Int) (R : List Int), i + 1 + d = M.length → inJ l.length f → H.length ≤ i → R.length ≤ i → (gapJ (rd_T59 l f) (rd_T59 l (rd M (i : Int))) o = 0) →
    Ev (fun k => impl_tieGroups.l0 k l o (H ++ [f :: R]) M M (M.length : Int) ((i + 1 : Nat) : Int)) (grpS l o H f R (M.drop (i + 1))) := by
  intro d
  induction d with
  | zero =>
    intro i H f R hi _ _ _ _
    refine ev_succ ?_
    simp only [impl_tieGroups.l0, if_neg (show ¬ (((i + 1 : Nat) : Int) < (M.length : Int)) by omega)]
    rw [List.drop_eq_nil_of_le (by omega)]
    exact ev_now _
  | succ d ih =>
    intro i H f R hi hf hH hR htie
    refine ev_succ ?_
    have hil : i + 1 < M.length := by omega
    have hm := hM _ (List.getElem_mem hil)
    have hmp := hM _ (List.getElem_mem (show i < M.length by omega))
    have hlen : (H ++ [f :: R]).length = H.length + 1 := by simp
    have hw : wrap64 (((H ++ [f :: R]).length : Int) - 1) = (H.length : Int) := by rw [hlen, w64 (by omega) (by omega)]; omega
    have hw2 : wrap64 (((H ++ [f :: R] ++ [[]]).length : Int) - 1) = ((H ++ [f :: R]).length : Int) := by
      have e3 : (H ++ [f :: R] ++ [[]]).length = (H ++ [f :: R]).length + 1 := by simp
      rw [e3, hlen, w64 (by omega) (by omega)]; omega
    have hrz : rd M ((i + 1 : Nat) : Int) = M[i + 1] := rdW M (i + 1) hil
    generalize hz : ((i + 1 : Nat) : Int) = z at hrz ⊢
    have hz0 : (0 : Int) ≤ z := by omega
    have hz1 : z < (M.length : Int) := by omega
    have hz2 : ¬ (z = 0) := by omega
    have hp1 : wrap64 (z - 1) = (i : Int) := by rw [w64 (by omega) (by omega)]; omega
    have hns : wrap64 (z + 1) = ((i + 1 + 1 : Nat) : Int) := by rw [w64 (by omega) (by omega)]; omega
    rw [rdW M i (by omega)] at htie
    have g1 : 1 ≤ (rd_T59 l f).f0 := by rw [rd_nat l hf]; exact (good_at hg _ _).1
    have g2 : 1 ≤ (rd_T59 l M[i]).f0 := by rw [rd_nat l hmp]; exact (good_at hg _ _).1
    have ht := tie_trans (rd_T59 l f) (rd_T59 l M[i]) (rd_T59 l M[i + 1]) o g1 g2 htie
    rw [List.drop_eq_getElem_cons hil, grpS]
    simp only [impl_tieGroups.l0, if_pos hz1, if_pos hz0, if_neg hz2, hp1, if_pos (show (0 : Int) ≤ (i : Int) by omega), if_pos (show (i : Int) < (M.length : Int) by omega), rdW M i (by omega), hrz, if_pos hmp.1, if_pos hmp.2, if_pos hm.1, if_pos hm.2,
      difference_eq (rd_T59 l M[i]) (rd_T59 l M[i + 1]) o (by rw [rd_nat l hmp]; exact good_at hg _ _) (by rw [rd_nat l hm]; exact good_at hg _ _), Option.bind_some, hns]
    by_cases hc : gapJ (rd_T59 l M[i]) (rd_T59 l M[i + 1]) o = 0
    · rw [if_pos (ht.1 hc)]
      simp only [if_pos hc, hw, if_pos (show (0 : Int) ≤ ((H.length : Nat) : Int) by omega), if_pos (show ((H.length : Nat) : Int) < ((H ++ [f :: R]).length : Int) by rw [hlen]; omega), last_rd, if_pos (show (f :: R).length < 17592186044416 by simp only [List.length_cons]; omega), Int.toNat_natCast, last_set H (f :: R) (f :: R ++ [M[i + 1]]) H.length rfl]
      exact ih (i + 1) H f (R ++ [M[i + 1]]) (by omega) hf (by omega) (by simp; omega) (by rw [rdW M (i + 1) hil]; exact ht.1 hc)
    · rw [if_neg (fun h => hc (ht.2 h))]
      simp only [if_neg hc, if_pos (show (H ++ [f :: R]).length < 5864062014805 by rw [hlen]; omega), hw2, if_pos (show (0 : Int) ≤ (((H ++ [f :: R]).length : Nat) : Int) by omega), if_pos (show (((H ++ [f :: R]).length : Nat) : Int) < ((H ++ [f :: R] ++ [[]]).length : Int) by simp), last_rd (H ++ [f :: R]) [], if_pos (show ([] : List Int).length < 17592186044416 by simp), Int.toNat_natCast, List.nil_append, last_set (H ++ [f :: R]) [] [M[i + 1]] (H ++ [f :: R]).length rfl]
      have hself : gapJ (rd_T59 l M[i + 1]) (rd_T59 l (rd M ((i + 1 : Nat) : Int))) o = 0 := by
        rw [rdW M (i + 1) hil]
        have := gapJ_neg (rd_T59 l M[i + 1]) (rd_T59 l M[i + 1]) o
        omega
      exact ih (i + 1) (H ++ [f :: R]) M[i + 1] [] (by omega) hm (by rw [hlen]; omega) (by simp) hself
theorem tieGroups_ev (l : List S59) (hg : goodB l = true) (o : Int) : Ev (fun k => impl_tieGroups.f k l o) (groupsL l o (ruledL l o)) := by
  have hl := good_len hg
  have hlen := ruledL_len l o
  unfold impl_tieGroups.f
  refine ev_bind (ruledOrder_ev l hg o) ?_
  have hmem : ∀ b ∈ ruledL l o, inJ l.length b := fun b hb => ruledL_mem hb
  generalize ruledL l o = M at *
  cases M with
  | nil =>
    refine ev_succ ?_
    simp only [impl_tieGroups.l0, List.length_nil, if_neg (show ¬ ((0 : Int) < ((0 : Nat) : Int)) by omega), groupsL]
    exact ev_now _
  | cons x t =>
    refine ev_succ ?_
    have hw : wrap64 ((([] ++ [[]] : List (List Int)).length : Int) - 1) = 0 := by rw [w64 (by simp) (by simp)]; simp
    have h0 : rd (x :: t) 0 = x := rfl
    have hself : gapJ (rd_T59 l x) (rd_T59 l (rd (x :: t) ((0 : Nat) : Int))) o = 0 := by
      show gapJ (rd_T59 l x) (rd_T59 l (rd (x :: t) 0)) o = 0
      rw [h0]
      have := gapJ_neg (rd_T59 l x) (rd_T59 l x) o
      omega
    have := tieGroups_l0 l hg o (x :: t) hmem (by omega) t.length 0 [] x [] (by simp; omega) (hmem x (by simp)) (by simp) (by simp) hself
    have hr0 : rd_L3 ([] ++ [[]] : List (List Int)) 0 = [] := rfl
    simp only [impl_tieGroups.l0, if_pos (show (0 : Int) < ((x :: t).length : Int) by simp only [List.length_cons]; omega), if_pos (show (0 : Int) ≤ 0 by omega), if_true, if_pos (show ([] : List (List Int)).length < 5864062014805 by simp), Option.bind_some, hw, if_pos (show (0 : Int) < (([] ++ [[]] : List (List Int)).length : Int) by simp), hr0, if_pos (show ([] : List Int).length < 17592186044416 by simp), h0, w64 (x := (0 : Int) + 1) (by omega) (by omega), groupsL]
    exact this

theorem groups_len (l : List S59) (o : Int) (hl : l.length ≤ 8) : (groupsL l o (ruledL l o)).length ≤ 100 ∧ ∀ r ∈ groupsL l o (ruledL l o), r ≠ [] ∧ r.length ≤ 100 := by
  have hlen := ruledL_len l o
  generalize ruledL l o = M at *
  cases M with
  | nil => simp [groupsL]
  | cons x t =>
    rw [show groupsL l o (x :: t) = grpS l o [] x [] t from rfl]
    simp only [List.length_cons] at hlen
    have := grpS_len l o t [] x []
    have e0 : ([] : List (List Int)).length = 0 := rfl
    rw [e0] at this
    refine ⟨by omega, grpS_row l o 100 t [] x [] (by simp) (by simp; omega)⟩
theorem core (l : List S59) (o : Int) (hm : l.length ≤ 1048576) (_ : ∀ (i : Nat) (hi : i < l.length), I64 l[i].f0 ∧ I64 l[i].f1 ∧ I64 l[i].f2 ∧ I64 l[i].f3) (_ : I64 o) :
    ∃ (r : List (List Int)) (ok : Bool), (r.length ≤ 1048576 ∧ ∀ x ∈ r, x.length ≤ 1048576) ∧ Ev (fun k => spec_TieGroups.f k l o) (r, ok) ∧ Ev (fun k => impl_TieGroups.f k l o) (r, ok) := by
  have h1 := l3Ruled_ev l o hm
  have h2 := isRuled_ev l o hm
  unfold spec_TieGroups.f impl_TieGroups.f
  cases hp : ruledB l o
  · rw [hp] at h1 h2
    exact ⟨[], false, by simp, ev_bind h1 (by simp only [Bool.false_eq_true, if_false]; exact ev_now _), ev_bind h2 (by simp only [Bool.false_eq_true, if_false]; exact ev_now _)⟩
  rw [hp] at h1 h2
  have hg := ruled_good hp
  have hG := groups_len l o (good_len hg)
  exact ⟨groupsL l o (ruledL l o), true, ⟨by omega, fun x hx => by have := (hG.2 x hx).2; omega⟩, ev_bind h1 (by simp only [if_true]; exact ev_bind (l3Groups_ev l hg o) (ev_now _)), ev_bind h2 (by simp only [if_true]; exact ev_bind (tieGroups_ev l hg o) (ev_now _))⟩

theorem FnExactTieGroups : FnExactTieGroups.Claim := by
  intro l0 a1 hl0 hg0 hi1
  refine Ev.rounds ?_
  unfold laws_FnExactTieGroups.f
  simp only [szJobS_eq l0 (1048576 : Int) (by omega) (by omega) hl0, Option.bind_some]
  by_cases h0 : (1048576 : Int) < l0.length
  · simp only [if_pos h0, if_pos (show (-1 : Int) < 0 by omega)]
    exact ev_now _
  simp only [if_neg h0, if_neg (show ¬ (((1048576 : Int) - l0.length) < 0) by omega)]
  have hm0 : (l0.map conv).length ≤ 1048576 := by simp; omega
  obtain ⟨r0, r1, hr0, hs, hi⟩ := core (l0.map conv) a1 hm0 (conv_I64 l0 hg0) hi1
  obtain ⟨qa0, ya0, _, hb0, ma0⟩ := markJobS_from1 (l0.map conv) hm0
  obtain ⟨q0, y0, m0, e0⟩ := markIntSS_ev r0 hr0.1 hr0.2
  refine ev_bind (toJobS_ev l0 (by omega)) (ev_bind hs (ev_bind hi (ev_bind (eqIntSS_ev r0 hr0.1 hr0.2) (ev_bind (eqJobS_ev (l0.map conv) (by omega)) (ev_bind ma0 (ev_bind m0 (ev_bind e0 ?_)))))))
  simp only [if_pos (show (true = true ∧ r1 = r1 ∧ true = true ∧ ¬ ((qa0 : Int) < 0) ∧ ¬ ((q0 : Int) < 0) ∧ (q0 : Int) = (q0 : Int)) from ⟨rfl, rfl, rfl, by omega, by omega, rfl⟩)]
  exact ev_now _

end Go.Proofs.Ythhmembnhnghiaa.Pure
