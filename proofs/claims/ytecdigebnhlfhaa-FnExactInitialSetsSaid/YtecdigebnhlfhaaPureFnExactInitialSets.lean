/- The program's function and the reference's come to the same answer: the statement of numbers and lists behind the law FnExactInitialSets. Conditions: none. -/
import Derived.Test.YtecdigebnhlfhaaArgFnExactInitialSets
import Derived.Test.YtecdigebnhlfhaaBase
namespace Go.Proofs.Ytecdigebnhlfhaa.Pure
open Go.RowKit Go.Proofs.Ytecdigebnhlfhaa.OFnExactInitialSets Go.Proofs.Ytecdigebnhlfhaa.Base Go.Proofs.YtecdigebnhlfhaaW.PrintWords Go.Proofs.YtecdigebnhlfhaaW.PrintLast Go.Proofs.YtecdigebnhlfhaaW.PrintMore Go.Proofs.Ytecdigebnhlfhaa.Open
set_option linter.unusedVariables false
set_option linter.unusedSimpArgs false

mutual
def laws_heldIntA2S.l0 : Nat → List (S71) → Int → Int → Option (Int)
  | 0, _, _, _ => none
  | k + 1, x0, x1, x5 => if x5 < (x0.length : Int) then (laws_heldIntA2S.l1 k x0 x1 x5 0) else (some x1)
def laws_heldIntA2S.l1 : Nat → List (S71) → Int → Int → Int → Option (Int)
  | 0, _, _, _, _ => none
  | k + 1, x0, x1, x5, x6 => if x6 < 2 then (if 0 ≤ x5 then (if x5 < (x0.length : Int) then (if x6 = 0 then (if ((rd_T71 x0 x5).f0) = x1 then (laws_heldIntA2S.l1 k x0 (wrap64 (x1 + 1)) x5 (wrap64 (x6 + 1))) else (some (-1))) else (if x6 = 1 then (if ((rd_T71 x0 x5).f1) = x1 then (laws_heldIntA2S.l1 k x0 (wrap64 (x1 + 1)) x5 (wrap64 (x6 + 1))) else (some (-1))) else (none))) else (none)) else (none)) else (laws_heldIntA2S.l0 k x0 x1 (wrap64 (x5 + 1)))
end
def laws_heldIntA2S.f (k : Nat) (l0 : List (S71)) (a1 : Int) : Option (Int) := laws_heldIntA2S.l0 k l0 a1 0

theorem szIntA2S_eq (xs : List S71) (left : Int) (h0 : 0 ≤ left) (h1 : left ≤ 1048576) (h : xs.length ≤ 9223372036854775807) : laws_szIntA2S.f xs left = some (if left < xs.length then -1 else left - xs.length) := by
  unfold laws_szIntA2S.f
  rw [w64 (by omega) (by omega)]
  by_cases c : left < xs.length
  · rw [if_pos (by omega), if_pos c]
  · rw [if_neg (by omega), if_neg c]

theorem rdA2 (xs : List S71) (i : Nat) (h : i < xs.length) : rd_T71 xs (i : Int) = xs[i] := by
  unfold rd_T71
  rw [Int.toNat_natCast, List.getD_eq_getElem?_getD, List.getElem?_eq_getElem h]
  rfl
theorem w01 : wrap64 (0 + 1) = 1 := by unfold wrap64; omega
theorem w11 : wrap64 (1 + 1) = 2 := by unfold wrap64; omega

theorem toIntA2_ev (a b : Int) : Ev (fun k => laws_toIntA2.f k a b) (a, b) := by
  unfold laws_toIntA2.f
  refine ev_succ ?_
  simp only [laws_toIntA2.l0, if_pos (show (0 : Int) < 2 by omega), if_true, w01]
  refine ev_succ ?_
  simp only [laws_toIntA2.l0, if_pos (show (1 : Int) < 2 by omega), if_neg (show ¬ (1 : Int) = 0 by omega), if_true, w11]
  refine ev_succ ?_
  simp only [laws_toIntA2.l0, if_neg (show ¬ (2 : Int) < 2 by omega)]
  exact ev_now _
theorem toIntA2S_l (xs : List S71) (hn : xs.length ≤ 1048576) : ∀ (d i : Nat) (ys : List S71), i + d = xs.length → ys.length = xs.length → ys.take i = xs.take i → Ev (fun k => laws_toIntA2S.l0 k xs ys (i : Int)) xs := by
  intro d
  induction d with
  | zero =>
    intro i ys hi hl ht
    refine ev_succ ?_
    simp only [laws_toIntA2S.l0, if_neg (show ¬ (i : Int) < (xs.length : Int) by omega)]
    have : ys = xs := by
      rw [List.take_of_length_le (by omega), List.take_of_length_le (by omega)] at ht
      exact ht
    rw [this]
    exact ev_now _
  | succ d ih =>
    intro i ys hi hl ht
    refine ev_succ ?_
    have hx : i < xs.length := by omega
    simp only [laws_toIntA2S.l0, if_pos (show (i : Int) < (xs.length : Int) by omega), if_pos (show (0 : Int) ≤ (i : Int) by omega), rdA2 xs i hx, wsucc i (by omega)]
    refine ev_bind (toIntA2_ev _ _) ?_
    simp only [if_pos (show (i : Int) < (ys.length : Int) by omega), Int.toNat_natCast]
    refine ih (i + 1) _ (by omega) (by rw [List.length_set]; exact hl) ?_
    rw [take_set_succ ys i _ (by omega), ht, List.take_succ_eq_append_getElem hx]
theorem toIntA2S_ev (xs : List S71) (hn : xs.length ≤ 1048576) : Ev (fun k => laws_toIntA2S.f k xs) xs := by
  unfold laws_toIntA2S.f
  simp only [if_pos (show (0 : Int) ≤ (xs.length : Int) by omega), Int.toNat_natCast, if_pos (show xs.length ≤ 17592186044416 by omega)]
  exact toIntA2S_l xs hn xs.length 0 _ (by omega) (by simp) (by simp)

theorem eqIntA2_ev (a b : Int) : Ev (fun k => laws_eqIntA2.f k a b a b) true := by
  unfold laws_eqIntA2.f
  refine ev_succ ?_
  simp only [laws_eqIntA2.l0, if_pos (show (0 : Int) < 2 by omega), if_true, w01]
  refine ev_succ ?_
  simp only [laws_eqIntA2.l0, if_pos (show (1 : Int) < 2 by omega), if_neg (show ¬ (1 : Int) = 0 by omega), if_true, w11]
  refine ev_succ ?_
  simp only [laws_eqIntA2.l0, if_neg (show ¬ (2 : Int) < 2 by omega)]
  exact ev_now _
theorem eqIntA2S_l (xs : List S71) (hn : xs.length ≤ 4611686018427387904) : ∀ (d i : Nat), i + d = xs.length → Ev (fun k => laws_eqIntA2S.l0 k xs xs (i : Int)) true := by
  intro d
  induction d with
  | zero =>
    intro i hi
    refine ev_succ ?_
    simp only [laws_eqIntA2S.l0, if_neg (show ¬ (i : Int) < (xs.length : Int) by omega)]
    exact ev_now _
  | succ d ih =>
    intro i hi
    refine ev_succ ?_
    simp only [laws_eqIntA2S.l0, if_pos (show (i : Int) < (xs.length : Int) by omega), if_pos (show (0 : Int) ≤ (i : Int) by omega), wsucc i (by omega)]
    refine ev_bind (eqIntA2_ev _ _) ?_
    simp only [if_true]
    exact ih (i + 1) (by omega)
theorem eqIntA2S_ev (xs : List S71) (hn : xs.length ≤ 4611686018427387904) : Ev (fun k => laws_eqIntA2S.f k xs xs) true := by
  unfold laws_eqIntA2S.f
  simp only [if_true]
  exact eqIntA2S_l xs hn xs.length 0 (by omega)

theorem rdA2_set (xs : List S71) (i : Nat) (h : i < xs.length) (v : S71) : rd_T71 (xs.set i v) (i : Int) = v := by
  rw [rdA2 _ i (by rw [List.length_set]; exact h)]
  simp
theorem markIntA2S_l : ∀ (d i m : Nat) (xs : List S71), i + d = xs.length → m + 2 * d ≤ 1152921504606846976 → xs.length ≤ 1152921504606846976 →
    ∃ (q : Nat) (ys : List S71), Ev (fun k => laws_markIntA2S.l0 k xs (m : Int) (i : Int)) ((q : Int), ys) ∧ ys.length = xs.length ∧ ys.take i = xs.take i ∧ m ≤ q ∧ q ≤ m + 2 * d ∧ Ev (fun k => laws_heldIntA2S.l0 k ys (m : Int) (i : Int)) (q : Int) := by
  intro d
  induction d with
  | zero =>
    intro i m xs hi hmd hxl
    refine ⟨m, xs, ev_succ ?_, rfl, rfl, Nat.le_refl _, by omega, ev_succ ?_⟩
    · simp only [laws_markIntA2S.l0, if_neg (show ¬ (i : Int) < (xs.length : Int) by omega)]
      exact ev_now _
    · simp only [laws_heldIntA2S.l0, if_neg (show ¬ (i : Int) < (xs.length : Int) by omega)]
      exact ev_now _
  | succ d ih =>
    intro i m xs hi hmd hxl
    obtain ⟨q, ys, h1, h2, h3, h4, h4', h5⟩ := ih (i + 1) (m + 2) (xs.set i ⟨(m : Int), ((m + 1 : Nat) : Int)⟩) (by rw [List.length_set]; omega) (by omega) (by rw [List.length_set]; omega)
    rw [List.length_set] at h2
    rw [take_set_succ xs i _ (by omega)] at h3
    have hy : ys[i]'(by omega) = ⟨(m : Int), ((m + 1 : Nat) : Int)⟩ := by
      have := congrArg (fun l => l[i]?) h3
      simp only [List.getElem?_take, if_pos (show i < i + 1 by omega)] at this
      rw [List.getElem?_append_right (by simp; omega), List.getElem?_eq_getElem (by omega)] at this
      simpa [Nat.min_eq_left (show i ≤ xs.length by omega)] using this
    have hx : i < xs.length := by omega
    refine ⟨q, ys, ev_succ ?_, h2, ?_, by omega, by omega, ev_succ ?_⟩
    · simp only [laws_markIntA2S.l0, if_pos (show (i : Int) < (xs.length : Int) by omega)]
      refine ev_succ ?_
      simp only [laws_markIntA2S.l1, if_pos (show (0 : Int) < 2 by omega), if_pos (show (0 : Int) ≤ (i : Int) by omega), if_pos (show (i : Int) < (xs.length : Int) by omega), if_true, w01, wsucc m (by omega), Int.toNat_natCast, rdA2 xs i hx]
      refine ev_succ ?_
      have hl : (xs.set i ⟨(m : Int), xs[i].f1⟩).length = xs.length := List.length_set
      simp only [laws_markIntA2S.l1, if_pos (show (1 : Int) < 2 by omega), if_neg (show ¬ (1 : Int) = 0 by omega), if_true, w11, if_pos (show (0 : Int) ≤ (i : Int) by omega), if_pos (show (i : Int) < ((xs.set i ⟨(m : Int), xs[i].f1⟩).length : Int) by rw [hl]; omega), wsucc (m + 1) (by omega), Int.toNat_natCast, rdA2_set xs i hx, List.set_set]
      refine ev_succ ?_
      simp only [laws_markIntA2S.l1, if_neg (show ¬ (2 : Int) < 2 by omega), wsucc i (by omega)]
      exact h1
    · have := congrArg (fun l => l.take i) h3
      simp only [List.take_take, Nat.min_eq_left (show i ≤ i + 1 by omega)] at this
      rw [this, List.take_append_of_le_length (by simp; omega), List.take_take, Nat.min_self]
    · simp only [laws_heldIntA2S.l0, if_pos (show (i : Int) < (ys.length : Int) by omega)]
      refine ev_succ ?_
      simp only [laws_heldIntA2S.l1, if_pos (show (0 : Int) < 2 by omega), if_pos (show (0 : Int) ≤ (i : Int) by omega), if_pos (show (i : Int) < (ys.length : Int) by omega), if_true, w01, wsucc m (by omega), rdA2 ys i (by omega), hy]
      refine ev_succ ?_
      simp only [laws_heldIntA2S.l1, if_pos (show (1 : Int) < 2 by omega), if_neg (show ¬ (1 : Int) = 0 by omega), if_pos (show (0 : Int) ≤ (i : Int) by omega), if_pos (show (i : Int) < (ys.length : Int) by omega), if_true, w11, wsucc (m + 1) (by omega), rdA2 ys i (by omega), hy]
      refine ev_succ ?_
      simp only [laws_heldIntA2S.l1, if_neg (show ¬ (2 : Int) < 2 by omega), wsucc i (by omega)]
      exact h5
theorem markIntA2S_ev (xs : List S71) (h : xs.length ≤ 1048576) : ∃ (q : Nat) (ys : List S71), 1 ≤ q ∧ Ev (fun k => laws_markIntA2S.f k xs 1) ((q : Int), ys) ∧ Ev (fun k => laws_heldIntA2S.f k ys 1) (q : Int) := by
  obtain ⟨q, ys, h1, h2, h3, h4, h4', h5⟩ := markIntA2S_l xs.length 0 1 xs (by omega) (by omega) (by omega)
  exact ⟨q, ys, h4, h1, h5⟩

theorem rdN (xs : List Int) (i : Nat) (h : i < xs.length) : rd xs (i : Int) = xs[i] := by
  unfold rd
  rw [Int.toNat_natCast, List.getD_eq_getElem?_getD, List.getElem?_eq_getElem h]
  rfl

theorem markIntS_l : ∀ (d i m : Nat) (xs : List Int), i + d = xs.length → m + d ≤ 1152921504606846976 → xs.length ≤ 1152921504606846976 →
    ∃ (q : Nat) (ys : List Int), Ev (fun k => laws_markIntS.l0 k xs (m : Int) (i : Int)) ((q : Int), ys) ∧ ys.length = xs.length ∧ ys.take i = xs.take i ∧ m ≤ q ∧ q ≤ m + d ∧ Ev (fun k => laws_heldIntS.l0 k ys (m : Int) (i : Int)) (q : Int) := by
  intro d
  induction d with
  | zero =>
    intro i m xs hi hmd hxl
    refine ⟨m, xs, ev_succ ?_, rfl, rfl, Nat.le_refl _, by omega, ev_succ ?_⟩
    · simp only [laws_markIntS.l0, if_neg (show ¬ (i : Int) < (xs.length : Int) by omega)]
      exact ev_now _
    · simp only [laws_heldIntS.l0, if_neg (show ¬ (i : Int) < (xs.length : Int) by omega)]
      exact ev_now _
  | succ d ih =>
    intro i m xs hi hmd hxl
    obtain ⟨q, ys, h1, h2, h3, h4, h4', h5⟩ := ih (i + 1) (m + 1) (xs.set i (m : Int)) (by rw [List.length_set]; omega) (by omega) (by rw [List.length_set]; omega)
    rw [List.length_set] at h2
    rw [take_set_succ xs i _ (by omega)] at h3
    have hy : ys[i]'(by omega) = (m : Int) := by
      have := congrArg (fun l => l[i]?) h3
      simp only [List.getElem?_take, if_pos (show i < i + 1 by omega)] at this
      rw [List.getElem?_append_right (by simp; omega), List.getElem?_eq_getElem (by omega)] at this
      simpa [Nat.min_eq_left (show i ≤ xs.length by omega)] using this
    have hx : i < xs.length := by omega
    refine ⟨q, ys, ev_succ ?_, h2, ?_, by omega, by omega, ev_succ ?_⟩
    · simp only [laws_markIntS.l0, if_pos (show (i : Int) < (xs.length : Int) by omega), if_pos (show (0 : Int) ≤ (i : Int) by omega), Int.toNat_natCast, wsucc m (by omega), wsucc i (by omega)]
      exact h1
    · have := congrArg (fun l => l.take i) h3
      simp only [List.take_take, Nat.min_eq_left (show i ≤ i + 1 by omega)] at this
      rw [this, List.take_append_of_le_length (by simp; omega), List.take_take, Nat.min_self]
    · simp only [laws_heldIntS.l0, if_pos (show (i : Int) < (ys.length : Int) by omega), if_pos (show (0 : Int) ≤ (i : Int) by omega), rdN ys i (by omega), hy, if_true, wsucc m (by omega), wsucc i (by omega)]
      exact h5
theorem eqIntS_l (xs : List Int) (hn : xs.length ≤ 4611686018427387904) : ∀ (d i : Nat), i + d = xs.length → Ev (fun k => laws_eqIntS.l0 k xs xs (i : Int)) true := by
  intro d
  induction d with
  | zero =>
    intro i hi
    refine ev_succ ?_
    simp only [laws_eqIntS.l0, if_neg (show ¬ (i : Int) < (xs.length : Int) by omega)]
    exact ev_now _
  | succ d ih =>
    intro i hi
    refine ev_succ ?_
    simp only [laws_eqIntS.l0, if_true, if_pos (show (i : Int) < (xs.length : Int) by omega), if_pos (show (0 : Int) ≤ (i : Int) by omega), wsucc i (by omega)]
    exact ih (i + 1) (by omega)
theorem eqIntS_ev (xs : List Int) (hn : xs.length ≤ 4611686018427387904) : Ev (fun k => laws_eqIntS.f k xs xs) true := by
  unfold laws_eqIntS.f
  simp only [if_true]
  exact eqIntS_l xs hn xs.length 0 (by omega)

theorem rdSS (xs : List (List Int)) (i : Nat) (h : i < xs.length) : rd_L4 xs (i : Int) = xs[i] := by
  unfold rd_L4
  rw [Int.toNat_natCast, List.getD_eq_getElem?_getD, List.getElem?_eq_getElem h]
  rfl
theorem eqIntSS_ev (xs : List (List Int)) (hn : xs.length ≤ 1048576) (hr : ∀ x ∈ xs, x.length ≤ 1048576) : Ev (fun k => laws_eqIntSS.f k xs xs) true := by
  unfold laws_eqIntSS.f
  simp only [if_true]
  have loop : ∀ (d i : Nat), i + d = xs.length → Ev (fun k => laws_eqIntSS.l0 k xs xs (i : Int)) true := by
    intro d
    induction d with
    | zero =>
      intro i hi
      refine ev_succ ?_
      simp only [laws_eqIntSS.l0, if_neg (show ¬ ((i : Int) < (xs.length : Int)) by omega)]
      exact ev_now _
    | succ d ih =>
      intro i hi
      refine ev_succ ?_
      simp only [laws_eqIntSS.l0, if_pos (show (i : Int) < (xs.length : Int) by omega), if_pos (show (0 : Int) ≤ (i : Int) by omega), rdSS xs i (by omega), wsucc i (by omega)]
      refine ev_bind (eqIntS_ev xs[i] (by have := hr _ (List.getElem_mem (show i < xs.length by omega)); omega)) ?_
      simp only [if_true]
      exact ih (i + 1) (by omega)
  exact loop xs.length 0 (by omega)
theorem markIntSS_l : ∀ (d i m : Nat) (xs : List (List Int)), i + d = xs.length → m + 1048576 * d ≤ 1152921504606846976 → xs.length ≤ 1048576 → (∀ x ∈ xs, x.length ≤ 1048576) →
    ∃ (q : Nat) (ys : List (List Int)), Ev (fun k => laws_markIntSS.l0 k xs (m : Int) (i : Int)) ((q : Int), ys) ∧ ys.length = xs.length ∧ ys.take i = xs.take i ∧ m ≤ q ∧ Ev (fun k => laws_heldIntSS.l0 k ys (m : Int) (i : Int)) (q : Int) := by
  intro d
  induction d with
  | zero =>
    intro i m xs hi hmd hxl _
    refine ⟨m, xs, ev_succ ?_, rfl, rfl, Nat.le_refl _, ev_succ ?_⟩
    · simp only [laws_markIntSS.l0, if_neg (show ¬ (i : Int) < (xs.length : Int) by omega)]
      exact ev_now _
    · simp only [laws_heldIntSS.l0, if_neg (show ¬ (i : Int) < (xs.length : Int) by omega)]
      exact ev_now _
  | succ d ih =>
    intro i m xs hi hmd hxl hr
    have hrow := hr _ (List.getElem_mem (show i < xs.length by omega))
    obtain ⟨q1, y1, a1, a2, _, a4, a5, a6⟩ := markIntS_l xs[i].length 0 m xs[i] (by omega) (by omega) (by omega)
    obtain ⟨q, ys, h1, h2, h3, h4, h5⟩ := ih (i + 1) q1 (xs.set i y1) (by rw [List.length_set]; omega) (by omega) (by rw [List.length_set]; omega) (fun x hx => by
      rcases List.mem_or_eq_of_mem_set hx with h | h
      · exact hr x h
      · subst h; omega)
    rw [List.length_set] at h2
    have hy : ys[i]'(by omega) = y1 := by
      have := congrArg (fun l => l[i]?) h3
      simp only [List.getElem?_take, if_pos (show i < i + 1 by omega)] at this
      rw [List.getElem?_eq_getElem (by omega), List.getElem?_set, if_pos rfl, if_pos (by omega)] at this
      exact Option.some.inj this
    refine ⟨q, ys, ev_succ ?_, h2, ?_, by omega, ev_succ ?_⟩
    · simp only [laws_markIntSS.l0, if_pos (show (i : Int) < (xs.length : Int) by omega), if_pos (show (0 : Int) ≤ (i : Int) by omega), Int.toNat_natCast, rdSS xs i (by omega), wsucc i (by omega)]
      exact ev_bind (by unfold laws_markIntS.f; exact a1) h1
    · have := congrArg (fun l => l.take i) h3
      simp only [List.take_take, Nat.min_eq_left (show i ≤ i + 1 by omega)] at this
      rw [this, List.take_set, List.set_eq_of_length_le (by rw [List.length_take]; omega)]
    · simp only [laws_heldIntSS.l0, if_pos (show (i : Int) < (ys.length : Int) by omega), if_pos (show (0 : Int) ≤ (i : Int) by omega), rdSS ys i (by omega), hy, wsucc i (by omega)]
      refine ev_bind (by unfold laws_heldIntS.f; exact a6) ?_
      simp only [if_neg (show ¬ ((q1 : Int) < 0) by omega)]
      exact h5
theorem markIntSS_ev (xs : List (List Int)) (hn : xs.length ≤ 1048576) (hr : ∀ x ∈ xs, x.length ≤ 1048576) : ∃ (q : Nat) (ys : List (List Int)), Ev (fun k => laws_markIntSS.f k xs 1) ((q : Int), ys) ∧ Ev (fun k => laws_heldIntSS.f k ys 1) (q : Int) := by
  obtain ⟨q, ys, h1, _, _, _, h5⟩ := markIntSS_l xs.length 0 1 xs (by omega) (by omega) hn hr
  exact ⟨q, ys, h1, h5⟩

/-- A table of n rows and n columns. -/
def Sq (n : Nat) (t : List (List Bool)) : Prop := t.length = n ∧ ∀ r ∈ t, r.length = n
theorem Sq.row {n : Nat} {t : List (List Bool)} (h : Sq n t) (i : Nat) (hi : i < n) : (t[i]'(by rw [h.1]; exact hi)).length = n := h.2 _ (List.getElem_mem _)
def tb (t : List (List Bool)) (i j : Nat) : Bool := (t.getD i []).getD j false
theorem tb_eq (t : List (List Bool)) (i j : Nat) (hi : i < t.length) (hj : j < t[i].length) : tb t i j = t[i][j] := by
  unfold tb
  rw [List.getD_eq_getElem?_getD, List.getD_eq_getElem?_getD, List.getElem?_eq_getElem hi, Option.getD_some, List.getElem?_eq_getElem hj, Option.getD_some]
def putT (t : List (List Bool)) (i j : Nat) (b : Bool) : List (List Bool) := t.set i ((t.getD i []).set j b)
theorem Sq.put {n : Nat} {t : List (List Bool)} (h : Sq n t) (i j : Nat) (hi : i < n) (b : Bool) : Sq n (putT t i j b) := by
  refine ⟨by unfold putT; rw [List.length_set]; exact h.1, fun r hr => ?_⟩
  unfold putT at hr
  rcases List.mem_or_eq_of_mem_set hr with hr | rfl
  · exact h.2 r hr
  · rw [List.length_set, List.getD_eq_getElem?_getD, List.getElem?_eq_getElem (by rw [h.1]; exact hi), Option.getD_some]
    exact h.row i hi
theorem rdBB (t : List (List Bool)) (i : Nat) (h : i < t.length) : rd_L3 t (i : Int) = t[i] := by
  unfold rd_L3
  rw [Int.toNat_natCast, List.getD_eq_getElem?_getD, List.getElem?_eq_getElem h]
  rfl
theorem rdB (r : List Bool) (i : Nat) (h : i < r.length) : rdOf false r (i : Int) = r[i] := by
  unfold rdOf
  rw [Int.toNat_natCast, List.getD_eq_getElem?_getD, List.getElem?_eq_getElem h]
  rfl
theorem rdTB (t : List (List Bool)) (i : Nat) (h : i < t.length) : (rd_L3 t (i : Int)) = t.getD i [] := by
  rw [rdBB t i h, List.getD_eq_getElem?_getD, List.getElem?_eq_getElem h]; rfl
theorem rdTT {n : Nat} {t : List (List Bool)} (h : Sq n t) (i j : Nat) (hi : i < n) (hj : j < n) : rdOf false (rd_L3 t (i : Int)) (j : Int) = tb t i j := by
  have h1 : i < t.length := by rw [h.1]; exact hi
  have h2 := h.row i hi
  rw [rdBB t i h1, rdB _ j (by rw [h2]; exact hj), tb_eq t i j h1 (by rw [h2]; exact hj)]
theorem put_same {n : Nat} {t : List (List Bool)} (h : Sq n t) (i j : Nat) (hi : i < n) (hj : j < n) : putT t i j (tb t i j) = t := by
  have h1 : i < t.length := by rw [h.1]; exact hi
  have h2 := h.row i hi
  have hg : t.getD i [] = t[i] := by rw [List.getD_eq_getElem?_getD, List.getElem?_eq_getElem h1]; rfl
  unfold putT
  rw [hg, tb_eq t i j h1 (by rw [h2]; exact hj), List.set_getElem_self, List.set_getElem_self]
def stepT (t : List (List Bool)) (k i j : Nat) : List (List Bool) := if (tb t i k && tb t k j) = true then putT t i j true else t
theorem Sq.step {n : Nat} {t : List (List Bool)} (h : Sq n t) (k i j : Nat) (hi : i < n) : Sq n (stepT t k i j) := by
  unfold stepT
  split
  · exact h.put i j hi true
  · exact h
def rowF (t : List (List Bool)) (k i : Nat) (js : List Nat) : List (List Bool) := js.foldl (fun t j => stepT t k i j) t
def midF (n : Nat) (t : List (List Bool)) (k : Nat) (is : List Nat) : List (List Bool) := is.foldl (fun t i => rowF t k i (List.range' 0 n)) t
def outF (n : Nat) (t : List (List Bool)) (ks : List Nat) : List (List Bool) := ks.foldl (fun t k => midF n t k (List.range' 0 n)) t
def edgeF (t : List (List Bool)) (es : List S71) : List (List Bool) := es.foldl (fun t e => putT t e.f0.toNat e.f1.toNat true) t
/-- The table of what comes before what. -/
def closT (n : Nat) (es : List S71) : List (List Bool) := outF n (edgeF (List.replicate n (List.replicate n false)) es) (List.range' 0 n)
def inN (n : Nat) (es : List S71) : Prop := ∀ e ∈ es, 0 ≤ e.f0 ∧ e.f0 < n ∧ 0 ≤ e.f1 ∧ e.f1 < n
theorem Sq.row_fold {n : Nat} {t : List (List Bool)} (h : Sq n t) (k i : Nat) (hi : i < n) (js : List Nat) : Sq n (rowF t k i js) := by
  unfold rowF
  induction js generalizing t with
  | nil => exact h
  | cons j js ih => exact ih (h.step k i j hi)
section
variable {F : Nat → List (List Bool) → Nat → Nat → Nat → Option (List (List Bool))}
end
theorem spec_l4 (n : Nat) (hn : n ≤ 8) (kk i : Nat) (hk : kk < n) (hi : i < n) (R : List (List Bool) → List (List Bool))
    (hnext : ∀ t, Sq n t → Ev (fun k => spec_l4Table.l3 k (n : Int) t (kk : Int) ((i + 1 : Nat) : Int)) (R t)) :
    ∀ (d j : Nat) (t : List (List Bool)), j + d = n → Sq n t → Ev (fun k => spec_l4Table.l4 k (n : Int) t (kk : Int) (i : Int) (j : Int)) (R (rowF t kk i (List.range' j d))) := by
  intro d
  induction d with
  | zero =>
    intro j t hj ht
    refine ev_succ ?_
    simp only [spec_l4Table.l4, if_neg (show ¬ (j : Int) < (n : Int) by omega), wsucc i (by omega)]
    exact hnext t ht
  | succ d ih =>
    intro j t hj ht
    refine ev_succ ?_
    have hl := ht.1
    have hri : (rd_L3 t (i : Int)).length = n := by rw [rdBB t i (by omega)]; exact ht.row i hi
    have hrk : (rd_L3 t (kk : Int)).length = n := by rw [rdBB t kk (by omega)]; exact ht.row kk hk
    have h := ih (j + 1) (stepT t kk i j) (by omega) (ht.step kk i j hi)
    rw [List.range'_succ]
    simp only [rowF, List.foldl_cons]
    simp only [rowF] at h
    simp only [spec_l4Table.l4, if_pos (show (j : Int) < (n : Int) by omega), if_pos (show (0 : Int) ≤ (i : Int) by omega), if_pos (show (i : Int) < (t.length : Int) by omega), if_pos (show (0 : Int) ≤ (kk : Int) by omega), if_pos (show (kk : Int) < ((rd_L3 t (i : Int)).length : Int) by omega), if_pos (show (kk : Int) < (t.length : Int) by omega), if_pos (show (0 : Int) ≤ (j : Int) by omega), if_pos (show (j : Int) < ((rd_L3 t (kk : Int)).length : Int) by omega), if_pos (show (j : Int) < ((rd_L3 t (i : Int)).length : Int) by omega), rdTT ht i kk hi hk, rdTT ht kk j hk (by omega), wsucc j (by omega), Int.toNat_natCast]
    by_cases c1 : tb t i kk = true
    · by_cases c2 : tb t kk j = true
      · simp only [if_pos c1, if_pos c2]
        have hs : stepT t kk i j = putT t i j true := by unfold stepT; rw [if_pos (by rw [c1, c2]; rfl)]
        rw [hs] at h ⊢
        rw [rdTB t i (by omega)]
        exact h
      · simp only [if_pos c1, if_neg c2]
        have hs : stepT t kk i j = t := by unfold stepT; rw [if_neg (by rw [c1]; simpa using c2)]
        rw [hs] at h ⊢
        exact h
    · simp only [if_neg c1]
      have hs : stepT t kk i j = t := by unfold stepT; rw [if_neg (by simp only [Bool.and_eq_true]; exact fun x => c1 x.1)]
      rw [hs] at h ⊢
      exact h
theorem spec_l3 (n : Nat) (hn : n ≤ 8) (kk : Nat) (hk : kk < n) (R : List (List Bool) → List (List Bool))
    (hnext : ∀ t, Sq n t → Ev (fun k => spec_l4Table.l2 k (n : Int) t ((kk + 1 : Nat) : Int)) (R t)) :
    ∀ (d i : Nat) (t : List (List Bool)), i + d = n → Sq n t → Ev (fun k => spec_l4Table.l3 k (n : Int) t (kk : Int) (i : Int)) (R (midF n t kk (List.range' i d))) := by
  intro d
  induction d with
  | zero =>
    intro i t hi ht
    refine ev_succ ?_
    simp only [spec_l4Table.l3, if_neg (show ¬ (i : Int) < (n : Int) by omega), wsucc kk (by omega)]
    exact hnext t ht
  | succ d ih =>
    intro i t hi ht
    refine ev_succ ?_
    rw [List.range'_succ]
    simp only [midF, List.foldl_cons, spec_l4Table.l3, if_pos (show (i : Int) < (n : Int) by omega)]
    exact spec_l4 n hn kk i hk (by omega) (fun t => R (midF n t kk (List.range' (i + 1) d))) (fun t ht => ih (i + 1) t (by omega) ht) n 0 t (by omega) ht
theorem mid_sq {n : Nat} {t : List (List Bool)} (h : Sq n t) (k : Nat) : ∀ is : List Nat, (∀ i ∈ is, i < n) → Sq n (midF n t k is) := by
  intro is
  unfold midF
  induction is generalizing t with
  | nil => intro _; exact h
  | cons i is ih => intro hi; exact ih (h.row_fold k i (hi i (by simp)) _) (fun x hx => hi x (by simp [hx]))
theorem spec_l2 (n : Nat) (hn : n ≤ 8) : ∀ (d kk : Nat) (t : List (List Bool)), kk + d = n → Sq n t → Ev (fun k => spec_l4Table.l2 k (n : Int) t (kk : Int)) (outF n t (List.range' kk d)) := by
  intro d
  induction d with
  | zero =>
    intro kk t hk ht
    refine ev_succ ?_
    simp only [spec_l4Table.l2, if_neg (show ¬ (kk : Int) < (n : Int) by omega)]
    exact ev_now _
  | succ d ih =>
    intro kk t hk ht
    refine ev_succ ?_
    rw [List.range'_succ]
    simp only [outF, List.foldl_cons, spec_l4Table.l2, if_pos (show (kk : Int) < (n : Int) by omega)]
    exact spec_l3 n hn kk (by omega) (fun t => outF n t (List.range' (kk + 1) d)) (fun t ht => ih (kk + 1) t (by omega) ht) n 0 t (by omega) ht
theorem edge_sq {n : Nat} {t : List (List Bool)} (h : Sq n t) : ∀ es : List S71, inN n es → Sq n (edgeF t es) := by
  intro es
  unfold edgeF
  induction es generalizing t with
  | nil => intro _; exact h
  | cons e es ih =>
    intro he
    have := he e (by simp)
    exact ih (h.put _ _ (by omega) true) (fun x hx => he x (by simp [hx]))
theorem spec_l1 (n : Nat) (hn : n ≤ 8) (es : List S71) (hes : es.length ≤ 1048576) (hin : inN n es) : ∀ (d i : Nat) (t : List (List Bool)), i + d = es.length → Sq n t → Ev (fun k => spec_l4Table.l1 k (n : Int) es t (i : Int)) (outF n (edgeF t (es.drop i)) (List.range' 0 n)) := by
  intro d
  induction d with
  | zero =>
    intro i t hi ht
    refine ev_succ ?_
    simp only [spec_l4Table.l1, if_neg (show ¬ (i : Int) < (es.length : Int) by omega), List.drop_of_length_le (show es.length ≤ i by omega)]
    exact spec_l2 n hn n 0 t (by omega) ht
  | succ d ih =>
    intro i t hi ht
    refine ev_succ ?_
    have hx : i < es.length := by omega
    have hl := ht.1
    have he := hin es[i] (List.getElem_mem hx)
    obtain ⟨a, ha⟩ := Int.eq_ofNat_of_zero_le he.1
    obtain ⟨b, hb⟩ := Int.eq_ofNat_of_zero_le he.2.2.1
    have hr : (rd_L3 t (a : Int)).length = n := by rw [rdBB t a (by omega)]; exact ht.row a (by omega)
    have h := ih (i + 1) (putT t a b true) (by omega) (ht.put a b (by omega) true)
    rw [List.drop_eq_getElem_cons hx]
    simp only [edgeF, List.foldl_cons, ha, hb, Int.toNat_natCast]
    simp only [edgeF] at h
    simp only [spec_l4Table.l1, if_pos (show (i : Int) < (es.length : Int) by omega), if_pos (show (0 : Int) ≤ (i : Int) by omega), rdA2 es i hx, ha, hb, if_pos (show (0 : Int) ≤ (a : Int) by omega), if_pos (show (a : Int) < (t.length : Int) by omega), if_pos (show (0 : Int) ≤ (b : Int) by omega), if_pos (show (b : Int) < ((rd_L3 t (a : Int)).length : Int) by omega), wsucc i (by omega), Int.toNat_natCast]
    rw [rdTB t a (by omega)]
    exact h
theorem spec_l0 (n : Nat) (hn : n ≤ 8) (es : List S71) (hes : es.length ≤ 1048576) (hin : inN n es) : ∀ (d i : Nat) (t : List (List Bool)), i + d = n → t = List.replicate i (List.replicate n false) → Ev (fun k => spec_l4Table.l0 k (n : Int) es t (i : Int)) (closT n es) := by
  intro d
  induction d with
  | zero =>
    intro i t hi ht
    refine ev_succ ?_
    have hin' : i = n := by omega
    subst hin'
    simp only [spec_l4Table.l0, if_neg (show ¬ (i : Int) < (i : Int) by omega)]
    have := spec_l1 i hn es hes hin es.length 0 t (by omega) (by rw [ht]; exact ⟨by simp, fun r hr => by rw [List.eq_of_mem_replicate hr]; simp⟩)
    rw [List.drop_zero, ht] at this
    rw [ht]
    exact this
  | succ d ih =>
    intro i t hi ht
    refine ev_succ ?_
    have hl : t.length = i := by rw [ht]; simp
    simp only [spec_l4Table.l0, if_pos (show (i : Int) < (n : Int) by omega), if_pos (show (0 : Int) ≤ (n : Int) by omega), Int.toNat_natCast, if_pos (show n ≤ 281474976710656 by omega), if_pos (show t.length < 5864062014805 by omega), wsucc i (by omega)]
    exact ih (i + 1) _ (by omega) (by rw [ht, List.replicate_succ'])
theorem l4Table_ev (n : Nat) (hn : n ≤ 8) (es : List S71) (hes : es.length ≤ 1048576) (hin : inN n es) : Ev (fun k => spec_l4Table.f k (n : Int) es) (closT n es) := by
  unfold spec_l4Table.f
  exact spec_l0 n hn es hes hin n 0 [] (by omega) (by simp)
theorem impl_l4 (n : Nat) (hn : n ≤ 8) (kk i : Nat) (hk : kk < n) (hi : i < n) (R : List (List Bool) → List (List Bool))
    (hnext : ∀ t, Sq n t → Ev (fun k => impl_closure.l3 k (n : Int) t (kk : Int) ((i + 1 : Nat) : Int)) (R t)) :
    ∀ (d j : Nat) (t : List (List Bool)), j + d = n → Sq n t → Ev (fun k => impl_closure.l4 k (n : Int) t (kk : Int) (i : Int) (j : Int)) (R (rowF t kk i (List.range' j d))) := by
  intro d
  induction d with
  | zero =>
    intro j t hj ht
    refine ev_succ ?_
    simp only [impl_closure.l4, if_neg (show ¬ (j : Int) < (n : Int) by omega), wsucc i (by omega)]
    exact hnext t ht
  | succ d ih =>
    intro j t hj ht
    refine ev_succ ?_
    have hl := ht.1
    have hri : (rd_L3 t (i : Int)).length = n := by rw [rdBB t i (by omega)]; exact ht.row i hi
    have hrk : (rd_L3 t (kk : Int)).length = n := by rw [rdBB t kk (by omega)]; exact ht.row kk hk
    have h := ih (j + 1) (stepT t kk i j) (by omega) (ht.step kk i j hi)
    rw [List.range'_succ]
    simp only [rowF, List.foldl_cons]
    simp only [rowF] at h
    simp only [impl_closure.l4, if_pos (show (j : Int) < (n : Int) by omega), if_pos (show (0 : Int) ≤ (i : Int) by omega), if_pos (show (i : Int) < (t.length : Int) by omega), if_pos (show (0 : Int) ≤ (kk : Int) by omega), if_pos (show (kk : Int) < ((rd_L3 t (i : Int)).length : Int) by omega), if_pos (show (kk : Int) < (t.length : Int) by omega), if_pos (show (0 : Int) ≤ (j : Int) by omega), if_pos (show (j : Int) < ((rd_L3 t (kk : Int)).length : Int) by omega), if_pos (show (j : Int) < ((rd_L3 t (i : Int)).length : Int) by omega), rdTT ht i kk hi hk, rdTT ht kk j hk (by omega), rdTT ht i j hi (by omega), wsucc j (by omega), Int.toNat_natCast]
    have hput : ∀ b, t.set i ((rd_L3 t (i : Int)).set j b) = putT t i j b := fun b => by rw [rdTB t i (by omega)]; rfl
    have hsame := put_same ht i j hi (show j < n by omega)
    by_cases c0 : tb t i j = true
    · simp only [if_pos c0, hput]
      have hs : stepT t kk i j = t := by
        unfold stepT
        split
        · rw [c0] at hsame; exact hsame
        · rfl
      rw [hs] at h ⊢
      rw [c0] at hsame
      rw [hsame]
      exact h
    · have c0' : tb t i j = false := by simpa using c0
      rw [c0'] at hsame
      by_cases c1 : tb t i kk = true
      · simp only [if_neg c0, if_pos c1, hput]
        by_cases c2 : tb t kk j = true
        · have hs : stepT t kk i j = putT t i j true := by unfold stepT; rw [if_pos (by rw [c1, c2]; rfl)]
          rw [hs] at h ⊢
          rw [c2]
          exact h
        · have c2' : tb t kk j = false := by simpa using c2
          have hs : stepT t kk i j = t := by unfold stepT; rw [if_neg (by rw [c1]; simpa using c2)]
          rw [hs] at h ⊢
          rw [c2', hsame]
          exact h
      · simp only [if_neg c0, if_neg c1, hput]
        have hs : stepT t kk i j = t := by unfold stepT; rw [if_neg (by simp only [Bool.and_eq_true]; exact fun x => c1 x.1)]
        rw [hs] at h ⊢
        rw [hsame]
        exact h
theorem impl_l3 (n : Nat) (hn : n ≤ 8) (kk : Nat) (hk : kk < n) (R : List (List Bool) → List (List Bool))
    (hnext : ∀ t, Sq n t → Ev (fun k => impl_closure.l2 k (n : Int) t ((kk + 1 : Nat) : Int)) (R t)) :
    ∀ (d i : Nat) (t : List (List Bool)), i + d = n → Sq n t → Ev (fun k => impl_closure.l3 k (n : Int) t (kk : Int) (i : Int)) (R (midF n t kk (List.range' i d))) := by
  intro d
  induction d with
  | zero =>
    intro i t hi ht
    refine ev_succ ?_
    simp only [impl_closure.l3, if_neg (show ¬ (i : Int) < (n : Int) by omega), wsucc kk (by omega)]
    exact hnext t ht
  | succ d ih =>
    intro i t hi ht
    refine ev_succ ?_
    rw [List.range'_succ]
    simp only [midF, List.foldl_cons, impl_closure.l3, if_pos (show (i : Int) < (n : Int) by omega)]
    exact impl_l4 n hn kk i hk (by omega) (fun t => R (midF n t kk (List.range' (i + 1) d))) (fun t ht => ih (i + 1) t (by omega) ht) n 0 t (by omega) ht
theorem impl_l2 (n : Nat) (hn : n ≤ 8) : ∀ (d kk : Nat) (t : List (List Bool)), kk + d = n → Sq n t → Ev (fun k => impl_closure.l2 k (n : Int) t (kk : Int)) (outF n t (List.range' kk d)) := by
  intro d
  induction d with
  | zero =>
    intro kk t hk ht
    refine ev_succ ?_
    simp only [impl_closure.l2, if_neg (show ¬ (kk : Int) < (n : Int) by omega)]
    exact ev_now _
  | succ d ih =>
    intro kk t hk ht
    refine ev_succ ?_
    rw [List.range'_succ]
    simp only [outF, List.foldl_cons, impl_closure.l2, if_pos (show (kk : Int) < (n : Int) by omega)]
    exact impl_l3 n hn kk (by omega) (fun t => outF n t (List.range' (kk + 1) d)) (fun t ht => ih (kk + 1) t (by omega) ht) n 0 t (by omega) ht
theorem impl_l1 (n : Nat) (hn : n ≤ 8) (es : List S71) (hes : es.length ≤ 1048576) (hin : inN n es) : ∀ (d i : Nat) (t : List (List Bool)), i + d = es.length → Sq n t → Ev (fun k => impl_closure.l1 k (n : Int) t es (es.length : Int) (i : Int)) (outF n (edgeF t (es.drop i)) (List.range' 0 n)) := by
  intro d
  induction d with
  | zero =>
    intro i t hi ht
    refine ev_succ ?_
    simp only [impl_closure.l1, if_neg (show ¬ (i : Int) < (es.length : Int) by omega), List.drop_of_length_le (show es.length ≤ i by omega)]
    exact impl_l2 n hn n 0 t (by omega) ht
  | succ d ih =>
    intro i t hi ht
    refine ev_succ ?_
    have hx : i < es.length := by omega
    have hl := ht.1
    have he := hin es[i] (List.getElem_mem hx)
    obtain ⟨a, ha⟩ := Int.eq_ofNat_of_zero_le he.1
    obtain ⟨b, hb⟩ := Int.eq_ofNat_of_zero_le he.2.2.1
    have hr : (rd_L3 t (a : Int)).length = n := by rw [rdBB t a (by omega)]; exact ht.row a (by omega)
    have h := ih (i + 1) (putT t a b true) (by omega) (ht.put a b (by omega) true)
    rw [List.drop_eq_getElem_cons hx]
    simp only [edgeF, List.foldl_cons, ha, hb, Int.toNat_natCast]
    simp only [edgeF] at h
    simp only [impl_closure.l1, if_pos (show (i : Int) < (es.length : Int) by omega), if_pos (show (0 : Int) ≤ (i : Int) by omega), rdA2 es i hx, ha, hb, if_pos (show (0 : Int) ≤ (a : Int) by omega), if_pos (show (a : Int) < (t.length : Int) by omega), if_pos (show (0 : Int) ≤ (b : Int) by omega), if_pos (show (b : Int) < ((rd_L3 t (a : Int)).length : Int) by omega), wsucc i (by omega), Int.toNat_natCast]
    rw [rdTB t a (by omega)]
    exact h
theorem impl_l0 (n : Nat) (hn : n ≤ 8) (es : List S71) (hes : es.length ≤ 1048576) (hin : inN n es) : ∀ (d i : Nat) (t : List (List Bool)), i + d = n → t.length = n → t.take i = List.replicate i (List.replicate n false) → Ev (fun k => impl_closure.l0 k (n : Int) es t (n : Int) (i : Int)) (closT n es) := by
  intro d
  induction d with
  | zero =>
    intro i t hi hl ht
    refine ev_succ ?_
    have hin' : i = n := by omega
    subst hin'
    rw [List.take_of_length_le (by omega)] at ht
    simp only [impl_closure.l0, if_neg (show ¬ (i : Int) < (i : Int) by omega)]
    have := impl_l1 i hn es hes hin es.length 0 t (by omega) (by rw [ht]; exact ⟨by simp, fun r hr => by rw [List.eq_of_mem_replicate hr]; simp⟩)
    rw [List.drop_zero, ht] at this
    rw [ht]
    exact this
  | succ d ih =>
    intro i t hi hl ht
    refine ev_succ ?_
    simp only [impl_closure.l0, if_pos (show (i : Int) < (n : Int) by omega), if_pos (show (0 : Int) ≤ (n : Int) by omega), Int.toNat_natCast, if_pos (show n ≤ 281474976710656 by omega), if_pos (show (0 : Int) ≤ (i : Int) by omega), if_pos (show (i : Int) < (t.length : Int) by omega), wsucc i (by omega)]
    exact ih (i + 1) _ (by omega) (by rw [List.length_set]; exact hl) (by rw [take_set_succ t i _ (by omega), ht, List.replicate_succ'])
theorem closure_ev (n : Nat) (hn : n ≤ 8) (es : List S71) (hes : es.length ≤ 1048576) (hin : inN n es) : Ev (fun k => impl_closure.f k (n : Int) es) (closT n es) := by
  unfold impl_closure.f
  simp only [if_pos (show (0 : Int) ≤ (n : Int) by omega), Int.toNat_natCast, if_pos (show n ≤ 11728124029610 by omega), Option.bind_some, List.length_replicate]
  exact impl_l0 n hn es hes hin n 0 _ (by omega) (by simp) (by simp)
theorem clos_sq (n : Nat) (es : List S71) (hin : inN n es) : Sq n (closT n es) := by
  unfold closT
  have h0 : Sq n (edgeF (List.replicate n (List.replicate n false)) es) := edge_sq ⟨by simp, fun r hr => by rw [List.eq_of_mem_replicate hr]; simp⟩ es hin
  have key : ∀ (ks : List Nat) (t : List (List Bool)), Sq n t → Sq n (outF n t ks) := by
    intro ks
    unfold outF
    induction ks with
    | nil => intro t h; exact h
    | cons k ks ih => intro t h; exact ih _ (mid_sq h k _ (fun i hi => by rw [List.mem_range'_1] at hi; omega))
  exact key _ _ h0

theorem l1In_eq (a b c : Int) : spec_l1In.f a b c = some (decide (b ≤ a) && decide (a ≤ c)) := by
  unfold spec_l1In.f
  by_cases h : b ≤ a
  · rw [if_pos h]; simp [h]
  · rw [if_neg h]; simp [h]

theorem within_eq (a b c : Int) : impl_within.f a b c = some (decide (b ≤ a) && decide (a ≤ c)) := by
  unfold impl_within.f
  by_cases h : b ≤ a
  · rw [if_pos h]; simp [h]
  · rw [if_neg h]; simp [h]

theorem isNumber_eq (i n : Int) (h0 : 0 ≤ n) (h1 : n ≤ 9223372036854775807) : impl_isNumber.f i n = some (decide (0 ≤ i) && decide (i < n)) := by
  unfold impl_isNumber.f
  rw [within_eq, w64 (by omega) (by omega)]
  simp only [Option.bind_some]
  congr 2
  rw [decide_eq_decide]
  omega

def cE (m : Int) (es : List S71) (i : Nat) : Bool :=
  decide (0 ≤ (rd_T71 es (i : Int)).f0) && decide ((rd_T71 es (i : Int)).f0 ≤ m) && (decide (0 ≤ (rd_T71 es (i : Int)).f1) && decide ((rd_T71 es (i : Int)).f1 ≤ m)) && !decide ((rd_T71 es (i : Int)).f0 = (rd_T71 es (i : Int)).f1) &&
  (decide (i = 0) || decide ((rd_T71 es ((i - 1 : Nat) : Int)).f0 < (rd_T71 es (i : Int)).f0) || decide ((rd_T71 es ((i - 1 : Nat) : Int)).f0 = (rd_T71 es (i : Int)).f0) && decide ((rd_T71 es ((i - 1 : Nat) : Int)).f1 < (rd_T71 es (i : Int)).f1))
def pfE (m : Int) (es : List S71) (i : Nat) : Nat → Bool
  | 0 => true
  | d + 1 => cE m es i && pfE m es (i + 1) d
theorem l4Before_eq (a b c d : Int) : spec_l4Before.f a b c d = some (decide (a < c) || decide (a = c) && decide (b < d)) := by
  unfold spec_l4Before.f
  by_cases h : a < c
  · rw [if_pos h]; simp [h]
  · rw [if_neg h]
    by_cases h' : a = c
    · rw [if_pos h']; simp [h, h']
    · rw [if_neg h']; simp [h, h']
theorem wpred (i : Nat) (h0 : 0 < i) (h : i < 4611686018427387904) : wrap64 ((i : Int) - 1) = ((i - 1 : Nat) : Int) := by
  rw [w64 (by omega) (by omega)]; omega
theorem l4Pairs_l (n : Int) (es : List S71) (hes : es.length ≤ 1048576) : ∀ (d i : Nat), i + d = es.length → Ev (fun k => spec_l4Pairs.l0 k n es (i : Int)) (pfE (wrap64 (n - 1)) es i d && ((decide (0 ≤ n) && decide (n ≤ 8)) && decide ((es.length : Int) ≤ 28))) := by
  intro d
  induction d with
  | zero =>
    intro i hi
    refine ev_succ ?_
    simp only [spec_l4Pairs.l0, if_neg (show ¬ (i : Int) < (es.length : Int) by omega), l1In_eq, Option.bind_some, pfE, Bool.true_and]
    cases hb : (decide (0 ≤ n) && decide (n ≤ 8))
    · simp only [Bool.false_eq_true, if_false, Bool.false_and]; exact ev_now _
    · simp only [if_true, Bool.true_and]; exact ev_now _
  | succ d ih =>
    intro i hi
    refine ev_succ ?_
    have h := ih (i + 1) (by omega)
    simp only [spec_l4Pairs.l0, if_pos (show (i : Int) < (es.length : Int) by omega), if_pos (show (0 : Int) ≤ (i : Int) by omega), l1In_eq, l4Before_eq, Option.bind_some, pfE, wsucc i (by omega)]
    unfold cE
    by_cases ha : (decide (0 ≤ (rd_T71 es (i : Int)).f0) && decide ((rd_T71 es (i : Int)).f0 ≤ wrap64 (n - 1))) = true
    · by_cases hb : (decide (0 ≤ (rd_T71 es (i : Int)).f1) && decide ((rd_T71 es (i : Int)).f1 ≤ wrap64 (n - 1))) = true
      · by_cases hc : (rd_T71 es (i : Int)).f0 = (rd_T71 es (i : Int)).f1
        · simp only [ha, hb, if_true, if_pos hc, decide_eq_true hc, Bool.not_true, Bool.and_false, Bool.false_and]; exact ev_now _
        · by_cases h0 : i = 0
          · subst h0
            simp only [ha, hb, if_true, if_neg hc, decide_true, Bool.true_or, Bool.true_and, decide_eq_false hc, Bool.not_false, gt_iff_lt, if_neg (show ¬ ((0 : Int) < ((0 : Nat) : Int)) by omega)]
            exact h
          · simp only [ha, hb, if_true, if_neg hc, if_pos (show (i : Int) > 0 by omega), wpred i (by omega) (by omega), if_pos (show (0 : Int) ≤ ((i - 1 : Nat) : Int) by omega), if_pos (show ((i - 1 : Nat) : Int) < (es.length : Int) by omega), decide_eq_false h0, Bool.false_or, Bool.true_and, decide_eq_false hc, Bool.not_false]
            cases hd : (decide ((rd_T71 es ((i - 1 : Nat) : Int)).f0 < (rd_T71 es (i : Int)).f0) || decide ((rd_T71 es ((i - 1 : Nat) : Int)).f0 = (rd_T71 es (i : Int)).f0) && decide ((rd_T71 es ((i - 1 : Nat) : Int)).f1 < (rd_T71 es (i : Int)).f1))
            · simp only [Bool.false_eq_true, if_false, Bool.false_and]; exact ev_now _
            · simp only [if_true, Bool.true_and]; exact h
      · simp only [ha, if_true, if_neg hb, Bool.not_eq_true .. ▸ hb, Bool.and_false, Bool.false_and]; exact ev_now _
    · simp only [if_neg ha, Bool.not_eq_true .. ▸ ha, Bool.false_and]; exact ev_now _
def okE (n : Int) (es : List S71) : Bool := pfE (wrap64 (n - 1)) es 0 es.length && ((decide (0 ≤ n) && decide (n ≤ 8)) && decide ((es.length : Int) ≤ 28))
theorem l4Pairs_ev (n : Int) (es : List S71) (hes : es.length ≤ 1048576) : Ev (fun k => spec_l4Pairs.f k n es) (okE n es) := by
  unfold spec_l4Pairs.f
  exact l4Pairs_l n es hes es.length 0 (by omega)
theorem pfE_in (n : Nat) (hn : n ≤ 8) (es : List S71) : ∀ (d i : Nat), i + d = es.length → pfE (wrap64 ((n : Int) - 1)) es i d = true → ∀ j, i ≤ j → (hj : j < es.length) → 0 ≤ (es[j]).f0 ∧ (es[j]).f0 < n ∧ 0 ≤ (es[j]).f1 ∧ (es[j]).f1 < n := by
  intro d
  induction d with
  | zero => intro i hi _ j hj hj'; omega
  | succ d ih =>
    intro i hi h j hj hj'
    unfold pfE at h
    rw [Bool.and_eq_true] at h
    by_cases he : j = i
    · subst he
      have h1 := h.1
      unfold cE at h1
      rw [rdA2 es j hj', w64 (by omega) (by omega)] at h1
      simp only [Bool.and_eq_true, decide_eq_true_eq] at h1
      obtain ⟨⟨⟨⟨a1, a2⟩, ⟨a3, a4⟩⟩, _⟩, _⟩ := h1
      exact ⟨a1, by omega, a3, by omega⟩
    · exact ih (i + 1) (by omega) h.2 j (by omega) hj'
theorem okE_in (n : Int) (es : List S71) (h : okE n es = true) : ∃ m : Nat, n = m ∧ m ≤ 8 ∧ es.length ≤ 28 ∧ inN m es := by
  unfold okE at h
  simp only [Bool.and_eq_true, decide_eq_true_eq] at h
  obtain ⟨h1, ⟨h2, h3⟩, h4⟩ := h
  obtain ⟨m, rfl⟩ := Int.eq_ofNat_of_zero_le h2
  refine ⟨m, rfl, by omega, by omega, fun e he => ?_⟩
  obtain ⟨j, hj, rfl⟩ := List.mem_iff_getElem.mp he
  have := pfE_in m (by omega) es es.length 0 (by omega) h1 j (by omega) hj
  omega
/-- No job stands before itself, from the i-th on. -/
def acyF (t : List (List Bool)) (i : Nat) : Nat → Bool
  | 0 => true
  | d + 1 => !tb t i i && acyF t (i + 1) d
def good4 (n : Int) (es : List S71) : Bool := okE n es && acyF (closT n.toNat es) 0 n.toNat
theorem l4Good_l (n : Nat) (hn : n ≤ 8) (t : List (List Bool)) (ht : Sq n t) : ∀ (d i : Nat), i + d = n → Ev (fun k => spec_l4Good.l0 k (n : Int) t (i : Int)) (acyF t i d) := by
  intro d
  induction d with
  | zero =>
    intro i hi
    refine ev_succ ?_
    simp only [spec_l4Good.l0, if_neg (show ¬ (i : Int) < (n : Int) by omega), acyF]
    exact ev_now _
  | succ d ih =>
    intro i hi
    refine ev_succ ?_
    have h := ih (i + 1) (by omega)
    have hl := ht.1
    have hr : (rd_L3 t (i : Int)).length = n := by rw [rdBB t i (by omega)]; exact ht.row i (by omega)
    simp only [spec_l4Good.l0, if_pos (show (i : Int) < (n : Int) by omega), if_pos (show (0 : Int) ≤ (i : Int) by omega), if_pos (show (i : Int) < (t.length : Int) by omega), if_pos (show (i : Int) < ((rd_L3 t (i : Int)).length : Int) by omega), rdTT ht i i (by omega) (by omega), wsucc i (by omega), acyF]
    cases tb t i i
    · simp only [Bool.false_eq_true, if_false, Bool.not_false, Bool.true_and]; exact h
    · simp only [if_true, Bool.not_true, Bool.false_and]; exact ev_now _
theorem l4Good_ev (n : Int) (es : List S71) (hes : es.length ≤ 1048576) : Ev (fun k => spec_l4Good.f k n es) (good4 n es) := by
  unfold spec_l4Good.f good4
  refine ev_bind (l4Pairs_ev n es hes) ?_
  cases hk : okE n es
  · simp only [Bool.false_eq_true, if_false, Bool.false_and]; exact ev_now _
  · obtain ⟨m, rfl, hm, hl, hin⟩ := okE_in n es hk
    simp only [if_true, Bool.true_and, Int.toNat_natCast]
    exact ev_bind (l4Table_ev m hm es hes hin) (l4Good_l m hm _ (clos_sq m es hin) m 0 (by omega))
theorem isPrec_l1 (n : Nat) (hn : n ≤ 8) (t : List (List Bool)) (ht : Sq n t) : ∀ (d i : Nat), i + d = n → Ev (fun k => impl_IsPrecedence.l1 k t (n : Int) (i : Int)) (acyF t i d) := by
  intro d
  induction d with
  | zero =>
    intro i hi
    refine ev_succ ?_
    simp only [impl_IsPrecedence.l1, if_neg (show ¬ (i : Int) < (n : Int) by omega), acyF]
    exact ev_now _
  | succ d ih =>
    intro i hi
    refine ev_succ ?_
    have h := ih (i + 1) (by omega)
    have hl := ht.1
    have hr : (rd_L3 t (i : Int)).length = n := by rw [rdBB t i (by omega)]; exact ht.row i (by omega)
    simp only [impl_IsPrecedence.l1, if_pos (show (i : Int) < (n : Int) by omega), if_pos (show (0 : Int) ≤ (i : Int) by omega), if_pos (show (i : Int) < (t.length : Int) by omega), if_pos (show (i : Int) < ((rd_L3 t (i : Int)).length : Int) by omega), rdTT ht i i (by omega) (by omega), wsucc i (by omega), acyF]
    cases tb t i i
    · simp only [Bool.false_eq_true, if_false, Bool.not_false, Bool.true_and]; exact h
    · simp only [if_true, Bool.not_true, Bool.false_and]; exact ev_now _
theorem isPrec_l0 (n : Nat) (hn : n ≤ 8) (es : List S71) (hes : es.length ≤ 28) (hG : pfE (wrap64 ((n : Int) - 1)) es 0 es.length = true → inN n es) :
    ∀ (d i : Nat), i + d = es.length → (pfE (wrap64 ((n : Int) - 1)) es i d = true → pfE (wrap64 ((n : Int) - 1)) es 0 es.length = true) → Ev (fun k => impl_IsPrecedence.l0 k (n : Int) es es (es.length : Int) (i : Int)) (pfE (wrap64 ((n : Int) - 1)) es i d && acyF (closT n es) 0 n) := by
  intro d
  induction d with
  | zero =>
    intro i hi hp
    have hin := hG (hp rfl)
    have hl := (clos_sq n es hin).1
    refine ev_succ ?_
    simp only [impl_IsPrecedence.l0, if_neg (show ¬ (i : Int) < (es.length : Int) by omega), pfE, Bool.true_and]
    refine ev_bind (closure_ev n hn es (by omega) hin) ?_
    rw [hl]
    exact isPrec_l1 n hn _ (clos_sq n es hin) n 0 (by omega)
  | succ d ih =>
    intro i hi hp
    refine ev_succ ?_
    have hm : wrap64 ((n : Int) - 1) = (n : Int) - 1 := w64 (by omega) (by omega)
    have e1 : ∀ x : Int, decide (x ≤ (n : Int) - 1) = decide (x < (n : Int)) := fun x => by rw [decide_eq_decide]; omega
    have h := fun (hq : cE (wrap64 ((n : Int) - 1)) es i = true) => ih (i + 1) (by omega) (fun x => hp (by rw [pfE, hq, x]; rfl))
    simp only [impl_IsPrecedence.l0, if_pos (show (i : Int) < (es.length : Int) by omega), if_pos (show (0 : Int) ≤ (i : Int) by omega), isNumber_eq _ (n : Int) (by omega) (by omega), Option.bind_some, pfE]
    have hcE : cE (wrap64 ((n : Int) - 1)) es i = (decide (0 ≤ (rd_T71 es (i : Int)).f0) && decide ((rd_T71 es (i : Int)).f0 < (n : Int)) && (decide (0 ≤ (rd_T71 es (i : Int)).f1) && decide ((rd_T71 es (i : Int)).f1 < (n : Int))) && !decide ((rd_T71 es (i : Int)).f0 = (rd_T71 es (i : Int)).f1) &&
        (decide (i = 0) || decide ((rd_T71 es ((i - 1 : Nat) : Int)).f0 < (rd_T71 es (i : Int)).f0) || decide ((rd_T71 es ((i - 1 : Nat) : Int)).f0 = (rd_T71 es (i : Int)).f0) && decide ((rd_T71 es ((i - 1 : Nat) : Int)).f1 < (rd_T71 es (i : Int)).f1))) := by
      unfold cE; rw [hm, e1, e1]
    by_cases ha : (decide (0 ≤ (rd_T71 es (i : Int)).f0) && decide ((rd_T71 es (i : Int)).f0 < (n : Int))) = true
    · by_cases hb : (decide (0 ≤ (rd_T71 es (i : Int)).f1) && decide ((rd_T71 es (i : Int)).f1 < (n : Int))) = true
      · simp only [ha, hb, if_true]
        refine ev_succ ?_
        rw [ha, hb] at hcE
        by_cases hc : (rd_T71 es (i : Int)).f0 = (rd_T71 es (i : Int)).f1
        · rw [hcE]
          simp only [impl_IsPrecedence.j2, hc, beq_self_eq_true, if_true, decide_true, Bool.not_true, Bool.and_false, Bool.false_and]; exact ev_now _
        · by_cases h0 : i = 0
          · have hc' : cE (wrap64 ((n : Int) - 1)) es i = true := by rw [hcE]; simp only [decide_eq_false hc, decide_eq_true h0]; rfl
            have h := h hc'
            rw [hc']
            subst h0
            simp only [impl_IsPrecedence.j2, beq_eq_false_iff_ne.mpr hc, Bool.false_eq_true, if_false, gt_iff_lt, if_neg (show ¬ ((0 : Int) < ((0 : Nat) : Int)) by omega), wsucc 0 (by omega), Bool.true_and]
            exact h
          · simp only [impl_IsPrecedence.j2, beq_eq_false_iff_ne.mpr hc, Bool.false_eq_true, if_false, gt_iff_lt, ge_iff_le, if_pos (show (0 : Int) < (i : Int) by omega), wpred i (by omega) (by omega), if_pos (show (0 : Int) ≤ ((i - 1 : Nat) : Int) by omega), if_pos (show ((i - 1 : Nat) : Int) < (es.length : Int) by omega), wsucc i (by omega)]
            by_cases g1 : (rd_T71 es (i : Int)).f0 < (rd_T71 es ((i - 1 : Nat) : Int)).f0
            · have hc' : cE (wrap64 ((n : Int) - 1)) es i = false := by rw [hcE]; simp only [decide_eq_false h0, decide_eq_false (show ¬ (rd_T71 es ((i - 1 : Nat) : Int)).f0 < (rd_T71 es (i : Int)).f0 by omega), decide_eq_false (show ¬ (rd_T71 es ((i - 1 : Nat) : Int)).f0 = (rd_T71 es (i : Int)).f0 by omega), Bool.false_and, Bool.false_or, Bool.or_false, Bool.and_false]
              simp only [if_pos g1, hc', Bool.false_and]; exact ev_now _
            · simp only [if_neg g1]
              by_cases g2 : (rd_T71 es ((i - 1 : Nat) : Int)).f0 = (rd_T71 es (i : Int)).f0
              · simp only [if_pos g2]
                by_cases g3 : (rd_T71 es (i : Int)).f1 ≤ (rd_T71 es ((i - 1 : Nat) : Int)).f1
                · have hc' : cE (wrap64 ((n : Int) - 1)) es i = false := by rw [hcE]; simp only [decide_eq_false h0, decide_eq_false (show ¬ (rd_T71 es ((i - 1 : Nat) : Int)).f0 < (rd_T71 es (i : Int)).f0 by omega), decide_eq_false (show ¬ (rd_T71 es ((i - 1 : Nat) : Int)).f1 < (rd_T71 es (i : Int)).f1 by omega), Bool.and_false, Bool.false_or, Bool.or_false]
                  simp only [if_pos g3, hc', Bool.false_and]; exact ev_now _
                · have hc' : cE (wrap64 ((n : Int) - 1)) es i = true := by rw [hcE]; simp only [decide_eq_false hc, decide_eq_true g2, decide_eq_true (show (rd_T71 es ((i - 1 : Nat) : Int)).f1 < (rd_T71 es (i : Int)).f1 by omega), Bool.and_true, Bool.or_true, Bool.not_false]
                  simp only [if_neg g3, hc', Bool.true_and]; exact h hc'
              · have hc' : cE (wrap64 ((n : Int) - 1)) es i = true := by rw [hcE]; simp only [decide_eq_false hc, decide_eq_true (show (rd_T71 es ((i - 1 : Nat) : Int)).f0 < (rd_T71 es (i : Int)).f0 by omega), Bool.and_true, Bool.or_true, Bool.true_or, Bool.not_false]
                simp only [if_neg g2, hc', Bool.true_and]; exact h hc'
      · have hb' : (decide (0 ≤ (rd_T71 es (i : Int)).f1) && decide ((rd_T71 es (i : Int)).f1 < (n : Int))) = false := by simpa using hb
        have hc' : cE (wrap64 ((n : Int) - 1)) es i = false := by rw [hcE, hb', Bool.and_false, Bool.false_and, Bool.false_and]
        simp only [ha, if_true, if_neg hb, hc', Bool.false_and]
        refine ev_succ ?_
        simp only [impl_IsPrecedence.j2, if_true]; exact ev_now _
    · have ha' : (decide (0 ≤ (rd_T71 es (i : Int)).f0) && decide ((rd_T71 es (i : Int)).f0 < (n : Int))) = false := by simpa using ha
      have hc' : cE (wrap64 ((n : Int) - 1)) es i = false := by rw [hcE, ha', Bool.false_and, Bool.false_and, Bool.false_and]
      simp only [if_neg ha, hc', Bool.false_and]
      refine ev_succ ?_
      simp only [impl_IsPrecedence.j2, if_true]; exact ev_now _
theorem isPrec_ev (n : Int) (es : List S71) : Ev (fun k => impl_IsPrecedence.f k n es) (good4 n es) := by
  unfold impl_IsPrecedence.f
  simp only [within_eq, Option.bind_some]
  by_cases h : 0 ≤ n ∧ n ≤ 8
  · obtain ⟨m, rfl⟩ := Int.eq_ofNat_of_zero_le h.1
    have hb : (decide (0 ≤ (m : Int)) && decide ((m : Int) ≤ 8)) = true := by simp; omega
    simp only [hb, if_true]
    refine ev_succ ?_
    by_cases hl : (es.length : Int) > 28
    · have : good4 (m : Int) es = false := by unfold good4 okE; rw [decide_eq_false (show ¬ (es.length : Int) ≤ 28 by omega)]; simp
      simp only [impl_IsPrecedence.j0, decide_eq_true hl, if_true, this]; exact ev_now _
    · simp only [impl_IsPrecedence.j0, decide_eq_false hl, Bool.false_eq_true, if_false]
      have hk : good4 (m : Int) es = (pfE (wrap64 ((m : Int) - 1)) es 0 es.length && acyF (closT m es) 0 m) := by
        unfold good4 okE; rw [hb, decide_eq_true (show (es.length : Int) ≤ 28 by omega)]; simp
      rw [hk]
      refine isPrec_l0 m (by omega) es (by omega) (fun hp => ?_) es.length 0 (by omega) (fun x => x)
      obtain ⟨m', e, _, _, hin⟩ := okE_in (m : Int) es (by unfold okE; rw [hp, hb, decide_eq_true (show (es.length : Int) ≤ 28 by omega)]; rfl)
      rw [show m = m' by omega]; exact hin
  · have hb : (decide (0 ≤ n) && decide (n ≤ 8)) = false := by
      rw [Bool.eq_false_iff]; intro x; simp only [Bool.and_eq_true, decide_eq_true_eq] at x; exact h x
    have : good4 n es = false := by unfold good4 okE; rw [hb]; simp
    simp only [hb, Bool.false_eq_true, if_false, this]
    refine ev_succ ?_
    simp only [impl_IsPrecedence.j0, if_true]; exact ev_now _

theorem tb_put {n : Nat} {t : List (List Bool)} (h : Sq n t) (i j a b : Nat) (hi : i < n) (hj : j < n) (ha : a < n) (hb : b < n) (v : Bool) : tb (putT t i j v) a b = if a = i ∧ b = j then v else tb t a b := by
  have hl := h.1
  have hri := h.row i hi
  have hg : t.getD i [] = t[i] := by rw [List.getD_eq_getElem?_getD, List.getElem?_eq_getElem (by omega)]; rfl
  unfold tb putT
  rw [hg]
  by_cases c : a = i
  · subst c
    rw [List.getD_eq_getElem?_getD (l := t.set a _), List.getElem?_set_self (by omega), Option.getD_some, hg]
    by_cases cb : b = j
    · subst cb
      rw [if_pos ⟨rfl, rfl⟩, List.getD_eq_getElem?_getD, List.getElem?_set_self (by omega), Option.getD_some]
    · rw [if_neg (fun x => cb x.2), List.getD_eq_getElem?_getD, List.getElem?_set_ne (fun x => cb x.symm), ← List.getD_eq_getElem?_getD]
  · rw [if_neg (fun x => c x.1), List.getD_eq_getElem?_getD (l := t.set i _), List.getElem?_set_ne (fun x => c x.symm), ← List.getD_eq_getElem?_getD]
/-- What a phase has done at the places S. -/
def Phase (n k : Nat) (t t' : List (List Bool)) (S : Nat → Nat → Prop) : Prop := Sq n t' ∧ ∀ a b, a < n → b < n → (tb t' a b = true ↔ tb t a b = true ∨ S a b ∧ tb t a k = true ∧ tb t k b = true)
theorem Phase.step {n k : Nat} {t t' : List (List Bool)} {S : Nat → Nat → Prop} (h : Phase n k t t' S) (hk : k < n) (i j : Nat) (hi : i < n) (hj : j < n) : Phase n k t (stepT t' k i j) (fun a b => S a b ∨ a = i ∧ b = j) := by
  refine ⟨h.1.step k i j hi, fun a b ha hb => ?_⟩
  have h1 : tb t' i k = true ↔ tb t i k = true := by
    rw [h.2 i k hi hk]
    exact ⟨fun x => x.elim id (fun y => y.2.1), Or.inl⟩
  have h2 : tb t' k j = true ↔ tb t k j = true := by
    rw [h.2 k j hk hj]
    exact ⟨fun x => x.elim id (fun y => y.2.2), Or.inl⟩
  unfold stepT
  by_cases c : (tb t' i k && tb t' k j) = true
  · rw [if_pos c, tb_put h.1 i j a b hi hj ha hb]
    rw [Bool.and_eq_true, h1, h2] at c
    by_cases e : a = i ∧ b = j
    · rw [if_pos e]
      obtain ⟨rfl, rfl⟩ := e
      exact ⟨fun _ => Or.inr ⟨Or.inr ⟨rfl, rfl⟩, c.1, c.2⟩, fun _ => rfl⟩
    · rw [if_neg e, h.2 a b ha hb]
      exact ⟨fun x => x.imp id (fun y => ⟨Or.inl y.1, y.2⟩), fun x => x.imp id (fun y => ⟨y.1.resolve_right e, y.2⟩)⟩
  · rw [if_neg c, h.2 a b ha hb]
    rw [Bool.and_eq_true, h1, h2] at c
    refine ⟨fun x => x.imp id (fun y => ⟨Or.inl y.1, y.2⟩), fun x => ?_⟩
    rcases x with x | ⟨s | ⟨rfl, rfl⟩, y⟩
    · exact Or.inl x
    · exact Or.inr ⟨s, y⟩
    · exact absurd y c
theorem Phase.congr {n k : Nat} {t t' : List (List Bool)} {S S' : Nat → Nat → Prop} (h : Phase n k t t' S) (e : ∀ a b, a < n → b < n → (S a b ↔ S' a b)) : Phase n k t t' S' := ⟨h.1, fun a b ha hb => by rw [h.2 a b ha hb, e a b ha hb]⟩
theorem Phase.row {n k : Nat} {t : List (List Bool)} (hk : k < n) (i : Nat) (hi : i < n) : ∀ (js : List Nat) (t' : List (List Bool)) (S : Nat → Nat → Prop), (∀ j ∈ js, j < n) → Phase n k t t' S → Phase n k t (rowF t' k i js) (fun a b => S a b ∨ a = i ∧ b ∈ js) := by
  intro js
  induction js with
  | nil => intro t' S _ h; exact h.congr (fun a b _ _ => by simp)
  | cons j js ih =>
    intro t' S hj h
    have h' := ih (stepT t' k i j) _ (fun x hx => hj x (by simp [hx])) (h.step hk i j hi (hj j (by simp)))
    refine Phase.congr h' (fun a b _ _ => ?_)
    constructor
    · rintro ((s | ⟨rfl, rfl⟩) | ⟨rfl, hb⟩)
      · exact Or.inl s
      · exact Or.inr ⟨rfl, by simp⟩
      · exact Or.inr ⟨rfl, by simp [hb]⟩
    · rintro (s | ⟨rfl, hb⟩)
      · exact Or.inl (Or.inl s)
      · rcases List.mem_cons.mp hb with rfl | hb
        · exact Or.inl (Or.inr ⟨rfl, rfl⟩)
        · exact Or.inr ⟨rfl, hb⟩
theorem Phase.mid {n k : Nat} {t : List (List Bool)} (hk : k < n) : ∀ (is : List Nat) (t' : List (List Bool)) (S : Nat → Nat → Prop), (∀ i ∈ is, i < n) → Phase n k t t' S → Phase n k t (midF n t' k is) (fun a b => S a b ∨ a ∈ is) := by
  intro is
  induction is with
  | nil => intro t' S _ h; exact h.congr (fun a b _ _ => by simp)
  | cons i is ih =>
    intro t' S hi h
    have h' := ih (rowF t' k i (List.range' 0 n)) _ (fun x hx => hi x (by simp [hx])) (Phase.row hk i (hi i (by simp)) (List.range' 0 n) t' S (fun j hj => by rw [List.mem_range'_1] at hj; omega) h)
    refine Phase.congr h' (fun a b _ hb => ?_)
    constructor
    · rintro ((s | ⟨rfl, _⟩) | hm)
      · exact Or.inl s
      · exact Or.inr (by simp)
      · exact Or.inr (by simp [hm])
    · rintro (s | hm)
      · exact Or.inl (Or.inl s)
      · rcases List.mem_cons.mp hm with rfl | hm
        · exact Or.inl (Or.inr ⟨rfl, by rw [List.mem_range'_1]; omega⟩)
        · exact Or.inr hm
theorem acy_irr (n : Nat) (t : List (List Bool)) : ∀ (d i : Nat), acyF t i d = true → ∀ j, i ≤ j → j < i + d → tb t j j = false := by
  intro d
  induction d with
  | zero => intro i _ j h1 h2; omega
  | succ d ih =>
    intro i h j h1 h2
    unfold acyF at h
    rw [Bool.and_eq_true] at h
    by_cases e : j = i
    · subst e; simpa using h.1
    · exact ih (i + 1) h.2 j (by omega) (by omega)
/-- What a good precedence gives. -/
theorem good4_facts (n : Int) (es : List S71) (h : good4 n es = true) : ∃ m : Nat, n = m ∧ m ≤ 8 ∧ es.length ≤ 28 ∧ inN m es ∧ (∀ j, j < m → tb (closT m es) j j = false) := by
  unfold good4 at h
  rw [Bool.and_eq_true] at h
  obtain ⟨m, rfl, h1, h2, h3⟩ := okE_in n es h.1
  refine ⟨m, rfl, h1, h2, h3, fun j hj => ?_⟩
  have := h.2
  rw [Int.toNat_natCast] at this
  exact acy_irr m _ m 0 this j (by omega) (by omega)
theorem shrN (c i : Nat) (h : i ≤ 64) : shr .i64 (c : Int) (i : Int) = ((c / 2 ^ i : Nat) : Int) := by
  unfold shr
  rw [Int.toNat_natCast, Nat.min_eq_left (show i ≤ IntKind.i64.bits from h)]
  rw [Int.natCast_ediv, Int.natCast_pow]
  rfl
theorem and1 : ∀ m : Nat, m < 256 → Go.bits .and .i64 (m : Int) 1 = ((m % 2 : Nat) : Int) := by decide +kernel
theorem shl1 : ∀ i : Nat, i < 9 → shl .i64 1 (i : Int) = ((2 ^ i : Nat) : Int) := by decide +kernel
theorem pow8 (n : Nat) (h : n ≤ 8) : 2 ^ n ≤ 256 := Nat.pow_le_pow_right (by omega) h
theorem shr_and (c i : Nat) (hc : c < 256) (hi : i ≤ 64) : Go.bits .and .i64 (shr .i64 (c : Int) (i : Int)) 1 = ((c / 2 ^ i % 2 : Nat) : Int) := by
  rw [shrN c i hi]
  exact and1 _ (Nat.lt_of_le_of_lt (Nat.div_le_self _ _) hc)
theorem mod1 {x : Nat} (h : x % 2 = 1) : ((x % 2 : Nat) : Int) = 1 := by rw [h]; rfl
theorem mod0 {x : Nat} (h : ¬ x % 2 = 1) : ((x % 2 : Nat) : Int) = 0 := by rw [show x % 2 = 0 by omega]; rfl
theorem mod1' {x : Nat} (h : x % 2 = 1) : ¬ ((x % 2 : Nat) : Int) = 0 := by rw [h]; decide
theorem mod0' {x : Nat} (h : ¬ x % 2 = 1) : ¬ ((x % 2 : Nat) : Int) = 1 := by rw [show x % 2 = 0 by omega]; decide
/-- The numbers of the bits of c, from i on. -/
def blF (c i : Nat) : Nat → List Int
  | 0 => []
  | d + 1 => if c / 2 ^ i % 2 = 1 then (i : Int) :: blF c (i + 1) d else blF c (i + 1) d
theorem blF_nil (c : Nat) : ∀ d i : Nat, c / 2 ^ i = 0 → blF c i d = [] := by
  intro d
  induction d with
  | zero => intro i _; rfl
  | succ d ih =>
    intro i h
    unfold blF
    rw [if_neg (by omega)]
    refine ih (i + 1) ?_
    rw [Nat.pow_succ, ← Nat.div_div_eq_div_mul, h]
theorem blF_mem (c : Nat) : ∀ d i : Nat, ∀ x ∈ blF c i d, ∃ j : Nat, x = (j : Int) ∧ i ≤ j ∧ j < i + d ∧ c / 2 ^ j % 2 = 1 := by
  intro d
  induction d with
  | zero => intro i x hx; simp [blF] at hx
  | succ d ih =>
    intro i x hx
    unfold blF at hx
    split at hx
    · rcases List.mem_cons.mp hx with rfl | hx
      · exact ⟨i, rfl, by omega, by omega, by assumption⟩
      · obtain ⟨j, a, b, e, f⟩ := ih (i + 1) x hx
        exact ⟨j, a, by omega, by omega, f⟩
    · obtain ⟨j, a, b, e, f⟩ := ih (i + 1) x hx
      exact ⟨j, a, by omega, by omega, f⟩
theorem blF_len (c : Nat) : ∀ d i : Nat, (blF c i d).length ≤ d := by
  intro d
  induction d with
  | zero => intro i; exact Nat.le_refl _
  | succ d ih =>
    intro i
    unfold blF
    have := ih (i + 1)
    split
    · rw [List.length_cons]; omega
    · omega
theorem rdz (xs : List Int) (i : Nat) (h : i < xs.length) : rd xs (i : Int) = xs[i] := by
  unfold rd
  rw [Int.toNat_natCast, List.getD_eq_getElem?_getD, List.getElem?_eq_getElem h]
  rfl
theorem bit_full : ∀ n : Nat, n < 9 → ∀ j : Nat, j < n → (2 ^ n - 1) / 2 ^ j % 2 = 1 := by decide +kernel
def bitB (c j : Nat) : Bool := decide (c / 2 ^ j % 2 = 1)

theorem l1Has_ev (ls : List Int) (x : Int) (hn : ls.length ≤ 1048576) : Ev (fun k => spec_l1Has.f k ls x) (decide (x ∈ ls)) := by
  have key : ∀ (d i : Nat), i + d = ls.length → Ev (fun k => spec_l1Has.l0 k ls x (i : Int)) (decide (x ∈ ls.drop i)) := by
    intro d
    induction d with
    | zero =>
      intro i hi
      refine ev_succ ?_
      rw [List.drop_of_length_le (by omega)]
      simp only [spec_l1Has.l0, if_neg (show ¬ (i : Int) < (ls.length : Int) by omega), List.not_mem_nil, decide_false]
      exact ev_now _
    | succ d ih =>
      intro i hi
      refine ev_succ ?_
      have hx : i < ls.length := by omega
      rw [List.drop_eq_getElem_cons hx]
      simp only [spec_l1Has.l0, if_pos (show (i : Int) < (ls.length : Int) by omega), if_pos (show (0 : Int) ≤ (i : Int) by omega), rdz ls i hx, wsucc i (by omega)]
      by_cases c : ls[i] = x
      · simp only [if_pos c, List.mem_cons, show x = ls[i] from c.symm, true_or, decide_true]; exact ev_now _
      · simp only [if_neg c, List.mem_cons, show ¬ x = ls[i] from fun e => c e.symm, false_or]; exact ih (i + 1) (by omega)
  have h := key ls.length 0 (Nat.zero_add _)
  rw [List.drop_zero] at h
  unfold spec_l1Has.f
  exact h

theorem rdW (o : List Int) (n : Nat) (h : n < o.length) : rd o (n : Int) = o[n] := by
  simp [rd]
  rw [List.getElem?_eq_getElem h]; rfl

/-- Where a number goes among sorted ones: ahead of the first that it comes ahead of. -/
def posW (lt : Int → Int → Bool) (i : Int) (o : List Int) : Nat := o.findIdx (fun b => lt i b)
def insW (lt : Int → Int → Bool) (i : Int) (o : List Int) : List Int := o.take (posW lt i o) ++ i :: o.drop (posW lt i o)
def sortW (lt : Int → Int → Bool) : List Int → List Int → List Int
  | [], o => o
  | i :: t, o => sortW lt t (insW lt i o)
structure OrdW (lt : Int → Int → Bool) (D : Int → Prop) : Prop where
  asym : ∀ a b, D a → D b → lt a b = true → lt b a = false
  co : ∀ i a b, D i → D a → D b → lt i a = true → lt b a = false → lt i b = true
abbrev SortedW (lt : Int → Int → Bool) (o : List Int) : Prop := o.Pairwise (fun a b => lt b a = false)
theorem posW_le (lt : Int → Int → Bool) (i : Int) (o : List Int) : posW lt i o ≤ o.length := List.findIdx_le_length
theorem posW_before {lt : Int → Int → Bool} {i : Int} {o : List Int} {j : Nat} (h : j < posW lt i o) : lt i (o[j]'(Nat.lt_of_lt_of_le h (posW_le _ _ _))) = false := by
  have := List.not_of_lt_findIdx (p := fun b => lt i b) h
  simpa using this
theorem posW_at {lt : Int → Int → Bool} {i : Int} {o : List Int} (h : posW lt i o < o.length) : lt i (o[posW lt i o]'h) = true := List.findIdx_getElem (w := h)
theorem posW_behind {lt : Int → Int → Bool} {D : Int → Prop} (H : OrdW lt D) {i : Int} {o : List Int} (hi : D i) (ho : ∀ b ∈ o, D b) (hs : SortedW lt o) {j : Nat} (hj : posW lt i o ≤ j) (hl : j < o.length) : lt i (o[j]'hl) = true := by
  have hp : posW lt i o < o.length := by omega
  have h0 := posW_at hp
  rcases Nat.lt_or_ge (posW lt i o) j with h | h
  · have h1 := List.pairwise_iff_getElem.1 hs _ _ hp hl h
    exact H.co i _ _ hi (ho _ (List.getElem_mem hp)) (ho _ (List.getElem_mem hl)) h0 h1
  · have : j = posW lt i o := by omega
    subst this
    exact h0
theorem insW_perm (lt : Int → Int → Bool) (i : Int) (o : List Int) : (insW lt i o).Perm (i :: o) := by
  unfold insW
  refine List.perm_middle.trans ?_
  rw [List.take_append_drop]
theorem insW_sorted {lt : Int → Int → Bool} {D : Int → Prop} (H : OrdW lt D) {i : Int} {o : List Int} (hi : D i) (ho : ∀ b ∈ o, D b) (hs : SortedW lt o) : SortedW lt (insW lt i o) := by
  unfold insW SortedW
  rw [List.pairwise_append]
  refine ⟨hs.sublist (List.take_sublist _ _), List.pairwise_cons.2 ⟨?_, hs.sublist (List.drop_sublist _ _)⟩, ?_⟩
  · intro b hb
    obtain ⟨j, hj, rfl⟩ := List.mem_iff_getElem.1 hb
    rw [List.getElem_drop]
    have hl : posW lt i o + j < o.length := by rw [List.length_drop] at hj; omega
    exact H.asym _ _ hi (ho _ (List.getElem_mem hl)) (posW_behind H hi ho hs (by omega) hl)
  · intro a ha b hb
    obtain ⟨j, hj, rfl⟩ := List.mem_iff_getElem.1 ha
    have hjp : j < posW lt i o := by rw [List.length_take] at hj; omega
    rw [List.getElem_take]
    rcases List.mem_cons.1 hb with rfl | hb
    · exact posW_before hjp
    · obtain ⟨q, hq, rfl⟩ := List.mem_iff_getElem.1 hb
      have hl : posW lt i o + q < o.length := by rw [List.length_drop] at hq; omega
      rw [List.getElem_drop]
      exact List.pairwise_iff_getElem.1 hs _ _ _ hl (by omega)
theorem sortW_perm (lt : Int → Int → Bool) : ∀ (l o : List Int), (sortW lt l o).Perm (l ++ o)
  | [], o => by unfold sortW; exact List.Perm.refl _
  | i :: t, o => by
    unfold sortW
    refine (sortW_perm lt t _).trans ?_
    refine ((List.Perm.append_left t (insW_perm lt i o))).trans ?_
    exact List.perm_middle
theorem sortW_append (lt : Int → Int → Bool) : ∀ (a b o : List Int), sortW lt (a ++ b) o = sortW lt b (sortW lt a o)
  | [], b, o => rfl
  | i :: t, b, o => by simp only [List.cons_append, sortW]; exact sortW_append lt t b _

theorem sbK_pos {p : Int → Option Bool} {f : Int → Bool} {o : List Int} {t : Nat} (hp : ∀ b ∈ o, p b = some (f b)) (ht : t ≤ o.length) (h1 : ∀ j (hj : j < o.length), t ≤ j → f o[j] = true) (h2 : ∀ j (hj : j < o.length), j < t → f o[j] = false) :
    ∀ n, n ≤ o.length → t ≤ n → sbK p o n = some t
  | 0, _, h => by
    have : t = 0 := by omega
    subst this
    rfl
  | n + 1, hn, h => by
    unfold sbK
    rw [rdW o n (by omega), hp _ (List.getElem_mem (by omega)), Option.bind_some]
    rcases Nat.lt_or_ge n t with hlt | hge
    · rw [h2 n (by omega) hlt, if_neg (by simp)]
      congr 1; omega
    · rw [h1 n (by omega) hge, if_pos rfl]
      exact sbK_pos hp ht h1 h2 n (by omega) hge
theorem sbL_eq {p : Int → Int → Option Bool} {lt : Int → Int → Bool} {D : Int → Prop} (H : OrdW lt D) (hp : ∀ a b, D a → D b → p a b = some (lt a b)) : ∀ (l o : List Int), (∀ b ∈ l, D b) → (∀ b ∈ o, D b) → SortedW lt o → sbL p l o = some (sortW lt l o)
  | [], o, _, _, _ => rfl
  | i :: t, o, hl, ho, hs => by
    have hi : D i := hl i (by simp)
    unfold sbL sortW
    rw [sbK_pos (f := fun b => lt i b) (t := posW lt i o) (fun b hb => hp i b hi (ho b hb)) (posW_le _ _ _) (fun j hj h => posW_behind H hi ho hs h hj) (fun j hj h => posW_before h) _ (Nat.le_refl _) (posW_le _ _ _), Option.bind_some]
    refine sbL_eq H hp t _ (fun b hb => hl b (by simp [hb])) ?_ (insW_sorted H hi ho hs)
    intro b hb
    rcases List.mem_cons.1 ((insW_perm lt i o).mem_iff.1 hb) with rfl | h
    · exact hi
    · exact ho b h

theorem listOf_l (c n : Nat) (hn : n ≤ 8) (hc : c < 2 ^ n) : ∀ (d i : Nat) (acc : List Int), i + d = n → acc.length ≤ i → Ev (fun k => impl_listOf.l0 k (c : Int) acc (i : Int)) (acc ++ blF c i d) := by
  intro d
  have h8 := pow8 n hn
  induction d with
  | zero =>
    intro i acc hi ha
    refine ev_succ ?_
    have hz : c / 2 ^ i = 0 := Nat.div_eq_of_lt (by rw [show i = n by omega]; exact hc)
    simp only [impl_listOf.l0, if_pos (show (0 : Int) ≤ (i : Int) by omega), shrN c i (by omega), hz, gt_iff_lt, if_neg (show ¬ (0 : Int) < ((0 : Nat) : Int) by omega), blF, List.append_nil]
    exact ev_now _
  | succ d ih =>
    intro i acc hi ha
    refine ev_succ ?_
    by_cases hz : c / 2 ^ i = 0
    · rw [blF_nil c _ i hz, List.append_nil]
      simp only [impl_listOf.l0, if_pos (show (0 : Int) ≤ (i : Int) by omega), shrN c i (by omega), hz, gt_iff_lt, if_neg (show ¬ (0 : Int) < ((0 : Nat) : Int) by omega)]
      exact ev_now _
    · simp only [impl_listOf.l0, if_pos (show (0 : Int) ≤ (i : Int) by omega), shr_and c i (by omega) (by omega), blF, wsucc i (by omega)]
      simp only [shrN c i (by omega), gt_iff_lt, if_pos (Int.natCast_pos.mpr (Nat.pos_of_ne_zero hz))]
      by_cases hb : c / 2 ^ i % 2 = 1
      · have h := ih (i + 1) (acc ++ [(i : Int)]) (by omega) (by rw [List.length_append, List.length_singleton]; omega)
        rw [List.append_assoc] at h
        simp only [if_pos hb, if_pos (mod1 hb), if_pos (show acc.length < 17592186044416 by omega)]
        exact h
      · simp only [if_neg hb, if_neg (mod0' hb)]
        exact ih (i + 1) acc (by omega) (by omega)
theorem listOf_ev (c n : Nat) (hn : n ≤ 8) (hc : c < 2 ^ n) : Ev (fun k => impl_listOf.f k (c : Int)) (blF c 0 n) := by
  unfold impl_listOf.f
  exact listOf_l c n hn hc n 0 [] (by omega) (by simp)

theorem l4Set_l (c n : Nat) (hn : n ≤ 8) (hc : c < 256) : ∀ (d i : Nat) (acc : List Int), i + d = n → acc.length ≤ i → Ev (fun k => spec_l4Set.l0 k (n : Int) (c : Int) acc (i : Int)) (acc ++ blF c i d) := by
  intro d
  induction d with
  | zero =>
    intro i acc hi _
    refine ev_succ ?_
    simp only [spec_l4Set.l0, if_neg (show ¬ (i : Int) < (n : Int) by omega), blF, List.append_nil]
    exact ev_now _
  | succ d ih =>
    intro i acc hi ha
    refine ev_succ ?_
    simp only [spec_l4Set.l0, if_pos (show (i : Int) < (n : Int) by omega), if_pos (show (0 : Int) ≤ (i : Int) by omega), shr_and c i hc (by omega), blF, wsucc i (by omega)]
    by_cases hb : c / 2 ^ i % 2 = 1
    · have h := ih (i + 1) (acc ++ [(i : Int)]) (by omega) (by rw [List.length_append, List.length_singleton]; omega)
      rw [List.append_assoc] at h
      simp only [if_pos hb, if_pos (mod1 hb), if_pos (show acc.length < 17592186044416 by omega)]
      exact h
    · simp only [if_neg hb, if_neg (mod0' hb)]
      exact ih (i + 1) acc (by omega) (by omega)
theorem l4Set_ev (c n : Nat) (hn : n ≤ 8) (hc : c < 256) : Ev (fun k => spec_l4Set.f k (n : Int) (c : Int)) (blF c 0 n) := by
  unfold spec_l4Set.f
  exact l4Set_l c n hn hc n 0 [] (by omega) (by simp)
theorem blF_hasB (c : Nat) : ∀ (d i j : Nat), i ≤ j → j < i + d → c / 2 ^ j % 2 = 1 → (j : Int) ∈ blF c i d := by
  intro d
  induction d with
  | zero => intro i j h1 h2; omega
  | succ d ih =>
    intro i j h1 h2 hb
    unfold blF
    by_cases e : i = j
    · subst e
      rw [if_pos hb]
      exact List.mem_cons_self
    · have := ih (i + 1) j (by omega) (by omega) hb
      split
      · exact List.mem_cons_of_mem _ this
      · exact this
theorem blF_inj {c c' n : Nat} (hc : c < 2 ^ n) (hc' : c' < 2 ^ n) (h : blF c 0 n = blF c' 0 n) : c = c' := by
  apply Nat.eq_of_testBit_eq
  intro j
  have key : ∀ a b : Nat, a < 2 ^ n → blF a 0 n = blF b 0 n → a / 2 ^ j % 2 = 1 → b / 2 ^ j % 2 = 1 := by
    intro a b ha he hj
    have hjn : j < n := by
      rcases Nat.lt_or_ge j n with h | h
      · exact h
      · have h1 : 2 ^ n ≤ 2 ^ j := Nat.pow_le_pow_right (by omega) h
        rw [Nat.div_eq_of_lt (by omega)] at hj; omega
    have hm := blF_hasB a n 0 j (by omega) (by omega) hj
    rw [he] at hm
    obtain ⟨q, hq, _, _, hb⟩ := blF_mem b n 0 _ hm
    have : j = q := by omega
    rw [this]
    exact hb
  rw [Nat.testBit_eq_decide_div_mod_eq, Nat.testBit_eq_decide_div_mod_eq]
  exact decide_eq_decide.2 ⟨key c c' hc h, key c' c hc' h.symm⟩
def lexB : List Int → List Int → Bool
  | a :: s, b :: t => if a = b then lexB s t else decide (a < b)
  | _, _ => false
def ltB (a b : List Int) : Bool := if a.length = b.length then lexB a b else decide (a.length < b.length)
theorem lexB_asym : ∀ s t : List Int, lexB s t = true → lexB t s = false
  | [], _, h => by simp [lexB] at h
  | _ :: _, [], h => by simp [lexB] at h
  | a :: s, b :: t, h => by
    unfold lexB at h ⊢
    by_cases e : a = b
    · rw [if_pos e] at h; rw [if_pos e.symm]; exact lexB_asym s t h
    · rw [if_neg e] at h; rw [if_neg (fun h => e h.symm)]
      simp only [decide_eq_true_eq] at h; exact decide_eq_false (by omega)
theorem lexB_co : ∀ i a b : List Int, i.length = a.length → a.length = b.length → lexB i a = true → lexB b a = false → lexB i b = true
  | [], _, _, _, _, h, _ => by simp [lexB] at h
  | _ :: _, [], _, h, _, _, _ => by simp at h
  | _ :: _, _ :: _, [], _, h, _, _ => by simp at h
  | x :: i, y :: a, z :: b, l1, l2, h1, h2 => by
    rw [List.length_cons, List.length_cons] at l1 l2
    unfold lexB at h1 h2 ⊢
    by_cases e1 : x = y
    · rw [if_pos e1] at h1
      by_cases e2 : z = y
      · rw [if_pos e2] at h2; rw [if_pos (by omega)]; exact lexB_co i a b (by omega) (by omega) h1 h2
      · rw [if_neg e2] at h2; have h2 := of_decide_eq_false h2; rw [if_neg (by omega)]; exact decide_eq_true (by omega)
    · rw [if_neg e1] at h1; have h1 := of_decide_eq_true h1
      by_cases e2 : z = y
      · rw [if_neg (by omega)]; exact decide_eq_true (by omega)
      · rw [if_neg e2] at h2; have h2 := of_decide_eq_false h2; rw [if_neg (by omega)]; exact decide_eq_true (by omega)
theorem lexB_tot : ∀ s t : List Int, s.length = t.length → lexB s t = false → lexB t s = false → s = t
  | [], [], _, _, _ => rfl
  | [], _ :: _, h, _, _ => by simp at h
  | _ :: _, [], h, _, _ => by simp at h
  | a :: s, b :: t, l, h1, h2 => by
    rw [List.length_cons, List.length_cons] at l
    unfold lexB at h1 h2
    by_cases e : a = b
    · rw [if_pos e] at h1; rw [if_pos e.symm] at h2; rw [e, lexB_tot s t (by omega) h1 h2]
    · rw [if_neg e] at h1; rw [if_neg (fun h => e h.symm)] at h2
      have h1 := of_decide_eq_false h1
      have h2 := of_decide_eq_false h2
      omega
theorem ltB_asym (a b : List Int) (h : ltB a b = true) : ltB b a = false := by
  unfold ltB at *
  by_cases e : a.length = b.length
  · rw [if_pos e] at h; rw [if_pos e.symm]; exact lexB_asym a b h
  · rw [if_neg e] at h; rw [if_neg (fun h => e h.symm)]; have h := of_decide_eq_true h; exact decide_eq_false (by omega)
theorem ltB_co (i a b : List Int) (h1 : ltB i a = true) (h2 : ltB b a = false) : ltB i b = true := by
  unfold ltB at *
  by_cases e1 : i.length = a.length
  · rw [if_pos e1] at h1
    by_cases e2 : b.length = a.length
    · rw [if_pos e2] at h2; rw [if_pos (by omega)]; exact lexB_co i a b e1 e2.symm h1 h2
    · rw [if_neg e2] at h2; have h2 := of_decide_eq_false h2; rw [if_neg (by omega)]; exact decide_eq_true (by omega)
  · rw [if_neg e1] at h1; have h1 := of_decide_eq_true h1
    by_cases e2 : b.length = a.length
    · rw [if_neg (by omega)]; exact decide_eq_true (by omega)
    · rw [if_neg e2] at h2; have h2 := of_decide_eq_false h2; rw [if_neg (by omega)]; exact decide_eq_true (by omega)
theorem ltB_tot (a b : List Int) (h1 : ltB a b = false) (h2 : ltB b a = false) : a = b := by
  unfold ltB at *
  by_cases e : a.length = b.length
  · rw [if_pos e] at h1; rw [if_pos e.symm] at h2; exact lexB_tot a b e h1 h2
  · rw [if_neg e] at h1; rw [if_neg (fun h => e h.symm)] at h2
    have h1 := of_decide_eq_false h1
    have h2 := of_decide_eq_false h2
    omega
theorem l4Less_ev (a b : List Int) (ha : a.length ≤ 8) : Ev (fun k => spec_l4Less.f k a b) (ltB a b) := by
  have main : a.length = b.length → ∀ (d i : Nat), i + d = a.length → Ev (fun k => spec_l4Less.l0 k a b (i : Int)) (lexB (a.drop i) (b.drop i)) := by
    intro hl d
    induction d with
    | zero =>
      intro i hi
      refine ev_succ ?_
      simp only [spec_l4Less.l0, if_neg (show ¬ (i : Int) < (a.length : Int) by omega)]
      rw [List.drop_eq_nil_of_le (show a.length ≤ i by omega)]
      exact ev_now _
    | succ d ih =>
      intro i hi
      refine ev_succ ?_
      have h1 : i < a.length := by omega
      have h2 : i < b.length := by omega
      rw [List.drop_eq_getElem_cons h1, List.drop_eq_getElem_cons h2]
      simp only [spec_l4Less.l0, if_pos (show (i : Int) < (a.length : Int) by omega), if_pos (show (0 : Int) ≤ (i : Int) by omega), if_pos (show (i : Int) < (b.length : Int) by omega), rdW a i h1, rdW b i h2, wsucc i (by omega), lexB]
      by_cases e : a[i] = b[i]
      · simp only [if_pos e]; exact ih (i + 1) (by omega)
      · simp only [if_neg e]; exact ev_now _
  unfold spec_l4Less.f ltB
  by_cases e : a.length = b.length
  · simp only [if_pos (show (a.length : Int) = (b.length : Int) by omega), if_pos e]
    exact main e a.length 0 (by omega)
  · simp only [if_neg (show ¬ (a.length : Int) = (b.length : Int) by omega), if_neg e]
    rw [show decide ((a.length : Int) < (b.length : Int)) = decide (a.length < b.length) from decide_eq_decide.2 (by omega)]
    exact ev_now _
theorem cmp_l0 (a b : List Int) (ha : a.length ≤ 8) (hl : a.length = b.length) (h1 : ∀ x ∈ a, 0 ≤ x ∧ x ≤ 1000) (h2 : ∀ x ∈ b, 0 ≤ x ∧ x ≤ 1000) : ∀ (d i : Nat), i + d = a.length → ∃ c : Int, Ev (fun k => impl_compareLists.l0 k a b (i : Int)) c ∧ decide (c > 0) = lexB (b.drop i) (a.drop i) := by
  intro d
  induction d with
  | zero =>
    intro i hi
    refine ⟨0, ev_succ ?_, ?_⟩
    · simp only [impl_compareLists.l0, if_neg (show ¬ ((i : Int) < (a.length : Int)) by omega)]
      refine ev_succ ?_
      simp only [impl_compareLists.j1, Bool.false_eq_true, if_false]
      rw [w64 (by omega) (by omega), show (a.length : Int) - (b.length : Int) = 0 by omega]
      exact ev_now _
    · rw [List.drop_eq_nil_of_le (show b.length ≤ i by omega)]
      rfl
  | succ d ih =>
    intro i hi
    have hia : i < a.length := by omega
    have hib : i < b.length := by omega
    rw [List.drop_eq_getElem_cons hia, List.drop_eq_getElem_cons hib]
    by_cases he : a[i] = b[i]
    · obtain ⟨c, e1, e2⟩ := ih (i + 1) (by omega)
      refine ⟨c, ev_succ ?_, ?_⟩
      · simp only [impl_compareLists.l0, if_pos (show ((i : Int) < (a.length : Int)) by omega), decide_eq_true (show ((i : Int) < (b.length : Int)) by omega)]
        refine ev_succ ?_
        simp only [impl_compareLists.j1, if_true, if_pos (show (0 : Int) ≤ (i : Int) by omega), if_pos (show ((i : Int) < (a.length : Int)) by omega), if_pos (show ((i : Int) < (b.length : Int)) by omega), rdW a i hia, rdW b i hib, if_pos he, wsucc i (by omega)]
        exact e1
      · rw [e2, lexB, if_pos he.symm]
    · have b1 := h1 _ (List.getElem_mem hia)
      have b2 := h2 _ (List.getElem_mem hib)
      refine ⟨a[i] - b[i], ev_succ ?_, ?_⟩
      · simp only [impl_compareLists.l0, if_pos (show ((i : Int) < (a.length : Int)) by omega), decide_eq_true (show ((i : Int) < (b.length : Int)) by omega)]
        refine ev_succ ?_
        simp only [impl_compareLists.j1, if_true, if_pos (show (0 : Int) ≤ (i : Int) by omega), if_pos (show ((i : Int) < (a.length : Int)) by omega), if_pos (show ((i : Int) < (b.length : Int)) by omega), rdW a i hia, rdW b i hib, if_neg he, w64 (x := a[i] - b[i]) (by omega) (by omega)]
        exact ev_now _
      · rw [lexB, if_neg (fun h => he h.symm)]
        exact decide_eq_decide.2 (by omega)
def okS (x : List Int) : Prop := x.length ≤ 8 ∧ ∀ y ∈ x, 0 ≤ y ∧ y ≤ 1000
def ltI (l : List (List Int)) (i j : Int) : Bool := ltB (osB l i) (osB l j)
theorem osP_ev (l : List (List Int)) (i j : Int) (hi : okS (osB l i)) (hj : okS (osB l j)) : Ev (fun k => osP k l i j) (ltI l i j) := by
  unfold osP ltI ltB
  by_cases c1 : (osB l j).length > (osB l i).length
  · simp only [if_pos (show ((osB l j).length : Int) > ((osB l i).length : Int) by omega), if_neg (show ¬ (osB l i).length = (osB l j).length by omega), decide_eq_true (show (osB l i).length < (osB l j).length by omega)]
    exact ev_now _
  · by_cases c2 : (osB l j).length = (osB l i).length
    · simp only [if_neg (show ¬ ((osB l j).length : Int) > ((osB l i).length : Int) by omega), if_pos (show ((osB l j).length : Int) = ((osB l i).length : Int) by omega), if_pos c2.symm]
      obtain ⟨c, e1, e2⟩ := cmp_l0 (osB l j) (osB l i) hj.1 c2 hj.2 hi.2 (osB l j).length 0 (by omega)
      rw [List.drop_zero, List.drop_zero] at e2
      rw [← e2]
      unfold impl_compareLists.f
      exact ev_bind e1 (ev_now _)
    · simp only [if_neg (show ¬ ((osB l j).length : Int) > ((osB l i).length : Int) by omega), if_neg (show ¬ ((osB l j).length : Int) = ((osB l i).length : Int) by omega), if_neg (show ¬ (osB l i).length = (osB l j).length by omega), decide_eq_false (show ¬ (osB l i).length < (osB l j).length by omega)]
      exact ev_now _
theorem ev_list {α β : Type} (f : Nat → α → Option β) (g : α → β) : ∀ L : List α, (∀ a ∈ L, Ev (fun k => f k a) (g a)) → ∃ K, ∀ k, K ≤ k → ∀ a ∈ L, f k a = some (g a)
  | [], _ => ⟨0, fun _ _ _ h => by cases h⟩
  | a :: L, h => by
    obtain ⟨K1, h1⟩ := h a List.mem_cons_self
    obtain ⟨K2, h2⟩ := ev_list f g L (fun b hb => h b (List.mem_cons_of_mem _ hb))
    refine ⟨max K1 K2, fun k hk b hb => ?_⟩
    rcases List.mem_cons.mp hb with rfl | hb
    · exact h1 k (by omega)
    · exact h2 k (by omega) b hb
theorem ordI (l : List (List Int)) (D : Int → Prop) : OrdW (ltI l) D := ⟨fun a b _ _ h => ltB_asym _ _ h, fun i a b _ _ _ h1 h2 => ltB_co _ _ _ h1 h2⟩
theorem osB_in {l : List (List Int)} {p : Int} (h1 : 1 ≤ p) (h2 : p ≤ (l.length : Int)) : osB l p ∈ l := by
  unfold osB
  rw [List.getD_eq_getElem?_getD, List.getElem?_eq_getElem (by omega)]
  exact List.getElem_mem _
theorem osSort (l : List (List Int)) (hl : l.length < 1000000) (hs : ∀ x ∈ l, okS x) : Ev (fun k => impl_orderedSets.f k l) ((sortW (ltI l) (osN l.length) []).map (osB l)) := by
  obtain ⟨K, hK⟩ := ev_list (fun k (p : Int × Int) => osP k l p.1 p.2) (fun p => ltI l p.1 p.2) ((osN l.length).flatMap fun i => (osN l.length).map (Prod.mk i)) (fun p hp => by
    obtain ⟨i, hi, hp⟩ := List.mem_flatMap.mp hp
    obtain ⟨j, hj, rfl⟩ := List.mem_map.mp hp
    have bi := osN_mem hi
    have bj := osN_mem hj
    exact osP_ev l i j (hs _ (osB_in bi.1 bi.2)) (hs _ (osB_in bj.1 bj.2)))
  refine ⟨K, fun k hk => ?_⟩
  show impl_orderedSets.f k l = _
  unfold impl_orderedSets.f
  rw [if_pos hl, sbL_eq (ordI l (fun b => b ∈ osN l.length)) (fun a b ha hb => hK k hk (a, b) (List.mem_flatMap.mpr ⟨a, ha, List.mem_map.mpr ⟨b, hb, rfl⟩⟩)) (osN l.length) [] (fun b hb => hb) (fun b hb => by cases hb) List.Pairwise.nil]
  rfl
/-- The sets of the codes below c that are chosen. -/
def selL (sel : Nat → Bool) (n : Nat) (c : Nat) : List (List Int) := ((List.range c).filter sel).map (fun c => blF c 0 n)
theorem selL_hit {sel : Nat → Bool} {n c : Nat} (h : sel c = true) : selL sel n (c + 1) = selL sel n c ++ [blF c 0 n] := by
  unfold selL
  rw [List.range_succ, List.filter_append, List.map_append]
  simp [h]
theorem selL_miss {sel : Nat → Bool} {n c : Nat} (h : sel c = false) : selL sel n (c + 1) = selL sel n c := by
  unfold selL
  rw [List.range_succ, List.filter_append, List.map_append]
  simp [h]
theorem selL_pre (sel : Nat → Bool) (n : Nat) : ∀ (d c : Nat), ∃ R, selL sel n (c + d) = selL sel n c ++ R
  | 0, c => ⟨[], by simp⟩
  | d + 1, c => by
    obtain ⟨R, hR⟩ := selL_pre sel n d (c + 1)
    rw [show c + (d + 1) = c + 1 + d by omega, hR]
    cases h : sel c with
    | true => rw [selL_hit h, List.append_assoc]; exact ⟨_, rfl⟩
    | false => rw [selL_miss h]; exact ⟨_, rfl⟩
theorem selL_len (sel : Nat → Bool) (n c : Nat) : (selL sel n c).length ≤ c := by
  unfold selL
  rw [List.length_map]
  have := List.length_filter_le sel (List.range c)
  rwa [List.length_range] at this
theorem selL_okS (sel : Nat → Bool) (n c : Nat) (hn : n ≤ 8) : ∀ x ∈ selL sel n c, okS x := by
  intro x hx
  unfold selL at hx
  obtain ⟨q, _, rfl⟩ := List.mem_map.mp hx
  refine ⟨Nat.le_trans (blF_len q n 0) hn, fun y hy => ?_⟩
  obtain ⟨j, rfl, _, _, _⟩ := blF_mem q n 0 y hy
  omega
theorem selL_nodup (sel : Nat → Bool) (n : Nat) : (selL sel n (2 ^ n)).Nodup := by
  unfold selL
  rw [List.nodup_iff_pairwise_ne, List.pairwise_map]
  have h0 : ((List.range (2 ^ n)).filter sel).Pairwise (fun a b => a ≠ b) := List.nodup_iff_pairwise_ne.mp (List.nodup_range.sublist List.filter_sublist)
  refine h0.imp_of_mem (fun {a b} ha hb hne he => hne (blF_inj ?_ ?_ he))
  · exact List.mem_range.mp (List.mem_filter.mp ha).1
  · exact List.mem_range.mp (List.mem_filter.mp hb).1
/-- What stands when the sets of the codes below c have been put in. -/
def ordC (sel : Nat → Bool) (n c : Nat) : List Int := sortW (ltI (selL sel n (2 ^ n))) ((osN (selL sel n (2 ^ n)).length).take (selL sel n c).length) []
theorem ordC_mem {sel : Nat → Bool} {n c : Nat} {b : Int} (h : b ∈ ordC sel n c) : 1 ≤ b ∧ b ≤ ((selL sel n c).length : Int) ∧ b ≤ ((selL sel n (2 ^ n)).length : Int) := by
  unfold ordC at h
  have h := (sortW_perm _ _ _).mem_iff.1 h
  rw [List.append_nil] at h
  obtain ⟨j, hj, rfl⟩ := List.mem_iff_getElem.1 h
  rw [List.length_take] at hj
  have hb := osN_mem (List.mem_of_mem_take h)
  rw [List.getElem_take] at hb ⊢
  have e : (osN (selL sel n (2 ^ n)).length)[j]'(by omega) = (j : Int) + 1 := by simp [osN]
  rw [e] at hb ⊢
  omega
theorem ordC_at {sel : Nat → Bool} {n c : Nat} (hc : c < 2 ^ n) (h : sel c = true) : (selL sel n c).length < (selL sel n (2 ^ n)).length ∧ osB (selL sel n (2 ^ n)) (((selL sel n c).length : Int) + 1) = blF c 0 n := by
  obtain ⟨R, hR⟩ := selL_pre sel n (2 ^ n - (c + 1)) (c + 1)
  rw [show c + 1 + (2 ^ n - (c + 1)) = 2 ^ n by omega, selL_hit h, List.append_assoc] at hR
  unfold osB
  rw [hR]
  constructor
  · simp
  · rw [show (((selL sel n c).length : Int) + 1).toNat - 1 = (selL sel n c).length by omega, List.getD_eq_getElem?_getD, List.getElem?_append_right (Nat.le_refl _)]
    simp
theorem ordC_hit {sel : Nat → Bool} {n c : Nat} (hc : c < 2 ^ n) (h : sel c = true) : ordC sel n (c + 1) = insW (ltI (selL sel n (2 ^ n))) (((selL sel n c).length : Int) + 1) (ordC sel n c) := by
  have hl := (ordC_at hc h).1
  unfold ordC
  rw [selL_hit h, List.length_append, List.length_singleton, List.take_succ_eq_append_getElem (by simpa [osN] using hl), sortW_append]
  rw [show (osN (selL sel n (2 ^ n)).length)[(selL sel n c).length]'(by simpa [osN] using hl) = ((selL sel n c).length : Int) + 1 by simp [osN]]
  rfl
theorem ordC_end (sel : Nat → Bool) (n : Nat) : ordC sel n (2 ^ n) = sortW (ltI (selL sel n (2 ^ n))) (osN (selL sel n (2 ^ n)).length) [] := by
  unfold ordC
  rw [List.take_of_length_le (by simp [osN])]
/-- Where the reference puts the set: at the place of insertion. -/
theorem ordC_pos {sel : Nat → Bool} {n c : Nat} (hc : c < 2 ^ n) (h : sel c = true) (j : Nat) (hj : j < (ordC sel n c).length) (hp : j ≤ posW (ltI (selL sel n (2 ^ n))) (((selL sel n c).length : Int) + 1) (ordC sel n c)) :
    ltB (osB (selL sel n (2 ^ n)) (ordC sel n c)[j]) (blF c 0 n) = decide (j < posW (ltI (selL sel n (2 ^ n))) (((selL sel n c).length : Int) + 1) (ordC sel n c)) := by
  obtain ⟨hl, he⟩ := ordC_at hc h
  have hm := ordC_mem (List.getElem_mem hj)
  rcases Nat.lt_or_ge j (posW (ltI (selL sel n (2 ^ n))) (((selL sel n c).length : Int) + 1) (ordC sel n c)) with hlt | hge
  · rw [decide_eq_true hlt]
    have h1 := posW_before hlt
    unfold ltI at h1
    rw [he] at h1
    cases h2 : ltB (osB (selL sel n (2 ^ n)) (ordC sel n c)[j]) (blF c 0 n) with
    | true => rfl
    | false =>
      have e := ltB_tot _ _ h2 h1
      rw [← he] at e
      unfold osB at e
      rw [List.getD_eq_getElem?_getD, List.getElem?_eq_getElem (by omega), List.getD_eq_getElem?_getD, List.getElem?_eq_getElem (by omega)] at e
      have := (List.getElem_inj (selL_nodup sel n)).1 (show (selL sel n (2 ^ n))[(ordC sel n c)[j].toNat - 1]'(by omega) = (selL sel n (2 ^ n))[(((selL sel n c).length : Int) + 1).toNat - 1]'(by omega) from e)
      omega
  · have hej : j = posW (ltI (selL sel n (2 ^ n))) (((selL sel n c).length : Int) + 1) (ordC sel n c) := by omega
    rw [decide_eq_false (by omega)]
    have h1 := posW_at (lt := ltI (selL sel n (2 ^ n))) (i := ((selL sel n c).length : Int) + 1) (o := ordC sel n c) (by omega)
    unfold ltI at h1
    rw [he] at h1
    have h2 := ltB_asym _ _ h1
    simp only [hej]
    exact h2

/-- All before i are in c, from k on. -/
def befB (t : List (List Bool)) (c i k : Nat) : Nat → Bool
  | 0 => true
  | d + 1 => (!tb t k i || bitB c k) && befB t c i (k + 1) d
theorem befB_true (t : List (List Bool)) (c i : Nat) : ∀ d k : Nat, befB t c i k d = true ↔ ∀ q, k ≤ q → q < k + d → tb t q i = true → bitB c q = true := by
  intro d
  induction d with
  | zero => intro k; exact ⟨fun _ q h1 h2 => by omega, fun _ => rfl⟩
  | succ d ih =>
    intro k
    unfold befB
    rw [Bool.and_eq_true, ih (k + 1)]
    constructor
    · rintro ⟨h1, h2⟩ q hq hq' hb
      by_cases e : q = k
      · subst e
        rw [hb, Bool.not_true, Bool.false_or] at h1
        exact h1
      · exact h2 q (by omega) (by omega) hb
    · intro h
      refine ⟨?_, fun q h1 h2 hb => h q (by omega) (by omega) hb⟩
      cases hb : tb t k i
      · rfl
      · rw [h k (by omega) (by omega) hb]; rfl
/-- Initial sets. -/
def iniB (t : List (List Bool)) (n c k : Nat) : Nat → Bool
  | 0 => true
  | d + 1 => (!bitB c k || befB t c k 0 n) && iniB t n c (k + 1) d
theorem iniB_true (t : List (List Bool)) (n c : Nat) : ∀ d k : Nat, iniB t n c k d = true ↔ ∀ i, k ≤ i → i < k + d → bitB c i = true → befB t c i 0 n = true := by
  intro d
  induction d with
  | zero => intro k; exact ⟨fun _ q h1 h2 => by omega, fun _ => rfl⟩
  | succ d ih =>
    intro k
    unfold iniB
    rw [Bool.and_eq_true, ih (k + 1)]
    constructor
    · rintro ⟨h1, h2⟩ q hq hq' hb
      by_cases e : q = k
      · subst e
        rw [hb, Bool.not_true, Bool.false_or] at h1
        exact h1
      · exact h2 q (by omega) (by omega) hb
    · intro h
      refine ⟨?_, fun q h1 h2 hb => h q (by omega) (by omega) hb⟩
      cases hb : bitB c k
      · rfl
      · rw [h k (by omega) (by omega) hb]; rfl
def Ini (t : List (List Bool)) (n c : Nat) : Prop := ∀ i q, i < n → q < n → bitB c i = true → tb t q i = true → bitB c q = true
theorem ini_iff (t : List (List Bool)) (n c : Nat) : iniB t n c 0 n = true ↔ Ini t n c := by
  rw [iniB_true]
  constructor
  · intro h i q hi hq hb ht
    exact (befB_true t c i n 0).1 (h i (by omega) (by omega) hb) q (by omega) (by omega) ht
  · intro h i _ hi hb
    exact (befB_true t c i n 0).2 (fun q _ hq ht => h i q (by omega) (by omega) hb ht)
theorem bb_full (n : Nat) (hn : n ≤ 8) (j : Nat) (hj : j < n) : bitB (2 ^ n - 1) j = true := decide_eq_true (bit_full n (by omega) j hj)
theorem isInitial_ev {n : Nat} (hn : n ≤ 8) {t : List (List Bool)} (ht : Sq n t) (c : Nat) (hc : c < 2 ^ n) : Ev (fun k => impl_isInitial.f k t (c : Int) ((2 ^ n - 1 : Nat) : Int)) (iniB t n c 0 n) := by
  have hl := ht.1
  have h8 := pow8 n hn
  have hpos := Nat.two_pow_pos n
  have key1 : ∀ (i : Nat) (r : Bool), i < n → Ev (fun k => impl_isInitial.l0 k t (c : Int) ((2 ^ n - 1 : Nat) : Int) (n : Int) ((i + 1 : Nat) : Int)) r → ∀ (d j : Nat), j + d = n → Ev (fun k => impl_isInitial.l1 k t (c : Int) ((2 ^ n - 1 : Nat) : Int) (i : Int) (n : Int) (i : Int) (n : Int) (j : Int)) ((!bitB c i || befB t c i j d) && r) := by
    intro i r hi hr d
    induction d with
    | zero =>
      intro j hj
      refine ev_succ ?_
      simp only [impl_isInitial.l1, if_neg (show ¬ (j : Int) < (n : Int) by omega), wsucc i (by omega), befB, Bool.or_true, Bool.true_and]
      exact hr
    | succ d ih =>
      intro j hj
      have h := ih (j + 1) (by omega)
      refine ev_succ ?_
      have hrow : (rd_L3 t (j : Int)).length = n := by rw [rdBB t j (by omega)]; exact ht.row j (by omega)
      have hf := bit_full n (by omega) j (by omega)
      simp only [impl_isInitial.l1, if_pos (show (j : Int) < (n : Int) by omega), if_pos (show (0 : Int) ≤ (i : Int) by omega), shr_and c i (by omega) (by omega), if_pos (show (0 : Int) ≤ (j : Int) by omega), shr_and (2 ^ n - 1) j (by omega) (by omega), if_pos (mod1 hf), if_pos (show (j : Int) < (t.length : Int) by omega), if_pos (show (i : Int) < ((rd_L3 t (j : Int)).length : Int) by omega), rdTT ht j i (by omega) hi, shr_and c j (by omega) (by omega), wsucc j (by omega), befB]
      by_cases hb : c / 2 ^ i % 2 = 1
      · have hbb : bitB c i = true := decide_eq_true hb
        rw [hbb] at h ⊢
        simp only [if_pos (mod1 hb), Bool.not_true, Bool.false_or] at h ⊢
        cases tb t j i
        · simp only [Bool.false_eq_true, if_false, Bool.not_false, Bool.true_or, Bool.true_and]; exact h
        · by_cases hj1 : c / 2 ^ j % 2 = 1
          · have : bitB c j = true := decide_eq_true hj1
            simp only [if_true, if_neg (mod1' hj1), this, Bool.not_true, Bool.false_or, Bool.true_and]; exact h
          · have : bitB c j = false := decide_eq_false hj1
            simp only [if_true, if_pos (mod0 hj1), this, Bool.not_true, Bool.false_or, Bool.false_and]; exact ev_now _
      · have hbb : bitB c i = false := decide_eq_false hb
        rw [hbb] at h ⊢
        simp only [if_neg (mod0' hb), Bool.not_false, Bool.true_or, Bool.true_and] at h ⊢
        exact h
  have key0 : ∀ (d i : Nat), i + d = n → Ev (fun k => impl_isInitial.l0 k t (c : Int) ((2 ^ n - 1 : Nat) : Int) (n : Int) (i : Int)) (iniB t n c i d) := by
    intro d
    induction d with
    | zero =>
      intro i hi
      refine ev_succ ?_
      simp only [impl_isInitial.l0, if_neg (show ¬ (i : Int) < (n : Int) by omega), iniB]
      exact ev_now _
    | succ d ih =>
      intro i hi
      refine ev_succ ?_
      simp only [impl_isInitial.l0, if_pos (show (i : Int) < (n : Int) by omega), hl, iniB]
      exact key1 i _ (by omega) (ih (i + 1) (by omega)) n 0 (Nat.zero_add _)
  unfold impl_isInitial.f
  rw [hl]
  exact key0 n 0 (Nat.zero_add _)
theorem l4Initial_ev {n : Nat} (hn : n ≤ 8) {t : List (List Bool)} (ht : Sq n t) (A S : List Int) (hA : ∀ a ∈ A, 0 ≤ a ∧ a < (n : Int)) (hS : ∀ s ∈ S, 0 ≤ s ∧ s < (n : Int)) (la : A.length ≤ 8) (ls : S.length ≤ 8) :
    Ev (fun k => spec_l4Initial.f k t A S) (S.all fun s => A.all fun a => !tb t a.toNat s.toNat || decide (a ∈ S)) := by
  have key1 : ∀ (q : Nat) (hq : q < S.length) (r : Bool), Ev (fun k => spec_l4Initial.l0 k t A S ((q + 1 : Nat) : Int)) r → ∀ (d i : Nat), i + d = A.length → Ev (fun k => spec_l4Initial.l1 k t A S (q : Int) (i : Int)) (((A.drop i).all fun a => !tb t a.toNat (S[q]).toNat || decide (a ∈ S)) && r) := by
    intro q hq r hr d
    induction d with
    | zero =>
      intro i hi
      refine ev_succ ?_
      rw [List.drop_eq_nil_of_le (by omega)]
      simp only [spec_l4Initial.l1, if_neg (show ¬ (i : Int) < (A.length : Int) by omega), wsucc q (by omega), List.all_nil, Bool.true_and]
      exact hr
    | succ d ih =>
      intro i hi
      have hil : i < A.length := by omega
      have h := ih (i + 1) (by omega)
      obtain ⟨a, ea⟩ : ∃ a : Nat, A[i] = (a : Int) := ⟨A[i].toNat, by have := hA _ (List.getElem_mem hil); omega⟩
      obtain ⟨s, es⟩ : ∃ s : Nat, S[q] = (s : Int) := ⟨S[q].toNat, by have := hS _ (List.getElem_mem hq); omega⟩
      have ba := hA _ (List.getElem_mem hil)
      have bs := hS _ (List.getElem_mem hq)
      have hl := ht.1
      have hrow : (rd_L3 t (a : Int)).length = n := by rw [rdBB t a (by omega)]; exact ht.row a (by omega)
      have htb : rdOf false (rd_L3 t (a : Int)) (s : Int) = tb t a s := by
        unfold rdOf rd_L3 tb
        rw [Int.toNat_natCast, Int.toNat_natCast]
      refine ev_succ ?_
      rw [List.drop_eq_getElem_cons hil, List.all_cons]
      rw [ea] at ba
      rw [es] at bs
      simp only [spec_l4Initial.l1, if_pos (show (i : Int) < (A.length : Int) by omega), if_pos (show (0 : Int) ≤ (i : Int) by omega), rdW A i hil, rdW S q hq, ea, es, if_pos ba.1, if_pos (show (a : Int) < (t.length : Int) by omega), if_pos (show (0 : Int) ≤ (q : Int) by omega), if_pos (show (q : Int) < (S.length : Int) by omega), if_pos bs.1, hrow, if_pos bs.2, htb, wsucc i (by omega), Int.toNat_natCast]
      rw [es, Int.toNat_natCast] at h
      cases tb t a s
      · simp only [Bool.false_eq_true, if_false, Bool.not_false, Bool.true_or, Bool.true_and]
        exact h
      · simp only [if_true, Bool.not_true, Bool.false_or]
        refine ev_bind (l1Has_ev S (a : Int) (by omega)) ?_
        cases decide ((a : Int) ∈ S)
        · simp only [Bool.false_eq_true, if_false, Bool.false_and]; exact ev_now _
        · simp only [if_true, Bool.true_and]; exact h
  have key0 : ∀ (d q : Nat), q + d = S.length → Ev (fun k => spec_l4Initial.l0 k t A S (q : Int)) ((S.drop q).all fun s => A.all fun a => !tb t a.toNat s.toNat || decide (a ∈ S)) := by
    intro d
    induction d with
    | zero =>
      intro q hq
      refine ev_succ ?_
      rw [List.drop_eq_nil_of_le (by omega)]
      simp only [spec_l4Initial.l0, if_neg (show ¬ (q : Int) < (S.length : Int) by omega), List.all_nil]
      exact ev_now _
    | succ d ih =>
      intro q hq
      have hql : q < S.length := by omega
      refine ev_succ ?_
      rw [List.drop_eq_getElem_cons hql, List.all_cons]
      simp only [spec_l4Initial.l0, if_pos (show (q : Int) < (S.length : Int) by omega)]
      exact key1 q hql _ (ih (q + 1) (by omega)) A.length 0 (by omega)
  unfold spec_l4Initial.f
  exact key0 S.length 0 (by omega)
theorem l4Initial_ini {n : Nat} (hn : n ≤ 8) {t : List (List Bool)} (ht : Sq n t) (c : Nat) : Ev (fun k => spec_l4Initial.f k t (blF (2 ^ n - 1) 0 n) (blF c 0 n)) (iniB t n c 0 n) := by
  have bl : ∀ c : Nat, ∀ b ∈ blF c 0 n, 0 ≤ b ∧ b < (n : Int) := by
    intro c b hb
    obtain ⟨j, rfl, _, h, _⟩ := blF_mem c _ _ b hb
    exact ⟨by omega, by omega⟩
  have h := l4Initial_ev hn ht (blF (2 ^ n - 1) 0 n) (blF c 0 n) (bl _) (bl _) (Nat.le_trans (blF_len _ _ _) hn) (Nat.le_trans (blF_len _ _ _) hn)
  have e : (((blF c 0 n).all fun s => (blF (2 ^ n - 1) 0 n).all fun a => !tb t a.toNat s.toNat || decide (a ∈ blF c 0 n))) = iniB t n c 0 n := by
    rw [Bool.eq_iff_iff, ini_iff]
    simp only [List.all_eq_true, Bool.or_eq_true, Bool.not_eq_true', decide_eq_true_eq]
    constructor
    · intro h i q hi hq hb htq
      have h1 := h (i : Int) (blF_hasB c n 0 i (by omega) (by omega) (of_decide_eq_true hb)) (q : Int) (blF_hasB _ n 0 q (by omega) (by omega) (of_decide_eq_true (bb_full n hn q hq)))
      rw [Int.toNat_natCast, Int.toNat_natCast, htq] at h1
      rcases h1 with h1 | h1
      · cases h1
      · obtain ⟨j, e, _, _, hj⟩ := blF_mem c n 0 _ h1
        have : q = j := by omega
        rw [this]
        exact decide_eq_true hj
    · intro h s hs a ha
      obtain ⟨i, rfl, _, hi, hbi⟩ := blF_mem c n 0 s hs
      obtain ⟨q, rfl, _, hq, _⟩ := blF_mem _ n 0 a ha
      rw [Int.toNat_natCast, Int.toNat_natCast]
      cases htq : tb t q i with
      | false => exact Or.inl rfl
      | true =>
        have := h i q (by omega) (by omega) (decide_eq_true hbi) htq
        exact Or.inr (blF_hasB c n 0 q (by omega) (by omega) (of_decide_eq_true this))
  rw [e] at h
  exact h

theorem core (n : Int) (es : List S71) (_ : I64 n) (hm : es.length ≤ 1048576) : ∃ (r : List (List Int)) (ok : Bool), (r.length ≤ 1048576 ∧ ∀ x ∈ r, x.length ≤ 1048576) ∧ Ev (fun k => spec_InitialSets.f k n es) (r, ok) ∧ Ev (fun k => impl_InitialSets.f k n es) (r, ok) := by
  have h1 := l4Good_ev n es hm
  have h2 := isPrec_ev n es
  unfold spec_InitialSets.f impl_InitialSets.f
  simp only [Option.bind_some]
  cases hg : good4 n es
  · rw [hg] at h1 h2
    exact ⟨[], false, ⟨by simp, fun x hx => by cases hx⟩, ev_bind h1 (by simp only [Bool.false_eq_true, if_false]; exact ev_now _), ev_bind h2 (by simp only [Bool.false_eq_true, if_false]; exact ev_now _)⟩
  rw [hg] at h1 h2
  obtain ⟨m, rfl, hl, hl28, hin, hirr⟩ := good4_facts n es hg
  have hsq := clos_sq m es hin
  have h8 := pow8 m hl
  have hpos2 := Nat.two_pow_pos m
  have hm0 : (0 : Int) ≤ (m : Int) := by omega
  have hw : wrap64 (((2 ^ m : Nat) : Int) - 1) = ((2 ^ m - 1 : Nat) : Int) := by rw [w64 (by omega) (by omega)]; omega
  obtain ⟨t, htd⟩ : ∃ t, t = closT m es := ⟨_, rfl⟩
  rw [← htd] at hsq
  obtain ⟨A, hA⟩ : ∃ A, A = blF (2 ^ m - 1) 0 m := ⟨_, rfl⟩
  have bn : ∀ c, (blF c 0 m).length ≤ 8 := fun c => by have := blF_len c m 0; omega
  obtain ⟨sel, hsel⟩ : ∃ sel : Nat → Bool, ∀ c, iniB t m c 0 m = sel c := ⟨_, fun _ => rfl⟩
  have hol : ∀ c, (ordC sel m c).length ≤ c := by
    intro c
    unfold ordC
    rw [(sortW_perm _ _ _).length_eq, List.append_nil, List.length_take]
    have := selL_len sel m c
    omega
  obtain ⟨L, hL⟩ : ∃ L, L = selL sel m (2 ^ m) := ⟨_, rfl⟩
  refine ⟨(ordC sel m (2 ^ m)).map (osB L), true, ⟨by rw [List.length_map]; have := hol (2 ^ m); omega, ?_⟩, ev_bind h1 ?_, ev_bind h2 ?_⟩
  · intro x hx
    obtain ⟨p, hp, rfl⟩ := List.mem_map.mp hx
    have hb := ordC_mem hp
    have := (selL_okS sel m _ hl _ (osB_in hb.1 hb.2.2)).1
    rw [hL]
    omega
  · simp only [if_true, if_pos hm0, shl1 m (show m < 9 by omega), hw]
    have htab := l4Table_ev m hl es hm hin
    rw [← htd] at htab
    refine ev_bind htab (ev_bind (l4Set_ev (2 ^ m - 1) m hl (by omega)) ?_)
    rw [← hA]
    have insEq : ∀ c, c < 2 ^ m → sel c = true → ∀ p, p = posW (ltI L) (((selL sel m c).length : Int) + 1) (ordC sel m c) → (((ordC sel m c).map (osB L)).take p ++ [blF c 0 m]) ++ ((ordC sel m c).map (osB L)).drop p = (ordC sel m (c + 1)).map (osB L) := by
      intro c hc h p hpos
      rw [ordC_hit hc h, ← hL]
      unfold insW
      rw [← hpos, List.map_append, List.map_cons, List.map_take, List.map_drop, hL, (ordC_at hc h).2, List.append_assoc]
      rfl
    have main : ∀ (d c : Nat), c + d = 2 ^ m → Ev (fun k => spec_InitialSets.l0 k (m : Int) ((ordC sel m c).map (osB L)) t A (c : Int)) ((ordC sel m (2 ^ m)).map (osB L), true) := by
      intro d
      induction d with
      | zero =>
        intro c hc
        refine ev_succ ?_
        simp only [spec_InitialSets.l0, if_pos hm0, shl1 _ (show m < 9 by omega), if_neg (show ¬ (c : Int) < ((2 ^ m : Nat) : Int) by omega)]
        rw [show c = 2 ^ m by omega]
        exact ev_now _
      | succ d ih =>
        intro c hc
        have hcl : c < 2 ^ m := by omega
        refine ev_succ ?_
        simp only [spec_InitialSets.l0, if_pos hm0, shl1 _ (show m < 9 by omega), if_pos (show (c : Int) < ((2 ^ m : Nat) : Int) by omega)]
        have hini := l4Initial_ini hl hsq c
        rw [← hA, hsel] at hini
        refine ev_bind (l4Set_ev c m hl (by omega)) (ev_bind hini ?_)
        have hlen := hol c
        cases h : sel c with
        | false =>
          simp only [Bool.false_eq_true, if_false, wsucc c (by omega)]
          have := ih (c + 1) (by omega)
          unfold ordC at this ⊢
          rw [selL_miss h] at this
          exact this
        | true =>
          simp only [if_true]
          have hn := ih (c + 1) (by omega)
          obtain ⟨p, hpos⟩ : ∃ p, p = posW (ltI L) (((selL sel m c).length : Int) + 1) (ordC sel m c) := ⟨_, rfl⟩
          have hple : p ≤ (ordC sel m c).length := by rw [hpos]; exact posW_le _ _ _
          rw [← insEq c hcl h p hpos] at hn
          have inner : ∀ (e j : Nat), j + e = p → Ev (fun k => spec_InitialSets.l1 k (m : Int) ((ordC sel m c).map (osB L)) t A (c : Int) (blF c 0 m) (j : Int)) ((ordC sel m (2 ^ m)).map (osB L), true) := by
            intro e
            induction e with
            | zero =>
              intro j hj
              obtain rfl : j = p := by omega
              refine ev_succ ?_
              by_cases hjl : j < (ordC sel m c).length
              · have hlt := ordC_pos hcl h j hjl (by rw [← hL, ← hpos]; exact Nat.le_refl _)
                rw [← hL, ← hpos, decide_eq_false (Nat.lt_irrefl _)] at hlt
                have hrd : rd_L4 ((ordC sel m c).map (osB L)) (j : Int) = osB L (ordC sel m c)[j] := by
                  unfold rd_L4
                  rw [Int.toNat_natCast, List.getD_eq_getElem?_getD, List.getElem?_map, List.getElem?_eq_getElem hjl]
                  rfl
                simp only [spec_InitialSets.l1, List.length_map, if_pos (show (j : Int) < ((ordC sel m c).length : Int) by omega), if_pos (show (0 : Int) ≤ (j : Int) by omega), hrd]
                refine ev_bind (l4Less_ev _ _ (by have hb := ordC_mem (List.getElem_mem hjl); rw [hL]; exact (selL_okS sel m _ hl _ (osB_in hb.1 hb.2.2)).1)) ?_
                rw [hlt]
                simp only [Bool.false_eq_true, if_false, Option.bind_some, if_pos (show (j : Int) ≤ ((ordC sel m c).length : Int) by omega), Int.toNat_natCast, List.nil_append, List.length_nil, List.length_append, List.length_take, List.length_map, List.length_drop, List.length_singleton, wsucc c (by omega)]
                simp only [if_pos (show 0 + min j (ordC sel m c).length < 5864062014805 by omega), if_pos (show 0 + min j (ordC sel m c).length + 1 < 5864062014805 by omega), if_pos (show 0 + min j (ordC sel m c).length + 1 + ((ordC sel m c).length - j) < 5864062014805 by omega)]
                exact hn
              · simp only [spec_InitialSets.l1, List.length_map, if_neg (show ¬ (j : Int) < ((ordC sel m c).length : Int) by omega), Option.bind_some, if_pos (show (0 : Int) ≤ (j : Int) by omega), if_pos (show (j : Int) ≤ ((ordC sel m c).length : Int) by omega), Int.toNat_natCast, List.nil_append, List.length_nil, List.length_append, List.length_take, List.length_drop, List.length_singleton, wsucc c (by omega)]
                simp only [if_pos (show 0 + min j (ordC sel m c).length < 5864062014805 by omega), if_pos (show 0 + min j (ordC sel m c).length + 1 < 5864062014805 by omega), if_pos (show 0 + min j (ordC sel m c).length + 1 + ((ordC sel m c).length - j) < 5864062014805 by omega)]
                exact hn
            | succ e ihe =>
              intro j hj
              have hjl : j < (ordC sel m c).length := by omega
              refine ev_succ ?_
              have hlt := ordC_pos hcl h j hjl (by rw [← hL, ← hpos]; omega)
              rw [← hL, ← hpos, decide_eq_true (show j < p by omega)] at hlt
              have hrd : rd_L4 ((ordC sel m c).map (osB L)) (j : Int) = osB L (ordC sel m c)[j] := by
                unfold rd_L4
                rw [Int.toNat_natCast, List.getD_eq_getElem?_getD, List.getElem?_map, List.getElem?_eq_getElem hjl]
                rfl
              simp only [spec_InitialSets.l1, List.length_map, if_pos (show (j : Int) < ((ordC sel m c).length : Int) by omega), if_pos (show (0 : Int) ≤ (j : Int) by omega), hrd]
              refine ev_bind (l4Less_ev _ _ (by have hb := ordC_mem (List.getElem_mem hjl); rw [hL]; exact (selL_okS sel m _ hl _ (osB_in hb.1 hb.2.2)).1)) ?_
              rw [hlt]
              simp only [if_true, wsucc j (by omega)]
              exact ihe (j + 1) (by omega)
          exact inner p 0 (by omega)
    have := main (2 ^ m) 0 (by omega)
    simpa [ordC, selL, sortW] using this
  · simp only [if_true]
    have hclo := closure_ev m hl es hm hin
    rw [← htd] at hclo
    refine ev_bind hclo ?_
    have main : ∀ (d c : Nat), c + d = 2 ^ m → Ev (fun k => impl_InitialSets.l0 k (m : Int) t (selL sel m c) (c : Int)) ((ordC sel m (2 ^ m)).map (osB L), true) := by
      intro d
      induction d with
      | zero =>
        intro c hc
        refine ev_succ ?_
        simp only [impl_InitialSets.l0, if_pos hm0, hw, shl1 _ (show m < 9 by omega), if_neg (show ¬ (c : Int) < ((2 ^ m : Nat) : Int) by omega)]
        rw [show c = 2 ^ m by omega, ordC_end, ← hL]
        have hLl := selL_len sel m (2 ^ m)
        exact ev_bind (osSort L (by rw [hL]; omega) (by rw [hL]; exact selL_okS sel m _ hl)) (ev_now _)
      | succ d ih =>
        intro c hc
        have hcl : c < 2 ^ m := by omega
        refine ev_succ ?_
        have hll := selL_len sel m c
        simp only [impl_InitialSets.l0, if_pos hm0, hw, shl1 _ (show m < 9 by omega), if_pos (show (c : Int) < ((2 ^ m : Nat) : Int) by omega)]
        have hini := isInitial_ev hl hsq c hcl
        rw [hsel] at hini
        refine ev_bind hini ?_
        have hn := ih (c + 1) (by omega)
        cases h : sel c with
        | false =>
          rw [selL_miss h] at hn
          simp only [Bool.false_eq_true, if_false, wsucc c (by omega)]
          exact hn
        | true =>
          rw [selL_hit h] at hn
          simp only [if_true, wsucc c (by omega)]
          refine ev_bind (listOf_ev c m hl hcl) ?_
          simp only [if_pos (show (selL sel m c).length < 5864062014805 by omega)]
          exact hn
    exact main (2 ^ m) 0 (by omega)

theorem FnExactInitialSets : FnExactInitialSets.Claim := by
  intro a0 l1 hi0 hl1 hg1
  refine Ev.rounds ?_
  unfold laws_FnExactInitialSets.f
  simp only [szIntA2S_eq l1 (1048576 : Int) (by omega) (by omega) hl1, Option.bind_some]
  by_cases h0 : (1048576 : Int) < l1.length
  · simp only [if_pos h0, if_pos (show (-1 : Int) < 0 by omega)]
    exact ev_now _
  simp only [if_neg h0, if_neg (show ¬ (((1048576 : Int) - l1.length) < 0) by omega)]
  have hm1 : l1.length ≤ 1048576 := by omega
  obtain ⟨r0, r1, hr0, hs, hi⟩ := core a0 l1 hi0 hm1
  obtain ⟨qa0, ya0, hb0, ma0, _⟩ := markIntA2S_ev l1 hm1
  obtain ⟨q0, y0, m0, e0⟩ := markIntSS_ev r0 hr0.1 hr0.2
  refine ev_bind (toIntA2S_ev l1 (by omega)) (ev_bind hs (ev_bind hi (ev_bind (eqIntSS_ev r0 hr0.1 hr0.2) (ev_bind (eqIntA2S_ev l1 (by omega)) (ev_bind ma0 (ev_bind m0 (ev_bind e0 ?_)))))))
  simp only [if_pos (show (true = true ∧ r1 = r1 ∧ true = true ∧ ¬ ((qa0 : Int) < 0) ∧ ¬ ((q0 : Int) < 0) ∧ (q0 : Int) = (q0 : Int)) from ⟨rfl, rfl, rfl, by omega, by omega, rfl⟩)]
  exact ev_now _

end Go.Proofs.Ytecdigebnhlfhaa.Pure
