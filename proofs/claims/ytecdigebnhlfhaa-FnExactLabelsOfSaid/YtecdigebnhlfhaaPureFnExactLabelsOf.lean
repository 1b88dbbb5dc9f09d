/- The program's function and the reference's come to the same answer: the statement of numbers and lists behind the law FnExactLabelsOf. Conditions: none. -/
import Derived.Test.YtecdigebnhlfhaaArgFnExactLabelsOf
import Derived.Test.YtecdigebnhlfhaaBase
namespace Go.Proofs.Ytecdigebnhlfhaa.Pure
open Go.RowKit Go.Proofs.Ytecdigebnhlfhaa.OFnExactLabelsOf Go.Proofs.Ytecdigebnhlfhaa.Base Go.Proofs.YtecdigebnhlfhaaW.PrintWords Go.Proofs.YtecdigebnhlfhaaW.PrintLast Go.Proofs.YtecdigebnhlfhaaW.PrintMore Go.Proofs.Ytecdigebnhlfhaa.Open
set_option linter.unusedVariables false
set_option linter.unusedSimpArgs false

mutual
def laws_heldIntA2S.l0 : Nat → List (S71) → Int → Int → Option (Int)
  | 0, _, _, _ => none
  | k + 1, x0, x1, x5 => if x5 < (x0.length : Int) then (laws_heldIntA2S.l1 k x0 x1 x5 0) else (some x1)
def laws_heldIntA2S.l1 : Nat → List (S71) → Int → Int → Int → Option (Int)
  | 0, _, _, _, _ => none
  | k + 1, x0, x1, x5, x6 => if x6 < 2 then (if 0 ≤ x5 then (if x5 < (x0.length : Int) then (if x6 = 0 then (if ((rd_T71 x0 x5).f0) = x1 then (laws_heldIntA2S.l1 k x0 (wrap64 (x1 + 1)) x5 (wrap64 (x6 + 1))) else (some (-1))) else (if x6 = 1 then (if ((rd_T71 x0 x5).f1) = x1 then (laws_heldIntA2S.l1 k x0 (wrap64 (x1 + 1)) x5 (wrap64 (x6 + 1))) else (some (-1))) else (none))) else (none)) else (none)) else (laws_heldIntA2S.l0 k x0 x1 (wrap64 (x5 + 1)))
end
def laws_heldIntA2S.f (k : Nat) (l0 : List (S71)) (a1 : Int) : Option (Int) := laws_heldIntA2S.l0 k l0 a1 0

theorem szIntA2S_eq (xs : List S71) (left : Int) (h0 : 0 ≤ left) (h1 : left ≤ 1048576) (h : xs.length ≤ 9223372036854775807) : laws_szIntA2S.f xs left = some (if left < xs.length then -1 else left - xs.length) := by
  unfold laws_szIntA2S.f
  rw [w64 (by omega) (by omega)]
  by_cases c : left < xs.length
  · rw [if_pos (by omega), if_pos c]
  · rw [if_neg (by omega), if_neg c]

theorem rdA2 (xs : List S71) (i : Nat) (h : i < xs.length) : rd_T71 xs (i : Int) = xs[i] := by
  unfold rd_T71
  rw [Int.toNat_natCast, List.getD_eq_getElem?_getD, List.getElem?_eq_getElem h]
  rfl
theorem w01 : wrap64 (0 + 1) = 1 := by unfold wrap64; omega
theorem w11 : wrap64 (1 + 1) = 2 := by unfold wrap64; omega

theorem toIntA2_ev (a b : Int) : Ev (fun k => laws_toIntA2.f k a b) (a, b) := by
  unfold laws_toIntA2.f
  refine ev_succ ?_
  simp only [laws_toIntA2.l0, if_pos (show (0 : Int) < 2 by omega), if_true, w01]
  refine ev_succ ?_
  simp only [laws_toIntA2.l0, if_pos (show (1 : Int) < 2 by omega), if_neg (show ¬ (1 : Int) = 0 by omega), if_true, w11]
  refine ev_succ ?_
  simp only [laws_toIntA2.l0, if_neg (show ¬ (2 : Int) < 2 by omega)]
  exact ev_now _
theorem toIntA2S_l (xs : List S71) (hn : xs.length ≤ 1048576) : ∀ (d i : Nat) (ys : List S71), i + d = xs.length → ys.length = xs.length → ys.take i = xs.take i → Ev (fun k => laws_toIntA2S.l0 k xs ys (i : Int)) xs := by
  intro d
  induction d with
  | zero =>
    intro i ys hi hl ht
    refine ev_succ ?_
    simp only [laws_toIntA2S.l0, if_neg (show ¬ (i : Int) < (xs.length : Int) by omega)]
    have : ys = xs := by
      rw [List.take_of_length_le (by omega), List.take_of_length_le (by omega)] at ht
      exact ht
    rw [this]
    exact ev_now _
  | succ d ih =>
    intro i ys hi hl ht
    refine ev_succ ?_
    have hx : i < xs.length := by omega
    simp only [laws_toIntA2S.l0, if_pos (show (i : Int) < (xs.length : Int) by omega), if_pos (show (0 : Int) ≤ (i : Int) by omega), rdA2 xs i hx, wsucc i (by omega)]
    refine ev_bind (toIntA2_ev _ _) ?_
    simp only [if_pos (show (i : Int) < (ys.length : Int) by omega), Int.toNat_natCast]
    refine ih (i + 1) _ (by omega) (by rw [List.length_set]; exact hl) ?_
    rw [take_set_succ ys i _ (by omega), ht, List.take_succ_eq_append_getElem hx]
theorem toIntA2S_ev (xs : List S71) (hn : xs.length ≤ 1048576) : Ev (fun k => laws_toIntA2S.f k xs) xs := by
  unfold laws_toIntA2S.f
  simp only [if_pos (show (0 : Int) ≤ (xs.length : Int) by omega), Int.toNat_natCast, if_pos (show xs.length ≤ 17592186044416 by omega)]
  exact toIntA2S_l xs hn xs.length 0 _ (by omega) (by simp) (by simp)

theorem eqIntA2_ev (a b : Int) : Ev (fun k => laws_eqIntA2.f k a b a b) true := by
  unfold laws_eqIntA2.f
  refine ev_succ ?_
  simp only [laws_eqIntA2.l0, if_pos (show (0 : Int) < 2 by omega), if_true, w01]
  refine ev_succ ?_
  simp only [laws_eqIntA2.l0, if_pos (show (1 : Int) < 2 by omega), if_neg (show ¬ (1 : Int) = 0 by omega), if_true, w11]
  refine ev_succ ?_
  simp only [laws_eqIntA2.l0, if_neg (show ¬ (2 : Int) < 2 by omega)]
  exact ev_now _
theorem eqIntA2S_l (xs : List S71) (hn : xs.length ≤ 4611686018427387904) : ∀ (d i : Nat), i + d = xs.length → Ev (fun k => laws_eqIntA2S.l0 k xs xs (i : Int)) true := by
  intro d
  induction d with
  | zero =>
    intro i hi
    refine ev_succ ?_
    simp only [laws_eqIntA2S.l0, if_neg (show ¬ (i : Int) < (xs.length : Int) by omega)]
    exact ev_now _
  | succ d ih =>
    intro i hi
    refine ev_succ ?_
    simp only [laws_eqIntA2S.l0, if_pos (show (i : Int) < (xs.length : Int) by omega), if_pos (show (0 : Int) ≤ (i : Int) by omega), wsucc i (by omega)]
    refine ev_bind (eqIntA2_ev _ _) ?_
    simp only [if_true]
    exact ih (i + 1) (by omega)
theorem eqIntA2S_ev (xs : List S71) (hn : xs.length ≤ 4611686018427387904) : Ev (fun k => laws_eqIntA2S.f k xs xs) true := by
  unfold laws_eqIntA2S.f
  simp only [if_true]
  exact eqIntA2S_l xs hn xs.length 0 (by omega)

theorem rdA2_set (xs : List S71) (i : Nat) (h : i < xs.length) (v : S71) : rd_T71 (xs.set i v) (i : Int) = v := by
  rw [rdA2 _ i (by rw [List.length_set]; exact h)]
  simp
theorem markIntA2S_l : ∀ (d i m : Nat) (xs : List S71), i + d = xs.length → m + 2 * d ≤ 1152921504606846976 → xs.length ≤ 1152921504606846976 →
    ∃ (q : Nat) (ys : List S71), Ev (fun k => laws_markIntA2S.l0 k xs (m : Int) (i : Int)) ((q : Int), ys) ∧ ys.length = xs.length ∧ ys.take i = xs.take i ∧ m ≤ q ∧ q ≤ m + 2 * d ∧ Ev (fun k => laws_heldIntA2S.l0 k ys (m : Int) (i : Int)) (q : Int) := by
  intro d
  induction d with
  | zero =>
    intro i m xs hi hmd hxl
    refine ⟨m, xs, ev_succ ?_, rfl, rfl, Nat.le_refl _, by omega, ev_succ ?_⟩
    · simp only [laws_markIntA2S.l0, if_neg (show ¬ (i : Int) < (xs.length : Int) by omega)]
      exact ev_now _
    · simp only [laws_heldIntA2S.l0, if_neg (show ¬ (i : Int) < (xs.length : Int) by omega)]
      exact ev_now _
  | succ d ih =>
    intro i m xs hi hmd hxl
    obtain ⟨q, ys, h1, h2, h3, h4, h4', h5⟩ := ih (i + 1) (m + 2) (xs.set i ⟨(m : Int), ((m + 1 : Nat) : Int)⟩) (by rw [List.length_set]; omega) (by omega) (by rw [List.length_set]; omega)
    rw [List.length_set] at h2
    rw [take_set_succ xs i _ (by omega)] at h3
    have hy : ys[i]'(by omega) = ⟨(m : Int), ((m + 1 : Nat) : Int)⟩ := by
      have := congrArg (fun l => l[i]?) h3
      simp only [List.getElem?_take, if_pos (show i < i + 1 by omega)] at this
      rw [List.getElem?_append_right (by simp; omega), List.getElem?_eq_getElem (by omega)] at this
      simpa [Nat.min_eq_left (show i ≤ xs.length by omega)] using this
    have hx : i < xs.length := by omega
    refine ⟨q, ys, ev_succ ?_, h2, ?_, by omega, by omega, ev_succ ?_⟩
    · simp only [laws_markIntA2S.l0, if_pos (show (i : Int) < (xs.length : Int) by omega)]
      refine ev_succ ?_
      simp only [laws_markIntA2S.l1, if_pos (show (0 : Int) < 2 by omega), if_pos (show (0 : Int) ≤ (i : Int) by omega), if_pos (show (i : Int) < (xs.length : Int) by omega), if_true, w01, wsucc m (by omega), Int.toNat_natCast, rdA2 xs i hx]
      refine ev_succ ?_
      have hl : (xs.set i ⟨(m : Int), xs[i].f1⟩).length = xs.length := List.length_set
      simp only [laws_markIntA2S.l1, if_pos (show (1 : Int) < 2 by omega), if_neg (show ¬ (1 : Int) = 0 by omega), if_true, w11, if_pos (show (0 : Int) ≤ (i : Int) by omega), if_pos (show (i : Int) < ((xs.set i ⟨(m : Int), xs[i].f1⟩).length : Int) by rw [hl]; omega), wsucc (m + 1) (by omega), Int.toNat_natCast, rdA2_set xs i hx, List.set_set]
      refine ev_succ ?_
      simp only [laws_markIntA2S.l1, if_neg (show ¬ (2 : Int) < 2 by omega), wsucc i (by omega)]
      exact h1
    · have := congrArg (fun l => l.take i) h3
      simp only [List.take_take, Nat.min_eq_left (show i ≤ i + 1 by omega)] at this
      rw [this, List.take_append_of_le_length (by simp; omega), List.take_take, Nat.min_self]
    · simp only [laws_heldIntA2S.l0, if_pos (show (i : Int) < (ys.length : Int) by omega)]
      refine ev_succ ?_
      simp only [laws_heldIntA2S.l1, if_pos (show (0 : Int) < 2 by omega), if_pos (show (0 : Int) ≤ (i : Int) by omega), if_pos (show (i : Int) < (ys.length : Int) by omega), if_true, w01, wsucc m (by omega), rdA2 ys i (by omega), hy]
      refine ev_succ ?_
      simp only [laws_heldIntA2S.l1, if_pos (show (1 : Int) < 2 by omega), if_neg (show ¬ (1 : Int) = 0 by omega), if_pos (show (0 : Int) ≤ (i : Int) by omega), if_pos (show (i : Int) < (ys.length : Int) by omega), if_true, w11, wsucc (m + 1) (by omega), rdA2 ys i (by omega), hy]
      refine ev_succ ?_
      simp only [laws_heldIntA2S.l1, if_neg (show ¬ (2 : Int) < 2 by omega), wsucc i (by omega)]
      exact h5
theorem markIntA2S_from (xs : List S71) (h : xs.length ≤ 1048576) (m : Nat) (hm : m ≤ 1000000000) : ∃ (q : Nat) (ys : List S71), m ≤ q ∧ q ≤ m + 4194304 ∧ Ev (fun k => laws_markIntA2S.f k xs (m : Int)) ((q : Int), ys) := by
  obtain ⟨q, ys, h1, h2, h3, h4, h4', h5⟩ := markIntA2S_l xs.length 0 m xs (by omega) (by omega) (by omega)
  exact ⟨q, ys, h4, by omega, h1⟩
theorem markIntA2S_from1 (xs : List S71) (h : xs.length ≤ 1048576) : ∃ (q : Nat) (ys : List S71), 1 ≤ q ∧ q ≤ 1 + 4194304 ∧ Ev (fun k => laws_markIntA2S.f k xs 1) ((q : Int), ys) := markIntA2S_from xs h 1 (by omega)

theorem eqIntS_l (xs : List Int) (hn : xs.length ≤ 4611686018427387904) : ∀ (d i : Nat), i + d = xs.length → Ev (fun k => laws_eqIntS.l0 k xs xs (i : Int)) true := by
  intro d
  induction d with
  | zero =>
    intro i hi
    refine ev_succ ?_
    simp only [laws_eqIntS.l0, if_neg (show ¬ (i : Int) < (xs.length : Int) by omega)]
    exact ev_now _
  | succ d ih =>
    intro i hi
    refine ev_succ ?_
    simp only [laws_eqIntS.l0, if_true, if_pos (show (i : Int) < (xs.length : Int) by omega), if_pos (show (0 : Int) ≤ (i : Int) by omega), wsucc i (by omega)]
    exact ih (i + 1) (by omega)
theorem eqIntS_ev (xs : List Int) (hn : xs.length ≤ 4611686018427387904) : Ev (fun k => laws_eqIntS.f k xs xs) true := by
  unfold laws_eqIntS.f
  simp only [if_true]
  exact eqIntS_l xs hn xs.length 0 (by omega)

theorem rdN (xs : List Int) (i : Nat) (h : i < xs.length) : rd xs (i : Int) = xs[i] := by
  unfold rd
  rw [Int.toNat_natCast, List.getD_eq_getElem?_getD, List.getElem?_eq_getElem h]
  rfl

theorem markIntS_l : ∀ (d i m : Nat) (xs : List Int), i + d = xs.length → m + d ≤ 1152921504606846976 → xs.length ≤ 1152921504606846976 →
    ∃ (q : Nat) (ys : List Int), Ev (fun k => laws_markIntS.l0 k xs (m : Int) (i : Int)) ((q : Int), ys) ∧ ys.length = xs.length ∧ ys.take i = xs.take i ∧ m ≤ q ∧ q ≤ m + d ∧ Ev (fun k => laws_heldIntS.l0 k ys (m : Int) (i : Int)) (q : Int) := by
  intro d
  induction d with
  | zero =>
    intro i m xs hi hmd hxl
    refine ⟨m, xs, ev_succ ?_, rfl, rfl, Nat.le_refl _, by omega, ev_succ ?_⟩
    · simp only [laws_markIntS.l0, if_neg (show ¬ (i : Int) < (xs.length : Int) by omega)]
      exact ev_now _
    · simp only [laws_heldIntS.l0, if_neg (show ¬ (i : Int) < (xs.length : Int) by omega)]
      exact ev_now _
  | succ d ih =>
    intro i m xs hi hmd hxl
    obtain ⟨q, ys, h1, h2, h3, h4, h4', h5⟩ := ih (i + 1) (m + 1) (xs.set i (m : Int)) (by rw [List.length_set]; omega) (by omega) (by rw [List.length_set]; omega)
    rw [List.length_set] at h2
    rw [take_set_succ xs i _ (by omega)] at h3
    have hy : ys[i]'(by omega) = (m : Int) := by
      have := congrArg (fun l => l[i]?) h3
      simp only [List.getElem?_take, if_pos (show i < i + 1 by omega)] at this
      rw [List.getElem?_append_right (by simp; omega), List.getElem?_eq_getElem (by omega)] at this
      simpa [Nat.min_eq_left (show i ≤ xs.length by omega)] using this
    have hx : i < xs.length := by omega
    refine ⟨q, ys, ev_succ ?_, h2, ?_, by omega, by omega, ev_succ ?_⟩
    · simp only [laws_markIntS.l0, if_pos (show (i : Int) < (xs.length : Int) by omega), if_pos (show (0 : Int) ≤ (i : Int) by omega), Int.toNat_natCast, wsucc m (by omega), wsucc i (by omega)]
      exact h1
    · have := congrArg (fun l => l.take i) h3
      simp only [List.take_take, Nat.min_eq_left (show i ≤ i + 1 by omega)] at this
      rw [this, List.take_append_of_le_length (by simp; omega), List.take_take, Nat.min_self]
    · simp only [laws_heldIntS.l0, if_pos (show (i : Int) < (ys.length : Int) by omega), if_pos (show (0 : Int) ≤ (i : Int) by omega), rdN ys i (by omega), hy, if_true, wsucc m (by omega), wsucc i (by omega)]
      exact h5
theorem markIntS_ev (xs : List Int) (h : xs.length ≤ 1048576) : ∃ (q : Nat) (ys : List Int), 1 ≤ q ∧ Ev (fun k => laws_markIntS.f k xs 1) ((q : Int), ys) ∧ Ev (fun k => laws_heldIntS.f k ys 1) (q : Int) := by
  obtain ⟨q, ys, h1, h2, h3, h4, h4', h5⟩ := markIntS_l xs.length 0 1 xs (by omega) (by omega) (by omega)
  exact ⟨q, ys, h4, h1, h5⟩

/-- A table of n rows and n columns. -/
def Sq (n : Nat) (t : List (List Bool)) : Prop := t.length = n ∧ ∀ r ∈ t, r.length = n
theorem Sq.row {n : Nat} {t : List (List Bool)} (h : Sq n t) (i : Nat) (hi : i < n) : (t[i]'(by rw [h.1]; exact hi)).length = n := h.2 _ (List.getElem_mem _)
def tb (t : List (List Bool)) (i j : Nat) : Bool := (t.getD i []).getD j false
theorem tb_eq (t : List (List Bool)) (i j : Nat) (hi : i < t.length) (hj : j < t[i].length) : tb t i j = t[i][j] := by
  unfold tb
  rw [List.getD_eq_getElem?_getD, List.getD_eq_getElem?_getD, List.getElem?_eq_getElem hi, Option.getD_some, List.getElem?_eq_getElem hj, Option.getD_some]
def putT (t : List (List Bool)) (i j : Nat) (b : Bool) : List (List Bool) := t.set i ((t.getD i []).set j b)
theorem Sq.put {n : Nat} {t : List (List Bool)} (h : Sq n t) (i j : Nat) (hi : i < n) (b : Bool) : Sq n (putT t i j b) := by
  refine ⟨by unfold putT; rw [List.length_set]; exact h.1, fun r hr => ?_⟩
  unfold putT at hr
  rcases List.mem_or_eq_of_mem_set hr with hr | rfl
  · exact h.2 r hr
  · rw [List.length_set, List.getD_eq_getElem?_getD, List.getElem?_eq_getElem (by rw [h.1]; exact hi), Option.getD_some]
    exact h.row i hi
theorem rdBB (t : List (List Bool)) (i : Nat) (h : i < t.length) : rd_L3 t (i : Int) = t[i] := by
  unfold rd_L3
  rw [Int.toNat_natCast, List.getD_eq_getElem?_getD, List.getElem?_eq_getElem h]
  rfl
theorem rdB (r : List Bool) (i : Nat) (h : i < r.length) : rdOf false r (i : Int) = r[i] := by
  unfold rdOf
  rw [Int.toNat_natCast, List.getD_eq_getElem?_getD, List.getElem?_eq_getElem h]
  rfl
theorem rdTB (t : List (List Bool)) (i : Nat) (h : i < t.length) : (rd_L3 t (i : Int)) = t.getD i [] := by
  rw [rdBB t i h, List.getD_eq_getElem?_getD, List.getElem?_eq_getElem h]; rfl
theorem rdTT {n : Nat} {t : List (List Bool)} (h : Sq n t) (i j : Nat) (hi : i < n) (hj : j < n) : rdOf false (rd_L3 t (i : Int)) (j : Int) = tb t i j := by
  have h1 : i < t.length := by rw [h.1]; exact hi
  have h2 := h.row i hi
  rw [rdBB t i h1, rdB _ j (by rw [h2]; exact hj), tb_eq t i j h1 (by rw [h2]; exact hj)]
theorem put_same {n : Nat} {t : List (List Bool)} (h : Sq n t) (i j : Nat) (hi : i < n) (hj : j < n) : putT t i j (tb t i j) = t := by
  have h1 : i < t.length := by rw [h.1]; exact hi
  have h2 := h.row i hi
  have hg : t.getD i [] = t[i] := by rw [List.getD_eq_getElem?_getD, List.getElem?_eq_getElem h1]; rfl
  unfold putT
  rw [hg, tb_eq t i j h1 (by rw [h2]; exact hj), List.set_getElem_self, List.set_getElem_self]
def stepT (t : List (List Bool)) (k i j : Nat) : List (List Bool) := if (tb t i k && tb t k j) = true then putT t i j true else t
theorem Sq.step {n : Nat} {t : List (List Bool)} (h : Sq n t) (k i j : Nat) (hi : i < n) : Sq n (stepT t k i j) := by
  unfold stepT
  split
  · exact h.put i j hi true
  · exact h
def rowF (t : List (List Bool)) (k i : Nat) (js : List Nat) : List (List Bool) := js.foldl (fun t j => stepT t k i j) t
def midF (n : Nat) (t : List (List Bool)) (k : Nat) (is : List Nat) : List (List Bool) := is.foldl (fun t i => rowF t k i (List.range' 0 n)) t
def outF (n : Nat) (t : List (List Bool)) (ks : List Nat) : List (List Bool) := ks.foldl (fun t k => midF n t k (List.range' 0 n)) t
def edgeF (t : List (List Bool)) (es : List S71) : List (List Bool) := es.foldl (fun t e => putT t e.f0.toNat e.f1.toNat true) t
/-- The table of what comes before what. -/
def closT (n : Nat) (es : List S71) : List (List Bool) := outF n (edgeF (List.replicate n (List.replicate n false)) es) (List.range' 0 n)
def inN (n : Nat) (es : List S71) : Prop := ∀ e ∈ es, 0 ≤ e.f0 ∧ e.f0 < n ∧ 0 ≤ e.f1 ∧ e.f1 < n
theorem Sq.row_fold {n : Nat} {t : List (List Bool)} (h : Sq n t) (k i : Nat) (hi : i < n) (js : List Nat) : Sq n (rowF t k i js) := by
  unfold rowF
  induction js generalizing t with
  | nil => exact h
  | cons j js ih => exact ih (h.step k i j hi)
section
variable {F : Nat → List (List Bool) → Nat → Nat → Nat → Option (List (List Bool))}
end
theorem spec_l4 (n : Nat) (hn : n ≤ 8) (kk i : Nat) (hk : kk < n) (hi : i < n) (R : List (List Bool) → List (List Bool))
    (hnext : ∀ t, Sq n t → Ev (fun k => spec_l4Table.l3 k (n : Int) t (kk : Int) ((i + 1 : Nat) : Int)) (R t)) :
    ∀ (d j : Nat) (t : List (List Bool)), j + d = n → Sq n t → Ev (fun k => spec_l4Table.l4 k (n : Int) t (kk : Int) (i : Int) (j : Int)) (R (rowF t kk i (List.range' j d))) := by
  intro d
  induction d with
  | zero =>
    intro j t hj ht
    refine ev_succ ?_
    simp only [spec_l4Table.l4, if_neg (show ¬ (j : Int) < (n : Int) by omega), wsucc i (by omega)]
    exact hnext t ht
  | succ d ih =>
    intro j t hj ht
    refine ev_succ ?_
    have hl := ht.1
    have hri : (rd_L3 t (i : Int)).length = n := by rw [rdBB t i (by omega)]; exact ht.row i hi
    have hrk : (rd_L3 t (kk : Int)).length = n := by rw [rdBB t kk (by omega)]; exact ht.row kk hk
    have h := ih (j + 1) (stepT t kk i j) (by omega) (ht.step kk i j hi)
    rw [List.range'_succ]
    simp only [rowF, List.foldl_cons]
    simp only [rowF] at h
    simp only [spec_l4Table.l4, if_pos (show (j : Int) < (n : Int) by omega), if_pos (show (0 : Int) ≤ (i : Int) by omega), if_pos (show (i : Int) < (t.length : Int) by omega), if_pos (show (0 : Int) ≤ (kk : Int) by omega), if_pos (show (kk : Int) < ((rd_L3 t (i : Int)).length : Int) by omega), if_pos (show (kk : Int) < (t.length : Int) by omega), if_pos (show (0 : Int) ≤ (j : Int) by omega), if_pos (show (j : Int) < ((rd_L3 t (kk : Int)).length : Int) by omega), if_pos (show (j : Int) < ((rd_L3 t (i : Int)).length : Int) by omega), rdTT ht i kk hi hk, rdTT ht kk j hk (by omega), wsucc j (by omega), Int.toNat_natCast]
    by_cases c1 : tb t i kk = true
    · by_cases c2 : tb t kk j = true
      · simp only [if_pos c1, if_pos c2]
        have hs : stepT t kk i j = putT t i j true := by unfold stepT; rw [if_pos (by rw [c1, c2]; rfl)]
        rw [hs] at h ⊢
        rw [rdTB t i (by omega)]
        exact h
      · simp only [if_pos c1, if_neg c2]
        have hs : stepT t kk i j = t := by unfold stepT; rw [if_neg (by rw [c1]; simpa using c2)]
        rw [hs] at h ⊢
        exact h
    · simp only [if_neg c1]
      have hs : stepT t kk i j = t := by unfold stepT; rw [if_neg (by simp only [Bool.and_eq_true]; exact fun x => c1 x.1)]
      rw [hs] at h ⊢
      exact h
theorem spec_l3 (n : Nat) (hn : n ≤ 8) (kk : Nat) (hk : kk < n) (R : List (List Bool) → List (List Bool))
    (hnext : ∀ t, Sq n t → Ev (fun k => spec_l4Table.l2 k (n : Int) t ((kk + 1 : Nat) : Int)) (R t)) :
    ∀ (d i : Nat) (t : List (List Bool)), i + d = n → Sq n t → Ev (fun k => spec_l4Table.l3 k (n : Int) t (kk : Int) (i : Int)) (R (midF n t kk (List.range' i d))) := by
  intro d
  induction d with
  | zero =>
    intro i t hi ht
    refine ev_succ ?_
    simp only [spec_l4Table.l3, if_neg (show ¬ (i : Int) < (n : Int) by omega), wsucc kk (by omega)]
    exact hnext t ht
  | succ d ih =>
    intro i t hi ht
    refine ev_succ ?_
    rw [List.range'_succ]
    simp only [midF, List.foldl_cons, spec_l4Table.l3, if_pos (show (i : Int) < (n : Int) by omega)]
    exact spec_l4 n hn kk i hk (by omega) (fun t => R (midF n t kk (List.range' (i + 1) d))) (fun t ht => ih (i + 1) t (by omega) ht) n 0 t (by omega) ht
theorem mid_sq {n : Nat} {t : List (List Bool)} (h : Sq n t) (k : Nat) : ∀ is : List Nat, (∀ i ∈ is, i < n) → Sq n (midF n t k is) := by
  intro is
  unfold midF
  induction is generalizing t with
  | nil => intro _; exact h
  | cons i is ih => intro hi; exact ih (h.row_fold k i (hi i (by simp)) _) (fun x hx => hi x (by simp [hx]))
theorem spec_l2 (n : Nat) (hn : n ≤ 8) : ∀ (d kk : Nat) (t : List (List Bool)), kk + d = n → Sq n t → Ev (fun k => spec_l4Table.l2 k (n : Int) t (kk : Int)) (outF n t (List.range' kk d)) := by
  intro d
  induction d with
  | zero =>
    intro kk t hk ht
    refine ev_succ ?_
    simp only [spec_l4Table.l2, if_neg (show ¬ (kk : Int) < (n : Int) by omega)]
    exact ev_now _
  | succ d ih =>
    intro kk t hk ht
    refine ev_succ ?_
    rw [List.range'_succ]
    simp only [outF, List.foldl_cons, spec_l4Table.l2, if_pos (show (kk : Int) < (n : Int) by omega)]
    exact spec_l3 n hn kk (by omega) (fun t => outF n t (List.range' (kk + 1) d)) (fun t ht => ih (kk + 1) t (by omega) ht) n 0 t (by omega) ht
theorem edge_sq {n : Nat} {t : List (List Bool)} (h : Sq n t) : ∀ es : List S71, inN n es → Sq n (edgeF t es) := by
  intro es
  unfold edgeF
  induction es generalizing t with
  | nil => intro _; exact h
  | cons e es ih =>
    intro he
    have := he e (by simp)
    exact ih (h.put _ _ (by omega) true) (fun x hx => he x (by simp [hx]))
theorem spec_l1 (n : Nat) (hn : n ≤ 8) (es : List S71) (hes : es.length ≤ 1048576) (hin : inN n es) : ∀ (d i : Nat) (t : List (List Bool)), i + d = es.length → Sq n t → Ev (fun k => spec_l4Table.l1 k (n : Int) es t (i : Int)) (outF n (edgeF t (es.drop i)) (List.range' 0 n)) := by
  intro d
  induction d with
  | zero =>
    intro i t hi ht
    refine ev_succ ?_
    simp only [spec_l4Table.l1, if_neg (show ¬ (i : Int) < (es.length : Int) by omega), List.drop_of_length_le (show es.length ≤ i by omega)]
    exact spec_l2 n hn n 0 t (by omega) ht
  | succ d ih =>
    intro i t hi ht
    refine ev_succ ?_
    have hx : i < es.length := by omega
    have hl := ht.1
    have he := hin es[i] (List.getElem_mem hx)
    obtain ⟨a, ha⟩ := Int.eq_ofNat_of_zero_le he.1
    obtain ⟨b, hb⟩ := Int.eq_ofNat_of_zero_le he.2.2.1
    have hr : (rd_L3 t (a : Int)).length = n := by rw [rdBB t a (by omega)]; exact ht.row a (by omega)
    have h := ih (i + 1) (putT t a b true) (by omega) (ht.put a b (by omega) true)
    rw [List.drop_eq_getElem_cons hx]
    simp only [edgeF, List.foldl_cons, ha, hb, Int.toNat_natCast]
    simp only [edgeF] at h
    simp only [spec_l4Table.l1, if_pos (show (i : Int) < (es.length : Int) by omega), if_pos (show (0 : Int) ≤ (i : Int) by omega), rdA2 es i hx, ha, hb, if_pos (show (0 : Int) ≤ (a : Int) by omega), if_pos (show (a : Int) < (t.length : Int) by omega), if_pos (show (0 : Int) ≤ (b : Int) by omega), if_pos (show (b : Int) < ((rd_L3 t (a : Int)).length : Int) by omega), wsucc i (by omega), Int.toNat_natCast]
    rw [rdTB t a (by omega)]
    exact h
theorem spec_l0 (n : Nat) (hn : n ≤ 8) (es : List S71) (hes : es.length ≤ 1048576) (hin : inN n es) : ∀ (d i : Nat) (t : List (List Bool)), i + d = n → t = List.replicate i (List.replicate n false) → Ev (fun k => spec_l4Table.l0 k (n : Int) es t (i : Int)) (closT n es) := by
  intro d
  induction d with
  | zero =>
    intro i t hi ht
    refine ev_succ ?_
    have hin' : i = n := by omega
    subst hin'
    simp only [spec_l4Table.l0, if_neg (show ¬ (i : Int) < (i : Int) by omega)]
    have := spec_l1 i hn es hes hin es.length 0 t (by omega) (by rw [ht]; exact ⟨by simp, fun r hr => by rw [List.eq_of_mem_replicate hr]; simp⟩)
    rw [List.drop_zero, ht] at this
    rw [ht]
    exact this
  | succ d ih =>
    intro i t hi ht
    refine ev_succ ?_
    have hl : t.length = i := by rw [ht]; simp
    simp only [spec_l4Table.l0, if_pos (show (i : Int) < (n : Int) by omega), if_pos (show (0 : Int) ≤ (n : Int) by omega), Int.toNat_natCast, if_pos (show n ≤ 281474976710656 by omega), if_pos (show t.length < 5864062014805 by omega), wsucc i (by omega)]
    exact ih (i + 1) _ (by omega) (by rw [ht, List.replicate_succ'])
theorem l4Table_ev (n : Nat) (hn : n ≤ 8) (es : List S71) (hes : es.length ≤ 1048576) (hin : inN n es) : Ev (fun k => spec_l4Table.f k (n : Int) es) (closT n es) := by
  unfold spec_l4Table.f
  exact spec_l0 n hn es hes hin n 0 [] (by omega) (by simp)
theorem impl_l4 (n : Nat) (hn : n ≤ 8) (kk i : Nat) (hk : kk < n) (hi : i < n) (R : List (List Bool) → List (List Bool))
    (hnext : ∀ t, Sq n t → Ev (fun k => impl_closure.l3 k (n : Int) t (kk : Int) ((i + 1 : Nat) : Int)) (R t)) :
    ∀ (d j : Nat) (t : List (List Bool)), j + d = n → Sq n t → Ev (fun k => impl_closure.l4 k (n : Int) t (kk : Int) (i : Int) (j : Int)) (R (rowF t kk i (List.range' j d))) := by
  intro d
  induction d with
  | zero =>
    intro j t hj ht
    refine ev_succ ?_
    simp only [impl_closure.l4, if_neg (show ¬ (j : Int) < (n : Int) by omega), wsucc i (by omega)]
    exact hnext t ht
  | succ d ih =>
    intro j t hj ht
    refine ev_succ ?_
    have hl := ht.1
    have hri : (rd_L3 t (i : Int)).length = n := by rw [rdBB t i (by omega)]; exact ht.row i hi
    have hrk : (rd_L3 t (kk : Int)).length = n := by rw [rdBB t kk (by omega)]; exact ht.row kk hk
    have h := ih (j + 1) (stepT t kk i j) (by omega) (ht.step kk i j hi)
    rw [List.range'_succ]
    simp only [rowF, List.foldl_cons]
    simp only [rowF] at h
    simp only [impl_closure.l4, if_pos (show (j : Int) < (n : Int) by omega), if_pos (show (0 : Int) ≤ (i : Int) by omega), if_pos (show (i : Int) < (t.length : Int) by omega), if_pos (show (0 : Int) ≤ (kk : Int) by omega), if_pos (show (kk : Int) < ((rd_L3 t (i : Int)).length : Int) by omega), if_pos (show (kk : Int) < (t.length : Int) by omega), if_pos (show (0 : Int) ≤ (j : Int) by omega), if_pos (show (j : Int) < ((rd_L3 t (kk : Int)).length : Int) by omega), if_pos (show (j : Int) < ((rd_L3 t (i : Int)).length : Int) by omega), rdTT ht i kk hi hk, rdTT ht kk j hk (by omega), rdTT ht i j hi (by omega), wsucc j (by omega), Int.toNat_natCast]
    have hput : ∀ b, t.set i ((rd_L3 t (i : Int)).set j b) = putT t i j b := fun b => by rw [rdTB t i (by omega)]; rfl
    have hsame := put_same ht i j hi (show j < n by omega)
    by_cases c0 : tb t i j = true
    · simp only [if_pos c0, hput]
      have hs : stepT t kk i j = t := by
        unfold stepT
        split
        · rw [c0] at hsame; exact hsame
        · rfl
      rw [hs] at h ⊢
      rw [c0] at hsame
      rw [hsame]
      exact h
    · have c0' : tb t i j = false := by simpa using c0
      rw [c0'] at hsame
      by_cases c1 : tb t i kk = true
      · simp only [if_neg c0, if_pos c1, hput]
        by_cases c2 : tb t kk j = true
        · have hs : stepT t kk i j = putT t i j true := by unfold stepT; rw [if_pos (by rw [c1, c2]; rfl)]
          rw [hs] at h ⊢
          rw [c2]
          exact h
        · have c2' : tb t kk j = false := by simpa using c2
          have hs : stepT t kk i j = t := by unfold stepT; rw [if_neg (by rw [c1]; simpa using c2)]
          rw [hs] at h ⊢
          rw [c2', hsame]
          exact h
      · simp only [if_neg c0, if_neg c1, hput]
        have hs : stepT t kk i j = t := by unfold stepT; rw [if_neg (by simp only [Bool.and_eq_true]; exact fun x => c1 x.1)]
        rw [hs] at h ⊢
        rw [hsame]
        exact h
theorem impl_l3 (n : Nat) (hn : n ≤ 8) (kk : Nat) (hk : kk < n) (R : List (List Bool) → List (List Bool))
    (hnext : ∀ t, Sq n t → Ev (fun k => impl_closure.l2 k (n : Int) t ((kk + 1 : Nat) : Int)) (R t)) :
    ∀ (d i : Nat) (t : List (List Bool)), i + d = n → Sq n t → Ev (fun k => impl_closure.l3 k (n : Int) t (kk : Int) (i : Int)) (R (midF n t kk (List.range' i d))) := by
  intro d
  induction d with
  | zero =>
    intro i t hi ht
    refine ev_succ ?_
    simp only [impl_closure.l3, if_neg (show ¬ (i : Int) < (n : Int) by omega), wsucc kk (by omega)]
    exact hnext t ht
  | succ d ih =>
    intro i t hi ht
    refine ev_succ ?_
    rw [List.range'_succ]
    simp only [midF, List.foldl_cons, impl_closure.l3, if_pos (show (i : Int) < (n : Int) by omega)]
    exact impl_l4 n hn kk i hk (by omega) (fun t => R (midF n t kk (List.range' (i + 1) d))) (fun t ht => ih (i + 1) t (by omega) ht) n 0 t (by omega) ht
theorem impl_l2 (n : Nat) (hn : n ≤ 8) : ∀ (d kk : Nat) (t : List (List Bool)), kk + d = n → Sq n t → Ev (fun k => impl_closure.l2 k (n : Int) t (kk : Int)) (outF n t (List.range' kk d)) := by
  intro d
  induction d with
  | zero =>
    intro kk t hk ht
    refine ev_succ ?_
    simp only [impl_closure.l2, if_neg (show ¬ (kk : Int) < (n : Int) by omega)]
    exact ev_now _
  | succ d ih =>
    intro kk t hk ht
    refine ev_succ ?_
    rw [List.range'_succ]
    simp only [outF, List.foldl_cons, impl_closure.l2, if_pos (show (kk : Int) < (n : Int) by omega)]
    exact impl_l3 n hn kk (by omega) (fun t => outF n t (List.range' (kk + 1) d)) (fun t ht => ih (kk + 1) t (by omega) ht) n 0 t (by omega) ht
theorem impl_l1 (n : Nat) (hn : n ≤ 8) (es : List S71) (hes : es.length ≤ 1048576) (hin : inN n es) : ∀ (d i : Nat) (t : List (List Bool)), i + d = es.length → Sq n t → Ev (fun k => impl_closure.l1 k (n : Int) t es (es.length : Int) (i : Int)) (outF n (edgeF t (es.drop i)) (List.range' 0 n)) := by
  intro d
  induction d with
  | zero =>
    intro i t hi ht
    refine ev_succ ?_
    simp only [impl_closure.l1, if_neg (show ¬ (i : Int) < (es.length : Int) by omega), List.drop_of_length_le (show es.length ≤ i by omega)]
    exact impl_l2 n hn n 0 t (by omega) ht
  | succ d ih =>
    intro i t hi ht
    refine ev_succ ?_
    have hx : i < es.length := by omega
    have hl := ht.1
    have he := hin es[i] (List.getElem_mem hx)
    obtain ⟨a, ha⟩ := Int.eq_ofNat_of_zero_le he.1
    obtain ⟨b, hb⟩ := Int.eq_ofNat_of_zero_le he.2.2.1
    have hr : (rd_L3 t (a : Int)).length = n := by rw [rdBB t a (by omega)]; exact ht.row a (by omega)
    have h := ih (i + 1) (putT t a b true) (by omega) (ht.put a b (by omega) true)
    rw [List.drop_eq_getElem_cons hx]
    simp only [edgeF, List.foldl_cons, ha, hb, Int.toNat_natCast]
    simp only [edgeF] at h
    simp only [impl_closure.l1, if_pos (show (i : Int) < (es.length : Int) by omega), if_pos (show (0 : Int) ≤ (i : Int) by omega), rdA2 es i hx, ha, hb, if_pos (show (0 : Int) ≤ (a : Int) by omega), if_pos (show (a : Int) < (t.length : Int) by omega), if_pos (show (0 : Int) ≤ (b : Int) by omega), if_pos (show (b : Int) < ((rd_L3 t (a : Int)).length : Int) by omega), wsucc i (by omega), Int.toNat_natCast]
    rw [rdTB t a (by omega)]
    exact h
theorem impl_l0 (n : Nat) (hn : n ≤ 8) (es : List S71) (hes : es.length ≤ 1048576) (hin : inN n es) : ∀ (d i : Nat) (t : List (List Bool)), i + d = n → t.length = n → t.take i = List.replicate i (List.replicate n false) → Ev (fun k => impl_closure.l0 k (n : Int) es t (n : Int) (i : Int)) (closT n es) := by
  intro d
  induction d with
  | zero =>
    intro i t hi hl ht
    refine ev_succ ?_
    have hin' : i = n := by omega
    subst hin'
    rw [List.take_of_length_le (by omega)] at ht
    simp only [impl_closure.l0, if_neg (show ¬ (i : Int) < (i : Int) by omega)]
    have := impl_l1 i hn es hes hin es.length 0 t (by omega) (by rw [ht]; exact ⟨by simp, fun r hr => by rw [List.eq_of_mem_replicate hr]; simp⟩)
    rw [List.drop_zero, ht] at this
    rw [ht]
    exact this
  | succ d ih =>
    intro i t hi hl ht
    refine ev_succ ?_
    simp only [impl_closure.l0, if_pos (show (i : Int) < (n : Int) by omega), if_pos (show (0 : Int) ≤ (n : Int) by omega), Int.toNat_natCast, if_pos (show n ≤ 281474976710656 by omega), if_pos (show (0 : Int) ≤ (i : Int) by omega), if_pos (show (i : Int) < (t.length : Int) by omega), wsucc i (by omega)]
    exact ih (i + 1) _ (by omega) (by rw [List.length_set]; exact hl) (by rw [take_set_succ t i _ (by omega), ht, List.replicate_succ'])
theorem closure_ev (n : Nat) (hn : n ≤ 8) (es : List S71) (hes : es.length ≤ 1048576) (hin : inN n es) : Ev (fun k => impl_closure.f k (n : Int) es) (closT n es) := by
  unfold impl_closure.f
  simp only [if_pos (show (0 : Int) ≤ (n : Int) by omega), Int.toNat_natCast, if_pos (show n ≤ 11728124029610 by omega), Option.bind_some, List.length_replicate]
  exact impl_l0 n hn es hes hin n 0 _ (by omega) (by simp) (by simp)
theorem clos_sq (n : Nat) (es : List S71) (hin : inN n es) : Sq n (closT n es) := by
  unfold closT
  have h0 : Sq n (edgeF (List.replicate n (List.replicate n false)) es) := edge_sq ⟨by simp, fun r hr => by rw [List.eq_of_mem_replicate hr]; simp⟩ es hin
  have key : ∀ (ks : List Nat) (t : List (List Bool)), Sq n t → Sq n (outF n t ks) := by
    intro ks
    unfold outF
    induction ks with
    | nil => intro t h; exact h
    | cons k ks ih => intro t h; exact ih _ (mid_sq h k _ (fun i hi => by rw [List.mem_range'_1] at hi; omega))
  exact key _ _ h0

theorem l1In_eq (a b c : Int) : spec_l1In.f a b c = some (decide (b ≤ a) && decide (a ≤ c)) := by
  unfold spec_l1In.f
  by_cases h : b ≤ a
  · rw [if_pos h]; simp [h]
  · rw [if_neg h]; simp [h]

theorem within_eq (a b c : Int) : impl_within.f a b c = some (decide (b ≤ a) && decide (a ≤ c)) := by
  unfold impl_within.f
  by_cases h : b ≤ a
  · rw [if_pos h]; simp [h]
  · rw [if_neg h]; simp [h]

theorem isNumber_eq (i n : Int) (h0 : 0 ≤ n) (h1 : n ≤ 9223372036854775807) : impl_isNumber.f i n = some (decide (0 ≤ i) && decide (i < n)) := by
  unfold impl_isNumber.f
  rw [within_eq, w64 (by omega) (by omega)]
  simp only [Option.bind_some]
  congr 2
  rw [decide_eq_decide]
  omega

def cE (m : Int) (es : List S71) (i : Nat) : Bool :=
  decide (0 ≤ (rd_T71 es (i : Int)).f0) && decide ((rd_T71 es (i : Int)).f0 ≤ m) && (decide (0 ≤ (rd_T71 es (i : Int)).f1) && decide ((rd_T71 es (i : Int)).f1 ≤ m)) && !decide ((rd_T71 es (i : Int)).f0 = (rd_T71 es (i : Int)).f1) &&
  (decide (i = 0) || decide ((rd_T71 es ((i - 1 : Nat) : Int)).f0 < (rd_T71 es (i : Int)).f0) || decide ((rd_T71 es ((i - 1 : Nat) : Int)).f0 = (rd_T71 es (i : Int)).f0) && decide ((rd_T71 es ((i - 1 : Nat) : Int)).f1 < (rd_T71 es (i : Int)).f1))
def pfE (m : Int) (es : List S71) (i : Nat) : Nat → Bool
  | 0 => true
  | d + 1 => cE m es i && pfE m es (i + 1) d
theorem l4Before_eq (a b c d : Int) : spec_l4Before.f a b c d = some (decide (a < c) || decide (a = c) && decide (b < d)) := by
  unfold spec_l4Before.f
  by_cases h : a < c
  · rw [if_pos h]; simp [h]
  · rw [if_neg h]
    by_cases h' : a = c
    · rw [if_pos h']; simp [h, h']
    · rw [if_neg h']; simp [h, h']
theorem wpred (i : Nat) (h0 : 0 < i) (h : i < 4611686018427387904) : wrap64 ((i : Int) - 1) = ((i - 1 : Nat) : Int) := by
  rw [w64 (by omega) (by omega)]; omega
theorem l4Pairs_l (n : Int) (es : List S71) (hes : es.length ≤ 1048576) : ∀ (d i : Nat), i + d = es.length → Ev (fun k => spec_l4Pairs.l0 k n es (i : Int)) (pfE (wrap64 (n - 1)) es i d && ((decide (0 ≤ n) && decide (n ≤ 8)) && decide ((es.length : Int) ≤ 28))) := by
  intro d
  induction d with
  | zero =>
    intro i hi
    refine ev_succ ?_
    simp only [spec_l4Pairs.l0, if_neg (show ¬ (i : Int) < (es.length : Int) by omega), l1In_eq, Option.bind_some, pfE, Bool.true_and]
    cases hb : (decide (0 ≤ n) && decide (n ≤ 8))
    · simp only [Bool.false_eq_true, if_false, Bool.false_and]; exact ev_now _
    · simp only [if_true, Bool.true_and]; exact ev_now _
  | succ d ih =>
    intro i hi
    refine ev_succ ?_
    have h := ih (i + 1) (by omega)
    simp only [spec_l4Pairs.l0, if_pos (show (i : Int) < (es.length : Int) by omega), if_pos (show (0 : Int) ≤ (i : Int) by omega), l1In_eq, l4Before_eq, Option.bind_some, pfE, wsucc i (by omega)]
    unfold cE
    by_cases ha : (decide (0 ≤ (rd_T71 es (i : Int)).f0) && decide ((rd_T71 es (i : Int)).f0 ≤ wrap64 (n - 1))) = true
    · by_cases hb : (decide (0 ≤ (rd_T71 es (i : Int)).f1) && decide ((rd_T71 es (i : Int)).f1 ≤ wrap64 (n - 1))) = true
      · by_cases hc : (rd_T71 es (i : Int)).f0 = (rd_T71 es (i : Int)).f1
        · simp only [ha, hb, if_true, if_pos hc, decide_eq_true hc, Bool.not_true, Bool.and_false, Bool.false_and]; exact ev_now _
        · by_cases h0 : i = 0
          · subst h0
            simp only [ha, hb, if_true, if_neg hc, decide_true, Bool.true_or, Bool.true_and, decide_eq_false hc, Bool.not_false, gt_iff_lt, if_neg (show ¬ ((0 : Int) < ((0 : Nat) : Int)) by omega)]
            exact h
          · simp only [ha, hb, if_true, if_neg hc, if_pos (show (i : Int) > 0 by omega), wpred i (by omega) (by omega), if_pos (show (0 : Int) ≤ ((i - 1 : Nat) : Int) by omega), if_pos (show ((i - 1 : Nat) : Int) < (es.length : Int) by omega), decide_eq_false h0, Bool.false_or, Bool.true_and, decide_eq_false hc, Bool.not_false]
            cases hd : (decide ((rd_T71 es ((i - 1 : Nat) : Int)).f0 < (rd_T71 es (i : Int)).f0) || decide ((rd_T71 es ((i - 1 : Nat) : Int)).f0 = (rd_T71 es (i : Int)).f0) && decide ((rd_T71 es ((i - 1 : Nat) : Int)).f1 < (rd_T71 es (i : Int)).f1))
            · simp only [Bool.false_eq_true, if_false, Bool.false_and]; exact ev_now _
            · simp only [if_true, Bool.true_and]; exact h
      · simp only [ha, if_true, if_neg hb, Bool.not_eq_true .. ▸ hb, Bool.and_false, Bool.false_and]; exact ev_now _
    · simp only [if_neg ha, Bool.not_eq_true .. ▸ ha, Bool.false_and]; exact ev_now _
def okE (n : Int) (es : List S71) : Bool := pfE (wrap64 (n - 1)) es 0 es.length && ((decide (0 ≤ n) && decide (n ≤ 8)) && decide ((es.length : Int) ≤ 28))
theorem l4Pairs_ev (n : Int) (es : List S71) (hes : es.length ≤ 1048576) : Ev (fun k => spec_l4Pairs.f k n es) (okE n es) := by
  unfold spec_l4Pairs.f
  exact l4Pairs_l n es hes es.length 0 (by omega)
theorem pfE_in (n : Nat) (hn : n ≤ 8) (es : List S71) : ∀ (d i : Nat), i + d = es.length → pfE (wrap64 ((n : Int) - 1)) es i d = true → ∀ j, i ≤ j → (hj : j < es.length) → 0 ≤ (es[j]).f0 ∧ (es[j]).f0 < n ∧ 0 ≤ (es[j]).f1 ∧ (es[j]).f1 < n := by
  intro d
  induction d with
  | zero => intro i hi _ j hj hj'; omega
  | succ d ih =>
    intro i hi h j hj hj'
    unfold pfE at h
    rw [Bool.and_eq_true] at h
    by_cases he : j = i
    · subst he
      have h1 := h.1
      unfold cE at h1
      rw [rdA2 es j hj', w64 (by omega) (by omega)] at h1
      simp only [Bool.and_eq_true, decide_eq_true_eq] at h1
      obtain ⟨⟨⟨⟨a1, a2⟩, ⟨a3, a4⟩⟩, _⟩, _⟩ := h1
      exact ⟨a1, by omega, a3, by omega⟩
    · exact ih (i + 1) (by omega) h.2 j (by omega) hj'
theorem okE_in (n : Int) (es : List S71) (h : okE n es = true) : ∃ m : Nat, n = m ∧ m ≤ 8 ∧ es.length ≤ 28 ∧ inN m es := by
  unfold okE at h
  simp only [Bool.and_eq_true, decide_eq_true_eq] at h
  obtain ⟨h1, ⟨h2, h3⟩, h4⟩ := h
  obtain ⟨m, rfl⟩ := Int.eq_ofNat_of_zero_le h2
  refine ⟨m, rfl, by omega, by omega, fun e he => ?_⟩
  obtain ⟨j, hj, rfl⟩ := List.mem_iff_getElem.mp he
  have := pfE_in m (by omega) es es.length 0 (by omega) h1 j (by omega) hj
  omega
/-- No job stands before itself, from the i-th on. -/
def acyF (t : List (List Bool)) (i : Nat) : Nat → Bool
  | 0 => true
  | d + 1 => !tb t i i && acyF t (i + 1) d
def good4 (n : Int) (es : List S71) : Bool := okE n es && acyF (closT n.toNat es) 0 n.toNat
theorem l4Good_l (n : Nat) (hn : n ≤ 8) (t : List (List Bool)) (ht : Sq n t) : ∀ (d i : Nat), i + d = n → Ev (fun k => spec_l4Good.l0 k (n : Int) t (i : Int)) (acyF t i d) := by
  intro d
  induction d with
  | zero =>
    intro i hi
    refine ev_succ ?_
    simp only [spec_l4Good.l0, if_neg (show ¬ (i : Int) < (n : Int) by omega), acyF]
    exact ev_now _
  | succ d ih =>
    intro i hi
    refine ev_succ ?_
    have h := ih (i + 1) (by omega)
    have hl := ht.1
    have hr : (rd_L3 t (i : Int)).length = n := by rw [rdBB t i (by omega)]; exact ht.row i (by omega)
    simp only [spec_l4Good.l0, if_pos (show (i : Int) < (n : Int) by omega), if_pos (show (0 : Int) ≤ (i : Int) by omega), if_pos (show (i : Int) < (t.length : Int) by omega), if_pos (show (i : Int) < ((rd_L3 t (i : Int)).length : Int) by omega), rdTT ht i i (by omega) (by omega), wsucc i (by omega), acyF]
    cases tb t i i
    · simp only [Bool.false_eq_true, if_false, Bool.not_false, Bool.true_and]; exact h
    · simp only [if_true, Bool.not_true, Bool.false_and]; exact ev_now _
theorem l4Good_ev (n : Int) (es : List S71) (hes : es.length ≤ 1048576) : Ev (fun k => spec_l4Good.f k n es) (good4 n es) := by
  unfold spec_l4Good.f good4
  refine ev_bind (l4Pairs_ev n es hes) ?_
  cases hk : okE n es
  · simp only [Bool.false_eq_true, if_false, Bool.false_and]; exact ev_now _
  · obtain ⟨m, rfl, hm, hl, hin⟩ := okE_in n es hk
    simp only [if_true, Bool.true_and, Int.toNat_natCast]
    exact ev_bind (l4Table_ev m hm es hes hin) (l4Good_l m hm _ (clos_sq m es hin) m 0 (by omega))
theorem isPrec_l1 (n : Nat) (hn : n ≤ 8) (t : List (List Bool)) (ht : Sq n t) : ∀ (d i : Nat), i + d = n → Ev (fun k => impl_IsPrecedence.l1 k t (n : Int) (i : Int)) (acyF t i d) := by
  intro d
  induction d with
  | zero =>
    intro i hi
    refine ev_succ ?_
    simp only [impl_IsPrecedence.l1, if_neg (show ¬ (i : Int) < (n : Int) by omega), acyF]
    exact ev_now _
  | succ d ih =>
    intro i hi
    refine ev_succ ?_
    have h := ih (i + 1) (by omega)
    have hl := ht.1
    have hr : (rd_L3 t (i : Int)).length = n := by rw [rdBB t i (by omega)]; exact ht.row i (by omega)
    simp only [impl_IsPrecedence.l1, if_pos (show (i : Int) < (n : Int) by omega), if_pos (show (0 : Int) ≤ (i : Int) by omega), if_pos (show (i : Int) < (t.length : Int) by omega), if_pos (show (i : Int) < ((rd_L3 t (i : Int)).length : Int) by omega), rdTT ht i i (by omega) (by omega), wsucc i (by omega), acyF]
    cases tb t i i
    · simp only [Bool.false_eq_true, if_false, Bool.not_false, Bool.true_and]; exact h
    · simp only [if_true, Bool.not_true, Bool.false_and]; exact ev_now _
theorem isPrec_l0 (n : Nat) (hn : n ≤ 8) (es : List S71) (hes : es.length ≤ 28) (hG : pfE (wrap64 ((n : Int) - 1)) es 0 es.length = true → inN n es) :
    ∀ (d i : Nat), i + d = es.length → (pfE (wrap64 ((n : Int) - 1)) es i d = true → pfE (wrap64 ((n : Int) - 1)) es 0 es.length = true) → Ev (fun k => impl_IsPrecedence.l0 k (n : Int) es es (es.length : Int) (i : Int)) (pfE (wrap64 ((n : Int) - 1)) es i d && acyF (closT n es) 0 n) := by
  intro d
  induction d with
  | zero =>
    intro i hi hp
    have hin := hG (hp rfl)
    have hl := (clos_sq n es hin).1
    refine ev_succ ?_
    simp only [impl_IsPrecedence.l0, if_neg (show ¬ (i : Int) < (es.length : Int) by omega), pfE, Bool.true_and]
    refine ev_bind (closure_ev n hn es (by omega) hin) ?_
    rw [hl]
    exact isPrec_l1 n hn _ (clos_sq n es hin) n 0 (by omega)
  | succ d ih =>
    intro i hi hp
    refine ev_succ ?_
    have hm : wrap64 ((n : Int) - 1) = (n : Int) - 1 := w64 (by omega) (by omega)
    have e1 : ∀ x : Int, decide (x ≤ (n : Int) - 1) = decide (x < (n : Int)) := fun x => by rw [decide_eq_decide]; omega
    have h := fun (hq : cE (wrap64 ((n : Int) - 1)) es i = true) => ih (i + 1) (by omega) (fun x => hp (by rw [pfE, hq, x]; rfl))
    simp only [impl_IsPrecedence.l0, if_pos (show (i : Int) < (es.length : Int) by omega), if_pos (show (0 : Int) ≤ (i : Int) by omega), isNumber_eq _ (n : Int) (by omega) (by omega), Option.bind_some, pfE]
    have hcE : cE (wrap64 ((n : Int) - 1)) es i = (decide (0 ≤ (rd_T71 es (i : Int)).f0) && decide ((rd_T71 es (i : Int)).f0 < (n : Int)) && (decide (0 ≤ (rd_T71 es (i : Int)).f1) && decide ((rd_T71 es (i : Int)).f1 < (n : Int))) && !decide ((rd_T71 es (i : Int)).f0 = (rd_T71 es (i : Int)).f1) &&
        (decide (i = 0) || decide ((rd_T71 es ((i - 1 : Nat) : Int)).f0 < (rd_T71 es (i : Int)).f0) || decide ((rd_T71 es ((i - 1 : Nat) : Int)).f0 = (rd_T71 es (i : Int)).f0) && decide ((rd_T71 es ((i - 1 : Nat) : Int)).f1 < (rd_T71 es (i : Int)).f1))) := by
      unfold cE; rw [hm, e1, e1]
    by_cases ha : (decide (0 ≤ (rd_T71 es (i : Int)).f0) && decide ((rd_T71 es (i : Int)).f0 < (n : Int))) = true
    · by_cases hb : (decide (0 ≤ (rd_T71 es (i : Int)).f1) && decide ((rd_T71 es (i : Int)).f1 < (n : Int))) = true
      · simp only [ha, hb, if_true]
        refine ev_succ ?_
        rw [ha, hb] at hcE
        by_cases hc : (rd_T71 es (i : Int)).f0 = (rd_T71 es (i : Int)).f1
        · rw [hcE]
          simp only [impl_IsPrecedence.j2, hc, beq_self_eq_true, if_true, decide_true, Bool.not_true, Bool.and_false, Bool.false_and]; exact ev_now _
        · by_cases h0 : i = 0
          · have hc' : cE (wrap64 ((n : Int) - 1)) es i = true := by rw [hcE]; simp only [decide_eq_false hc, decide_eq_true h0]; rfl
            have h := h hc'
            rw [hc']
            subst h0
            simp only [impl_IsPrecedence.j2, beq_eq_false_iff_ne.mpr hc, Bool.false_eq_true, if_false, gt_iff_lt, if_neg (show ¬ ((0 : Int) < ((0 : Nat) : Int)) by omega), wsucc 0 (by omega), Bool.true_and]
            exact h
          · simp only [impl_IsPrecedence.j2, beq_eq_false_iff_ne.mpr hc, Bool.false_eq_true, if_false, gt_iff_lt, ge_iff_le, if_pos (show (0 : Int) < (i : Int) by omega), wpred i (by omega) (by omega), if_pos (show (0 : Int) ≤ ((i - 1 : Nat) : Int) by omega), if_pos (show ((i - 1 : Nat) : Int) < (es.length : Int) by omega), wsucc i (by omega)]
            by_cases g1 : (rd_T71 es (i : Int)).f0 < (rd_T71 es ((i - 1 : Nat) : Int)).f0
            · have hc' : cE (wrap64 ((n : Int) - 1)) es i = false := by rw [hcE]; simp only [decide_eq_false h0, decide_eq_false (show ¬ (rd_T71 es ((i - 1 : Nat) : Int)).f0 < (rd_T71 es (i : Int)).f0 by omega), decide_eq_false (show ¬ (rd_T71 es ((i - 1 : Nat) : Int)).f0 = (rd_T71 es (i : Int)).f0 by omega), Bool.false_and, Bool.false_or, Bool.or_false, Bool.and_false]
              simp only [if_pos g1, hc', Bool.false_and]; exact ev_now _
            · simp only [if_neg g1]
              by_cases g2 : (rd_T71 es ((i - 1 : Nat) : Int)).f0 = (rd_T71 es (i : Int)).f0
              · simp only [if_pos g2]
                by_cases g3 : (rd_T71 es (i : Int)).f1 ≤ (rd_T71 es ((i - 1 : Nat) : Int)).f1
                · have hc' : cE (wrap64 ((n : Int) - 1)) es i = false := by rw [hcE]; simp only [decide_eq_false h0, decide_eq_false (show ¬ (rd_T71 es ((i - 1 : Nat) : Int)).f0 < (rd_T71 es (i : Int)).f0 by omega), decide_eq_false (show ¬ (rd_T71 es ((i - 1 : Nat) : Int)).f1 < (rd_T71 es (i : Int)).f1 by omega), Bool.and_false, Bool.false_or, Bool.or_false]
                  simp only [if_pos g3, hc', Bool.false_and]; exact ev_now _
                · have hc' : cE (wrap64 ((n : Int) - 1)) es i = true := by rw [hcE]; simp only [decide_eq_false hc, decide_eq_true g2, decide_eq_true (show (rd_T71 es ((i - 1 : Nat) : Int)).f1 < (rd_T71 es (i : Int)).f1 by omega), Bool.and_true, Bool.or_true, Bool.not_false]
                  simp only [if_neg g3, hc', Bool.true_and]; exact h hc'
              · have hc' : cE (wrap64 ((n : Int) - 1)) es i = true := by rw [hcE]; simp only [decide_eq_false hc, decide_eq_true (show (rd_T71 es ((i - 1 : Nat) : Int)).f0 < (rd_T71 es (i : Int)).f0 by omega), Bool.and_true, Bool.or_true, Bool.true_or, Bool.not_false]
                simp only [if_neg g2, hc', Bool.true_and]; exact h hc'
      · have hb' : (decide (0 ≤ (rd_T71 es (i : Int)).f1) && decide ((rd_T71 es (i : Int)).f1 < (n : Int))) = false := by simpa using hb
        have hc' : cE (wrap64 ((n : Int) - 1)) es i = false := by rw [hcE, hb', Bool.and_false, Bool.false_and, Bool.false_and]
        simp only [ha, if_true, if_neg hb, hc', Bool.false_and]
        refine ev_succ ?_
        simp only [impl_IsPrecedence.j2, if_true]; exact ev_now _
    · have ha' : (decide (0 ≤ (rd_T71 es (i : Int)).f0) && decide ((rd_T71 es (i : Int)).f0 < (n : Int))) = false := by simpa using ha
      have hc' : cE (wrap64 ((n : Int) - 1)) es i = false := by rw [hcE, ha', Bool.false_and, Bool.false_and, Bool.false_and]
      simp only [if_neg ha, hc', Bool.false_and]
      refine ev_succ ?_
      simp only [impl_IsPrecedence.j2, if_true]; exact ev_now _
theorem isPrec_ev (n : Int) (es : List S71) : Ev (fun k => impl_IsPrecedence.f k n es) (good4 n es) := by
  unfold impl_IsPrecedence.f
  simp only [within_eq, Option.bind_some]
  by_cases h : 0 ≤ n ∧ n ≤ 8
  · obtain ⟨m, rfl⟩ := Int.eq_ofNat_of_zero_le h.1
    have hb : (decide (0 ≤ (m : Int)) && decide ((m : Int) ≤ 8)) = true := by simp; omega
    simp only [hb, if_true]
    refine ev_succ ?_
    by_cases hl : (es.length : Int) > 28
    · have : good4 (m : Int) es = false := by unfold good4 okE; rw [decide_eq_false (show ¬ (es.length : Int) ≤ 28 by omega)]; simp
      simp only [impl_IsPrecedence.j0, decide_eq_true hl, if_true, this]; exact ev_now _
    · simp only [impl_IsPrecedence.j0, decide_eq_false hl, Bool.false_eq_true, if_false]
      have hk : good4 (m : Int) es = (pfE (wrap64 ((m : Int) - 1)) es 0 es.length && acyF (closT m es) 0 m) := by
        unfold good4 okE; rw [hb, decide_eq_true (show (es.length : Int) ≤ 28 by omega)]; simp
      rw [hk]
      refine isPrec_l0 m (by omega) es (by omega) (fun hp => ?_) es.length 0 (by omega) (fun x => x)
      obtain ⟨m', e, _, _, hin⟩ := okE_in (m : Int) es (by unfold okE; rw [hp, hb, decide_eq_true (show (es.length : Int) ≤ 28 by omega)]; rfl)
      rw [show m = m' by omega]; exact hin
  · have hb : (decide (0 ≤ n) && decide (n ≤ 8)) = false := by
      rw [Bool.eq_false_iff]; intro x; simp only [Bool.and_eq_true, decide_eq_true_eq] at x; exact h x
    have : good4 n es = false := by unfold good4 okE; rw [hb]; simp
    simp only [hb, Bool.false_eq_true, if_false, this]
    refine ev_succ ?_
    simp only [impl_IsPrecedence.j0, if_true]; exact ev_now _

/-- The pairs i, j with P, for j from a number on. -/
def prF (P : Nat → Nat → Bool) (i j : Nat) : Nat → List S71
  | 0 => []
  | d + 1 => if P i j = true then ⟨(i : Int), (j : Int)⟩ :: prF P i (j + 1) d else prF P i (j + 1) d
def prsF (P : Nat → Nat → Bool) (n i : Nat) : Nat → List S71
  | 0 => []
  | d + 1 => prF P i 0 n ++ prsF P n (i + 1) d
theorem prF_len (P : Nat → Nat → Bool) (i : Nat) : ∀ d j : Nat, (prF P i j d).length ≤ d := by
  intro d
  induction d with
  | zero => intro j; exact Nat.le_refl _
  | succ d ih =>
    intro j
    unfold prF
    have := ih (j + 1)
    split
    · rw [List.length_cons]; omega
    · omega
theorem prsF_len (P : Nat → Nat → Bool) (n : Nat) : ∀ d i : Nat, (prsF P n i d).length ≤ n * d := by
  intro d
  induction d with
  | zero => intro i; simp [prsF]
  | succ d ih =>
    intro i
    unfold prsF
    have := ih (i + 1)
    have := prF_len P i n 0
    rw [List.length_append, Nat.mul_succ]
    omega
theorem prsF_in (P : Nat → Nat → Bool) (n : Nat) : ∀ d i : Nat, i + d = n → ∀ e ∈ prsF P n i d, ∃ a b : Nat, e = ⟨(a : Int), (b : Int)⟩ ∧ a < n ∧ b < n := by
  have h1 : ∀ (i d j : Nat), i < n → j + d = n → ∀ e ∈ prF P i j d, ∃ a b : Nat, e = ⟨(a : Int), (b : Int)⟩ ∧ a < n ∧ b < n := by
    intro i d
    induction d with
    | zero => intro j _ _ e he; simp [prF] at he
    | succ d ih =>
      intro j hi hj e he
      unfold prF at he
      split at he
      · rcases List.mem_cons.mp he with rfl | he
        · exact ⟨i, j, rfl, hi, by omega⟩
        · exact ih (j + 1) hi (by omega) e he
      · exact ih (j + 1) hi (by omega) e he
  intro d
  induction d with
  | zero => intro i _ e he; simp [prsF] at he
  | succ d ih =>
    intro i hi e he
    unfold prsF at he
    rcases List.mem_append.mp he with he | he
    · exact h1 i n 0 (by omega) (by omega) e he
    · exact ih (i + 1) (by omega) e he
theorem app_cons {α : Type} (l : List α) (x : α) (r : List α) : (l ++ [x]) ++ r = l ++ x :: r := by simp

theorem pairsOf_l1 (n : Nat) (hn : n ≤ 8) (t : List (List Bool)) (ht : Sq n t) (i : Nat) (hi : i < n) (r : List S71)
    (hnext : ∀ acc : List S71, acc.length ≤ 8 * (i + 1) → Ev (fun k => impl_pairsOf.l0 k acc t (n : Int) ((i + 1 : Nat) : Int)) (acc ++ r)) :
    ∀ (d j : Nat) (acc : List S71), j + d = n → acc.length ≤ 8 * i + j → Ev (fun k => impl_pairsOf.l1 k acc (i : Int) t (n : Int) (i : Int) (rd_L3 t (i : Int)) (n : Int) (j : Int)) (acc ++ (prF (tb t) i j d ++ r)) := by
  intro d
  induction d with
  | zero =>
    intro j acc hj ha
    refine ev_succ ?_
    simp only [impl_pairsOf.l1, if_neg (show ¬ (j : Int) < (n : Int) by omega), wsucc i (by omega), prF, List.nil_append]
    exact hnext acc (by omega)
  | succ d ih =>
    intro j acc hj ha
    refine ev_succ ?_
    have hl := ht.1
    have hr : (rd_L3 t (i : Int)).length = n := by rw [rdBB t i (by omega)]; exact ht.row i (by omega)
    simp only [impl_pairsOf.l1, if_pos (show (j : Int) < (n : Int) by omega), if_pos (show (0 : Int) ≤ (j : Int) by omega), if_pos (show (j : Int) < ((rd_L3 t (i : Int)).length : Int) by omega), rdTT ht i j hi (by omega), wsucc j (by omega), prF]
    by_cases c : tb t i j = true
    · have h := ih (j + 1) (acc ++ [⟨(i : Int), (j : Int)⟩]) (by omega) (by rw [List.length_append, List.length_singleton]; omega)
      rw [app_cons] at h
      simp only [if_pos c, if_pos (show acc.length < 8796093022208 by omega), List.cons_append]
      exact h
    · simp only [if_neg c]
      exact ih (j + 1) acc (by omega) (by omega)
theorem pairsOf_l0 (n : Nat) (hn : n ≤ 8) (t : List (List Bool)) (ht : Sq n t) : ∀ (d i : Nat) (acc : List S71), i + d = n → acc.length ≤ 8 * i → Ev (fun k => impl_pairsOf.l0 k acc t (n : Int) (i : Int)) (acc ++ prsF (tb t) n i d) := by
  intro d
  induction d with
  | zero =>
    intro i acc hi ha
    refine ev_succ ?_
    simp only [impl_pairsOf.l0, if_neg (show ¬ (i : Int) < (n : Int) by omega), prsF, List.append_nil]
    exact ev_now _
  | succ d ih =>
    intro i acc hi ha
    refine ev_succ ?_
    have hl := ht.1
    have hr : (rd_L3 t (i : Int)).length = n := by rw [rdBB t i (by omega)]; exact ht.row i (by omega)
    simp only [impl_pairsOf.l0, if_pos (show (i : Int) < (n : Int) by omega), if_pos (show (0 : Int) ≤ (i : Int) by omega), if_pos (show (i : Int) < (t.length : Int) by omega), hr, prsF]
    exact pairsOf_l1 n hn t ht i (by omega) _ (fun acc h => ih (i + 1) acc (by omega) h) n 0 acc (by omega) (by omega)
theorem pairsOf_ev (n : Nat) (hn : n ≤ 8) (t : List (List Bool)) (ht : Sq n t) : Ev (fun k => impl_pairsOf.f k t) (prsF (tb t) n 0 n) := by
  unfold impl_pairsOf.f
  rw [ht.1]
  exact pairsOf_l0 n hn t ht n 0 [] (by omega) (by simp)

def thrF (t : List (List Bool)) (i j k : Nat) : Nat → Bool
  | 0 => false
  | d + 1 => (tb t i k && tb t k j) || thrF t i j (k + 1) d
def redP (t : List (List Bool)) (n : Nat) (i j : Nat) : Bool := tb t i j && !thrF t i j 0 n
theorem through_ev (n : Nat) (hn : n ≤ 8) (t : List (List Bool)) (ht : Sq n t) (i j : Nat) (hi : i < n) (hj : j < n) : Ev (fun k => spec_l4Through.f k t (i : Int) (j : Int)) (thrF t i j 0 n) := by
  have key : ∀ (d m : Nat), m + d = n → Ev (fun k => spec_l4Through.l0 k t (i : Int) (j : Int) (m : Int)) (thrF t i j m d) := by
    intro d
    have hl := ht.1
    induction d with
    | zero =>
      intro m hm
      refine ev_succ ?_
      simp only [spec_l4Through.l0, if_neg (show ¬ (m : Int) < (t.length : Int) by omega), thrF]
      exact ev_now _
    | succ d ih =>
      intro m hm
      refine ev_succ ?_
      have h := ih (m + 1) (by omega)
      have hri : (rd_L3 t (i : Int)).length = n := by rw [rdBB t i (by omega)]; exact ht.row i hi
      have hrm : (rd_L3 t (m : Int)).length = n := by rw [rdBB t m (by omega)]; exact ht.row m (by omega)
      simp only [spec_l4Through.l0, if_pos (show (m : Int) < (t.length : Int) by omega), if_pos (show (0 : Int) ≤ (i : Int) by omega), if_pos (show (i : Int) < (t.length : Int) by omega), if_pos (show (0 : Int) ≤ (m : Int) by omega), if_pos (show (m : Int) < ((rd_L3 t (i : Int)).length : Int) by omega), if_pos (show (0 : Int) ≤ (j : Int) by omega), if_pos (show (j : Int) < ((rd_L3 t (m : Int)).length : Int) by omega), rdTT ht i m hi (by omega), rdTT ht m j (by omega) hj, wsucc m (by omega), thrF]
      cases tb t i m
      · simp only [Bool.false_eq_true, if_false, Bool.false_and, Bool.false_or]; exact h
      · cases tb t m j
        · simp only [Bool.false_eq_true, if_false, if_true, Bool.true_and, Bool.false_or]; exact h
        · simp only [if_true, Bool.true_and, Bool.true_or]; exact ev_now _
  unfold spec_l4Through.f
  exact key n 0 (by omega)
/-- What the reduction keeps of a pair list. -/
def keepF (t : List (List Bool)) (n : Nat) : List S71 → List S71
  | [] => []
  | e :: r => if thrF t e.f0.toNat e.f1.toNat 0 n = true then keepF t n r else e :: keepF t n r
theorem keep_app (t : List (List Bool)) (n : Nat) (a b : List S71) : keepF t n (a ++ b) = keepF t n a ++ keepF t n b := by
  induction a with
  | nil => rfl
  | cons e a ih =>
    rw [List.cons_append, keepF, keepF, ih]
    split <;> rfl
theorem keep_pr (t : List (List Bool)) (n i : Nat) : ∀ d j : Nat, keepF t n (prF (tb t) i j d) = prF (redP t n) i j d := by
  intro d
  induction d with
  | zero => intro j; rfl
  | succ d ih =>
    intro j
    have hP : redP t n i j = (tb t i j && !thrF t i j 0 n) := rfl
    unfold prF
    rw [hP]
    cases tb t i j
    · simp only [Bool.false_eq_true, if_false, Bool.false_and]; exact ih (j + 1)
    · simp only [if_true, Bool.true_and, keepF, Int.toNat_natCast]
      by_cases c : thrF t i j 0 n = true
      · simp only [c, if_true, Bool.not_true, Bool.false_eq_true, if_false]; exact ih (j + 1)
      · have c' : thrF t i j 0 n = false := by simpa using c
        simp only [c', Bool.false_eq_true, if_false, Bool.not_false, if_true, ih (j + 1)]
theorem keep_prs (t : List (List Bool)) (n : Nat) : ∀ d i : Nat, keepF t n (prsF (tb t) n i d) = prsF (redP t n) n i d := by
  intro d
  induction d with
  | zero => intro i; rfl
  | succ d ih =>
    intro i
    unfold prsF
    rw [keep_app, keep_pr, ih]
theorem iPR_l1 (n : Nat) (hn : n ≤ 8) (t : List (List Bool)) (ht : Sq n t) (es : List S71) (p a b : Nat) (hp : p < es.length) (hes : es.length ≤ 1000) (ha : a < n) (hb : b < n) (acc r : List S71) (hacc : acc.length ≤ p)
    (hnext : ∀ acc : List S71, acc.length ≤ p + 1 → Ev (fun k => impl_reduction.l0 k t acc es (es.length : Int) ((p + 1 : Nat) : Int)) (acc ++ r)) :
    ∀ (d m : Nat) (direct : Bool), m + d = n → Ev (fun k => impl_reduction.l1 k t acc direct es (es.length : Int) (p : Int) (n : Int) (m : Int) (a : Int) (b : Int)) (acc ++ ((if direct = true ∧ thrF t a b m d = false then [⟨(a : Int), (b : Int)⟩] else []) ++ r)) := by
  intro d
  have hl := ht.1
  induction d with
  | zero =>
    intro m direct hm
    refine ev_succ ?_
    simp only [impl_reduction.l1, if_neg (show ¬ (m : Int) < (n : Int) by omega), wsucc p (by omega), thrF, and_true]
    cases direct
    · simp only [Bool.false_eq_true, if_false, List.nil_append]
      exact hnext acc (by omega)
    · have h := hnext (acc ++ [⟨(a : Int), (b : Int)⟩]) (by rw [List.length_append, List.length_singleton]; omega)
      rw [app_cons] at h
      simp only [if_true, if_pos (show acc.length < 8796093022208 by omega)]
      exact h
  | succ d ih =>
    intro m direct hm
    refine ev_succ ?_
    have hra : (rd_L3 t (a : Int)).length = n := by rw [rdBB t a (by omega)]; exact ht.row a ha
    have hrm : (rd_L3 t (m : Int)).length = n := by rw [rdBB t m (by omega)]; exact ht.row m (by omega)
    simp only [impl_reduction.l1, if_pos (show (m : Int) < (n : Int) by omega), if_pos (show (0 : Int) ≤ (a : Int) by omega), if_pos (show (a : Int) < (t.length : Int) by omega), if_pos (show (0 : Int) ≤ (m : Int) by omega), if_pos (show (m : Int) < (t.length : Int) by omega), if_pos (show (m : Int) < ((rd_L3 t (a : Int)).length : Int) by omega), if_pos (show (0 : Int) ≤ (b : Int) by omega), if_pos (show (b : Int) < ((rd_L3 t (m : Int)).length : Int) by omega), rdTT ht a m ha (by omega), rdTT ht m b (by omega) hb, wsucc m (by omega), thrF]
    cases direct
    · have h := ih (m + 1) false (by omega)
      simp only [Bool.false_eq_true, if_false, false_and] at h ⊢
      exact h
    · simp only [if_true, true_and]
      cases tb t a m
      · have h := ih (m + 1) true (by omega)
        simp only [true_and] at h
        simp only [Bool.false_eq_true, if_false, Bool.not_false, Bool.false_and, Bool.false_or]
        exact h
      · simp only [if_true, Bool.true_and]
        cases tb t m b
        · have h := ih (m + 1) true (by omega)
          simp only [true_and] at h
          simp only [Bool.not_false, Bool.false_or]
          exact h
        · have h := ih (m + 1) false (by omega)
          simp only [Bool.false_eq_true, false_and, if_false] at h
          simp only [Bool.not_true, Bool.true_or, Bool.true_eq_false, if_false]
          exact h
theorem iPR_l0 (n : Nat) (hn : n ≤ 8) (t : List (List Bool)) (ht : Sq n t) (es : List S71) (hes : es.length ≤ 1000) (hin : ∀ e ∈ es, ∃ a b : Nat, e = ⟨(a : Int), (b : Int)⟩ ∧ a < n ∧ b < n) : ∀ (d p : Nat) (acc : List S71), p + d = es.length → acc.length ≤ p → Ev (fun k => impl_reduction.l0 k t acc es (es.length : Int) (p : Int)) (acc ++ keepF t n (es.drop p)) := by
  intro d
  induction d with
  | zero =>
    intro p acc hp ha
    refine ev_succ ?_
    simp only [impl_reduction.l0, if_neg (show ¬ (p : Int) < (es.length : Int) by omega), List.drop_of_length_le (show es.length ≤ p by omega), keepF, List.append_nil]
    exact ev_now _
  | succ d ih =>
    intro p acc hp ha
    refine ev_succ ?_
    have hx : p < es.length := by omega
    obtain ⟨a, b, he, h1, h2⟩ := hin es[p] (List.getElem_mem hx)
    rw [List.drop_eq_getElem_cons hx, he, keepF]
    simp only [impl_reduction.l0, if_pos (show (p : Int) < (es.length : Int) by omega), if_pos (show (0 : Int) ≤ (p : Int) by omega), rdA2 es p hx, he, ht.1, Int.toNat_natCast]
    have h := iPR_l1 n hn t ht es p a b hx hes h1 h2 acc (keepF t n (es.drop (p + 1))) ha (fun acc h => ih (p + 1) acc (by omega) h) n 0 true (by omega)
    by_cases c : thrF t a b 0 n = true
    · simp only [c, Bool.true_eq_false, and_false, if_false, List.nil_append] at h
      simp only [if_pos c]
      exact h
    · have c' : thrF t a b 0 n = false := by simpa using c
      simp only [c', true_and, if_true, List.cons_append, List.nil_append] at h
      simp only [if_neg c]
      exact h
theorem reduction_ev (n : Nat) (hn : n ≤ 8) (t : List (List Bool)) (ht : Sq n t) : Ev (fun k => impl_reduction.f k t) (prsF (redP t n) n 0 n) := by
  unfold impl_reduction.f
  have hlen := prsF_len (tb t) n n 0
  have hb : n * n ≤ 8 * 8 := Nat.mul_le_mul hn hn
  refine ev_bind (pairsOf_ev n hn t ht) ?_
  have h := iPR_l0 n hn t ht (prsF (tb t) n 0 n) (by omega) (fun e he => prsF_in (tb t) n n 0 (by omega) e he) _ 0 [] (Nat.zero_add _) (by simp)
  rw [List.drop_zero, keep_prs, List.nil_append] at h
  exact h

theorem tb_put {n : Nat} {t : List (List Bool)} (h : Sq n t) (i j a b : Nat) (hi : i < n) (hj : j < n) (ha : a < n) (hb : b < n) (v : Bool) : tb (putT t i j v) a b = if a = i ∧ b = j then v else tb t a b := by
  have hl := h.1
  have hri := h.row i hi
  have hg : t.getD i [] = t[i] := by rw [List.getD_eq_getElem?_getD, List.getElem?_eq_getElem (by omega)]; rfl
  unfold tb putT
  rw [hg]
  by_cases c : a = i
  · subst c
    rw [List.getD_eq_getElem?_getD (l := t.set a _), List.getElem?_set_self (by omega), Option.getD_some, hg]
    by_cases cb : b = j
    · subst cb
      rw [if_pos ⟨rfl, rfl⟩, List.getD_eq_getElem?_getD, List.getElem?_set_self (by omega), Option.getD_some]
    · rw [if_neg (fun x => cb x.2), List.getD_eq_getElem?_getD, List.getElem?_set_ne (fun x => cb x.symm), ← List.getD_eq_getElem?_getD]
  · rw [if_neg (fun x => c x.1), List.getD_eq_getElem?_getD (l := t.set i _), List.getElem?_set_ne (fun x => c x.symm), ← List.getD_eq_getElem?_getD]
/-- What a phase has done at the places S. -/
def Phase (n k : Nat) (t t' : List (List Bool)) (S : Nat → Nat → Prop) : Prop := Sq n t' ∧ ∀ a b, a < n → b < n → (tb t' a b = true ↔ tb t a b = true ∨ S a b ∧ tb t a k = true ∧ tb t k b = true)
theorem Phase.step {n k : Nat} {t t' : List (List Bool)} {S : Nat → Nat → Prop} (h : Phase n k t t' S) (hk : k < n) (i j : Nat) (hi : i < n) (hj : j < n) : Phase n k t (stepT t' k i j) (fun a b => S a b ∨ a = i ∧ b = j) := by
  refine ⟨h.1.step k i j hi, fun a b ha hb => ?_⟩
  have h1 : tb t' i k = true ↔ tb t i k = true := by
    rw [h.2 i k hi hk]
    exact ⟨fun x => x.elim id (fun y => y.2.1), Or.inl⟩
  have h2 : tb t' k j = true ↔ tb t k j = true := by
    rw [h.2 k j hk hj]
    exact ⟨fun x => x.elim id (fun y => y.2.2), Or.inl⟩
  unfold stepT
  by_cases c : (tb t' i k && tb t' k j) = true
  · rw [if_pos c, tb_put h.1 i j a b hi hj ha hb]
    rw [Bool.and_eq_true, h1, h2] at c
    by_cases e : a = i ∧ b = j
    · rw [if_pos e]
      obtain ⟨rfl, rfl⟩ := e
      exact ⟨fun _ => Or.inr ⟨Or.inr ⟨rfl, rfl⟩, c.1, c.2⟩, fun _ => rfl⟩
    · rw [if_neg e, h.2 a b ha hb]
      exact ⟨fun x => x.imp id (fun y => ⟨Or.inl y.1, y.2⟩), fun x => x.imp id (fun y => ⟨y.1.resolve_right e, y.2⟩)⟩
  · rw [if_neg c, h.2 a b ha hb]
    rw [Bool.and_eq_true, h1, h2] at c
    refine ⟨fun x => x.imp id (fun y => ⟨Or.inl y.1, y.2⟩), fun x => ?_⟩
    rcases x with x | ⟨s | ⟨rfl, rfl⟩, y⟩
    · exact Or.inl x
    · exact Or.inr ⟨s, y⟩
    · exact absurd y c
theorem Phase.congr {n k : Nat} {t t' : List (List Bool)} {S S' : Nat → Nat → Prop} (h : Phase n k t t' S) (e : ∀ a b, a < n → b < n → (S a b ↔ S' a b)) : Phase n k t t' S' := ⟨h.1, fun a b ha hb => by rw [h.2 a b ha hb, e a b ha hb]⟩
theorem Phase.row {n k : Nat} {t : List (List Bool)} (hk : k < n) (i : Nat) (hi : i < n) : ∀ (js : List Nat) (t' : List (List Bool)) (S : Nat → Nat → Prop), (∀ j ∈ js, j < n) → Phase n k t t' S → Phase n k t (rowF t' k i js) (fun a b => S a b ∨ a = i ∧ b ∈ js) := by
  intro js
  induction js with
  | nil => intro t' S _ h; exact h.congr (fun a b _ _ => by simp)
  | cons j js ih =>
    intro t' S hj h
    have h' := ih (stepT t' k i j) _ (fun x hx => hj x (by simp [hx])) (h.step hk i j hi (hj j (by simp)))
    refine Phase.congr h' (fun a b _ _ => ?_)
    constructor
    · rintro ((s | ⟨rfl, rfl⟩) | ⟨rfl, hb⟩)
      · exact Or.inl s
      · exact Or.inr ⟨rfl, by simp⟩
      · exact Or.inr ⟨rfl, by simp [hb]⟩
    · rintro (s | ⟨rfl, hb⟩)
      · exact Or.inl (Or.inl s)
      · rcases List.mem_cons.mp hb with rfl | hb
        · exact Or.inl (Or.inr ⟨rfl, rfl⟩)
        · exact Or.inr ⟨rfl, hb⟩
theorem Phase.mid {n k : Nat} {t : List (List Bool)} (hk : k < n) : ∀ (is : List Nat) (t' : List (List Bool)) (S : Nat → Nat → Prop), (∀ i ∈ is, i < n) → Phase n k t t' S → Phase n k t (midF n t' k is) (fun a b => S a b ∨ a ∈ is) := by
  intro is
  induction is with
  | nil => intro t' S _ h; exact h.congr (fun a b _ _ => by simp)
  | cons i is ih =>
    intro t' S hi h
    have h' := ih (rowF t' k i (List.range' 0 n)) _ (fun x hx => hi x (by simp [hx])) (Phase.row hk i (hi i (by simp)) (List.range' 0 n) t' S (fun j hj => by rw [List.mem_range'_1] at hj; omega) h)
    refine Phase.congr h' (fun a b _ hb => ?_)
    constructor
    · rintro ((s | ⟨rfl, _⟩) | hm)
      · exact Or.inl s
      · exact Or.inr (by simp)
      · exact Or.inr (by simp [hm])
    · rintro (s | hm)
      · exact Or.inl (Or.inl s)
      · rcases List.mem_cons.mp hm with rfl | hm
        · exact Or.inl (Or.inr ⟨rfl, by rw [List.mem_range'_1]; omega⟩)
        · exact Or.inr hm
theorem mid_tb {n k : Nat} {t : List (List Bool)} (ht : Sq n t) (hk : k < n) (a b : Nat) (ha : a < n) (hb : b < n) : tb (midF n t k (List.range' 0 n)) a b = true ↔ tb t a b = true ∨ tb t a k = true ∧ tb t k b = true := by
  have h0 : Phase n k t t (fun _ _ => False) := ⟨ht, fun a b _ _ => by simp⟩
  have h := Phase.mid hk (List.range' 0 n) t _ (fun i hi => by rw [List.mem_range'_1] at hi; omega) h0
  rw [h.2 a b ha hb]
  have hm : a ∈ List.range' 0 n := by rw [List.mem_range'_1]; omega
  simp [hm]
/-- Steps through the jobs before k are closed. -/
def Tr (n k : Nat) (t : List (List Bool)) : Prop := ∀ m a b, m < k → a < n → b < n → tb t a m = true → tb t m b = true → tb t a b = true
theorem out_tr (n : Nat) : ∀ (d k : Nat) (t : List (List Bool)), k + d = n → Sq n t → Tr n k t → Tr n n (outF n t (List.range' k d)) ∧ Sq n (outF n t (List.range' k d)) := by
  intro d
  induction d with
  | zero => intro k t hk ht h; rw [show k = n by omega] at h; exact ⟨h, ht⟩
  | succ d ih =>
    intro k t hk ht h
    rw [List.range'_succ]
    refine ih (k + 1) (midF n t k (List.range' 0 n)) (by omega) (mid_sq ht k _ (fun i hi => by rw [List.mem_range'_1] at hi; omega)) ?_
    intro m a b hm ha hb h1 h2
    have hkn : k < n := by omega
    have hmn : m < n := by omega
    rw [mid_tb ht hkn a m ha hmn] at h1
    rw [mid_tb ht hkn m b hmn hb] at h2
    rw [mid_tb ht hkn a b ha hb]
    by_cases c : m = k
    · subst c
      exact Or.inr ⟨h1.elim id (fun x => x.1), h2.elim id (fun x => x.2)⟩
    · have hmk : m < k := by omega
      rcases h1 with h1 | ⟨h1, h1'⟩
      · rcases h2 with h2 | ⟨h2, h2'⟩
        · exact Or.inl (h m a b hmk ha hb h1 h2)
        · exact Or.inr ⟨h m a k hmk ha hkn h1 h2, h2'⟩
      · rcases h2 with h2 | ⟨h2, h2'⟩
        · exact Or.inr ⟨h1, h m k b hmk hkn hb h1' h2⟩
        · exact Or.inr ⟨h1, h2'⟩
theorem clos_tr (n : Nat) (es : List S71) (hin : inN n es) : ∀ a m b, a < n → m < n → b < n → tb (closT n es) a m = true → tb (closT n es) m b = true → tb (closT n es) a b = true := by
  have h0 : Sq n (edgeF (List.replicate n (List.replicate n false)) es) := edge_sq ⟨by simp, fun r hr => by rw [List.eq_of_mem_replicate hr]; simp⟩ es hin
  have h := (out_tr n n 0 _ (Nat.zero_add _) h0 (fun m a b hm => by omega)).1
  intro a m b ha hm hb h1 h2
  exact h m a b hm ha hb h1 h2
theorem acy_irr (n : Nat) (t : List (List Bool)) : ∀ (d i : Nat), acyF t i d = true → ∀ j, i ≤ j → j < i + d → tb t j j = false := by
  intro d
  induction d with
  | zero => intro i _ j h1 h2; omega
  | succ d ih =>
    intro i h j h1 h2
    unfold acyF at h
    rw [Bool.and_eq_true] at h
    by_cases e : j = i
    · subst e; simpa using h.1
    · exact ih (i + 1) h.2 j (by omega) (by omega)
/-- What a good precedence gives. -/
theorem good4_facts (n : Int) (es : List S71) (h : good4 n es = true) : ∃ m : Nat, n = m ∧ m ≤ 8 ∧ es.length ≤ 28 ∧ inN m es ∧ (∀ j, j < m → tb (closT m es) j j = false) := by
  unfold good4 at h
  rw [Bool.and_eq_true] at h
  obtain ⟨m, rfl, h1, h2, h3⟩ := okE_in n es h.1
  refine ⟨m, rfl, h1, h2, h3, fun j hj => ?_⟩
  have := h.2
  rw [Int.toNat_natCast] at this
  exact acy_irr m _ m 0 this j (by omega) (by omega)
/-- How many jobs come after a job, among those before a number. -/
def cntF (t : List (List Bool)) (j : Nat) : Nat → Nat
  | 0 => 0
  | d + 1 => cntF t j d + if tb t j d = true then 1 else 0
theorem cnt_le (t : List (List Bool)) (i j : Nat) : ∀ d : Nat, (∀ b, b < d → tb t i b = true → tb t j b = true) → cntF t i d ≤ cntF t j d := by
  intro d
  induction d with
  | zero => intro _; exact Nat.le_refl _
  | succ d ih =>
    intro h
    have h1 := ih (fun b hb => h b (by omega))
    unfold cntF
    by_cases c : tb t i d = true
    · rw [if_pos c, if_pos (h d (by omega) c)]; omega
    · rw [if_neg c]; omega
theorem cnt_lt (t : List (List Bool)) (i j : Nat) : ∀ d : Nat, (∀ b, b < d → tb t i b = true → tb t j b = true) → (∃ b, b < d ∧ tb t i b = false ∧ tb t j b = true) → cntF t i d < cntF t j d := by
  intro d
  induction d with
  | zero => rintro _ ⟨b, hb, _⟩; omega
  | succ d ih =>
    rintro h ⟨b, hb, h1, h2⟩
    unfold cntF
    by_cases e : b = d
    · subst e
      have := cnt_le t i j b (fun x hx => h x (by omega))
      rw [if_pos h2, if_neg (by rw [h1]; decide)]; omega
    · have := ih (fun x hx => h x (by omega)) ⟨b, by omega, h1, h2⟩
      by_cases c : tb t i d = true
      · rw [if_pos c, if_pos (h d (by omega) c)]; omega
      · rw [if_neg c]; omega
/-- Of two jobs in order the later one has fewer after it. -/
theorem cnt_desc (n : Nat) (es : List S71) (hin : inN n es) (hirr : ∀ j, j < n → tb (closT n es) j j = false) (j i : Nat) (hj : j < n) (hi : i < n) (h : tb (closT n es) j i = true) : cntF (closT n es) i n < cntF (closT n es) j n :=
  cnt_lt _ i j n (fun b hb hib => clos_tr n es hin j i b hj hi hb h hib) ⟨i, hi, hirr i hi, h⟩

theorem rdW (o : List Int) (n : Nat) (h : n < o.length) : rd o (n : Int) = o[n] := by
  simp [rd]
  rw [List.getElem?_eq_getElem h]; rfl

/-- Where a number goes among sorted ones: ahead of the first that it comes ahead of. -/
def posW (lt : Int → Int → Bool) (i : Int) (o : List Int) : Nat := o.findIdx (fun b => lt i b)
def insW (lt : Int → Int → Bool) (i : Int) (o : List Int) : List Int := o.take (posW lt i o) ++ i :: o.drop (posW lt i o)
def sortW (lt : Int → Int → Bool) : List Int → List Int → List Int
  | [], o => o
  | i :: t, o => sortW lt t (insW lt i o)
structure OrdW (lt : Int → Int → Bool) (D : Int → Prop) : Prop where
  asym : ∀ a b, D a → D b → lt a b = true → lt b a = false
  co : ∀ i a b, D i → D a → D b → lt i a = true → lt b a = false → lt i b = true
abbrev SortedW (lt : Int → Int → Bool) (o : List Int) : Prop := o.Pairwise (fun a b => lt b a = false)
theorem posW_le (lt : Int → Int → Bool) (i : Int) (o : List Int) : posW lt i o ≤ o.length := List.findIdx_le_length
theorem posW_before {lt : Int → Int → Bool} {i : Int} {o : List Int} {j : Nat} (h : j < posW lt i o) : lt i (o[j]'(Nat.lt_of_lt_of_le h (posW_le _ _ _))) = false := by
  have := List.not_of_lt_findIdx (p := fun b => lt i b) h
  simpa using this
theorem posW_at {lt : Int → Int → Bool} {i : Int} {o : List Int} (h : posW lt i o < o.length) : lt i (o[posW lt i o]'h) = true := List.findIdx_getElem (w := h)
theorem posW_behind {lt : Int → Int → Bool} {D : Int → Prop} (H : OrdW lt D) {i : Int} {o : List Int} (hi : D i) (ho : ∀ b ∈ o, D b) (hs : SortedW lt o) {j : Nat} (hj : posW lt i o ≤ j) (hl : j < o.length) : lt i (o[j]'hl) = true := by
  have hp : posW lt i o < o.length := by omega
  have h0 := posW_at hp
  rcases Nat.lt_or_ge (posW lt i o) j with h | h
  · have h1 := List.pairwise_iff_getElem.1 hs _ _ hp hl h
    exact H.co i _ _ hi (ho _ (List.getElem_mem hp)) (ho _ (List.getElem_mem hl)) h0 h1
  · have : j = posW lt i o := by omega
    subst this
    exact h0
theorem insW_perm (lt : Int → Int → Bool) (i : Int) (o : List Int) : (insW lt i o).Perm (i :: o) := by
  unfold insW
  refine List.perm_middle.trans ?_
  rw [List.take_append_drop]
theorem insW_sorted {lt : Int → Int → Bool} {D : Int → Prop} (H : OrdW lt D) {i : Int} {o : List Int} (hi : D i) (ho : ∀ b ∈ o, D b) (hs : SortedW lt o) : SortedW lt (insW lt i o) := by
  unfold insW SortedW
  rw [List.pairwise_append]
  refine ⟨hs.sublist (List.take_sublist _ _), List.pairwise_cons.2 ⟨?_, hs.sublist (List.drop_sublist _ _)⟩, ?_⟩
  · intro b hb
    obtain ⟨j, hj, rfl⟩ := List.mem_iff_getElem.1 hb
    rw [List.getElem_drop]
    have hl : posW lt i o + j < o.length := by rw [List.length_drop] at hj; omega
    exact H.asym _ _ hi (ho _ (List.getElem_mem hl)) (posW_behind H hi ho hs (by omega) hl)
  · intro a ha b hb
    obtain ⟨j, hj, rfl⟩ := List.mem_iff_getElem.1 ha
    have hjp : j < posW lt i o := by rw [List.length_take] at hj; omega
    rw [List.getElem_take]
    rcases List.mem_cons.1 hb with rfl | hb
    · exact posW_before hjp
    · obtain ⟨q, hq, rfl⟩ := List.mem_iff_getElem.1 hb
      have hl : posW lt i o + q < o.length := by rw [List.length_drop] at hq; omega
      rw [List.getElem_drop]
      exact List.pairwise_iff_getElem.1 hs _ _ _ hl (by omega)
theorem sortW_perm (lt : Int → Int → Bool) : ∀ (l o : List Int), (sortW lt l o).Perm (l ++ o)
  | [], o => by unfold sortW; exact List.Perm.refl _
  | i :: t, o => by
    unfold sortW
    refine (sortW_perm lt t _).trans ?_
    refine ((List.Perm.append_left t (insW_perm lt i o))).trans ?_
    exact List.perm_middle
theorem sortW_sorted {lt : Int → Int → Bool} {D : Int → Prop} (H : OrdW lt D) : ∀ (l o : List Int), (∀ b ∈ l, D b) → (∀ b ∈ o, D b) → SortedW lt o → SortedW lt (sortW lt l o)
  | [], o, _, _, hs => by unfold sortW; exact hs
  | i :: t, o, hl, ho, hs => by
    unfold sortW
    refine sortW_sorted H t _ (fun b hb => hl b (by simp [hb])) ?_ (insW_sorted H (hl i (by simp)) ho hs)
    intro b hb
    rcases List.mem_cons.1 ((insW_perm lt i o).mem_iff.1 hb) with rfl | h
    · exact hl _ (by simp)
    · exact ho b h
theorem sbK_pos {p : Int → Option Bool} {f : Int → Bool} {o : List Int} {t : Nat} (hp : ∀ b ∈ o, p b = some (f b)) (ht : t ≤ o.length) (h1 : ∀ j (hj : j < o.length), t ≤ j → f o[j] = true) (h2 : ∀ j (hj : j < o.length), j < t → f o[j] = false) :
    ∀ n, n ≤ o.length → t ≤ n → sbK p o n = some t
  | 0, _, h => by
    have : t = 0 := by omega
    subst this
    rfl
  | n + 1, hn, h => by
    unfold sbK
    rw [rdW o n (by omega), hp _ (List.getElem_mem (by omega)), Option.bind_some]
    rcases Nat.lt_or_ge n t with hlt | hge
    · rw [h2 n (by omega) hlt, if_neg (by simp)]
      congr 1; omega
    · rw [h1 n (by omega) hge, if_pos rfl]
      exact sbK_pos hp ht h1 h2 n (by omega) hge
theorem sbL_eq {p : Int → Int → Option Bool} {lt : Int → Int → Bool} {D : Int → Prop} (H : OrdW lt D) (hp : ∀ a b, D a → D b → p a b = some (lt a b)) : ∀ (l o : List Int), (∀ b ∈ l, D b) → (∀ b ∈ o, D b) → SortedW lt o → sbL p l o = some (sortW lt l o)
  | [], o, _, _, _ => rfl
  | i :: t, o, hl, ho, hs => by
    have hi : D i := hl i (by simp)
    unfold sbL sortW
    rw [sbK_pos (f := fun b => lt i b) (t := posW lt i o) (fun b hb => hp i b hi (ho b hb)) (posW_le _ _ _) (fun j hj h => posW_behind H hi ho hs h hj) (fun j hj h => posW_before h) _ (Nat.le_refl _) (posW_le _ _ _), Option.bind_some]
    refine sbL_eq H hp t _ (fun b hb => hl b (by simp [hb])) ?_ (insW_sorted H hi ho hs)
    intro b hb
    rcases List.mem_cons.1 ((insW_perm lt i o).mem_iff.1 hb) with rfl | h
    · exact hi
    · exact ho b h

/-- The numbers with P, from a number on. -/
def flF (P : Nat → Bool) (j : Nat) : Nat → List Int
  | 0 => []
  | d + 1 => if P j = true then (j : Int) :: flF P (j + 1) d else flF P (j + 1) d
theorem flF_mem (P : Nat → Bool) : ∀ d j : Nat, ∀ x ∈ flF P j d, ∃ q : Nat, x = (q : Int) ∧ j ≤ q ∧ q < j + d ∧ P q = true := by
  intro d
  induction d with
  | zero => intro j x hx; simp [flF] at hx
  | succ d ih =>
    intro j x hx
    unfold flF at hx
    split at hx
    · rcases List.mem_cons.mp hx with rfl | hx
      · exact ⟨j, rfl, by omega, by omega, by assumption⟩
      · obtain ⟨q, a, b, e, f⟩ := ih (j + 1) x hx
        exact ⟨q, a, by omega, by omega, f⟩
    · obtain ⟨q, a, b, e, f⟩ := ih (j + 1) x hx
      exact ⟨q, a, by omega, by omega, f⟩
theorem flF_len (P : Nat → Bool) : ∀ d j : Nat, (flF P j d).length ≤ d := by
  intro d
  induction d with
  | zero => intro j; exact Nat.le_refl _
  | succ d ih =>
    intro j
    unfold flF
    have := ih (j + 1)
    split
    · rw [List.length_cons]; omega
    · omega
/-- The followers of a job. -/
def folF (t : List (List Bool)) (n i : Nat) : List Int := flF (redP t n i) 0 n
theorem fol_ev {n : Nat} (hn : n ≤ 8) {t : List (List Bool)} (ht : Sq n t) (i : Nat) (hi : i < n) : Ev (fun k => spec_l7Followers.f k t (i : Int)) (folF t n i) := by
  have key : ∀ (d j : Nat) (acc : List Int), j + d = n → acc.length ≤ j → Ev (fun k => spec_l7Followers.l0 k t (i : Int) acc (j : Int)) (acc ++ flF (redP t n i) j d) := by
    intro d
    have hl := ht.1
    induction d with
    | zero =>
      intro j acc hj ha
      refine ev_succ ?_
      simp only [spec_l7Followers.l0, if_neg (show ¬ (j : Int) < (t.length : Int) by omega), flF, List.append_nil]
      exact ev_now _
    | succ d ih =>
      intro j acc hj ha
      have hri : (rd_L3 t (i : Int)).length = n := by rw [rdBB t i (by omega)]; exact ht.row i hi
      have h0 := ih (j + 1) acc (by omega) (by omega)
      have h1 := ih (j + 1) (acc ++ [(j : Int)]) (by omega) (by rw [List.length_append, List.length_singleton]; omega)
      rw [List.append_assoc] at h1
      refine ev_succ ?_
      simp only [spec_l7Followers.l0, if_pos (show (j : Int) < (t.length : Int) by omega), if_pos (show (0 : Int) ≤ (i : Int) by omega), if_pos (show (i : Int) < (t.length : Int) by omega), if_pos (show (0 : Int) ≤ (j : Int) by omega), if_pos (show (j : Int) < ((rd_L3 t (i : Int)).length : Int) by omega), rdTT ht i j hi (by omega), wsucc j (by omega), flF, if_pos (show acc.length < 17592186044416 by omega)]
      cases hb : tb t i j
      · have e : redP t n i j = false := by unfold redP; rw [hb]; rfl
        simp only [Bool.false_eq_true, if_false, e]
        exact h0
      · simp only [if_true]
        refine ev_bind (through_ev n hn t ht i j hi (by omega)) ?_
        cases hq : thrF t i j 0 n
        · have e : redP t n i j = true := by unfold redP; rw [hb, hq]; rfl
          simp only [Bool.false_eq_true, if_false, e, if_true]
          exact h1
        · have e : redP t n i j = false := by unfold redP; rw [hb, hq]; rfl
          simp only [Bool.false_eq_true, if_false, e, if_true]
          exact h0
  unfold spec_l7Followers.f
  exact key n 0 [] (by omega) (by simp)
/-- Rows that are filled by pairs. -/
def putR (rs : List (List Int)) (es : List S71) : List (List Int) := es.foldl (fun rs e => rs.set e.f0.toNat (rd_L4 rs e.f0 ++ [e.f1])) rs
theorem rdIg (rs : List (List Int)) (i : Nat) : rd_L4 rs (i : Int) = rs.getD i [] := by
  unfold rd_L4
  rw [Int.toNat_natCast]
theorem putR_len : ∀ (es : List S71) (rs : List (List Int)), (putR rs es).length = rs.length
  | [], rs => rfl
  | e :: es, rs => by
    have : putR rs (e :: es) = putR (rs.set e.f0.toNat (rd_L4 rs e.f0 ++ [e.f1])) es := rfl
    rw [this, putR_len es _, List.length_set]
theorem putR_at (n : Nat) : ∀ (es : List S71) (rs : List (List Int)), rs.length = n → (∀ e ∈ es, ∃ a b : Nat, e = ⟨(a : Int), (b : Int)⟩ ∧ a < n ∧ b < n) → ∀ i, i < n → (putR rs es).getD i [] = rs.getD i [] ++ (es.filter (fun e => decide (e.f0 = (i : Int)))).map (fun e => e.f1)
  | [], rs, _, _, i, _ => by simp [putR]
  | e :: es, rs, hl, hin, i, hi => by
    obtain ⟨a, b, he, ha, hb⟩ := hin e List.mem_cons_self
    have h1 : putR rs (e :: es) = putR (rs.set a (rs.getD a [] ++ [(b : Int)])) es := by
      have : putR rs (e :: es) = putR (rs.set e.f0.toNat (rd_L4 rs e.f0 ++ [e.f1])) es := rfl
      rw [this, he]
      simp only [Int.toNat_natCast, rdIg]
    rw [h1, putR_at n es _ (by rw [List.length_set]; exact hl) (fun e he => hin e (List.mem_cons_of_mem _ he)) i hi]
    by_cases c : a = i
    · subst c
      rw [List.filter_cons_of_pos (by rw [he]; simp), List.map_cons, List.getD_eq_getElem?_getD, List.getElem?_set_self (by omega), Option.getD_some, he, List.append_assoc]
      rfl
    · rw [List.filter_cons_of_neg (by rw [he]; simp; omega), List.getD_eq_getElem?_getD, List.getElem?_set_ne c, ← List.getD_eq_getElem?_getD]
theorem pr_row (P : Nat → Nat → Bool) (i a : Nat) : ∀ d j : Nat, ((prF P i j d).filter (fun e => decide (e.f0 = (a : Int)))).map (fun e => e.f1) = if i = a then flF (P a) j d else [] := by
  intro d
  induction d with
  | zero => intro j; simp [prF, flF]
  | succ d ih =>
    intro j
    have h := ih (j + 1)
    unfold prF flF
    by_cases c : i = a
    · subst c
      simp only [if_true] at h ⊢
      split
      · rw [List.filter_cons_of_pos (by simp), List.map_cons, h]
      · exact h
    · simp only [if_neg c] at h ⊢
      split
      · rw [List.filter_cons_of_neg (by simp; omega), h]
      · exact h
theorem prs_row (P : Nat → Nat → Bool) (n a : Nat) : ∀ d i : Nat, ((prsF P n i d).filter (fun e => decide (e.f0 = (a : Int)))).map (fun e => e.f1) = if i ≤ a ∧ a < i + d then flF (P a) 0 n else [] := by
  intro d
  induction d with
  | zero => intro i; simp [prsF]; omega
  | succ d ih =>
    intro i
    unfold prsF
    rw [List.filter_append, List.map_append, pr_row, ih (i + 1)]
    by_cases c : i = a
    · rw [if_pos c, if_neg (by omega), if_pos (by omega), List.append_nil]
    · rw [if_neg c, List.nil_append]
      by_cases c2 : i + 1 ≤ a ∧ a < i + 1 + d
      · rw [if_pos c2, if_pos (by omega)]
      · rw [if_neg c2, if_neg (by omega)]
theorem lab_rows (n : Nat) (hn : n ≤ 8) (E : List S71) (hE : E.length ≤ 1000) (hin : ∀ e ∈ E, ∃ a b : Nat, e = ⟨(a : Int), (b : Int)⟩ ∧ a < n ∧ b < n) (r : List Int) : ∀ (d p : Nat) (rs : List (List Int)), p + d = E.length → rs.length = n → (∀ i, (rs.getD i []).length ≤ p) →
    Ev (fun k => impl_labelsOf.l1 k (n : Int) (putR rs (E.drop p)) (List.replicate n 0) 1) r →
    Ev (fun k => impl_labelsOf.l0 k (n : Int) rs E (E.length : Int) (p : Int)) r := by
  intro d
  induction d with
  | zero =>
    intro p rs hp hl hb h
    rw [List.drop_of_length_le (by omega)] at h
    refine ev_succ ?_
    simp only [impl_labelsOf.l0, if_neg (show ¬ (p : Int) < (E.length : Int) by omega), if_pos (show (0 : Int) ≤ (n : Int) by omega), Int.toNat_natCast, if_pos (show n ≤ 35184372088832 by omega)]
    exact h
  | succ d ih =>
    intro p rs hp hl hb h
    have hx : p < E.length := by omega
    obtain ⟨a, b, he, ha, hbn⟩ := hin _ (List.getElem_mem hx)
    rw [List.drop_eq_getElem_cons hx] at h
    have e1 : putR rs (E[p] :: E.drop (p + 1)) = putR (rs.set a (rs.getD a [] ++ [(b : Int)])) (E.drop (p + 1)) := by
      have : putR rs (E[p] :: E.drop (p + 1)) = putR (rs.set (E[p]).f0.toNat (rd_L4 rs (E[p]).f0 ++ [(E[p]).f1])) (E.drop (p + 1)) := rfl
      rw [this, he]
      simp only [Int.toNat_natCast, rdIg]
    rw [e1] at h
    have hba := hb a
    refine ev_succ ?_
    simp only [impl_labelsOf.l0, if_pos (show (p : Int) < (E.length : Int) by omega), if_pos (show (0 : Int) ≤ (p : Int) by omega), rdA2 E p hx, he, if_pos (show (0 : Int) ≤ (a : Int) by omega), if_pos (show (a : Int) < (rs.length : Int) by omega), rdIg, if_pos (show (rs.getD a []).length < 17592186044416 by omega), Int.toNat_natCast, wsucc p (by omega)]
    refine ih (p + 1) _ (by omega) (by rw [List.length_set]; exact hl) (fun i => ?_) h
    have hbi := hb i
    rw [List.getD_eq_getElem?_getD, List.getElem?_set]
    by_cases c : a = i
    · rw [if_pos c, if_pos (by omega), Option.getD_some, List.length_append, List.length_singleton]
      omega
    · rw [if_neg c, ← List.getD_eq_getElem?_getD]
      omega
/-- The labels of the followers, the greatest first. -/
def tdF (L F : List Int) : Nat → List Int
  | 0 => []
  | m + 1 => (F.filter (fun j => decide (rd L j = ((m + 1 : Nat) : Int)))).map (fun _ => ((m + 1 : Nat) : Int)) ++ tdF L F m
theorem told_l1 (n : Nat) (hn : n ≤ 8) (L F : List Int) (hL : L.length = n) (hF : F.length ≤ 8) (hFm : ∀ x ∈ F, 0 ≤ x ∧ x < (n : Int)) (m : Nat) (hm : m < 8) (r : List Int × Bool) : ∀ (d p : Nat) (acc : List Int), p + d = F.length → acc.length ≤ 1000 + p →
    Ev (fun k => spec_l7Told.l0 k L F (acc ++ ((F.drop p).filter (fun j => decide (rd L j = ((m + 1 : Nat) : Int)))).map (fun _ => ((m + 1 : Nat) : Int))) (m : Int)) r →
    Ev (fun k => spec_l7Told.l1 k L F acc ((m + 1 : Nat) : Int) (p : Int)) r := by
  intro d
  induction d with
  | zero =>
    intro p acc hp ha h
    rw [List.drop_of_length_le (by omega), List.filter_nil, List.map_nil, List.append_nil] at h
    refine ev_succ ?_
    have hw : wrap64 (((m + 1 : Nat) : Int) - 1) = (m : Int) := by rw [w64 (by omega) (by omega)]; omega
    simp only [spec_l7Told.l1, if_neg (show ¬ (p : Int) < (F.length : Int) by omega), hw]
    exact h
  | succ d ih =>
    intro p acc hp ha h
    have hx : p < F.length := by omega
    have hin := hFm _ (List.getElem_mem hx)
    rw [List.drop_eq_getElem_cons hx] at h
    refine ev_succ ?_
    simp only [spec_l7Told.l1, if_pos (show (p : Int) < (F.length : Int) by omega), if_pos (show (0 : Int) ≤ (p : Int) by omega), rdW F p hx, if_pos hin.1, if_pos (show F[p] < (L.length : Int) by omega), if_pos (show acc.length < 17592186044416 by omega), wsucc p (by omega)]
    by_cases c : rd L F[p] = ((m + 1 : Nat) : Int)
    · rw [List.filter_cons_of_pos (by simp [c]), List.map_cons] at h
      simp only [if_pos c]
      refine ih (p + 1) (acc ++ [((m + 1 : Nat) : Int)]) (by omega) (by rw [List.length_append, List.length_singleton]; omega) ?_
      rw [List.append_assoc]
      exact h
    · rw [List.filter_cons_of_neg (by simp only [decide_eq_true_eq]; exact c)] at h
      simp only [if_neg c]
      exact ih (p + 1) acc (by omega) (by omega) h
theorem told_l0 (n : Nat) (hn : n ≤ 8) (L F : List Int) (hL : L.length = n) (hF : F.length ≤ 8) (hFm : ∀ x ∈ F, 0 ≤ x ∧ x < (n : Int)) : ∀ (m : Nat) (acc : List Int), m ≤ 8 → acc.length + 8 * m ≤ 1000 →
    Ev (fun k => spec_l7Told.l0 k L F acc (m : Int)) (acc ++ tdF L F m, (((acc ++ tdF L F m).length : Int) == (F.length : Int))) := by
  intro m
  induction m with
  | zero =>
    intro acc _ _
    refine ev_succ ?_
    simp only [spec_l7Told.l0, gt_iff_lt, if_neg (show ¬ (0 : Int) < ((0 : Nat) : Int) by omega), tdF, List.append_nil]
    exact ev_now _
  | succ m ih =>
    intro acc hm ha
    refine ev_succ ?_
    simp only [spec_l7Told.l0, gt_iff_lt, if_pos (show (0 : Int) < ((m + 1 : Nat) : Int) by omega)]
    refine told_l1 n hn L F hL hF hFm m (by omega) _ F.length 0 acc (by omega) (by omega) ?_
    rw [List.drop_zero]
    have hfl : (F.filter (fun j => decide (rd L j = ((m + 1 : Nat) : Int)))).length ≤ F.length := List.length_filter_le _ _
    have h := ih (acc ++ (F.filter (fun j => decide (rd L j = ((m + 1 : Nat) : Int)))).map (fun _ => ((m + 1 : Nat) : Int))) (by omega) (by rw [List.length_append, List.length_map]; omega)
    rw [List.append_assoc] at h
    exact h
theorem td_perm (L F : List Int) : ∀ m : Nat, (tdF L F m).Perm ((F.map (fun j => rd L j)).filter (fun v => decide (1 ≤ v ∧ v ≤ (m : Int)))) := by
  intro m
  induction m with
  | zero =>
    have : (F.map (fun j => rd L j)).filter (fun v => decide (1 ≤ v ∧ v ≤ ((0 : Nat) : Int))) = [] := List.filter_eq_nil_iff.2 (fun v _ => by simp; omega)
    rw [this]
    exact List.Perm.refl _
  | succ m ih =>
    have h := List.filter_append_perm (fun v => decide (v = ((m + 1 : Nat) : Int))) ((F.map (fun j => rd L j)).filter (fun v => decide (1 ≤ v ∧ v ≤ ((m + 1 : Nat) : Int))))
    refine List.Perm.trans ?_ h
    rw [List.filter_filter, List.filter_filter]
    have e1 : (F.map (fun j => rd L j)).filter (fun v => decide (v = ((m + 1 : Nat) : Int)) && decide (1 ≤ v ∧ v ≤ ((m + 1 : Nat) : Int))) = (F.filter (fun j => decide (rd L j = ((m + 1 : Nat) : Int)))).map (fun _ => ((m + 1 : Nat) : Int)) := by
      rw [List.filter_map]
      have : F.filter ((fun v => decide (v = ((m + 1 : Nat) : Int)) && decide (1 ≤ v ∧ v ≤ ((m + 1 : Nat) : Int))) ∘ fun j => rd L j) = F.filter (fun j => decide (rd L j = ((m + 1 : Nat) : Int))) := by
        refine List.filter_congr (fun j _ => ?_)
        simp only [Function.comp]
        by_cases c : rd L j = ((m + 1 : Nat) : Int)
        · rw [decide_eq_true c, decide_eq_true (by omega)]; rfl
        · rw [decide_eq_false c]; rfl
      rw [this]
      refine List.map_congr_left (fun j hj => ?_)
      have := (List.mem_filter.mp hj).2
      exact of_decide_eq_true this
    have e2 : (F.map (fun j => rd L j)).filter (fun v => (!decide (v = ((m + 1 : Nat) : Int))) && decide (1 ≤ v ∧ v ≤ ((m + 1 : Nat) : Int))) = (F.map (fun j => rd L j)).filter (fun v => decide (1 ≤ v ∧ v ≤ (m : Int))) := by
      refine List.filter_congr (fun v _ => ?_)
      rw [← decide_not, ← Bool.decide_and]
      exact decide_eq_decide.2 (by omega)
    rw [e1, e2]
    exact List.Perm.append_left _ ih
theorem td_sorted (L F : List Int) : ∀ m : Nat, (tdF L F m).Pairwise (fun a b => b ≤ a) ∧ ∀ x ∈ tdF L F m, 1 ≤ x ∧ x ≤ (m : Int) := by
  intro m
  induction m with
  | zero => exact ⟨List.Pairwise.nil, fun x hx => by simp [tdF] at hx⟩
  | succ m ih =>
    have hc : ∀ x ∈ (F.filter (fun j => decide (rd L j = ((m + 1 : Nat) : Int)))).map (fun _ => ((m + 1 : Nat) : Int)), x = ((m + 1 : Nat) : Int) := by
      intro x hx
      obtain ⟨_, _, e⟩ := List.mem_map.mp hx
      exact e.symm
    unfold tdF
    refine ⟨List.pairwise_append.2 ⟨?_, ih.1, fun a ha b hb => ?_⟩, fun x hx => ?_⟩
    · rw [List.pairwise_map]
      exact List.pairwise_of_forall (fun _ _ => Int.le_refl _)
    · have := hc a ha
      have := ih.2 b hb
      omega
    · rcases List.mem_append.mp hx with hx | hx
      · have := hc x hx; omega
      · have := ih.2 x hx; omega
/-- Do all followers have a label. -/
def candB (L F : List Int) : Bool := F.all (fun j => decide (0 < rd L j))
theorem td_len (L F : List Int) (m : Nat) (hb : ∀ j ∈ F, rd L j ≤ (m : Int)) : (((tdF L F m).length : Int) == (F.length : Int)) = candB L F := by
  have h := (td_perm L F m).length_eq
  have hl : (F.map (fun j => rd L j)).length = F.length := List.length_map ..
  have hi := List.length_filter_eq_length_iff (p := fun v => decide (1 ≤ v ∧ v ≤ (m : Int))) (l := F.map (fun j => rd L j))
  rw [← h, hl] at hi
  unfold candB
  rw [Bool.eq_iff_iff, List.all_eq_true, beq_iff_eq]
  constructor
  · intro e j hj
    have := hi.1 (by omega) (rd L j) (List.mem_map.2 ⟨j, hj, rfl⟩)
    rw [decide_eq_true_eq] at this ⊢
    omega
  · intro e
    have : (tdF L F m).length = F.length := hi.2 (fun v hv => by
      obtain ⟨j, hj, rfl⟩ := List.mem_map.mp hv
      have h1 := hb j hj
      have h2 := e j hj
      rw [decide_eq_true_eq] at h2 ⊢
      omega)
    omega
def gtN (a b : Int) : Bool := decide (a > b)
theorem ordG (D : Int → Prop) : OrdW gtN D := by
  constructor
  · intro a b _ _ h
    unfold gtN at *
    have := of_decide_eq_true h
    exact decide_eq_false (by omega)
  · intro i a b _ _ _ h1 h2
    unfold gtN at *
    have := of_decide_eq_true h1
    have := of_decide_eq_false h2
    exact decide_eq_true (by omega)
theorem sort_ev (X : List Int) (h : X.length < 17592186044416) : impl_sortedBy_114.f X = some (sortW gtN X []) := by
  unfold impl_sortedBy_114.f
  rw [if_pos h]
  exact sbL_eq (p := fun a b => impl_labelsOf_1.f a b) (lt := gtN) (ordG (fun _ => True)) (fun a b _ _ => rfl) _ _ (fun _ _ => trivial) (by simp) List.Pairwise.nil
theorem sort_td (L F : List Int) (m : Nat) (hb : ∀ j ∈ F, rd L j ≤ (m : Int)) (hc : candB L F = true) : sortW gtN (F.map (fun j => rd L j)) [] = tdF L F m := by
  have hs := sortW_sorted (ordG (fun _ => True)) (F.map (fun j => rd L j)) [] (fun _ _ => trivial) (by simp) List.Pairwise.nil
  have hp := sortW_perm gtN (F.map (fun j => rd L j)) []
  rw [List.append_nil] at hp
  have ht := td_perm L F m
  have he : (F.map (fun j => rd L j)).filter (fun v => decide (1 ≤ v ∧ v ≤ (m : Int))) = F.map (fun j => rd L j) := List.filter_eq_self.2 (fun v hv => by
    obtain ⟨j, hj, rfl⟩ := List.mem_map.mp hv
    have h1 := hb j hj
    have h2 := (List.all_eq_true.1 hc) j hj
    rw [decide_eq_true_eq] at h2 ⊢
    omega)
  rw [he] at ht
  refine List.Perm.eq_of_pairwise (le := fun a b => b ≤ a) (fun a b _ _ h1 h2 => by omega) ?_ (td_sorted L F m).1 (hp.trans ht.symm)
  exact hs.imp (fun h => by unfold gtN at h; have := of_decide_eq_false h; omega)
/-- Before, place for place; what is shorter comes first. -/
def lexL : List Int → List Int → Bool
  | [], [] => false
  | [], _ :: _ => true
  | _ :: _, [] => false
  | a :: s, b :: t => if a = b then lexL s t else decide (a < b)
theorem lexL_nil (b : List Int) : lexL [] b = decide (0 < b.length) := by cases b <;> simp [lexL]
theorem less_ev (a b : List Int) (ha : a.length ≤ 100) : Ev (fun k => spec_l5Less.f k a b) (lexL a b) := by
  have key : ∀ (d i : Nat), i + d = a.length → i ≤ b.length → Ev (fun k => spec_l5Less.l0 k a b (i : Int)) (lexL (a.drop i) (b.drop i)) := by
    intro d
    induction d with
    | zero =>
      intro i hi hb
      refine ev_succ ?_
      simp only [spec_l5Less.l0, if_neg (show ¬ (i : Int) < (a.length : Int) by omega)]
      refine ev_succ ?_
      simp only [spec_l5Less.j1, Bool.false_eq_true, if_false]
      rw [List.drop_of_length_le (by omega), lexL_nil, List.length_drop, show decide (0 < b.length - i) = decide ((a.length : Int) < (b.length : Int)) from decide_eq_decide.2 (by omega)]
      exact ev_now _
    | succ d ih =>
      intro i hi hb
      have hx : i < a.length := by omega
      refine ev_succ ?_
      simp only [spec_l5Less.l0, if_pos (show (i : Int) < (a.length : Int) by omega)]
      refine ev_succ ?_
      rw [List.drop_eq_getElem_cons hx]
      by_cases c : i < b.length
      · rw [List.drop_eq_getElem_cons c]
        simp only [spec_l5Less.j1, decide_eq_true (show (i : Int) < (b.length : Int) by omega), if_true, if_pos (show (0 : Int) ≤ (i : Int) by omega), if_pos (show (i : Int) < (a.length : Int) by omega), if_pos (show (i : Int) < (b.length : Int) by omega), rdW a i hx, rdW b i c, wsucc i (by omega), lexL]
        by_cases e : a[i] = b[i]
        · simp only [if_pos e]
          exact ih (i + 1) (by omega) (by omega)
        · simp only [if_neg e]
          exact ev_now _
      · rw [List.drop_of_length_le (l := b) (by omega)]
        simp only [spec_l5Less.j1, decide_eq_false (show ¬ (i : Int) < (b.length : Int) by omega), Bool.false_eq_true, if_false, lexL]
        rw [show decide ((a.length : Int) < (b.length : Int)) = false from decide_eq_false (by omega)]
        exact ev_now _
  unfold spec_l5Less.f
  exact key a.length 0 (by omega) (by omega)
theorem cmpL_ev (a b : List Int) (ha : a.length ≤ 100) (hb : b.length ≤ 100) (va : ∀ x ∈ a, 0 ≤ x ∧ x ≤ 1000) (vb : ∀ x ∈ b, 0 ≤ x ∧ x ≤ 1000) : ∃ c : Int, Ev (fun k => impl_compareLists.f k a b) c ∧ decide (c < 0) = lexL a b := by
  have key : ∀ (d i : Nat), i + d = a.length → i ≤ b.length → ∃ c : Int, Ev (fun k => impl_compareLists.l0 k a b (i : Int)) c ∧ decide (c < 0) = lexL (a.drop i) (b.drop i) := by
    intro d
    induction d with
    | zero =>
      intro i hi hbl
      refine ⟨(a.length : Int) - (b.length : Int), ev_succ ?_, ?_⟩
      · simp only [impl_compareLists.l0, if_neg (show ¬ (i : Int) < (a.length : Int) by omega)]
        refine ev_succ ?_
        simp only [impl_compareLists.j1, Bool.false_eq_true, if_false, w64 (x := (a.length : Int) - (b.length : Int)) (by omega) (by omega)]
        exact ev_now _
      · rw [List.drop_of_length_le (by omega), lexL_nil, List.length_drop]
        exact decide_eq_decide.2 (by omega)
    | succ d ih =>
      intro i hi hbl
      have hx : i < a.length := by omega
      rw [List.drop_eq_getElem_cons hx]
      by_cases c : i < b.length
      · rw [List.drop_eq_getElem_cons c]
        have h1 := va _ (List.getElem_mem hx)
        have h2 := vb _ (List.getElem_mem c)
        by_cases e : a[i] = b[i]
        · obtain ⟨v, e1, e2⟩ := ih (i + 1) (by omega) (by omega)
          refine ⟨v, ev_succ ?_, ?_⟩
          · simp only [impl_compareLists.l0, if_pos (show (i : Int) < (a.length : Int) by omega)]
            refine ev_succ ?_
            simp only [impl_compareLists.j1, decide_eq_true (show (i : Int) < (b.length : Int) by omega), if_true, if_pos (show (0 : Int) ≤ (i : Int) by omega), if_pos (show (i : Int) < (a.length : Int) by omega), if_pos (show (i : Int) < (b.length : Int) by omega), rdW a i hx, rdW b i c, wsucc i (by omega), if_pos e]
            exact e1
          · rw [e2]
            simp only [lexL, if_pos e]
        · refine ⟨a[i] - b[i], ev_succ ?_, ?_⟩
          · simp only [impl_compareLists.l0, if_pos (show (i : Int) < (a.length : Int) by omega)]
            refine ev_succ ?_
            simp only [impl_compareLists.j1, decide_eq_true (show (i : Int) < (b.length : Int) by omega), if_true, if_pos (show (0 : Int) ≤ (i : Int) by omega), if_pos (show (i : Int) < (a.length : Int) by omega), if_pos (show (i : Int) < (b.length : Int) by omega), rdW a i hx, rdW b i c, if_neg e, w64 (x := a[i] - b[i]) (by omega) (by omega)]
            exact ev_now _
          · simp only [lexL, if_neg e]
            exact decide_eq_decide.2 (by omega)
      · rw [List.drop_of_length_le (l := b) (by omega)]
        refine ⟨(a.length : Int) - (b.length : Int), ev_succ ?_, ?_⟩
        · simp only [impl_compareLists.l0, if_pos (show (i : Int) < (a.length : Int) by omega)]
          refine ev_succ ?_
          simp only [impl_compareLists.j1, decide_eq_false (show ¬ (i : Int) < (b.length : Int) by omega), Bool.false_eq_true, if_false, w64 (x := (a.length : Int) - (b.length : Int)) (by omega) (by omega)]
          exact ev_now _
        · simp only [lexL]
          exact decide_eq_false (by omega)
  unfold impl_compareLists.f
  exact key a.length 0 (by omega) (by omega)

theorem told_ev {n : Nat} (hn : n ≤ 8) {t : List (List Bool)} (ht : Sq n t) (L : List Int) (hL : L.length = n) (hb : ∀ j : Int, rd L j ≤ (n : Int)) (i : Nat) (hi : i < n) : Ev (fun k => spec_l7Told.f k t L (i : Int)) (tdF L (folF t n i) n, candB L (folF t n i)) := by
  unfold spec_l7Told.f
  refine ev_bind (fol_ev hn ht i hi) ?_
  have hF := flF_len (redP t n i) n 0
  have h := told_l0 n hn L (folF t n i) hL (by unfold folF; omega) (fun x hx => by obtain ⟨q, rfl, _, h, _⟩ := flF_mem _ _ _ x hx; omega) n [] hn (by simp; omega)
  rw [List.nil_append, td_len L (folF t n i) n (fun j _ => hb j)] at h
  rw [hL]
  exact h
def okL (ls : List Int) : Prop := ls.length ≤ 8 ∧ ∀ x ∈ ls, 0 ≤ x ∧ x ≤ 1000
theorem td_ok {n : Nat} (hn : n ≤ 8) (t : List (List Bool)) (L : List Int) (i : Nat) : okL (tdF L (folF t n i) n) := by
  have h1 := (td_perm L (folF t n i) n).length_eq
  have h2 : ((List.map (fun j => rd L j) (folF t n i)).filter (fun v => decide (1 ≤ v ∧ v ≤ (n : Int)))).length ≤ (List.map (fun j => rd L j) (folF t n i)).length := List.length_filter_le _ _
  rw [List.length_map] at h2
  have h3 : (folF t n i).length ≤ n := flF_len (redP t n i) n 0
  refine ⟨by omega, fun x hx => ?_⟩
  have := (td_sorted L (folF t n i) n).2 x hx
  omega
/-- One step of the search for the next job. -/
def stL (t : List (List Bool)) (n : Nat) (L : List Int) (s : Int × List Int) (i : Nat) : Int × List Int :=
  if ((decide (rd L (i : Int) = 0) && candB L (folF t n i)) && (decide (s.1 < 0) || lexL (tdF L (folF t n i) n) s.2)) = true then ((i : Int), tdF L (folF t n i) n) else s
theorem stL_ok {n : Nat} (hn : n ≤ 8) (t : List (List Bool)) (L : List Int) (s : Int × List Int) (hs : okL s.2) (i : Nat) : okL (stL t n L s i).2 := by
  unfold stL
  split
  · exact td_ok hn t L i
  · exact hs
theorem sLab_l1 {n : Nat} (hn : n ≤ 8) {t : List (List Bool)} (ht : Sq n t) (L : List Int) (hL : L.length = n) (hb : ∀ j : Int, rd L j ≤ (n : Int)) (lab : Int) (r : List Int) : ∀ (d i : Nat) (s : Int × List Int), i + d = n → okL s.2 →
    (∃ b : Nat, ((List.range' i d).foldl (stL t n L) s).1 = (b : Int) ∧ b < n ∧ Ev (fun k => spec_l7Labels.l0 k (n : Int) (L.set b lab) t (wrap64 (lab + 1))) r) →
    Ev (fun k => spec_l7Labels.l1 k (n : Int) L t lab s.1 s.2 (i : Int)) r := by
  intro d
  induction d with
  | zero =>
    intro i s hi hs h
    obtain ⟨b, hb1, hb2, h⟩ := h
    have hb3 : s.1 = (b : Int) := hb1
    refine ev_succ ?_
    simp only [spec_l7Labels.l1, if_neg (show ¬ (i : Int) < (n : Int) by omega), hb3, if_pos (show (0 : Int) ≤ (b : Int) by omega), if_pos (show (b : Int) < (L.length : Int) by omega), Int.toNat_natCast]
    exact h
  | succ d ih =>
    intro i s hi hs h
    rw [List.range'_succ, List.foldl_cons] at h
    have h' := ih (i + 1) (stL t n L s i) (by omega) (stL_ok hn t L s hs i) h
    have hto := td_ok hn t L i
    refine ev_succ ?_
    simp only [spec_l7Labels.l1, if_pos (show (i : Int) < (n : Int) by omega)]
    refine ev_bind (told_ev hn ht L hL hb i (by omega)) ?_
    simp only [if_pos (show (0 : Int) ≤ (i : Int) by omega), if_pos (show (i : Int) < (L.length : Int) by omega), wsucc i (by omega)]
    unfold stL at h'
    by_cases c1 : rd L (i : Int) = 0
    · simp only [if_pos c1]
      rw [decide_eq_true c1, Bool.true_and] at h'
      cases c2 : candB L (folF t n i)
      · rw [c2, Bool.false_and, if_neg (by decide)] at h'
        simp only [Bool.false_eq_true, if_false]
        exact h'
      · rw [c2, Bool.true_and] at h'
        simp only [if_true]
        by_cases c3 : s.1 < 0
        · rw [decide_eq_true c3, Bool.true_or, if_pos rfl] at h'
          simp only [if_pos c3]
          exact h'
        · rw [decide_eq_false c3, Bool.false_or] at h'
          simp only [if_neg c3]
          refine ev_bind (less_ev _ s.2 (by have := hto.1; omega)) ?_
          cases c4 : lexL (tdF L (folF t n i) n) s.2
          · rw [c4, if_neg (by decide)] at h'
            simp only [Bool.false_eq_true, if_false]
            exact h'
          · rw [c4, if_pos rfl] at h'
            simp only [if_true]
            exact h'
    · simp only [if_neg c1]
      rw [decide_eq_false c1, Bool.false_and, Bool.false_and, if_neg (by decide)] at h'
      exact h'
theorem iLab_l3 {n : Nat} (hn : n ≤ 8) (rs : List (List Int)) (L : List Int) (hL : L.length = n) (lab b : Int) (ls F : List Int) (hF : F.length ≤ 8) (hFm : ∀ x ∈ F, 0 ≤ x ∧ x < (n : Int)) (i : Int) (r : List Int) : ∀ (d p : Nat) (acc : List Int) (kn : Bool), p + d = F.length → acc.length ≤ p →
    Ev (fun k => impl_labelsOf.l3 k (n : Int) rs L lab b ls i (acc ++ (F.drop p).map (fun j => rd L j)) (kn && candB L (F.drop p)) (n : Int) i F (F.length : Int) (F.length : Int)) r →
    Ev (fun k => impl_labelsOf.l3 k (n : Int) rs L lab b ls i acc kn (n : Int) i F (F.length : Int) (p : Int)) r := by
  intro d
  induction d with
  | zero =>
    intro p acc kn hp ha h
    rw [List.drop_of_length_le (by omega)] at h
    simp only [candB, List.map_nil, List.append_nil, List.all_nil, Bool.and_true] at h
    rw [show p = F.length by omega]
    exact h
  | succ d ih =>
    intro p acc kn hp ha h
    have hx : p < F.length := by omega
    have hin := hFm _ (List.getElem_mem hx)
    rw [List.drop_eq_getElem_cons hx] at h
    have ec : candB L (F[p] :: F.drop (p + 1)) = (decide (0 < rd L F[p]) && candB L (F.drop (p + 1))) := by unfold candB; rw [List.all_cons]
    rw [ec, ← Bool.and_assoc, List.map_cons, show acc ++ rd L F[p] :: (F.drop (p + 1)).map (fun j => rd L j) = (acc ++ [rd L F[p]]) ++ (F.drop (p + 1)).map (fun j => rd L j) by simp] at h
    have h' := ih (p + 1) (acc ++ [rd L F[p]]) _ (by omega) (by rw [List.length_append, List.length_singleton]; omega) h
    refine ev_succ ?_
    simp only [impl_labelsOf.l3, if_pos (show (p : Int) < (F.length : Int) by omega), if_pos (show (0 : Int) ≤ (p : Int) by omega), rdW F p hx, if_pos hin.1, if_pos (show F[p] < (L.length : Int) by omega), if_pos (show acc.length < 17592186044416 by omega), wsucc p (by omega)]
    cases kn
    · simp only [Bool.false_eq_true, if_false]
      rw [Bool.false_and] at h'
      exact h'
    · simp only [if_true]
      rw [Bool.true_and] at h'
      exact h'
theorem iLab_l2 {n : Nat} (hn : n ≤ 8) (t : List (List Bool)) (rs : List (List Int)) (hrl : rs.length = n) (hrs : ∀ i, i < n → rs.getD i [] = folF t n i) (L : List Int) (hL : L.length = n) (hb : ∀ j : Int, 0 ≤ rd L j ∧ rd L j ≤ (n : Int)) (lab : Int) (r : List Int) : ∀ (d i : Nat) (s : Int × List Int), i + d = n → okL s.2 →
    (∃ b : Nat, ((List.range' i d).foldl (stL t n L) s).1 = (b : Int) ∧ b < n ∧ Ev (fun k => impl_labelsOf.l1 k (n : Int) rs (L.set b lab) (wrap64 (lab + 1))) r) →
    Ev (fun k => impl_labelsOf.l2 k (n : Int) rs L lab s.1 s.2 (n : Int) (i : Int)) r := by
  intro d
  induction d with
  | zero =>
    intro i s hi hs h
    obtain ⟨b, hb1, hb2, h⟩ := h
    have hb3 : s.1 = (b : Int) := hb1
    refine ev_succ ?_
    simp only [impl_labelsOf.l2, if_neg (show ¬ (i : Int) < (n : Int) by omega), hb3, if_pos (show (0 : Int) ≤ (b : Int) by omega), if_pos (show (b : Int) < (L.length : Int) by omega), Int.toNat_natCast]
    exact h
  | succ d ih =>
    intro i s hi hs h
    rw [List.range'_succ, List.foldl_cons] at h
    have h' := ih (i + 1) (stL t n L s i) (by omega) (stL_ok hn t L s hs i) h
    have hto := td_ok hn t L i
    have h3 : (folF t n i).length ≤ n := flF_len (redP t n i) n 0
    have hbi := hb (i : Int)
    refine ev_succ ?_
    simp only [impl_labelsOf.l2, if_pos (show (i : Int) < (n : Int) by omega), if_pos (show (0 : Int) ≤ (i : Int) by omega), if_pos (show (i : Int) < (L.length : Int) by omega), if_pos (show (i : Int) < (rs.length : Int) by omega), rdIg, hrs i (by omega), wsucc i (by omega)]
    unfold stL at h'
    by_cases c1 : rd L (i : Int) = 0
    · simp only [gt_iff_lt, if_neg (show ¬ 0 < rd L (i : Int) by omega)]
      refine iLab_l3 hn rs L hL lab s.1 s.2 (folF t n i) (by omega) (fun x hx => by obtain ⟨q, rfl, _, h, _⟩ := flF_mem _ _ _ x hx; omega) (i : Int) r (folF t n i).length 0 [] true (by omega) (by simp) ?_
      rw [List.drop_zero, List.nil_append, Bool.true_and]
      refine ev_succ ?_
      simp only [impl_labelsOf.l3, if_neg (show ¬ ((folF t n i).length : Int) < ((folF t n i).length : Int) by omega), sort_ev ((folF t n i).map (fun j => rd L j)) (by rw [List.length_map]; omega), Option.bind_some, wsucc i (by omega)]
      rw [decide_eq_true c1, Bool.true_and] at h'
      cases c2 : candB L (folF t n i)
      · rw [c2, Bool.false_and, if_neg (by decide)] at h'
        simp only [Bool.false_eq_true, if_false]
        exact h'
      · rw [c2, Bool.true_and] at h'
        rw [sort_td L (folF t n i) n (fun j _ => (hb j).2) c2]
        simp only [if_true]
        by_cases c3 : s.1 < 0
        · rw [decide_eq_true c3, Bool.true_or, if_pos rfl] at h'
          simp only [if_pos c3]
          exact h'
        · rw [decide_eq_false c3, Bool.false_or] at h'
          simp only [if_neg c3]
          obtain ⟨c, e1, e2⟩ := cmpL_ev (tdF L (folF t n i) n) s.2 (by have := hto.1; omega) (by have := hs.1; omega) hto.2 hs.2
          refine ev_bind e1 ?_
          rw [← e2] at h'
          by_cases c4 : c < 0
          · rw [decide_eq_true c4, if_pos rfl] at h'
            simp only [if_pos c4]
            exact h'
          · rw [decide_eq_false c4, if_neg (by decide)] at h'
            simp only [if_neg c4]
            exact h'
    · simp only [gt_iff_lt, if_pos (show 0 < rd L (i : Int) by omega)]
      rw [decide_eq_false c1, Bool.false_and, Bool.false_and, if_neg (by decide)] at h'
      exact h'
/-- What the search finds: a job without a label, if one is free. -/
theorem scan_ok (t : List (List Bool)) (n : Nat) (L : List Int) : ∀ (d i : Nat) (s : Int × List Int), i + d = n → (s.1 = -1 ∨ ∃ b : Nat, s.1 = (b : Int) ∧ b < n ∧ rd L (b : Int) = 0) →
    (∃ b : Nat, ((List.range' i d).foldl (stL t n L) s).1 = (b : Int) ∧ b < n ∧ rd L (b : Int) = 0) ∨ (((List.range' i d).foldl (stL t n L) s).1 = -1 ∧ s.1 = -1 ∧ ∀ q, i ≤ q → q < n → ¬ (rd L (q : Int) = 0 ∧ candB L (folF t n q) = true)) := by
  intro d
  induction d with
  | zero =>
    intro i s hi hs
    rcases hs with hs | hs
    · exact Or.inr ⟨hs, hs, fun q h1 h2 => by omega⟩
    · exact Or.inl hs
  | succ d ih =>
    intro i s hi hs
    rw [List.range'_succ, List.foldl_cons]
    by_cases c : ((decide (rd L (i : Int) = 0) && candB L (folF t n i)) && (decide (s.1 < 0) || lexL (tdF L (folF t n i) n) s.2)) = true
    · have e : stL t n L s i = ((i : Int), tdF L (folF t n i) n) := by unfold stL; rw [if_pos c]
      rw [Bool.and_eq_true, Bool.and_eq_true] at c
      rw [e]
      rcases ih (i + 1) ((i : Int), tdF L (folF t n i) n) (by omega) (Or.inr ⟨i, rfl, by omega, of_decide_eq_true c.1.1⟩) with h | ⟨_, h, _⟩
      · exact Or.inl h
      · have : (i : Int) = -1 := h
        omega
    · have e : stL t n L s i = s := by unfold stL; rw [if_neg c]
      rw [e]
      rcases ih (i + 1) s (by omega) hs with h | ⟨h1, h2, h3⟩
      · exact Or.inl h
      · refine Or.inr ⟨h1, h2, fun q hq hqn hc => ?_⟩
        by_cases e2 : q = i
        · subst e2
          refine c ?_
          rw [decide_eq_true hc.1, hc.2, decide_eq_true (show s.1 < 0 by omega)]
          rfl
        · exact h3 q (by omega) hqn hc
/-- A job without a label, whose followers all have one. -/
theorem free_ex {n : Nat} {t : List (List Bool)} (hdesc : ∀ j i, j < n → i < n → tb t j i = true → cntF t i n < cntF t j n) (L : List Int) (h0 : ∀ j : Int, 0 ≤ rd L j) : ∀ (m j : Nat), j < n → cntF t j n ≤ m → rd L (j : Int) = 0 → ∃ q, q < n ∧ rd L (q : Int) = 0 ∧ candB L (folF t n q) = true := by
  have fin : ∀ j, j < n → rd L (j : Int) = 0 → (∀ i, i < n → tb t j i = true → ¬ rd L (i : Int) = 0) → ∃ q, q < n ∧ rd L (q : Int) = 0 ∧ candB L (folF t n q) = true := by
    intro j hj hz h
    refine ⟨j, hj, hz, ?_⟩
    unfold candB
    rw [List.all_eq_true]
    intro x hx
    obtain ⟨q, rfl, _, hq, hr⟩ := flF_mem _ _ _ x hx
    unfold redP at hr
    rw [Bool.and_eq_true] at hr
    have h1 := h q (by omega) hr.1
    have h2 := h0 (q : Int)
    exact decide_eq_true (by omega)
  intro m
  induction m with
  | zero =>
    intro j hj hm hz
    refine fin j hj hz (fun i hi hb => ?_)
    have := hdesc j i hj hi hb
    omega
  | succ m ih =>
    intro j hj hm hz
    by_cases h : ∃ i, i < n ∧ tb t j i = true ∧ rd L (i : Int) = 0
    · obtain ⟨i, hi, hb, hz'⟩ := h
      have := hdesc j i hj hi hb
      exact ih i hi (by omega) hz'
    · exact fin j hj hz (fun i hi hb hz' => h ⟨i, hi, hb, hz'⟩)

theorem rd_bd (L : List Int) (m : Int) (hm : 0 ≤ m) (h : ∀ x ∈ L, 0 ≤ x ∧ x ≤ m) (j : Int) : 0 ≤ rd L j ∧ rd L j ≤ m := by
  unfold rd
  rw [List.getD_eq_getElem?_getD]
  cases e : L[j.toNat]? with
  | none => exact ⟨Int.le_refl _, hm⟩
  | some v => exact h v (List.mem_of_getElem? e)
theorem core (n : Int) (es : List S71) (_ : I64 n) (hm : es.length ≤ 1048576) : ∃ (r : List Int) (ok : Bool), r.length ≤ 1048576 ∧ Ev (fun k => spec_LabelsOf.f k n es) (r, ok) ∧ Ev (fun k => impl_LabelsOf.f k n es) (r, ok) := by
  have h1 := l4Good_ev n es hm
  have h2 := isPrec_ev n es
  unfold spec_LabelsOf.f impl_LabelsOf.f
  cases hg : good4 n es
  · rw [hg] at h1 h2
    exact ⟨[], false, by simp, ev_bind h1 (by simp only [Bool.false_eq_true, if_false]; exact ev_now _), ev_bind h2 (by simp only [Bool.false_eq_true, if_false]; exact ev_now _)⟩
  rw [hg] at h1 h2
  obtain ⟨m, rfl, hl, hl28, hin, hirr⟩ := good4_facts n es hg
  have hsq := clos_sq m es hin
  have hdesc := fun j i hj hi hb => cnt_desc m es hin hirr j i hj hi hb
  have htab := l4Table_ev m hl es hm hin
  have hclo := closure_ev m hl es hm hin
  obtain ⟨t, htd⟩ : ∃ t, t = closT m es := ⟨_, rfl⟩
  rw [← htd] at hsq hdesc htab hclo
  have hE := prsF_len (redP t m) m m 0
  have hmm : m * m ≤ 8 * 8 := Nat.mul_le_mul hl hl
  have hEin := prsF_in (redP t m) m m 0 (by omega)
  obtain ⟨rs, hrs⟩ : ∃ rs, rs = putR (List.replicate m []) (prsF (redP t m) m 0 m) := ⟨_, rfl⟩
  have hrl : rs.length = m := by rw [hrs, putR_len, List.length_replicate]
  have hrr : ∀ i, i < m → rs.getD i [] = folF t m i := by
    intro i hi
    rw [hrs, putR_at m _ _ (by simp) hEin i hi, prs_row, if_pos (by omega)]
    have : (List.replicate m ([] : List Int)).getD i [] = [] := by
      rw [List.getD_eq_getElem?_getD, List.getElem?_replicate]
      split <;> rfl
    rw [this, List.nil_append]
    rfl
  have main : ∀ (d lab : Nat) (L : List Int), lab + d = m + 1 → 1 ≤ lab → L.length = m → (∀ x ∈ L, 0 ≤ x ∧ x ≤ (m : Int)) → L.count 0 + lab = m + 1 →
      ∃ r : List Int, r.length = m ∧ Ev (fun k => spec_l7Labels.l0 k (m : Int) L t (lab : Int)) r ∧ Ev (fun k => impl_labelsOf.l1 k (m : Int) rs L (lab : Int)) r := by
    intro d
    induction d with
    | zero =>
      intro lab L hd h1 hL hb hc
      refine ⟨L, hL, ev_succ ?_, ev_succ ?_⟩
      · simp only [spec_l7Labels.l0, if_neg (show ¬ (lab : Int) ≤ (m : Int) by omega)]
        exact ev_now _
      · simp only [impl_labelsOf.l1, if_neg (show ¬ (lab : Int) ≤ (m : Int) by omega)]
        exact ev_now _
    | succ d ih =>
      intro lab L hd h1 hL hb hc
      have hbd := rd_bd L (m : Int) (by omega) hb
      have hz : (0 : Int) ∈ L := List.count_pos_iff.1 (by omega)
      obtain ⟨j, hj, hjz⟩ := List.mem_iff_getElem.1 hz
      obtain ⟨q, hq1, hq2, hq3⟩ := free_ex hdesc L (fun j => (hbd j).1) (cntF t j m) j (by omega) (Nat.le_refl _) (by rw [rdW L j hj]; exact hjz)
      have hsc := scan_ok t m L m 0 (-1, []) (by omega) (Or.inl rfl)
      have hfb : ∃ b : Nat, ((List.range' 0 m).foldl (stL t m L) (-1, [])).1 = (b : Int) ∧ b < m ∧ rd L (b : Int) = 0 := by
        rcases hsc with h | ⟨_, _, h⟩
        · exact h
        · exact absurd ⟨hq2, hq3⟩ (h q (by omega) hq1)
      obtain ⟨b, hb1, hb2, hb3⟩ := hfb
      have hbL : b < L.length := by omega
      rw [rdW L b hbL] at hb3
      have hcount : (L.set b (lab : Int)).count 0 + (lab + 1) = m + 1 := by
        have := List.count_set (a := (lab : Int)) (b := (0 : Int)) (l := L) (i := b) hbL
        rw [hb3] at this
        rw [this]
        have e1 : ((0 : Int) == 0) = true := rfl
        have e2 : ((lab : Int) == 0) = false := by rw [beq_eq_false_iff_ne]; omega
        rw [e1, e2]
        simp only [if_true, Bool.false_eq_true, if_false]
        have : 0 < L.count 0 := List.count_pos_iff.2 hz
        omega
      obtain ⟨r, r1, r2, r3⟩ := ih (lab + 1) (L.set b (lab : Int)) (by omega) (by omega) (by rw [List.length_set]; exact hL) (fun x hx => by
        rcases List.mem_or_eq_of_mem_set hx with h | h
        · exact hb x h
        · rw [h]; omega) hcount
      refine ⟨r, r1, ev_succ ?_, ev_succ ?_⟩
      · simp only [spec_l7Labels.l0, if_pos (show (lab : Int) ≤ (m : Int) by omega)]
        refine sLab_l1 hl hsq L hL (fun j => (hbd j).2) (lab : Int) r m 0 (-1, []) (by omega) ⟨by simp, fun x hx => by cases hx⟩ ⟨b, hb1, hb2, ?_⟩
        rw [wsucc lab (by omega)]
        exact r2
      · simp only [impl_labelsOf.l1, if_pos (show (lab : Int) ≤ (m : Int) by omega), hL]
        refine iLab_l2 hl t rs hrl hrr L hL hbd (lab : Int) r m 0 (-1, []) (by omega) ⟨by simp, fun x hx => by cases hx⟩ ⟨b, hb1, hb2, ?_⟩
        rw [wsucc lab (by omega)]
        exact r3
  obtain ⟨r, r1, r2, r3⟩ := main m 1 (List.replicate m 0) (by omega) (by omega) (by simp) (fun x hx => by rw [List.eq_of_mem_replicate hx]; omega) (by rw [List.count_replicate]; simp)
  refine ⟨r, true, by omega, ev_bind h1 ?_, ev_bind h2 ?_⟩
  · simp only [if_true]
    refine ev_bind (a := r) ?_ (ev_now _)
    unfold spec_l7Labels.f
    simp only [if_pos (show (0 : Int) ≤ (m : Int) by omega), Int.toNat_natCast, if_pos (show m ≤ 35184372088832 by omega)]
    exact ev_bind htab r2
  · simp only [if_true]
    refine ev_bind (a := r) ?_ (ev_now _)
    unfold impl_labelsOf.f
    simp only [if_pos (show (0 : Int) ≤ (m : Int) by omega), Int.toNat_natCast, if_pos (show m ≤ 11728124029610 by omega)]
    refine ev_bind hclo (ev_bind (reduction_ev m hl t hsq) ?_)
    refine lab_rows m hl (prsF (redP t m) m 0 m) (by omega) hEin r (prsF (redP t m) m 0 m).length 0 (List.replicate m []) (by omega) (by simp) (fun i => ?_) ?_
    · rw [List.getD_eq_getElem?_getD, List.getElem?_replicate]
      split <;> simp
    · rw [List.drop_zero, ← hrs]
      exact r3

theorem FnExactLabelsOf : FnExactLabelsOf.Claim := by
  intro a0 l1 hi0 hl1 hg1
  refine Ev.rounds ?_
  unfold laws_FnExactLabelsOf.f
  simp only [szIntA2S_eq l1 (1048576 : Int) (by omega) (by omega) hl1, Option.bind_some]
  by_cases h1 : (1048576 : Int) < l1.length
  · simp only [if_pos h1, if_pos (show (-1 : Int) < 0 by omega)]
    exact ev_now _
  simp only [if_neg h1, if_neg (show ¬ (((1048576 : Int) - l1.length) < 0) by omega)]
  have ht1 := toIntA2S_ev l1 (by omega)
  have hm1 : l1.length ≤ 1048576 := by omega
  have hq1 := eqIntA2S_ev l1 (by omega)
  obtain ⟨r0, r1, hr0, hs, hi⟩ := core a0 l1 hi0 hm1
  obtain ⟨qa1, ya1, _, hb1, ma1⟩ := markIntA2S_from1 l1 hm1
  have he0 := eqIntS_ev r0 (by omega)
  obtain ⟨q0, y0, hq_0, m0, e0⟩ := markIntS_ev r0 hr0
  repeat first
    | exact ev_now _
    | with_reducible refine ev_bind hs ?_
    | with_reducible refine ev_bind hi ?_
    | with_reducible refine ev_bind ht1 ?_
    | with_reducible refine ev_bind hq1 ?_
    | with_reducible refine ev_bind ma1 ?_
    | with_reducible refine ev_bind he0 ?_
    | with_reducible refine ev_bind m0 ?_
    | with_reducible refine ev_bind e0 ?_
    | simp only [if_true, if_false, bne_self_eq_false, Bool.false_eq_true, if_neg (show ¬ ((qa1 : Int) < 0) by omega), if_neg (show ¬ ((q0 : Int) < 0) by omega)]
    | (refine ev_succ ?_; simp only [laws_FnExactLabelsOf.j0])
    | (refine ev_succ ?_; simp only [laws_FnExactLabelsOf.j1])
    | (refine ev_succ ?_; simp only [laws_FnExactLabelsOf.j2])

end Go.Proofs.Ytecdigebnhlfhaa.Pure
