/- The program's function and the reference's come to the same answer: the statement of numbers and lists behind the law FnExactLastCostOrder. Conditions: none. -/
import Derived.Test.YtecdigebnhlfhaaArgFnExactLastCostOrder
import Derived.Test.YtecdigebnhlfhaaBase
namespace Go.Proofs.Ytecdigebnhlfhaa.Pure
open Go.RowKit Go.Proofs.Ytecdigebnhlfhaa.OFnExactLastCostOrder Go.Proofs.Ytecdigebnhlfhaa.Base Go.Proofs.YtecdigebnhlfhaaW.PrintWords Go.Proofs.YtecdigebnhlfhaaW.PrintLast Go.Proofs.YtecdigebnhlfhaaW.PrintMore Go.Proofs.Ytecdigebnhlfhaa.Open
set_option linter.unusedVariables false
set_option linter.unusedSimpArgs false

mutual
def laws_heldIntA2S.l0 : Nat → List (S71) → Int → Int → Option (Int)
  | 0, _, _, _ => none
  | k + 1, x0, x1, x5 => if x5 < (x0.length : Int) then (laws_heldIntA2S.l1 k x0 x1 x5 0) else (some x1)
def laws_heldIntA2S.l1 : Nat → List (S71) → Int → Int → Int → Option (Int)
  | 0, _, _, _, _ => none
  | k + 1, x0, x1, x5, x6 => if x6 < 2 then (if 0 ≤ x5 then (if x5 < (x0.length : Int) then (if x6 = 0 then (if ((rd_T71 x0 x5).f0) = x1 then (laws_heldIntA2S.l1 k x0 (wrap64 (x1 + 1)) x5 (wrap64 (x6 + 1))) else (some (-1))) else (if x6 = 1 then (if ((rd_T71 x0 x5).f1) = x1 then (laws_heldIntA2S.l1 k x0 (wrap64 (x1 + 1)) x5 (wrap64 (x6 + 1))) else (some (-1))) else (none))) else (none)) else (none)) else (laws_heldIntA2S.l0 k x0 x1 (wrap64 (x5 + 1)))
end
def laws_heldIntA2S.f (k : Nat) (l0 : List (S71)) (a1 : Int) : Option (Int) := laws_heldIntA2S.l0 k l0 a1 0

def laws_heldJobS.l0 : Nat → List (S79) → Int → Int → Option (Int)
  | 0, _, _, _ => none
  | k + 1, x0, x1, x5 => if x5 < (x0.length : Int) then (if 0 ≤ x5 then (if ((rd_T79 x0 x5).f0) = x1 then (if ((rd_T79 x0 x5).f1) = (wrap64 (x1 + 1)) then (if ((rd_T79 x0 x5).f2) = (wrap64 ((wrap64 (x1 + 1)) + 1)) then (if ((rd_T79 x0 x5).f3) = (wrap64 ((wrap64 ((wrap64 (x1 + 1)) + 1)) + 1)) then (laws_heldJobS.l0 k x0 (wrap64 ((wrap64 ((wrap64 ((wrap64 (x1 + 1)) + 1)) + 1)) + 1)) (wrap64 (x5 + 1))) else (some (-1))) else (some (-1))) else (some (-1))) else (some (-1))) else (none)) else (some x1)
def laws_heldJobS.f (k : Nat) (l0 : List (S79)) (a1 : Int) : Option (Int) := laws_heldJobS.l0 k l0 a1 0

theorem szJobS_eq (xs : List S83) (left : Int) (h0 : 0 ≤ left) (h1 : left ≤ 1048576) (h : xs.length ≤ 9223372036854775807) : laws_szJobS.f xs left = some (if left < xs.length then -1 else left - xs.length) := by
  unfold laws_szJobS.f
  rw [w64 (by omega) (by omega)]
  by_cases c : left < xs.length
  · rw [if_pos (by omega), if_pos c]
  · rw [if_neg (by omega), if_neg c]

def conv (x : S83) : S79 := ⟨x.f0, x.f1, x.f2, x.f3⟩
theorem rdL (xs : List S83) (i : Nat) (h : i < xs.length) : rd_T83 xs (i : Int) = xs[i] := by
  unfold rd_T83
  rw [Int.toNat_natCast, List.getD_eq_getElem?_getD, List.getElem?_eq_getElem h]
  rfl

theorem toJobS_l (xs : List S83) (hn : xs.length ≤ 8796093022208) : ∀ (d i : Nat) (ys : List S79), i + d = xs.length → ys.length = xs.length → ys.take i = (xs.map conv).take i → Ev (fun k => laws_toJobS.l0 k xs ys (i : Int)) (xs.map conv) := by
  intro d
  induction d with
  | zero =>
    intro i ys hi hl ht
    refine ev_succ ?_
    simp only [laws_toJobS.l0, if_neg (show ¬ (i : Int) < (xs.length : Int) by omega)]
    have : ys = xs.map conv := by
      rw [List.take_of_length_le (by omega), List.take_of_length_le (by simp; omega)] at ht
      exact ht
    rw [this]
    exact ev_now _
  | succ d ih =>
    intro i ys hi hl ht
    refine ev_succ ?_
    have hx : i < xs.length := by omega
    simp only [laws_toJobS.l0, laws_toJob.f, Option.bind_some, if_pos (show (i : Int) < (xs.length : Int) by omega), if_pos (show (i : Int) < (ys.length : Int) by omega), if_pos (show (0 : Int) ≤ (i : Int) by omega), rdL xs i hx, wsucc i (by omega), Int.toNat_natCast]
    refine ih (i + 1) _ (by omega) (by rw [List.length_set]; exact hl) ?_
    rw [take_set_succ ys i _ (by omega), ht, List.take_succ_eq_append_getElem (by simp; omega)]
    simp [conv]
theorem toJobS_ev (xs : List S83) (hn : xs.length ≤ 1048576) : Ev (fun k => laws_toJobS.f k xs) (xs.map conv) := by
  unfold laws_toJobS.f
  simp only [if_pos (show (0 : Int) ≤ (xs.length : Int) by omega), Int.toNat_natCast, if_pos (show xs.length ≤ 8796093022208 by omega)]
  exact toJobS_l xs (by omega) xs.length 0 _ (by omega) (by simp) (by simp)

theorem rdI (xs : List S79) (i : Nat) (h : i < xs.length) : rd_T79 xs (i : Int) = xs[i] := by
  unfold rd_T79
  rw [Int.toNat_natCast, List.getD_eq_getElem?_getD, List.getElem?_eq_getElem h]
  rfl

theorem eqJobS_l (xs : List S79) (hn : xs.length ≤ 4611686018427387904) : ∀ (d i : Nat), i + d = xs.length → Ev (fun k => laws_eqJobS.l0 k xs xs (i : Int)) true := by
  intro d
  induction d with
  | zero =>
    intro i hi
    refine ev_succ ?_
    simp only [laws_eqJobS.l0, if_neg (show ¬ (i : Int) < (xs.length : Int) by omega)]
    exact ev_now _
  | succ d ih =>
    intro i hi
    refine ev_succ ?_
    simp only [laws_eqJobS.l0, laws_eqJob.f, if_true, Option.bind_some, if_pos (show (i : Int) < (xs.length : Int) by omega), if_pos (show (0 : Int) ≤ (i : Int) by omega), wsucc i (by omega)]
    exact ih (i + 1) (by omega)
theorem eqJobS_ev (xs : List S79) (hn : xs.length ≤ 4611686018427387904) : Ev (fun k => laws_eqJobS.f k xs xs) true := by
  unfold laws_eqJobS.f
  simp only [if_true]
  exact eqJobS_l xs hn xs.length 0 (by omega)

theorem conv_I64 (l : List S83) (hg : ∀ x ∈ l, G83 x) (i : Nat) (hi : i < (l.map conv).length) : I64 (l.map conv)[i].f0 ∧ I64 (l.map conv)[i].f1 ∧ I64 (l.map conv)[i].f2 ∧ I64 (l.map conv)[i].f3 := by
  simp only [List.getElem_map, conv]
  exact hg _ (List.getElem_mem _)

theorem szIntA2S_eq (xs : List S71) (left : Int) (h0 : 0 ≤ left) (h1 : left ≤ 1048576) (h : xs.length ≤ 9223372036854775807) : laws_szIntA2S.f xs left = some (if left < xs.length then -1 else left - xs.length) := by
  unfold laws_szIntA2S.f
  rw [w64 (by omega) (by omega)]
  by_cases c : left < xs.length
  · rw [if_pos (by omega), if_pos c]
  · rw [if_neg (by omega), if_neg c]

theorem rdA2 (xs : List S71) (i : Nat) (h : i < xs.length) : rd_T71 xs (i : Int) = xs[i] := by
  unfold rd_T71
  rw [Int.toNat_natCast, List.getD_eq_getElem?_getD, List.getElem?_eq_getElem h]
  rfl
theorem w01 : wrap64 (0 + 1) = 1 := by unfold wrap64; omega
theorem w11 : wrap64 (1 + 1) = 2 := by unfold wrap64; omega

theorem toIntA2_ev (a b : Int) : Ev (fun k => laws_toIntA2.f k a b) (a, b) := by
  unfold laws_toIntA2.f
  refine ev_succ ?_
  simp only [laws_toIntA2.l0, if_pos (show (0 : Int) < 2 by omega), if_true, w01]
  refine ev_succ ?_
  simp only [laws_toIntA2.l0, if_pos (show (1 : Int) < 2 by omega), if_neg (show ¬ (1 : Int) = 0 by omega), if_true, w11]
  refine ev_succ ?_
  simp only [laws_toIntA2.l0, if_neg (show ¬ (2 : Int) < 2 by omega)]
  exact ev_now _
theorem toIntA2S_l (xs : List S71) (hn : xs.length ≤ 1048576) : ∀ (d i : Nat) (ys : List S71), i + d = xs.length → ys.length = xs.length → ys.take i = xs.take i → Ev (fun k => laws_toIntA2S.l0 k xs ys (i : Int)) xs := by
  intro d
  induction d with
  | zero =>
    intro i ys hi hl ht
    refine ev_succ ?_
    simp only [laws_toIntA2S.l0, if_neg (show ¬ (i : Int) < (xs.length : Int) by omega)]
    have : ys = xs := by
      rw [List.take_of_length_le (by omega), List.take_of_length_le (by omega)] at ht
      exact ht
    rw [this]
    exact ev_now _
  | succ d ih =>
    intro i ys hi hl ht
    refine ev_succ ?_
    have hx : i < xs.length := by omega
    simp only [laws_toIntA2S.l0, if_pos (show (i : Int) < (xs.length : Int) by omega), if_pos (show (0 : Int) ≤ (i : Int) by omega), rdA2 xs i hx, wsucc i (by omega)]
    refine ev_bind (toIntA2_ev _ _) ?_
    simp only [if_pos (show (i : Int) < (ys.length : Int) by omega), Int.toNat_natCast]
    refine ih (i + 1) _ (by omega) (by rw [List.length_set]; exact hl) ?_
    rw [take_set_succ ys i _ (by omega), ht, List.take_succ_eq_append_getElem hx]
theorem toIntA2S_ev (xs : List S71) (hn : xs.length ≤ 1048576) : Ev (fun k => laws_toIntA2S.f k xs) xs := by
  unfold laws_toIntA2S.f
  simp only [if_pos (show (0 : Int) ≤ (xs.length : Int) by omega), Int.toNat_natCast, if_pos (show xs.length ≤ 17592186044416 by omega)]
  exact toIntA2S_l xs hn xs.length 0 _ (by omega) (by simp) (by simp)

theorem eqIntA2_ev (a b : Int) : Ev (fun k => laws_eqIntA2.f k a b a b) true := by
  unfold laws_eqIntA2.f
  refine ev_succ ?_
  simp only [laws_eqIntA2.l0, if_pos (show (0 : Int) < 2 by omega), if_true, w01]
  refine ev_succ ?_
  simp only [laws_eqIntA2.l0, if_pos (show (1 : Int) < 2 by omega), if_neg (show ¬ (1 : Int) = 0 by omega), if_true, w11]
  refine ev_succ ?_
  simp only [laws_eqIntA2.l0, if_neg (show ¬ (2 : Int) < 2 by omega)]
  exact ev_now _
theorem eqIntA2S_l (xs : List S71) (hn : xs.length ≤ 4611686018427387904) : ∀ (d i : Nat), i + d = xs.length → Ev (fun k => laws_eqIntA2S.l0 k xs xs (i : Int)) true := by
  intro d
  induction d with
  | zero =>
    intro i hi
    refine ev_succ ?_
    simp only [laws_eqIntA2S.l0, if_neg (show ¬ (i : Int) < (xs.length : Int) by omega)]
    exact ev_now _
  | succ d ih =>
    intro i hi
    refine ev_succ ?_
    simp only [laws_eqIntA2S.l0, if_pos (show (i : Int) < (xs.length : Int) by omega), if_pos (show (0 : Int) ≤ (i : Int) by omega), wsucc i (by omega)]
    refine ev_bind (eqIntA2_ev _ _) ?_
    simp only [if_true]
    exact ih (i + 1) (by omega)
theorem eqIntA2S_ev (xs : List S71) (hn : xs.length ≤ 4611686018427387904) : Ev (fun k => laws_eqIntA2S.f k xs xs) true := by
  unfold laws_eqIntA2S.f
  simp only [if_true]
  exact eqIntA2S_l xs hn xs.length 0 (by omega)

theorem rdI_set (xs : List S79) (i : Nat) (h : i < xs.length) (v : S79) : rd_T79 (xs.set i v) (i : Int) = v := by
  rw [rdI _ i (by rw [List.length_set]; exact h)]
  simp
theorem markJobS_l : ∀ (d i m : Nat) (xs : List S79), i + d = xs.length → m + 4 * d ≤ 1152921504606846976 → xs.length ≤ 1152921504606846976 →
    ∃ (q : Nat) (ys : List S79), Ev (fun k => laws_markJobS.l0 k xs (m : Int) (i : Int)) ((q : Int), ys) ∧ ys.length = xs.length ∧ ys.take i = xs.take i ∧ m ≤ q ∧ q ≤ m + 4 * d ∧ Ev (fun k => laws_heldJobS.l0 k ys (m : Int) (i : Int)) (q : Int) := by
  intro d
  induction d with
  | zero =>
    intro i m xs hi hmd hxl
    refine ⟨m, xs, ev_succ ?_, rfl, rfl, Nat.le_refl _, by omega, ev_succ ?_⟩
    · simp only [laws_markJobS.l0, if_neg (show ¬ (i : Int) < (xs.length : Int) by omega)]
      exact ev_now _
    · simp only [laws_heldJobS.l0, if_neg (show ¬ (i : Int) < (xs.length : Int) by omega)]
      exact ev_now _
  | succ d ih =>
    intro i m xs hi hmd hxl
    obtain ⟨q, ys, h1, h2, h3, h4, h4', h5⟩ := ih (i + 1) (m + 4) (xs.set i ⟨(m : Int), ((m + 1 : Nat) : Int), ((m + 2 : Nat) : Int), ((m + 3 : Nat) : Int)⟩) (by rw [List.length_set]; omega) (by omega) (by rw [List.length_set]; omega)
    rw [List.length_set] at h2
    rw [take_set_succ xs i _ (by omega)] at h3
    have hy : ys[i]'(by omega) = ⟨(m : Int), ((m + 1 : Nat) : Int), ((m + 2 : Nat) : Int), ((m + 3 : Nat) : Int)⟩ := by
      have := congrArg (fun l => l[i]?) h3
      simp only [List.getElem?_take, if_pos (show i < i + 1 by omega)] at this
      rw [List.getElem?_append_right (by simp; omega), List.getElem?_eq_getElem (by omega)] at this
      simpa [Nat.min_eq_left (show i ≤ xs.length by omega)] using this
    refine ⟨q, ys, ev_succ ?_, h2, ?_, by omega, by omega, ev_succ ?_⟩
    · simp only [laws_markJobS.l0, Option.bind_some, if_pos (show (i : Int) < (xs.length : Int) by omega), if_pos (show (0 : Int) ≤ (i : Int) by omega), wsucc i (by omega), wsucc m (by omega), wsucc (m + 1) (by omega), wsucc (m + 2) (by omega), wsucc (m + 3) (by omega), Int.toNat_natCast, rdI_set xs i (by omega), List.set_set]
      exact h1
    · have := congrArg (fun l => l.take i) h3
      simp only [List.take_take, Nat.min_eq_left (show i ≤ i + 1 by omega)] at this
      rw [this, List.take_append_of_le_length (by simp; omega), List.take_take, Nat.min_self]
    · simp only [laws_heldJobS.l0, if_pos (show (i : Int) < (ys.length : Int) by omega), if_pos (show (0 : Int) ≤ (i : Int) by omega), wsucc i (by omega), wsucc m (by omega), wsucc (m + 1) (by omega), wsucc (m + 2) (by omega), wsucc (m + 3) (by omega), rdI ys i (by omega), hy, if_true]
      exact h5
theorem markJobS_ev (xs : List S79) (h : xs.length ≤ 1048576) : ∃ (q : Nat) (ys : List S79), 1 ≤ q ∧ Ev (fun k => laws_markJobS.f k xs 1) ((q : Int), ys) ∧ Ev (fun k => laws_heldJobS.f k ys 1) (q : Int) := by
  obtain ⟨q, ys, h1, h2, h3, h4, h4', h5⟩ := markJobS_l xs.length 0 1 xs (by omega) (by omega) (by omega)
  exact ⟨q, ys, h4, h1, h5⟩

theorem markJobS_from (xs : List S79) (h : xs.length ≤ 1048576) (m : Nat) (hm : m ≤ 1000000000) : ∃ (q : Nat) (ys : List S79), m ≤ q ∧ q ≤ m + 4194304 ∧ Ev (fun k => laws_markJobS.f k xs (m : Int)) ((q : Int), ys) := by
  obtain ⟨q, ys, h1, h2, h3, h4, h4', h5⟩ := markJobS_l xs.length 0 m xs (by omega) (by omega) (by omega)
  exact ⟨q, ys, h4, by omega, h1⟩
theorem markJobS_from1 (xs : List S79) (h : xs.length ≤ 1048576) : ∃ (q : Nat) (ys : List S79), 1 ≤ q ∧ q ≤ 1 + 4194304 ∧ Ev (fun k => laws_markJobS.f k xs 1) ((q : Int), ys) := markJobS_from xs h 1 (by omega)

theorem rdA2_set (xs : List S71) (i : Nat) (h : i < xs.length) (v : S71) : rd_T71 (xs.set i v) (i : Int) = v := by
  rw [rdA2 _ i (by rw [List.length_set]; exact h)]
  simp
theorem markIntA2S_l : ∀ (d i m : Nat) (xs : List S71), i + d = xs.length → m + 2 * d ≤ 1152921504606846976 → xs.length ≤ 1152921504606846976 →
    ∃ (q : Nat) (ys : List S71), Ev (fun k => laws_markIntA2S.l0 k xs (m : Int) (i : Int)) ((q : Int), ys) ∧ ys.length = xs.length ∧ ys.take i = xs.take i ∧ m ≤ q ∧ q ≤ m + 2 * d ∧ Ev (fun k => laws_heldIntA2S.l0 k ys (m : Int) (i : Int)) (q : Int) := by
  intro d
  induction d with
  | zero =>
    intro i m xs hi hmd hxl
    refine ⟨m, xs, ev_succ ?_, rfl, rfl, Nat.le_refl _, by omega, ev_succ ?_⟩
    · simp only [laws_markIntA2S.l0, if_neg (show ¬ (i : Int) < (xs.length : Int) by omega)]
      exact ev_now _
    · simp only [laws_heldIntA2S.l0, if_neg (show ¬ (i : Int) < (xs.length : Int) by omega)]
      exact ev_now _
  | succ d ih =>
    intro i m xs hi hmd hxl
    obtain ⟨q, ys, h1, h2, h3, h4, h4', h5⟩ := ih (i + 1) (m + 2) (xs.set i ⟨(m : Int), ((m + 1 : Nat) : Int)⟩) (by rw [List.length_set]; omega) (by omega) (by rw [List.length_set]; omega)
    rw [List.length_set] at h2
    rw [take_set_succ xs i _ (by omega)] at h3
    have hy : ys[i]'(by omega) = ⟨(m : Int), ((m + 1 : Nat) : Int)⟩ := by
      have := congrArg (fun l => l[i]?) h3
      simp only [List.getElem?_take, if_pos (show i < i + 1 by omega)] at this
      rw [List.getElem?_append_right (by simp; omega), List.getElem?_eq_getElem (by omega)] at this
      simpa [Nat.min_eq_left (show i ≤ xs.length by omega)] using this
    have hx : i < xs.length := by omega
    refine ⟨q, ys, ev_succ ?_, h2, ?_, by omega, by omega, ev_succ ?_⟩
    · simp only [laws_markIntA2S.l0, if_pos (show (i : Int) < (xs.length : Int) by omega)]
      refine ev_succ ?_
      simp only [laws_markIntA2S.l1, if_pos (show (0 : Int) < 2 by omega), if_pos (show (0 : Int) ≤ (i : Int) by omega), if_pos (show (i : Int) < (xs.length : Int) by omega), if_true, w01, wsucc m (by omega), Int.toNat_natCast, rdA2 xs i hx]
      refine ev_succ ?_
      have hl : (xs.set i ⟨(m : Int), xs[i].f1⟩).length = xs.length := List.length_set
      simp only [laws_markIntA2S.l1, if_pos (show (1 : Int) < 2 by omega), if_neg (show ¬ (1 : Int) = 0 by omega), if_true, w11, if_pos (show (0 : Int) ≤ (i : Int) by omega), if_pos (show (i : Int) < ((xs.set i ⟨(m : Int), xs[i].f1⟩).length : Int) by rw [hl]; omega), wsucc (m + 1) (by omega), Int.toNat_natCast, rdA2_set xs i hx, List.set_set]
      refine ev_succ ?_
      simp only [laws_markIntA2S.l1, if_neg (show ¬ (2 : Int) < 2 by omega), wsucc i (by omega)]
      exact h1
    · have := congrArg (fun l => l.take i) h3
      simp only [List.take_take, Nat.min_eq_left (show i ≤ i + 1 by omega)] at this
      rw [this, List.take_append_of_le_length (by simp; omega), List.take_take, Nat.min_self]
    · simp only [laws_heldIntA2S.l0, if_pos (show (i : Int) < (ys.length : Int) by omega)]
      refine ev_succ ?_
      simp only [laws_heldIntA2S.l1, if_pos (show (0 : Int) < 2 by omega), if_pos (show (0 : Int) ≤ (i : Int) by omega), if_pos (show (i : Int) < (ys.length : Int) by omega), if_true, w01, wsucc m (by omega), rdA2 ys i (by omega), hy]
      refine ev_succ ?_
      simp only [laws_heldIntA2S.l1, if_pos (show (1 : Int) < 2 by omega), if_neg (show ¬ (1 : Int) = 0 by omega), if_pos (show (0 : Int) ≤ (i : Int) by omega), if_pos (show (i : Int) < (ys.length : Int) by omega), if_true, w11, wsucc (m + 1) (by omega), rdA2 ys i (by omega), hy]
      refine ev_succ ?_
      simp only [laws_heldIntA2S.l1, if_neg (show ¬ (2 : Int) < 2 by omega), wsucc i (by omega)]
      exact h5
theorem markIntA2S_ev (xs : List S71) (h : xs.length ≤ 1048576) : ∃ (q : Nat) (ys : List S71), 1 ≤ q ∧ Ev (fun k => laws_markIntA2S.f k xs 1) ((q : Int), ys) ∧ Ev (fun k => laws_heldIntA2S.f k ys 1) (q : Int) := by
  obtain ⟨q, ys, h1, h2, h3, h4, h4', h5⟩ := markIntA2S_l xs.length 0 1 xs (by omega) (by omega) (by omega)
  exact ⟨q, ys, h4, h1, h5⟩

theorem markIntA2S_from (xs : List S71) (h : xs.length ≤ 1048576) (m : Nat) (hm : m ≤ 1000000000) : ∃ (q : Nat) (ys : List S71), m ≤ q ∧ q ≤ m + 4194304 ∧ Ev (fun k => laws_markIntA2S.f k xs (m : Int)) ((q : Int), ys) := by
  obtain ⟨q, ys, h1, h2, h3, h4, h4', h5⟩ := markIntA2S_l xs.length 0 m xs (by omega) (by omega) (by omega)
  exact ⟨q, ys, h4, by omega, h1⟩
theorem markIntA2S_from1 (xs : List S71) (h : xs.length ≤ 1048576) : ∃ (q : Nat) (ys : List S71), 1 ≤ q ∧ q ≤ 1 + 4194304 ∧ Ev (fun k => laws_markIntA2S.f k xs 1) ((q : Int), ys) := markIntA2S_from xs h 1 (by omega)

theorem eqIntS_l (xs : List Int) (hn : xs.length ≤ 4611686018427387904) : ∀ (d i : Nat), i + d = xs.length → Ev (fun k => laws_eqIntS.l0 k xs xs (i : Int)) true := by
  intro d
  induction d with
  | zero =>
    intro i hi
    refine ev_succ ?_
    simp only [laws_eqIntS.l0, if_neg (show ¬ (i : Int) < (xs.length : Int) by omega)]
    exact ev_now _
  | succ d ih =>
    intro i hi
    refine ev_succ ?_
    simp only [laws_eqIntS.l0, if_true, if_pos (show (i : Int) < (xs.length : Int) by omega), if_pos (show (0 : Int) ≤ (i : Int) by omega), wsucc i (by omega)]
    exact ih (i + 1) (by omega)
theorem eqIntS_ev (xs : List Int) (hn : xs.length ≤ 4611686018427387904) : Ev (fun k => laws_eqIntS.f k xs xs) true := by
  unfold laws_eqIntS.f
  simp only [if_true]
  exact eqIntS_l xs hn xs.length 0 (by omega)

theorem rdN (xs : List Int) (i : Nat) (h : i < xs.length) : rd xs (i : Int) = xs[i] := by
  unfold rd
  rw [Int.toNat_natCast, List.getD_eq_getElem?_getD, List.getElem?_eq_getElem h]
  rfl

theorem markIntS_l : ∀ (d i m : Nat) (xs : List Int), i + d = xs.length → m + d ≤ 1152921504606846976 → xs.length ≤ 1152921504606846976 →
    ∃ (q : Nat) (ys : List Int), Ev (fun k => laws_markIntS.l0 k xs (m : Int) (i : Int)) ((q : Int), ys) ∧ ys.length = xs.length ∧ ys.take i = xs.take i ∧ m ≤ q ∧ q ≤ m + d ∧ Ev (fun k => laws_heldIntS.l0 k ys (m : Int) (i : Int)) (q : Int) := by
  intro d
  induction d with
  | zero =>
    intro i m xs hi hmd hxl
    refine ⟨m, xs, ev_succ ?_, rfl, rfl, Nat.le_refl _, by omega, ev_succ ?_⟩
    · simp only [laws_markIntS.l0, if_neg (show ¬ (i : Int) < (xs.length : Int) by omega)]
      exact ev_now _
    · simp only [laws_heldIntS.l0, if_neg (show ¬ (i : Int) < (xs.length : Int) by omega)]
      exact ev_now _
  | succ d ih =>
    intro i m xs hi hmd hxl
    obtain ⟨q, ys, h1, h2, h3, h4, h4', h5⟩ := ih (i + 1) (m + 1) (xs.set i (m : Int)) (by rw [List.length_set]; omega) (by omega) (by rw [List.length_set]; omega)
    rw [List.length_set] at h2
    rw [take_set_succ xs i _ (by omega)] at h3
    have hy : ys[i]'(by omega) = (m : Int) := by
      have := congrArg (fun l => l[i]?) h3
      simp only [List.getElem?_take, if_pos (show i < i + 1 by omega)] at this
      rw [List.getElem?_append_right (by simp; omega), List.getElem?_eq_getElem (by omega)] at this
      simpa [Nat.min_eq_left (show i ≤ xs.length by omega)] using this
    have hx : i < xs.length := by omega
    refine ⟨q, ys, ev_succ ?_, h2, ?_, by omega, by omega, ev_succ ?_⟩
    · simp only [laws_markIntS.l0, if_pos (show (i : Int) < (xs.length : Int) by omega), if_pos (show (0 : Int) ≤ (i : Int) by omega), Int.toNat_natCast, wsucc m (by omega), wsucc i (by omega)]
      exact h1
    · have := congrArg (fun l => l.take i) h3
      simp only [List.take_take, Nat.min_eq_left (show i ≤ i + 1 by omega)] at this
      rw [this, List.take_append_of_le_length (by simp; omega), List.take_take, Nat.min_self]
    · simp only [laws_heldIntS.l0, if_pos (show (i : Int) < (ys.length : Int) by omega), if_pos (show (0 : Int) ≤ (i : Int) by omega), rdN ys i (by omega), hy, if_true, wsucc m (by omega), wsucc i (by omega)]
      exact h5
theorem markIntS_ev (xs : List Int) (h : xs.length ≤ 1048576) : ∃ (q : Nat) (ys : List Int), 1 ≤ q ∧ Ev (fun k => laws_markIntS.f k xs 1) ((q : Int), ys) ∧ Ev (fun k => laws_heldIntS.f k ys 1) (q : Int) := by
  obtain ⟨q, ys, h1, h2, h3, h4, h4', h5⟩ := markIntS_l xs.length 0 1 xs (by omega) (by omega) (by omega)
  exact ⟨q, ys, h4, h1, h5⟩

theorem within_eq (a b c : Int) : impl_within.f a b c = some (decide (b ≤ a) && decide (a ≤ c)) := by
  unfold impl_within.f
  by_cases h : b ≤ a
  · rw [if_pos h]; simp [h]
  · rw [if_neg h]; simp [h]

/-- A job's numbers are in their bounds. -/
def okJ (x : S79) : Bool := decide (1 ≤ x.f0) && (decide (x.f0 ≤ 50) && (decide (0 ≤ x.f1) && (decide (x.f1 ≤ 50) && (decide (0 ≤ x.f2) && (decide (x.f2 ≤ 500) && (decide (0 ≤ x.f3) && decide (x.f3 ≤ 500)))))))
def goodB (l : List S79) : Bool := decide (l.length ≤ 8) && l.all okJ
theorem isDate_eq (a : Int) : impl_isDate.f a = some (decide (0 ≤ a) && decide (a ≤ 500)) := by
  unfold impl_isDate.f
  rw [within_eq]
  rfl
theorem job_chain (x : S79) (o : Option Bool) : (if (decide (1 ≤ x.f0) && decide (x.f0 ≤ 50)) = true then (if (decide (0 ≤ x.f1) && decide (x.f1 ≤ 50)) = true then (if (decide (0 ≤ x.f2) && decide (x.f2 ≤ 500)) = true then (if (decide (0 ≤ x.f3) && decide (x.f3 ≤ 500)) = true then o else some false) else some false) else some false) else some false) = if okJ x = true then o else some false := by
  unfold okJ
  by_cases a1 : 1 ≤ x.f0 <;> by_cases a2 : x.f0 ≤ 50 <;> simp [a1, a2]
  by_cases b1 : 0 ≤ x.f1 <;> by_cases b2 : x.f1 ≤ 50 <;> simp [b1, b2]
  by_cases c1 : 0 ≤ x.f2 <;> by_cases c2 : x.f2 ≤ 500 <;> simp [c1, c2]
theorem IsJobs_l (xs : List S79) (hn : xs.length ≤ 4611686018427387904) : ∀ (d i : Nat), i + d = xs.length → Ev (fun k => impl_IsJobs.l0 k xs (xs.length : Int) (i : Int)) ((xs.drop i).all okJ) := by
  intro d
  induction d with
  | zero =>
    intro i hi
    refine ev_succ ?_
    simp only [impl_IsJobs.l0, if_neg (show ¬ (i : Int) < (xs.length : Int) by omega), List.drop_of_length_le (show xs.length ≤ i by omega)]
    exact ev_now _
  | succ d ih =>
    intro i hi
    refine ev_succ ?_
    have hx : i < xs.length := by omega
    have hih := ih (i + 1) (by omega)
    rw [List.drop_eq_getElem_cons hx, List.all_cons]
    simp only [impl_IsJobs.l0, within_eq, isDate_eq, Option.bind_some, if_pos (show (i : Int) < (xs.length : Int) by omega), if_pos (show (0 : Int) ≤ (i : Int) by omega), wsucc i (by omega), rdI xs i hx]
    generalize xs[i] = x at *
    simp only [job_chain]
    by_cases c : okJ x = true
    · simpa only [c, if_true, Bool.true_and] using hih
    · have c' : okJ x = false := by simpa using c
      simp only [c', Bool.false_and]
      exact ev_now _
theorem IsJobs_ev (xs : List S79) (hn : xs.length ≤ 4611686018427387904) : Ev (fun k => impl_IsJobs.f k xs) (goodB xs) := by
  unfold impl_IsJobs.f goodB
  by_cases h : xs.length ≤ 8
  · simp only [if_neg (show ¬ ((xs.length : Int) > 8) by omega), decide_eq_true h, Bool.true_and]
    exact IsJobs_l xs hn xs.length 0 (by omega)
  · simp only [if_pos (show ((xs.length : Int) > 8) by omega), decide_eq_false h, Bool.false_and]
    exact ev_now _

theorem l1In_eq (a b c : Int) : spec_l1In.f a b c = some (decide (b ≤ a) && decide (a ≤ c)) := by
  unfold spec_l1In.f
  by_cases h : b ≤ a
  · rw [if_pos h]; simp [h]
  · rw [if_neg h]; simp [h]

theorem l2Job_eq (x : S79) : spec_l2Job.f x.f0 x.f1 x.f2 x.f3 = some (okJ x) := by
  unfold spec_l2Job.f okJ
  simp only [l1In_eq, Option.bind_some]
  by_cases a1 : 1 ≤ x.f0 <;> by_cases a2 : x.f0 ≤ 50 <;> simp [a1, a2]
  by_cases b1 : 0 ≤ x.f1 <;> by_cases b2 : x.f1 ≤ 50 <;> simp [b1, b2]
  by_cases c1 : 0 ≤ x.f2 <;> by_cases c2 : x.f2 ≤ 500 <;> simp [c1, c2]
theorem l2Good_l (xs : List S79) (hn : xs.length ≤ 4611686018427387904) : ∀ (d i : Nat), i + d = xs.length → Ev (fun k => spec_l2Good.l0 k xs (i : Int)) ((xs.drop i).all okJ && decide (xs.length ≤ 8)) := by
  intro d
  induction d with
  | zero =>
    intro i hi
    refine ev_succ ?_
    simp only [spec_l2Good.l0, if_neg (show ¬ (i : Int) < (xs.length : Int) by omega), List.drop_of_length_le (show xs.length ≤ i by omega)]
    refine ev_const ?_
    simp
    omega
  | succ d ih =>
    intro i hi
    refine ev_succ ?_
    have hx : i < xs.length := by omega
    have hih := ih (i + 1) (by omega)
    rw [List.drop_eq_getElem_cons hx, List.all_cons]
    simp only [spec_l2Good.l0, if_pos (show (i : Int) < (xs.length : Int) by omega), if_pos (show (0 : Int) ≤ (i : Int) by omega), wsucc i (by omega), rdI xs i hx, l2Job_eq, Option.bind_some]
    by_cases c : okJ xs[i] = true
    · simpa only [c, if_true, Bool.true_and] using hih
    · have c' : okJ xs[i] = false := by simpa using c
      simp only [c', Bool.false_and]
      exact ev_now _
theorem l2Good_ev (xs : List S79) (hn : xs.length ≤ 4611686018427387904) : Ev (fun k => spec_l2Good.f k xs) (goodB xs) := by
  unfold spec_l2Good.f goodB
  rw [Bool.and_comm]
  exact l2Good_l xs hn xs.length 0 (by omega)

/-- A table of n rows and n columns. -/
def Sq (n : Nat) (t : List (List Bool)) : Prop := t.length = n ∧ ∀ r ∈ t, r.length = n
theorem Sq.row {n : Nat} {t : List (List Bool)} (h : Sq n t) (i : Nat) (hi : i < n) : (t[i]'(by rw [h.1]; exact hi)).length = n := h.2 _ (List.getElem_mem _)
def tb (t : List (List Bool)) (i j : Nat) : Bool := (t.getD i []).getD j false
theorem tb_eq (t : List (List Bool)) (i j : Nat) (hi : i < t.length) (hj : j < t[i].length) : tb t i j = t[i][j] := by
  unfold tb
  rw [List.getD_eq_getElem?_getD, List.getD_eq_getElem?_getD, List.getElem?_eq_getElem hi, Option.getD_some, List.getElem?_eq_getElem hj, Option.getD_some]
def putT (t : List (List Bool)) (i j : Nat) (b : Bool) : List (List Bool) := t.set i ((t.getD i []).set j b)
theorem Sq.put {n : Nat} {t : List (List Bool)} (h : Sq n t) (i j : Nat) (hi : i < n) (b : Bool) : Sq n (putT t i j b) := by
  refine ⟨by unfold putT; rw [List.length_set]; exact h.1, fun r hr => ?_⟩
  unfold putT at hr
  rcases List.mem_or_eq_of_mem_set hr with hr | rfl
  · exact h.2 r hr
  · rw [List.length_set, List.getD_eq_getElem?_getD, List.getElem?_eq_getElem (by rw [h.1]; exact hi), Option.getD_some]
    exact h.row i hi
theorem rdBB (t : List (List Bool)) (i : Nat) (h : i < t.length) : rd_L5 t (i : Int) = t[i] := by
  unfold rd_L5
  rw [Int.toNat_natCast, List.getD_eq_getElem?_getD, List.getElem?_eq_getElem h]
  rfl
theorem rdB (r : List Bool) (i : Nat) (h : i < r.length) : rdOf false r (i : Int) = r[i] := by
  unfold rdOf
  rw [Int.toNat_natCast, List.getD_eq_getElem?_getD, List.getElem?_eq_getElem h]
  rfl
theorem rdTB (t : List (List Bool)) (i : Nat) (h : i < t.length) : (rd_L5 t (i : Int)) = t.getD i [] := by
  rw [rdBB t i h, List.getD_eq_getElem?_getD, List.getElem?_eq_getElem h]; rfl
theorem rdTT {n : Nat} {t : List (List Bool)} (h : Sq n t) (i j : Nat) (hi : i < n) (hj : j < n) : rdOf false (rd_L5 t (i : Int)) (j : Int) = tb t i j := by
  have h1 : i < t.length := by rw [h.1]; exact hi
  have h2 := h.row i hi
  rw [rdBB t i h1, rdB _ j (by rw [h2]; exact hj), tb_eq t i j h1 (by rw [h2]; exact hj)]
theorem put_same {n : Nat} {t : List (List Bool)} (h : Sq n t) (i j : Nat) (hi : i < n) (hj : j < n) : putT t i j (tb t i j) = t := by
  have h1 : i < t.length := by rw [h.1]; exact hi
  have h2 := h.row i hi
  have hg : t.getD i [] = t[i] := by rw [List.getD_eq_getElem?_getD, List.getElem?_eq_getElem h1]; rfl
  unfold putT
  rw [hg, tb_eq t i j h1 (by rw [h2]; exact hj), List.set_getElem_self, List.set_getElem_self]
def stepT (t : List (List Bool)) (k i j : Nat) : List (List Bool) := if (tb t i k && tb t k j) = true then putT t i j true else t
theorem Sq.step {n : Nat} {t : List (List Bool)} (h : Sq n t) (k i j : Nat) (hi : i < n) : Sq n (stepT t k i j) := by
  unfold stepT
  split
  · exact h.put i j hi true
  · exact h
def rowF (t : List (List Bool)) (k i : Nat) (js : List Nat) : List (List Bool) := js.foldl (fun t j => stepT t k i j) t
def midF (n : Nat) (t : List (List Bool)) (k : Nat) (is : List Nat) : List (List Bool) := is.foldl (fun t i => rowF t k i (List.range' 0 n)) t
def outF (n : Nat) (t : List (List Bool)) (ks : List Nat) : List (List Bool) := ks.foldl (fun t k => midF n t k (List.range' 0 n)) t
def edgeF (t : List (List Bool)) (es : List S71) : List (List Bool) := es.foldl (fun t e => putT t e.f0.toNat e.f1.toNat true) t
/-- The table of what comes before what. -/
def closT (n : Nat) (es : List S71) : List (List Bool) := outF n (edgeF (List.replicate n (List.replicate n false)) es) (List.range' 0 n)
def inN (n : Nat) (es : List S71) : Prop := ∀ e ∈ es, 0 ≤ e.f0 ∧ e.f0 < n ∧ 0 ≤ e.f1 ∧ e.f1 < n
theorem Sq.row_fold {n : Nat} {t : List (List Bool)} (h : Sq n t) (k i : Nat) (hi : i < n) (js : List Nat) : Sq n (rowF t k i js) := by
  unfold rowF
  induction js generalizing t with
  | nil => exact h
  | cons j js ih => exact ih (h.step k i j hi)
section
variable {F : Nat → List (List Bool) → Nat → Nat → Nat → Option (List (List Bool))}
end
theorem spec_l4 (n : Nat) (hn : n ≤ 8) (kk i : Nat) (hk : kk < n) (hi : i < n) (R : List (List Bool) → List (List Bool))
    (hnext : ∀ t, Sq n t → Ev (fun k => spec_l4Table.l3 k (n : Int) t (kk : Int) ((i + 1 : Nat) : Int)) (R t)) :
    ∀ (d j : Nat) (t : List (List Bool)), j + d = n → Sq n t → Ev (fun k => spec_l4Table.l4 k (n : Int) t (kk : Int) (i : Int) (j : Int)) (R (rowF t kk i (List.range' j d))) := by
  intro d
  induction d with
  | zero =>
    intro j t hj ht
    refine ev_succ ?_
    simp only [spec_l4Table.l4, if_neg (show ¬ (j : Int) < (n : Int) by omega), wsucc i (by omega)]
    exact hnext t ht
  | succ d ih =>
    intro j t hj ht
    refine ev_succ ?_
    have hl := ht.1
    have hri : (rd_L5 t (i : Int)).length = n := by rw [rdBB t i (by omega)]; exact ht.row i hi
    have hrk : (rd_L5 t (kk : Int)).length = n := by rw [rdBB t kk (by omega)]; exact ht.row kk hk
    have h := ih (j + 1) (stepT t kk i j) (by omega) (ht.step kk i j hi)
    rw [List.range'_succ]
    simp only [rowF, List.foldl_cons]
    simp only [rowF] at h
    simp only [spec_l4Table.l4, if_pos (show (j : Int) < (n : Int) by omega), if_pos (show (0 : Int) ≤ (i : Int) by omega), if_pos (show (i : Int) < (t.length : Int) by omega), if_pos (show (0 : Int) ≤ (kk : Int) by omega), if_pos (show (kk : Int) < ((rd_L5 t (i : Int)).length : Int) by omega), if_pos (show (kk : Int) < (t.length : Int) by omega), if_pos (show (0 : Int) ≤ (j : Int) by omega), if_pos (show (j : Int) < ((rd_L5 t (kk : Int)).length : Int) by omega), if_pos (show (j : Int) < ((rd_L5 t (i : Int)).length : Int) by omega), rdTT ht i kk hi hk, rdTT ht kk j hk (by omega), wsucc j (by omega), Int.toNat_natCast]
    by_cases c1 : tb t i kk = true
    · by_cases c2 : tb t kk j = true
      · simp only [if_pos c1, if_pos c2]
        have hs : stepT t kk i j = putT t i j true := by unfold stepT; rw [if_pos (by rw [c1, c2]; rfl)]
        rw [hs] at h ⊢
        rw [rdTB t i (by omega)]
        exact h
      · simp only [if_pos c1, if_neg c2]
        have hs : stepT t kk i j = t := by unfold stepT; rw [if_neg (by rw [c1]; simpa using c2)]
        rw [hs] at h ⊢
        exact h
    · simp only [if_neg c1]
      have hs : stepT t kk i j = t := by unfold stepT; rw [if_neg (by simp only [Bool.and_eq_true]; exact fun x => c1 x.1)]
      rw [hs] at h ⊢
      exact h
theorem spec_l3 (n : Nat) (hn : n ≤ 8) (kk : Nat) (hk : kk < n) (R : List (List Bool) → List (List Bool))
    (hnext : ∀ t, Sq n t → Ev (fun k => spec_l4Table.l2 k (n : Int) t ((kk + 1 : Nat) : Int)) (R t)) :
    ∀ (d i : Nat) (t : List (List Bool)), i + d = n → Sq n t → Ev (fun k => spec_l4Table.l3 k (n : Int) t (kk : Int) (i : Int)) (R (midF n t kk (List.range' i d))) := by
  intro d
  induction d with
  | zero =>
    intro i t hi ht
    refine ev_succ ?_
    simp only [spec_l4Table.l3, if_neg (show ¬ (i : Int) < (n : Int) by omega), wsucc kk (by omega)]
    exact hnext t ht
  | succ d ih =>
    intro i t hi ht
    refine ev_succ ?_
    rw [List.range'_succ]
    simp only [midF, List.foldl_cons, spec_l4Table.l3, if_pos (show (i : Int) < (n : Int) by omega)]
    exact spec_l4 n hn kk i hk (by omega) (fun t => R (midF n t kk (List.range' (i + 1) d))) (fun t ht => ih (i + 1) t (by omega) ht) n 0 t (by omega) ht
theorem mid_sq {n : Nat} {t : List (List Bool)} (h : Sq n t) (k : Nat) : ∀ is : List Nat, (∀ i ∈ is, i < n) → Sq n (midF n t k is) := by
  intro is
  unfold midF
  induction is generalizing t with
  | nil => intro _; exact h
  | cons i is ih => intro hi; exact ih (h.row_fold k i (hi i (by simp)) _) (fun x hx => hi x (by simp [hx]))
theorem spec_l2 (n : Nat) (hn : n ≤ 8) : ∀ (d kk : Nat) (t : List (List Bool)), kk + d = n → Sq n t → Ev (fun k => spec_l4Table.l2 k (n : Int) t (kk : Int)) (outF n t (List.range' kk d)) := by
  intro d
  induction d with
  | zero =>
    intro kk t hk ht
    refine ev_succ ?_
    simp only [spec_l4Table.l2, if_neg (show ¬ (kk : Int) < (n : Int) by omega)]
    exact ev_now _
  | succ d ih =>
    intro kk t hk ht
    refine ev_succ ?_
    rw [List.range'_succ]
    simp only [outF, List.foldl_cons, spec_l4Table.l2, if_pos (show (kk : Int) < (n : Int) by omega)]
    exact spec_l3 n hn kk (by omega) (fun t => outF n t (List.range' (kk + 1) d)) (fun t ht => ih (kk + 1) t (by omega) ht) n 0 t (by omega) ht
theorem edge_sq {n : Nat} {t : List (List Bool)} (h : Sq n t) : ∀ es : List S71, inN n es → Sq n (edgeF t es) := by
  intro es
  unfold edgeF
  induction es generalizing t with
  | nil => intro _; exact h
  | cons e es ih =>
    intro he
    have := he e (by simp)
    exact ih (h.put _ _ (by omega) true) (fun x hx => he x (by simp [hx]))
theorem spec_l1 (n : Nat) (hn : n ≤ 8) (es : List S71) (hes : es.length ≤ 1048576) (hin : inN n es) : ∀ (d i : Nat) (t : List (List Bool)), i + d = es.length → Sq n t → Ev (fun k => spec_l4Table.l1 k (n : Int) es t (i : Int)) (outF n (edgeF t (es.drop i)) (List.range' 0 n)) := by
  intro d
  induction d with
  | zero =>
    intro i t hi ht
    refine ev_succ ?_
    simp only [spec_l4Table.l1, if_neg (show ¬ (i : Int) < (es.length : Int) by omega), List.drop_of_length_le (show es.length ≤ i by omega)]
    exact spec_l2 n hn n 0 t (by omega) ht
  | succ d ih =>
    intro i t hi ht
    refine ev_succ ?_
    have hx : i < es.length := by omega
    have hl := ht.1
    have he := hin es[i] (List.getElem_mem hx)
    obtain ⟨a, ha⟩ := Int.eq_ofNat_of_zero_le he.1
    obtain ⟨b, hb⟩ := Int.eq_ofNat_of_zero_le he.2.2.1
    have hr : (rd_L5 t (a : Int)).length = n := by rw [rdBB t a (by omega)]; exact ht.row a (by omega)
    have h := ih (i + 1) (putT t a b true) (by omega) (ht.put a b (by omega) true)
    rw [List.drop_eq_getElem_cons hx]
    simp only [edgeF, List.foldl_cons, ha, hb, Int.toNat_natCast]
    simp only [edgeF] at h
    simp only [spec_l4Table.l1, if_pos (show (i : Int) < (es.length : Int) by omega), if_pos (show (0 : Int) ≤ (i : Int) by omega), rdA2 es i hx, ha, hb, if_pos (show (0 : Int) ≤ (a : Int) by omega), if_pos (show (a : Int) < (t.length : Int) by omega), if_pos (show (0 : Int) ≤ (b : Int) by omega), if_pos (show (b : Int) < ((rd_L5 t (a : Int)).length : Int) by omega), wsucc i (by omega), Int.toNat_natCast]
    rw [rdTB t a (by omega)]
    exact h
theorem spec_l0 (n : Nat) (hn : n ≤ 8) (es : List S71) (hes : es.length ≤ 1048576) (hin : inN n es) : ∀ (d i : Nat) (t : List (List Bool)), i + d = n → t = List.replicate i (List.replicate n false) → Ev (fun k => spec_l4Table.l0 k (n : Int) es t (i : Int)) (closT n es) := by
  intro d
  induction d with
  | zero =>
    intro i t hi ht
    refine ev_succ ?_
    have hin' : i = n := by omega
    subst hin'
    simp only [spec_l4Table.l0, if_neg (show ¬ (i : Int) < (i : Int) by omega)]
    have := spec_l1 i hn es hes hin es.length 0 t (by omega) (by rw [ht]; exact ⟨by simp, fun r hr => by rw [List.eq_of_mem_replicate hr]; simp⟩)
    rw [List.drop_zero, ht] at this
    rw [ht]
    exact this
  | succ d ih =>
    intro i t hi ht
    refine ev_succ ?_
    have hl : t.length = i := by rw [ht]; simp
    simp only [spec_l4Table.l0, if_pos (show (i : Int) < (n : Int) by omega), if_pos (show (0 : Int) ≤ (n : Int) by omega), Int.toNat_natCast, if_pos (show n ≤ 281474976710656 by omega), if_pos (show t.length < 5864062014805 by omega), wsucc i (by omega)]
    exact ih (i + 1) _ (by omega) (by rw [ht, List.replicate_succ'])
theorem l4Table_ev (n : Nat) (hn : n ≤ 8) (es : List S71) (hes : es.length ≤ 1048576) (hin : inN n es) : Ev (fun k => spec_l4Table.f k (n : Int) es) (closT n es) := by
  unfold spec_l4Table.f
  exact spec_l0 n hn es hes hin n 0 [] (by omega) (by simp)
theorem impl_l4 (n : Nat) (hn : n ≤ 8) (kk i : Nat) (hk : kk < n) (hi : i < n) (R : List (List Bool) → List (List Bool))
    (hnext : ∀ t, Sq n t → Ev (fun k => impl_closure.l3 k (n : Int) t (kk : Int) ((i + 1 : Nat) : Int)) (R t)) :
    ∀ (d j : Nat) (t : List (List Bool)), j + d = n → Sq n t → Ev (fun k => impl_closure.l4 k (n : Int) t (kk : Int) (i : Int) (j : Int)) (R (rowF t kk i (List.range' j d))) := by
  intro d
  induction d with
  | zero =>
    intro j t hj ht
    refine ev_succ ?_
    simp only [impl_closure.l4, if_neg (show ¬ (j : Int) < (n : Int) by omega), wsucc i (by omega)]
    exact hnext t ht
  | succ d ih =>
    intro j t hj ht
    refine ev_succ ?_
    have hl := ht.1
    have hri : (rd_L5 t (i : Int)).length = n := by rw [rdBB t i (by omega)]; exact ht.row i hi
    have hrk : (rd_L5 t (kk : Int)).length = n := by rw [rdBB t kk (by omega)]; exact ht.row kk hk
    have h := ih (j + 1) (stepT t kk i j) (by omega) (ht.step kk i j hi)
    rw [List.range'_succ]
    simp only [rowF, List.foldl_cons]
    simp only [rowF] at h
    simp only [impl_closure.l4, if_pos (show (j : Int) < (n : Int) by omega), if_pos (show (0 : Int) ≤ (i : Int) by omega), if_pos (show (i : Int) < (t.length : Int) by omega), if_pos (show (0 : Int) ≤ (kk : Int) by omega), if_pos (show (kk : Int) < ((rd_L5 t (i : Int)).length : Int) by omega), if_pos (show (kk : Int) < (t.length : Int) by omega), if_pos (show (0 : Int) ≤ (j : Int) by omega), if_pos (show (j : Int) < ((rd_L5 t (kk : Int)).length : Int) by omega), if_pos (show (j : Int) < ((rd_L5 t (i : Int)).length : Int) by omega), rdTT ht i kk hi hk, rdTT ht kk j hk (by omega), rdTT ht i j hi (by omega), wsucc j (by omega), Int.toNat_natCast]
    have hput : ∀ b, t.set i ((rd_L5 t (i : Int)).set j b) = putT t i j b := fun b => by rw [rdTB t i (by omega)]; rfl
    have hsame := put_same ht i j hi (show j < n by omega)
    by_cases c0 : tb t i j = true
    · simp only [if_pos c0, hput]
      have hs : stepT t kk i j = t := by
        unfold stepT
        split
        · rw [c0] at hsame; exact hsame
        · rfl
      rw [hs] at h ⊢
      rw [c0] at hsame
      rw [hsame]
      exact h
    · have c0' : tb t i j = false := by simpa using c0
      rw [c0'] at hsame
      by_cases c1 : tb t i kk = true
      · simp only [if_neg c0, if_pos c1, hput]
        by_cases c2 : tb t kk j = true
        · have hs : stepT t kk i j = putT t i j true := by unfold stepT; rw [if_pos (by rw [c1, c2]; rfl)]
          rw [hs] at h ⊢
          rw [c2]
          exact h
        · have c2' : tb t kk j = false := by simpa using c2
          have hs : stepT t kk i j = t := by unfold stepT; rw [if_neg (by rw [c1]; simpa using c2)]
          rw [hs] at h ⊢
          rw [c2', hsame]
          exact h
      · simp only [if_neg c0, if_neg c1, hput]
        have hs : stepT t kk i j = t := by unfold stepT; rw [if_neg (by simp only [Bool.and_eq_true]; exact fun x => c1 x.1)]
        rw [hs] at h ⊢
        rw [hsame]
        exact h
theorem impl_l3 (n : Nat) (hn : n ≤ 8) (kk : Nat) (hk : kk < n) (R : List (List Bool) → List (List Bool))
    (hnext : ∀ t, Sq n t → Ev (fun k => impl_closure.l2 k (n : Int) t ((kk + 1 : Nat) : Int)) (R t)) :
    ∀ (d i : Nat) (t : List (List Bool)), i + d = n → Sq n t → Ev (fun k => impl_closure.l3 k (n : Int) t (kk : Int) (i : Int)) (R (midF n t kk (List.range' i d))) := by
  intro d
  induction d with
  | zero =>
    intro i t hi ht
    refine ev_succ ?_
    simp only [impl_closure.l3, if_neg (show ¬ (i : Int) < (n : Int) by omega), wsucc kk (by omega)]
    exact hnext t ht
  | succ d ih =>
    intro i t hi ht
    refine ev_succ ?_
    rw [List.range'_succ]
    simp only [midF, List.foldl_cons, impl_closure.l3, if_pos (show (i : Int) < (n : Int) by omega)]
    exact impl_l4 n hn kk i hk (by omega) (fun t => R (midF n t kk (List.range' (i + 1) d))) (fun t ht => ih (i + 1) t (by omega) ht) n 0 t (by omega) ht
theorem impl_l2 (n : Nat) (hn : n ≤ 8) : ∀ (d kk : Nat) (t : List (List Bool)), kk + d = n → Sq n t → Ev (fun k => impl_closure.l2 k (n : Int) t (kk : Int)) (outF n t (List.range' kk d)) := by
  intro d
  induction d with
  | zero =>
    intro kk t hk ht
    refine ev_succ ?_
    simp only [impl_closure.l2, if_neg (show ¬ (kk : Int) < (n : Int) by omega)]
    exact ev_now _
  | succ d ih =>
    intro kk t hk ht
    refine ev_succ ?_
    rw [List.range'_succ]
    simp only [outF, List.foldl_cons, impl_closure.l2, if_pos (show (kk : Int) < (n : Int) by omega)]
    exact impl_l3 n hn kk (by omega) (fun t => outF n t (List.range' (kk + 1) d)) (fun t ht => ih (kk + 1) t (by omega) ht) n 0 t (by omega) ht
theorem impl_l1 (n : Nat) (hn : n ≤ 8) (es : List S71) (hes : es.length ≤ 1048576) (hin : inN n es) : ∀ (d i : Nat) (t : List (List Bool)), i + d = es.length → Sq n t → Ev (fun k => impl_closure.l1 k (n : Int) t es (es.length : Int) (i : Int)) (outF n (edgeF t (es.drop i)) (List.range' 0 n)) := by
  intro d
  induction d with
  | zero =>
    intro i t hi ht
    refine ev_succ ?_
    simp only [impl_closure.l1, if_neg (show ¬ (i : Int) < (es.length : Int) by omega), List.drop_of_length_le (show es.length ≤ i by omega)]
    exact impl_l2 n hn n 0 t (by omega) ht
  | succ d ih =>
    intro i t hi ht
    refine ev_succ ?_
    have hx : i < es.length := by omega
    have hl := ht.1
    have he := hin es[i] (List.getElem_mem hx)
    obtain ⟨a, ha⟩ := Int.eq_ofNat_of_zero_le he.1
    obtain ⟨b, hb⟩ := Int.eq_ofNat_of_zero_le he.2.2.1
    have hr : (rd_L5 t (a : Int)).length = n := by rw [rdBB t a (by omega)]; exact ht.row a (by omega)
    have h := ih (i + 1) (putT t a b true) (by omega) (ht.put a b (by omega) true)
    rw [List.drop_eq_getElem_cons hx]
    simp only [edgeF, List.foldl_cons, ha, hb, Int.toNat_natCast]
    simp only [edgeF] at h
    simp only [impl_closure.l1, if_pos (show (i : Int) < (es.length : Int) by omega), if_pos (show (0 : Int) ≤ (i : Int) by omega), rdA2 es i hx, ha, hb, if_pos (show (0 : Int) ≤ (a : Int) by omega), if_pos (show (a : Int) < (t.length : Int) by omega), if_pos (show (0 : Int) ≤ (b : Int) by omega), if_pos (show (b : Int) < ((rd_L5 t (a : Int)).length : Int) by omega), wsucc i (by omega), Int.toNat_natCast]
    rw [rdTB t a (by omega)]
    exact h
theorem impl_l0 (n : Nat) (hn : n ≤ 8) (es : List S71) (hes : es.length ≤ 1048576) (hin : inN n es) : ∀ (d i : Nat) (t : List (List Bool)), i + d = n → t.length = n → t.take i = List.replicate i (List.replicate n false) → Ev (fun k => impl_closure.l0 k (n : Int) es t (n : Int) (i : Int)) (closT n es) := by
  intro d
  induction d with
  | zero =>
    intro i t hi hl ht
    refine ev_succ ?_
    have hin' : i = n := by omega
    subst hin'
    rw [List.take_of_length_le (by omega)] at ht
    simp only [impl_closure.l0, if_neg (show ¬ (i : Int) < (i : Int) by omega)]
    have := impl_l1 i hn es hes hin es.length 0 t (by omega) (by rw [ht]; exact ⟨by simp, fun r hr => by rw [List.eq_of_mem_replicate hr]; simp⟩)
    rw [List.drop_zero, ht] at this
    rw [ht]
    exact this
  | succ d ih =>
    intro i t hi hl ht
    refine ev_succ ?_
    simp only [impl_closure.l0, if_pos (show (i : Int) < (n : Int) by omega), if_pos (show (0 : Int) ≤ (n : Int) by omega), Int.toNat_natCast, if_pos (show n ≤ 281474976710656 by omega), if_pos (show (0 : Int) ≤ (i : Int) by omega), if_pos (show (i : Int) < (t.length : Int) by omega), wsucc i (by omega)]
    exact ih (i + 1) _ (by omega) (by rw [List.length_set]; exact hl) (by rw [take_set_succ t i _ (by omega), ht, List.replicate_succ'])
theorem closure_ev (n : Nat) (hn : n ≤ 8) (es : List S71) (hes : es.length ≤ 1048576) (hin : inN n es) : Ev (fun k => impl_closure.f k (n : Int) es) (closT n es) := by
  unfold impl_closure.f
  simp only [if_pos (show (0 : Int) ≤ (n : Int) by omega), Int.toNat_natCast, if_pos (show n ≤ 11728124029610 by omega), Option.bind_some, List.length_replicate]
  exact impl_l0 n hn es hes hin n 0 _ (by omega) (by simp) (by simp)
theorem clos_sq (n : Nat) (es : List S71) (hin : inN n es) : Sq n (closT n es) := by
  unfold closT
  have h0 : Sq n (edgeF (List.replicate n (List.replicate n false)) es) := edge_sq ⟨by simp, fun r hr => by rw [List.eq_of_mem_replicate hr]; simp⟩ es hin
  have key : ∀ (ks : List Nat) (t : List (List Bool)), Sq n t → Sq n (outF n t ks) := by
    intro ks
    unfold outF
    induction ks with
    | nil => intro t h; exact h
    | cons k ks ih => intro t h; exact ih _ (mid_sq h k _ (fun i hi => by rw [List.mem_range'_1] at hi; omega))
  exact key _ _ h0

theorem isNumber_eq (i n : Int) (h0 : 0 ≤ n) (h1 : n ≤ 9223372036854775807) : impl_isNumber.f i n = some (decide (0 ≤ i) && decide (i < n)) := by
  unfold impl_isNumber.f
  rw [within_eq, w64 (by omega) (by omega)]
  simp only [Option.bind_some]
  congr 2
  rw [decide_eq_decide]
  omega

def cE (m : Int) (es : List S71) (i : Nat) : Bool :=
  decide (0 ≤ (rd_T71 es (i : Int)).f0) && decide ((rd_T71 es (i : Int)).f0 ≤ m) && (decide (0 ≤ (rd_T71 es (i : Int)).f1) && decide ((rd_T71 es (i : Int)).f1 ≤ m)) && !decide ((rd_T71 es (i : Int)).f0 = (rd_T71 es (i : Int)).f1) &&
  (decide (i = 0) || decide ((rd_T71 es ((i - 1 : Nat) : Int)).f0 < (rd_T71 es (i : Int)).f0) || decide ((rd_T71 es ((i - 1 : Nat) : Int)).f0 = (rd_T71 es (i : Int)).f0) && decide ((rd_T71 es ((i - 1 : Nat) : Int)).f1 < (rd_T71 es (i : Int)).f1))
def pfE (m : Int) (es : List S71) (i : Nat) : Nat → Bool
  | 0 => true
  | d + 1 => cE m es i && pfE m es (i + 1) d
theorem l4Before_eq (a b c d : Int) : spec_l4Before.f a b c d = some (decide (a < c) || decide (a = c) && decide (b < d)) := by
  unfold spec_l4Before.f
  by_cases h : a < c
  · rw [if_pos h]; simp [h]
  · rw [if_neg h]
    by_cases h' : a = c
    · rw [if_pos h']; simp [h, h']
    · rw [if_neg h']; simp [h, h']
theorem wpred (i : Nat) (h0 : 0 < i) (h : i < 4611686018427387904) : wrap64 ((i : Int) - 1) = ((i - 1 : Nat) : Int) := by
  rw [w64 (by omega) (by omega)]; omega
theorem l4Pairs_l (n : Int) (es : List S71) (hes : es.length ≤ 1048576) : ∀ (d i : Nat), i + d = es.length → Ev (fun k => spec_l4Pairs.l0 k n es (i : Int)) (pfE (wrap64 (n - 1)) es i d && ((decide (0 ≤ n) && decide (n ≤ 8)) && decide ((es.length : Int) ≤ 28))) := by
  intro d
  induction d with
  | zero =>
    intro i hi
    refine ev_succ ?_
    simp only [spec_l4Pairs.l0, if_neg (show ¬ (i : Int) < (es.length : Int) by omega), l1In_eq, Option.bind_some, pfE, Bool.true_and]
    cases hb : (decide (0 ≤ n) && decide (n ≤ 8))
    · simp only [Bool.false_eq_true, if_false, Bool.false_and]; exact ev_now _
    · simp only [if_true, Bool.true_and]; exact ev_now _
  | succ d ih =>
    intro i hi
    refine ev_succ ?_
    have h := ih (i + 1) (by omega)
    simp only [spec_l4Pairs.l0, if_pos (show (i : Int) < (es.length : Int) by omega), if_pos (show (0 : Int) ≤ (i : Int) by omega), l1In_eq, l4Before_eq, Option.bind_some, pfE, wsucc i (by omega)]
    unfold cE
    by_cases ha : (decide (0 ≤ (rd_T71 es (i : Int)).f0) && decide ((rd_T71 es (i : Int)).f0 ≤ wrap64 (n - 1))) = true
    · by_cases hb : (decide (0 ≤ (rd_T71 es (i : Int)).f1) && decide ((rd_T71 es (i : Int)).f1 ≤ wrap64 (n - 1))) = true
      · by_cases hc : (rd_T71 es (i : Int)).f0 = (rd_T71 es (i : Int)).f1
        · simp only [ha, hb, if_true, if_pos hc, decide_eq_true hc, Bool.not_true, Bool.and_false, Bool.false_and]; exact ev_now _
        · by_cases h0 : i = 0
          · subst h0
            simp only [ha, hb, if_true, if_neg hc, decide_true, Bool.true_or, Bool.true_and, decide_eq_false hc, Bool.not_false, gt_iff_lt, if_neg (show ¬ ((0 : Int) < ((0 : Nat) : Int)) by omega)]
            exact h
          · simp only [ha, hb, if_true, if_neg hc, if_pos (show (i : Int) > 0 by omega), wpred i (by omega) (by omega), if_pos (show (0 : Int) ≤ ((i - 1 : Nat) : Int) by omega), if_pos (show ((i - 1 : Nat) : Int) < (es.length : Int) by omega), decide_eq_false h0, Bool.false_or, Bool.true_and, decide_eq_false hc, Bool.not_false]
            cases hd : (decide ((rd_T71 es ((i - 1 : Nat) : Int)).f0 < (rd_T71 es (i : Int)).f0) || decide ((rd_T71 es ((i - 1 : Nat) : Int)).f0 = (rd_T71 es (i : Int)).f0) && decide ((rd_T71 es ((i - 1 : Nat) : Int)).f1 < (rd_T71 es (i : Int)).f1))
            · simp only [Bool.false_eq_true, if_false, Bool.false_and]; exact ev_now _
            · simp only [if_true, Bool.true_and]; exact h
      · simp only [ha, if_true, if_neg hb, Bool.not_eq_true .. ▸ hb, Bool.and_false, Bool.false_and]; exact ev_now _
    · simp only [if_neg ha, Bool.not_eq_true .. ▸ ha, Bool.false_and]; exact ev_now _
def okE (n : Int) (es : List S71) : Bool := pfE (wrap64 (n - 1)) es 0 es.length && ((decide (0 ≤ n) && decide (n ≤ 8)) && decide ((es.length : Int) ≤ 28))
theorem l4Pairs_ev (n : Int) (es : List S71) (hes : es.length ≤ 1048576) : Ev (fun k => spec_l4Pairs.f k n es) (okE n es) := by
  unfold spec_l4Pairs.f
  exact l4Pairs_l n es hes es.length 0 (by omega)
theorem pfE_in (n : Nat) (hn : n ≤ 8) (es : List S71) : ∀ (d i : Nat), i + d = es.length → pfE (wrap64 ((n : Int) - 1)) es i d = true → ∀ j, i ≤ j → (hj : j < es.length) → 0 ≤ (es[j]).f0 ∧ (es[j]).f0 < n ∧ 0 ≤ (es[j]).f1 ∧ (es[j]).f1 < n := by
  intro d
  induction d with
  | zero => intro i hi _ j hj hj'; omega
  | succ d ih =>
    intro i hi h j hj hj'
    unfold pfE at h
    rw [Bool.and_eq_true] at h
    by_cases he : j = i
    · subst he
      have h1 := h.1
      unfold cE at h1
      rw [rdA2 es j hj', w64 (by omega) (by omega)] at h1
      simp only [Bool.and_eq_true, decide_eq_true_eq] at h1
      obtain ⟨⟨⟨⟨a1, a2⟩, ⟨a3, a4⟩⟩, _⟩, _⟩ := h1
      exact ⟨a1, by omega, a3, by omega⟩
    · exact ih (i + 1) (by omega) h.2 j (by omega) hj'
theorem okE_in (n : Int) (es : List S71) (h : okE n es = true) : ∃ m : Nat, n = m ∧ m ≤ 8 ∧ es.length ≤ 28 ∧ inN m es := by
  unfold okE at h
  simp only [Bool.and_eq_true, decide_eq_true_eq] at h
  obtain ⟨h1, ⟨h2, h3⟩, h4⟩ := h
  obtain ⟨m, rfl⟩ := Int.eq_ofNat_of_zero_le h2
  refine ⟨m, rfl, by omega, by omega, fun e he => ?_⟩
  obtain ⟨j, hj, rfl⟩ := List.mem_iff_getElem.mp he
  have := pfE_in m (by omega) es es.length 0 (by omega) h1 j (by omega) hj
  omega
/-- No job stands before itself, from the i-th on. -/
def acyF (t : List (List Bool)) (i : Nat) : Nat → Bool
  | 0 => true
  | d + 1 => !tb t i i && acyF t (i + 1) d
def good4 (n : Int) (es : List S71) : Bool := okE n es && acyF (closT n.toNat es) 0 n.toNat
theorem l4Good_l (n : Nat) (hn : n ≤ 8) (t : List (List Bool)) (ht : Sq n t) : ∀ (d i : Nat), i + d = n → Ev (fun k => spec_l4Good.l0 k (n : Int) t (i : Int)) (acyF t i d) := by
  intro d
  induction d with
  | zero =>
    intro i hi
    refine ev_succ ?_
    simp only [spec_l4Good.l0, if_neg (show ¬ (i : Int) < (n : Int) by omega), acyF]
    exact ev_now _
  | succ d ih =>
    intro i hi
    refine ev_succ ?_
    have h := ih (i + 1) (by omega)
    have hl := ht.1
    have hr : (rd_L5 t (i : Int)).length = n := by rw [rdBB t i (by omega)]; exact ht.row i (by omega)
    simp only [spec_l4Good.l0, if_pos (show (i : Int) < (n : Int) by omega), if_pos (show (0 : Int) ≤ (i : Int) by omega), if_pos (show (i : Int) < (t.length : Int) by omega), if_pos (show (i : Int) < ((rd_L5 t (i : Int)).length : Int) by omega), rdTT ht i i (by omega) (by omega), wsucc i (by omega), acyF]
    cases tb t i i
    · simp only [Bool.false_eq_true, if_false, Bool.not_false, Bool.true_and]; exact h
    · simp only [if_true, Bool.not_true, Bool.false_and]; exact ev_now _
theorem l4Good_ev (n : Int) (es : List S71) (hes : es.length ≤ 1048576) : Ev (fun k => spec_l4Good.f k n es) (good4 n es) := by
  unfold spec_l4Good.f good4
  refine ev_bind (l4Pairs_ev n es hes) ?_
  cases hk : okE n es
  · simp only [Bool.false_eq_true, if_false, Bool.false_and]; exact ev_now _
  · obtain ⟨m, rfl, hm, hl, hin⟩ := okE_in n es hk
    simp only [if_true, Bool.true_and, Int.toNat_natCast]
    exact ev_bind (l4Table_ev m hm es hes hin) (l4Good_l m hm _ (clos_sq m es hin) m 0 (by omega))
theorem isPrec_l1 (n : Nat) (hn : n ≤ 8) (t : List (List Bool)) (ht : Sq n t) : ∀ (d i : Nat), i + d = n → Ev (fun k => impl_IsPrecedence.l1 k t (n : Int) (i : Int)) (acyF t i d) := by
  intro d
  induction d with
  | zero =>
    intro i hi
    refine ev_succ ?_
    simp only [impl_IsPrecedence.l1, if_neg (show ¬ (i : Int) < (n : Int) by omega), acyF]
    exact ev_now _
  | succ d ih =>
    intro i hi
    refine ev_succ ?_
    have h := ih (i + 1) (by omega)
    have hl := ht.1
    have hr : (rd_L5 t (i : Int)).length = n := by rw [rdBB t i (by omega)]; exact ht.row i (by omega)
    simp only [impl_IsPrecedence.l1, if_pos (show (i : Int) < (n : Int) by omega), if_pos (show (0 : Int) ≤ (i : Int) by omega), if_pos (show (i : Int) < (t.length : Int) by omega), if_pos (show (i : Int) < ((rd_L5 t (i : Int)).length : Int) by omega), rdTT ht i i (by omega) (by omega), wsucc i (by omega), acyF]
    cases tb t i i
    · simp only [Bool.false_eq_true, if_false, Bool.not_false, Bool.true_and]; exact h
    · simp only [if_true, Bool.not_true, Bool.false_and]; exact ev_now _
theorem isPrec_l0 (n : Nat) (hn : n ≤ 8) (es : List S71) (hes : es.length ≤ 28) (hG : pfE (wrap64 ((n : Int) - 1)) es 0 es.length = true → inN n es) :
    ∀ (d i : Nat), i + d = es.length → (pfE (wrap64 ((n : Int) - 1)) es i d = true → pfE (wrap64 ((n : Int) - 1)) es 0 es.length = true) → Ev (fun k => impl_IsPrecedence.l0 k (n : Int) es es (es.length : Int) (i : Int)) (pfE (wrap64 ((n : Int) - 1)) es i d && acyF (closT n es) 0 n) := by
  intro d
  induction d with
  | zero =>
    intro i hi hp
    have hin := hG (hp rfl)
    have hl := (clos_sq n es hin).1
    refine ev_succ ?_
    simp only [impl_IsPrecedence.l0, if_neg (show ¬ (i : Int) < (es.length : Int) by omega), pfE, Bool.true_and]
    refine ev_bind (closure_ev n hn es (by omega) hin) ?_
    rw [hl]
    exact isPrec_l1 n hn _ (clos_sq n es hin) n 0 (by omega)
  | succ d ih =>
    intro i hi hp
    refine ev_succ ?_
    have hm : wrap64 ((n : Int) - 1) = (n : Int) - 1 := w64 (by omega) (by omega)
    have e1 : ∀ x : Int, decide (x ≤ (n : Int) - 1) = decide (x < (n : Int)) := fun x => by rw [decide_eq_decide]; omega
    have h := fun (hq : cE (wrap64 ((n : Int) - 1)) es i = true) => ih (i + 1) (by omega) (fun x => hp (by rw [pfE, hq, x]; rfl))
    simp only [impl_IsPrecedence.l0, if_pos (show (i : Int) < (es.length : Int) by omega), if_pos (show (0 : Int) ≤ (i : Int) by omega), isNumber_eq _ (n : Int) (by omega) (by omega), Option.bind_some, pfE]
    have hcE : cE (wrap64 ((n : Int) - 1)) es i = (decide (0 ≤ (rd_T71 es (i : Int)).f0) && decide ((rd_T71 es (i : Int)).f0 < (n : Int)) && (decide (0 ≤ (rd_T71 es (i : Int)).f1) && decide ((rd_T71 es (i : Int)).f1 < (n : Int))) && !decide ((rd_T71 es (i : Int)).f0 = (rd_T71 es (i : Int)).f1) &&
        (decide (i = 0) || decide ((rd_T71 es ((i - 1 : Nat) : Int)).f0 < (rd_T71 es (i : Int)).f0) || decide ((rd_T71 es ((i - 1 : Nat) : Int)).f0 = (rd_T71 es (i : Int)).f0) && decide ((rd_T71 es ((i - 1 : Nat) : Int)).f1 < (rd_T71 es (i : Int)).f1))) := by
      unfold cE; rw [hm, e1, e1]
    by_cases ha : (decide (0 ≤ (rd_T71 es (i : Int)).f0) && decide ((rd_T71 es (i : Int)).f0 < (n : Int))) = true
    · by_cases hb : (decide (0 ≤ (rd_T71 es (i : Int)).f1) && decide ((rd_T71 es (i : Int)).f1 < (n : Int))) = true
      · simp only [ha, hb, if_true]
        refine ev_succ ?_
        rw [ha, hb] at hcE
        by_cases hc : (rd_T71 es (i : Int)).f0 = (rd_T71 es (i : Int)).f1
        · rw [hcE]
          simp only [impl_IsPrecedence.j2, hc, beq_self_eq_true, if_true, decide_true, Bool.not_true, Bool.and_false, Bool.false_and]; exact ev_now _
        · by_cases h0 : i = 0
          · have hc' : cE (wrap64 ((n : Int) - 1)) es i = true := by rw [hcE]; simp only [decide_eq_false hc, decide_eq_true h0]; rfl
            have h := h hc'
            rw [hc']
            subst h0
            simp only [impl_IsPrecedence.j2, beq_eq_false_iff_ne.mpr hc, Bool.false_eq_true, if_false, gt_iff_lt, if_neg (show ¬ ((0 : Int) < ((0 : Nat) : Int)) by omega), wsucc 0 (by omega), Bool.true_and]
            exact h
          · simp only [impl_IsPrecedence.j2, beq_eq_false_iff_ne.mpr hc, Bool.false_eq_true, if_false, gt_iff_lt, ge_iff_le, if_pos (show (0 : Int) < (i : Int) by omega), wpred i (by omega) (by omega), if_pos (show (0 : Int) ≤ ((i - 1 : Nat) : Int) by omega), if_pos (show ((i - 1 : Nat) : Int) < (es.length : Int) by omega), wsucc i (by omega)]
            by_cases g1 : (rd_T71 es (i : Int)).f0 < (rd_T71 es ((i - 1 : Nat) : Int)).f0
            · have hc' : cE (wrap64 ((n : Int) - 1)) es i = false := by rw [hcE]; simp only [decide_eq_false h0, decide_eq_false (show ¬ (rd_T71 es ((i - 1 : Nat) : Int)).f0 < (rd_T71 es (i : Int)).f0 by omega), decide_eq_false (show ¬ (rd_T71 es ((i - 1 : Nat) : Int)).f0 = (rd_T71 es (i : Int)).f0 by omega), Bool.false_and, Bool.false_or, Bool.or_false, Bool.and_false]
              simp only [if_pos g1, hc', Bool.false_and]; exact ev_now _
            · simp only [if_neg g1]
              by_cases g2 : (rd_T71 es ((i - 1 : Nat) : Int)).f0 = (rd_T71 es (i : Int)).f0
              · simp only [if_pos g2]
                by_cases g3 : (rd_T71 es (i : Int)).f1 ≤ (rd_T71 es ((i - 1 : Nat) : Int)).f1
                · have hc' : cE (wrap64 ((n : Int) - 1)) es i = false := by rw [hcE]; simp only [decide_eq_false h0, decide_eq_false (show ¬ (rd_T71 es ((i - 1 : Nat) : Int)).f0 < (rd_T71 es (i : Int)).f0 by omega), decide_eq_false (show ¬ (rd_T71 es ((i - 1 : Nat) : Int)).f1 < (rd_T71 es (i : Int)).f1 by omega), Bool.and_false, Bool.false_or, Bool.or_false]
                  simp only [if_pos g3, hc', Bool.false_and]; exact ev_now _
                · have hc' : cE (wrap64 ((n : Int) - 1)) es i = true := by rw [hcE]; simp only [decide_eq_false hc, decide_eq_true g2, decide_eq_true (show (rd_T71 es ((i - 1 : Nat) : Int)).f1 < (rd_T71 es (i : Int)).f1 by omega), Bool.and_true, Bool.or_true, Bool.not_false]
                  simp only [if_neg g3, hc', Bool.true_and]; exact h hc'
              · have hc' : cE (wrap64 ((n : Int) - 1)) es i = true := by rw [hcE]; simp only [decide_eq_false hc, decide_eq_true (show (rd_T71 es ((i - 1 : Nat) : Int)).f0 < (rd_T71 es (i : Int)).f0 by omega), Bool.and_true, Bool.or_true, Bool.true_or, Bool.not_false]
                simp only [if_neg g2, hc', Bool.true_and]; exact h hc'
      · have hb' : (decide (0 ≤ (rd_T71 es (i : Int)).f1) && decide ((rd_T71 es (i : Int)).f1 < (n : Int))) = false := by simpa using hb
        have hc' : cE (wrap64 ((n : Int) - 1)) es i = false := by rw [hcE, hb', Bool.and_false, Bool.false_and, Bool.false_and]
        simp only [ha, if_true, if_neg hb, hc', Bool.false_and]
        refine ev_succ ?_
        simp only [impl_IsPrecedence.j2, if_true]; exact ev_now _
    · have ha' : (decide (0 ≤ (rd_T71 es (i : Int)).f0) && decide ((rd_T71 es (i : Int)).f0 < (n : Int))) = false := by simpa using ha
      have hc' : cE (wrap64 ((n : Int) - 1)) es i = false := by rw [hcE, ha', Bool.false_and, Bool.false_and, Bool.false_and]
      simp only [if_neg ha, hc', Bool.false_and]
      refine ev_succ ?_
      simp only [impl_IsPrecedence.j2, if_true]; exact ev_now _
theorem isPrec_ev (n : Int) (es : List S71) : Ev (fun k => impl_IsPrecedence.f k n es) (good4 n es) := by
  unfold impl_IsPrecedence.f
  simp only [within_eq, Option.bind_some]
  by_cases h : 0 ≤ n ∧ n ≤ 8
  · obtain ⟨m, rfl⟩ := Int.eq_ofNat_of_zero_le h.1
    have hb : (decide (0 ≤ (m : Int)) && decide ((m : Int) ≤ 8)) = true := by simp; omega
    simp only [hb, if_true]
    refine ev_succ ?_
    by_cases hl : (es.length : Int) > 28
    · have : good4 (m : Int) es = false := by unfold good4 okE; rw [decide_eq_false (show ¬ (es.length : Int) ≤ 28 by omega)]; simp
      simp only [impl_IsPrecedence.j0, decide_eq_true hl, if_true, this]; exact ev_now _
    · simp only [impl_IsPrecedence.j0, decide_eq_false hl, Bool.false_eq_true, if_false]
      have hk : good4 (m : Int) es = (pfE (wrap64 ((m : Int) - 1)) es 0 es.length && acyF (closT m es) 0 m) := by
        unfold good4 okE; rw [hb, decide_eq_true (show (es.length : Int) ≤ 28 by omega)]; simp
      rw [hk]
      refine isPrec_l0 m (by omega) es (by omega) (fun hp => ?_) es.length 0 (by omega) (fun x => x)
      obtain ⟨m', e, _, _, hin⟩ := okE_in (m : Int) es (by unfold okE; rw [hp, hb, decide_eq_true (show (es.length : Int) ≤ 28 by omega)]; rfl)
      rw [show m = m' by omega]; exact hin
  · have hb : (decide (0 ≤ n) && decide (n ≤ 8)) = false := by
      rw [Bool.eq_false_iff]; intro x; simp only [Bool.and_eq_true, decide_eq_true_eq] at x; exact h x
    have : good4 n es = false := by unfold good4 okE; rw [hb]; simp
    simp only [hb, Bool.false_eq_true, if_false, this]
    refine ev_succ ?_
    simp only [impl_IsPrecedence.j0, if_true]; exact ev_now _

theorem tb_put {n : Nat} {t : List (List Bool)} (h : Sq n t) (i j a b : Nat) (hi : i < n) (hj : j < n) (ha : a < n) (hb : b < n) (v : Bool) : tb (putT t i j v) a b = if a = i ∧ b = j then v else tb t a b := by
  have hl := h.1
  have hri := h.row i hi
  have hg : t.getD i [] = t[i] := by rw [List.getD_eq_getElem?_getD, List.getElem?_eq_getElem (by omega)]; rfl
  unfold tb putT
  rw [hg]
  by_cases c : a = i
  · subst c
    rw [List.getD_eq_getElem?_getD (l := t.set a _), List.getElem?_set_self (by omega), Option.getD_some, hg]
    by_cases cb : b = j
    · subst cb
      rw [if_pos ⟨rfl, rfl⟩, List.getD_eq_getElem?_getD, List.getElem?_set_self (by omega), Option.getD_some]
    · rw [if_neg (fun x => cb x.2), List.getD_eq_getElem?_getD, List.getElem?_set_ne (fun x => cb x.symm), ← List.getD_eq_getElem?_getD]
  · rw [if_neg (fun x => c x.1), List.getD_eq_getElem?_getD (l := t.set i _), List.getElem?_set_ne (fun x => c x.symm), ← List.getD_eq_getElem?_getD]
/-- What a phase has done at the places S. -/
def Phase (n k : Nat) (t t' : List (List Bool)) (S : Nat → Nat → Prop) : Prop := Sq n t' ∧ ∀ a b, a < n → b < n → (tb t' a b = true ↔ tb t a b = true ∨ S a b ∧ tb t a k = true ∧ tb t k b = true)
theorem Phase.step {n k : Nat} {t t' : List (List Bool)} {S : Nat → Nat → Prop} (h : Phase n k t t' S) (hk : k < n) (i j : Nat) (hi : i < n) (hj : j < n) : Phase n k t (stepT t' k i j) (fun a b => S a b ∨ a = i ∧ b = j) := by
  refine ⟨h.1.step k i j hi, fun a b ha hb => ?_⟩
  have h1 : tb t' i k = true ↔ tb t i k = true := by
    rw [h.2 i k hi hk]
    exact ⟨fun x => x.elim id (fun y => y.2.1), Or.inl⟩
  have h2 : tb t' k j = true ↔ tb t k j = true := by
    rw [h.2 k j hk hj]
    exact ⟨fun x => x.elim id (fun y => y.2.2), Or.inl⟩
  unfold stepT
  by_cases c : (tb t' i k && tb t' k j) = true
  · rw [if_pos c, tb_put h.1 i j a b hi hj ha hb]
    rw [Bool.and_eq_true, h1, h2] at c
    by_cases e : a = i ∧ b = j
    · rw [if_pos e]
      obtain ⟨rfl, rfl⟩ := e
      exact ⟨fun _ => Or.inr ⟨Or.inr ⟨rfl, rfl⟩, c.1, c.2⟩, fun _ => rfl⟩
    · rw [if_neg e, h.2 a b ha hb]
      exact ⟨fun x => x.imp id (fun y => ⟨Or.inl y.1, y.2⟩), fun x => x.imp id (fun y => ⟨y.1.resolve_right e, y.2⟩)⟩
  · rw [if_neg c, h.2 a b ha hb]
    rw [Bool.and_eq_true, h1, h2] at c
    refine ⟨fun x => x.imp id (fun y => ⟨Or.inl y.1, y.2⟩), fun x => ?_⟩
    rcases x with x | ⟨s | ⟨rfl, rfl⟩, y⟩
    · exact Or.inl x
    · exact Or.inr ⟨s, y⟩
    · exact absurd y c
theorem Phase.congr {n k : Nat} {t t' : List (List Bool)} {S S' : Nat → Nat → Prop} (h : Phase n k t t' S) (e : ∀ a b, a < n → b < n → (S a b ↔ S' a b)) : Phase n k t t' S' := ⟨h.1, fun a b ha hb => by rw [h.2 a b ha hb, e a b ha hb]⟩
theorem Phase.row {n k : Nat} {t : List (List Bool)} (hk : k < n) (i : Nat) (hi : i < n) : ∀ (js : List Nat) (t' : List (List Bool)) (S : Nat → Nat → Prop), (∀ j ∈ js, j < n) → Phase n k t t' S → Phase n k t (rowF t' k i js) (fun a b => S a b ∨ a = i ∧ b ∈ js) := by
  intro js
  induction js with
  | nil => intro t' S _ h; exact h.congr (fun a b _ _ => by simp)
  | cons j js ih =>
    intro t' S hj h
    have h' := ih (stepT t' k i j) _ (fun x hx => hj x (by simp [hx])) (h.step hk i j hi (hj j (by simp)))
    refine Phase.congr h' (fun a b _ _ => ?_)
    constructor
    · rintro ((s | ⟨rfl, rfl⟩) | ⟨rfl, hb⟩)
      · exact Or.inl s
      · exact Or.inr ⟨rfl, by simp⟩
      · exact Or.inr ⟨rfl, by simp [hb]⟩
    · rintro (s | ⟨rfl, hb⟩)
      · exact Or.inl (Or.inl s)
      · rcases List.mem_cons.mp hb with rfl | hb
        · exact Or.inl (Or.inr ⟨rfl, rfl⟩)
        · exact Or.inr ⟨rfl, hb⟩
theorem Phase.mid {n k : Nat} {t : List (List Bool)} (hk : k < n) : ∀ (is : List Nat) (t' : List (List Bool)) (S : Nat → Nat → Prop), (∀ i ∈ is, i < n) → Phase n k t t' S → Phase n k t (midF n t' k is) (fun a b => S a b ∨ a ∈ is) := by
  intro is
  induction is with
  | nil => intro t' S _ h; exact h.congr (fun a b _ _ => by simp)
  | cons i is ih =>
    intro t' S hi h
    have h' := ih (rowF t' k i (List.range' 0 n)) _ (fun x hx => hi x (by simp [hx])) (Phase.row hk i (hi i (by simp)) (List.range' 0 n) t' S (fun j hj => by rw [List.mem_range'_1] at hj; omega) h)
    refine Phase.congr h' (fun a b _ hb => ?_)
    constructor
    · rintro ((s | ⟨rfl, _⟩) | hm)
      · exact Or.inl s
      · exact Or.inr (by simp)
      · exact Or.inr (by simp [hm])
    · rintro (s | hm)
      · exact Or.inl (Or.inl s)
      · rcases List.mem_cons.mp hm with rfl | hm
        · exact Or.inl (Or.inr ⟨rfl, by rw [List.mem_range'_1]; omega⟩)
        · exact Or.inr hm
theorem mid_tb {n k : Nat} {t : List (List Bool)} (ht : Sq n t) (hk : k < n) (a b : Nat) (ha : a < n) (hb : b < n) : tb (midF n t k (List.range' 0 n)) a b = true ↔ tb t a b = true ∨ tb t a k = true ∧ tb t k b = true := by
  have h0 : Phase n k t t (fun _ _ => False) := ⟨ht, fun a b _ _ => by simp⟩
  have h := Phase.mid hk (List.range' 0 n) t _ (fun i hi => by rw [List.mem_range'_1] at hi; omega) h0
  rw [h.2 a b ha hb]
  have hm : a ∈ List.range' 0 n := by rw [List.mem_range'_1]; omega
  simp [hm]
/-- Steps through the jobs before k are closed. -/
def Tr (n k : Nat) (t : List (List Bool)) : Prop := ∀ m a b, m < k → a < n → b < n → tb t a m = true → tb t m b = true → tb t a b = true
theorem out_tr (n : Nat) : ∀ (d k : Nat) (t : List (List Bool)), k + d = n → Sq n t → Tr n k t → Tr n n (outF n t (List.range' k d)) ∧ Sq n (outF n t (List.range' k d)) := by
  intro d
  induction d with
  | zero => intro k t hk ht h; rw [show k = n by omega] at h; exact ⟨h, ht⟩
  | succ d ih =>
    intro k t hk ht h
    rw [List.range'_succ]
    refine ih (k + 1) (midF n t k (List.range' 0 n)) (by omega) (mid_sq ht k _ (fun i hi => by rw [List.mem_range'_1] at hi; omega)) ?_
    intro m a b hm ha hb h1 h2
    have hkn : k < n := by omega
    have hmn : m < n := by omega
    rw [mid_tb ht hkn a m ha hmn] at h1
    rw [mid_tb ht hkn m b hmn hb] at h2
    rw [mid_tb ht hkn a b ha hb]
    by_cases c : m = k
    · subst c
      exact Or.inr ⟨h1.elim id (fun x => x.1), h2.elim id (fun x => x.2)⟩
    · have hmk : m < k := by omega
      rcases h1 with h1 | ⟨h1, h1'⟩
      · rcases h2 with h2 | ⟨h2, h2'⟩
        · exact Or.inl (h m a b hmk ha hb h1 h2)
        · exact Or.inr ⟨h m a k hmk ha hkn h1 h2, h2'⟩
      · rcases h2 with h2 | ⟨h2, h2'⟩
        · exact Or.inr ⟨h1, h m k b hmk hkn hb h1' h2⟩
        · exact Or.inr ⟨h1, h2'⟩
theorem clos_tr (n : Nat) (es : List S71) (hin : inN n es) : ∀ a m b, a < n → m < n → b < n → tb (closT n es) a m = true → tb (closT n es) m b = true → tb (closT n es) a b = true := by
  have h0 : Sq n (edgeF (List.replicate n (List.replicate n false)) es) := edge_sq ⟨by simp, fun r hr => by rw [List.eq_of_mem_replicate hr]; simp⟩ es hin
  have h := (out_tr n n 0 _ (Nat.zero_add _) h0 (fun m a b hm => by omega)).1
  intro a m b ha hm hb h1 h2
  exact h m a b hm ha hb h1 h2
theorem acy_irr (n : Nat) (t : List (List Bool)) : ∀ (d i : Nat), acyF t i d = true → ∀ j, i ≤ j → j < i + d → tb t j j = false := by
  intro d
  induction d with
  | zero => intro i _ j h1 h2; omega
  | succ d ih =>
    intro i h j h1 h2
    unfold acyF at h
    rw [Bool.and_eq_true] at h
    by_cases e : j = i
    · subst e; simpa using h.1
    · exact ih (i + 1) h.2 j (by omega) (by omega)
/-- What a good precedence gives. -/
theorem good4_facts (n : Int) (es : List S71) (h : good4 n es = true) : ∃ m : Nat, n = m ∧ m ≤ 8 ∧ es.length ≤ 28 ∧ inN m es ∧ (∀ j, j < m → tb (closT m es) j j = false) := by
  unfold good4 at h
  rw [Bool.and_eq_true] at h
  obtain ⟨m, rfl, h1, h2, h3⟩ := okE_in n es h.1
  refine ⟨m, rfl, h1, h2, h3, fun j hj => ?_⟩
  have := h.2
  rw [Int.toNat_natCast] at this
  exact acy_irr m _ m 0 this j (by omega) (by omega)
/-- How many jobs come after a job, among those before a number. -/
def cntF (t : List (List Bool)) (j : Nat) : Nat → Nat
  | 0 => 0
  | d + 1 => cntF t j d + if tb t j d = true then 1 else 0
theorem cnt_le (t : List (List Bool)) (i j : Nat) : ∀ d : Nat, (∀ b, b < d → tb t i b = true → tb t j b = true) → cntF t i d ≤ cntF t j d := by
  intro d
  induction d with
  | zero => intro _; exact Nat.le_refl _
  | succ d ih =>
    intro h
    have h1 := ih (fun b hb => h b (by omega))
    unfold cntF
    by_cases c : tb t i d = true
    · rw [if_pos c, if_pos (h d (by omega) c)]; omega
    · rw [if_neg c]; omega
theorem cnt_lt (t : List (List Bool)) (i j : Nat) : ∀ d : Nat, (∀ b, b < d → tb t i b = true → tb t j b = true) → (∃ b, b < d ∧ tb t i b = false ∧ tb t j b = true) → cntF t i d < cntF t j d := by
  intro d
  induction d with
  | zero => rintro _ ⟨b, hb, _⟩; omega
  | succ d ih =>
    rintro h ⟨b, hb, h1, h2⟩
    unfold cntF
    by_cases e : b = d
    · subst e
      have := cnt_le t i j b (fun x hx => h x (by omega))
      rw [if_pos h2, if_neg (by rw [h1]; decide)]; omega
    · have := ih (fun x hx => h x (by omega)) ⟨b, by omega, h1, h2⟩
      by_cases c : tb t i d = true
      · rw [if_pos c, if_pos (h d (by omega) c)]; omega
      · rw [if_neg c]; omega
theorem cnt_bound (t : List (List Bool)) (j : Nat) : ∀ d : Nat, cntF t j d ≤ d := by
  intro d
  induction d with
  | zero => exact Nat.le_refl _
  | succ d ih => unfold cntF; split <;> omega
/-- Of two jobs in order the later one has fewer after it. -/
theorem cnt_desc (n : Nat) (es : List S71) (hin : inN n es) (hirr : ∀ j, j < n → tb (closT n es) j j = false) (j i : Nat) (hj : j < n) (hi : i < n) (h : tb (closT n es) j i = true) : cntF (closT n es) i n < cntF (closT n es) j n :=
  cnt_lt _ i j n (fun b hb hib => clos_tr n es hin j i b hj hi hb h hib) ⟨i, hi, hirr i hi, h⟩

theorem good_len {xs : List S79} (h : goodB xs = true) : xs.length ≤ 8 := by
  unfold goodB at h
  simp only [Bool.and_eq_true, decide_eq_true_eq] at h
  exact h.1
theorem good_at {xs : List S79} (h : goodB xs = true) (i : Nat) (hi : i < xs.length) : 1 ≤ xs[i].f0 ∧ xs[i].f0 ≤ 50 ∧ 0 ≤ xs[i].f1 ∧ xs[i].f1 ≤ 50 ∧ 0 ≤ xs[i].f2 ∧ xs[i].f2 ≤ 500 ∧ 0 ≤ xs[i].f3 ∧ xs[i].f3 ≤ 500 := by
  unfold goodB at h
  simp only [Bool.and_eq_true, List.all_eq_true] at h
  have b := h.2 xs[i] (List.getElem_mem hi)
  simp only [okJ, Bool.and_eq_true, decide_eq_true_eq] at b
  obtain ⟨a1, a2, b1, b2, c1, c2, d1, d2⟩ := b
  exact ⟨a1, a2, b1, b2, c1, c2, d1, d2⟩

theorem shrN (c i : Nat) (h : i ≤ 64) : shr .i64 (c : Int) (i : Int) = ((c / 2 ^ i : Nat) : Int) := by
  unfold shr
  rw [Int.toNat_natCast, Nat.min_eq_left (show i ≤ IntKind.i64.bits from h)]
  rw [Int.natCast_ediv, Int.natCast_pow]
  rfl
theorem and1 : ∀ m : Nat, m < 256 → Go.bits .and .i64 (m : Int) 1 = ((m % 2 : Nat) : Int) := by decide +kernel
theorem shl1 : ∀ i : Nat, i < 9 → shl .i64 1 (i : Int) = ((2 ^ i : Nat) : Int) := by decide +kernel
theorem andn : ∀ c : Nat, c < 256 → ∀ i : Nat, i < 8 → c / 2 ^ i % 2 = 1 → Go.bits .andNot .i64 (c : Int) ((2 ^ i : Nat) : Int) = ((c - 2 ^ i : Nat) : Int) := by decide +kernel
theorem pow8 (n : Nat) (h : n ≤ 8) : 2 ^ n ≤ 256 := Nat.pow_le_pow_right (by omega) h
theorem shr_and (c i : Nat) (hc : c < 256) (hi : i ≤ 64) : Go.bits .and .i64 (shr .i64 (c : Int) (i : Int)) 1 = ((c / 2 ^ i % 2 : Nat) : Int) := by
  rw [shrN c i hi]
  exact and1 _ (Nat.lt_of_le_of_lt (Nat.div_le_self _ _) hc)
theorem mod1 {x : Nat} (h : x % 2 = 1) : ((x % 2 : Nat) : Int) = 1 := by rw [h]; rfl
theorem mod0 {x : Nat} (h : ¬ x % 2 = 1) : ((x % 2 : Nat) : Int) = 0 := by rw [show x % 2 = 0 by omega]; rfl
theorem mod1' {x : Nat} (h : x % 2 = 1) : ¬ ((x % 2 : Nat) : Int) = 0 := by rw [h]; decide
theorem mod0' {x : Nat} (h : ¬ x % 2 = 1) : ¬ ((x % 2 : Nat) : Int) = 1 := by rw [show x % 2 = 0 by omega]; decide
theorem bit_le (c i : Nat) (h : c / 2 ^ i % 2 = 1) : 2 ^ i ≤ c := by
  rcases Nat.lt_or_ge c (2 ^ i) with hl | hl
  · rw [Nat.div_eq_of_lt hl] at h; omega
  · exact hl
/-- The numbers of the bits of c, from i on. -/
def blF (c i : Nat) : Nat → List Int
  | 0 => []
  | d + 1 => if c / 2 ^ i % 2 = 1 then (i : Int) :: blF c (i + 1) d else blF c (i + 1) d
theorem blF_hit {c i : Nat} (h : c / 2 ^ i % 2 = 1) (d : Nat) : blF c i (d + 1) = (i : Int) :: blF c (i + 1) d := by rw [blF, if_pos h]
theorem blF_miss {c i : Nat} (h : ¬ c / 2 ^ i % 2 = 1) (d : Nat) : blF c i (d + 1) = blF c (i + 1) d := by rw [blF, if_neg h]
theorem wsub {c q : Nat} (h : q ≤ c) (hc : c ≤ 4611686018427387904) : wrap64 ((c : Int) - (q : Int)) = ((c - q : Nat) : Int) := by rw [w64 (by omega) (by omega)]; omega
theorem blF_nil (c : Nat) : ∀ d i : Nat, c / 2 ^ i = 0 → blF c i d = [] := by
  intro d
  induction d with
  | zero => intro i _; rfl
  | succ d ih =>
    intro i h
    unfold blF
    rw [if_neg (by omega)]
    refine ih (i + 1) ?_
    rw [Nat.pow_succ, ← Nat.div_div_eq_div_mul, h]
theorem blF_mem (c : Nat) : ∀ d i : Nat, ∀ x ∈ blF c i d, ∃ j : Nat, x = (j : Int) ∧ i ≤ j ∧ j < i + d ∧ c / 2 ^ j % 2 = 1 := by
  intro d
  induction d with
  | zero => intro i x hx; simp [blF] at hx
  | succ d ih =>
    intro i x hx
    unfold blF at hx
    split at hx
    · rcases List.mem_cons.mp hx with rfl | hx
      · exact ⟨i, rfl, by omega, by omega, by assumption⟩
      · obtain ⟨j, a, b, e, f⟩ := ih (i + 1) x hx
        exact ⟨j, a, by omega, by omega, f⟩
    · obtain ⟨j, a, b, e, f⟩ := ih (i + 1) x hx
      exact ⟨j, a, by omega, by omega, f⟩
theorem blF_len (c : Nat) : ∀ d i : Nat, (blF c i d).length ≤ d := by
  intro d
  induction d with
  | zero => intro i; exact Nat.le_refl _
  | succ d ih =>
    intro i
    unfold blF
    have := ih (i + 1)
    split
    · rw [List.length_cons]; omega
    · omega
theorem rdz (xs : List Int) (i : Nat) (h : i < xs.length) : rd xs (i : Int) = xs[i] := by
  unfold rd
  rw [Int.toNat_natCast, List.getD_eq_getElem?_getD, List.getElem?_eq_getElem h]
  rfl
theorem rd_left (a b : List Int) (i : Nat) (h : i < a.length) : rd (a ++ b) (i : Int) = rd a (i : Int) := by
  rw [rdz _ i (by rw [List.length_append]; omega), rdz a i h, List.getElem_append_left h]
theorem rd_mid (a b : List Int) (x : Int) (i : Nat) (h : i = a.length) : rd (a ++ x :: b) (i : Int) = x := by
  subst h
  rw [rdz _ _ (by rw [List.length_append, List.length_cons]; omega)]
  simp
theorem set_mid (a b : List Int) (x y : Int) (i : Nat) (h : i = a.length) : (a ++ x :: b).set i y = a ++ y :: b := by
  subst h
  simp

theorem two_facts (xs : List S79) (es : List S71) (h : good4 (xs.length : Int) es = true) : xs.length ≤ 8 ∧ es.length ≤ 28 ∧ inN xs.length es ∧ (∀ j, j < xs.length → tb (closT xs.length es) j j = false) := by
  obtain ⟨n, e, a, b, c, d⟩ := good4_facts _ es h
  have e' : xs.length = n := by omega
  subst e'
  exact ⟨a, b, c, d⟩
theorem l4Two_ev (xs : List S79) (es : List S71) (hn : xs.length ≤ 1048576) (he : es.length ≤ 1048576) : Ev (fun k => spec_l4Two.f k xs es) (goodB xs && good4 (xs.length : Int) es) := by
  unfold spec_l4Two.f
  refine ev_bind (l2Good_ev xs (by omega)) ?_
  cases goodB xs
  · simp only [Bool.false_eq_true, if_false, Bool.false_and]; exact ev_now _
  · simp only [if_true, Bool.true_and]
    exact ev_bind (l4Good_ev _ es he) (ev_now _)
theorem isPreceded_ev (xs : List S79) (es : List S71) (hn : xs.length ≤ 1048576) : Ev (fun k => impl_isPreceded.f k xs es) (goodB xs && good4 (xs.length : Int) es) := by
  unfold impl_isPreceded.f
  refine ev_bind (IsJobs_ev xs (by omega)) ?_
  cases goodB xs
  · simp only [Bool.false_eq_true, if_false, Bool.false_and]; exact ev_now _
  · simp only [if_true, Bool.true_and]
    exact ev_bind (isPrec_ev _ es) (ev_now _)

theorem pc_less : ∀ c : Nat, c < 256 → ∀ i : Nat, i < 8 → c / 2 ^ i % 2 = 1 → (blF (c - 2 ^ i) 0 8).length + 1 = (blF c 0 8).length := by decide +kernel
theorem pc_all : ∀ n : Nat, n < 9 → (blF (2 ^ n - 1) 0 8).length = n := by decide +kernel
theorem pc_pos : ∀ c : Nat, c < 256 → 0 < c → 0 < (blF c 0 8).length := by decide +kernel
theorem pc_zero : ∀ c : Nat, c < 256 → (blF c 0 8).length = 0 → c = 0 := by
  intro c hc h
  rcases Nat.eq_zero_or_pos c with h0 | h0
  · exact h0
  · have := pc_pos c hc h0; omega
theorem blF_ext (c e : Nat) : ∀ d i : Nat, c / 2 ^ (i + d) = 0 → blF c i (d + e) = blF c i d := by
  intro d
  induction d with
  | zero => intro i h; rw [Nat.zero_add]; exact blF_nil c e i h
  | succ d ih =>
    intro i h
    rw [show d + 1 + e = (d + e) + 1 by omega, blF, blF, ih (i + 1) (by rw [show i + 1 + d = i + (d + 1) by omega]; exact h)]
theorem bl8 (c n : Nat) (hn : n ≤ 8) (hc : c < 2 ^ n) : blF c 0 8 = blF c 0 n := by
  have := blF_ext c (8 - n) n 0 (by rw [Nat.zero_add]; exact Nat.div_eq_of_lt hc)
  rwa [show n + (8 - n) = 8 by omega] at this

theorem l1Has_ev (ls : List Int) (x : Int) (hn : ls.length ≤ 1048576) : Ev (fun k => spec_l1Has.f k ls x) (decide (x ∈ ls)) := by
  have key : ∀ (d i : Nat), i + d = ls.length → Ev (fun k => spec_l1Has.l0 k ls x (i : Int)) (decide (x ∈ ls.drop i)) := by
    intro d
    induction d with
    | zero =>
      intro i hi
      refine ev_succ ?_
      rw [List.drop_of_length_le (by omega)]
      simp only [spec_l1Has.l0, if_neg (show ¬ (i : Int) < (ls.length : Int) by omega), List.not_mem_nil, decide_false]
      exact ev_now _
    | succ d ih =>
      intro i hi
      refine ev_succ ?_
      have hx : i < ls.length := by omega
      rw [List.drop_eq_getElem_cons hx]
      simp only [spec_l1Has.l0, if_pos (show (i : Int) < (ls.length : Int) by omega), if_pos (show (0 : Int) ≤ (i : Int) by omega), rdz ls i hx, wsucc i (by omega)]
      by_cases c : ls[i] = x
      · simp only [if_pos c, List.mem_cons, show x = ls[i] from c.symm, true_or, decide_true]; exact ev_now _
      · simp only [if_neg c, List.mem_cons, show ¬ x = ls[i] from fun e => c e.symm, false_or]; exact ih (i + 1) (by omega)
  have h := key ls.length 0 (Nat.zero_add _)
  rw [List.drop_zero] at h
  unfold spec_l1Has.f
  exact h

theorem listOf_l (c n : Nat) (hn : n ≤ 8) (hc : c < 2 ^ n) : ∀ (d i : Nat) (acc : List Int), i + d = n → acc.length ≤ i → Ev (fun k => impl_listOf.l0 k (c : Int) acc (i : Int)) (acc ++ blF c i d) := by
  intro d
  have h8 := pow8 n hn
  induction d with
  | zero =>
    intro i acc hi ha
    refine ev_succ ?_
    have hz : c / 2 ^ i = 0 := Nat.div_eq_of_lt (by rw [show i = n by omega]; exact hc)
    simp only [impl_listOf.l0, if_pos (show (0 : Int) ≤ (i : Int) by omega), shrN c i (by omega), hz, gt_iff_lt, if_neg (show ¬ (0 : Int) < ((0 : Nat) : Int) by omega), blF, List.append_nil]
    exact ev_now _
  | succ d ih =>
    intro i acc hi ha
    refine ev_succ ?_
    by_cases hz : c / 2 ^ i = 0
    · rw [blF_nil c _ i hz, List.append_nil]
      simp only [impl_listOf.l0, if_pos (show (0 : Int) ≤ (i : Int) by omega), shrN c i (by omega), hz, gt_iff_lt, if_neg (show ¬ (0 : Int) < ((0 : Nat) : Int) by omega)]
      exact ev_now _
    · simp only [impl_listOf.l0, if_pos (show (0 : Int) ≤ (i : Int) by omega), shr_and c i (by omega) (by omega), blF, wsucc i (by omega)]
      simp only [shrN c i (by omega), gt_iff_lt, if_pos (Int.natCast_pos.mpr (Nat.pos_of_ne_zero hz))]
      by_cases hb : c / 2 ^ i % 2 = 1
      · have h := ih (i + 1) (acc ++ [(i : Int)]) (by omega) (by rw [List.length_append, List.length_singleton]; omega)
        rw [List.append_assoc] at h
        simp only [if_pos hb, if_pos (mod1 hb), if_pos (show acc.length < 17592186044416 by omega)]
        exact h
      · simp only [if_neg hb, if_neg (mod0' hb)]
        exact ih (i + 1) acc (by omega) (by omega)
theorem listOf_ev (c n : Nat) (hn : n ≤ 8) (hc : c < 2 ^ n) : Ev (fun k => impl_listOf.f k (c : Int)) (blF c 0 n) := by
  unfold impl_listOf.f
  exact listOf_l c n hn hc n 0 [] (by omega) (by simp)

def freeJ (x : S79) : Bool := decide (x.f2 = 0)
def plainB (l : List S79) : Bool := goodB l && l.all freeJ
theorem isPlain_l (xs : List S79) (hn : xs.length ≤ 4611686018427387904) : ∀ (d i : Nat), i + d = xs.length → Ev (fun k => impl_isPlain.l0 k xs (xs.length : Int) (i : Int)) ((xs.drop i).all freeJ) := by
  intro d
  induction d with
  | zero =>
    intro i hi
    refine ev_succ ?_
    simp only [impl_isPlain.l0, if_neg (show ¬ (i : Int) < (xs.length : Int) by omega), List.drop_of_length_le (show xs.length ≤ i by omega)]
    exact ev_now _
  | succ d ih =>
    intro i hi
    refine ev_succ ?_
    have hx : i < xs.length := by omega
    have hih := ih (i + 1) (by omega)
    rw [List.drop_eq_getElem_cons hx, List.all_cons]
    simp only [impl_isPlain.l0, if_pos (show (i : Int) < (xs.length : Int) by omega), if_pos (show (0 : Int) ≤ (i : Int) by omega), wsucc i (by omega), rdI xs i hx]
    by_cases c : (xs[i]).f2 = 0
    · simp only [if_pos c, freeJ, decide_eq_true c, Bool.true_and]
      exact hih
    · simp only [if_neg c, freeJ, decide_eq_false c, Bool.false_and]
      exact ev_now _
theorem isPlain_ev (xs : List S79) (hn : xs.length ≤ 4611686018427387904) : Ev (fun k => impl_isPlain.f k xs) (xs.all freeJ) := by
  unfold impl_isPlain.f
  exact isPlain_l xs hn xs.length 0 (by omega)

def freeJ' (x : S79) : Bool := decide (¬ x.f2 > 0)
theorem l4Free_l (xs : List S79) (hn : xs.length ≤ 4611686018427387904) : ∀ (d i : Nat), i + d = xs.length → Ev (fun k => spec_l4Free.l0 k xs (i : Int)) ((xs.drop i).all freeJ') := by
  intro d
  induction d with
  | zero =>
    intro i hi
    refine ev_succ ?_
    simp only [spec_l4Free.l0, if_neg (show ¬ (i : Int) < (xs.length : Int) by omega), List.drop_of_length_le (show xs.length ≤ i by omega)]
    exact ev_now _
  | succ d ih =>
    intro i hi
    refine ev_succ ?_
    have hx : i < xs.length := by omega
    have hih := ih (i + 1) (by omega)
    rw [List.drop_eq_getElem_cons hx, List.all_cons]
    simp only [spec_l4Free.l0, if_pos (show (i : Int) < (xs.length : Int) by omega), if_pos (show (0 : Int) ≤ (i : Int) by omega), wsucc i (by omega), rdI xs i hx]
    by_cases c : (xs[i]).f2 > 0
    · simp only [if_pos c, freeJ', decide_eq_false (show ¬ ¬ (xs[i]).f2 > 0 by omega), Bool.false_and]
      exact ev_now _
    · simp only [if_neg c, freeJ', decide_eq_true c, Bool.true_and]
      exact hih
theorem l4Free_ev (xs : List S79) (hn : xs.length ≤ 4611686018427387904) : Ev (fun k => spec_l4Free.f k xs) (xs.all freeJ') := by
  unfold spec_l4Free.f
  exact l4Free_l xs hn xs.length 0 (by omega)
theorem good_free (xs : List S79) (h : goodB xs = true) : xs.all freeJ' = xs.all freeJ := by
  unfold goodB at h
  simp only [Bool.and_eq_true, List.all_eq_true] at h
  rw [Bool.eq_iff_iff]
  simp only [List.all_eq_true]
  constructor
  · intro hh x hx
    have a := hh x hx
    have b := h.2 x hx
    simp only [okJ, Bool.and_eq_true, decide_eq_true_eq] at b
    simp only [freeJ', decide_eq_true_eq] at a
    simp only [freeJ, decide_eq_true_eq]
    omega
  · intro hh x hx
    have a := hh x hx
    simp only [freeJ, decide_eq_true_eq] at a
    simp only [freeJ', decide_eq_true_eq]
    omega

theorem bit_less0 : ∀ c : Nat, c < 256 → ∀ r : Nat, r < 8 → ∀ j : Nat, j < 8 → (!decide (c / 2 ^ r % 2 = 1) || (decide ((c - 2 ^ r) / 2 ^ j % 2 = 1) == (decide (c / 2 ^ j % 2 = 1) && !decide (j = r)))) = true := by decide +kernel
theorem bit_less (c : Nat) (hc : c < 256) (r : Nat) (hr : r < 8) (h : c / 2 ^ r % 2 = 1) (j : Nat) (hj : j < 8) : ((c - 2 ^ r) / 2 ^ j % 2 = 1) ↔ (c / 2 ^ j % 2 = 1 ∧ j ≠ r) := by
  have := bit_less0 c hc r hr j hj
  rw [decide_eq_true h, Bool.not_true, Bool.false_or, beq_iff_eq] at this
  rw [← decide_eq_true_eq (p := (c - 2 ^ r) / 2 ^ j % 2 = 1), this, Bool.and_eq_true, decide_eq_true_eq, Bool.not_eq_true', decide_eq_false_iff_not]
theorem bit_full : ∀ n : Nat, n < 9 → ∀ j : Nat, j < n → (2 ^ n - 1) / 2 ^ j % 2 = 1 := by decide +kernel
def bitB (c j : Nat) : Bool := decide (c / 2 ^ j % 2 = 1)
/-- No job left of c comes after j, from k on. -/
def opF (t : List (List Bool)) (c j k : Nat) : Nat → Bool
  | 0 => true
  | d + 1 => !(tb t j k && bitB c k) && opF t c j (k + 1) d
theorem opF_true (t : List (List Bool)) (c j : Nat) : ∀ d k : Nat, opF t c j k d = true ↔ ∀ q, k ≤ q → q < k + d → tb t j q = true → ¬ c / 2 ^ q % 2 = 1 := by
  intro d
  induction d with
  | zero => intro k; exact ⟨fun _ q h1 h2 => by omega, fun _ => rfl⟩
  | succ d ih =>
    intro k
    unfold opF bitB
    rw [Bool.and_eq_true, ih (k + 1)]
    constructor
    · rintro ⟨h1, h2⟩ q hq hq' hb
      by_cases e : q = k
      · subst e
        intro hc
        rw [hb, decide_eq_true hc] at h1
        cases h1
      · exact h2 q (by omega) (by omega) hb
    · intro h
      refine ⟨?_, fun q h1 h2 hb => h q (by omega) (by omega) hb⟩
      cases hb : tb t j k
      · rfl
      · have := h k (by omega) (by omega) hb
        rw [decide_eq_false this]; rfl
def bestS (xs : List S79) (b : Int) (j : Nat) : Int := if b < 0 then (j : Int) else if (rd_T79 xs (j : Int)).f3 ≥ (rd_T79 xs b).f3 then (j : Int) else b
/-- The best job to be the last one. -/
def lastP (xs : List S79) (t : List (List Bool)) (c j : Nat) (b : Int) : Nat → Int
  | 0 => b
  | d + 1 => lastP xs t c (j + 1) (if (opF t c j 0 xs.length && bitB c j) = true then bestS xs b j else b) d
theorem lastP_ok (xs : List S79) (t : List (List Bool)) (c : Nat) : ∀ (d j : Nat) (b : Int), j + d = xs.length → (b = -1 ∨ ∃ q : Nat, b = (q : Int) ∧ q < xs.length ∧ c / 2 ^ q % 2 = 1) →
    (lastP xs t c j b d = -1 ∧ b = -1 ∧ ∀ q, j ≤ q → q < j + d → (opF t c q 0 xs.length && bitB c q) = false) ∨ ∃ q : Nat, lastP xs t c j b d = (q : Int) ∧ q < xs.length ∧ c / 2 ^ q % 2 = 1 := by
  intro d
  induction d with
  | zero =>
    intro j b _ h
    rcases h with h | h
    · exact Or.inl ⟨h, h, fun q h1 h2 => by omega⟩
    · exact Or.inr h
  | succ d ih =>
    intro j b hj h
    unfold lastP
    cases ho : (opF t c j 0 xs.length && bitB c j)
    · rw [if_neg (by decide)]
      rcases ih (j + 1) b (by omega) h with ⟨h1, h2, h3⟩ | h1
      · refine Or.inl ⟨h1, h2, fun q hq hq' => ?_⟩
        by_cases e : q = j
        · subst e; exact ho
        · exact h3 q (by omega) (by omega)
      · exact Or.inr h1
    · rw [if_pos rfl]
      have hbit : c / 2 ^ j % 2 = 1 := by
        rw [Bool.and_eq_true] at ho
        unfold bitB at ho
        exact of_decide_eq_true ho.2
      have hs : bestS xs b j = (j : Int) ∨ ∃ q : Nat, bestS xs b j = (q : Int) ∧ q < xs.length ∧ c / 2 ^ q % 2 = 1 := by
        unfold bestS
        rcases h with h | ⟨q, h1, h2, h3⟩
        · left; rw [if_pos (by omega)]
        · rw [if_neg (by omega)]
          split
          · left; rfl
          · right; exact ⟨q, h1, h2, h3⟩
      have hs' : ∃ q : Nat, bestS xs b j = (q : Int) ∧ q < xs.length ∧ c / 2 ^ q % 2 = 1 := hs.elim (fun e => ⟨j, e, by omega, hbit⟩) id
      rcases ih (j + 1) (bestS xs b j) (by omega) (Or.inr hs') with ⟨_, h2, _⟩ | h1
      · obtain ⟨q, e, _⟩ := hs'; omega
      · exact Or.inr h1
theorem open_ex {xs : List S79} {t : List (List Bool)} (hdesc : ∀ j i, j < xs.length → i < xs.length → tb t j i = true → cntF t i xs.length < cntF t j xs.length) (c : Nat) : ∀ (m j : Nat), j < xs.length → cntF t j xs.length ≤ m → c / 2 ^ j % 2 = 1 → ∃ q, q < xs.length ∧ (opF t c q 0 xs.length && bitB c q) = true := by
  intro m
  induction m with
  | zero =>
    intro j hj hm hb
    refine ⟨j, hj, ?_⟩
    rw [Bool.and_eq_true]
    refine ⟨(opF_true t c j xs.length 0).2 (fun q _ hq hbq => ?_), decide_eq_true hb⟩
    have := hdesc j q hj (by omega) hbq
    omega
  | succ m ih =>
    intro j hj hm hb
    by_cases ho : opF t c j 0 xs.length = true
    · exact ⟨j, hj, by rw [Bool.and_eq_true]; exact ⟨ho, decide_eq_true hb⟩⟩
    · rw [opF_true] at ho
      have : ∃ q, q < xs.length ∧ tb t j q = true ∧ c / 2 ^ q % 2 = 1 := by
        refine Classical.byContradiction (fun h => ho (fun q _ hq hbq hc => h ⟨q, by omega, hbq, hc⟩))
      obtain ⟨q, hq, hbq, hc⟩ := this
      have := hdesc j q hj hq hbq
      exact ih q hq (by omega) hc
/-- The jobs that are left, and those that are placed. -/
structure Rel (n c : Nat) (out : List Int) : Prop where
  lt : c < 2 ^ n
  bits : ∀ j : Nat, j < n → (c / 2 ^ j % 2 = 1 ↔ ¬ (j : Int) ∈ out)
  cnt : (blF c 0 8).length + out.length = n
def nextC (xs : List S79) (t : List (List Bool)) (c : Nat) : Nat := (lastP xs t c 0 (-1) xs.length).toNat
def ordL (xs : List S79) (t : List (List Bool)) : Nat → Nat → List Int → List Int
  | 0, _, acc => acc
  | m + 1, c, acc => ordL xs t m (c - 2 ^ nextC xs t c) ((nextC xs t c : Int) :: acc)
theorem ordL_len (xs : List S79) (t : List (List Bool)) : ∀ (m c : Nat) (acc : List Int), (ordL xs t m c acc).length = acc.length + m := by
  intro m
  induction m with
  | zero => intro c acc; rfl
  | succ m ih => intro c acc; unfold ordL; rw [ih, List.length_cons]; omega
theorem blF_any (c : Nat) : ∀ d i : Nat, 0 < (blF c i d).length → ∃ j, i ≤ j ∧ j < i + d ∧ c / 2 ^ j % 2 = 1 := by
  intro d
  induction d with
  | zero => intro i h; simp [blF] at h
  | succ d ih =>
    intro i h
    by_cases hb : c / 2 ^ i % 2 = 1
    · exact ⟨i, by omega, by omega, hb⟩
    · rw [blF_miss hb] at h
      obtain ⟨j, h1, h2, h3⟩ := ih (i + 1) h
      exact ⟨j, by omega, by omega, h3⟩
theorem next_ok {xs : List S79} {t : List (List Bool)} (hn : xs.length ≤ 8) (hdesc : ∀ j i, j < xs.length → i < xs.length → tb t j i = true → cntF t i xs.length < cntF t j xs.length) (c : Nat) (hc : c < 2 ^ xs.length) (h0 : 0 < (blF c 0 8).length) :
    lastP xs t c 0 (-1) xs.length = (nextC xs t c : Int) ∧ nextC xs t c < xs.length ∧ c / 2 ^ nextC xs t c % 2 = 1 := by
  rw [bl8 c _ hn hc] at h0
  obtain ⟨j, _, hj, hb⟩ := blF_any c _ _ h0
  obtain ⟨q, hq, ho⟩ := open_ex hdesc c _ j (by omega) (Nat.le_refl _) hb
  rcases lastP_ok xs t c xs.length 0 (-1) (Nat.zero_add _) (Or.inl rfl) with ⟨_, _, h3⟩ | ⟨r, h1, h2, h3⟩
  · rw [h3 q (by omega) (by omega)] at ho; cases ho
  · unfold nextC
    rw [h1, Int.toNat_natCast]
    exact ⟨rfl, h2, h3⟩
theorem Rel.next {n c : Nat} {out : List Int} (h : Rel n c out) (hn : n ≤ 8) (r : Nat) (hr : r < n) (hb : c / 2 ^ r % 2 = 1) : Rel n (c - 2 ^ r) ((r : Int) :: out) := by
  have h8 := pow8 n hn
  have hlt := h.lt
  refine ⟨Nat.lt_of_le_of_lt (Nat.sub_le _ _) hlt, fun j hj => ?_, ?_⟩
  · rw [bit_less c (by omega) r (by omega) hb j (by omega), h.bits j hj, List.mem_cons, not_or]
    constructor
    · rintro ⟨h1, h2⟩; exact ⟨by omega, h1⟩
    · rintro ⟨h1, h2⟩; exact ⟨h2, by omega⟩
  · have := pc_less c (by omega) r (by omega) hb
    have := h.cnt
    rw [List.length_cons]; omega
section
variable {xs : List S79} {t : List (List Bool)} (hn : xs.length ≤ 8) (ht : Sq xs.length t) (hdesc : ∀ j i, j < xs.length → i < xs.length → tb t j i = true → cntF t i xs.length < cntF t j xs.length)
include hn ht
theorem l4Open_ev (c : Nat) (out : List Int) (h : Rel xs.length c out) (j : Nat) (hj : j < xs.length) : Ev (fun k => spec_l4Open.f k t out (j : Int)) (opF t c j 0 xs.length && bitB c j) := by
  have ho : out.length ≤ 8 := by have := h.cnt; omega
  have hl := ht.1
  have hr : (rd_L5 t (j : Int)).length = xs.length := by rw [rdBB t j (by omega)]; exact ht.row j hj
  have key : ∀ (d i : Nat), i + d = xs.length → Ev (fun k => spec_l4Open.l0 k t out (j : Int) (i : Int)) (opF t c j i d && bitB c j) := by
    intro d
    induction d with
    | zero =>
      intro i hi
      refine ev_succ ?_
      simp only [spec_l4Open.l0, if_neg (show ¬ (i : Int) < (t.length : Int) by omega), opF, Bool.true_and]
      refine ev_bind (l1Has_ev out _ (by omega)) ?_
      have e : bitB c j = !decide ((j : Int) ∈ out) := by
        unfold bitB
        by_cases hm : (j : Int) ∈ out
        · rw [decide_eq_true hm, decide_eq_false (fun x => (h.bits j hj).1 x hm)]; rfl
        · rw [decide_eq_false hm, decide_eq_true ((h.bits j hj).2 hm)]; rfl
      rw [e]
      exact ev_now _
    | succ d ih =>
      intro i hi
      refine ev_succ ?_
      have hi' : i < xs.length := by omega
      simp only [spec_l4Open.l0, if_pos (show (i : Int) < (t.length : Int) by omega), if_pos (show (0 : Int) ≤ (j : Int) by omega), if_pos (show (j : Int) < (t.length : Int) by omega), if_pos (show (0 : Int) ≤ (i : Int) by omega), if_pos (show (i : Int) < ((rd_L5 t (j : Int)).length : Int) by omega), rdTT ht j i hj hi', wsucc i (by omega), opF]
      cases tb t j i
      · simp only [Bool.false_eq_true, if_false, Bool.false_and, Bool.not_false, Bool.true_and]
        exact ih (i + 1) (by omega)
      · simp only [if_true, Bool.true_and]
        refine ev_bind (l1Has_ev out _ (by omega)) ?_
        have e : bitB c i = !decide ((i : Int) ∈ out) := by
          unfold bitB
          by_cases hm : (i : Int) ∈ out
          · rw [decide_eq_true hm, decide_eq_false (fun x => (h.bits i hi').1 x hm)]; rfl
          · rw [decide_eq_false hm, decide_eq_true ((h.bits i hi').2 hm)]; rfl
        rw [e]
        by_cases hm : (i : Int) ∈ out
        · simp only [decide_eq_true hm, if_true, Bool.not_true, Bool.not_false, Bool.true_and]
          exact ih (i + 1) (by omega)
        · simp only [decide_eq_false hm, Bool.false_eq_true, if_false, Bool.not_false, Bool.not_true, Bool.false_and]
          exact ev_now _
  unfold spec_l4Open.f
  exact key xs.length 0 (Nat.zero_add _)
theorem sLC_l1 (c : Nat) (out : List Int) (h : Rel xs.length c out) (R : List Int × Bool)
    (hnext : Ev (fun k => spec_LastCostOrder.l0 k xs (lastP xs t c 0 (-1) xs.length :: out) t) R) :
    ∀ (d j : Nat) (b : Int), j + d = xs.length → (b = -1 ∨ ∃ q : Nat, b = (q : Int) ∧ q < xs.length ∧ c / 2 ^ q % 2 = 1) → lastP xs t c j b d = lastP xs t c 0 (-1) xs.length → Ev (fun k => spec_LastCostOrder.l1 k xs out t b (j : Int)) R := by
  have ho : out.length ≤ 8 := by have := h.cnt; omega
  intro d
  induction d with
  | zero =>
    intro j b hj hb he
    refine ev_succ ?_
    simp only [spec_LastCostOrder.l1, if_neg (show ¬ (j : Int) < (xs.length : Int) by omega), Option.bind_some, List.length_singleton, if_pos (show 1 + out.length < 17592186044416 by omega)]
    rw [show b = lastP xs t c 0 (-1) xs.length from he]
    exact hnext
  | succ d ih =>
    intro j b hj hb he
    refine ev_succ ?_
    have hjl : j < xs.length := by omega
    simp only [spec_LastCostOrder.l1, if_pos (show (j : Int) < (xs.length : Int) by omega), wsucc j (by omega)]
    refine ev_bind (l4Open_ev hn ht c out h j hjl) ?_
    rw [lastP] at he
    cases hop : (opF t c j 0 xs.length && bitB c j)
    · rw [hop, if_neg (by decide)] at he
      simp only [Bool.false_eq_true, if_false]
      exact ih (j + 1) b (by omega) hb he
    · rw [hop, if_pos rfl] at he
      have hbit : c / 2 ^ j % 2 = 1 := by
        rw [Bool.and_eq_true] at hop
        unfold bitB at hop
        exact of_decide_eq_true hop.2
      simp only [if_true]
      by_cases c1 : b < 0
      · have e : bestS xs b j = (j : Int) := by unfold bestS; rw [if_pos c1]
        rw [e] at he
        simp only [if_pos c1]
        exact ih (j + 1) _ (by omega) (Or.inr ⟨j, rfl, hjl, hbit⟩) he
      · have hbl : b < (xs.length : Int) := by
          rcases hb with hb | ⟨q, e, hq, _⟩ <;> omega
        simp only [if_neg c1, if_pos (show (0 : Int) ≤ (j : Int) by omega), if_pos (show 0 ≤ b by omega), if_pos hbl]
        by_cases c2 : (rd_T79 xs (j : Int)).f3 ≥ (rd_T79 xs b).f3
        · have e : bestS xs b j = (j : Int) := by unfold bestS; rw [if_neg c1, if_pos c2]
          rw [e] at he
          simp only [if_pos c2]
          exact ih (j + 1) _ (by omega) (Or.inr ⟨j, rfl, hjl, hbit⟩) he
        · have e : bestS xs b j = b := by unfold bestS; rw [if_neg c1, if_neg c2]
          rw [e] at he
          simp only [if_neg c2]
          exact ih (j + 1) b (by omega) hb he
include hdesc
theorem sLC_l0 : ∀ (m c : Nat) (out : List Int), Rel xs.length c out → (blF c 0 8).length = m → Ev (fun k => spec_LastCostOrder.l0 k xs out t) (ordL xs t m c out, true) := by
  intro m
  induction m with
  | zero =>
    intro c out h hm
    have := h.cnt
    refine ev_succ ?_
    simp only [spec_LastCostOrder.l0, if_neg (show ¬ (out.length : Int) < (xs.length : Int) by omega), ordL]
    exact ev_now _
  | succ m ih =>
    intro c out h hm
    have := h.cnt
    have h8 := pow8 _ hn
    obtain ⟨h1, h2, h3⟩ := next_ok hn hdesc c h.lt (by omega)
    have hpc := pc_less c (by have := h.lt; omega) (nextC xs t c) (by omega) h3
    refine ev_succ ?_
    simp only [spec_LastCostOrder.l0, if_pos (show (out.length : Int) < (xs.length : Int) by omega), ordL]
    refine sLC_l1 hn ht c out h _ ?_ xs.length 0 (-1) (Nat.zero_add _) (Or.inl rfl) rfl
    rw [h1]
    exact ih _ _ (h.next hn _ h2 h3) (by omega)
omit hdesc
theorem iLC_l2 (c : Nat) (hc : c < 2 ^ xs.length) (X : List Int) (m b : Int) (j : Nat) (hj : j < xs.length) (p : Nat) (hp : p < 100) (R : List Int × Bool) (o : Bool)
    (hnext : Ev (fun k => if o = true then (if b < 0 then (impl_LastCostOrder.l1 k xs t X (c : Int) m (j : Int) (blF c 0 xs.length) ((blF c 0 xs.length).length : Int) ((p + 1 : Nat) : Int)) else (if 0 ≤ (j : Int) then (if (j : Int) < (xs.length : Int) then (if 0 ≤ b then (if b < (xs.length : Int) then (if ((rd_T79 xs (j : Int)).f3) ≥ ((rd_T79 xs b).f3) then (impl_LastCostOrder.l1 k xs t X (c : Int) m (j : Int) (blF c 0 xs.length) ((blF c 0 xs.length).length : Int) ((p + 1 : Nat) : Int)) else (impl_LastCostOrder.l1 k xs t X (c : Int) m b (blF c 0 xs.length) ((blF c 0 xs.length).length : Int) ((p + 1 : Nat) : Int))) else none) else none) else none) else none)) else (impl_LastCostOrder.l1 k xs t X (c : Int) m b (blF c 0 xs.length) ((blF c 0 xs.length).length : Int) ((p + 1 : Nat) : Int))) R) :
    ∀ (d q : Nat) (a : Bool), q + d = (blF c 0 xs.length).length → (a && ((blF c 0 xs.length).drop q).all (fun x => !tb t j x.toNat)) = o → Ev (fun k => impl_LastCostOrder.l2 k xs t X (c : Int) m b (j : Int) a (blF c 0 xs.length) ((blF c 0 xs.length).length : Int) (p : Int) (blF c 0 xs.length) ((blF c 0 xs.length).length : Int) (q : Int)) R := by
  have hl := ht.1
  have hbl := blF_len c xs.length 0
  have hr : (rd_L5 t (j : Int)).length = xs.length := by rw [rdBB t j (by omega)]; exact ht.row j hj
  intro d
  induction d with
  | zero =>
    intro q a hq ha
    rw [List.drop_of_length_le (by omega), List.all_nil, Bool.and_true] at ha
    subst ha
    refine ev_succ ?_
    simp only [impl_LastCostOrder.l2, if_neg (show ¬ (q : Int) < ((blF c 0 xs.length).length : Int) by omega), wsucc p (by omega)]
    exact hnext
  | succ d ih =>
    intro q a hq ha
    refine ev_succ ?_
    have hx : q < (blF c 0 xs.length).length := by omega
    obtain ⟨i, hi, _, hil, _⟩ := blF_mem c _ _ _ (List.getElem_mem hx)
    rw [List.drop_eq_getElem_cons hx, List.all_cons, hi, Int.toNat_natCast] at ha
    simp only [impl_LastCostOrder.l2, if_pos (show (q : Int) < ((blF c 0 xs.length).length : Int) by omega), if_pos (show (0 : Int) ≤ (q : Int) by omega), if_pos (show (0 : Int) ≤ (j : Int) by omega), if_pos (show (j : Int) < (t.length : Int) by omega), rdz _ q hx, hi, if_pos (show (0 : Int) ≤ (i : Int) by omega), if_pos (show (i : Int) < ((rd_L5 t (j : Int)).length : Int) by omega), rdTT ht j i hj (by omega), wsucc q (by omega)]
    cases a
    · simp only [Bool.false_eq_true, if_false]
      exact ih (q + 1) false (by omega) (by rw [Bool.false_and] at ha ⊢; exact ha)
    · simp only [if_true]
      exact ih (q + 1) _ (by omega) (by rw [Bool.true_and] at ha; exact ha)
omit hn ht in
theorem all_op (c j : Nat) : ∀ d k : Nat, (blF c k d).all (fun x => !tb t j x.toNat) = opF t c j k d := by
  intro d
  induction d with
  | zero => intro k; rfl
  | succ d ih =>
    intro k
    unfold opF bitB
    by_cases hb : c / 2 ^ k % 2 = 1
    · rw [blF_hit hb, List.all_cons, ih, decide_eq_true hb, Int.toNat_natCast, Bool.and_true]
    · rw [blF_miss hb, ih, decide_eq_false hb, Bool.and_false, Bool.not_false, Bool.true_and]
theorem iLC_l1 (c : Nat) (hc : c < 2 ^ xs.length) (X : List Int) (m : Int) (R : List Int × Bool)
    (hnext : Ev (fun k => if 0 ≤ m then (if m < (X.length : Int) then (if 0 ≤ lastP xs t c 0 (-1) xs.length then (impl_LastCostOrder.l0 k xs t (X.set (m : Int).toNat (lastP xs t c 0 (-1) xs.length)) (Go.bits .andNot .i64 (c : Int) (shl .i64 1 (lastP xs t c 0 (-1) xs.length))) (wrap64 (m - 1))) else none) else none) else none) R) :
    ∀ (d j p : Nat) (b : Int), j + d = xs.length → (blF c 0 xs.length).drop p = blF c j d → (b = -1 ∨ ∃ q : Nat, b = (q : Int) ∧ q < xs.length ∧ c / 2 ^ q % 2 = 1) → lastP xs t c j b d = lastP xs t c 0 (-1) xs.length → Ev (fun k => impl_LastCostOrder.l1 k xs t X (c : Int) m b (blF c 0 xs.length) ((blF c 0 xs.length).length : Int) (p : Int)) R := by
  have hbl := blF_len c xs.length 0
  intro d
  induction d with
  | zero =>
    intro j p b hj hd hb he
    have hp : (blF c 0 xs.length).length ≤ p := by
      have := congrArg List.length hd
      rw [List.length_drop] at this
      simp only [blF, List.length_nil] at this
      omega
    refine ev_succ ?_
    simp only [impl_LastCostOrder.l1, if_neg (show ¬ (p : Int) < ((blF c 0 xs.length).length : Int) by omega)]
    rw [show b = lastP xs t c 0 (-1) xs.length from he]
    exact hnext
  | succ d ih =>
    intro j p b hj hd hb he
    have hjl : j < xs.length := by omega
    rw [lastP] at he
    by_cases hbit : c / 2 ^ j % 2 = 1
    · rw [blF_hit hbit] at hd
      have hp : p < (blF c 0 xs.length).length := by
        have := congrArg List.length hd
        rw [List.length_drop, List.length_cons] at this
        omega
      rw [List.drop_eq_getElem_cons hp] at hd
      have hg : (blF c 0 xs.length)[p] = (j : Int) := (List.cons.inj hd).1
      have hd' := (List.cons.inj hd).2
      have hbb : bitB c j = true := decide_eq_true hbit
      rw [hbb, Bool.and_true] at he
      refine ev_succ ?_
      simp only [impl_LastCostOrder.l1, if_pos (show (p : Int) < ((blF c 0 xs.length).length : Int) by omega), if_pos (show (0 : Int) ≤ (p : Int) by omega), rdz _ p hp, hg]
      refine ev_bind (listOf_ev c _ hn hc) ?_
      refine iLC_l2 hn ht c hc X m b j hjl p (by omega) R (opF t c j 0 xs.length) ?_ _ 0 true (Nat.zero_add _) (by rw [List.drop_zero, Bool.true_and]; exact all_op c j xs.length 0)
      cases hop : opF t c j 0 xs.length
      · rw [hop, if_neg (by decide)] at he
        simp only [Bool.false_eq_true, if_false]
        exact ih (j + 1) (p + 1) b (by omega) hd' hb he
      · rw [hop, if_pos rfl] at he
        simp only [if_true]
        by_cases c1 : b < 0
        · have e : bestS xs b j = (j : Int) := by unfold bestS; rw [if_pos c1]
          rw [e] at he
          simp only [if_pos c1]
          exact ih (j + 1) (p + 1) _ (by omega) hd' (Or.inr ⟨j, rfl, hjl, hbit⟩) he
        · have hbl' : b < (xs.length : Int) := by
            rcases hb with hb | ⟨q, e, hq, _⟩ <;> omega
          simp only [if_neg c1, if_pos (show (0 : Int) ≤ (j : Int) by omega), if_pos (show (j : Int) < (xs.length : Int) by omega), if_pos (show 0 ≤ b by omega), if_pos hbl']
          by_cases c2 : (rd_T79 xs (j : Int)).f3 ≥ (rd_T79 xs b).f3
          · have e : bestS xs b j = (j : Int) := by unfold bestS; rw [if_neg c1, if_pos c2]
            rw [e] at he
            simp only [if_pos c2]
            exact ih (j + 1) (p + 1) _ (by omega) hd' (Or.inr ⟨j, rfl, hjl, hbit⟩) he
          · have e : bestS xs b j = b := by unfold bestS; rw [if_neg c1, if_neg c2]
            rw [e] at he
            simp only [if_neg c2]
            exact ih (j + 1) (p + 1) b (by omega) hd' hb he
    · rw [blF_miss hbit] at hd
      have hbb : bitB c j = false := decide_eq_false hbit
      rw [hbb, Bool.and_false, if_neg (by decide)] at he
      exact ih (j + 1) p b (by omega) hd hb he
include hdesc
theorem iLC_l0 : ∀ (m c : Nat) (Z out : List Int), Rel xs.length c out → (blF c 0 8).length = m → Z.length = m → Ev (fun k => impl_LastCostOrder.l0 k xs t (Z ++ out) (c : Int) ((m : Int) - 1)) (ordL xs t m c out, true) := by
  intro m
  induction m with
  | zero =>
    intro c Z out h hm hz
    refine ev_succ ?_
    rw [List.length_eq_zero_iff.mp hz, List.nil_append]
    simp only [impl_LastCostOrder.l0, ge_iff_le, if_neg (show ¬ (0 : Int) ≤ ((0 : Nat) : Int) - 1 by omega), ordL]
    exact ev_now _
  | succ m ih =>
    intro c Z out h hm hz
    have hcnt := h.cnt
    have hlt := h.lt
    have h8 := pow8 _ hn
    obtain ⟨h1, h2, h3⟩ := next_ok hn hdesc c h.lt (by omega)
    have hpc := pc_less c (by omega) (nextC xs t c) (by omega) h3
    rcases List.eq_nil_or_concat Z with rfl | ⟨Y, y, rfl⟩
    · simp at hz
    have hy : Y.length = m := by simpa using hz
    refine ev_succ ?_
    simp only [impl_LastCostOrder.l0, ge_iff_le, if_pos (show (0 : Int) ≤ ((m + 1 : Nat) : Int) - 1 by omega), ordL]
    refine ev_bind (listOf_ev c _ hn h.lt) ?_
    rw [show ((m + 1 : Nat) : Int) - 1 = (m : Int) by omega]
    refine iLC_l1 hn ht c h.lt _ _ _ ?_ xs.length 0 0 (-1) (Nat.zero_add _) (by rw [List.drop_zero]) (Or.inl rfl) rfl
    have hX : (Y.concat y ++ out).length = m + 1 + out.length := by simp; omega
    rw [h1]
    simp only [if_pos (show (0 : Int) ≤ (m : Int) by omega), if_pos (show (m : Int) < ((Y.concat y ++ out).length : Int) by omega), if_pos (show (0 : Int) ≤ (nextC xs t c : Int) by omega), Int.toNat_natCast, shl1 _ (show nextC xs t c < 9 by omega), andn c (by omega) _ (by omega) h3, w64 (x := (m : Int) - 1) (by omega) (by omega)]
    rw [show (Y.concat y ++ out).set m (nextC xs t c : Int) = Y ++ (nextC xs t c : Int) :: out by
      rw [List.concat_eq_append, List.append_assoc]; exact set_mid Y out y _ m hy.symm]
    exact ih _ Y _ (h.next hn _ h2 h3) (by omega) hy
end
theorem core (l : List S79) (es : List S71) (hm : l.length ≤ 1048576) (_ : ∀ (i : Nat) (hi : i < l.length), I64 l[i].f0 ∧ I64 l[i].f1 ∧ I64 l[i].f2 ∧ I64 l[i].f3) (he : es.length ≤ 1048576) :
    ∃ (r : List Int) (ok : Bool), r.length ≤ 1048576 ∧ Ev (fun k => spec_LastCostOrder.f k l es) (r, ok) ∧ Ev (fun k => impl_LastCostOrder.f k l es) (r, ok) := by
  have h1 := l4Two_ev l es hm he
  have h2 := isPreceded_ev l es hm
  have f1 := l4Free_ev l (by omega)
  have f2 := isPlain_ev l (by omega)
  have n1 : Ev (fun k => spec_LastCostOrder.j0 k l es [] true) ([], false) := ev_succ (by simp only [spec_LastCostOrder.j0, if_true]; exact ev_now _)
  have n2 : Ev (fun k => impl_LastCostOrder.j0 k l es true) ([], false) := ev_succ (by simp only [impl_LastCostOrder.j0, if_true]; exact ev_now _)
  unfold spec_LastCostOrder.f impl_LastCostOrder.f
  simp only [Option.bind_some]
  cases hp : (goodB l && good4 (l.length : Int) es)
  · rw [hp] at h1 h2
    exact ⟨[], false, by simp, ev_bind h1 (by simp only [Bool.false_eq_true, if_false]; exact n1), ev_bind h2 (by simp only [Bool.false_eq_true, if_false]; exact n2)⟩
  rw [hp] at h1 h2
  rw [Bool.and_eq_true] at hp
  rw [good_free l hp.1] at f1
  cases hf : l.all freeJ
  · rw [hf] at f1 f2
    exact ⟨[], false, by simp, ev_bind h1 (by simp only [if_true]; exact ev_bind f1 (by simp only [Bool.not_false]; exact n1)), ev_bind h2 (by simp only [if_true]; exact ev_bind f2 (by simp only [Bool.not_false]; exact n2))⟩
  rw [hf] at f1 f2
  obtain ⟨hn, _, hin, hirr⟩ := two_facts l es hp.2
  have hsq := clos_sq _ es hin
  have h8 := pow8 _ hn
  have hpos := Nat.two_pow_pos l.length
  have hdesc := fun j i hj hi hb => cnt_desc l.length es hin hirr j i hj hi hb
  have hpc := pc_all l.length (by omega)
  have hR : Rel l.length (2 ^ l.length - 1) [] := ⟨by omega, fun j hj => ⟨fun _ => by simp, fun _ => bit_full l.length (by omega) j hj⟩, by rw [hpc]; simp⟩
  have hw : wrap64 (((2 ^ l.length : Nat) : Int) - 1) = ((2 ^ l.length - 1 : Nat) : Int) := by rw [w64 (by omega) (by omega)]; omega
  refine ⟨ordL l (closT l.length es) l.length (2 ^ l.length - 1) [], true, by rw [ordL_len]; simp; omega, ev_bind h1 ?_, ev_bind h2 ?_⟩
  · simp only [if_true]
    refine ev_bind f1 ?_
    simp only [Bool.not_true]
    refine ev_succ ?_
    simp only [spec_LastCostOrder.j0, Bool.false_eq_true, if_false]
    exact ev_bind (l4Table_ev _ hn es he hin) (sLC_l0 hn hsq hdesc l.length _ [] hR hpc)
  · simp only [if_true]
    refine ev_bind f2 ?_
    simp only [Bool.not_true]
    refine ev_succ ?_
    simp only [impl_LastCostOrder.j0, Bool.false_eq_true, if_false]
    refine ev_bind (closure_ev _ hn es he hin) ?_
    simp only [if_pos (show (0 : Int) ≤ (l.length : Int) by omega), Int.toNat_natCast, if_pos (show l.length ≤ 35184372088832 by omega), shl1 _ (show l.length < 9 by omega), hw, w64 (x := (l.length : Int) - 1) (by omega) (by omega)]
    have h := iLC_l0 hn hsq hdesc l.length (2 ^ l.length - 1) (List.replicate l.length 0) [] hR hpc (by simp)
    rw [List.append_nil] at h
    exact h

theorem FnExactLastCostOrder : FnExactLastCostOrder.Claim := by
  intro l0 l1 hl0 hg0 hl1 hg1
  refine Ev.rounds ?_
  unfold laws_FnExactLastCostOrder.f
  simp only [szJobS_eq l0 (1048576 : Int) (by omega) (by omega) hl0, Option.bind_some]
  by_cases h0 : (1048576 : Int) < l0.length
  · simp only [if_pos h0, if_pos (show (-1 : Int) < 0 by omega)]
    exact ev_now _
  simp only [if_neg h0, if_neg (show ¬ (((1048576 : Int) - l0.length) < 0) by omega)]
  simp only [szIntA2S_eq l1 ((1048576 : Int) - l0.length) (by omega) (by omega) hl1, Option.bind_some]
  by_cases h1 : ((1048576 : Int) - l0.length) < l1.length
  · simp only [if_pos h1, if_pos (show (-1 : Int) < 0 by omega)]
    exact ev_now _
  simp only [if_neg h1, if_neg (show ¬ ((((1048576 : Int) - l0.length) - l1.length) < 0) by omega)]
  have ht0 := toJobS_ev l0 (by omega)
  have hm0 : (l0.map conv).length ≤ 1048576 := by simp; omega
  have hq0 := eqJobS_ev (l0.map conv) (by omega)
  have ht1 := toIntA2S_ev l1 (by omega)
  have hm1 : l1.length ≤ 1048576 := by omega
  have hq1 := eqIntA2S_ev l1 (by omega)
  obtain ⟨r0, r1, hr0, hs, hi⟩ := core (l0.map conv) l1 hm0 (conv_I64 l0 hg0) hm1
  obtain ⟨qa0, ya0, _, hb0, ma0⟩ := markJobS_from1 (l0.map conv) hm0
  obtain ⟨qa1, ya1, _, hb1, ma1⟩ := markIntA2S_from l1 hm1 qa0 (by omega)
  have he0 := eqIntS_ev r0 (by omega)
  obtain ⟨q0, y0, hq_0, m0, e0⟩ := markIntS_ev r0 hr0
  repeat first
    | exact ev_now _
    | with_reducible refine ev_bind hs ?_
    | with_reducible refine ev_bind hi ?_
    | with_reducible refine ev_bind ht0 ?_
    | with_reducible refine ev_bind hq0 ?_
    | with_reducible refine ev_bind ht1 ?_
    | with_reducible refine ev_bind hq1 ?_
    | with_reducible refine ev_bind ma0 ?_
    | with_reducible refine ev_bind ma1 ?_
    | with_reducible refine ev_bind he0 ?_
    | with_reducible refine ev_bind m0 ?_
    | with_reducible refine ev_bind e0 ?_
    | simp only [if_true, if_false, bne_self_eq_false, Bool.false_eq_true, if_neg (show ¬ ((qa0 : Int) < 0) by omega), if_neg (show ¬ ((qa1 : Int) < 0) by omega), if_neg (show ¬ ((q0 : Int) < 0) by omega)]
    | (refine ev_succ ?_; simp only [laws_FnExactLastCostOrder.j0])
    | (refine ev_succ ?_; simp only [laws_FnExactLastCostOrder.j1])
    | (refine ev_succ ?_; simp only [laws_FnExactLastCostOrder.j2])

end Go.Proofs.Ytecdigebnhlfhaa.Pure
