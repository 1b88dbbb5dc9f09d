/- The program's function and the reference's come to the same answer: the statement of numbers and lists behind the law FnExactBestExtension. Conditions: none. -/
import Derived.Test.YtlhppclbokkfmaaArgFnExactBestExtension
import Derived.Test.YtlhppclbokkfmaaBase
namespace Go.Proofs.Ytlhppclbokkfmaa.Pure
open Go.RowKit Go.Proofs.Ytlhppclbokkfmaa.OFnExactBestExtension Go.Proofs.Ytlhppclbokkfmaa.Base Go.Proofs.YtlhppclbokkfmaaW.PrintWords Go.Proofs.YtlhppclbokkfmaaW.PrintLast Go.Proofs.YtlhppclbokkfmaaW.PrintMore Go.Proofs.Ytlhppclbokkfmaa.Open
set_option linter.unusedVariables false
set_option linter.unusedSimpArgs false

mutual
def laws_heldIntA2S.l0 : Nat → List (S53) → Int → Int → Option (Int)
  | 0, _, _, _ => none
  | k + 1, x0, x1, x5 => if x5 < (x0.length : Int) then (laws_heldIntA2S.l1 k x0 x1 x5 0) else (some x1)
def laws_heldIntA2S.l1 : Nat → List (S53) → Int → Int → Int → Option (Int)
  | 0, _, _, _, _ => none
  | k + 1, x0, x1, x5, x6 => if x6 < 2 then (if 0 ≤ x5 then (if x5 < (x0.length : Int) then (if x6 = 0 then (if ((rd_T53 x0 x5).f0) = x1 then (laws_heldIntA2S.l1 k x0 (wrap64 (x1 + 1)) x5 (wrap64 (x6 + 1))) else (some (-1))) else (if x6 = 1 then (if ((rd_T53 x0 x5).f1) = x1 then (laws_heldIntA2S.l1 k x0 (wrap64 (x1 + 1)) x5 (wrap64 (x6 + 1))) else (some (-1))) else (none))) else (none)) else (none)) else (laws_heldIntA2S.l0 k x0 x1 (wrap64 (x5 + 1)))
end
def laws_heldJobS.l0 : Nat → List (S50) → Int → Int → Option (Int)
  | 0, _, _, _ => none
  | k + 1, x0, x1, x5 => if x5 < (x0.length : Int) then (if 0 ≤ x5 then (if ((rd_T50 x0 x5).f0) = x1 then (if ((rd_T50 x0 x5).f1) = (wrap64 (x1 + 1)) then (if ((rd_T50 x0 x5).f2) = (wrap64 ((wrap64 (x1 + 1)) + 1)) then (if ((rd_T50 x0 x5).f3) = (wrap64 ((wrap64 ((wrap64 (x1 + 1)) + 1)) + 1)) then (laws_heldJobS.l0 k x0 (wrap64 ((wrap64 ((wrap64 ((wrap64 (x1 + 1)) + 1)) + 1)) + 1)) (wrap64 (x5 + 1))) else (some (-1))) else (some (-1))) else (some (-1))) else (some (-1))) else (none)) else (some x1)
theorem szJobS_eq (xs : List S52) (left : Int) (h0 : 0 ≤ left) (h1 : left ≤ 1048576) (h : xs.length ≤ 9223372036854775807) : laws_szJobS.f xs left = some (if left < xs.length then -1 else left - xs.length) := by
  unfold laws_szJobS.f
  rw [w64 (by omega) (by omega)]
  by_cases c : left < xs.length
  · rw [if_pos (by omega), if_pos c]
  · rw [if_neg (by omega), if_neg c]

def conv (x : S52) : S50 := ⟨x.f0, x.f1, x.f2, x.f3⟩
theorem rdL (xs : List S52) (i : Nat) (h : i < xs.length) : rd_T52 xs (i : Int) = xs[i] := by
  unfold rd_T52
  rw [Int.toNat_natCast, List.getD_eq_getElem?_getD, List.getElem?_eq_getElem h]
  rfl

theorem toJobS_l (xs : List S52) (hn : xs.length ≤ 8796093022208) : ∀ (d i : Nat) (ys : List S50), i + d = xs.length → ys.length = xs.length → ys.take i = (xs.map conv).take i → Ev (fun k => laws_toJobS.l0 k xs ys (i : Int)) (xs.map conv) := by
  intro d
  induction d with
  | zero =>
    intro i ys hi hl ht
    refine ev_succ ?_
    simp only [laws_toJobS.l0, if_neg (show ¬ (i : Int) < (xs.length : Int) by omega)]
    have : ys = xs.map conv := by
      rw [List.take_of_length_le (by omega), List.take_of_length_le (by simp; omega)] at ht
      exact ht
    rw [this]
    exact ev_now _
  | succ d ih =>
    intro i ys hi hl ht
    refine ev_succ ?_
    have hx : i < xs.length := by omega
    simp only [laws_toJobS.l0, laws_toJob.f, Option.bind_some, if_pos (show (i : Int) < (xs.length : Int) by omega), if_pos (show (i : Int) < (ys.length : Int) by omega), if_pos (show (0 : Int) ≤ (i : Int) by omega), rdL xs i hx, wsucc i (by omega), Int.toNat_natCast]
    refine ih (i + 1) _ (by omega) (by rw [List.length_set]; exact hl) ?_
    rw [take_set_succ ys i _ (by omega), ht, List.take_succ_eq_append_getElem (by simp; omega)]
    simp [conv]
theorem toJobS_ev (xs : List S52) (hn : xs.length ≤ 1048576) : Ev (fun k => laws_toJobS.f k xs) (xs.map conv) := by
  unfold laws_toJobS.f
  simp only [if_pos (show (0 : Int) ≤ (xs.length : Int) by omega), Int.toNat_natCast, if_pos (show xs.length ≤ 8796093022208 by omega)]
  exact toJobS_l xs (by omega) xs.length 0 _ (by omega) (by simp) (by simp)

theorem rdI (xs : List S50) (i : Nat) (h : i < xs.length) : rd_T50 xs (i : Int) = xs[i] := by
  unfold rd_T50
  rw [Int.toNat_natCast, List.getD_eq_getElem?_getD, List.getElem?_eq_getElem h]
  rfl

theorem eqJobS_l (xs : List S50) (hn : xs.length ≤ 4611686018427387904) : ∀ (d i : Nat), i + d = xs.length → Ev (fun k => laws_eqJobS.l0 k xs xs (i : Int)) true := by
  intro d
  induction d with
  | zero =>
    intro i hi
    refine ev_succ ?_
    simp only [laws_eqJobS.l0, if_neg (show ¬ (i : Int) < (xs.length : Int) by omega)]
    exact ev_now _
  | succ d ih =>
    intro i hi
    refine ev_succ ?_
    simp only [laws_eqJobS.l0, laws_eqJob.f, if_true, Option.bind_some, if_pos (show (i : Int) < (xs.length : Int) by omega), if_pos (show (0 : Int) ≤ (i : Int) by omega), wsucc i (by omega)]
    exact ih (i + 1) (by omega)
theorem eqJobS_ev (xs : List S50) (hn : xs.length ≤ 4611686018427387904) : Ev (fun k => laws_eqJobS.f k xs xs) true := by
  unfold laws_eqJobS.f
  simp only [if_true]
  exact eqJobS_l xs hn xs.length 0 (by omega)

theorem conv_I64 (l : List S52) (hg : ∀ x ∈ l, G52 x) (i : Nat) (hi : i < (l.map conv).length) : I64 (l.map conv)[i].f0 ∧ I64 (l.map conv)[i].f1 ∧ I64 (l.map conv)[i].f2 ∧ I64 (l.map conv)[i].f3 := by
  simp only [List.getElem_map, conv]
  exact hg _ (List.getElem_mem _)

theorem szIntA2S_eq (xs : List S53) (left : Int) (h0 : 0 ≤ left) (h1 : left ≤ 1048576) (h : xs.length ≤ 9223372036854775807) : laws_szIntA2S.f xs left = some (if left < xs.length then -1 else left - xs.length) := by
  unfold laws_szIntA2S.f
  rw [w64 (by omega) (by omega)]
  by_cases c : left < xs.length
  · rw [if_pos (by omega), if_pos c]
  · rw [if_neg (by omega), if_neg c]

theorem rdA2 (xs : List S53) (i : Nat) (h : i < xs.length) : rd_T53 xs (i : Int) = xs[i] := by
  unfold rd_T53
  rw [Int.toNat_natCast, List.getD_eq_getElem?_getD, List.getElem?_eq_getElem h]
  rfl
theorem w01 : wrap64 (0 + 1) = 1 := by unfold wrap64; omega
theorem w11 : wrap64 (1 + 1) = 2 := by unfold wrap64; omega

theorem toIntA2_ev (a b : Int) : Ev (fun k => laws_toIntA2.f k a b) (a, b) := by
  unfold laws_toIntA2.f
  refine ev_succ ?_
  simp only [laws_toIntA2.l0, if_pos (show (0 : Int) < 2 by omega), if_true, w01]
  refine ev_succ ?_
  simp only [laws_toIntA2.l0, if_pos (show (1 : Int) < 2 by omega), if_neg (show ¬ (1 : Int) = 0 by omega), if_true, w11]
  refine ev_succ ?_
  simp only [laws_toIntA2.l0, if_neg (show ¬ (2 : Int) < 2 by omega)]
  exact ev_now _
theorem toIntA2S_l (xs : List S53) (hn : xs.length ≤ 1048576) : ∀ (d i : Nat) (ys : List S53), i + d = xs.length → ys.length = xs.length → ys.take i = xs.take i → Ev (fun k => laws_toIntA2S.l0 k xs ys (i : Int)) xs := by
  intro d
  induction d with
  | zero =>
    intro i ys hi hl ht
    refine ev_succ ?_
    simp only [laws_toIntA2S.l0, if_neg (show ¬ (i : Int) < (xs.length : Int) by omega)]
    have : ys = xs := by
      rw [List.take_of_length_le (by omega), List.take_of_length_le (by omega)] at ht
      exact ht
    rw [this]
    exact ev_now _
  | succ d ih =>
    intro i ys hi hl ht
    refine ev_succ ?_
    have hx : i < xs.length := by omega
    simp only [laws_toIntA2S.l0, if_pos (show (i : Int) < (xs.length : Int) by omega), if_pos (show (0 : Int) ≤ (i : Int) by omega), rdA2 xs i hx, wsucc i (by omega)]
    refine ev_bind (toIntA2_ev _ _) ?_
    simp only [if_pos (show (i : Int) < (ys.length : Int) by omega), Int.toNat_natCast]
    refine ih (i + 1) _ (by omega) (by rw [List.length_set]; exact hl) ?_
    rw [take_set_succ ys i _ (by omega), ht, List.take_succ_eq_append_getElem hx]
theorem toIntA2S_ev (xs : List S53) (hn : xs.length ≤ 1048576) : Ev (fun k => laws_toIntA2S.f k xs) xs := by
  unfold laws_toIntA2S.f
  simp only [if_pos (show (0 : Int) ≤ (xs.length : Int) by omega), Int.toNat_natCast, if_pos (show xs.length ≤ 17592186044416 by omega)]
  exact toIntA2S_l xs hn xs.length 0 _ (by omega) (by simp) (by simp)

theorem eqIntA2_ev (a b : Int) : Ev (fun k => laws_eqIntA2.f k a b a b) true := by
  unfold laws_eqIntA2.f
  refine ev_succ ?_
  simp only [laws_eqIntA2.l0, if_pos (show (0 : Int) < 2 by omega), if_true, w01]
  refine ev_succ ?_
  simp only [laws_eqIntA2.l0, if_pos (show (1 : Int) < 2 by omega), if_neg (show ¬ (1 : Int) = 0 by omega), if_true, w11]
  refine ev_succ ?_
  simp only [laws_eqIntA2.l0, if_neg (show ¬ (2 : Int) < 2 by omega)]
  exact ev_now _
theorem eqIntA2S_l (xs : List S53) (hn : xs.length ≤ 4611686018427387904) : ∀ (d i : Nat), i + d = xs.length → Ev (fun k => laws_eqIntA2S.l0 k xs xs (i : Int)) true := by
  intro d
  induction d with
  | zero =>
    intro i hi
    refine ev_succ ?_
    simp only [laws_eqIntA2S.l0, if_neg (show ¬ (i : Int) < (xs.length : Int) by omega)]
    exact ev_now _
  | succ d ih =>
    intro i hi
    refine ev_succ ?_
    simp only [laws_eqIntA2S.l0, if_pos (show (i : Int) < (xs.length : Int) by omega), if_pos (show (0 : Int) ≤ (i : Int) by omega), wsucc i (by omega)]
    refine ev_bind (eqIntA2_ev _ _) ?_
    simp only [if_true]
    exact ih (i + 1) (by omega)
theorem eqIntA2S_ev (xs : List S53) (hn : xs.length ≤ 4611686018427387904) : Ev (fun k => laws_eqIntA2S.f k xs xs) true := by
  unfold laws_eqIntA2S.f
  simp only [if_true]
  exact eqIntA2S_l xs hn xs.length 0 (by omega)

theorem rdI_set (xs : List S50) (i : Nat) (h : i < xs.length) (v : S50) : rd_T50 (xs.set i v) (i : Int) = v := by
  rw [rdI _ i (by rw [List.length_set]; exact h)]
  simp
theorem markJobS_l : ∀ (d i m : Nat) (xs : List S50), i + d = xs.length → m + 4 * d ≤ 1152921504606846976 → xs.length ≤ 1152921504606846976 →
    ∃ (q : Nat) (ys : List S50), Ev (fun k => laws_markJobS.l0 k xs (m : Int) (i : Int)) ((q : Int), ys) ∧ ys.length = xs.length ∧ ys.take i = xs.take i ∧ m ≤ q ∧ q ≤ m + 4 * d ∧ Ev (fun k => laws_heldJobS.l0 k ys (m : Int) (i : Int)) (q : Int) := by
  intro d
  induction d with
  | zero =>
    intro i m xs hi hmd hxl
    refine ⟨m, xs, ev_succ ?_, rfl, rfl, Nat.le_refl _, by omega, ev_succ ?_⟩
    · simp only [laws_markJobS.l0, if_neg (show ¬ (i : Int) < (xs.length : Int) by omega)]
      exact ev_now _
    · simp only [laws_heldJobS.l0, if_neg (show ¬ (i : Int) < (xs.length : Int) by omega)]
      exact ev_now _
  | succ d ih =>
    intro i m xs hi hmd hxl
    obtain ⟨q, ys, h1, h2, h3, h4, h4', h5⟩ := ih (i + 1) (m + 4) (xs.set i ⟨(m : Int), ((m + 1 : Nat) : Int), ((m + 2 : Nat) : Int), ((m + 3 : Nat) : Int)⟩) (by rw [List.length_set]; omega) (by omega) (by rw [List.length_set]; omega)
    rw [List.length_set] at h2
    rw [take_set_succ xs i _ (by omega)] at h3
    have hy : ys[i]'(by omega) = ⟨(m : Int), ((m + 1 : Nat) : Int), ((m + 2 : Nat) : Int), ((m + 3 : Nat) : Int)⟩ := by
      have := congrArg (fun l => l[i]?) h3
      simp only [List.getElem?_take, if_pos (show i < i + 1 by omega)] at this
      rw [List.getElem?_append_right (by simp; omega), List.getElem?_eq_getElem (by omega)] at this
      simpa [Nat.min_eq_left (show i ≤ xs.length by omega)] using this
    refine ⟨q, ys, ev_succ ?_, h2, ?_, by omega, by omega, ev_succ ?_⟩
    · simp only [laws_markJobS.l0, Option.bind_some, if_pos (show (i : Int) < (xs.length : Int) by omega), if_pos (show (0 : Int) ≤ (i : Int) by omega), wsucc i (by omega), wsucc m (by omega), wsucc (m + 1) (by omega), wsucc (m + 2) (by omega), wsucc (m + 3) (by omega), Int.toNat_natCast, rdI_set xs i (by omega), List.set_set]
      exact h1
    · have := congrArg (fun l => l.take i) h3
      simp only [List.take_take, Nat.min_eq_left (show i ≤ i + 1 by omega)] at this
      rw [this, List.take_append_of_le_length (by simp; omega), List.take_take, Nat.min_self]
    · simp only [laws_heldJobS.l0, if_pos (show (i : Int) < (ys.length : Int) by omega), if_pos (show (0 : Int) ≤ (i : Int) by omega), wsucc i (by omega), wsucc m (by omega), wsucc (m + 1) (by omega), wsucc (m + 2) (by omega), wsucc (m + 3) (by omega), rdI ys i (by omega), hy, if_true]
      exact h5
theorem markJobS_from (xs : List S50) (h : xs.length ≤ 1048576) (m : Nat) (hm : m ≤ 1000000000) : ∃ (q : Nat) (ys : List S50), m ≤ q ∧ q ≤ m + 4194304 ∧ Ev (fun k => laws_markJobS.f k xs (m : Int)) ((q : Int), ys) := by
  obtain ⟨q, ys, h1, h2, h3, h4, h4', h5⟩ := markJobS_l xs.length 0 m xs (by omega) (by omega) (by omega)
  exact ⟨q, ys, h4, by omega, h1⟩
theorem markJobS_from1 (xs : List S50) (h : xs.length ≤ 1048576) : ∃ (q : Nat) (ys : List S50), 1 ≤ q ∧ q ≤ 1 + 4194304 ∧ Ev (fun k => laws_markJobS.f k xs 1) ((q : Int), ys) := markJobS_from xs h 1 (by omega)

theorem rdA2_set (xs : List S53) (i : Nat) (h : i < xs.length) (v : S53) : rd_T53 (xs.set i v) (i : Int) = v := by
  rw [rdA2 _ i (by rw [List.length_set]; exact h)]
  simp
theorem markIntA2S_l : ∀ (d i m : Nat) (xs : List S53), i + d = xs.length → m + 2 * d ≤ 1152921504606846976 → xs.length ≤ 1152921504606846976 →
    ∃ (q : Nat) (ys : List S53), Ev (fun k => laws_markIntA2S.l0 k xs (m : Int) (i : Int)) ((q : Int), ys) ∧ ys.length = xs.length ∧ ys.take i = xs.take i ∧ m ≤ q ∧ q ≤ m + 2 * d ∧ Ev (fun k => laws_heldIntA2S.l0 k ys (m : Int) (i : Int)) (q : Int) := by
  intro d
  induction d with
  | zero =>
    intro i m xs hi hmd hxl
    refine ⟨m, xs, ev_succ ?_, rfl, rfl, Nat.le_refl _, by omega, ev_succ ?_⟩
    · simp only [laws_markIntA2S.l0, if_neg (show ¬ (i : Int) < (xs.length : Int) by omega)]
      exact ev_now _
    · simp only [laws_heldIntA2S.l0, if_neg (show ¬ (i : Int) < (xs.length : Int) by omega)]
      exact ev_now _
  | succ d ih =>
    intro i m xs hi hmd hxl
    obtain ⟨q, ys, h1, h2, h3, h4, h4', h5⟩ := ih (i + 1) (m + 2) (xs.set i ⟨(m : Int), ((m + 1 : Nat) : Int)⟩) (by rw [List.length_set]; omega) (by omega) (by rw [List.length_set]; omega)
    rw [List.length_set] at h2
    rw [take_set_succ xs i _ (by omega)] at h3
    have hy : ys[i]'(by omega) = ⟨(m : Int), ((m + 1 : Nat) : Int)⟩ := by
      have := congrArg (fun l => l[i]?) h3
      simp only [List.getElem?_take, if_pos (show i < i + 1 by omega)] at this
      rw [List.getElem?_append_right (by simp; omega), List.getElem?_eq_getElem (by omega)] at this
      simpa [Nat.min_eq_left (show i ≤ xs.length by omega)] using this
    have hx : i < xs.length := by omega
    refine ⟨q, ys, ev_succ ?_, h2, ?_, by omega, by omega, ev_succ ?_⟩
    · simp only [laws_markIntA2S.l0, if_pos (show (i : Int) < (xs.length : Int) by omega)]
      refine ev_succ ?_
      simp only [laws_markIntA2S.l1, if_pos (show (0 : Int) < 2 by omega), if_pos (show (0 : Int) ≤ (i : Int) by omega), if_pos (show (i : Int) < (xs.length : Int) by omega), if_true, w01, wsucc m (by omega), Int.toNat_natCast, rdA2 xs i hx]
      refine ev_succ ?_
      have hl : (xs.set i ⟨(m : Int), xs[i].f1⟩).length = xs.length := List.length_set
      simp only [laws_markIntA2S.l1, if_pos (show (1 : Int) < 2 by omega), if_neg (show ¬ (1 : Int) = 0 by omega), if_true, w11, if_pos (show (0 : Int) ≤ (i : Int) by omega), if_pos (show (i : Int) < ((xs.set i ⟨(m : Int), xs[i].f1⟩).length : Int) by rw [hl]; omega), wsucc (m + 1) (by omega), Int.toNat_natCast, rdA2_set xs i hx, List.set_set]
      refine ev_succ ?_
      simp only [laws_markIntA2S.l1, if_neg (show ¬ (2 : Int) < 2 by omega), wsucc i (by omega)]
      exact h1
    · have := congrArg (fun l => l.take i) h3
      simp only [List.take_take, Nat.min_eq_left (show i ≤ i + 1 by omega)] at this
      rw [this, List.take_append_of_le_length (by simp; omega), List.take_take, Nat.min_self]
    · simp only [laws_heldIntA2S.l0, if_pos (show (i : Int) < (ys.length : Int) by omega)]
      refine ev_succ ?_
      simp only [laws_heldIntA2S.l1, if_pos (show (0 : Int) < 2 by omega), if_pos (show (0 : Int) ≤ (i : Int) by omega), if_pos (show (i : Int) < (ys.length : Int) by omega), if_true, w01, wsucc m (by omega), rdA2 ys i (by omega), hy]
      refine ev_succ ?_
      simp only [laws_heldIntA2S.l1, if_pos (show (1 : Int) < 2 by omega), if_neg (show ¬ (1 : Int) = 0 by omega), if_pos (show (0 : Int) ≤ (i : Int) by omega), if_pos (show (i : Int) < (ys.length : Int) by omega), if_true, w11, wsucc (m + 1) (by omega), rdA2 ys i (by omega), hy]
      refine ev_succ ?_
      simp only [laws_heldIntA2S.l1, if_neg (show ¬ (2 : Int) < 2 by omega), wsucc i (by omega)]
      exact h5
theorem markIntA2S_from (xs : List S53) (h : xs.length ≤ 1048576) (m : Nat) (hm : m ≤ 1000000000) : ∃ (q : Nat) (ys : List S53), m ≤ q ∧ q ≤ m + 4194304 ∧ Ev (fun k => laws_markIntA2S.f k xs (m : Int)) ((q : Int), ys) := by
  obtain ⟨q, ys, h1, h2, h3, h4, h4', h5⟩ := markIntA2S_l xs.length 0 m xs (by omega) (by omega) (by omega)
  exact ⟨q, ys, h4, by omega, h1⟩
theorem eqIntS_l (xs : List Int) (hn : xs.length ≤ 4611686018427387904) : ∀ (d i : Nat), i + d = xs.length → Ev (fun k => laws_eqIntS.l0 k xs xs (i : Int)) true := by
  intro d
  induction d with
  | zero =>
    intro i hi
    refine ev_succ ?_
    simp only [laws_eqIntS.l0, if_neg (show ¬ (i : Int) < (xs.length : Int) by omega)]
    exact ev_now _
  | succ d ih =>
    intro i hi
    refine ev_succ ?_
    simp only [laws_eqIntS.l0, if_true, if_pos (show (i : Int) < (xs.length : Int) by omega), if_pos (show (0 : Int) ≤ (i : Int) by omega), wsucc i (by omega)]
    exact ih (i + 1) (by omega)
theorem eqIntS_ev (xs : List Int) (hn : xs.length ≤ 4611686018427387904) : Ev (fun k => laws_eqIntS.f k xs xs) true := by
  unfold laws_eqIntS.f
  simp only [if_true]
  exact eqIntS_l xs hn xs.length 0 (by omega)

theorem rdN (xs : List Int) (i : Nat) (h : i < xs.length) : rd xs (i : Int) = xs[i] := by
  unfold rd
  rw [Int.toNat_natCast, List.getD_eq_getElem?_getD, List.getElem?_eq_getElem h]
  rfl

theorem markIntS_l : ∀ (d i m : Nat) (xs : List Int), i + d = xs.length → m + d ≤ 1152921504606846976 → xs.length ≤ 1152921504606846976 →
    ∃ (q : Nat) (ys : List Int), Ev (fun k => laws_markIntS.l0 k xs (m : Int) (i : Int)) ((q : Int), ys) ∧ ys.length = xs.length ∧ ys.take i = xs.take i ∧ m ≤ q ∧ q ≤ m + d ∧ Ev (fun k => laws_heldIntS.l0 k ys (m : Int) (i : Int)) (q : Int) := by
  intro d
  induction d with
  | zero =>
    intro i m xs hi hmd hxl
    refine ⟨m, xs, ev_succ ?_, rfl, rfl, Nat.le_refl _, by omega, ev_succ ?_⟩
    · simp only [laws_markIntS.l0, if_neg (show ¬ (i : Int) < (xs.length : Int) by omega)]
      exact ev_now _
    · simp only [laws_heldIntS.l0, if_neg (show ¬ (i : Int) < (xs.length : Int) by omega)]
      exact ev_now _
  | succ d ih =>
    intro i m xs hi hmd hxl
    obtain ⟨q, ys, h1, h2, h3, h4, h4', h5⟩ := ih (i + 1) (m + 1) (xs.set i (m : Int)) (by rw [List.length_set]; omega) (by omega) (by rw [List.length_set]; omega)
    rw [List.length_set] at h2
    rw [take_set_succ xs i _ (by omega)] at h3
    have hy : ys[i]'(by omega) = (m : Int) := by
      have := congrArg (fun l => l[i]?) h3
      simp only [List.getElem?_take, if_pos (show i < i + 1 by omega)] at this
      rw [List.getElem?_append_right (by simp; omega), List.getElem?_eq_getElem (by omega)] at this
      simpa [Nat.min_eq_left (show i ≤ xs.length by omega)] using this
    have hx : i < xs.length := by omega
    refine ⟨q, ys, ev_succ ?_, h2, ?_, by omega, by omega, ev_succ ?_⟩
    · simp only [laws_markIntS.l0, if_pos (show (i : Int) < (xs.length : Int) by omega), if_pos (show (0 : Int) ≤ (i : Int) by omega), Int.toNat_natCast, wsucc m (by omega), wsucc i (by omega)]
      exact h1
    · have := congrArg (fun l => l.take i) h3
      simp only [List.take_take, Nat.min_eq_left (show i ≤ i + 1 by omega)] at this
      rw [this, List.take_append_of_le_length (by simp; omega), List.take_take, Nat.min_self]
    · simp only [laws_heldIntS.l0, if_pos (show (i : Int) < (ys.length : Int) by omega), if_pos (show (0 : Int) ≤ (i : Int) by omega), rdN ys i (by omega), hy, if_true, wsucc m (by omega), wsucc i (by omega)]
      exact h5
theorem markIntS_ev (xs : List Int) (h : xs.length ≤ 1048576) : ∃ (q : Nat) (ys : List Int), 1 ≤ q ∧ Ev (fun k => laws_markIntS.f k xs 1) ((q : Int), ys) ∧ Ev (fun k => laws_heldIntS.f k ys 1) (q : Int) := by
  obtain ⟨q, ys, h1, h2, h3, h4, h4', h5⟩ := markIntS_l xs.length 0 1 xs (by omega) (by omega) (by omega)
  exact ⟨q, ys, h4, h1, h5⟩

def idsW (n : Nat) : List Int := (List.range n).map (fun (i : Nat) => (i : Int))
theorem idsW_len (n : Nat) : (idsW n).length = n := by simp [idsW]
theorem idsW_mem {n : Nat} {b : Int} (h : b ∈ idsW n) : 0 ≤ b ∧ b < (n : Int) := by
  unfold idsW at h
  obtain ⟨i, hi, rfl⟩ := List.mem_map.1 h
  have := List.mem_range.1 hi
  omega
theorem idsW_succ (n : Nat) : idsW (n + 1) = idsW n ++ [(n : Int)] := by simp [idsW, List.range_succ]

inductive ChainW (nx : List Int → List Int → Prop) : List Int → List (List Int) → List Int → Prop
  | one (a : List Int) : ChainW nx a [a] a
  | cons {a b c : List Int} {L : List (List Int)} : nx a b → ChainW nx b L c → ChainW nx a (a :: L) c
theorem ChainW.append {nx : List Int → List Int → Prop} {a b c d : List Int} {L M : List (List Int)} (h : ChainW nx a L b) (hn : nx b c) (h2 : ChainW nx c M d) : ChainW nx a (L ++ M) d := by
  induction h with
  | one a => exact ChainW.cons hn h2
  | cons h1 _ ih => exact ChainW.cons h1 (ih hn)
def goW (f : List Int → List Int → List (List Int)) (B : List Int) : List Int → List Int → List (List Int)
  | _, [] => []
  | L, a :: H => f (B ++ [a]) (L ++ H) ++ goW f B (L ++ [a]) H
def ordersW : Nat → List Int → List Int → List (List Int)
  | 0, B, _ => [B]
  | d + 1, B, R => goW (ordersW d) B [] R
theorem chain_orders (nx : List Int → List Int → Prop) (hsw : ∀ (B L : List Int) (a b : Int) (H : List Int), (L ++ a :: b :: H).Pairwise (· < ·) → nx (B ++ a :: (L ++ b :: H).reverse) (B ++ b :: (L ++ a :: H))) :
    ∀ (d : Nat) (B R : List Int), R.length = d → R.Pairwise (· < ·) → ChainW nx (B ++ R) (ordersW d B R) (B ++ R.reverse) := by
  intro d
  induction d with
  | zero =>
    intro B R h _
    obtain rfl := List.eq_nil_of_length_eq_zero h
    simp only [List.append_nil, List.reverse_nil, ordersW]
    exact ChainW.one B
  | succ d ih =>
    have inner : ∀ (H : List Int) (B L : List Int) (a : Int), (L ++ H).length = d → (L ++ a :: H).Pairwise (· < ·) → ChainW nx (B ++ a :: (L ++ H)) (goW (ordersW d) B L (a :: H)) (B ++ (L ++ a :: H).reverse) := by
      intro H
      induction H with
      | nil =>
        intro B L a hl hp
        simp only [goW, List.append_nil]
        have h1 := ih (B ++ [a]) L (by simpa using hl) ((List.pairwise_append.mp hp).1)
        simpa using h1
      | cons b H ih2 =>
        intro B L a hl hp
        have hq : (L ++ b :: H).Pairwise (· < ·) := hp.sublist (List.Sublist.append (List.Sublist.refl L) (List.sublist_cons_self a (b :: H)))
        have h1 := ih (B ++ [a]) (L ++ b :: H) hl hq
        have h2 := ih2 B (L ++ [a]) b (by simp only [List.length_append, List.length_cons, List.length_nil] at hl ⊢; omega) (by simpa using hp)
        have h3 := hsw B L a b H hp
        rw [goW]
        simp only [List.append_assoc, List.cons_append, List.nil_append] at h1 h2 ⊢
        exact ChainW.append h1 h3 h2
    intro B R h hp
    cases R with
    | nil => simp at h
    | cons a H =>
      have := inner H B [] a (by simpa using h) (by simpa using hp)
      simpa [ordersW] using this
def outW (B L : List Int) : List Int := L.filter (fun x => decide (x ∉ B))
theorem outW_app (B L M : List Int) : outW B (L ++ M) = outW B L ++ outW B M := by unfold outW; rw [List.filter_append]
theorem outW_in (B L : List Int) (x : Int) (h : x ∈ B) : outW B (x :: L) = outW B L := by unfold outW; rw [List.filter_cons_of_neg (by simp [h])]
theorem outW_out (B L : List Int) (x : Int) (h : x ∉ B) : outW B (x :: L) = x :: outW B L := by unfold outW; rw [List.filter_cons_of_pos (by simp [h])]
theorem outW_more (B L : List Int) (x : Int) (h : x ∉ L) : outW (B ++ [x]) L = outW B L := by
  unfold outW
  apply List.filter_congr
  intro y hy
  have : y ≠ x := fun e => h (e ▸ hy)
  simp [this]
theorem ids_drop (n j : Nat) (hj : j < n) : (idsW n).drop j = (j : Int) :: (idsW n).drop (j + 1) := by
  rw [List.drop_eq_getElem_cons (by rw [idsW_len]; exact hj)]
  simp [idsW]
theorem ids_take (n j : Nat) (hj : j ≤ n) : (idsW n).take j = idsW j := by
  unfold idsW
  rw [← List.map_take, List.take_range, Nat.min_eq_left hj]
theorem ids_split (n j : Nat) (hj : j < n) : idsW n = idsW j ++ (j : Int) :: (idsW n).drop (j + 1) := by
  rw [← ids_drop n j hj, ← ids_take n j (by omega), List.take_append_drop]
theorem ids_asc (n : Nat) : (idsW n).Pairwise (· < ·) := by
  unfold idsW
  rw [List.pairwise_map]
  exact List.pairwise_lt_range.imp (fun h => by omega)
theorem ids_pair (n j : Nat) (hj : j < n) : (j : Int) ∉ idsW j ∧ (j : Int) ∉ (idsW n).drop (j + 1) := by
  refine ⟨fun h => ?_, fun h => ?_⟩
  · have := idsW_mem h; omega
  · have h1 := ids_asc n
    rw [ids_split n j hj] at h1
    have h2 := (List.pairwise_cons.mp (List.pairwise_append.mp h1).2.1).1 _ h
    omega
theorem rest_split (n j : Nat) (hj : j < n) (B : List Int) : outW (B ++ [(j : Int)]) (idsW n) = outW B (idsW j) ++ outW B ((idsW n).drop (j + 1)) := by
  conv => lhs; rw [ids_split n j hj]
  rw [outW_app, outW_in _ _ _ (by simp), outW_more _ _ _ (ids_pair n j hj).1, outW_more _ _ _ (ids_pair n j hj).2]
theorem rest_whole (n j : Nat) (hj : j < n) (B : List Int) (h : (j : Int) ∉ B) : outW B (idsW n) = outW B (idsW j) ++ (j : Int) :: outW B ((idsW n).drop (j + 1)) := by
  conv => lhs; rw [ids_split n j hj]
  rw [outW_app, outW_out _ _ _ h]
theorem outW_nil (L : List Int) : outW [] L = L := by unfold outW; simp

theorem rdM (Y Z : List Int) (c : Int) {i : Int} (h : i = (Y.length : Int)) : rd (Y ++ c :: Z) i = c := by
  subst h
  simp [rd]
theorem setM (Y Z : List Int) (c d : Int) {i : Int} (h : i = (Y.length : Int)) : (Y ++ c :: Z).set i.toNat d = Y ++ d :: Z := by
  subst h
  simp
theorem next_rev : ∀ (n : Nat) (Y A C : List Int), Y.length = n → (A ++ Y ++ C).length ≤ 1048576 → Ev (fun k => impl_nextOrder.l2 k (A ++ Y ++ C) (A.length : Int) ((A.length : Int) + (Y.length : Int) - 1)) (true, A ++ Y.reverse ++ C) := by
  intro n
  induction n using Nat.strongRecOn with
  | _ n ih =>
  intro Y A C hn hl
  have hshort : Y.length ≤ 1 → Ev (fun k => impl_nextOrder.l2 k (A ++ Y ++ C) (A.length : Int) ((A.length : Int) + (Y.length : Int) - 1)) (true, A ++ Y.reverse ++ C) := by
    intro h
    refine ev_succ ?_
    simp only [impl_nextOrder.l2, if_neg (show ¬ ((A.length : Int) < (A.length : Int) + (Y.length : Int) - 1) by omega)]
    have : Y.reverse = Y := by
      match Y, h with
      | [], _ => rfl
      | [x], _ => rfl
    rw [this]
    exact ev_now _
  rcases Nat.lt_or_ge 1 Y.length with h1 | h1
  case inr => exact hshort h1
  obtain ⟨u, Z, v, rfl⟩ : ∃ u Z v, Y = u :: (Z ++ [v]) := by
    cases Y with
    | nil => simp at h1
    | cons u T =>
      rcases List.eq_nil_or_concat T with h | ⟨Z, v, h⟩
      · subst h; simp at h1
      · exact ⟨u, Z, v, by rw [h, List.concat_eq_append]⟩
  have e1 : A ++ u :: (Z ++ [v]) ++ C = A ++ u :: (Z ++ v :: C) := by simp
  have e2 : A ++ v :: (Z ++ v :: C) = (A ++ v :: Z) ++ v :: C := by simp
  have e3 : A ++ u :: (Z ++ v :: C) = (A ++ u :: Z) ++ v :: C := by simp
  have ll : (A ++ u :: (Z ++ v :: C)).length = A.length + Z.length + 2 + C.length := by simp; omega
  rw [e1] at hl ⊢
  have x6 : (A.length : Int) + ((u :: (Z ++ [v])).length : Int) - 1 = (A.length : Int) + (Z.length : Int) + 1 := by simp; omega
  rw [x6]
  refine ev_succ ?_
  rw [ll] at hl
  simp only [impl_nextOrder.l2, ll, if_pos (show (A.length : Int) < (A.length : Int) + (Z.length : Int) + 1 by omega), if_pos (show 0 ≤ (A.length : Int) + (Z.length : Int) + 1 by omega), if_pos (show (A.length : Int) + (Z.length : Int) + 1 < ((A.length + Z.length + 2 + C.length : Nat) : Int) by omega), if_pos (show 0 ≤ (A.length : Int) by omega), if_pos (show (A.length : Int) < ((A.length + Z.length + 2 + C.length : Nat) : Int) by omega), rdM A (Z ++ v :: C) u rfl]
  have r1 : rd (A ++ u :: (Z ++ v :: C)) ((A.length : Int) + (Z.length : Int) + 1) = v := by rw [e3]; exact rdM _ _ _ (by simp; omega)
  rw [r1, setM A (Z ++ v :: C) u v rfl, e2, setM (A ++ v :: Z) C v u (by simp; omega), w64 (x := (A.length : Int) + 1) (by omega) (by omega), w64 (x := (A.length : Int) + (Z.length : Int) + 1 - 1) (by omega) (by omega)]
  have h3 := ih Z.length (by simp at hn; omega) Z (A ++ [v]) (u :: C) rfl (by simp; omega)
  have e4 : (A ++ [v]) ++ Z ++ u :: C = (A ++ v :: Z) ++ u :: C := by simp
  have e5 : ((A ++ [v]).length : Int) = (A.length : Int) + 1 := by simp
  have e6 : (A.length : Int) + (Z.length : Int) + 1 - 1 = (A.length : Int) + 1 + (Z.length : Int) - 1 := by omega
  have e7 : (A ++ [v]) ++ Z.reverse ++ u :: C = A ++ (u :: (Z ++ [v])).reverse ++ C := by simp
  rw [e4, e5, e7] at h3
  rw [e6]
  exact h3
theorem next_find (M : List Int) (a b : Int) (p : Nat) (r : Bool × List Int) (hab : a < b) : ∀ (E F : List Int), (∀ x ∈ E, x < a) → (M ++ b :: (E.reverse ++ F)).length ≤ 1048576 → p < M.length → rd (M ++ b :: (E.reverse ++ F)) (p : Int) = a →
    Ev (fun k => impl_nextOrder.l2 k (((M ++ b :: (E.reverse ++ F)).set p b).set M.length a) (wrap64 ((p : Int) + 1)) (wrap64 (((M ++ b :: (E.reverse ++ F)).length : Int) - 1))) r →
    Ev (fun k => impl_nextOrder.l1 k (M ++ b :: (E.reverse ++ F)) (p : Int) ((M.length : Int) + (E.length : Int))) r := by
  intro E
  induction E with
  | nil =>
    intro F _ hl hp hr h
    simp only [List.reverse_nil, List.nil_append, List.length_nil] at hl hr h ⊢
    refine ev_succ ?_
    have ll : (M ++ b :: F).length = M.length + 1 + F.length := by simp; omega
    rw [ll] at hl
    have e0 : (M.length : Int) + ((0 : Nat) : Int) = (M.length : Int) := by omega
    rw [e0]
    rw [ll] at h
    simp only [impl_nextOrder.l1, ll, if_pos (show 0 ≤ (M.length : Int) by omega), if_pos (show (M.length : Int) < ((M.length + 1 + F.length : Nat) : Int) by omega), if_pos (show 0 ≤ (p : Int) by omega), if_pos (show (p : Int) < ((M.length + 1 + F.length : Nat) : Int) by omega), rdM M F b rfl, hr, if_neg (show ¬ (b < a) by omega), Int.toNat_natCast]
    exact h
  | cons u E ih =>
    intro F hE hl hp hr h
    have e1 : M ++ b :: ((u :: E).reverse ++ F) = M ++ b :: (E.reverse ++ u :: F) := by simp
    rw [e1] at hl hr h ⊢
    have e2 : M ++ b :: (E.reverse ++ u :: F) = (M ++ b :: E.reverse) ++ u :: F := by simp
    have ll : (M ++ b :: (E.reverse ++ u :: F)).length = M.length + E.length + 2 + F.length := by simp; omega
    have h2 := ih (u :: F) (fun x hx => hE x (by simp [hx])) hl hp hr h
    refine ev_succ ?_
    have e0 : (M.length : Int) + (((u :: E).length : Nat) : Int) = (M.length : Int) + (E.length : Int) + 1 := by simp; omega
    rw [e0]
    have r1 : rd (M ++ b :: (E.reverse ++ u :: F)) ((M.length : Int) + (E.length : Int) + 1) = u := by rw [e2]; exact rdM _ _ _ (by simp; omega)
    have hu := hE u (by simp)
    rw [ll] at hl
    simp only [impl_nextOrder.l1, ll, if_pos (show 0 ≤ (M.length : Int) + (E.length : Int) + 1 by omega), if_pos (show (M.length : Int) + (E.length : Int) + 1 < ((M.length + E.length + 2 + F.length : Nat) : Int) by omega), if_pos (show 0 ≤ (p : Int) by omega), if_pos (show (p : Int) < ((M.length + E.length + 2 + F.length : Nat) : Int) by omega), r1, hr, if_pos hu, w64 (x := (M.length : Int) + (E.length : Int) + 1 - 1) (by omega) (by omega)]
    have e3 : (M.length : Int) + (E.length : Int) + 1 - 1 = (M.length : Int) + (E.length : Int) := by omega
    rw [e3]
    exact h2
theorem next_down (B : List Int) (a : Int) (r : Bool × List Int) : ∀ (E D : List Int), D ≠ [] → (E.reverse ++ D).Pairwise (· > ·) → (B ++ a :: (E.reverse ++ D)).length ≤ 1048576 →
    Ev (fun k => impl_nextOrder.l0 k (B ++ a :: (E.reverse ++ D)) (B.length : Int)) r → Ev (fun k => impl_nextOrder.l0 k (B ++ a :: (E.reverse ++ D)) ((B.length : Int) + (E.length : Int))) r := by
  intro E
  induction E with
  | nil =>
    intro D _ _ _ h
    have e0 : (B.length : Int) + ((([] : List Int).length : Nat) : Int) = (B.length : Int) := by simp
    rw [e0]
    exact h
  | cons u E ih =>
    intro D hD hp hl h
    obtain ⟨v, D2, rfl⟩ : ∃ v D2, D = v :: D2 := by
      cases D with
      | nil => exact absurd rfl hD
      | cons v D2 => exact ⟨v, D2, rfl⟩
    have e1 : (u :: E).reverse ++ v :: D2 = E.reverse ++ u :: v :: D2 := by simp
    rw [e1] at hp hl h ⊢
    have h2 := ih (u :: v :: D2) (by simp) hp hl h
    have huv : u > v := (List.pairwise_cons.mp (List.pairwise_append.mp hp).2.1).1 v (by simp)
    have ll : (B ++ a :: (E.reverse ++ u :: v :: D2)).length = B.length + E.length + 3 + D2.length := by simp; omega
    have e2 : B ++ a :: (E.reverse ++ u :: v :: D2) = (B ++ a :: E.reverse) ++ u :: v :: D2 := by simp
    have e3 : B ++ a :: (E.reverse ++ u :: v :: D2) = (B ++ a :: (E.reverse ++ [u])) ++ v :: D2 := by simp
    have e0 : (B.length : Int) + (((u :: E).length : Nat) : Int) = (B.length : Int) + (E.length : Int) + 1 := by simp; omega
    rw [e0]
    have r1 : rd (B ++ a :: (E.reverse ++ u :: v :: D2)) ((B.length : Int) + (E.length : Int) + 1) = u := by rw [e2]; exact rdM _ _ _ (by simp; omega)
    have r2 : rd (B ++ a :: (E.reverse ++ u :: v :: D2)) ((B.length : Int) + (E.length : Int) + 1 + 1) = v := by rw [e3]; exact rdM _ _ _ (by simp; omega)
    refine ev_succ ?_
    rw [ll] at hl
    simp only [impl_nextOrder.l0, ll, ge_iff_le, if_pos (show 0 ≤ (B.length : Int) + (E.length : Int) + 1 by omega), if_pos (show (B.length : Int) + (E.length : Int) + 1 < ((B.length + E.length + 3 + D2.length : Nat) : Int) by omega), w64 (x := (B.length : Int) + (E.length : Int) + 1 + 1) (by omega) (by omega), if_pos (show 0 ≤ (B.length : Int) + (E.length : Int) + 1 + 1 by omega), if_pos (show (B.length : Int) + (E.length : Int) + 1 + 1 < ((B.length + E.length + 3 + D2.length : Nat) : Int) by omega), r1, r2, if_pos huv, w64 (x := (B.length : Int) + (E.length : Int) + 1 - 1) (by omega) (by omega)]
    have e4 : (B.length : Int) + (E.length : Int) + 1 - 1 = (B.length : Int) + (E.length : Int) := by omega
    rw [e4]
    exact h2
theorem desc_of_asc {R : List Int} (h : R.Pairwise (· < ·)) : R.reverse.Pairwise (· > ·) := by
  rw [List.pairwise_reverse]
  exact h
theorem next_swap (B L H : List Int) (a b : Int) (hp : (L ++ a :: b :: H).Pairwise (· < ·)) (hl : (B ++ a :: (L ++ b :: H).reverse).length ≤ 1048576) : Ev (fun k => impl_nextOrder.f k (B ++ a :: (L ++ b :: H).reverse)) (true, B ++ b :: (L ++ a :: H)) := by
  have hq : (L ++ b :: H).Pairwise (· < ·) := hp.sublist (List.Sublist.append (List.Sublist.refl L) (List.sublist_cons_self a (b :: H)))
  have hd := desc_of_asc hq
  have hab : a < b := (List.pairwise_cons.mp (List.pairwise_append.mp hp).2.1).1 b (by simp)
  have hLa : ∀ x ∈ L, x < a := fun x hx => (List.pairwise_append.mp hp).2.2 x hx a (by simp)
  have eD : (L ++ b :: H).reverse = H.reverse ++ b :: L.reverse := by simp
  obtain ⟨E, z, hE⟩ : ∃ (E : List Int) (z : Int), (L ++ b :: H).reverse = E.reverse ++ [z] := by
    rcases List.eq_nil_or_concat (L ++ b :: H).reverse with h | ⟨E, z, h⟩
    · simp at h
    · exact ⟨E.reverse, z, by rw [h, List.concat_eq_append]; simp⟩
  have hEl : E.length + 1 = L.length + H.length + 1 := by
    have := congrArg List.length hE
    simp at this
    omega
  have ll : (B ++ a :: (L ++ b :: H).reverse).length = B.length + L.length + H.length + 2 := by simp; omega
  unfold impl_nextOrder.f
  rw [ll] at hl
  simp only [ll]
  rw [w64 (by omega) (by omega)]
  have e0 : ((B.length + L.length + H.length + 2 : Nat) : Int) - 2 = (B.length : Int) + (E.length : Int) := by omega
  rw [e0]
  rw [hE] at hd ll ⊢
  refine next_down B a _ E [z] (by simp) hd (by rw [ll]; omega) ?_
  rw [← hE] at ll ⊢
  obtain ⟨y, Y, hy⟩ : ∃ y Y, (L ++ b :: H).reverse = y :: Y := by
    cases hh : (L ++ b :: H).reverse with
    | nil => simp at hh
    | cons y Y => exact ⟨y, Y, rfl⟩
  have hay : a < y := by
    rw [← hE, hy] at hd
    have hb : b ∈ y :: Y := by rw [← hy]; simp
    rcases List.mem_cons.mp hb with h | h
    · omega
    · have := (List.pairwise_cons.mp hd).1 b h; omega
  have r1 : rd (B ++ a :: (L ++ b :: H).reverse) (B.length : Int) = a := rdM B _ a rfl
  have r2 : rd (B ++ a :: (L ++ b :: H).reverse) ((B.length : Int) + 1) = y := by
    rw [hy, show B ++ a :: y :: Y = (B ++ [a]) ++ y :: Y by simp]
    exact rdM _ _ _ (by simp)
  refine ev_succ ?_
  simp only [impl_nextOrder.l0, ll, ge_iff_le, if_pos (show 0 ≤ (B.length : Int) by omega), if_pos (show (B.length : Int) < ((B.length + L.length + H.length + 2 : Nat) : Int) by omega), w64 (x := (B.length : Int) + 1) (by omega) (by omega), if_pos (show 0 ≤ (B.length : Int) + 1 by omega), if_pos (show (B.length : Int) + 1 < ((B.length + L.length + H.length + 2 : Nat) : Int) by omega), r1, r2, if_neg (show ¬ a > y by omega)]
  refine ev_succ ?_
  simp only [impl_nextOrder.j1, ll, if_neg (show ¬ (B.length : Int) < 0 by omega)]
  rw [w64 (by omega) (by omega)]
  have eX : B ++ a :: (L ++ b :: H).reverse = (B ++ a :: H.reverse) ++ b :: (L.reverse ++ []) := by simp
  have e1 : ((B.length + L.length + H.length + 2 : Nat) : Int) - 1 = ((B ++ a :: H.reverse).length : Int) + (L.length : Int) := by simp; omega
  rw [e1, eX]
  refine next_find (B ++ a :: H.reverse) a b B.length _ hab L [] hLa (by rw [← eX, ll]; omega) (by simp) (by rw [← eX]; exact r1) ?_
  have s1 : ((B ++ a :: H.reverse) ++ b :: (L.reverse ++ [])).set B.length b = (B ++ b :: H.reverse) ++ b :: L.reverse := by
    have h := setM B (H.reverse ++ b :: L.reverse) a b (i := (B.length : Int)) rfl
    rw [Int.toNat_natCast] at h
    rw [List.append_nil, List.append_assoc, List.append_assoc, List.cons_append, List.cons_append]
    exact h
  have s2 : ((B ++ b :: H.reverse) ++ b :: L.reverse).set (B ++ a :: H.reverse).length a = (B ++ b :: H.reverse) ++ a :: L.reverse := by
    have h := setM (B ++ b :: H.reverse) L.reverse b a (i := ((B ++ b :: H.reverse).length : Int)) rfl
    rw [Int.toNat_natCast] at h
    rw [show (B ++ a :: H.reverse).length = (B ++ b :: H.reverse).length by simp]
    exact h
  rw [s1, s2, ← eX, ll, w64 (by omega) (by omega), w64 (by omega) (by omega)]
  have h3 := next_rev (H.reverse ++ a :: L.reverse).length (H.reverse ++ a :: L.reverse) (B ++ [b]) [] rfl (by simp; omega)
  have f1 : (B ++ [b]) ++ (H.reverse ++ a :: L.reverse) ++ [] = (B ++ b :: H.reverse) ++ a :: L.reverse := by simp
  have f2 : (B ++ [b]) ++ (H.reverse ++ a :: L.reverse).reverse ++ [] = B ++ b :: (L ++ a :: H) := by simp
  have f3 : ((B ++ [b]).length : Int) = (B.length : Int) + 1 := by simp
  have f4 : (B.length : Int) + 1 + ((H.reverse ++ a :: L.reverse).length : Int) - 1 = ((B.length + L.length + H.length + 2 : Nat) : Int) - 1 := by simp; omega
  rw [f1, f2, f3, f4] at h3
  exact h3
theorem next_last (R : List Int) (hp : R.Pairwise (· < ·)) (hl : R.length ≤ 1048576) : Ev (fun k => impl_nextOrder.f k R.reverse) (false, R.reverse) := by
  have hd := desc_of_asc hp
  unfold impl_nextOrder.f
  have base : ∀ i : Int, i < 0 → Ev (fun k => impl_nextOrder.l0 k R.reverse i) (false, R.reverse) := by
    intro i hi
    refine ev_succ ?_
    simp only [impl_nextOrder.l0, if_neg (show ¬ i ≥ 0 by omega)]
    refine ev_succ ?_
    simp only [impl_nextOrder.j1, if_pos hi]
    exact ev_now _
  rw [List.length_reverse, w64 (by omega) (by omega)]
  rcases Nat.lt_or_ge R.length 2 with h | h
  · exact base _ (by omega)
  have down : ∀ (E D : List Int), D ≠ [] → R.reverse = E.reverse ++ D → Ev (fun k => impl_nextOrder.l0 k R.reverse ((E.length : Int) - 1)) (false, R.reverse) := by
    intro E
    induction E with
    | nil => intro D _ _; exact base _ (by simp)
    | cons u E ih =>
      intro D hD hR
      obtain ⟨v, D2, rfl⟩ : ∃ v D2, D = v :: D2 := by
        cases D with
        | nil => exact absurd rfl hD
        | cons v D2 => exact ⟨v, D2, rfl⟩
      have e1 : R.reverse = E.reverse ++ u :: v :: D2 := by rw [hR]; simp
      have h2 := ih (u :: v :: D2) (by simp) e1
      rw [e1] at hd h2 ⊢
      have huv : u > v := (List.pairwise_cons.mp (List.pairwise_append.mp hd).2.1).1 v (by simp)
      have hlen : E.length + 2 + D2.length = R.length := by have := congrArg List.length e1; simp at this; omega
      have ll : (E.reverse ++ u :: v :: D2).length = E.length + 2 + D2.length := by simp; omega
      have r1 : rd (E.reverse ++ u :: v :: D2) (E.length : Int) = u := rdM _ _ _ (by simp)
      have r2 : rd (E.reverse ++ u :: v :: D2) ((E.length : Int) + 1) = v := by rw [show E.reverse ++ u :: v :: D2 = (E.reverse ++ [u]) ++ v :: D2 by simp]; exact rdM _ _ _ (by simp)
      have e0 : (((u :: E).length : Nat) : Int) - 1 = (E.length : Int) := by simp
      rw [e0]
      refine ev_succ ?_
      simp only [impl_nextOrder.l0, ll, ge_iff_le, if_pos (show 0 ≤ (E.length : Int) by omega), if_pos (show (E.length : Int) < ((E.length + 2 + D2.length : Nat) : Int) by omega), w64 (x := (E.length : Int) + 1) (by omega) (by omega), if_pos (show 0 ≤ (E.length : Int) + 1 by omega), if_pos (show (E.length : Int) + 1 < ((E.length + 2 + D2.length : Nat) : Int) by omega), r1, r2, if_pos huv, w64 (x := (E.length : Int) - 1) (by omega) (by omega)]
      exact h2
  obtain ⟨E, z, hE⟩ : ∃ (E : List Int) (z : Int), R.reverse = E.reverse ++ [z] := by
    rcases List.eq_nil_or_concat R.reverse with h' | ⟨E, z, h'⟩
    · have := congrArg List.length h'; simp at this; subst this; simp at h
    · exact ⟨E.reverse, z, by rw [h', List.concat_eq_append]; simp⟩
  have := down E [z] (by simp) hE
  have hlen : E.length + 1 = R.length := by have := congrArg List.length hE; simp at this; omega
  rw [show (R.length : Int) - 2 = (E.length : Int) - 1 by omega]
  exact this

theorem numbersTo_l0 (n : Nat) (hn : n ≤ 1048576) : ∀ (d i : Nat), i + d = n → Ev (fun k => impl_numbersTo.l0 k (n : Int) (idsW i) (i : Int)) (idsW n) := by
  intro d
  induction d with
  | zero =>
    intro i hi
    refine ev_succ ?_
    simp only [impl_numbersTo.l0, if_neg (show ¬ ((i : Int) < n) by omega)]
    rw [show i = n by omega]
    exact ev_now _
  | succ d ih =>
    intro i hi
    refine ev_succ ?_
    simp only [impl_numbersTo.l0, if_pos (show (i : Int) < n by omega), if_pos (show (idsW i).length < 17592186044416 by rw [idsW_len]; omega), w64 (x := (i : Int) + 1) (by omega) (by omega)]
    have := ih (i + 1) (by omega)
    rw [idsW_succ] at this
    exact this
theorem numbersTo_ev (n : Nat) (hn : n ≤ 1048576) : Ev (fun k => impl_numbersTo.f k (n : Int)) (idsW n) := numbersTo_l0 n hn n 0 (by omega)

theorem rdz (xs : List Int) (i : Nat) (h : i < xs.length) : rd xs (i : Int) = xs[i] := by
  unfold rd
  rw [Int.toNat_natCast, List.getD_eq_getElem?_getD, List.getElem?_eq_getElem h]
  rfl
theorem wrap_I64 (x : Int) : I64 (wrap64 x) := by unfold I64 wrap64; omega
def lateF (j : S50) (e : Int) : Int := if 0 < wrap64 (e - j.f3) then wrap64 (e - j.f3) else 0
def costF (j : S50) (e obj : Int) : Int := if obj = 2 then e else if obj = 3 then wrap64 (j.f1 * e) else if obj = 5 then lateF j e else if obj = 6 then wrap64 (j.f1 * lateF j e) else if lateF j e = 0 then 0 else if obj = 7 then 1 else j.f1
theorem add_eq (a : Int) (j : S50) (e obj : Int) (ha : I64 a) (ho : obj = 2 ∨ obj = 3 ∨ obj = 5 ∨ obj = 6 ∨ obj = 7 ∨ obj = 8) : impl_add.f a j.f0 j.f1 j.f2 j.f3 e obj false = some (wrap64 (a + costF j e obj)) := by
  have hmx : ∀ x : Int, mx 0 x = if 0 < x then x else 0 := fun x => rfl
  have hw : wrap64 a = a := w64 ha.1 ha.2
  unfold impl_add.f costF lateF
  rcases ho with rfl | rfl | rfl | rfl | rfl | rfl
  · rfl
  · rfl
  · rfl
  · rfl
  · by_cases h : wrap64 (e - j.f3) ≤ 0
    · simp only [if_neg (show ¬ (0 : Int) < wrap64 (e - j.f3) by omega), if_pos h]
      simp [hw]
    · simp only [if_pos (show (0 : Int) < wrap64 (e - j.f3) by omega), if_neg h, if_neg (show ¬ wrap64 (e - j.f3) = 0 by omega)]
      rfl
  · by_cases h : wrap64 (e - j.f3) ≤ 0
    · simp only [if_neg (show ¬ (0 : Int) < wrap64 (e - j.f3) by omega), if_pos h]
      simp [hw]
    · simp only [if_pos (show (0 : Int) < wrap64 (e - j.f3) by omega), if_neg h, if_neg (show ¬ wrap64 (e - j.f3) = 0 by omega)]
      rfl
theorem l2Cost_eq (j : S50) (e obj : Int) : spec_l2Cost.f j.f0 j.f1 j.f2 j.f3 e obj = some (costF j e obj) := by
  have hm : spec_l1Most.f (wrap64 (e - j.f3)) 0 = some (lateF j e) := by
    unfold spec_l1Most.f lateF
    by_cases h : wrap64 (e - j.f3) > 0
    · rw [if_pos h, if_pos h]
    · rw [if_neg h, if_neg h]
  unfold spec_l2Cost.f costF
  rw [hm, Option.bind_some]
  repeat' split
  all_goals rfl

theorem l1In_eq (a b c : Int) : spec_l1In.f a b c = some (decide (b ≤ a) && decide (a ≤ c)) := by
  unfold spec_l1In.f
  by_cases h : b ≤ a
  · rw [if_pos h]; simp [h]
  · rw [if_neg h]; simp [h]

theorem within_eq (a b c : Int) : impl_within.f a b c = some (decide (b ≤ a) && decide (a ≤ c)) := by
  unfold impl_within.f
  by_cases h : b ≤ a
  · rw [if_pos h]; simp [h]
  · rw [if_neg h]; simp [h]

def objB (o : Int) : Bool := decide (1 ≤ o) && decide (o ≤ 8)
def greatB (o : Int) : Bool := decide (o = 1) || decide (o = 4)
theorem l2Great_eq (o : Int) : spec_l2Greatest.f o = some (greatB o) := by
  unfold spec_l2Greatest.f greatB
  by_cases h1 : o = 1
  · simp [h1]
  · simp only [if_neg h1, decide_eq_false h1, Bool.false_or]; rfl
/-- The value so far, with one more end. -/
def ofStep (o : Int) (first : Bool) (acc : Int) (j : S50) (e : Int) : Int :=
  if greatB o = true then (let x := if o = 4 then wrap64 (e - j.f3) else e; if first = true then x else if x > acc then x else acc) else wrap64 (acc + costF j e o)
def ofF (o : Int) (xs : List S50) (es : List Int) (i : Nat) (acc : Int) : Nat → Int
  | 0 => acc
  | d + 1 => ofF o xs es (i + 1) (ofStep o (decide (i = 0)) acc (rd_T50 xs (i : Int)) (rd es (i : Int))) d
theorem l2Of_ev (xs : List S50) (es : List Int) (o : Int) (hn : xs.length ≤ 8) (he : es.length = xs.length) : Ev (fun k => spec_l2Of.f k xs es o) (ofF o xs es 0 0 xs.length) := by
  have key : ∀ (d i : Nat) (acc : Int), i + d = xs.length → Ev (fun k => spec_l2Of.l0 k xs es o acc (i : Int)) (ofF o xs es i acc d) := by
    intro d
    induction d with
    | zero =>
      intro i acc hi
      refine ev_succ ?_
      simp only [spec_l2Of.l0, if_neg (show ¬ (i : Int) < (xs.length : Int) by omega)]
      exact ev_now _
    | succ d ih =>
      intro i acc hi
      refine ev_succ ?_
      have h := fun a => ih (i + 1) a (by omega)
      simp only [spec_l2Of.l0, if_pos (show (i : Int) < (xs.length : Int) by omega), l2Great_eq, Option.bind_some, if_pos (show (0 : Int) ≤ (i : Int) by omega), if_pos (show (i : Int) < (es.length : Int) by omega), wsucc i (by omega), l2Cost_eq, ofF, ofStep]
      cases hgr : greatB o
      · simp only [Bool.false_eq_true, if_false]
        exact h _
      · simp only [if_true, decide_eq_true_eq]
        by_cases h4 : o = 4
        · by_cases h0 : i = 0
          · simp only [if_pos h4, if_pos h0, if_pos (show (i : Int) = 0 by omega)]; exact h _
          · by_cases hx : wrap64 (rd es (i : Int) - (rd_T50 xs (i : Int)).f3) > acc
            · simp only [if_pos h4, if_neg h0, if_neg (show ¬ (i : Int) = 0 by omega), if_pos hx]; exact h _
            · simp only [if_pos h4, if_neg h0, if_neg (show ¬ (i : Int) = 0 by omega), if_neg hx]; exact h _
        · by_cases h0 : i = 0
          · simp only [if_neg h4, if_pos h0, if_pos (show (i : Int) = 0 by omega)]; exact h _
          · by_cases hx : rd es (i : Int) > acc
            · simp only [if_neg h4, if_neg h0, if_neg (show ¬ (i : Int) = 0 by omega), if_pos hx]; exact h _
            · simp only [if_neg h4, if_neg h0, if_neg (show ¬ (i : Int) = 0 by omega), if_neg hx]; exact h _
  unfold spec_l2Of.f
  exact key xs.length 0 0 (Nat.zero_add _)
theorem add_full (a : Int) (j : S50) (e o : Int) (first : Bool) (ha : I64 a) (hf : first = true → a = 0) (ho : objB o = true) (he : 0 ≤ e) : impl_add.f a j.f0 j.f1 j.f2 j.f3 e o first = some (ofStep o first a j e) := by
  unfold objB at ho
  simp only [Bool.and_eq_true, decide_eq_true_eq] at ho
  have hmx : ∀ x y : Int, mx x y = if x < y then y else x := fun x y => rfl
  by_cases h1 : o = 1
  · subst h1
    unfold impl_add.f ofStep
    cases first
    · simp only [if_true, hmx, show greatB 1 = true by decide, show ¬ (1 : Int) = 4 by decide, if_false, gt_iff_lt, Bool.false_eq_true]
    · have := hf rfl
      subst this
      simp only [if_true, hmx, show greatB 1 = true by decide, show ¬ (1 : Int) = 4 by decide, if_false]
      congr 1
      split <;> omega
  · by_cases h4 : o = 4
    · subst h4
      unfold impl_add.f ofStep
      cases first
      · simp only [if_true, hmx, show greatB 4 = true by decide, show ¬ (4 : Int) = 1 by decide, show ¬ (4 : Int) = 2 by decide, show ¬ (4 : Int) = 3 by decide, if_false, gt_iff_lt, Bool.false_eq_true]
      · simp only [if_true, show greatB 4 = true by decide, show ¬ (4 : Int) = 1 by decide, show ¬ (4 : Int) = 2 by decide, show ¬ (4 : Int) = 3 by decide, if_false]
    · have hg : greatB o = false := by unfold greatB; rw [decide_eq_false h1, decide_eq_false h4]; rfl
      have h := add_eq a j e o ha (by omega)
      unfold ofStep
      simp only [hg, Bool.false_eq_true, if_false]
      rw [← h]
      unfold impl_add.f
      simp only [if_neg h1, if_neg h4]
theorem ofStep_I64 (o : Int) (first : Bool) (acc : Int) (j : S50) (e : Int) (ha : I64 acc) (he : I64 e) : I64 (ofStep o first acc j e) := by
  unfold ofStep
  have h0 := wrap_I64 (acc + costF j e o)
  have h1 := wrap_I64 (e - j.f3)
  dsimp only
  repeat' split
  all_goals assumption
theorem valueOfEnds_ev (xs : List S50) (es : List Int) (o : Int) (hn : xs.length ≤ 8) (he : es.length = xs.length) (hb : ∀ x ∈ es, 0 ≤ x ∧ x ≤ 4611686018427387904) (ho : objB o = true) : Ev (fun k => impl_valueOfEnds.f k xs es o) (ofF o xs es 0 0 xs.length) := by
  have key : ∀ (d i : Nat) (acc : Int), i + d = xs.length → I64 acc → (i = 0 → acc = 0) → Ev (fun k => impl_valueOfEnds.l0 k es o acc xs (xs.length : Int) (i : Int)) (ofF o xs es i acc d) := by
    intro d
    induction d with
    | zero =>
      intro i acc hi _ _
      refine ev_succ ?_
      simp only [impl_valueOfEnds.l0, if_neg (show ¬ (i : Int) < (xs.length : Int) by omega)]
      exact ev_now _
    | succ d ih =>
      intro i acc hi hI h0
      refine ev_succ ?_
      have hx : i < es.length := by omega
      have hbx := hb es[i] (List.getElem_mem hx)
      have hr := rdz es i hx
      have hf : ((i : Int) == 0) = decide (i = 0) := by rw [Bool.eq_iff_iff]; simp
      have hadd := add_full acc (rd_T50 xs (i : Int)) (rd es (i : Int)) o (decide (i = 0)) hI (fun h => h0 (by simpa using h)) ho (by rw [hr]; exact hbx.1)
      simp only [impl_valueOfEnds.l0, if_pos (show (i : Int) < (xs.length : Int) by omega), if_pos (show (0 : Int) ≤ (i : Int) by omega), if_pos (show (i : Int) < (es.length : Int) by omega), hf, hadd, Option.bind_some, wsucc i (by omega), ofF]
      exact ih (i + 1) _ (by omega) (ofStep_I64 _ _ _ _ _ hI (by rw [hr]; unfold I64; omega)) (fun h => by omega)
  unfold impl_valueOfEnds.f
  exact key xs.length 0 0 (Nat.zero_add _) (by unfold I64; omega) (fun _ => rfl)

theorem l2Obj_eq (o : Int) : spec_l2Objective.f o = some (objB o) := by
  unfold spec_l2Objective.f
  rw [l1In_eq]
  rfl
theorem isObj_eq (o : Int) : impl_isObjective.f o = some (objB o) := by
  unfold impl_isObjective.f
  rw [within_eq]
  rfl

/-- A job's numbers are in their bounds. -/
def okJ (x : S50) : Bool := decide (1 ≤ x.f0) && (decide (x.f0 ≤ 50) && (decide (0 ≤ x.f1) && (decide (x.f1 ≤ 50) && (decide (0 ≤ x.f2) && (decide (x.f2 ≤ 500) && (decide (0 ≤ x.f3) && decide (x.f3 ≤ 500)))))))
def goodB (l : List S50) : Bool := decide (l.length ≤ 8) && l.all okJ
theorem isDate_eq (a : Int) : impl_isDate.f a = some (decide (0 ≤ a) && decide (a ≤ 500)) := by
  unfold impl_isDate.f
  rw [within_eq]
  rfl
theorem job_chain (x : S50) (o : Option Bool) : (if (decide (1 ≤ x.f0) && decide (x.f0 ≤ 50)) = true then (if (decide (0 ≤ x.f1) && decide (x.f1 ≤ 50)) = true then (if (decide (0 ≤ x.f2) && decide (x.f2 ≤ 500)) = true then (if (decide (0 ≤ x.f3) && decide (x.f3 ≤ 500)) = true then o else some false) else some false) else some false) else some false) = if okJ x = true then o else some false := by
  unfold okJ
  by_cases a1 : 1 ≤ x.f0 <;> by_cases a2 : x.f0 ≤ 50 <;> simp [a1, a2]
  by_cases b1 : 0 ≤ x.f1 <;> by_cases b2 : x.f1 ≤ 50 <;> simp [b1, b2]
  by_cases c1 : 0 ≤ x.f2 <;> by_cases c2 : x.f2 ≤ 500 <;> simp [c1, c2]
theorem IsJobs_l (xs : List S50) (hn : xs.length ≤ 4611686018427387904) : ∀ (d i : Nat), i + d = xs.length → Ev (fun k => impl_IsJobs.l0 k xs (xs.length : Int) (i : Int)) ((xs.drop i).all okJ) := by
  intro d
  induction d with
  | zero =>
    intro i hi
    refine ev_succ ?_
    simp only [impl_IsJobs.l0, if_neg (show ¬ (i : Int) < (xs.length : Int) by omega), List.drop_of_length_le (show xs.length ≤ i by omega)]
    exact ev_now _
  | succ d ih =>
    intro i hi
    refine ev_succ ?_
    have hx : i < xs.length := by omega
    have hih := ih (i + 1) (by omega)
    rw [List.drop_eq_getElem_cons hx, List.all_cons]
    simp only [impl_IsJobs.l0, within_eq, isDate_eq, Option.bind_some, if_pos (show (i : Int) < (xs.length : Int) by omega), if_pos (show (0 : Int) ≤ (i : Int) by omega), wsucc i (by omega), rdI xs i hx]
    generalize xs[i] = x at *
    simp only [job_chain]
    by_cases c : okJ x = true
    · simpa only [c, if_true, Bool.true_and] using hih
    · have c' : okJ x = false := by simpa using c
      simp only [c', Bool.false_and]
      exact ev_now _
theorem IsJobs_ev (xs : List S50) (hn : xs.length ≤ 4611686018427387904) : Ev (fun k => impl_IsJobs.f k xs) (goodB xs) := by
  unfold impl_IsJobs.f goodB
  by_cases h : xs.length ≤ 8
  · simp only [if_neg (show ¬ ((xs.length : Int) > 8) by omega), decide_eq_true h, Bool.true_and]
    exact IsJobs_l xs hn xs.length 0 (by omega)
  · simp only [if_pos (show ((xs.length : Int) > 8) by omega), decide_eq_false h, Bool.false_and]
    exact ev_now _

theorem good_len {xs : List S50} (h : goodB xs = true) : xs.length ≤ 8 := by
  unfold goodB at h
  simp only [Bool.and_eq_true, decide_eq_true_eq] at h
  exact h.1
theorem good_at {xs : List S50} (h : goodB xs = true) (i : Nat) (hi : i < xs.length) : 1 ≤ xs[i].f0 ∧ xs[i].f0 ≤ 50 ∧ 0 ≤ xs[i].f1 ∧ xs[i].f1 ≤ 50 ∧ 0 ≤ xs[i].f2 ∧ xs[i].f2 ≤ 500 ∧ 0 ≤ xs[i].f3 ∧ xs[i].f3 ≤ 500 := by
  unfold goodB at h
  simp only [Bool.and_eq_true, List.all_eq_true] at h
  have b := h.2 xs[i] (List.getElem_mem hi)
  simp only [okJ, Bool.and_eq_true, decide_eq_true_eq] at b
  obtain ⟨a1, a2, b1, b2, c1, c2, d1, d2⟩ := b
  exact ⟨a1, a2, b1, b2, c1, c2, d1, d2⟩

abbrev inJ (n : Nat) (i : Int) : Prop := 0 ≤ i ∧ i < (n : Int)
theorem inJ_nat {n : Nat} {a : Int} (h : inJ n a) : ∃ i : Nat, i < n ∧ a = (i : Int) := ⟨a.toNat, by have := h.1; have := h.2; omega, by have := h.1; omega⟩
theorem rd_nat (l : List S50) {a : Int} (h : inJ l.length a) : rd_T50 l a = l[a.toNat]'(by have := h.1; have := h.2; omega) := by
  obtain ⟨i, hi, rfl⟩ := inJ_nat h
  rw [rdI l i hi]
  rfl

theorem rdW (o : List Int) (n : Nat) (h : n < o.length) : rd o (n : Int) = o[n] := by
  simp [rd]
  rw [List.getElem?_eq_getElem h]; rfl

theorem mxe (a b : Int) : mx a b = if a < b then b else a := rfl
def endL (l : List S50) : List Int → Int → List Int → List Int
  | [], _, E => E
  | i :: t, e, E => endL l t (mx e (rd_T50 l i).f2 + (rd_T50 l i).f0) (E.set i.toNat (mx e (rd_T50 l i).f2 + (rd_T50 l i).f0))
def stL (l : List S50) : List Int → Int → List Int → List Int
  | [], _, S => S
  | i :: t, e, S => stL l t (mx e (rd_T50 l i).f2 + (rd_T50 l i).f0) (S.set i.toNat (mx e (rd_T50 l i).f2))
theorem endL_len (l : List S50) : ∀ (D : List Int) (e : Int) (E : List Int), (endL l D e E).length = E.length
  | [], _, _ => rfl
  | i :: t, e, E => by unfold endL; rw [endL_len l t]; exact List.length_set
theorem stL_len (l : List S50) : ∀ (D : List Int) (e : Int) (E : List Int), (stL l D e E).length = E.length
  | [], _, _ => rfl
  | i :: t, e, E => by unfold stL; rw [stL_len l t]; exact List.length_set
theorem end_st (l : List S50) : ∀ (D : List Int) (e : Int) (S E : List Int) (n : Nat), S.length = n → E.length = n → (∀ b ∈ D, inJ n b) →
    (∀ q : Nat, q < n → (q : Int) ∉ D → rd E (q : Int) = rd S (q : Int) + (rd_T50 l (q : Int)).f0) → ∀ q : Nat, q < n → rd (endL l D e E) (q : Int) = rd (stL l D e S) (q : Int) + (rd_T50 l (q : Int)).f0
  | [], e, S, E, n, hS, hE, hD, h, q, hq => h q hq (by simp)
  | i :: t, e, S, E, n, hS, hE, hD, h, q, hq => by
    unfold endL stL
    refine end_st l t _ _ _ n (by rw [List.length_set]; exact hS) (by rw [List.length_set]; exact hE) (fun b hb => hD b (by simp [hb])) ?_ q hq
    intro q hq hn
    have hi := hD i (by simp)
    obtain ⟨j, hj, rfl⟩ := inJ_nat hi
    rw [rdW _ q (by rw [List.length_set]; omega), rdW _ q (by rw [List.length_set]; omega)]
    rw [Int.toNat_natCast, List.getElem_set, List.getElem_set]
    by_cases hqj : j = q
    · subst hqj
      rw [if_pos rfl, if_pos rfl]
    · rw [if_neg hqj, if_neg hqj]
      have := h q hq (by simp only [List.mem_cons, not_or]; exact ⟨by omega, hn⟩)
      rw [rdW E q (by omega), rdW S q (by omega)] at this
      exact this
theorem rd_good {l : List S50} (hg : goodB l = true) {a : Int} (ha : inJ l.length a) : 1 ≤ (rd_T50 l a).f0 ∧ (rd_T50 l a).f0 ≤ 50 ∧ 0 ≤ (rd_T50 l a).f2 ∧ (rd_T50 l a).f2 ≤ 500 := by
  rw [rd_nat l ha]
  have := good_at hg a.toNat (by have := ha.1; have := ha.2; omega)
  omega
theorem stL_bd (l : List S50) (hg : goodB l = true) : ∀ (D : List Int) (e : Int) (S : List Int), (∀ b ∈ D, inJ l.length b) → 0 ≤ e → (if e < 500 then 500 else e) + 50 * D.length ≤ 950 → (∀ x ∈ S, 0 ≤ x ∧ x ≤ 950) → ∀ x ∈ stL l D e S, 0 ≤ x ∧ x ≤ 950
  | [], e, S, _, _, _, hS => hS
  | i :: t, e, S, hD, h0, h1, hS => by
    have hb := rd_good hg (hD i (by simp))
    unfold stL
    rw [List.length_cons] at h1
    have hm : 0 ≤ mx e (rd_T50 l i).f2 ∧ mx e (rd_T50 l i).f2 ≤ (if e < 500 then 500 else e) := by rw [mxe]; split <;> split <;> omega
    refine stL_bd l hg t _ _ (fun b hb => hD b (by simp [hb])) (by omega) ?_ ?_
    · split <;> split at h1 <;> split at hm <;> omega
    · intro x hx
      rcases List.mem_or_eq_of_mem_set hx with h | h
      · exact hS x h
      · subst h
        split at h1 <;> split at hm <;> omega

theorem most_mx2 (a b : Int) : spec_l1Most.f a b = some (mx a b) := by
  unfold spec_l1Most.f
  rw [mxe]
  by_cases h : a < b
  · rw [if_pos h, if_neg (by omega)]
  · rw [if_neg h]
    by_cases h2 : a > b
    · rw [if_pos h2]
    · rw [if_neg h2]; congr 1; omega
theorem l2Starts_l0 (l : List S50) (hg : goodB l = true) (D : List Int) (hD : ∀ b ∈ D, inJ l.length b) (hn : D.length ≤ 8) : ∀ (d j : Nat) (e : Int) (E : List Int), j + d = D.length → E.length = l.length → 0 ≤ e → (if e < 500 then 500 else e) + 50 * d ≤ 950 →
    Ev (fun k => spec_l2Starts.l0 k l D E e (j : Int)) (stL l (D.drop j) e E) := by
  intro d
  induction d with
  | zero =>
    intro j e E hj _ _ _
    refine ev_succ ?_
    simp only [spec_l2Starts.l0, if_neg (show ¬ ((j : Int) < (D.length : Int)) by omega)]
    rw [List.drop_eq_nil_of_le (by omega)]
    exact ev_now _
  | succ d ih =>
    intro j e E hj hE h0 h1
    refine ev_succ ?_
    have hjl : j < D.length := by omega
    have hm := hD _ (List.getElem_mem hjl)
    have hb := rd_good hg hm
    have hmx : 0 ≤ mx e (rd_T50 l D[j]).f2 ∧ mx e (rd_T50 l D[j]).f2 ≤ (if e < 500 then 500 else e) := by rw [mxe]; split <;> split <;> omega
    have hmx2 : mx e (rd_T50 l D[j]).f2 ≤ 950 := by have := hmx.2; split at this <;> split at h1 <;> omega
    have hrd : ∀ (v x : Int), 0 ≤ v → v < (E.length : Int) → rd (E.set v.toNat x) v = x := by
      intro v x h0 h1
      obtain ⟨z, rfl⟩ := Int.eq_ofNat_of_zero_le h0
      rw [Int.toNat_natCast, rdW _ _ (by rw [List.length_set]; omega), List.getElem_set_self]
    rw [List.drop_eq_getElem_cons hjl, stL]
    simp only [spec_l2Starts.l0, if_pos (show (j : Int) < (D.length : Int) by omega), if_pos (show (0 : Int) ≤ (j : Int) by omega), rdW D j hjl, if_pos hm.1, if_pos hm.2, most_mx2, Option.bind_some, if_pos (show D[j] < (E.length : Int) by rw [hE]; exact hm.2), hrd D[j] (mx e (rd_T50 l D[j]).f2) hm.1 (by rw [hE]; exact hm.2), w64 (x := mx e (rd_T50 l D[j]).f2 + (rd_T50 l D[j]).f0) (by omega) (by omega), w64 (x := (j : Int) + 1) (by omega) (by omega)]
    refine ih (j + 1) _ _ (by omega) (by rw [List.length_set]; exact hE) (by omega) ?_
    split <;> split at h1 <;> split at hmx <;> omega
theorem l2Ends_ev (l : List S50) (hg : goodB l = true) (D : List Int) (hD : ∀ b ∈ D, inJ l.length b) (hn : D.length ≤ 8) (hall : ∀ q : Nat, q < l.length → (q : Int) ∈ D) : Ev (fun k => spec_l2Ends.f k l D) (endL l D 0 (List.replicate l.length 0)) := by
  have hl := good_len hg
  unfold spec_l2Ends.f
  have h1 : Ev (fun k => spec_l2Starts.f k l D) (stL l D 0 (List.replicate l.length 0)) := by
    unfold spec_l2Starts.f
    simp only [if_pos (show (0 : Int) ≤ (l.length : Int) by omega), Int.toNat_natCast, if_pos (show l.length ≤ 35184372088832 by omega)]
    exact l2Starts_l0 l hg D hD hn D.length 0 0 _ (by omega) (by simp) (by omega) (by rw [if_pos (by omega)]; omega)
  refine ev_bind h1 ?_
  have hbd := stL_bd l hg D 0 (List.replicate l.length 0) hD (by omega) (by rw [if_pos (by omega)]; omega) (fun x hx => by have := List.eq_of_mem_replicate hx; omega)
  have hrel := end_st l D 0 (List.replicate l.length 0) (List.replicate l.length 0) l.length (by simp) (by simp) hD (fun q hq hn => absurd (hall q hq) hn)
  have lS : (stL l D 0 (List.replicate l.length 0)).length = l.length := by rw [stL_len]; simp
  have lE : (endL l D 0 (List.replicate l.length 0)).length = l.length := by rw [endL_len]; simp
  generalize stL l D 0 (List.replicate l.length 0) = S at *
  generalize endL l D 0 (List.replicate l.length 0) = E at *
  have main : ∀ (d i : Nat), i + d = l.length → Ev (fun k => spec_l2Ends.l0 k l (E.take i ++ S.drop i) (i : Int)) E := by
    intro d
    induction d with
    | zero =>
      intro i hi
      refine ev_succ ?_
      simp only [spec_l2Ends.l0, if_neg (show ¬ ((i : Int) < (l.length : Int)) by omega)]
      rw [List.take_of_length_le (by omega), List.drop_eq_nil_of_le (by omega), List.append_nil]
      exact ev_now _
    | succ d ih =>
      intro i hi
      refine ev_succ ?_
      have hil : i < l.length := by omega
      have ht : (E.take i).length = i := by rw [List.length_take]; omega
      have hlen : (E.take i ++ S.drop i).length = l.length := by rw [List.length_append, ht, List.length_drop]; omega
      have hcons : S.drop i = S[i] :: S.drop (i + 1) := List.drop_eq_getElem_cons (by omega)
      have hr : rd (E.take i ++ S.drop i) (i : Int) = S[i] := by
        rw [rdW _ i (by omega), List.getElem_append_right (by omega)]
        simp only [List.getElem_drop, ht]
        congr 1; omega
      have h2 := hrel i hil
      rw [rdW E i (by omega), rdW S i (by omega)] at h2
      have h3 := hbd S[i] (List.getElem_mem (by omega))
      have h4 := rd_good hg (show inJ l.length (i : Int) from ⟨by omega, by omega⟩)
      simp only [spec_l2Ends.l0, if_pos (show ((i : Int) < (l.length : Int)) by omega), if_pos (show (0 : Int) ≤ (i : Int) by omega), hlen, hr, w64 (x := S[i] + (rd_T50 l (i : Int)).f0) (by omega) (by omega), w64 (x := (i : Int) + 1) (by omega) (by omega), Int.toNat_natCast]
      rw [← h2, hcons, List.set_append_right _ _ (by omega), ht, Nat.sub_self, List.set_cons_zero]
      have := ih (i + 1) (by omega)
      rw [List.take_succ_eq_append_getElem (by omega), List.append_assoc] at this
      exact this
  have h0 := main l.length 0 (by omega)
  simpa using h0

theorem endsOf_l0 (l : List S50) (hg : goodB l = true) (D : List Int) (hD : ∀ b ∈ D, inJ l.length b) (hn : D.length ≤ 8) : ∀ (d j : Nat) (e : Int) (E : List Int), j + d = D.length → E.length = l.length → 0 ≤ e → (if e < 500 then 500 else e) + 50 * d ≤ 950 →
    Ev (fun k => impl_endsOf.l0 k l E e D (D.length : Int) (j : Int)) (endL l (D.drop j) e E) := by
  intro d
  induction d with
  | zero =>
    intro j e E hj _ _ _
    refine ev_succ ?_
    simp only [impl_endsOf.l0, if_neg (show ¬ ((j : Int) < (D.length : Int)) by omega)]
    rw [List.drop_eq_nil_of_le (by omega)]
    exact ev_now _
  | succ d ih =>
    intro j e E hj hE h0 h1
    refine ev_succ ?_
    have hjl : j < D.length := by omega
    have hm := hD _ (List.getElem_mem hjl)
    have hb := rd_good hg hm
    have hmx : 0 ≤ mx e (rd_T50 l D[j]).f2 ∧ mx e (rd_T50 l D[j]).f2 ≤ (if e < 500 then 500 else e) := by rw [mxe]; split <;> split <;> omega
    have hmx2 : mx e (rd_T50 l D[j]).f2 ≤ 950 := by have := hmx.2; split at this <;> split at h1 <;> omega
    rw [List.drop_eq_getElem_cons hjl, endL]
    simp only [impl_endsOf.l0, if_pos (show (j : Int) < (D.length : Int) by omega), if_pos (show (0 : Int) ≤ (j : Int) by omega), rdW D j hjl, if_pos hm.1, if_pos hm.2, if_pos (show D[j] < (E.length : Int) by rw [hE]; exact hm.2), w64 (x := mx e (rd_T50 l D[j]).f2 + (rd_T50 l D[j]).f0) (by omega) (by omega), w64 (x := (j : Int) + 1) (by omega) (by omega)]
    refine ih (j + 1) _ _ (by omega) (by rw [List.length_set]; exact hE) (by omega) ?_
    split <;> split at h1 <;> split at hmx <;> omega
theorem endsOf_ev (l : List S50) (hg : goodB l = true) (D : List Int) (hD : ∀ b ∈ D, inJ l.length b) (hn : D.length ≤ 8) : Ev (fun k => impl_endsOf.f k l D) (endL l D 0 (List.replicate l.length 0)) := by
  have hl := good_len hg
  unfold impl_endsOf.f
  simp only [if_pos (show (0 : Int) ≤ (l.length : Int) by omega), Int.toNat_natCast, if_pos (show l.length ≤ 35184372088832 by omega)]
  exact endsOf_l0 l hg D hD hn D.length 0 0 _ (by omega) (by simp) (by omega) (by rw [if_pos (by omega)]; omega)

theorem endL_bd (l : List S50) (hg : goodB l = true) : ∀ (D : List Int) (e : Int) (S : List Int), (∀ b ∈ D, inJ l.length b) → 0 ≤ e → (if e < 500 then 500 else e) + 50 * D.length ≤ 950 → (∀ x ∈ S, 0 ≤ x ∧ x ≤ 950) → ∀ x ∈ endL l D e S, 0 ≤ x ∧ x ≤ 950
  | [], e, S, _, _, _, hS => hS
  | i :: t, e, S, hD, h0, h1, hS => by
    have hb := rd_good hg (hD i (by simp))
    unfold endL
    rw [List.length_cons] at h1
    have hm : 0 ≤ mx e (rd_T50 l i).f2 ∧ mx e (rd_T50 l i).f2 ≤ (if e < 500 then 500 else e) := by rw [mxe]; split <;> split <;> omega
    refine endL_bd l hg t _ _ (fun b hb => hD b (by simp [hb])) (by omega) ?_ ?_
    · split <;> split at h1 <;> split at hm <;> omega
    · intro x hx
      rcases List.mem_or_eq_of_mem_set hx with h | h
      · exact hS x h
      · subst h
        split at h1 <;> split at hm <;> omega

theorem l2Job_eq (x : S50) : spec_l2Job.f x.f0 x.f1 x.f2 x.f3 = some (okJ x) := by
  unfold spec_l2Job.f okJ
  simp only [l1In_eq, Option.bind_some]
  by_cases a1 : 1 ≤ x.f0 <;> by_cases a2 : x.f0 ≤ 50 <;> simp [a1, a2]
  by_cases b1 : 0 ≤ x.f1 <;> by_cases b2 : x.f1 ≤ 50 <;> simp [b1, b2]
  by_cases c1 : 0 ≤ x.f2 <;> by_cases c2 : x.f2 ≤ 500 <;> simp [c1, c2]
theorem l2Good_l (xs : List S50) (hn : xs.length ≤ 4611686018427387904) : ∀ (d i : Nat), i + d = xs.length → Ev (fun k => spec_l2Good.l0 k xs (i : Int)) ((xs.drop i).all okJ && decide (xs.length ≤ 8)) := by
  intro d
  induction d with
  | zero =>
    intro i hi
    refine ev_succ ?_
    simp only [spec_l2Good.l0, if_neg (show ¬ (i : Int) < (xs.length : Int) by omega), List.drop_of_length_le (show xs.length ≤ i by omega)]
    refine ev_const ?_
    simp
    omega
  | succ d ih =>
    intro i hi
    refine ev_succ ?_
    have hx : i < xs.length := by omega
    have hih := ih (i + 1) (by omega)
    rw [List.drop_eq_getElem_cons hx, List.all_cons]
    simp only [spec_l2Good.l0, if_pos (show (i : Int) < (xs.length : Int) by omega), if_pos (show (0 : Int) ≤ (i : Int) by omega), wsucc i (by omega), rdI xs i hx, l2Job_eq, Option.bind_some]
    by_cases c : okJ xs[i] = true
    · simpa only [c, if_true, Bool.true_and] using hih
    · have c' : okJ xs[i] = false := by simpa using c
      simp only [c', Bool.false_and]
      exact ev_now _
theorem l2Good_ev (xs : List S50) (hn : xs.length ≤ 4611686018427387904) : Ev (fun k => spec_l2Good.f k xs) (goodB xs) := by
  unfold spec_l2Good.f goodB
  rw [Bool.and_comm]
  exact l2Good_l xs hn xs.length 0 (by omega)

theorem l1Has_ev (ls : List Int) (x : Int) (hn : ls.length ≤ 1048576) : Ev (fun k => spec_l1Has.f k ls x) (decide (x ∈ ls)) := by
  have key : ∀ (d i : Nat), i + d = ls.length → Ev (fun k => spec_l1Has.l0 k ls x (i : Int)) (decide (x ∈ ls.drop i)) := by
    intro d
    induction d with
    | zero =>
      intro i hi
      refine ev_succ ?_
      rw [List.drop_of_length_le (by omega)]
      simp only [spec_l1Has.l0, if_neg (show ¬ (i : Int) < (ls.length : Int) by omega), List.not_mem_nil, decide_false]
      exact ev_now _
    | succ d ih =>
      intro i hi
      refine ev_succ ?_
      have hx : i < ls.length := by omega
      rw [List.drop_eq_getElem_cons hx]
      simp only [spec_l1Has.l0, if_pos (show (i : Int) < (ls.length : Int) by omega), if_pos (show (0 : Int) ≤ (i : Int) by omega), rdz ls i hx, wsucc i (by omega)]
      by_cases c : ls[i] = x
      · simp only [if_pos c, List.mem_cons, show x = ls[i] from c.symm, true_or, decide_true]; exact ev_now _
      · simp only [if_neg c, List.mem_cons, show ¬ x = ls[i] from fun e => c e.symm, false_or]; exact ih (i + 1) (by omega)
  have h := key ls.length 0 (Nat.zero_add _)
  rw [List.drop_zero] at h
  unfold spec_l1Has.f
  exact h

theorem own_eq (l : List Int) (h : l.length ≤ 1000) : spec_l1Own.f l = some l := by
  simp only [spec_l1Own.f, Option.bind_some, List.length_nil, if_pos (show 0 + l.length < 17592186044416 by omega), List.nil_append]
theorem copy_eq (l : List Int) (h : l.length ≤ 1000) : impl_copyInts.f l = some l := by
  simp only [impl_copyInts.f, Option.bind_some, List.length_nil, if_pos (show 0 + l.length < 17592186044416 by omega), List.nil_append]
def valP (l : List S50) (ob : Int) (o : List Int) : Int := ofF ob l (endL l o 0 (List.replicate l.length 0)) 0 0 l.length
/-- Of an order: its numbers are the jobs. -/
def ordP (n : Nat) (o : List Int) : Prop := o.Perm (idsW n)
theorem ordP_len {n : Nat} {o : List Int} (h : ordP n o) : o.length = n := by rw [h.length_eq, idsW_len]
theorem ordP_in {n : Nat} {o : List Int} (h : ordP n o) : ∀ b ∈ o, inJ n b := fun b hb => idsW_mem (h.mem_iff.mp hb)
theorem ids_mem (n q : Nat) (h : q < n) : (q : Int) ∈ idsW n := by unfold idsW; exact List.mem_map.mpr ⟨q, List.mem_range.mpr h, rfl⟩
theorem ordP_all {n : Nat} {o : List Int} (h : ordP n o) (q : Nat) (hq : q < n) : (q : Int) ∈ o := h.mem_iff.mpr (ids_mem n q hq)
theorem ends_fact {l : List S50} (hg : goodB l = true) {o : List Int} (ho : ordP l.length o) : (endL l o 0 (List.replicate l.length 0)).length = l.length ∧ ∀ x ∈ endL l o 0 (List.replicate l.length 0), 0 ≤ x ∧ x ≤ 4611686018427387904 := by
  have hl := good_len hg
  refine ⟨by rw [endL_len, List.length_replicate], fun x hx => ?_⟩
  have := endL_bd l hg o 0 (List.replicate l.length 0) (ordP_in ho) (by omega) (by rw [ordP_len ho]; simp; omega) (fun x hx => by have := List.eq_of_mem_replicate hx; omega) x hx
  omega
theorem valS {l : List S50} (hg : goodB l = true) (ob : Int) {o : List Int} (ho : ordP l.length o) : Ev (fun k => spec_l2Value.f k l o ob) (valP l ob o) := by
  have hl := good_len hg
  unfold spec_l2Value.f
  exact ev_bind (l2Ends_ev l hg o (ordP_in ho) (by rw [ordP_len ho]; omega) (ordP_all ho)) (ev_bind (l2Of_ev l _ ob hl (ends_fact hg ho).1) (ev_now _))
theorem valI {l : List S50} (hg : goodB l = true) {ob : Int} (hob : objB ob = true) {o : List Int} (ho : ordP l.length o) : Ev (fun k => impl_valueOf.f k l o ob) (valP l ob o) := by
  have hl := good_len hg
  unfold impl_valueOf.f
  exact ev_bind (endsOf_ev l hg o (ordP_in ho) (by rw [ordP_len ho]; omega)) (ev_bind (valueOfEnds_ev l _ ob hl (ends_fact hg ho).1 (ends_fact hg ho).2 hob) (ev_now _))
theorem goW_mem (f : List Int → List Int → List (List Int)) (Q : List Int → Prop) (B : List Int) : ∀ (H L : List Int), (∀ (L1 H1 : List Int) (a : Int), L ++ H = L1 ++ a :: H1 → ∀ o ∈ f (B ++ [a]) (L1 ++ H1), Q o) → ∀ o ∈ goW f B L H, Q o := by
  intro H
  induction H with
  | nil => intro L _ o ho; simp [goW] at ho
  | cons a H ih =>
    intro L h o ho
    rw [goW, List.mem_append] at ho
    rcases ho with ho | ho
    · exact h L H a rfl o ho
    · exact ih (L ++ [a]) (fun L1 H1 b e => h L1 H1 b (by rw [← e]; simp)) o ho
theorem orders_perm : ∀ (d : Nat) (B R : List Int), R.length = d → ∀ o ∈ ordersW d B R, o.Perm (B ++ R) := by
  intro d
  induction d with
  | zero =>
    intro B R h o ho
    obtain rfl := List.eq_nil_of_length_eq_zero h
    simp only [ordersW, List.mem_singleton] at ho
    subst ho
    simp
  | succ d ih =>
    intro B R h
    refine goW_mem _ _ B R [] (fun L1 H1 a e o ho => ?_)
    rw [List.nil_append] at e
    subst e
    have h1 := ih (B ++ [a]) (L1 ++ H1) (by simp at h ⊢; omega) o ho
    refine h1.trans ?_
    rw [List.append_assoc]
    exact List.Perm.append_left B (show (a :: (L1 ++ H1)).Perm (L1 ++ a :: H1) from List.perm_middle.symm)
/-! The program's way through the orders. -/
def nxW (a b : List Int) : Prop := a.length ≤ 1048576 → Ev (fun k => impl_nextOrder.f k a) (true, b)
theorem eo_ev {σ : Type} (st : Nat → σ → List Int → Option σ) (step : σ → List Int → σ) {a b : List Int} {L : List (List Int)} (h : ChainW nxW a L b) (hlast : Ev (fun k => impl_nextOrder.f k b) (false, b)) :
    (∀ o ∈ L, o.length ≤ 1048576 ∧ ∀ s, Ev (fun k => st k s o) (step s o)) → ∀ s, Ev (fun k => eoL st k s a) (L.foldl step s) := by
  induction h with
  | one a =>
    intro hL s
    refine ev_succ ?_
    simp only [eoL]
    refine ev_bind ((hL a (by simp)).2 s) (ev_bind hlast ?_)
    simp only [Bool.false_eq_true, if_false, List.foldl_cons, List.foldl_nil]
    exact ev_now _
  | @cons a b c L hn hc ih =>
    intro hL s
    refine ev_succ ?_
    simp only [eoL]
    refine ev_bind ((hL a (by simp)).2 s) (ev_bind (hn (hL a (by simp)).1) ?_)
    simp only [if_true, List.foldl_cons]
    exact ih hlast (fun o ho => hL o (by simp [ho])) _
theorem each_ev {σ : Type} (st : Nat → σ → List Int → Option σ) (step : σ → List Int → σ) (n : Nat) (hn : n ≤ 1000) (hst : ∀ o, ordP n o → ∀ s, Ev (fun k => st k s o) (step s o)) (s : σ) : Ev (fun k => eoF st k (n : Int) s) ((ordersW n [] (idsW n)).foldl step s) := by
  unfold eoF
  refine ev_bind (numbersTo_ev n (by omega)) ?_
  have hc := chain_orders nxW (fun B L a b H hp hl => next_swap B L H a b hp hl) n [] (idsW n) (idsW_len n) (ids_asc n)
  rw [List.nil_append, List.nil_append] at hc
  refine eo_ev st step hc (next_last (idsW n) (ids_asc n) (by rw [idsW_len]; omega)) (fun o ho => ?_) s
  have hp : ordP n o := by have := orders_perm n [] (idsW n) (idsW_len n) o ho; rwa [List.nil_append] at this
  exact ⟨by rw [ordP_len hp]; omega, fun s => hst o hp s⟩
theorem goW_fold {σ : Type} (step : σ → List Int → σ) (f : List Int → List Int → List (List Int)) (B L H : List Int) (a : Int) (s : σ) : (goW f B L (a :: H)).foldl step s = (goW f B (L ++ [a]) H).foldl step ((f (B ++ [a]) (L ++ H)).foldl step s) := by
  rw [goW, List.foldl_append]

theorem scanE {β : Type} (n : Nat) (F : Nat → Nat → Option β) (G : Nat → Option β) (bad : Nat → Prop) (x : β)
    (hit : ∀ j, j < n → bad j → Ev (F j) x) (miss : ∀ j r, j < n → ¬ bad j → Ev (F (j + 1)) r → Ev (F j) r) (fin : ∀ r, Ev G r → Ev (F n) r) :
    (∀ d j, j + d = n → (∃ j', j ≤ j' ∧ j' < n ∧ bad j') → Ev (F j) x) ∧ (∀ d j r, j + d = n → (∀ j', j ≤ j' → j' < n → ¬ bad j') → Ev G r → Ev (F j) r) := by
  refine ⟨?_, ?_⟩
  · intro d
    induction d with
    | zero => rintro j hj ⟨j', h1, h2, _⟩; omega
    | succ d ih =>
      rintro j hj ⟨j', h1, h2, h3⟩
      by_cases h : bad j
      · exact hit j (by omega) h
      · refine miss j x (by omega) h (ih (j + 1) (by omega) ⟨j', ?_, h2, h3⟩)
        rcases Nat.lt_or_ge j j' with g | g
        · omega
        · obtain rfl : j' = j := by omega
          exact absurd h3 h
  · intro d
    induction d with
    | zero => intro j r hj _ hr; obtain rfl : j = n := by omega
              exact fin r hr
    | succ d ih =>
      intro j r hj h hr
      exact miss j r (by omega) (h j (Nat.le_refl _) (by omega)) (ih (j + 1) r (by omega) (fun j' h1 h2 => h j' (by omega) h2) hr)
def extB (bf : Int → Int → Bool) : List Int → Bool
  | [] => true
  | a :: o => o.all (fun y => !bf y a) && extB bf o
theorem extB_iff (bf : Int → Int → Bool) : ∀ o : List Int, extB bf o = true ↔ o.Pairwise (fun x y => bf y x = false) := by
  intro o
  induction o with
  | nil => simp [extB]
  | cons a o ih =>
    rw [extB, Bool.and_eq_true, List.pairwise_cons, ih, List.all_eq_true]
    constructor
    · rintro ⟨h1, h2⟩; exact ⟨fun y hy => by simpa using h1 y hy, h2⟩
    · rintro ⟨h1, h2⟩; exact ⟨fun y hy => by simp [h1 y hy], h2⟩
theorem pw_split {R : Int → Int → Prop} : ∀ B : List Int, (∀ B1 x B2, B = B1 ++ x :: B2 → ∀ y ∈ B2, R x y) → B.Pairwise R := by
  intro B
  induction B with
  | nil => intro _; exact List.Pairwise.nil
  | cons a B ih =>
    intro h
    refine List.Pairwise.cons (fun y hy => h [] a B rfl y hy) (ih (fun B1 x B2 e y hy => h (a :: B1) x B2 (by rw [e]; rfl) y hy))
def RdW (bf : Int → Int → Bool) (n : Nat) (B : List Int) : Prop := ∀ (B1 : List Int) (x : Int) (B2 : List Int), B = B1 ++ x :: B2 → ∀ i ∈ idsW n, bf i x = true → i ∈ B1
theorem RdW_ext {bf : Int → Int → Bool} {n : Nat} {B : List Int} (h : RdW bf n B) (hp : B.Perm (idsW n)) : extB bf B = true := by
  rw [extB_iff]
  refine pw_split B (fun B1 x B2 e y hy => ?_)
  cases hb : bf y x with
  | false => rfl
  | true =>
    exfalso
    have hyI : y ∈ idsW n := hp.mem_iff.mp (by rw [e]; simp [hy])
    have h1 := h B1 x B2 e y hyI hb
    have hnd : B.Nodup := hp.nodup_iff.mpr ((ids_asc n).imp (fun h => by omega))
    rw [e, List.nodup_append] at hnd
    exact hnd.2.2 y h1 y (by simp [hy]) rfl
theorem RdW_snoc {bf : Int → Int → Bool} {n : Nat} {B : List Int} (h : RdW bf n B) {j : Int} (hj : ∀ i ∈ idsW n, bf i j = true → i ∈ B) : RdW bf n (B ++ [j]) := by
  intro B1 x B2 e i hi hb
  rcases List.eq_nil_or_concat B2 with h2 | ⟨B3, z, h2⟩
  · subst h2
    have := List.append_inj' e rfl
    obtain ⟨rfl, h4⟩ := this
    simp only [List.cons.injEq, and_true] at h4
    subst h4
    exact hj i hi hb
  · rw [List.concat_eq_append] at h2
    subst h2
    have e2 : B ++ [j] = (B1 ++ x :: B3) ++ [z] := by rw [e]; simp
    have := List.append_inj' e2 rfl
    exact h B1 x B3 this.1 i hi hb
theorem orders_prefix : ∀ (d : Nat) (B R : List Int), R.length = d → ∀ o ∈ ordersW d B R, ∃ S, o = B ++ S := by
  intro d
  induction d with
  | zero =>
    intro B R h o ho
    simp only [ordersW, List.mem_singleton] at ho
    exact ⟨[], by simp [ho]⟩
  | succ d ih =>
    intro B R h
    refine goW_mem _ _ B R [] (fun L1 H1 a e o ho => ?_)
    rw [List.nil_append] at e
    subst e
    obtain ⟨S, hS⟩ := ih (B ++ [a]) (L1 ++ H1) (by simp at h ⊢; omega) o ho
    exact ⟨a :: S, by rw [hS]; simp⟩
theorem not_ext {bf : Int → Int → Bool} {n : Nat} {B S : List Int} {j i : Int} (hp : (B ++ j :: S).Perm (idsW n)) (hi : i ∈ idsW n) (hb : bf i j = true) (hB : i ∉ B) (hj : i ≠ j) : extB bf (B ++ j :: S) = false := by
  cases h : extB bf (B ++ j :: S) with
  | false => rfl
  | true =>
    exfalso
    rw [extB_iff] at h
    have hm : i ∈ B ++ j :: S := hp.mem_iff.mpr hi
    rw [List.mem_append, List.mem_cons] at hm
    rcases hm with hm | hm | hm
    · exact hB hm
    · exact hj hm
    · have := (List.pairwise_cons.mp (List.pairwise_append.mp h).2.1).1 i hm
      rw [hb] at this
      exact absurd this (by simp)
theorem fold_same {σ : Type} (step : σ → List Int → σ) (s : σ) : ∀ L : List (List Int), (∀ o ∈ L, ∀ s, step s o = s) → L.foldl step s = s := by
  intro L
  induction L with
  | nil => intro _; rfl
  | cons o L ih => intro h; rw [List.foldl_cons, h o (by simp)]; exact ih (fun o ho => h o (by simp [ho]))

/-- A table of n rows and n columns. -/
def Sq (n : Nat) (t : List (List Bool)) : Prop := t.length = n ∧ ∀ r ∈ t, r.length = n
theorem Sq.row {n : Nat} {t : List (List Bool)} (h : Sq n t) (i : Nat) (hi : i < n) : (t[i]'(by rw [h.1]; exact hi)).length = n := h.2 _ (List.getElem_mem _)
def tb (t : List (List Bool)) (i j : Nat) : Bool := (t.getD i []).getD j false
theorem tb_eq (t : List (List Bool)) (i j : Nat) (hi : i < t.length) (hj : j < t[i].length) : tb t i j = t[i][j] := by
  unfold tb
  rw [List.getD_eq_getElem?_getD, List.getD_eq_getElem?_getD, List.getElem?_eq_getElem hi, Option.getD_some, List.getElem?_eq_getElem hj, Option.getD_some]
def putT (t : List (List Bool)) (i j : Nat) (b : Bool) : List (List Bool) := t.set i ((t.getD i []).set j b)
theorem Sq.put {n : Nat} {t : List (List Bool)} (h : Sq n t) (i j : Nat) (hi : i < n) (b : Bool) : Sq n (putT t i j b) := by
  refine ⟨by unfold putT; rw [List.length_set]; exact h.1, fun r hr => ?_⟩
  unfold putT at hr
  rcases List.mem_or_eq_of_mem_set hr with hr | rfl
  · exact h.2 r hr
  · rw [List.length_set, List.getD_eq_getElem?_getD, List.getElem?_eq_getElem (by rw [h.1]; exact hi), Option.getD_some]
    exact h.row i hi
theorem rdBB (t : List (List Bool)) (i : Nat) (h : i < t.length) : rd_L5 t (i : Int) = t[i] := by
  unfold rd_L5
  rw [Int.toNat_natCast, List.getD_eq_getElem?_getD, List.getElem?_eq_getElem h]
  rfl
theorem rdB (r : List Bool) (i : Nat) (h : i < r.length) : rdOf false r (i : Int) = r[i] := by
  unfold rdOf
  rw [Int.toNat_natCast, List.getD_eq_getElem?_getD, List.getElem?_eq_getElem h]
  rfl
theorem rdTB (t : List (List Bool)) (i : Nat) (h : i < t.length) : (rd_L5 t (i : Int)) = t.getD i [] := by
  rw [rdBB t i h, List.getD_eq_getElem?_getD, List.getElem?_eq_getElem h]; rfl
theorem rdTT {n : Nat} {t : List (List Bool)} (h : Sq n t) (i j : Nat) (hi : i < n) (hj : j < n) : rdOf false (rd_L5 t (i : Int)) (j : Int) = tb t i j := by
  have h1 : i < t.length := by rw [h.1]; exact hi
  have h2 := h.row i hi
  rw [rdBB t i h1, rdB _ j (by rw [h2]; exact hj), tb_eq t i j h1 (by rw [h2]; exact hj)]
theorem put_same {n : Nat} {t : List (List Bool)} (h : Sq n t) (i j : Nat) (hi : i < n) (hj : j < n) : putT t i j (tb t i j) = t := by
  have h1 : i < t.length := by rw [h.1]; exact hi
  have h2 := h.row i hi
  have hg : t.getD i [] = t[i] := by rw [List.getD_eq_getElem?_getD, List.getElem?_eq_getElem h1]; rfl
  unfold putT
  rw [hg, tb_eq t i j h1 (by rw [h2]; exact hj), List.set_getElem_self, List.set_getElem_self]
def stepT (t : List (List Bool)) (k i j : Nat) : List (List Bool) := if (tb t i k && tb t k j) = true then putT t i j true else t
theorem Sq.step {n : Nat} {t : List (List Bool)} (h : Sq n t) (k i j : Nat) (hi : i < n) : Sq n (stepT t k i j) := by
  unfold stepT
  split
  · exact h.put i j hi true
  · exact h
def rowF (t : List (List Bool)) (k i : Nat) (js : List Nat) : List (List Bool) := js.foldl (fun t j => stepT t k i j) t
def midF (n : Nat) (t : List (List Bool)) (k : Nat) (is : List Nat) : List (List Bool) := is.foldl (fun t i => rowF t k i (List.range' 0 n)) t
def outF (n : Nat) (t : List (List Bool)) (ks : List Nat) : List (List Bool) := ks.foldl (fun t k => midF n t k (List.range' 0 n)) t
def edgeF (t : List (List Bool)) (es : List S53) : List (List Bool) := es.foldl (fun t e => putT t e.f0.toNat e.f1.toNat true) t
/-- The table of what comes before what. -/
def closT (n : Nat) (es : List S53) : List (List Bool) := outF n (edgeF (List.replicate n (List.replicate n false)) es) (List.range' 0 n)
def inN (n : Nat) (es : List S53) : Prop := ∀ e ∈ es, 0 ≤ e.f0 ∧ e.f0 < n ∧ 0 ≤ e.f1 ∧ e.f1 < n
theorem Sq.row_fold {n : Nat} {t : List (List Bool)} (h : Sq n t) (k i : Nat) (hi : i < n) (js : List Nat) : Sq n (rowF t k i js) := by
  unfold rowF
  induction js generalizing t with
  | nil => exact h
  | cons j js ih => exact ih (h.step k i j hi)
section
variable {F : Nat → List (List Bool) → Nat → Nat → Nat → Option (List (List Bool))}
end
theorem spec_l4 (n : Nat) (hn : n ≤ 8) (kk i : Nat) (hk : kk < n) (hi : i < n) (R : List (List Bool) → List (List Bool))
    (hnext : ∀ t, Sq n t → Ev (fun k => spec_l4Table.l3 k (n : Int) t (kk : Int) ((i + 1 : Nat) : Int)) (R t)) :
    ∀ (d j : Nat) (t : List (List Bool)), j + d = n → Sq n t → Ev (fun k => spec_l4Table.l4 k (n : Int) t (kk : Int) (i : Int) (j : Int)) (R (rowF t kk i (List.range' j d))) := by
  intro d
  induction d with
  | zero =>
    intro j t hj ht
    refine ev_succ ?_
    simp only [spec_l4Table.l4, if_neg (show ¬ (j : Int) < (n : Int) by omega), wsucc i (by omega)]
    exact hnext t ht
  | succ d ih =>
    intro j t hj ht
    refine ev_succ ?_
    have hl := ht.1
    have hri : (rd_L5 t (i : Int)).length = n := by rw [rdBB t i (by omega)]; exact ht.row i hi
    have hrk : (rd_L5 t (kk : Int)).length = n := by rw [rdBB t kk (by omega)]; exact ht.row kk hk
    have h := ih (j + 1) (stepT t kk i j) (by omega) (ht.step kk i j hi)
    rw [List.range'_succ]
    simp only [rowF, List.foldl_cons]
    simp only [rowF] at h
    simp only [spec_l4Table.l4, if_pos (show (j : Int) < (n : Int) by omega), if_pos (show (0 : Int) ≤ (i : Int) by omega), if_pos (show (i : Int) < (t.length : Int) by omega), if_pos (show (0 : Int) ≤ (kk : Int) by omega), if_pos (show (kk : Int) < ((rd_L5 t (i : Int)).length : Int) by omega), if_pos (show (kk : Int) < (t.length : Int) by omega), if_pos (show (0 : Int) ≤ (j : Int) by omega), if_pos (show (j : Int) < ((rd_L5 t (kk : Int)).length : Int) by omega), if_pos (show (j : Int) < ((rd_L5 t (i : Int)).length : Int) by omega), rdTT ht i kk hi hk, rdTT ht kk j hk (by omega), wsucc j (by omega), Int.toNat_natCast]
    by_cases c1 : tb t i kk = true
    · by_cases c2 : tb t kk j = true
      · simp only [if_pos c1, if_pos c2]
        have hs : stepT t kk i j = putT t i j true := by unfold stepT; rw [if_pos (by rw [c1, c2]; rfl)]
        rw [hs] at h ⊢
        rw [rdTB t i (by omega)]
        exact h
      · simp only [if_pos c1, if_neg c2]
        have hs : stepT t kk i j = t := by unfold stepT; rw [if_neg (by rw [c1]; simpa using c2)]
        rw [hs] at h ⊢
        exact h
    · simp only [if_neg c1]
      have hs : stepT t kk i j = t := by unfold stepT; rw [if_neg (by simp only [Bool.and_eq_true]; exact fun x => c1 x.1)]
      rw [hs] at h ⊢
      exact h
theorem spec_l3 (n : Nat) (hn : n ≤ 8) (kk : Nat) (hk : kk < n) (R : List (List Bool) → List (List Bool))
    (hnext : ∀ t, Sq n t → Ev (fun k => spec_l4Table.l2 k (n : Int) t ((kk + 1 : Nat) : Int)) (R t)) :
    ∀ (d i : Nat) (t : List (List Bool)), i + d = n → Sq n t → Ev (fun k => spec_l4Table.l3 k (n : Int) t (kk : Int) (i : Int)) (R (midF n t kk (List.range' i d))) := by
  intro d
  induction d with
  | zero =>
    intro i t hi ht
    refine ev_succ ?_
    simp only [spec_l4Table.l3, if_neg (show ¬ (i : Int) < (n : Int) by omega), wsucc kk (by omega)]
    exact hnext t ht
  | succ d ih =>
    intro i t hi ht
    refine ev_succ ?_
    rw [List.range'_succ]
    simp only [midF, List.foldl_cons, spec_l4Table.l3, if_pos (show (i : Int) < (n : Int) by omega)]
    exact spec_l4 n hn kk i hk (by omega) (fun t => R (midF n t kk (List.range' (i + 1) d))) (fun t ht => ih (i + 1) t (by omega) ht) n 0 t (by omega) ht
theorem mid_sq {n : Nat} {t : List (List Bool)} (h : Sq n t) (k : Nat) : ∀ is : List Nat, (∀ i ∈ is, i < n) → Sq n (midF n t k is) := by
  intro is
  unfold midF
  induction is generalizing t with
  | nil => intro _; exact h
  | cons i is ih => intro hi; exact ih (h.row_fold k i (hi i (by simp)) _) (fun x hx => hi x (by simp [hx]))
theorem spec_l2 (n : Nat) (hn : n ≤ 8) : ∀ (d kk : Nat) (t : List (List Bool)), kk + d = n → Sq n t → Ev (fun k => spec_l4Table.l2 k (n : Int) t (kk : Int)) (outF n t (List.range' kk d)) := by
  intro d
  induction d with
  | zero =>
    intro kk t hk ht
    refine ev_succ ?_
    simp only [spec_l4Table.l2, if_neg (show ¬ (kk : Int) < (n : Int) by omega)]
    exact ev_now _
  | succ d ih =>
    intro kk t hk ht
    refine ev_succ ?_
    rw [List.range'_succ]
    simp only [outF, List.foldl_cons, spec_l4Table.l2, if_pos (show (kk : Int) < (n : Int) by omega)]
    exact spec_l3 n hn kk (by omega) (fun t => outF n t (List.range' (kk + 1) d)) (fun t ht => ih (kk + 1) t (by omega) ht) n 0 t (by omega) ht
theorem edge_sq {n : Nat} {t : List (List Bool)} (h : Sq n t) : ∀ es : List S53, inN n es → Sq n (edgeF t es) := by
  intro es
  unfold edgeF
  induction es generalizing t with
  | nil => intro _; exact h
  | cons e es ih =>
    intro he
    have := he e (by simp)
    exact ih (h.put _ _ (by omega) true) (fun x hx => he x (by simp [hx]))
theorem spec_l1 (n : Nat) (hn : n ≤ 8) (es : List S53) (hes : es.length ≤ 1048576) (hin : inN n es) : ∀ (d i : Nat) (t : List (List Bool)), i + d = es.length → Sq n t → Ev (fun k => spec_l4Table.l1 k (n : Int) es t (i : Int)) (outF n (edgeF t (es.drop i)) (List.range' 0 n)) := by
  intro d
  induction d with
  | zero =>
    intro i t hi ht
    refine ev_succ ?_
    simp only [spec_l4Table.l1, if_neg (show ¬ (i : Int) < (es.length : Int) by omega), List.drop_of_length_le (show es.length ≤ i by omega)]
    exact spec_l2 n hn n 0 t (by omega) ht
  | succ d ih =>
    intro i t hi ht
    refine ev_succ ?_
    have hx : i < es.length := by omega
    have hl := ht.1
    have he := hin es[i] (List.getElem_mem hx)
    obtain ⟨a, ha⟩ := Int.eq_ofNat_of_zero_le he.1
    obtain ⟨b, hb⟩ := Int.eq_ofNat_of_zero_le he.2.2.1
    have hr : (rd_L5 t (a : Int)).length = n := by rw [rdBB t a (by omega)]; exact ht.row a (by omega)
    have h := ih (i + 1) (putT t a b true) (by omega) (ht.put a b (by omega) true)
    rw [List.drop_eq_getElem_cons hx]
    simp only [edgeF, List.foldl_cons, ha, hb, Int.toNat_natCast]
    simp only [edgeF] at h
    simp only [spec_l4Table.l1, if_pos (show (i : Int) < (es.length : Int) by omega), if_pos (show (0 : Int) ≤ (i : Int) by omega), rdA2 es i hx, ha, hb, if_pos (show (0 : Int) ≤ (a : Int) by omega), if_pos (show (a : Int) < (t.length : Int) by omega), if_pos (show (0 : Int) ≤ (b : Int) by omega), if_pos (show (b : Int) < ((rd_L5 t (a : Int)).length : Int) by omega), wsucc i (by omega), Int.toNat_natCast]
    rw [rdTB t a (by omega)]
    exact h
theorem spec_l0 (n : Nat) (hn : n ≤ 8) (es : List S53) (hes : es.length ≤ 1048576) (hin : inN n es) : ∀ (d i : Nat) (t : List (List Bool)), i + d = n → t = List.replicate i (List.replicate n false) → Ev (fun k => spec_l4Table.l0 k (n : Int) es t (i : Int)) (closT n es) := by
  intro d
  induction d with
  | zero =>
    intro i t hi ht
    refine ev_succ ?_
    have hin' : i = n := by omega
    subst hin'
    simp only [spec_l4Table.l0, if_neg (show ¬ (i : Int) < (i : Int) by omega)]
    have := spec_l1 i hn es hes hin es.length 0 t (by omega) (by rw [ht]; exact ⟨by simp, fun r hr => by rw [List.eq_of_mem_replicate hr]; simp⟩)
    rw [List.drop_zero, ht] at this
    rw [ht]
    exact this
  | succ d ih =>
    intro i t hi ht
    refine ev_succ ?_
    have hl : t.length = i := by rw [ht]; simp
    simp only [spec_l4Table.l0, if_pos (show (i : Int) < (n : Int) by omega), if_pos (show (0 : Int) ≤ (n : Int) by omega), Int.toNat_natCast, if_pos (show n ≤ 281474976710656 by omega), if_pos (show t.length < 5864062014805 by omega), wsucc i (by omega)]
    exact ih (i + 1) _ (by omega) (by rw [ht, List.replicate_succ'])
theorem l4Table_ev (n : Nat) (hn : n ≤ 8) (es : List S53) (hes : es.length ≤ 1048576) (hin : inN n es) : Ev (fun k => spec_l4Table.f k (n : Int) es) (closT n es) := by
  unfold spec_l4Table.f
  exact spec_l0 n hn es hes hin n 0 [] (by omega) (by simp)
theorem impl_l4 (n : Nat) (hn : n ≤ 8) (kk i : Nat) (hk : kk < n) (hi : i < n) (R : List (List Bool) → List (List Bool))
    (hnext : ∀ t, Sq n t → Ev (fun k => impl_closure.l3 k (n : Int) t (kk : Int) ((i + 1 : Nat) : Int)) (R t)) :
    ∀ (d j : Nat) (t : List (List Bool)), j + d = n → Sq n t → Ev (fun k => impl_closure.l4 k (n : Int) t (kk : Int) (i : Int) (j : Int)) (R (rowF t kk i (List.range' j d))) := by
  intro d
  induction d with
  | zero =>
    intro j t hj ht
    refine ev_succ ?_
    simp only [impl_closure.l4, if_neg (show ¬ (j : Int) < (n : Int) by omega), wsucc i (by omega)]
    exact hnext t ht
  | succ d ih =>
    intro j t hj ht
    refine ev_succ ?_
    have hl := ht.1
    have hri : (rd_L5 t (i : Int)).length = n := by rw [rdBB t i (by omega)]; exact ht.row i hi
    have hrk : (rd_L5 t (kk : Int)).length = n := by rw [rdBB t kk (by omega)]; exact ht.row kk hk
    have h := ih (j + 1) (stepT t kk i j) (by omega) (ht.step kk i j hi)
    rw [List.range'_succ]
    simp only [rowF, List.foldl_cons]
    simp only [rowF] at h
    simp only [impl_closure.l4, if_pos (show (j : Int) < (n : Int) by omega), if_pos (show (0 : Int) ≤ (i : Int) by omega), if_pos (show (i : Int) < (t.length : Int) by omega), if_pos (show (0 : Int) ≤ (kk : Int) by omega), if_pos (show (kk : Int) < ((rd_L5 t (i : Int)).length : Int) by omega), if_pos (show (kk : Int) < (t.length : Int) by omega), if_pos (show (0 : Int) ≤ (j : Int) by omega), if_pos (show (j : Int) < ((rd_L5 t (kk : Int)).length : Int) by omega), if_pos (show (j : Int) < ((rd_L5 t (i : Int)).length : Int) by omega), rdTT ht i kk hi hk, rdTT ht kk j hk (by omega), rdTT ht i j hi (by omega), wsucc j (by omega), Int.toNat_natCast]
    have hput : ∀ b, t.set i ((rd_L5 t (i : Int)).set j b) = putT t i j b := fun b => by rw [rdTB t i (by omega)]; rfl
    have hsame := put_same ht i j hi (show j < n by omega)
    by_cases c0 : tb t i j = true
    · simp only [if_pos c0, hput]
      have hs : stepT t kk i j = t := by
        unfold stepT
        split
        · rw [c0] at hsame; exact hsame
        · rfl
      rw [hs] at h ⊢
      rw [c0] at hsame
      rw [hsame]
      exact h
    · have c0' : tb t i j = false := by simpa using c0
      rw [c0'] at hsame
      by_cases c1 : tb t i kk = true
      · simp only [if_neg c0, if_pos c1, hput]
        by_cases c2 : tb t kk j = true
        · have hs : stepT t kk i j = putT t i j true := by unfold stepT; rw [if_pos (by rw [c1, c2]; rfl)]
          rw [hs] at h ⊢
          rw [c2]
          exact h
        · have c2' : tb t kk j = false := by simpa using c2
          have hs : stepT t kk i j = t := by unfold stepT; rw [if_neg (by rw [c1]; simpa using c2)]
          rw [hs] at h ⊢
          rw [c2', hsame]
          exact h
      · simp only [if_neg c0, if_neg c1, hput]
        have hs : stepT t kk i j = t := by unfold stepT; rw [if_neg (by simp only [Bool.and_eq_true]; exact fun x => c1 x.1)]
        rw [hs] at h ⊢
        rw [hsame]
        exact h
theorem impl_l3 (n : Nat) (hn : n ≤ 8) (kk : Nat) (hk : kk < n) (R : List (List Bool) → List (List Bool))
    (hnext : ∀ t, Sq n t → Ev (fun k => impl_closure.l2 k (n : Int) t ((kk + 1 : Nat) : Int)) (R t)) :
    ∀ (d i : Nat) (t : List (List Bool)), i + d = n → Sq n t → Ev (fun k => impl_closure.l3 k (n : Int) t (kk : Int) (i : Int)) (R (midF n t kk (List.range' i d))) := by
  intro d
  induction d with
  | zero =>
    intro i t hi ht
    refine ev_succ ?_
    simp only [impl_closure.l3, if_neg (show ¬ (i : Int) < (n : Int) by omega), wsucc kk (by omega)]
    exact hnext t ht
  | succ d ih =>
    intro i t hi ht
    refine ev_succ ?_
    rw [List.range'_succ]
    simp only [midF, List.foldl_cons, impl_closure.l3, if_pos (show (i : Int) < (n : Int) by omega)]
    exact impl_l4 n hn kk i hk (by omega) (fun t => R (midF n t kk (List.range' (i + 1) d))) (fun t ht => ih (i + 1) t (by omega) ht) n 0 t (by omega) ht
theorem impl_l2 (n : Nat) (hn : n ≤ 8) : ∀ (d kk : Nat) (t : List (List Bool)), kk + d = n → Sq n t → Ev (fun k => impl_closure.l2 k (n : Int) t (kk : Int)) (outF n t (List.range' kk d)) := by
  intro d
  induction d with
  | zero =>
    intro kk t hk ht
    refine ev_succ ?_
    simp only [impl_closure.l2, if_neg (show ¬ (kk : Int) < (n : Int) by omega)]
    exact ev_now _
  | succ d ih =>
    intro kk t hk ht
    refine ev_succ ?_
    rw [List.range'_succ]
    simp only [outF, List.foldl_cons, impl_closure.l2, if_pos (show (kk : Int) < (n : Int) by omega)]
    exact impl_l3 n hn kk (by omega) (fun t => outF n t (List.range' (kk + 1) d)) (fun t ht => ih (kk + 1) t (by omega) ht) n 0 t (by omega) ht
theorem impl_l1 (n : Nat) (hn : n ≤ 8) (es : List S53) (hes : es.length ≤ 1048576) (hin : inN n es) : ∀ (d i : Nat) (t : List (List Bool)), i + d = es.length → Sq n t → Ev (fun k => impl_closure.l1 k (n : Int) t es (es.length : Int) (i : Int)) (outF n (edgeF t (es.drop i)) (List.range' 0 n)) := by
  intro d
  induction d with
  | zero =>
    intro i t hi ht
    refine ev_succ ?_
    simp only [impl_closure.l1, if_neg (show ¬ (i : Int) < (es.length : Int) by omega), List.drop_of_length_le (show es.length ≤ i by omega)]
    exact impl_l2 n hn n 0 t (by omega) ht
  | succ d ih =>
    intro i t hi ht
    refine ev_succ ?_
    have hx : i < es.length := by omega
    have hl := ht.1
    have he := hin es[i] (List.getElem_mem hx)
    obtain ⟨a, ha⟩ := Int.eq_ofNat_of_zero_le he.1
    obtain ⟨b, hb⟩ := Int.eq_ofNat_of_zero_le he.2.2.1
    have hr : (rd_L5 t (a : Int)).length = n := by rw [rdBB t a (by omega)]; exact ht.row a (by omega)
    have h := ih (i + 1) (putT t a b true) (by omega) (ht.put a b (by omega) true)
    rw [List.drop_eq_getElem_cons hx]
    simp only [edgeF, List.foldl_cons, ha, hb, Int.toNat_natCast]
    simp only [edgeF] at h
    simp only [impl_closure.l1, if_pos (show (i : Int) < (es.length : Int) by omega), if_pos (show (0 : Int) ≤ (i : Int) by omega), rdA2 es i hx, ha, hb, if_pos (show (0 : Int) ≤ (a : Int) by omega), if_pos (show (a : Int) < (t.length : Int) by omega), if_pos (show (0 : Int) ≤ (b : Int) by omega), if_pos (show (b : Int) < ((rd_L5 t (a : Int)).length : Int) by omega), wsucc i (by omega), Int.toNat_natCast]
    rw [rdTB t a (by omega)]
    exact h
theorem impl_l0 (n : Nat) (hn : n ≤ 8) (es : List S53) (hes : es.length ≤ 1048576) (hin : inN n es) : ∀ (d i : Nat) (t : List (List Bool)), i + d = n → t.length = n → t.take i = List.replicate i (List.replicate n false) → Ev (fun k => impl_closure.l0 k (n : Int) es t (n : Int) (i : Int)) (closT n es) := by
  intro d
  induction d with
  | zero =>
    intro i t hi hl ht
    refine ev_succ ?_
    have hin' : i = n := by omega
    subst hin'
    rw [List.take_of_length_le (by omega)] at ht
    simp only [impl_closure.l0, if_neg (show ¬ (i : Int) < (i : Int) by omega)]
    have := impl_l1 i hn es hes hin es.length 0 t (by omega) (by rw [ht]; exact ⟨by simp, fun r hr => by rw [List.eq_of_mem_replicate hr]; simp⟩)
    rw [List.drop_zero, ht] at this
    rw [ht]
    exact this
  | succ d ih =>
    intro i t hi hl ht
    refine ev_succ ?_
    simp only [impl_closure.l0, if_pos (show (i : Int) < (n : Int) by omega), if_pos (show (0 : Int) ≤ (n : Int) by omega), Int.toNat_natCast, if_pos (show n ≤ 281474976710656 by omega), if_pos (show (0 : Int) ≤ (i : Int) by omega), if_pos (show (i : Int) < (t.length : Int) by omega), wsucc i (by omega)]
    exact ih (i + 1) _ (by omega) (by rw [List.length_set]; exact hl) (by rw [take_set_succ t i _ (by omega), ht, List.replicate_succ'])
theorem closure_ev (n : Nat) (hn : n ≤ 8) (es : List S53) (hes : es.length ≤ 1048576) (hin : inN n es) : Ev (fun k => impl_closure.f k (n : Int) es) (closT n es) := by
  unfold impl_closure.f
  simp only [if_pos (show (0 : Int) ≤ (n : Int) by omega), Int.toNat_natCast, if_pos (show n ≤ 11728124029610 by omega), Option.bind_some, List.length_replicate]
  exact impl_l0 n hn es hes hin n 0 _ (by omega) (by simp) (by simp)
theorem clos_sq (n : Nat) (es : List S53) (hin : inN n es) : Sq n (closT n es) := by
  unfold closT
  have h0 : Sq n (edgeF (List.replicate n (List.replicate n false)) es) := edge_sq ⟨by simp, fun r hr => by rw [List.eq_of_mem_replicate hr]; simp⟩ es hin
  have key : ∀ (ks : List Nat) (t : List (List Bool)), Sq n t → Sq n (outF n t ks) := by
    intro ks
    unfold outF
    induction ks with
    | nil => intro t h; exact h
    | cons k ks ih => intro t h; exact ih _ (mid_sq h k _ (fun i hi => by rw [List.mem_range'_1] at hi; omega))
  exact key _ _ h0

theorem isNumber_eq (i n : Int) (h0 : 0 ≤ n) (h1 : n ≤ 9223372036854775807) : impl_isNumber.f i n = some (decide (0 ≤ i) && decide (i < n)) := by
  unfold impl_isNumber.f
  rw [within_eq, w64 (by omega) (by omega)]
  simp only [Option.bind_some]
  congr 2
  rw [decide_eq_decide]
  omega

def cE (m : Int) (es : List S53) (i : Nat) : Bool :=
  decide (0 ≤ (rd_T53 es (i : Int)).f0) && decide ((rd_T53 es (i : Int)).f0 ≤ m) && (decide (0 ≤ (rd_T53 es (i : Int)).f1) && decide ((rd_T53 es (i : Int)).f1 ≤ m)) && !decide ((rd_T53 es (i : Int)).f0 = (rd_T53 es (i : Int)).f1) &&
  (decide (i = 0) || decide ((rd_T53 es ((i - 1 : Nat) : Int)).f0 < (rd_T53 es (i : Int)).f0) || decide ((rd_T53 es ((i - 1 : Nat) : Int)).f0 = (rd_T53 es (i : Int)).f0) && decide ((rd_T53 es ((i - 1 : Nat) : Int)).f1 < (rd_T53 es (i : Int)).f1))
def pfE (m : Int) (es : List S53) (i : Nat) : Nat → Bool
  | 0 => true
  | d + 1 => cE m es i && pfE m es (i + 1) d
theorem l4Before_eq (a b c d : Int) : spec_l4Before.f a b c d = some (decide (a < c) || decide (a = c) && decide (b < d)) := by
  unfold spec_l4Before.f
  by_cases h : a < c
  · rw [if_pos h]; simp [h]
  · rw [if_neg h]
    by_cases h' : a = c
    · rw [if_pos h']; simp [h, h']
    · rw [if_neg h']; simp [h, h']
theorem wpred (i : Nat) (h0 : 0 < i) (h : i < 4611686018427387904) : wrap64 ((i : Int) - 1) = ((i - 1 : Nat) : Int) := by
  rw [w64 (by omega) (by omega)]; omega
theorem l4Pairs_l (n : Int) (es : List S53) (hes : es.length ≤ 1048576) : ∀ (d i : Nat), i + d = es.length → Ev (fun k => spec_l4Pairs.l0 k n es (i : Int)) (pfE (wrap64 (n - 1)) es i d && ((decide (0 ≤ n) && decide (n ≤ 8)) && decide ((es.length : Int) ≤ 28))) := by
  intro d
  induction d with
  | zero =>
    intro i hi
    refine ev_succ ?_
    simp only [spec_l4Pairs.l0, if_neg (show ¬ (i : Int) < (es.length : Int) by omega), l1In_eq, Option.bind_some, pfE, Bool.true_and]
    cases hb : (decide (0 ≤ n) && decide (n ≤ 8))
    · simp only [Bool.false_eq_true, if_false, Bool.false_and]; exact ev_now _
    · simp only [if_true, Bool.true_and]; exact ev_now _
  | succ d ih =>
    intro i hi
    refine ev_succ ?_
    have h := ih (i + 1) (by omega)
    simp only [spec_l4Pairs.l0, if_pos (show (i : Int) < (es.length : Int) by omega), if_pos (show (0 : Int) ≤ (i : Int) by omega), l1In_eq, l4Before_eq, Option.bind_some, pfE, wsucc i (by omega)]
    unfold cE
    by_cases ha : (decide (0 ≤ (rd_T53 es (i : Int)).f0) && decide ((rd_T53 es (i : Int)).f0 ≤ wrap64 (n - 1))) = true
    · by_cases hb : (decide (0 ≤ (rd_T53 es (i : Int)).f1) && decide ((rd_T53 es (i : Int)).f1 ≤ wrap64 (n - 1))) = true
      · by_cases hc : (rd_T53 es (i : Int)).f0 = (rd_T53 es (i : Int)).f1
        · simp only [ha, hb, if_true, if_pos hc, decide_eq_true hc, Bool.not_true, Bool.and_false, Bool.false_and]; exact ev_now _
        · by_cases h0 : i = 0
          · subst h0
            simp only [ha, hb, if_true, if_neg hc, decide_true, Bool.true_or, Bool.true_and, decide_eq_false hc, Bool.not_false, gt_iff_lt, if_neg (show ¬ ((0 : Int) < ((0 : Nat) : Int)) by omega)]
            exact h
          · simp only [ha, hb, if_true, if_neg hc, if_pos (show (i : Int) > 0 by omega), wpred i (by omega) (by omega), if_pos (show (0 : Int) ≤ ((i - 1 : Nat) : Int) by omega), if_pos (show ((i - 1 : Nat) : Int) < (es.length : Int) by omega), decide_eq_false h0, Bool.false_or, Bool.true_and, decide_eq_false hc, Bool.not_false]
            cases hd : (decide ((rd_T53 es ((i - 1 : Nat) : Int)).f0 < (rd_T53 es (i : Int)).f0) || decide ((rd_T53 es ((i - 1 : Nat) : Int)).f0 = (rd_T53 es (i : Int)).f0) && decide ((rd_T53 es ((i - 1 : Nat) : Int)).f1 < (rd_T53 es (i : Int)).f1))
            · simp only [Bool.false_eq_true, if_false, Bool.false_and]; exact ev_now _
            · simp only [if_true, Bool.true_and]; exact h
      · simp only [ha, if_true, if_neg hb, Bool.not_eq_true .. ▸ hb, Bool.and_false, Bool.false_and]; exact ev_now _
    · simp only [if_neg ha, Bool.not_eq_true .. ▸ ha, Bool.false_and]; exact ev_now _
def okE (n : Int) (es : List S53) : Bool := pfE (wrap64 (n - 1)) es 0 es.length && ((decide (0 ≤ n) && decide (n ≤ 8)) && decide ((es.length : Int) ≤ 28))
theorem l4Pairs_ev (n : Int) (es : List S53) (hes : es.length ≤ 1048576) : Ev (fun k => spec_l4Pairs.f k n es) (okE n es) := by
  unfold spec_l4Pairs.f
  exact l4Pairs_l n es hes es.length 0 (by omega)
theorem pfE_in (n : Nat) (hn : n ≤ 8) (es : List S53) : ∀ (d i : Nat), i + d = es.length → pfE (wrap64 ((n : Int) - 1)) es i d = true → ∀ j, i ≤ j → (hj : j < es.length) → 0 ≤ (es[j]).f0 ∧ (es[j]).f0 < n ∧ 0 ≤ (es[j]).f1 ∧ (es[j]).f1 < n := by
  intro d
  induction d with
  | zero => intro i hi _ j hj hj'; omega
  | succ d ih =>
    intro i hi h j hj hj'
    unfold pfE at h
    rw [Bool.and_eq_true] at h
    by_cases he : j = i
    · subst he
      have h1 := h.1
      unfold cE at h1
      rw [rdA2 es j hj', w64 (by omega) (by omega)] at h1
      simp only [Bool.and_eq_true, decide_eq_true_eq] at h1
      obtain ⟨⟨⟨⟨a1, a2⟩, ⟨a3, a4⟩⟩, _⟩, _⟩ := h1
      exact ⟨a1, by omega, a3, by omega⟩
    · exact ih (i + 1) (by omega) h.2 j (by omega) hj'
theorem okE_in (n : Int) (es : List S53) (h : okE n es = true) : ∃ m : Nat, n = m ∧ m ≤ 8 ∧ es.length ≤ 28 ∧ inN m es := by
  unfold okE at h
  simp only [Bool.and_eq_true, decide_eq_true_eq] at h
  obtain ⟨h1, ⟨h2, h3⟩, h4⟩ := h
  obtain ⟨m, rfl⟩ := Int.eq_ofNat_of_zero_le h2
  refine ⟨m, rfl, by omega, by omega, fun e he => ?_⟩
  obtain ⟨j, hj, rfl⟩ := List.mem_iff_getElem.mp he
  have := pfE_in m (by omega) es es.length 0 (by omega) h1 j (by omega) hj
  omega
/-- No job stands before itself, from the i-th on. -/
def acyF (t : List (List Bool)) (i : Nat) : Nat → Bool
  | 0 => true
  | d + 1 => !tb t i i && acyF t (i + 1) d
def good4 (n : Int) (es : List S53) : Bool := okE n es && acyF (closT n.toNat es) 0 n.toNat
theorem l4Good_l (n : Nat) (hn : n ≤ 8) (t : List (List Bool)) (ht : Sq n t) : ∀ (d i : Nat), i + d = n → Ev (fun k => spec_l4Good.l0 k (n : Int) t (i : Int)) (acyF t i d) := by
  intro d
  induction d with
  | zero =>
    intro i hi
    refine ev_succ ?_
    simp only [spec_l4Good.l0, if_neg (show ¬ (i : Int) < (n : Int) by omega), acyF]
    exact ev_now _
  | succ d ih =>
    intro i hi
    refine ev_succ ?_
    have h := ih (i + 1) (by omega)
    have hl := ht.1
    have hr : (rd_L5 t (i : Int)).length = n := by rw [rdBB t i (by omega)]; exact ht.row i (by omega)
    simp only [spec_l4Good.l0, if_pos (show (i : Int) < (n : Int) by omega), if_pos (show (0 : Int) ≤ (i : Int) by omega), if_pos (show (i : Int) < (t.length : Int) by omega), if_pos (show (i : Int) < ((rd_L5 t (i : Int)).length : Int) by omega), rdTT ht i i (by omega) (by omega), wsucc i (by omega), acyF]
    cases tb t i i
    · simp only [Bool.false_eq_true, if_false, Bool.not_false, Bool.true_and]; exact h
    · simp only [if_true, Bool.not_true, Bool.false_and]; exact ev_now _
theorem l4Good_ev (n : Int) (es : List S53) (hes : es.length ≤ 1048576) : Ev (fun k => spec_l4Good.f k n es) (good4 n es) := by
  unfold spec_l4Good.f good4
  refine ev_bind (l4Pairs_ev n es hes) ?_
  cases hk : okE n es
  · simp only [Bool.false_eq_true, if_false, Bool.false_and]; exact ev_now _
  · obtain ⟨m, rfl, hm, hl, hin⟩ := okE_in n es hk
    simp only [if_true, Bool.true_and, Int.toNat_natCast]
    exact ev_bind (l4Table_ev m hm es hes hin) (l4Good_l m hm _ (clos_sq m es hin) m 0 (by omega))
theorem isPrec_l1 (n : Nat) (hn : n ≤ 8) (t : List (List Bool)) (ht : Sq n t) : ∀ (d i : Nat), i + d = n → Ev (fun k => impl_IsPrecedence.l1 k t (n : Int) (i : Int)) (acyF t i d) := by
  intro d
  induction d with
  | zero =>
    intro i hi
    refine ev_succ ?_
    simp only [impl_IsPrecedence.l1, if_neg (show ¬ (i : Int) < (n : Int) by omega), acyF]
    exact ev_now _
  | succ d ih =>
    intro i hi
    refine ev_succ ?_
    have h := ih (i + 1) (by omega)
    have hl := ht.1
    have hr : (rd_L5 t (i : Int)).length = n := by rw [rdBB t i (by omega)]; exact ht.row i (by omega)
    simp only [impl_IsPrecedence.l1, if_pos (show (i : Int) < (n : Int) by omega), if_pos (show (0 : Int) ≤ (i : Int) by omega), if_pos (show (i : Int) < (t.length : Int) by omega), if_pos (show (i : Int) < ((rd_L5 t (i : Int)).length : Int) by omega), rdTT ht i i (by omega) (by omega), wsucc i (by omega), acyF]
    cases tb t i i
    · simp only [Bool.false_eq_true, if_false, Bool.not_false, Bool.true_and]; exact h
    · simp only [if_true, Bool.not_true, Bool.false_and]; exact ev_now _
theorem isPrec_l0 (n : Nat) (hn : n ≤ 8) (es : List S53) (hes : es.length ≤ 28) (hG : pfE (wrap64 ((n : Int) - 1)) es 0 es.length = true → inN n es) :
    ∀ (d i : Nat), i + d = es.length → (pfE (wrap64 ((n : Int) - 1)) es i d = true → pfE (wrap64 ((n : Int) - 1)) es 0 es.length = true) → Ev (fun k => impl_IsPrecedence.l0 k (n : Int) es es (es.length : Int) (i : Int)) (pfE (wrap64 ((n : Int) - 1)) es i d && acyF (closT n es) 0 n) := by
  intro d
  induction d with
  | zero =>
    intro i hi hp
    have hin := hG (hp rfl)
    have hl := (clos_sq n es hin).1
    refine ev_succ ?_
    simp only [impl_IsPrecedence.l0, if_neg (show ¬ (i : Int) < (es.length : Int) by omega), pfE, Bool.true_and]
    refine ev_bind (closure_ev n hn es (by omega) hin) ?_
    rw [hl]
    exact isPrec_l1 n hn _ (clos_sq n es hin) n 0 (by omega)
  | succ d ih =>
    intro i hi hp
    refine ev_succ ?_
    have hm : wrap64 ((n : Int) - 1) = (n : Int) - 1 := w64 (by omega) (by omega)
    have e1 : ∀ x : Int, decide (x ≤ (n : Int) - 1) = decide (x < (n : Int)) := fun x => by rw [decide_eq_decide]; omega
    have h := fun (hq : cE (wrap64 ((n : Int) - 1)) es i = true) => ih (i + 1) (by omega) (fun x => hp (by rw [pfE, hq, x]; rfl))
    simp only [impl_IsPrecedence.l0, if_pos (show (i : Int) < (es.length : Int) by omega), if_pos (show (0 : Int) ≤ (i : Int) by omega), isNumber_eq _ (n : Int) (by omega) (by omega), Option.bind_some, pfE]
    have hcE : cE (wrap64 ((n : Int) - 1)) es i = (decide (0 ≤ (rd_T53 es (i : Int)).f0) && decide ((rd_T53 es (i : Int)).f0 < (n : Int)) && (decide (0 ≤ (rd_T53 es (i : Int)).f1) && decide ((rd_T53 es (i : Int)).f1 < (n : Int))) && !decide ((rd_T53 es (i : Int)).f0 = (rd_T53 es (i : Int)).f1) &&
        (decide (i = 0) || decide ((rd_T53 es ((i - 1 : Nat) : Int)).f0 < (rd_T53 es (i : Int)).f0) || decide ((rd_T53 es ((i - 1 : Nat) : Int)).f0 = (rd_T53 es (i : Int)).f0) && decide ((rd_T53 es ((i - 1 : Nat) : Int)).f1 < (rd_T53 es (i : Int)).f1))) := by
      unfold cE; rw [hm, e1, e1]
    by_cases ha : (decide (0 ≤ (rd_T53 es (i : Int)).f0) && decide ((rd_T53 es (i : Int)).f0 < (n : Int))) = true
    · by_cases hb : (decide (0 ≤ (rd_T53 es (i : Int)).f1) && decide ((rd_T53 es (i : Int)).f1 < (n : Int))) = true
      · simp only [ha, hb, if_true]
        refine ev_succ ?_
        rw [ha, hb] at hcE
        by_cases hc : (rd_T53 es (i : Int)).f0 = (rd_T53 es (i : Int)).f1
        · rw [hcE]
          simp only [impl_IsPrecedence.j2, hc, beq_self_eq_true, if_true, decide_true, Bool.not_true, Bool.and_false, Bool.false_and]; exact ev_now _
        · by_cases h0 : i = 0
          · have hc' : cE (wrap64 ((n : Int) - 1)) es i = true := by rw [hcE]; simp only [decide_eq_false hc, decide_eq_true h0]; rfl
            have h := h hc'
            rw [hc']
            subst h0
            simp only [impl_IsPrecedence.j2, beq_eq_false_iff_ne.mpr hc, Bool.false_eq_true, if_false, gt_iff_lt, if_neg (show ¬ ((0 : Int) < ((0 : Nat) : Int)) by omega), wsucc 0 (by omega), Bool.true_and]
            exact h
          · simp only [impl_IsPrecedence.j2, beq_eq_false_iff_ne.mpr hc, Bool.false_eq_true, if_false, gt_iff_lt, ge_iff_le, if_pos (show (0 : Int) < (i : Int) by omega), wpred i (by omega) (by omega), if_pos (show (0 : Int) ≤ ((i - 1 : Nat) : Int) by omega), if_pos (show ((i - 1 : Nat) : Int) < (es.length : Int) by omega), wsucc i (by omega)]
            by_cases g1 : (rd_T53 es (i : Int)).f0 < (rd_T53 es ((i - 1 : Nat) : Int)).f0
            · have hc' : cE (wrap64 ((n : Int) - 1)) es i = false := by rw [hcE]; simp only [decide_eq_false h0, decide_eq_false (show ¬ (rd_T53 es ((i - 1 : Nat) : Int)).f0 < (rd_T53 es (i : Int)).f0 by omega), decide_eq_false (show ¬ (rd_T53 es ((i - 1 : Nat) : Int)).f0 = (rd_T53 es (i : Int)).f0 by omega), Bool.false_and, Bool.false_or, Bool.or_false, Bool.and_false]
              simp only [if_pos g1, hc', Bool.false_and]; exact ev_now _
            · simp only [if_neg g1]
              by_cases g2 : (rd_T53 es ((i - 1 : Nat) : Int)).f0 = (rd_T53 es (i : Int)).f0
              · simp only [if_pos g2]
                by_cases g3 : (rd_T53 es (i : Int)).f1 ≤ (rd_T53 es ((i - 1 : Nat) : Int)).f1
                · have hc' : cE (wrap64 ((n : Int) - 1)) es i = false := by rw [hcE]; simp only [decide_eq_false h0, decide_eq_false (show ¬ (rd_T53 es ((i - 1 : Nat) : Int)).f0 < (rd_T53 es (i : Int)).f0 by omega), decide_eq_false (show ¬ (rd_T53 es ((i - 1 : Nat) : Int)).f1 < (rd_T53 es (i : Int)).f1 by omega), Bool.and_false, Bool.false_or, Bool.or_false]
                  simp only [if_pos g3, hc', Bool.false_and]; exact ev_now _
                · have hc' : cE (wrap64 ((n : Int) - 1)) es i = true := by rw [hcE]; simp only [decide_eq_false hc, decide_eq_true g2, decide_eq_true (show (rd_T53 es ((i - 1 : Nat) : Int)).f1 < (rd_T53 es (i : Int)).f1 by omega), Bool.and_true, Bool.or_true, Bool.not_false]
                  simp only [if_neg g3, hc', Bool.true_and]; exact h hc'
              · have hc' : cE (wrap64 ((n : Int) - 1)) es i = true := by rw [hcE]; simp only [decide_eq_false hc, decide_eq_true (show (rd_T53 es ((i - 1 : Nat) : Int)).f0 < (rd_T53 es (i : Int)).f0 by omega), Bool.and_true, Bool.or_true, Bool.true_or, Bool.not_false]
                simp only [if_neg g2, hc', Bool.true_and]; exact h hc'
      · have hb' : (decide (0 ≤ (rd_T53 es (i : Int)).f1) && decide ((rd_T53 es (i : Int)).f1 < (n : Int))) = false := by simpa using hb
        have hc' : cE (wrap64 ((n : Int) - 1)) es i = false := by rw [hcE, hb', Bool.and_false, Bool.false_and, Bool.false_and]
        simp only [ha, if_true, if_neg hb, hc', Bool.false_and]
        refine ev_succ ?_
        simp only [impl_IsPrecedence.j2, if_true]; exact ev_now _
    · have ha' : (decide (0 ≤ (rd_T53 es (i : Int)).f0) && decide ((rd_T53 es (i : Int)).f0 < (n : Int))) = false := by simpa using ha
      have hc' : cE (wrap64 ((n : Int) - 1)) es i = false := by rw [hcE, ha', Bool.false_and, Bool.false_and, Bool.false_and]
      simp only [if_neg ha, hc', Bool.false_and]
      refine ev_succ ?_
      simp only [impl_IsPrecedence.j2, if_true]; exact ev_now _
theorem isPrec_ev (n : Int) (es : List S53) : Ev (fun k => impl_IsPrecedence.f k n es) (good4 n es) := by
  unfold impl_IsPrecedence.f
  simp only [within_eq, Option.bind_some]
  by_cases h : 0 ≤ n ∧ n ≤ 8
  · obtain ⟨m, rfl⟩ := Int.eq_ofNat_of_zero_le h.1
    have hb : (decide (0 ≤ (m : Int)) && decide ((m : Int) ≤ 8)) = true := by simp; omega
    simp only [hb, if_true]
    refine ev_succ ?_
    by_cases hl : (es.length : Int) > 28
    · have : good4 (m : Int) es = false := by unfold good4 okE; rw [decide_eq_false (show ¬ (es.length : Int) ≤ 28 by omega)]; simp
      simp only [impl_IsPrecedence.j0, decide_eq_true hl, if_true, this]; exact ev_now _
    · simp only [impl_IsPrecedence.j0, decide_eq_false hl, Bool.false_eq_true, if_false]
      have hk : good4 (m : Int) es = (pfE (wrap64 ((m : Int) - 1)) es 0 es.length && acyF (closT m es) 0 m) := by
        unfold good4 okE; rw [hb, decide_eq_true (show (es.length : Int) ≤ 28 by omega)]; simp
      rw [hk]
      refine isPrec_l0 m (by omega) es (by omega) (fun hp => ?_) es.length 0 (by omega) (fun x => x)
      obtain ⟨m', e, _, _, hin⟩ := okE_in (m : Int) es (by unfold okE; rw [hp, hb, decide_eq_true (show (es.length : Int) ≤ 28 by omega)]; rfl)
      rw [show m = m' by omega]; exact hin
  · have hb : (decide (0 ≤ n) && decide (n ≤ 8)) = false := by
      rw [Bool.eq_false_iff]; intro x; simp only [Bool.and_eq_true, decide_eq_true_eq] at x; exact h x
    have : good4 n es = false := by unfold good4 okE; rw [hb]; simp
    simp only [hb, Bool.false_eq_true, if_false, this]
    refine ev_succ ?_
    simp only [impl_IsPrecedence.j0, if_true]; exact ev_now _

theorem acy_irr (n : Nat) (t : List (List Bool)) : ∀ (d i : Nat), acyF t i d = true → ∀ j, i ≤ j → j < i + d → tb t j j = false := by
  intro d
  induction d with
  | zero => intro i _ j h1 h2; omega
  | succ d ih =>
    intro i h j h1 h2
    unfold acyF at h
    rw [Bool.and_eq_true] at h
    by_cases e : j = i
    · subst e; simpa using h.1
    · exact ih (i + 1) h.2 j (by omega) (by omega)
/-- What a good precedence gives. -/
theorem good4_facts (n : Int) (es : List S53) (h : good4 n es = true) : ∃ m : Nat, n = m ∧ m ≤ 8 ∧ es.length ≤ 28 ∧ inN m es ∧ (∀ j, j < m → tb (closT m es) j j = false) := by
  unfold good4 at h
  rw [Bool.and_eq_true] at h
  obtain ⟨m, rfl, h1, h2, h3⟩ := okE_in n es h.1
  refine ⟨m, rfl, h1, h2, h3, fun j hj => ?_⟩
  have := h.2
  rw [Int.toNat_natCast] at this
  exact acy_irr m _ m 0 this j (by omega) (by omega)
theorem two_facts (xs : List S50) (es : List S53) (h : good4 (xs.length : Int) es = true) : xs.length ≤ 8 ∧ es.length ≤ 28 ∧ inN xs.length es ∧ (∀ j, j < xs.length → tb (closT xs.length es) j j = false) := by
  obtain ⟨n, e, a, b, c, d⟩ := good4_facts _ es h
  have e' : xs.length = n := by omega
  subst e'
  exact ⟨a, b, c, d⟩
theorem l4Two_ev (xs : List S50) (es : List S53) (hn : xs.length ≤ 1048576) (he : es.length ≤ 1048576) : Ev (fun k => spec_l4Two.f k xs es) (goodB xs && good4 (xs.length : Int) es) := by
  unfold spec_l4Two.f
  refine ev_bind (l2Good_ev xs (by omega)) ?_
  cases goodB xs
  · simp only [Bool.false_eq_true, if_false, Bool.false_and]; exact ev_now _
  · simp only [if_true, Bool.true_and]
    exact ev_bind (l4Good_ev _ es he) (ev_now _)
theorem isPreceded_ev (xs : List S50) (es : List S53) (hn : xs.length ≤ 1048576) : Ev (fun k => impl_isPreceded.f k xs es) (goodB xs && good4 (xs.length : Int) es) := by
  unfold impl_isPreceded.f
  refine ev_bind (IsJobs_ev xs (by omega)) ?_
  cases goodB xs
  · simp only [Bool.false_eq_true, if_false, Bool.false_and]; exact ev_now _
  · simp only [if_true, Bool.true_and]
    exact ev_bind (isPrec_ev _ es) (ev_now _)

def bfT (t : List (List Bool)) (i j : Int) : Bool := rdOf false (rd_L5 t i) j
def stepX (l : List S50) (ob : Int) (t : List (List Bool)) (s : Bool × Int × List Int) (o : List Int) : Bool × Int × List Int :=
  if extB (bfT t) o = true then (if s.1 = false ∨ valP l ob o < s.2.1 then (true, valP l ob o, o) else s) else s
def cntX (s : Bool × Int × List Int) : Int := if s.1 = true then 1 else 0
theorem row_len {n : Nat} {t : List (List Bool)} (ht : Sq n t) (i : Nat) (hi : i < n) : (rd_L5 t (i : Int)).length = n := by rw [rdBB t i (by have := ht.1; omega)]; exact ht.row i hi
theorem ord_at {n : Nat} {o : List Int} (ho : ordP n o) (q : Nat) (hq : q < n) : ∃ i : Nat, i < n ∧ rd o (q : Int) = (i : Int) ∧ o[q]'(by rw [ordP_len ho]; exact hq) = (i : Int) := by
  have hl := ordP_len ho
  have hb := ordP_in ho (o[q]'(by omega)) (List.getElem_mem _)
  refine ⟨(o[q]'(by omega)).toNat, by have := hb.1; have := hb.2; omega, ?_, ?_⟩
  · unfold rd
    rw [Int.toNat_natCast, List.getD_eq_getElem?_getD, List.getElem?_eq_getElem (by omega), Option.getD_some]
    have := hb.1
    omega
  · have := hb.1
    omega
theorem extends_ev {n : Nat} (hn : n ≤ 8) {t : List (List Bool)} (ht : Sq n t) {o : List Int} (ho : ordP n o) : Ev (fun k => impl_extends.f k t o) (extB (bfT t) o) := by
  have hl := ordP_len ho
  unfold impl_extends.f
  have inner : ∀ x : Nat, x < n → _ := fun x hx => scanE x (fun y K => impl_extends.l1 K t o (rd o (x : Int)) o (o.length : Int) (x : Int) (o.take x) (((o.take x).length : Nat) : Int) (y : Int)) (fun K => impl_extends.l0 K t o o (o.length : Int) ((x + 1 : Nat) : Int)) (fun y => bfT t (rd o (x : Int)) (rd o (y : Int)) = true) false
    (fun y hy hb => by
      obtain ⟨i, hi, ei, _⟩ := ord_at ho x hx
      obtain ⟨j, hj, ej, _⟩ := ord_at ho y (by omega)
      have e1 : rd (o.take x) (y : Int) = rd o (y : Int) := by unfold rd; rw [Int.toNat_natCast, List.getD_eq_getElem?_getD, List.getD_eq_getElem?_getD, List.getElem?_take, if_pos hy]
      have e2 : (o.take x).length = x := by rw [List.length_take]; omega
      unfold bfT at hb
      refine ev_succ ?_
      rw [ei, ej] at hb
      simp only [impl_extends.l1, e1, e2, ei, ej, if_pos (show (y : Int) < (x : Int) by omega), if_pos (show (0 : Int) ≤ (y : Int) by omega), if_pos (show (0 : Int) ≤ (i : Int) by omega), if_pos (show (i : Int) < (t.length : Int) by have := ht.1; omega), if_pos (show (0 : Int) ≤ (j : Int) by omega), row_len ht i hi, if_pos (show (j : Int) < (n : Int) by omega), hb, if_true]
      exact ev_now _)
    (fun y r hy hb hr => by
      obtain ⟨i, hi, ei, _⟩ := ord_at ho x hx
      obtain ⟨j, hj, ej, _⟩ := ord_at ho y (by omega)
      have e1 : rd (o.take x) (y : Int) = rd o (y : Int) := by unfold rd; rw [Int.toNat_natCast, List.getD_eq_getElem?_getD, List.getD_eq_getElem?_getD, List.getElem?_take, if_pos hy]
      have e2 : (o.take x).length = x := by rw [List.length_take]; omega
      unfold bfT at hb
      refine ev_succ ?_
      rw [ei, ej] at hb
      rw [ei] at hr
      simp only [impl_extends.l1, e1, e2, ei, ej, if_pos (show (y : Int) < (x : Int) by omega), if_pos (show (0 : Int) ≤ (y : Int) by omega), if_pos (show (0 : Int) ≤ (i : Int) by omega), if_pos (show (i : Int) < (t.length : Int) by have := ht.1; omega), if_pos (show (0 : Int) ≤ (j : Int) by omega), row_len ht i hi, if_pos (show (j : Int) < (n : Int) by omega), if_neg hb, wsucc y (by omega)]
      rw [e2] at hr
      exact hr)
    (fun r hr => by
      have e2 : (o.take x).length = x := by rw [List.length_take]; omega
      refine ev_succ ?_
      simp only [impl_extends.l1, e2, if_neg (show ¬ ((x : Int) < (x : Int)) by omega), wsucc x (by omega)]
      exact hr)
  have outer := scanE n (fun x K => impl_extends.l0 K t o o (o.length : Int) (x : Int)) (fun _ => some true) (fun x => ∃ y, y < x ∧ bfT t (rd o (x : Int)) (rd o (y : Int)) = true) false
    (fun x hx hb => by
      obtain ⟨y, h1, h2⟩ := hb
      refine ev_succ ?_
      simp only [impl_extends.l0, hl, if_pos (show (x : Int) < (n : Int) by omega), if_pos (show (0 : Int) ≤ (x : Int) by omega), if_pos (show (x : Int) ≤ (n : Int) by omega), Int.toNat_natCast]
      have := (inner x hx).1 x 0 (by omega) ⟨y, Nat.zero_le _, h1, h2⟩
      rw [hl] at this
      exact this)
    (fun x r hx hb hr => by
      refine ev_succ ?_
      simp only [impl_extends.l0, hl, if_pos (show (x : Int) < (n : Int) by omega), if_pos (show (0 : Int) ≤ (x : Int) by omega), if_pos (show (x : Int) ≤ (n : Int) by omega), Int.toNat_natCast]
      have := (inner x hx).2 x 0 r (by omega) (fun y _ h1 h2 => hb ⟨y, h1, h2⟩) hr
      rw [hl] at this
      exact this)
    (fun r hr => by
      refine ev_succ ?_
      simp only [impl_extends.l0, hl, if_neg (show ¬ ((n : Int) < (n : Int)) by omega)]
      exact hr)
  by_cases hb : ∃ x, x < n ∧ ∃ y, y < x ∧ bfT t (rd o (x : Int)) (rd o (y : Int)) = true
  · have e : extB (bfT t) o = false := by
      cases hx : extB (bfT t) o with
      | false => rfl
      | true =>
        exfalso
        rw [extB_iff, List.pairwise_iff_getElem] at hx
        obtain ⟨x, h1, y, h2, h3⟩ := hb
        obtain ⟨i, hi, ei, gi⟩ := ord_at ho x h1
        obtain ⟨j, hj, ej, gj⟩ := ord_at ho y (by omega)
        have := hx y x (by omega) (by omega) h2
        rw [gi, gj, ← ei, ← ej, h3] at this
        exact absurd this (by simp)
    rw [e]
    obtain ⟨x, h1, h2⟩ := hb
    exact outer.1 n 0 (by omega) ⟨x, Nat.zero_le _, h1, h2⟩
  · have e : extB (bfT t) o = true := by
      rw [extB_iff, List.pairwise_iff_getElem]
      intro y x hy hx hlt
      obtain ⟨i, hi, ei, gi⟩ := ord_at ho x (by omega)
      obtain ⟨j, hj, ej, gj⟩ := ord_at ho y (by omega)
      rw [gi, gj, ← ei, ← ej]
      cases h : bfT t (rd o (x : Int)) (rd o (y : Int)) with
      | false => rfl
      | true => exact absurd ⟨x, by omega, y, hlt, h⟩ hb
    rw [e]
    exact outer.2 n 0 true (by omega) (fun x _ h1 h2 => hb ⟨x, h1, h2⟩) (ev_now _)
theorem ready4_ev {n : Nat} (hn : n ≤ 8) {t : List (List Bool)} (ht : Sq n t) (B : List Int) (hB : B.length ≤ 1048576) (j : Nat) (hj : j < n) :
    ((∃ i : Nat, i < n ∧ bfT t (i : Int) (j : Int) = true ∧ (i : Int) ∉ B) → Ev (fun k => spec_l4Ready.f k t B (j : Int)) false) ∧ ((∀ i : Nat, i < n → bfT t (i : Int) (j : Int) = true → (i : Int) ∈ B) → Ev (fun k => spec_l4Ready.f k t B (j : Int)) (!decide ((j : Int) ∈ B))) := by
  have htl := ht.1
  have sc := scanE n (fun x K => spec_l4Ready.l0 K t B (j : Int) (x : Int)) (fun _ => some (!decide ((j : Int) ∈ B))) (fun x => bfT t (x : Int) (j : Int) = true ∧ (x : Int) ∉ B) false
    (fun x hx hb => by
      refine ev_succ ?_
      have h1 := hb.1
      unfold bfT at h1
      simp only [spec_l4Ready.l0, if_pos (show (x : Int) < (t.length : Int) by omega), if_pos (show (0 : Int) ≤ (x : Int) by omega), if_pos (show (0 : Int) ≤ (j : Int) by omega), row_len ht x hx, if_pos (show (j : Int) < (n : Int) by omega), h1, if_true]
      refine ev_bind (l1Has_ev B (x : Int) hB) ?_
      simp only [decide_eq_false hb.2, Bool.false_eq_true, if_false]
      exact ev_now _)
    (fun x r hx hb hr => by
      refine ev_succ ?_
      simp only [spec_l4Ready.l0, if_pos (show (x : Int) < (t.length : Int) by omega), if_pos (show (0 : Int) ≤ (x : Int) by omega), if_pos (show (0 : Int) ≤ (j : Int) by omega), row_len ht x hx, if_pos (show (j : Int) < (n : Int) by omega), wsucc x (by omega)]
      by_cases h1 : rdOf false (rd_L5 t (x : Int)) (j : Int) = true
      · have hm : (x : Int) ∈ B := Classical.byContradiction (fun h2 => hb ⟨h1, h2⟩)
        simp only [h1, if_true]
        refine ev_bind (l1Has_ev B (x : Int) hB) ?_
        simp only [decide_eq_true hm, if_true]
        exact hr
      · simp only [if_neg h1]
        exact hr)
    (fun r hr => by
      refine ev_succ ?_
      simp only [spec_l4Ready.l0, if_neg (show ¬ ((n : Int) < (t.length : Int)) by omega)]
      refine ev_bind (l1Has_ev B (j : Int) hB) ?_
      exact hr)
  unfold spec_l4Ready.f
  refine ⟨fun ⟨i, h1, h2, h3⟩ => sc.1 n 0 (by omega) ⟨i, Nat.zero_le _, h1, h2, h3⟩, fun h => sc.2 n 0 _ (by omega) (fun i _ h1 h2 => h2.2 (h i h1 h2.1)) (ev_now _)⟩
theorem l4Try_ev (l : List S50) (hg : goodB l = true) (ob : Int) {t : List (List Bool)} (ht : Sq l.length t) (hirr : ∀ j : Nat, j < l.length → bfT t (j : Int) (j : Int) = false) : ∀ (d : Nat) (B : List Int) (s : Bool × Int × List Int), (outW B (idsW l.length)).length = d → (B ++ outW B (idsW l.length)).Perm (idsW l.length) → RdW (bfT t) l.length B →
    Ev (fun k => spec_l4Try.f k l t B ob s.2.2 s.2.1 (cntX s)) (((ordersW d B (outW B (idsW l.length))).foldl (stepX l ob t) s).2.2, ((ordersW d B (outW B (idsW l.length))).foldl (stepX l ob t) s).2.1, cntX ((ordersW d B (outW B (idsW l.length))).foldl (stepX l ob t) s)) := by
  have hl := good_len hg
  intro d
  induction d with
  | zero =>
    intro B s hd hp hR
    have hnil := List.eq_nil_of_length_eq_zero hd
    rw [hnil, List.append_nil] at hp
    have ho : ordP l.length B := hp
    have hx := RdW_ext hR hp
    refine ev_succ ?_
    simp only [spec_l4Try.f, if_pos (show (B.length : Int) = (l.length : Int) by rw [ordP_len ho])]
    refine ev_bind (valS hg ob ho) ?_
    simp only [ordersW, List.foldl_cons, List.foldl_nil, stepX, if_pos hx]
    have hown := own_eq B (by rw [ordP_len ho]; omega)
    obtain ⟨fd, le, fi⟩ := s
    cases fd with
    | false =>
      simp only [cntX, Bool.false_eq_true, if_false, if_true, hown, Option.bind_some, true_or]
      exact ev_now _
    | true =>
      simp only [cntX, if_true, if_neg (show ¬ ((1 : Int) = 0) by omega)]
      by_cases h1 : valP l ob B < le
      · simp only [if_pos h1, hown, Option.bind_some, if_pos (Or.inr h1 : true = false ∨ valP l ob B < le), if_true]
        exact ev_now _
      · simp only [if_neg h1, if_neg (fun h_ => h_.elim (fun h2_ => by simp at h2_) h1 : ¬ (true = false ∨ valP l ob B < le)), if_true]
        exact ev_now _
  | succ d ih =>
    intro B s hd hp hR
    have hBl : B.length + (d + 1) = l.length := by have := hp.length_eq; rw [List.length_append, hd, idsW_len] at this; exact this
    have loop : ∀ (c j : Nat) (s : Bool × Int × List Int), j + c = l.length → Ev (fun k => spec_l4Try.l0 k l t B ob (j : Int) s.2.2 s.2.1 (cntX s))
        (((goW (ordersW d) B (outW B (idsW j)) (outW B ((idsW l.length).drop j))).foldl (stepX l ob t) s).2.2, ((goW (ordersW d) B (outW B (idsW j)) (outW B ((idsW l.length).drop j))).foldl (stepX l ob t) s).2.1, cntX ((goW (ordersW d) B (outW B (idsW j)) (outW B ((idsW l.length).drop j))).foldl (stepX l ob t) s)) := by
      intro c
      induction c with
      | zero =>
        intro j s hj
        refine ev_succ ?_
        simp only [spec_l4Try.l0, if_neg (show ¬ ((j : Int) < (l.length : Int)) by omega)]
        rw [List.drop_eq_nil_of_le (by rw [idsW_len]; omega)]
        simp only [outW, List.filter_nil, goW, List.foldl_nil]
        exact ev_now _
      | succ c ihc =>
        intro j s hj
        have hready := ready4_ev hl ht B (by omega) j (by omega)
        refine ev_succ ?_
        simp only [spec_l4Try.l0, if_pos (show (j : Int) < (l.length : Int) by omega), wsucc j (by omega)]
        rw [ids_drop l.length j (by omega)]
        by_cases hm : (j : Int) ∈ B
        · have hr0 : Ev (fun k => spec_l4Ready.f k t B (j : Int)) false := by
            by_cases hx : ∃ i : Nat, i < l.length ∧ bfT t (i : Int) (j : Int) = true ∧ (i : Int) ∉ B
            · exact hready.1 hx
            · have := hready.2 (fun i h1 h2 => Classical.byContradiction (fun h3 => hx ⟨i, h1, h2, h3⟩))
              rw [decide_eq_true hm] at this
              exact this
          refine ev_bind hr0 ?_
          simp only [Bool.false_eq_true, if_false]
          have h2 := ihc (j + 1) s (by omega)
          rw [idsW_succ, outW_app, outW_in B [] (j : Int) hm] at h2
          rw [outW_in _ _ _ hm]
          simpa [outW] using h2
        · rw [outW_out _ _ _ hm, goW_fold]
          have hw := rest_whole l.length j (by omega) B hm
          have hr := rest_split l.length j (by omega) B
          have e1 : (outW (B ++ [(j : Int)]) (idsW l.length)).length = d := by
            rw [hw, List.length_append, List.length_cons] at hd
            rw [hr, List.length_append]
            omega
          have e2 : ((B ++ [(j : Int)]) ++ outW (B ++ [(j : Int)]) (idsW l.length)).Perm (idsW l.length) := by
            refine List.Perm.trans ?_ hp
            rw [hr, hw, List.append_assoc]
            exact List.Perm.append_left B (show ((j : Int) :: (outW B (idsW j) ++ outW B ((idsW l.length).drop (j + 1)))).Perm (outW B (idsW j) ++ (j : Int) :: outW B ((idsW l.length).drop (j + 1))) from List.perm_middle.symm)
          by_cases hx : ∃ i : Nat, i < l.length ∧ bfT t (i : Int) (j : Int) = true ∧ (i : Int) ∉ B
          · refine ev_bind (hready.1 hx) ?_
            simp only [Bool.false_eq_true, if_false]
            obtain ⟨i, hi, hb, hiB⟩ := hx
            have same : (ordersW d (B ++ [(j : Int)]) (outW B (idsW j) ++ outW B ((idsW l.length).drop (j + 1)))).foldl (stepX l ob t) s = s := by
              refine fold_same _ _ _ (fun o ho s => ?_)
              rw [← hr] at ho
              obtain ⟨S, hS⟩ := orders_prefix d _ _ e1 o ho
              have hpo := (orders_perm d _ _ e1 o ho).trans e2
              rw [hS, List.append_assoc] at hpo
              have hij : (i : Int) ≠ (j : Int) := by
                intro e
                rw [e] at hb
                rw [hirr j (by omega)] at hb
                exact absurd hb (by simp)
              have hne := not_ext hpo (ids_mem l.length i hi) hb hiB hij
              have : extB (bfT t) o = false := by rw [hS, List.append_assoc]; exact hne
              simp only [stepX, this, Bool.false_eq_true, if_false]
            rw [same]
            have h2 := ihc (j + 1) s (by omega)
            rw [idsW_succ, outW_app, outW_out B [] (j : Int) hm] at h2
            simpa [outW] using h2
          · have hall : ∀ i : Nat, i < l.length → bfT t (i : Int) (j : Int) = true → (i : Int) ∈ B := fun i h1 h2 => Classical.byContradiction (fun h3 => hx ⟨i, h1, h2, h3⟩)
            have hr1 := hready.2 hall
            rw [decide_eq_false hm] at hr1
            refine ev_bind hr1 ?_
            simp only [Bool.not_false, if_true, own_eq B (by omega), Option.bind_some, List.length_singleton, if_pos (show B.length + 1 < 17592186044416 by omega)]
            have hR2 : RdW (bfT t) l.length (B ++ [(j : Int)]) := RdW_snoc hR (fun i hi hb => by
              have hb2 := idsW_mem hi
              have := hall i.toNat (by omega) (by rw [show ((i.toNat : Nat) : Int) = i by omega]; exact hb)
              rwa [show ((i.toNat : Nat) : Int) = i by omega] at this)
            have h1 := ih (B ++ [(j : Int)]) s e1 e2 hR2
            rw [hr] at h1
            refine ev_bind h1 ?_
            have h2 := ihc (j + 1) ((ordersW d (B ++ [(j : Int)]) (outW B (idsW j) ++ outW B ((idsW l.length).drop (j + 1)))).foldl (stepX l ob t) s) (by omega)
            rw [idsW_succ, outW_app, outW_out B [] (j : Int) hm] at h2
            simpa [outW] using h2
    refine ev_succ ?_
    simp only [spec_l4Try.f, if_neg (show ¬ ((B.length : Int) = (l.length : Int)) by omega)]
    have := loop l.length 0 s (by omega)
    simpa [idsW, outW, ordersW] using this

def bestX (l : List S50) (ob : Int) (t : List (List Bool)) : Bool × Int × List Int := (ordersW l.length [] (idsW l.length)).foldl (stepX l ob t) (false, 0, [])
theorem firstX_len (l : List S50) (ob : Int) (t : List (List Bool)) (hl : l.length ≤ 8) : (bestX l ob t).2.2.length ≤ 8 := by
  unfold bestX
  have : ∀ (L : List (List Int)) (s : Bool × Int × List Int), s.2.2.length ≤ 8 → (∀ o ∈ L, o.length ≤ 8) → (L.foldl (stepX l ob t) s).2.2.length ≤ 8 := by
    intro L
    induction L with
    | nil => intro s h _; exact h
    | cons o L ih =>
      intro s h hL
      rw [List.foldl_cons]
      refine ih _ ?_ (fun o ho => hL o (by simp [ho]))
      unfold stepX
      split
      · split
        · exact hL o (by simp)
        · exact h
      · exact h
  refine this _ _ (by simp) (fun o ho => ?_)
  have := (orders_perm l.length [] (idsW l.length) (idsW_len _) o ho).length_eq
  rw [List.nil_append, idsW_len] at this
  omega
theorem core (l : List S50) (es : List S53) (ob : Int) (hm : l.length ≤ 1048576) (_ : ∀ (i : Nat) (hi : i < l.length), I64 l[i].f0 ∧ I64 l[i].f1 ∧ I64 l[i].f2 ∧ I64 l[i].f3) (he : es.length ≤ 1048576) (_ : I64 ob) :
    ∃ (r : List Int) (ok : Bool), r.length ≤ 1048576 ∧ Ev (fun k => spec_BestExtension.f k l es ob) (r, ok) ∧ Ev (fun k => impl_BestExtension.f k l es ob) (r, ok) := by
  have h1 := l4Two_ev l es hm he
  have h2 := isPreceded_ev l es hm
  unfold spec_BestExtension.f impl_BestExtension.f
  cases hp : (goodB l && good4 (l.length : Int) es)
  · rw [hp] at h1 h2
    exact ⟨[], false, by simp, ev_bind h1 (by simp only [Bool.false_eq_true, if_false]; exact ev_now _), ev_bind h2 (by simp only [Bool.false_eq_true, if_false]; exact ev_now _)⟩
  rw [hp] at h1 h2
  rw [Bool.and_eq_true] at hp
  have hg := hp.1
  have hl := good_len hg
  cases hob : objB ob
  · exact ⟨[], false, by simp, ev_bind h1 (by simp only [if_true, l2Obj_eq, hob, Option.bind_some, Bool.false_eq_true, if_false]; exact ev_now _), ev_bind h2 (by simp only [if_true, isObj_eq, hob, Option.bind_some, Bool.false_eq_true, if_false]; exact ev_now _)⟩
  obtain ⟨_, _, hin, hirr⟩ := two_facts l es hp.2
  have hsq := clos_sq l.length es hin
  have hir2 : ∀ j : Nat, j < l.length → bfT (closT l.length es) (j : Int) (j : Int) = false := by
    intro j hj
    unfold bfT
    rw [rdTT hsq j j hj hj]
    exact hirr j hj
  refine ⟨(bestX l ob (closT l.length es)).2.2, true, by have := firstX_len l ob (closT l.length es) hl; omega, ev_bind h1 ?_, ev_bind h2 ?_⟩
  · simp only [if_true, l2Obj_eq, hob, Option.bind_some]
    unfold spec_l4Best.f
    have := l4Try_ev l hg ob hsq hir2 l.length [] (false, 0, []) (by rw [outW_nil, idsW_len]) (by rw [outW_nil]; exact List.Perm.refl _) (fun B1 x B2 e => by simp at e)
    rw [outW_nil] at this
    exact ev_bind (ev_bind (l4Table_ev l.length hl es he hin) (ev_bind this (ev_now _))) (ev_now _)
  · simp only [if_true, isObj_eq, hob, Option.bind_some]
    refine ev_bind (closure_ev l.length hl es he hin) (ev_bind (each_ev _ (stepX l ob (closT l.length es)) l.length (by omega) (fun o ho s => ?_) (false, 0, [])) (ev_now _))
    unfold impl_BestExtension_1.f
    refine ev_bind (extends_ev hl hsq ho) ?_
    unfold stepX
    cases hx : extB (bfT (closT l.length es)) o
    · simp only [Bool.false_eq_true, if_false]; exact ev_now _
    · simp only [if_true]
      refine ev_bind (valI hg hob ho) ?_
      by_cases h : s.1 = false ∨ valP l ob o < s.2.1
      · simp only [if_pos h]
        rw [copy_eq o (by rw [ordP_len ho]; omega)]
        exact ev_now _
      · simp only [if_neg h]; exact ev_now _

theorem FnExactBestExtension : FnExactBestExtension.Claim := by
  intro l0 l1 a2 hl0 hg0 hl1 hg1 hi2
  refine Ev.rounds ?_
  unfold laws_FnExactBestExtension.f
  simp only [szJobS_eq l0 (1048576 : Int) (by omega) (by omega) hl0, Option.bind_some]
  by_cases h0 : (1048576 : Int) < l0.length
  · simp only [if_pos h0, if_pos (show (-1 : Int) < 0 by omega)]
    exact ev_now _
  simp only [if_neg h0, if_neg (show ¬ (((1048576 : Int) - l0.length) < 0) by omega)]
  simp only [szIntA2S_eq l1 ((1048576 : Int) - l0.length) (by omega) (by omega) hl1, Option.bind_some]
  by_cases h1 : ((1048576 : Int) - l0.length) < l1.length
  · simp only [if_pos h1, if_pos (show (-1 : Int) < 0 by omega)]
    exact ev_now _
  simp only [if_neg h1, if_neg (show ¬ ((((1048576 : Int) - l0.length) - l1.length) < 0) by omega)]
  have ht0 := toJobS_ev l0 (by omega)
  have hm0 : (l0.map conv).length ≤ 1048576 := by simp; omega
  have hq0 := eqJobS_ev (l0.map conv) (by omega)
  have ht1 := toIntA2S_ev l1 (by omega)
  have hm1 : l1.length ≤ 1048576 := by omega
  have hq1 := eqIntA2S_ev l1 (by omega)
  obtain ⟨r0, r1, hr0, hs, hi⟩ := core (l0.map conv) l1 a2 hm0 (conv_I64 l0 hg0) hm1 hi2
  obtain ⟨qa0, ya0, _, hb0, ma0⟩ := markJobS_from1 (l0.map conv) hm0
  obtain ⟨qa1, ya1, _, hb1, ma1⟩ := markIntA2S_from l1 hm1 qa0 (by omega)
  have he0 := eqIntS_ev r0 (by omega)
  obtain ⟨q0, y0, hq_0, m0, e0⟩ := markIntS_ev r0 hr0
  refine ev_bind ht0 (ev_bind ht1 (ev_bind hs (ev_bind hi (ev_bind he0 (ev_bind hq0 (ev_bind hq1 (ev_bind ma0 (ev_bind ma1 (ev_bind m0 (ev_bind e0 ?_))))))))))
  simp only [if_pos (show (true = true ∧ r1 = r1 ∧ true = true ∧ true = true ∧ ¬ ((qa1 : Int) < 0) ∧ ¬ ((q0 : Int) < 0) ∧ (q0 : Int) = (q0 : Int)) from ⟨rfl, rfl, rfl, rfl, by omega, by omega, rfl⟩)]
  exact ev_now _

end Go.Proofs.Ytlhppclbokkfmaa.Pure
