/- The program's function and the reference's come to the same answer: what lies behind the law FnExactSidneyBlocks. Conditions: none. -/
import Derived.Test.YtlhppclbokkfmaaArgFnExactSidneyBlocks
import Derived.Test.YtlhppclbokkfmaaBase
namespace Go.Proofs.Ytlhppclbokkfmaa.Pure
open Go.RowKit Go.Proofs.Ytlhppclbokkfmaa.OFnExactSidneyBlocks Go.Proofs.Ytlhppclbokkfmaa.Base Go.Proofs.YtlhppclbokkfmaaW.PrintWords Go.Proofs.YtlhppclbokkfmaaW.PrintLast Go.Proofs.YtlhppclbokkfmaaW.PrintMore Go.Proofs.Ytlhppclbokkfmaa.Open
set_option linter.unusedVariables false
set_option linter.unusedSimpArgs false

mutual
def laws_heldIntA2S.l0 : Nat → List (S53) → Int → Int → Option (Int)
  | 0, _, _, _ => none
  | k + 1, x0, x1, x5 => if x5 < (x0.length : Int) then (laws_heldIntA2S.l1 k x0 x1 x5 0) else (some x1)
def laws_heldIntA2S.l1 : Nat → List (S53) → Int → Int → Int → Option (Int)
  | 0, _, _, _, _ => none
  | k + 1, x0, x1, x5, x6 => if x6 < 2 then (if 0 ≤ x5 then (if x5 < (x0.length : Int) then (if x6 = 0 then (if ((rd_T53 x0 x5).f0) = x1 then (laws_heldIntA2S.l1 k x0 (wrap64 (x1 + 1)) x5 (wrap64 (x6 + 1))) else (some (-1))) else (if x6 = 1 then (if ((rd_T53 x0 x5).f1) = x1 then (laws_heldIntA2S.l1 k x0 (wrap64 (x1 + 1)) x5 (wrap64 (x6 + 1))) else (some (-1))) else (none))) else (none)) else (none)) else (laws_heldIntA2S.l0 k x0 x1 (wrap64 (x5 + 1)))
end
def laws_heldIntA2S.f (k : Nat) (l0 : List (S53)) (a1 : Int) : Option (Int) := laws_heldIntA2S.l0 k l0 a1 0

def laws_heldJobS.l0 : Nat → List (S50) → Int → Int → Option (Int)
  | 0, _, _, _ => none
  | k + 1, x0, x1, x5 => if x5 < (x0.length : Int) then (if 0 ≤ x5 then (if ((rd_T50 x0 x5).f0) = x1 then (if ((rd_T50 x0 x5).f1) = (wrap64 (x1 + 1)) then (if ((rd_T50 x0 x5).f2) = (wrap64 ((wrap64 (x1 + 1)) + 1)) then (if ((rd_T50 x0 x5).f3) = (wrap64 ((wrap64 ((wrap64 (x1 + 1)) + 1)) + 1)) then (laws_heldJobS.l0 k x0 (wrap64 ((wrap64 ((wrap64 ((wrap64 (x1 + 1)) + 1)) + 1)) + 1)) (wrap64 (x5 + 1))) else (some (-1))) else (some (-1))) else (some (-1))) else (some (-1))) else (none)) else (some x1)
def laws_heldJobS.f (k : Nat) (l0 : List (S50)) (a1 : Int) : Option (Int) := laws_heldJobS.l0 k l0 a1 0

theorem szJobS_eq (xs : List S52) (left : Int) (h0 : 0 ≤ left) (h1 : left ≤ 1048576) (h : xs.length ≤ 9223372036854775807) : laws_szJobS.f xs left = some (if left < xs.length then -1 else left - xs.length) := by
  unfold laws_szJobS.f
  rw [w64 (by omega) (by omega)]
  by_cases c : left < xs.length
  · rw [if_pos (by omega), if_pos c]
  · rw [if_neg (by omega), if_neg c]

def conv (x : S52) : S50 := ⟨x.f0, x.f1, x.f2, x.f3⟩
theorem rdL (xs : List S52) (i : Nat) (h : i < xs.length) : rd_T52 xs (i : Int) = xs[i] := by
  unfold rd_T52
  rw [Int.toNat_natCast, List.getD_eq_getElem?_getD, List.getElem?_eq_getElem h]
  rfl

theorem toJobS_l (xs : List S52) (hn : xs.length ≤ 8796093022208) : ∀ (d i : Nat) (ys : List S50), i + d = xs.length → ys.length = xs.length → ys.take i = (xs.map conv).take i → Ev (fun k => laws_toJobS.l0 k xs ys (i : Int)) (xs.map conv) := by
  intro d
  induction d with
  | zero =>
    intro i ys hi hl ht
    refine ev_succ ?_
    simp only [laws_toJobS.l0, if_neg (show ¬ (i : Int) < (xs.length : Int) by omega)]
    have : ys = xs.map conv := by
      rw [List.take_of_length_le (by omega), List.take_of_length_le (by simp; omega)] at ht
      exact ht
    rw [this]
    exact ev_now _
  | succ d ih =>
    intro i ys hi hl ht
    refine ev_succ ?_
    have hx : i < xs.length := by omega
    simp only [laws_toJobS.l0, laws_toJob.f, Option.bind_some, if_pos (show (i : Int) < (xs.length : Int) by omega), if_pos (show (i : Int) < (ys.length : Int) by omega), if_pos (show (0 : Int) ≤ (i : Int) by omega), rdL xs i hx, wsucc i (by omega), Int.toNat_natCast]
    refine ih (i + 1) _ (by omega) (by rw [List.length_set]; exact hl) ?_
    rw [take_set_succ ys i _ (by omega), ht, List.take_succ_eq_append_getElem (by simp; omega)]
    simp [conv]
theorem toJobS_ev (xs : List S52) (hn : xs.length ≤ 1048576) : Ev (fun k => laws_toJobS.f k xs) (xs.map conv) := by
  unfold laws_toJobS.f
  simp only [if_pos (show (0 : Int) ≤ (xs.length : Int) by omega), Int.toNat_natCast, if_pos (show xs.length ≤ 8796093022208 by omega)]
  exact toJobS_l xs (by omega) xs.length 0 _ (by omega) (by simp) (by simp)

theorem rdI (xs : List S50) (i : Nat) (h : i < xs.length) : rd_T50 xs (i : Int) = xs[i] := by
  unfold rd_T50
  rw [Int.toNat_natCast, List.getD_eq_getElem?_getD, List.getElem?_eq_getElem h]
  rfl

theorem eqJobS_l (xs : List S50) (hn : xs.length ≤ 4611686018427387904) : ∀ (d i : Nat), i + d = xs.length → Ev (fun k => laws_eqJobS.l0 k xs xs (i : Int)) true := by
  intro d
  induction d with
  | zero =>
    intro i hi
    refine ev_succ ?_
    simp only [laws_eqJobS.l0, if_neg (show ¬ (i : Int) < (xs.length : Int) by omega)]
    exact ev_now _
  | succ d ih =>
    intro i hi
    refine ev_succ ?_
    simp only [laws_eqJobS.l0, laws_eqJob.f, if_true, Option.bind_some, if_pos (show (i : Int) < (xs.length : Int) by omega), if_pos (show (0 : Int) ≤ (i : Int) by omega), wsucc i (by omega)]
    exact ih (i + 1) (by omega)
theorem eqJobS_ev (xs : List S50) (hn : xs.length ≤ 4611686018427387904) : Ev (fun k => laws_eqJobS.f k xs xs) true := by
  unfold laws_eqJobS.f
  simp only [if_true]
  exact eqJobS_l xs hn xs.length 0 (by omega)

theorem conv_I64 (l : List S52) (hg : ∀ x ∈ l, G52 x) (i : Nat) (hi : i < (l.map conv).length) : I64 (l.map conv)[i].f0 ∧ I64 (l.map conv)[i].f1 ∧ I64 (l.map conv)[i].f2 ∧ I64 (l.map conv)[i].f3 := by
  simp only [List.getElem_map, conv]
  exact hg _ (List.getElem_mem _)

theorem rdI_set (xs : List S50) (i : Nat) (h : i < xs.length) (v : S50) : rd_T50 (xs.set i v) (i : Int) = v := by
  rw [rdI _ i (by rw [List.length_set]; exact h)]
  simp
theorem markJobS_l : ∀ (d i m : Nat) (xs : List S50), i + d = xs.length → m + 4 * d ≤ 1152921504606846976 → xs.length ≤ 1152921504606846976 →
    ∃ (q : Nat) (ys : List S50), Ev (fun k => laws_markJobS.l0 k xs (m : Int) (i : Int)) ((q : Int), ys) ∧ ys.length = xs.length ∧ ys.take i = xs.take i ∧ m ≤ q ∧ q ≤ m + 4 * d ∧ Ev (fun k => laws_heldJobS.l0 k ys (m : Int) (i : Int)) (q : Int) := by
  intro d
  induction d with
  | zero =>
    intro i m xs hi hmd hxl
    refine ⟨m, xs, ev_succ ?_, rfl, rfl, Nat.le_refl _, by omega, ev_succ ?_⟩
    · simp only [laws_markJobS.l0, if_neg (show ¬ (i : Int) < (xs.length : Int) by omega)]
      exact ev_now _
    · simp only [laws_heldJobS.l0, if_neg (show ¬ (i : Int) < (xs.length : Int) by omega)]
      exact ev_now _
  | succ d ih =>
    intro i m xs hi hmd hxl
    obtain ⟨q, ys, h1, h2, h3, h4, h4', h5⟩ := ih (i + 1) (m + 4) (xs.set i ⟨(m : Int), ((m + 1 : Nat) : Int), ((m + 2 : Nat) : Int), ((m + 3 : Nat) : Int)⟩) (by rw [List.length_set]; omega) (by omega) (by rw [List.length_set]; omega)
    rw [List.length_set] at h2
    rw [take_set_succ xs i _ (by omega)] at h3
    have hy : ys[i]'(by omega) = ⟨(m : Int), ((m + 1 : Nat) : Int), ((m + 2 : Nat) : Int), ((m + 3 : Nat) : Int)⟩ := by
      have := congrArg (fun l => l[i]?) h3
      simp only [List.getElem?_take, if_pos (show i < i + 1 by omega)] at this
      rw [List.getElem?_append_right (by simp; omega), List.getElem?_eq_getElem (by omega)] at this
      simpa [Nat.min_eq_left (show i ≤ xs.length by omega)] using this
    refine ⟨q, ys, ev_succ ?_, h2, ?_, by omega, by omega, ev_succ ?_⟩
    · simp only [laws_markJobS.l0, Option.bind_some, if_pos (show (i : Int) < (xs.length : Int) by omega), if_pos (show (0 : Int) ≤ (i : Int) by omega), wsucc i (by omega), wsucc m (by omega), wsucc (m + 1) (by omega), wsucc (m + 2) (by omega), wsucc (m + 3) (by omega), Int.toNat_natCast, rdI_set xs i (by omega), List.set_set]
      exact h1
    · have := congrArg (fun l => l.take i) h3
      simp only [List.take_take, Nat.min_eq_left (show i ≤ i + 1 by omega)] at this
      rw [this, List.take_append_of_le_length (by simp; omega), List.take_take, Nat.min_self]
    · simp only [laws_heldJobS.l0, if_pos (show (i : Int) < (ys.length : Int) by omega), if_pos (show (0 : Int) ≤ (i : Int) by omega), wsucc i (by omega), wsucc m (by omega), wsucc (m + 1) (by omega), wsucc (m + 2) (by omega), wsucc (m + 3) (by omega), rdI ys i (by omega), hy, if_true]
      exact h5
theorem markJobS_from (xs : List S50) (h : xs.length ≤ 1048576) (m : Nat) (hm : m ≤ 1000000000) : ∃ (q : Nat) (ys : List S50), m ≤ q ∧ q ≤ m + 4194304 ∧ Ev (fun k => laws_markJobS.f k xs (m : Int)) ((q : Int), ys) := by
  obtain ⟨q, ys, h1, h2, h3, h4, h4', h5⟩ := markJobS_l xs.length 0 m xs (by omega) (by omega) (by omega)
  exact ⟨q, ys, h4, by omega, h1⟩
theorem markJobS_from1 (xs : List S50) (h : xs.length ≤ 1048576) : ∃ (q : Nat) (ys : List S50), 1 ≤ q ∧ q ≤ 1 + 4194304 ∧ Ev (fun k => laws_markJobS.f k xs 1) ((q : Int), ys) := markJobS_from xs h 1 (by omega)

theorem szIntA2S_eq (xs : List S53) (left : Int) (h0 : 0 ≤ left) (h1 : left ≤ 1048576) (h : xs.length ≤ 9223372036854775807) : laws_szIntA2S.f xs left = some (if left < xs.length then -1 else left - xs.length) := by
  unfold laws_szIntA2S.f
  rw [w64 (by omega) (by omega)]
  by_cases c : left < xs.length
  · rw [if_pos (by omega), if_pos c]
  · rw [if_neg (by omega), if_neg c]

theorem rdA2 (xs : List S53) (i : Nat) (h : i < xs.length) : rd_T53 xs (i : Int) = xs[i] := by
  unfold rd_T53
  rw [Int.toNat_natCast, List.getD_eq_getElem?_getD, List.getElem?_eq_getElem h]
  rfl
theorem w01 : wrap64 (0 + 1) = 1 := by unfold wrap64; omega
theorem w11 : wrap64 (1 + 1) = 2 := by unfold wrap64; omega

theorem toIntA2_ev (a b : Int) : Ev (fun k => laws_toIntA2.f k a b) (a, b) := by
  unfold laws_toIntA2.f
  refine ev_succ ?_
  simp only [laws_toIntA2.l0, if_pos (show (0 : Int) < 2 by omega), if_true, w01]
  refine ev_succ ?_
  simp only [laws_toIntA2.l0, if_pos (show (1 : Int) < 2 by omega), if_neg (show ¬ (1 : Int) = 0 by omega), if_true, w11]
  refine ev_succ ?_
  simp only [laws_toIntA2.l0, if_neg (show ¬ (2 : Int) < 2 by omega)]
  exact ev_now _
theorem toIntA2S_l (xs : List S53) (hn : xs.length ≤ 1048576) : ∀ (d i : Nat) (ys : List S53), i + d = xs.length → ys.length = xs.length → ys.take i = xs.take i → Ev (fun k => laws_toIntA2S.l0 k xs ys (i : Int)) xs := by
  intro d
  induction d with
  | zero =>
    intro i ys hi hl ht
    refine ev_succ ?_
    simp only [laws_toIntA2S.l0, if_neg (show ¬ (i : Int) < (xs.length : Int) by omega)]
    have : ys = xs := by
      rw [List.take_of_length_le (by omega), List.take_of_length_le (by omega)] at ht
      exact ht
    rw [this]
    exact ev_now _
  | succ d ih =>
    intro i ys hi hl ht
    refine ev_succ ?_
    have hx : i < xs.length := by omega
    simp only [laws_toIntA2S.l0, if_pos (show (i : Int) < (xs.length : Int) by omega), if_pos (show (0 : Int) ≤ (i : Int) by omega), rdA2 xs i hx, wsucc i (by omega)]
    refine ev_bind (toIntA2_ev _ _) ?_
    simp only [if_pos (show (i : Int) < (ys.length : Int) by omega), Int.toNat_natCast]
    refine ih (i + 1) _ (by omega) (by rw [List.length_set]; exact hl) ?_
    rw [take_set_succ ys i _ (by omega), ht, List.take_succ_eq_append_getElem hx]
theorem toIntA2S_ev (xs : List S53) (hn : xs.length ≤ 1048576) : Ev (fun k => laws_toIntA2S.f k xs) xs := by
  unfold laws_toIntA2S.f
  simp only [if_pos (show (0 : Int) ≤ (xs.length : Int) by omega), Int.toNat_natCast, if_pos (show xs.length ≤ 17592186044416 by omega)]
  exact toIntA2S_l xs hn xs.length 0 _ (by omega) (by simp) (by simp)

theorem eqIntA2_ev (a b : Int) : Ev (fun k => laws_eqIntA2.f k a b a b) true := by
  unfold laws_eqIntA2.f
  refine ev_succ ?_
  simp only [laws_eqIntA2.l0, if_pos (show (0 : Int) < 2 by omega), if_true, w01]
  refine ev_succ ?_
  simp only [laws_eqIntA2.l0, if_pos (show (1 : Int) < 2 by omega), if_neg (show ¬ (1 : Int) = 0 by omega), if_true, w11]
  refine ev_succ ?_
  simp only [laws_eqIntA2.l0, if_neg (show ¬ (2 : Int) < 2 by omega)]
  exact ev_now _
theorem eqIntA2S_l (xs : List S53) (hn : xs.length ≤ 4611686018427387904) : ∀ (d i : Nat), i + d = xs.length → Ev (fun k => laws_eqIntA2S.l0 k xs xs (i : Int)) true := by
  intro d
  induction d with
  | zero =>
    intro i hi
    refine ev_succ ?_
    simp only [laws_eqIntA2S.l0, if_neg (show ¬ (i : Int) < (xs.length : Int) by omega)]
    exact ev_now _
  | succ d ih =>
    intro i hi
    refine ev_succ ?_
    simp only [laws_eqIntA2S.l0, if_pos (show (i : Int) < (xs.length : Int) by omega), if_pos (show (0 : Int) ≤ (i : Int) by omega), wsucc i (by omega)]
    refine ev_bind (eqIntA2_ev _ _) ?_
    simp only [if_true]
    exact ih (i + 1) (by omega)
theorem eqIntA2S_ev (xs : List S53) (hn : xs.length ≤ 4611686018427387904) : Ev (fun k => laws_eqIntA2S.f k xs xs) true := by
  unfold laws_eqIntA2S.f
  simp only [if_true]
  exact eqIntA2S_l xs hn xs.length 0 (by omega)

theorem rdA2_set (xs : List S53) (i : Nat) (h : i < xs.length) (v : S53) : rd_T53 (xs.set i v) (i : Int) = v := by
  rw [rdA2 _ i (by rw [List.length_set]; exact h)]
  simp
theorem markIntA2S_l : ∀ (d i m : Nat) (xs : List S53), i + d = xs.length → m + 2 * d ≤ 1152921504606846976 → xs.length ≤ 1152921504606846976 →
    ∃ (q : Nat) (ys : List S53), Ev (fun k => laws_markIntA2S.l0 k xs (m : Int) (i : Int)) ((q : Int), ys) ∧ ys.length = xs.length ∧ ys.take i = xs.take i ∧ m ≤ q ∧ q ≤ m + 2 * d ∧ Ev (fun k => laws_heldIntA2S.l0 k ys (m : Int) (i : Int)) (q : Int) := by
  intro d
  induction d with
  | zero =>
    intro i m xs hi hmd hxl
    refine ⟨m, xs, ev_succ ?_, rfl, rfl, Nat.le_refl _, by omega, ev_succ ?_⟩
    · simp only [laws_markIntA2S.l0, if_neg (show ¬ (i : Int) < (xs.length : Int) by omega)]
      exact ev_now _
    · simp only [laws_heldIntA2S.l0, if_neg (show ¬ (i : Int) < (xs.length : Int) by omega)]
      exact ev_now _
  | succ d ih =>
    intro i m xs hi hmd hxl
    obtain ⟨q, ys, h1, h2, h3, h4, h4', h5⟩ := ih (i + 1) (m + 2) (xs.set i ⟨(m : Int), ((m + 1 : Nat) : Int)⟩) (by rw [List.length_set]; omega) (by omega) (by rw [List.length_set]; omega)
    rw [List.length_set] at h2
    rw [take_set_succ xs i _ (by omega)] at h3
    have hy : ys[i]'(by omega) = ⟨(m : Int), ((m + 1 : Nat) : Int)⟩ := by
      have := congrArg (fun l => l[i]?) h3
      simp only [List.getElem?_take, if_pos (show i < i + 1 by omega)] at this
      rw [List.getElem?_append_right (by simp; omega), List.getElem?_eq_getElem (by omega)] at this
      simpa [Nat.min_eq_left (show i ≤ xs.length by omega)] using this
    have hx : i < xs.length := by omega
    refine ⟨q, ys, ev_succ ?_, h2, ?_, by omega, by omega, ev_succ ?_⟩
    · simp only [laws_markIntA2S.l0, if_pos (show (i : Int) < (xs.length : Int) by omega)]
      refine ev_succ ?_
      simp only [laws_markIntA2S.l1, if_pos (show (0 : Int) < 2 by omega), if_pos (show (0 : Int) ≤ (i : Int) by omega), if_pos (show (i : Int) < (xs.length : Int) by omega), if_true, w01, wsucc m (by omega), Int.toNat_natCast, rdA2 xs i hx]
      refine ev_succ ?_
      have hl : (xs.set i ⟨(m : Int), xs[i].f1⟩).length = xs.length := List.length_set
      simp only [laws_markIntA2S.l1, if_pos (show (1 : Int) < 2 by omega), if_neg (show ¬ (1 : Int) = 0 by omega), if_true, w11, if_pos (show (0 : Int) ≤ (i : Int) by omega), if_pos (show (i : Int) < ((xs.set i ⟨(m : Int), xs[i].f1⟩).length : Int) by rw [hl]; omega), wsucc (m + 1) (by omega), Int.toNat_natCast, rdA2_set xs i hx, List.set_set]
      refine ev_succ ?_
      simp only [laws_markIntA2S.l1, if_neg (show ¬ (2 : Int) < 2 by omega), wsucc i (by omega)]
      exact h1
    · have := congrArg (fun l => l.take i) h3
      simp only [List.take_take, Nat.min_eq_left (show i ≤ i + 1 by omega)] at this
      rw [this, List.take_append_of_le_length (by simp; omega), List.take_take, Nat.min_self]
    · simp only [laws_heldIntA2S.l0, if_pos (show (i : Int) < (ys.length : Int) by omega)]
      refine ev_succ ?_
      simp only [laws_heldIntA2S.l1, if_pos (show (0 : Int) < 2 by omega), if_pos (show (0 : Int) ≤ (i : Int) by omega), if_pos (show (i : Int) < (ys.length : Int) by omega), if_true, w01, wsucc m (by omega), rdA2 ys i (by omega), hy]
      refine ev_succ ?_
      simp only [laws_heldIntA2S.l1, if_pos (show (1 : Int) < 2 by omega), if_neg (show ¬ (1 : Int) = 0 by omega), if_pos (show (0 : Int) ≤ (i : Int) by omega), if_pos (show (i : Int) < (ys.length : Int) by omega), if_true, w11, wsucc (m + 1) (by omega), rdA2 ys i (by omega), hy]
      refine ev_succ ?_
      simp only [laws_heldIntA2S.l1, if_neg (show ¬ (2 : Int) < 2 by omega), wsucc i (by omega)]
      exact h5
theorem markIntA2S_from (xs : List S53) (h : xs.length ≤ 1048576) (m : Nat) (hm : m ≤ 1000000000) : ∃ (q : Nat) (ys : List S53), m ≤ q ∧ q ≤ m + 4194304 ∧ Ev (fun k => laws_markIntA2S.f k xs (m : Int)) ((q : Int), ys) := by
  obtain ⟨q, ys, h1, h2, h3, h4, h4', h5⟩ := markIntA2S_l xs.length 0 m xs (by omega) (by omega) (by omega)
  exact ⟨q, ys, h4, by omega, h1⟩
theorem rdN (xs : List Int) (i : Nat) (h : i < xs.length) : rd xs (i : Int) = xs[i] := by
  unfold rd
  rw [Int.toNat_natCast, List.getD_eq_getElem?_getD, List.getElem?_eq_getElem h]
  rfl

theorem markIntS_l : ∀ (d i m : Nat) (xs : List Int), i + d = xs.length → m + d ≤ 1152921504606846976 → xs.length ≤ 1152921504606846976 →
    ∃ (q : Nat) (ys : List Int), Ev (fun k => laws_markIntS.l0 k xs (m : Int) (i : Int)) ((q : Int), ys) ∧ ys.length = xs.length ∧ ys.take i = xs.take i ∧ m ≤ q ∧ q ≤ m + d ∧ Ev (fun k => laws_heldIntS.l0 k ys (m : Int) (i : Int)) (q : Int) := by
  intro d
  induction d with
  | zero =>
    intro i m xs hi hmd hxl
    refine ⟨m, xs, ev_succ ?_, rfl, rfl, Nat.le_refl _, by omega, ev_succ ?_⟩
    · simp only [laws_markIntS.l0, if_neg (show ¬ (i : Int) < (xs.length : Int) by omega)]
      exact ev_now _
    · simp only [laws_heldIntS.l0, if_neg (show ¬ (i : Int) < (xs.length : Int) by omega)]
      exact ev_now _
  | succ d ih =>
    intro i m xs hi hmd hxl
    obtain ⟨q, ys, h1, h2, h3, h4, h4', h5⟩ := ih (i + 1) (m + 1) (xs.set i (m : Int)) (by rw [List.length_set]; omega) (by omega) (by rw [List.length_set]; omega)
    rw [List.length_set] at h2
    rw [take_set_succ xs i _ (by omega)] at h3
    have hy : ys[i]'(by omega) = (m : Int) := by
      have := congrArg (fun l => l[i]?) h3
      simp only [List.getElem?_take, if_pos (show i < i + 1 by omega)] at this
      rw [List.getElem?_append_right (by simp; omega), List.getElem?_eq_getElem (by omega)] at this
      simpa [Nat.min_eq_left (show i ≤ xs.length by omega)] using this
    have hx : i < xs.length := by omega
    refine ⟨q, ys, ev_succ ?_, h2, ?_, by omega, by omega, ev_succ ?_⟩
    · simp only [laws_markIntS.l0, if_pos (show (i : Int) < (xs.length : Int) by omega), if_pos (show (0 : Int) ≤ (i : Int) by omega), Int.toNat_natCast, wsucc m (by omega), wsucc i (by omega)]
      exact h1
    · have := congrArg (fun l => l.take i) h3
      simp only [List.take_take, Nat.min_eq_left (show i ≤ i + 1 by omega)] at this
      rw [this, List.take_append_of_le_length (by simp; omega), List.take_take, Nat.min_self]
    · simp only [laws_heldIntS.l0, if_pos (show (i : Int) < (ys.length : Int) by omega), if_pos (show (0 : Int) ≤ (i : Int) by omega), rdN ys i (by omega), hy, if_true, wsucc m (by omega), wsucc i (by omega)]
      exact h5
theorem eqIntS_l (xs : List Int) (hn : xs.length ≤ 4611686018427387904) : ∀ (d i : Nat), i + d = xs.length → Ev (fun k => laws_eqIntS.l0 k xs xs (i : Int)) true := by
  intro d
  induction d with
  | zero =>
    intro i hi
    refine ev_succ ?_
    simp only [laws_eqIntS.l0, if_neg (show ¬ (i : Int) < (xs.length : Int) by omega)]
    exact ev_now _
  | succ d ih =>
    intro i hi
    refine ev_succ ?_
    simp only [laws_eqIntS.l0, if_true, if_pos (show (i : Int) < (xs.length : Int) by omega), if_pos (show (0 : Int) ≤ (i : Int) by omega), wsucc i (by omega)]
    exact ih (i + 1) (by omega)
theorem eqIntS_ev (xs : List Int) (hn : xs.length ≤ 4611686018427387904) : Ev (fun k => laws_eqIntS.f k xs xs) true := by
  unfold laws_eqIntS.f
  simp only [if_true]
  exact eqIntS_l xs hn xs.length 0 (by omega)

theorem rdSS (xs : List (List Int)) (i : Nat) (h : i < xs.length) : rd_L6 xs (i : Int) = xs[i] := by
  unfold rd_L6
  rw [Int.toNat_natCast, List.getD_eq_getElem?_getD, List.getElem?_eq_getElem h]
  rfl
theorem eqIntSS_ev (xs : List (List Int)) (hn : xs.length ≤ 1048576) (hr : ∀ x ∈ xs, x.length ≤ 1048576) : Ev (fun k => laws_eqIntSS.f k xs xs) true := by
  unfold laws_eqIntSS.f
  simp only [if_true]
  have loop : ∀ (d i : Nat), i + d = xs.length → Ev (fun k => laws_eqIntSS.l0 k xs xs (i : Int)) true := by
    intro d
    induction d with
    | zero =>
      intro i hi
      refine ev_succ ?_
      simp only [laws_eqIntSS.l0, if_neg (show ¬ ((i : Int) < (xs.length : Int)) by omega)]
      exact ev_now _
    | succ d ih =>
      intro i hi
      refine ev_succ ?_
      simp only [laws_eqIntSS.l0, if_pos (show (i : Int) < (xs.length : Int) by omega), if_pos (show (0 : Int) ≤ (i : Int) by omega), rdSS xs i (by omega), wsucc i (by omega)]
      refine ev_bind (eqIntS_ev xs[i] (by have := hr _ (List.getElem_mem (show i < xs.length by omega)); omega)) ?_
      simp only [if_true]
      exact ih (i + 1) (by omega)
  exact loop xs.length 0 (by omega)
theorem markIntSS_l : ∀ (d i m : Nat) (xs : List (List Int)), i + d = xs.length → m + 1048576 * d ≤ 1152921504606846976 → xs.length ≤ 1048576 → (∀ x ∈ xs, x.length ≤ 1048576) →
    ∃ (q : Nat) (ys : List (List Int)), Ev (fun k => laws_markIntSS.l0 k xs (m : Int) (i : Int)) ((q : Int), ys) ∧ ys.length = xs.length ∧ ys.take i = xs.take i ∧ m ≤ q ∧ Ev (fun k => laws_heldIntSS.l0 k ys (m : Int) (i : Int)) (q : Int) := by
  intro d
  induction d with
  | zero =>
    intro i m xs hi hmd hxl _
    refine ⟨m, xs, ev_succ ?_, rfl, rfl, Nat.le_refl _, ev_succ ?_⟩
    · simp only [laws_markIntSS.l0, if_neg (show ¬ (i : Int) < (xs.length : Int) by omega)]
      exact ev_now _
    · simp only [laws_heldIntSS.l0, if_neg (show ¬ (i : Int) < (xs.length : Int) by omega)]
      exact ev_now _
  | succ d ih =>
    intro i m xs hi hmd hxl hr
    have hrow := hr _ (List.getElem_mem (show i < xs.length by omega))
    obtain ⟨q1, y1, a1, a2, _, a4, a5, a6⟩ := markIntS_l xs[i].length 0 m xs[i] (by omega) (by omega) (by omega)
    obtain ⟨q, ys, h1, h2, h3, h4, h5⟩ := ih (i + 1) q1 (xs.set i y1) (by rw [List.length_set]; omega) (by omega) (by rw [List.length_set]; omega) (fun x hx => by
      rcases List.mem_or_eq_of_mem_set hx with h | h
      · exact hr x h
      · subst h; omega)
    rw [List.length_set] at h2
    have hy : ys[i]'(by omega) = y1 := by
      have := congrArg (fun l => l[i]?) h3
      simp only [List.getElem?_take, if_pos (show i < i + 1 by omega)] at this
      rw [List.getElem?_eq_getElem (by omega), List.getElem?_set, if_pos rfl, if_pos (by omega)] at this
      exact Option.some.inj this
    refine ⟨q, ys, ev_succ ?_, h2, ?_, by omega, ev_succ ?_⟩
    · simp only [laws_markIntSS.l0, if_pos (show (i : Int) < (xs.length : Int) by omega), if_pos (show (0 : Int) ≤ (i : Int) by omega), Int.toNat_natCast, rdSS xs i (by omega), wsucc i (by omega)]
      exact ev_bind (by unfold laws_markIntS.f; exact a1) h1
    · have := congrArg (fun l => l.take i) h3
      simp only [List.take_take, Nat.min_eq_left (show i ≤ i + 1 by omega)] at this
      rw [this, List.take_set, List.set_eq_of_length_le (by rw [List.length_take]; omega)]
    · simp only [laws_heldIntSS.l0, if_pos (show (i : Int) < (ys.length : Int) by omega), if_pos (show (0 : Int) ≤ (i : Int) by omega), rdSS ys i (by omega), hy, wsucc i (by omega)]
      refine ev_bind (by unfold laws_heldIntS.f; exact a6) ?_
      simp only [if_neg (show ¬ ((q1 : Int) < 0) by omega)]
      exact h5
theorem markIntSS_ev (xs : List (List Int)) (hn : xs.length ≤ 1048576) (hr : ∀ x ∈ xs, x.length ≤ 1048576) : ∃ (q : Nat) (ys : List (List Int)), Ev (fun k => laws_markIntSS.f k xs 1) ((q : Int), ys) ∧ Ev (fun k => laws_heldIntSS.f k ys 1) (q : Int) := by
  obtain ⟨q, ys, h1, _, _, _, h5⟩ := markIntSS_l xs.length 0 1 xs (by omega) (by omega) hn hr
  exact ⟨q, ys, h1, h5⟩

theorem within_eq (a b c : Int) : impl_within.f a b c = some (decide (b ≤ a) && decide (a ≤ c)) := by
  unfold impl_within.f
  by_cases h : b ≤ a
  · rw [if_pos h]; simp [h]
  · rw [if_neg h]; simp [h]

/-- A job's numbers are in their bounds. -/
def okJ (x : S50) : Bool := decide (1 ≤ x.f0) && (decide (x.f0 ≤ 50) && (decide (0 ≤ x.f1) && (decide (x.f1 ≤ 50) && (decide (0 ≤ x.f2) && (decide (x.f2 ≤ 500) && (decide (0 ≤ x.f3) && decide (x.f3 ≤ 500)))))))
def goodB (l : List S50) : Bool := decide (l.length ≤ 8) && l.all okJ
theorem isDate_eq (a : Int) : impl_isDate.f a = some (decide (0 ≤ a) && decide (a ≤ 500)) := by
  unfold impl_isDate.f
  rw [within_eq]
  rfl
theorem job_chain (x : S50) (o : Option Bool) : (if (decide (1 ≤ x.f0) && decide (x.f0 ≤ 50)) = true then (if (decide (0 ≤ x.f1) && decide (x.f1 ≤ 50)) = true then (if (decide (0 ≤ x.f2) && decide (x.f2 ≤ 500)) = true then (if (decide (0 ≤ x.f3) && decide (x.f3 ≤ 500)) = true then o else some false) else some false) else some false) else some false) = if okJ x = true then o else some false := by
  unfold okJ
  by_cases a1 : 1 ≤ x.f0 <;> by_cases a2 : x.f0 ≤ 50 <;> simp [a1, a2]
  by_cases b1 : 0 ≤ x.f1 <;> by_cases b2 : x.f1 ≤ 50 <;> simp [b1, b2]
  by_cases c1 : 0 ≤ x.f2 <;> by_cases c2 : x.f2 ≤ 500 <;> simp [c1, c2]
theorem IsJobs_l (xs : List S50) (hn : xs.length ≤ 4611686018427387904) : ∀ (d i : Nat), i + d = xs.length → Ev (fun k => impl_IsJobs.l0 k xs (xs.length : Int) (i : Int)) ((xs.drop i).all okJ) := by
  intro d
  induction d with
  | zero =>
    intro i hi
    refine ev_succ ?_
    simp only [impl_IsJobs.l0, if_neg (show ¬ (i : Int) < (xs.length : Int) by omega), List.drop_of_length_le (show xs.length ≤ i by omega)]
    exact ev_now _
  | succ d ih =>
    intro i hi
    refine ev_succ ?_
    have hx : i < xs.length := by omega
    have hih := ih (i + 1) (by omega)
    rw [List.drop_eq_getElem_cons hx, List.all_cons]
    simp only [impl_IsJobs.l0, within_eq, isDate_eq, Option.bind_some, if_pos (show (i : Int) < (xs.length : Int) by omega), if_pos (show (0 : Int) ≤ (i : Int) by omega), wsucc i (by omega), rdI xs i hx]
    generalize xs[i] = x at *
    simp only [job_chain]
    by_cases c : okJ x = true
    · simpa only [c, if_true, Bool.true_and] using hih
    · have c' : okJ x = false := by simpa using c
      simp only [c', Bool.false_and]
      exact ev_now _
theorem IsJobs_ev (xs : List S50) (hn : xs.length ≤ 4611686018427387904) : Ev (fun k => impl_IsJobs.f k xs) (goodB xs) := by
  unfold impl_IsJobs.f goodB
  by_cases h : xs.length ≤ 8
  · simp only [if_neg (show ¬ ((xs.length : Int) > 8) by omega), decide_eq_true h, Bool.true_and]
    exact IsJobs_l xs hn xs.length 0 (by omega)
  · simp only [if_pos (show ((xs.length : Int) > 8) by omega), decide_eq_false h, Bool.false_and]
    exact ev_now _

theorem l1In_eq (a b c : Int) : spec_l1In.f a b c = some (decide (b ≤ a) && decide (a ≤ c)) := by
  unfold spec_l1In.f
  by_cases h : b ≤ a
  · rw [if_pos h]; simp [h]
  · rw [if_neg h]; simp [h]

theorem l2Job_eq (x : S50) : spec_l2Job.f x.f0 x.f1 x.f2 x.f3 = some (okJ x) := by
  unfold spec_l2Job.f okJ
  simp only [l1In_eq, Option.bind_some]
  by_cases a1 : 1 ≤ x.f0 <;> by_cases a2 : x.f0 ≤ 50 <;> simp [a1, a2]
  by_cases b1 : 0 ≤ x.f1 <;> by_cases b2 : x.f1 ≤ 50 <;> simp [b1, b2]
  by_cases c1 : 0 ≤ x.f2 <;> by_cases c2 : x.f2 ≤ 500 <;> simp [c1, c2]
theorem l2Good_l (xs : List S50) (hn : xs.length ≤ 4611686018427387904) : ∀ (d i : Nat), i + d = xs.length → Ev (fun k => spec_l2Good.l0 k xs (i : Int)) ((xs.drop i).all okJ && decide (xs.length ≤ 8)) := by
  intro d
  induction d with
  | zero =>
    intro i hi
    refine ev_succ ?_
    simp only [spec_l2Good.l0, if_neg (show ¬ (i : Int) < (xs.length : Int) by omega), List.drop_of_length_le (show xs.length ≤ i by omega)]
    refine ev_const ?_
    simp
    omega
  | succ d ih =>
    intro i hi
    refine ev_succ ?_
    have hx : i < xs.length := by omega
    have hih := ih (i + 1) (by omega)
    rw [List.drop_eq_getElem_cons hx, List.all_cons]
    simp only [spec_l2Good.l0, if_pos (show (i : Int) < (xs.length : Int) by omega), if_pos (show (0 : Int) ≤ (i : Int) by omega), wsucc i (by omega), rdI xs i hx, l2Job_eq, Option.bind_some]
    by_cases c : okJ xs[i] = true
    · simpa only [c, if_true, Bool.true_and] using hih
    · have c' : okJ xs[i] = false := by simpa using c
      simp only [c', Bool.false_and]
      exact ev_now _
theorem l2Good_ev (xs : List S50) (hn : xs.length ≤ 4611686018427387904) : Ev (fun k => spec_l2Good.f k xs) (goodB xs) := by
  unfold spec_l2Good.f goodB
  rw [Bool.and_comm]
  exact l2Good_l xs hn xs.length 0 (by omega)

/-- A table of n rows and n columns. -/
def Sq (n : Nat) (t : List (List Bool)) : Prop := t.length = n ∧ ∀ r ∈ t, r.length = n
theorem Sq.row {n : Nat} {t : List (List Bool)} (h : Sq n t) (i : Nat) (hi : i < n) : (t[i]'(by rw [h.1]; exact hi)).length = n := h.2 _ (List.getElem_mem _)
def tb (t : List (List Bool)) (i j : Nat) : Bool := (t.getD i []).getD j false
theorem tb_eq (t : List (List Bool)) (i j : Nat) (hi : i < t.length) (hj : j < t[i].length) : tb t i j = t[i][j] := by
  unfold tb
  rw [List.getD_eq_getElem?_getD, List.getD_eq_getElem?_getD, List.getElem?_eq_getElem hi, Option.getD_some, List.getElem?_eq_getElem hj, Option.getD_some]
def putT (t : List (List Bool)) (i j : Nat) (b : Bool) : List (List Bool) := t.set i ((t.getD i []).set j b)
theorem Sq.put {n : Nat} {t : List (List Bool)} (h : Sq n t) (i j : Nat) (hi : i < n) (b : Bool) : Sq n (putT t i j b) := by
  refine ⟨by unfold putT; rw [List.length_set]; exact h.1, fun r hr => ?_⟩
  unfold putT at hr
  rcases List.mem_or_eq_of_mem_set hr with hr | rfl
  · exact h.2 r hr
  · rw [List.length_set, List.getD_eq_getElem?_getD, List.getElem?_eq_getElem (by rw [h.1]; exact hi), Option.getD_some]
    exact h.row i hi
theorem rdBB (t : List (List Bool)) (i : Nat) (h : i < t.length) : rd_L5 t (i : Int) = t[i] := by
  unfold rd_L5
  rw [Int.toNat_natCast, List.getD_eq_getElem?_getD, List.getElem?_eq_getElem h]
  rfl
theorem rdB (r : List Bool) (i : Nat) (h : i < r.length) : rdOf false r (i : Int) = r[i] := by
  unfold rdOf
  rw [Int.toNat_natCast, List.getD_eq_getElem?_getD, List.getElem?_eq_getElem h]
  rfl
theorem rdTB (t : List (List Bool)) (i : Nat) (h : i < t.length) : (rd_L5 t (i : Int)) = t.getD i [] := by
  rw [rdBB t i h, List.getD_eq_getElem?_getD, List.getElem?_eq_getElem h]; rfl
theorem rdTT {n : Nat} {t : List (List Bool)} (h : Sq n t) (i j : Nat) (hi : i < n) (hj : j < n) : rdOf false (rd_L5 t (i : Int)) (j : Int) = tb t i j := by
  have h1 : i < t.length := by rw [h.1]; exact hi
  have h2 := h.row i hi
  rw [rdBB t i h1, rdB _ j (by rw [h2]; exact hj), tb_eq t i j h1 (by rw [h2]; exact hj)]
theorem put_same {n : Nat} {t : List (List Bool)} (h : Sq n t) (i j : Nat) (hi : i < n) (hj : j < n) : putT t i j (tb t i j) = t := by
  have h1 : i < t.length := by rw [h.1]; exact hi
  have h2 := h.row i hi
  have hg : t.getD i [] = t[i] := by rw [List.getD_eq_getElem?_getD, List.getElem?_eq_getElem h1]; rfl
  unfold putT
  rw [hg, tb_eq t i j h1 (by rw [h2]; exact hj), List.set_getElem_self, List.set_getElem_self]
def stepT (t : List (List Bool)) (k i j : Nat) : List (List Bool) := if (tb t i k && tb t k j) = true then putT t i j true else t
theorem Sq.step {n : Nat} {t : List (List Bool)} (h : Sq n t) (k i j : Nat) (hi : i < n) : Sq n (stepT t k i j) := by
  unfold stepT
  split
  · exact h.put i j hi true
  · exact h
def rowF (t : List (List Bool)) (k i : Nat) (js : List Nat) : List (List Bool) := js.foldl (fun t j => stepT t k i j) t
def midF (n : Nat) (t : List (List Bool)) (k : Nat) (is : List Nat) : List (List Bool) := is.foldl (fun t i => rowF t k i (List.range' 0 n)) t
def outF (n : Nat) (t : List (List Bool)) (ks : List Nat) : List (List Bool) := ks.foldl (fun t k => midF n t k (List.range' 0 n)) t
def edgeF (t : List (List Bool)) (es : List S53) : List (List Bool) := es.foldl (fun t e => putT t e.f0.toNat e.f1.toNat true) t
/-- The table of what comes before what. -/
def closT (n : Nat) (es : List S53) : List (List Bool) := outF n (edgeF (List.replicate n (List.replicate n false)) es) (List.range' 0 n)
def inN (n : Nat) (es : List S53) : Prop := ∀ e ∈ es, 0 ≤ e.f0 ∧ e.f0 < n ∧ 0 ≤ e.f1 ∧ e.f1 < n
theorem Sq.row_fold {n : Nat} {t : List (List Bool)} (h : Sq n t) (k i : Nat) (hi : i < n) (js : List Nat) : Sq n (rowF t k i js) := by
  unfold rowF
  induction js generalizing t with
  | nil => exact h
  | cons j js ih => exact ih (h.step k i j hi)
section
variable {F : Nat → List (List Bool) → Nat → Nat → Nat → Option (List (List Bool))}
end
theorem spec_l4 (n : Nat) (hn : n ≤ 8) (kk i : Nat) (hk : kk < n) (hi : i < n) (R : List (List Bool) → List (List Bool))
    (hnext : ∀ t, Sq n t → Ev (fun k => spec_l4Table.l3 k (n : Int) t (kk : Int) ((i + 1 : Nat) : Int)) (R t)) :
    ∀ (d j : Nat) (t : List (List Bool)), j + d = n → Sq n t → Ev (fun k => spec_l4Table.l4 k (n : Int) t (kk : Int) (i : Int) (j : Int)) (R (rowF t kk i (List.range' j d))) := by
  intro d
  induction d with
  | zero =>
    intro j t hj ht
    refine ev_succ ?_
    simp only [spec_l4Table.l4, if_neg (show ¬ (j : Int) < (n : Int) by omega), wsucc i (by omega)]
    exact hnext t ht
  | succ d ih =>
    intro j t hj ht
    refine ev_succ ?_
    have hl := ht.1
    have hri : (rd_L5 t (i : Int)).length = n := by rw [rdBB t i (by omega)]; exact ht.row i hi
    have hrk : (rd_L5 t (kk : Int)).length = n := by rw [rdBB t kk (by omega)]; exact ht.row kk hk
    have h := ih (j + 1) (stepT t kk i j) (by omega) (ht.step kk i j hi)
    rw [List.range'_succ]
    simp only [rowF, List.foldl_cons]
    simp only [rowF] at h
    simp only [spec_l4Table.l4, if_pos (show (j : Int) < (n : Int) by omega), if_pos (show (0 : Int) ≤ (i : Int) by omega), if_pos (show (i : Int) < (t.length : Int) by omega), if_pos (show (0 : Int) ≤ (kk : Int) by omega), if_pos (show (kk : Int) < ((rd_L5 t (i : Int)).length : Int) by omega), if_pos (show (kk : Int) < (t.length : Int) by omega), if_pos (show (0 : Int) ≤ (j : Int) by omega), if_pos (show (j : Int) < ((rd_L5 t (kk : Int)).length : Int) by omega), if_pos (show (j : Int) < ((rd_L5 t (i : Int)).length : Int) by omega), rdTT ht i kk hi hk, rdTT ht kk j hk (by omega), wsucc j (by omega), Int.toNat_natCast]
    by_cases c1 : tb t i kk = true
    · by_cases c2 : tb t kk j = true
      · simp only [if_pos c1, if_pos c2]
        have hs : stepT t kk i j = putT t i j true := by unfold stepT; rw [if_pos (by rw [c1, c2]; rfl)]
        rw [hs] at h ⊢
        rw [rdTB t i (by omega)]
        exact h
      · simp only [if_pos c1, if_neg c2]
        have hs : stepT t kk i j = t := by unfold stepT; rw [if_neg (by rw [c1]; simpa using c2)]
        rw [hs] at h ⊢
        exact h
    · simp only [if_neg c1]
      have hs : stepT t kk i j = t := by unfold stepT; rw [if_neg (by simp only [Bool.and_eq_true]; exact fun x => c1 x.1)]
      rw [hs] at h ⊢
      exact h
theorem spec_l3 (n : Nat) (hn : n ≤ 8) (kk : Nat) (hk : kk < n) (R : List (List Bool) → List (List Bool))
    (hnext : ∀ t, Sq n t → Ev (fun k => spec_l4Table.l2 k (n : Int) t ((kk + 1 : Nat) : Int)) (R t)) :
    ∀ (d i : Nat) (t : List (List Bool)), i + d = n → Sq n t → Ev (fun k => spec_l4Table.l3 k (n : Int) t (kk : Int) (i : Int)) (R (midF n t kk (List.range' i d))) := by
  intro d
  induction d with
  | zero =>
    intro i t hi ht
    refine ev_succ ?_
    simp only [spec_l4Table.l3, if_neg (show ¬ (i : Int) < (n : Int) by omega), wsucc kk (by omega)]
    exact hnext t ht
  | succ d ih =>
    intro i t hi ht
    refine ev_succ ?_
    rw [List.range'_succ]
    simp only [midF, List.foldl_cons, spec_l4Table.l3, if_pos (show (i : Int) < (n : Int) by omega)]
    exact spec_l4 n hn kk i hk (by omega) (fun t => R (midF n t kk (List.range' (i + 1) d))) (fun t ht => ih (i + 1) t (by omega) ht) n 0 t (by omega) ht
theorem mid_sq {n : Nat} {t : List (List Bool)} (h : Sq n t) (k : Nat) : ∀ is : List Nat, (∀ i ∈ is, i < n) → Sq n (midF n t k is) := by
  intro is
  unfold midF
  induction is generalizing t with
  | nil => intro _; exact h
  | cons i is ih => intro hi; exact ih (h.row_fold k i (hi i (by simp)) _) (fun x hx => hi x (by simp [hx]))
theorem spec_l2 (n : Nat) (hn : n ≤ 8) : ∀ (d kk : Nat) (t : List (List Bool)), kk + d = n → Sq n t → Ev (fun k => spec_l4Table.l2 k (n : Int) t (kk : Int)) (outF n t (List.range' kk d)) := by
  intro d
  induction d with
  | zero =>
    intro kk t hk ht
    refine ev_succ ?_
    simp only [spec_l4Table.l2, if_neg (show ¬ (kk : Int) < (n : Int) by omega)]
    exact ev_now _
  | succ d ih =>
    intro kk t hk ht
    refine ev_succ ?_
    rw [List.range'_succ]
    simp only [outF, List.foldl_cons, spec_l4Table.l2, if_pos (show (kk : Int) < (n : Int) by omega)]
    exact spec_l3 n hn kk (by omega) (fun t => outF n t (List.range' (kk + 1) d)) (fun t ht => ih (kk + 1) t (by omega) ht) n 0 t (by omega) ht
theorem edge_sq {n : Nat} {t : List (List Bool)} (h : Sq n t) : ∀ es : List S53, inN n es → Sq n (edgeF t es) := by
  intro es
  unfold edgeF
  induction es generalizing t with
  | nil => intro _; exact h
  | cons e es ih =>
    intro he
    have := he e (by simp)
    exact ih (h.put _ _ (by omega) true) (fun x hx => he x (by simp [hx]))
theorem spec_l1 (n : Nat) (hn : n ≤ 8) (es : List S53) (hes : es.length ≤ 1048576) (hin : inN n es) : ∀ (d i : Nat) (t : List (List Bool)), i + d = es.length → Sq n t → Ev (fun k => spec_l4Table.l1 k (n : Int) es t (i : Int)) (outF n (edgeF t (es.drop i)) (List.range' 0 n)) := by
  intro d
  induction d with
  | zero =>
    intro i t hi ht
    refine ev_succ ?_
    simp only [spec_l4Table.l1, if_neg (show ¬ (i : Int) < (es.length : Int) by omega), List.drop_of_length_le (show es.length ≤ i by omega)]
    exact spec_l2 n hn n 0 t (by omega) ht
  | succ d ih =>
    intro i t hi ht
    refine ev_succ ?_
    have hx : i < es.length := by omega
    have hl := ht.1
    have he := hin es[i] (List.getElem_mem hx)
    obtain ⟨a, ha⟩ := Int.eq_ofNat_of_zero_le he.1
    obtain ⟨b, hb⟩ := Int.eq_ofNat_of_zero_le he.2.2.1
    have hr : (rd_L5 t (a : Int)).length = n := by rw [rdBB t a (by omega)]; exact ht.row a (by omega)
    have h := ih (i + 1) (putT t a b true) (by omega) (ht.put a b (by omega) true)
    rw [List.drop_eq_getElem_cons hx]
    simp only [edgeF, List.foldl_cons, ha, hb, Int.toNat_natCast]
    simp only [edgeF] at h
    simp only [spec_l4Table.l1, if_pos (show (i : Int) < (es.length : Int) by omega), if_pos (show (0 : Int) ≤ (i : Int) by omega), rdA2 es i hx, ha, hb, if_pos (show (0 : Int) ≤ (a : Int) by omega), if_pos (show (a : Int) < (t.length : Int) by omega), if_pos (show (0 : Int) ≤ (b : Int) by omega), if_pos (show (b : Int) < ((rd_L5 t (a : Int)).length : Int) by omega), wsucc i (by omega), Int.toNat_natCast]
    rw [rdTB t a (by omega)]
    exact h
theorem spec_l0 (n : Nat) (hn : n ≤ 8) (es : List S53) (hes : es.length ≤ 1048576) (hin : inN n es) : ∀ (d i : Nat) (t : List (List Bool)), i + d = n → t = List.replicate i (List.replicate n false) → Ev (fun k => spec_l4Table.l0 k (n : Int) es t (i : Int)) (closT n es) := by
  intro d
  induction d with
  | zero =>
    intro i t hi ht
    refine ev_succ ?_
    have hin' : i = n := by omega
    subst hin'
    simp only [spec_l4Table.l0, if_neg (show ¬ (i : Int) < (i : Int) by omega)]
    have := spec_l1 i hn es hes hin es.length 0 t (by omega) (by rw [ht]; exact ⟨by simp, fun r hr => by rw [List.eq_of_mem_replicate hr]; simp⟩)
    rw [List.drop_zero, ht] at this
    rw [ht]
    exact this
  | succ d ih =>
    intro i t hi ht
    refine ev_succ ?_
    have hl : t.length = i := by rw [ht]; simp
    simp only [spec_l4Table.l0, if_pos (show (i : Int) < (n : Int) by omega), if_pos (show (0 : Int) ≤ (n : Int) by omega), Int.toNat_natCast, if_pos (show n ≤ 281474976710656 by omega), if_pos (show t.length < 5864062014805 by omega), wsucc i (by omega)]
    exact ih (i + 1) _ (by omega) (by rw [ht, List.replicate_succ'])
theorem l4Table_ev (n : Nat) (hn : n ≤ 8) (es : List S53) (hes : es.length ≤ 1048576) (hin : inN n es) : Ev (fun k => spec_l4Table.f k (n : Int) es) (closT n es) := by
  unfold spec_l4Table.f
  exact spec_l0 n hn es hes hin n 0 [] (by omega) (by simp)
theorem impl_l4 (n : Nat) (hn : n ≤ 8) (kk i : Nat) (hk : kk < n) (hi : i < n) (R : List (List Bool) → List (List Bool))
    (hnext : ∀ t, Sq n t → Ev (fun k => impl_closure.l3 k (n : Int) t (kk : Int) ((i + 1 : Nat) : Int)) (R t)) :
    ∀ (d j : Nat) (t : List (List Bool)), j + d = n → Sq n t → Ev (fun k => impl_closure.l4 k (n : Int) t (kk : Int) (i : Int) (j : Int)) (R (rowF t kk i (List.range' j d))) := by
  intro d
  induction d with
  | zero =>
    intro j t hj ht
    refine ev_succ ?_
    simp only [impl_closure.l4, if_neg (show ¬ (j : Int) < (n : Int) by omega), wsucc i (by omega)]
    exact hnext t ht
  | succ d ih =>
    intro j t hj ht
    refine ev_succ ?_
    have hl := ht.1
    have hri : (rd_L5 t (i : Int)).length = n := by rw [rdBB t i (by omega)]; exact ht.row i hi
    have hrk : (rd_L5 t (kk : Int)).length = n := by rw [rdBB t kk (by omega)]; exact ht.row kk hk
    have h := ih (j + 1) (stepT t kk i j) (by omega) (ht.step kk i j hi)
    rw [List.range'_succ]
    simp only [rowF, List.foldl_cons]
    simp only [rowF] at h
    simp only [impl_closure.l4, if_pos (show (j : Int) < (n : Int) by omega), if_pos (show (0 : Int) ≤ (i : Int) by omega), if_pos (show (i : Int) < (t.length : Int) by omega), if_pos (show (0 : Int) ≤ (kk : Int) by omega), if_pos (show (kk : Int) < ((rd_L5 t (i : Int)).length : Int) by omega), if_pos (show (kk : Int) < (t.length : Int) by omega), if_pos (show (0 : Int) ≤ (j : Int) by omega), if_pos (show (j : Int) < ((rd_L5 t (kk : Int)).length : Int) by omega), if_pos (show (j : Int) < ((rd_L5 t (i : Int)).length : Int) by omega), rdTT ht i kk hi hk, rdTT ht kk j hk (by omega), rdTT ht i j hi (by omega), wsucc j (by omega), Int.toNat_natCast]
    have hput : ∀ b, t.set i ((rd_L5 t (i : Int)).set j b) = putT t i j b := fun b => by rw [rdTB t i (by omega)]; rfl
    have hsame := put_same ht i j hi (show j < n by omega)
    by_cases c0 : tb t i j = true
    · simp only [if_pos c0, hput]
      have hs : stepT t kk i j = t := by
        unfold stepT
        split
        · rw [c0] at hsame; exact hsame
        · rfl
      rw [hs] at h ⊢
      rw [c0] at hsame
      rw [hsame]
      exact h
    · have c0' : tb t i j = false := by simpa using c0
      rw [c0'] at hsame
      by_cases c1 : tb t i kk = true
      · simp only [if_neg c0, if_pos c1, hput]
        by_cases c2 : tb t kk j = true
        · have hs : stepT t kk i j = putT t i j true := by unfold stepT; rw [if_pos (by rw [c1, c2]; rfl)]
          rw [hs] at h ⊢
          rw [c2]
          exact h
        · have c2' : tb t kk j = false := by simpa using c2
          have hs : stepT t kk i j = t := by unfold stepT; rw [if_neg (by rw [c1]; simpa using c2)]
          rw [hs] at h ⊢
          rw [c2', hsame]
          exact h
      · simp only [if_neg c0, if_neg c1, hput]
        have hs : stepT t kk i j = t := by unfold stepT; rw [if_neg (by simp only [Bool.and_eq_true]; exact fun x => c1 x.1)]
        rw [hs] at h ⊢
        rw [hsame]
        exact h
theorem impl_l3 (n : Nat) (hn : n ≤ 8) (kk : Nat) (hk : kk < n) (R : List (List Bool) → List (List Bool))
    (hnext : ∀ t, Sq n t → Ev (fun k => impl_closure.l2 k (n : Int) t ((kk + 1 : Nat) : Int)) (R t)) :
    ∀ (d i : Nat) (t : List (List Bool)), i + d = n → Sq n t → Ev (fun k => impl_closure.l3 k (n : Int) t (kk : Int) (i : Int)) (R (midF n t kk (List.range' i d))) := by
  intro d
  induction d with
  | zero =>
    intro i t hi ht
    refine ev_succ ?_
    simp only [impl_closure.l3, if_neg (show ¬ (i : Int) < (n : Int) by omega), wsucc kk (by omega)]
    exact hnext t ht
  | succ d ih =>
    intro i t hi ht
    refine ev_succ ?_
    rw [List.range'_succ]
    simp only [midF, List.foldl_cons, impl_closure.l3, if_pos (show (i : Int) < (n : Int) by omega)]
    exact impl_l4 n hn kk i hk (by omega) (fun t => R (midF n t kk (List.range' (i + 1) d))) (fun t ht => ih (i + 1) t (by omega) ht) n 0 t (by omega) ht
theorem impl_l2 (n : Nat) (hn : n ≤ 8) : ∀ (d kk : Nat) (t : List (List Bool)), kk + d = n → Sq n t → Ev (fun k => impl_closure.l2 k (n : Int) t (kk : Int)) (outF n t (List.range' kk d)) := by
  intro d
  induction d with
  | zero =>
    intro kk t hk ht
    refine ev_succ ?_
    simp only [impl_closure.l2, if_neg (show ¬ (kk : Int) < (n : Int) by omega)]
    exact ev_now _
  | succ d ih =>
    intro kk t hk ht
    refine ev_succ ?_
    rw [List.range'_succ]
    simp only [outF, List.foldl_cons, impl_closure.l2, if_pos (show (kk : Int) < (n : Int) by omega)]
    exact impl_l3 n hn kk (by omega) (fun t => outF n t (List.range' (kk + 1) d)) (fun t ht => ih (kk + 1) t (by omega) ht) n 0 t (by omega) ht
theorem impl_l1 (n : Nat) (hn : n ≤ 8) (es : List S53) (hes : es.length ≤ 1048576) (hin : inN n es) : ∀ (d i : Nat) (t : List (List Bool)), i + d = es.length → Sq n t → Ev (fun k => impl_closure.l1 k (n : Int) t es (es.length : Int) (i : Int)) (outF n (edgeF t (es.drop i)) (List.range' 0 n)) := by
  intro d
  induction d with
  | zero =>
    intro i t hi ht
    refine ev_succ ?_
    simp only [impl_closure.l1, if_neg (show ¬ (i : Int) < (es.length : Int) by omega), List.drop_of_length_le (show es.length ≤ i by omega)]
    exact impl_l2 n hn n 0 t (by omega) ht
  | succ d ih =>
    intro i t hi ht
    refine ev_succ ?_
    have hx : i < es.length := by omega
    have hl := ht.1
    have he := hin es[i] (List.getElem_mem hx)
    obtain ⟨a, ha⟩ := Int.eq_ofNat_of_zero_le he.1
    obtain ⟨b, hb⟩ := Int.eq_ofNat_of_zero_le he.2.2.1
    have hr : (rd_L5 t (a : Int)).length = n := by rw [rdBB t a (by omega)]; exact ht.row a (by omega)
    have h := ih (i + 1) (putT t a b true) (by omega) (ht.put a b (by omega) true)
    rw [List.drop_eq_getElem_cons hx]
    simp only [edgeF, List.foldl_cons, ha, hb, Int.toNat_natCast]
    simp only [edgeF] at h
    simp only [impl_closure.l1, if_pos (show (i : Int) < (es.length : Int) by omega), if_pos (show (0 : Int) ≤ (i : Int) by omega), rdA2 es i hx, ha, hb, if_pos (show (0 : Int) ≤ (a : Int) by omega), if_pos (show (a : Int) < (t.length : Int) by omega), if_pos (show (0 : Int) ≤ (b : Int) by omega), if_pos (show (b : Int) < ((rd_L5 t (a : Int)).length : Int) by omega), wsucc i (by omega), Int.toNat_natCast]
    rw [rdTB t a (by omega)]
    exact h
theorem impl_l0 (n : Nat) (hn : n ≤ 8) (es : List S53) (hes : es.length ≤ 1048576) (hin : inN n es) : ∀ (d i : Nat) (t : List (List Bool)), i + d = n → t.length = n → t.take i = List.replicate i (List.replicate n false) → Ev (fun k => impl_closure.l0 k (n : Int) es t (n : Int) (i : Int)) (closT n es) := by
  intro d
  induction d with
  | zero =>
    intro i t hi hl ht
    refine ev_succ ?_
    have hin' : i = n := by omega
    subst hin'
    rw [List.take_of_length_le (by omega)] at ht
    simp only [impl_closure.l0, if_neg (show ¬ (i : Int) < (i : Int) by omega)]
    have := impl_l1 i hn es hes hin es.length 0 t (by omega) (by rw [ht]; exact ⟨by simp, fun r hr => by rw [List.eq_of_mem_replicate hr]; simp⟩)
    rw [List.drop_zero, ht] at this
    rw [ht]
    exact this
  | succ d ih =>
    intro i t hi hl ht
    refine ev_succ ?_
    simp only [impl_closure.l0, if_pos (show (i : Int) < (n : Int) by omega), if_pos (show (0 : Int) ≤ (n : Int) by omega), Int.toNat_natCast, if_pos (show n ≤ 281474976710656 by omega), if_pos (show (0 : Int) ≤ (i : Int) by omega), if_pos (show (i : Int) < (t.length : Int) by omega), wsucc i (by omega)]
    exact ih (i + 1) _ (by omega) (by rw [List.length_set]; exact hl) (by rw [take_set_succ t i _ (by omega), ht, List.replicate_succ'])
theorem closure_ev (n : Nat) (hn : n ≤ 8) (es : List S53) (hes : es.length ≤ 1048576) (hin : inN n es) : Ev (fun k => impl_closure.f k (n : Int) es) (closT n es) := by
  unfold impl_closure.f
  simp only [if_pos (show (0 : Int) ≤ (n : Int) by omega), Int.toNat_natCast, if_pos (show n ≤ 11728124029610 by omega), Option.bind_some, List.length_replicate]
  exact impl_l0 n hn es hes hin n 0 _ (by omega) (by simp) (by simp)
theorem clos_sq (n : Nat) (es : List S53) (hin : inN n es) : Sq n (closT n es) := by
  unfold closT
  have h0 : Sq n (edgeF (List.replicate n (List.replicate n false)) es) := edge_sq ⟨by simp, fun r hr => by rw [List.eq_of_mem_replicate hr]; simp⟩ es hin
  have key : ∀ (ks : List Nat) (t : List (List Bool)), Sq n t → Sq n (outF n t ks) := by
    intro ks
    unfold outF
    induction ks with
    | nil => intro t h; exact h
    | cons k ks ih => intro t h; exact ih _ (mid_sq h k _ (fun i hi => by rw [List.mem_range'_1] at hi; omega))
  exact key _ _ h0

theorem isNumber_eq (i n : Int) (h0 : 0 ≤ n) (h1 : n ≤ 9223372036854775807) : impl_isNumber.f i n = some (decide (0 ≤ i) && decide (i < n)) := by
  unfold impl_isNumber.f
  rw [within_eq, w64 (by omega) (by omega)]
  simp only [Option.bind_some]
  congr 2
  rw [decide_eq_decide]
  omega

def cE (m : Int) (es : List S53) (i : Nat) : Bool :=
  decide (0 ≤ (rd_T53 es (i : Int)).f0) && decide ((rd_T53 es (i : Int)).f0 ≤ m) && (decide (0 ≤ (rd_T53 es (i : Int)).f1) && decide ((rd_T53 es (i : Int)).f1 ≤ m)) && !decide ((rd_T53 es (i : Int)).f0 = (rd_T53 es (i : Int)).f1) &&
  (decide (i = 0) || decide ((rd_T53 es ((i - 1 : Nat) : Int)).f0 < (rd_T53 es (i : Int)).f0) || decide ((rd_T53 es ((i - 1 : Nat) : Int)).f0 = (rd_T53 es (i : Int)).f0) && decide ((rd_T53 es ((i - 1 : Nat) : Int)).f1 < (rd_T53 es (i : Int)).f1))
def pfE (m : Int) (es : List S53) (i : Nat) : Nat → Bool
  | 0 => true
  | d + 1 => cE m es i && pfE m es (i + 1) d
theorem l4Before_eq (a b c d : Int) : spec_l4Before.f a b c d = some (decide (a < c) || decide (a = c) && decide (b < d)) := by
  unfold spec_l4Before.f
  by_cases h : a < c
  · rw [if_pos h]; simp [h]
  · rw [if_neg h]
    by_cases h' : a = c
    · rw [if_pos h']; simp [h, h']
    · rw [if_neg h']; simp [h, h']
theorem wpred (i : Nat) (h0 : 0 < i) (h : i < 4611686018427387904) : wrap64 ((i : Int) - 1) = ((i - 1 : Nat) : Int) := by
  rw [w64 (by omega) (by omega)]; omega
theorem l4Pairs_l (n : Int) (es : List S53) (hes : es.length ≤ 1048576) : ∀ (d i : Nat), i + d = es.length → Ev (fun k => spec_l4Pairs.l0 k n es (i : Int)) (pfE (wrap64 (n - 1)) es i d && ((decide (0 ≤ n) && decide (n ≤ 8)) && decide ((es.length : Int) ≤ 28))) := by
  intro d
  induction d with
  | zero =>
    intro i hi
    refine ev_succ ?_
    simp only [spec_l4Pairs.l0, if_neg (show ¬ (i : Int) < (es.length : Int) by omega), l1In_eq, Option.bind_some, pfE, Bool.true_and]
    cases hb : (decide (0 ≤ n) && decide (n ≤ 8))
    · simp only [Bool.false_eq_true, if_false, Bool.false_and]; exact ev_now _
    · simp only [if_true, Bool.true_and]; exact ev_now _
  | succ d ih =>
    intro i hi
    refine ev_succ ?_
    have h := ih (i + 1) (by omega)
    simp only [spec_l4Pairs.l0, if_pos (show (i : Int) < (es.length : Int) by omega), if_pos (show (0 : Int) ≤ (i : Int) by omega), l1In_eq, l4Before_eq, Option.bind_some, pfE, wsucc i (by omega)]
    unfold cE
    by_cases ha : (decide (0 ≤ (rd_T53 es (i : Int)).f0) && decide ((rd_T53 es (i : Int)).f0 ≤ wrap64 (n - 1))) = true
    · by_cases hb : (decide (0 ≤ (rd_T53 es (i : Int)).f1) && decide ((rd_T53 es (i : Int)).f1 ≤ wrap64 (n - 1))) = true
      · by_cases hc : (rd_T53 es (i : Int)).f0 = (rd_T53 es (i : Int)).f1
        · simp only [ha, hb, if_true, if_pos hc, decide_eq_true hc, Bool.not_true, Bool.and_false, Bool.false_and]; exact ev_now _
        · by_cases h0 : i = 0
          · subst h0
            simp only [ha, hb, if_true, if_neg hc, decide_true, Bool.true_or, Bool.true_and, decide_eq_false hc, Bool.not_false, gt_iff_lt, if_neg (show ¬ ((0 : Int) < ((0 : Nat) : Int)) by omega)]
            exact h
          · simp only [ha, hb, if_true, if_neg hc, if_pos (show (i : Int) > 0 by omega), wpred i (by omega) (by omega), if_pos (show (0 : Int) ≤ ((i - 1 : Nat) : Int) by omega), if_pos (show ((i - 1 : Nat) : Int) < (es.length : Int) by omega), decide_eq_false h0, Bool.false_or, Bool.true_and, decide_eq_false hc, Bool.not_false]
            cases hd : (decide ((rd_T53 es ((i - 1 : Nat) : Int)).f0 < (rd_T53 es (i : Int)).f0) || decide ((rd_T53 es ((i - 1 : Nat) : Int)).f0 = (rd_T53 es (i : Int)).f0) && decide ((rd_T53 es ((i - 1 : Nat) : Int)).f1 < (rd_T53 es (i : Int)).f1))
            · simp only [Bool.false_eq_true, if_false, Bool.false_and]; exact ev_now _
            · simp only [if_true, Bool.true_and]; exact h
      · simp only [ha, if_true, if_neg hb, Bool.not_eq_true .. ▸ hb, Bool.and_false, Bool.false_and]; exact ev_now _
    · simp only [if_neg ha, Bool.not_eq_true .. ▸ ha, Bool.false_and]; exact ev_now _
def okE (n : Int) (es : List S53) : Bool := pfE (wrap64 (n - 1)) es 0 es.length && ((decide (0 ≤ n) && decide (n ≤ 8)) && decide ((es.length : Int) ≤ 28))
theorem l4Pairs_ev (n : Int) (es : List S53) (hes : es.length ≤ 1048576) : Ev (fun k => spec_l4Pairs.f k n es) (okE n es) := by
  unfold spec_l4Pairs.f
  exact l4Pairs_l n es hes es.length 0 (by omega)
theorem pfE_in (n : Nat) (hn : n ≤ 8) (es : List S53) : ∀ (d i : Nat), i + d = es.length → pfE (wrap64 ((n : Int) - 1)) es i d = true → ∀ j, i ≤ j → (hj : j < es.length) → 0 ≤ (es[j]).f0 ∧ (es[j]).f0 < n ∧ 0 ≤ (es[j]).f1 ∧ (es[j]).f1 < n := by
  intro d
  induction d with
  | zero => intro i hi _ j hj hj'; omega
  | succ d ih =>
    intro i hi h j hj hj'
    unfold pfE at h
    rw [Bool.and_eq_true] at h
    by_cases he : j = i
    · subst he
      have h1 := h.1
      unfold cE at h1
      rw [rdA2 es j hj', w64 (by omega) (by omega)] at h1
      simp only [Bool.and_eq_true, decide_eq_true_eq] at h1
      obtain ⟨⟨⟨⟨a1, a2⟩, ⟨a3, a4⟩⟩, _⟩, _⟩ := h1
      exact ⟨a1, by omega, a3, by omega⟩
    · exact ih (i + 1) (by omega) h.2 j (by omega) hj'
theorem okE_in (n : Int) (es : List S53) (h : okE n es = true) : ∃ m : Nat, n = m ∧ m ≤ 8 ∧ es.length ≤ 28 ∧ inN m es := by
  unfold okE at h
  simp only [Bool.and_eq_true, decide_eq_true_eq] at h
  obtain ⟨h1, ⟨h2, h3⟩, h4⟩ := h
  obtain ⟨m, rfl⟩ := Int.eq_ofNat_of_zero_le h2
  refine ⟨m, rfl, by omega, by omega, fun e he => ?_⟩
  obtain ⟨j, hj, rfl⟩ := List.mem_iff_getElem.mp he
  have := pfE_in m (by omega) es es.length 0 (by omega) h1 j (by omega) hj
  omega
/-- No job stands before itself, from the i-th on. -/
def acyF (t : List (List Bool)) (i : Nat) : Nat → Bool
  | 0 => true
  | d + 1 => !tb t i i && acyF t (i + 1) d
def good4 (n : Int) (es : List S53) : Bool := okE n es && acyF (closT n.toNat es) 0 n.toNat
theorem l4Good_l (n : Nat) (hn : n ≤ 8) (t : List (List Bool)) (ht : Sq n t) : ∀ (d i : Nat), i + d = n → Ev (fun k => spec_l4Good.l0 k (n : Int) t (i : Int)) (acyF t i d) := by
  intro d
  induction d with
  | zero =>
    intro i hi
    refine ev_succ ?_
    simp only [spec_l4Good.l0, if_neg (show ¬ (i : Int) < (n : Int) by omega), acyF]
    exact ev_now _
  | succ d ih =>
    intro i hi
    refine ev_succ ?_
    have h := ih (i + 1) (by omega)
    have hl := ht.1
    have hr : (rd_L5 t (i : Int)).length = n := by rw [rdBB t i (by omega)]; exact ht.row i (by omega)
    simp only [spec_l4Good.l0, if_pos (show (i : Int) < (n : Int) by omega), if_pos (show (0 : Int) ≤ (i : Int) by omega), if_pos (show (i : Int) < (t.length : Int) by omega), if_pos (show (i : Int) < ((rd_L5 t (i : Int)).length : Int) by omega), rdTT ht i i (by omega) (by omega), wsucc i (by omega), acyF]
    cases tb t i i
    · simp only [Bool.false_eq_true, if_false, Bool.not_false, Bool.true_and]; exact h
    · simp only [if_true, Bool.not_true, Bool.false_and]; exact ev_now _
theorem l4Good_ev (n : Int) (es : List S53) (hes : es.length ≤ 1048576) : Ev (fun k => spec_l4Good.f k n es) (good4 n es) := by
  unfold spec_l4Good.f good4
  refine ev_bind (l4Pairs_ev n es hes) ?_
  cases hk : okE n es
  · simp only [Bool.false_eq_true, if_false, Bool.false_and]; exact ev_now _
  · obtain ⟨m, rfl, hm, hl, hin⟩ := okE_in n es hk
    simp only [if_true, Bool.true_and, Int.toNat_natCast]
    exact ev_bind (l4Table_ev m hm es hes hin) (l4Good_l m hm _ (clos_sq m es hin) m 0 (by omega))
theorem isPrec_l1 (n : Nat) (hn : n ≤ 8) (t : List (List Bool)) (ht : Sq n t) : ∀ (d i : Nat), i + d = n → Ev (fun k => impl_IsPrecedence.l1 k t (n : Int) (i : Int)) (acyF t i d) := by
  intro d
  induction d with
  | zero =>
    intro i hi
    refine ev_succ ?_
    simp only [impl_IsPrecedence.l1, if_neg (show ¬ (i : Int) < (n : Int) by omega), acyF]
    exact ev_now _
  | succ d ih =>
    intro i hi
    refine ev_succ ?_
    have h := ih (i + 1) (by omega)
    have hl := ht.1
    have hr : (rd_L5 t (i : Int)).length = n := by rw [rdBB t i (by omega)]; exact ht.row i (by omega)
    simp only [impl_IsPrecedence.l1, if_pos (show (i : Int) < (n : Int) by omega), if_pos (show (0 : Int) ≤ (i : Int) by omega), if_pos (show (i : Int) < (t.length : Int) by omega), if_pos (show (i : Int) < ((rd_L5 t (i : Int)).length : Int) by omega), rdTT ht i i (by omega) (by omega), wsucc i (by omega), acyF]
    cases tb t i i
    · simp only [Bool.false_eq_true, if_false, Bool.not_false, Bool.true_and]; exact h
    · simp only [if_true, Bool.not_true, Bool.false_and]; exact ev_now _
theorem isPrec_l0 (n : Nat) (hn : n ≤ 8) (es : List S53) (hes : es.length ≤ 28) (hG : pfE (wrap64 ((n : Int) - 1)) es 0 es.length = true → inN n es) :
    ∀ (d i : Nat), i + d = es.length → (pfE (wrap64 ((n : Int) - 1)) es i d = true → pfE (wrap64 ((n : Int) - 1)) es 0 es.length = true) → Ev (fun k => impl_IsPrecedence.l0 k (n : Int) es es (es.length : Int) (i : Int)) (pfE (wrap64 ((n : Int) - 1)) es i d && acyF (closT n es) 0 n) := by
  intro d
  induction d with
  | zero =>
    intro i hi hp
    have hin := hG (hp rfl)
    have hl := (clos_sq n es hin).1
    refine ev_succ ?_
    simp only [impl_IsPrecedence.l0, if_neg (show ¬ (i : Int) < (es.length : Int) by omega), pfE, Bool.true_and]
    refine ev_bind (closure_ev n hn es (by omega) hin) ?_
    rw [hl]
    exact isPrec_l1 n hn _ (clos_sq n es hin) n 0 (by omega)
  | succ d ih =>
    intro i hi hp
    refine ev_succ ?_
    have hm : wrap64 ((n : Int) - 1) = (n : Int) - 1 := w64 (by omega) (by omega)
    have e1 : ∀ x : Int, decide (x ≤ (n : Int) - 1) = decide (x < (n : Int)) := fun x => by rw [decide_eq_decide]; omega
    have h := fun (hq : cE (wrap64 ((n : Int) - 1)) es i = true) => ih (i + 1) (by omega) (fun x => hp (by rw [pfE, hq, x]; rfl))
    simp only [impl_IsPrecedence.l0, if_pos (show (i : Int) < (es.length : Int) by omega), if_pos (show (0 : Int) ≤ (i : Int) by omega), isNumber_eq _ (n : Int) (by omega) (by omega), Option.bind_some, pfE]
    have hcE : cE (wrap64 ((n : Int) - 1)) es i = (decide (0 ≤ (rd_T53 es (i : Int)).f0) && decide ((rd_T53 es (i : Int)).f0 < (n : Int)) && (decide (0 ≤ (rd_T53 es (i : Int)).f1) && decide ((rd_T53 es (i : Int)).f1 < (n : Int))) && !decide ((rd_T53 es (i : Int)).f0 = (rd_T53 es (i : Int)).f1) &&
        (decide (i = 0) || decide ((rd_T53 es ((i - 1 : Nat) : Int)).f0 < (rd_T53 es (i : Int)).f0) || decide ((rd_T53 es ((i - 1 : Nat) : Int)).f0 = (rd_T53 es (i : Int)).f0) && decide ((rd_T53 es ((i - 1 : Nat) : Int)).f1 < (rd_T53 es (i : Int)).f1))) := by
      unfold cE; rw [hm, e1, e1]
    by_cases ha : (decide (0 ≤ (rd_T53 es (i : Int)).f0) && decide ((rd_T53 es (i : Int)).f0 < (n : Int))) = true
    · by_cases hb : (decide (0 ≤ (rd_T53 es (i : Int)).f1) && decide ((rd_T53 es (i : Int)).f1 < (n : Int))) = true
      · simp only [ha, hb, if_true]
        refine ev_succ ?_
        rw [ha, hb] at hcE
        by_cases hc : (rd_T53 es (i : Int)).f0 = (rd_T53 es (i : Int)).f1
        · rw [hcE]
          simp only [impl_IsPrecedence.j2, hc, beq_self_eq_true, if_true, decide_true, Bool.not_true, Bool.and_false, Bool.false_and]; exact ev_now _
        · by_cases h0 : i = 0
          · have hc' : cE (wrap64 ((n : Int) - 1)) es i = true := by rw [hcE]; simp only [decide_eq_false hc, decide_eq_true h0]; rfl
            have h := h hc'
            rw [hc']
            subst h0
            simp only [impl_IsPrecedence.j2, beq_eq_false_iff_ne.mpr hc, Bool.false_eq_true, if_false, gt_iff_lt, if_neg (show ¬ ((0 : Int) < ((0 : Nat) : Int)) by omega), wsucc 0 (by omega), Bool.true_and]
            exact h
          · simp only [impl_IsPrecedence.j2, beq_eq_false_iff_ne.mpr hc, Bool.false_eq_true, if_false, gt_iff_lt, ge_iff_le, if_pos (show (0 : Int) < (i : Int) by omega), wpred i (by omega) (by omega), if_pos (show (0 : Int) ≤ ((i - 1 : Nat) : Int) by omega), if_pos (show ((i - 1 : Nat) : Int) < (es.length : Int) by omega), wsucc i (by omega)]
            by_cases g1 : (rd_T53 es (i : Int)).f0 < (rd_T53 es ((i - 1 : Nat) : Int)).f0
            · have hc' : cE (wrap64 ((n : Int) - 1)) es i = false := by rw [hcE]; simp only [decide_eq_false h0, decide_eq_false (show ¬ (rd_T53 es ((i - 1 : Nat) : Int)).f0 < (rd_T53 es (i : Int)).f0 by omega), decide_eq_false (show ¬ (rd_T53 es ((i - 1 : Nat) : Int)).f0 = (rd_T53 es (i : Int)).f0 by omega), Bool.false_and, Bool.false_or, Bool.or_false, Bool.and_false]
              simp only [if_pos g1, hc', Bool.false_and]; exact ev_now _
            · simp only [if_neg g1]
              by_cases g2 : (rd_T53 es ((i - 1 : Nat) : Int)).f0 = (rd_T53 es (i : Int)).f0
              · simp only [if_pos g2]
                by_cases g3 : (rd_T53 es (i : Int)).f1 ≤ (rd_T53 es ((i - 1 : Nat) : Int)).f1
                · have hc' : cE (wrap64 ((n : Int) - 1)) es i = false := by rw [hcE]; simp only [decide_eq_false h0, decide_eq_false (show ¬ (rd_T53 es ((i - 1 : Nat) : Int)).f0 < (rd_T53 es (i : Int)).f0 by omega), decide_eq_false (show ¬ (rd_T53 es ((i - 1 : Nat) : Int)).f1 < (rd_T53 es (i : Int)).f1 by omega), Bool.and_false, Bool.false_or, Bool.or_false]
                  simp only [if_pos g3, hc', Bool.false_and]; exact ev_now _
                · have hc' : cE (wrap64 ((n : Int) - 1)) es i = true := by rw [hcE]; simp only [decide_eq_false hc, decide_eq_true g2, decide_eq_true (show (rd_T53 es ((i - 1 : Nat) : Int)).f1 < (rd_T53 es (i : Int)).f1 by omega), Bool.and_true, Bool.or_true, Bool.not_false]
                  simp only [if_neg g3, hc', Bool.true_and]; exact h hc'
              · have hc' : cE (wrap64 ((n : Int) - 1)) es i = true := by rw [hcE]; simp only [decide_eq_false hc, decide_eq_true (show (rd_T53 es ((i - 1 : Nat) : Int)).f0 < (rd_T53 es (i : Int)).f0 by omega), Bool.and_true, Bool.or_true, Bool.true_or, Bool.not_false]
                simp only [if_neg g2, hc', Bool.true_and]; exact h hc'
      · have hb' : (decide (0 ≤ (rd_T53 es (i : Int)).f1) && decide ((rd_T53 es (i : Int)).f1 < (n : Int))) = false := by simpa using hb
        have hc' : cE (wrap64 ((n : Int) - 1)) es i = false := by rw [hcE, hb', Bool.and_false, Bool.false_and, Bool.false_and]
        simp only [ha, if_true, if_neg hb, hc', Bool.false_and]
        refine ev_succ ?_
        simp only [impl_IsPrecedence.j2, if_true]; exact ev_now _
    · have ha' : (decide (0 ≤ (rd_T53 es (i : Int)).f0) && decide ((rd_T53 es (i : Int)).f0 < (n : Int))) = false := by simpa using ha
      have hc' : cE (wrap64 ((n : Int) - 1)) es i = false := by rw [hcE, ha', Bool.false_and, Bool.false_and, Bool.false_and]
      simp only [if_neg ha, hc', Bool.false_and]
      refine ev_succ ?_
      simp only [impl_IsPrecedence.j2, if_true]; exact ev_now _
theorem isPrec_ev (n : Int) (es : List S53) : Ev (fun k => impl_IsPrecedence.f k n es) (good4 n es) := by
  unfold impl_IsPrecedence.f
  simp only [within_eq, Option.bind_some]
  by_cases h : 0 ≤ n ∧ n ≤ 8
  · obtain ⟨m, rfl⟩ := Int.eq_ofNat_of_zero_le h.1
    have hb : (decide (0 ≤ (m : Int)) && decide ((m : Int) ≤ 8)) = true := by simp; omega
    simp only [hb, if_true]
    refine ev_succ ?_
    by_cases hl : (es.length : Int) > 28
    · have : good4 (m : Int) es = false := by unfold good4 okE; rw [decide_eq_false (show ¬ (es.length : Int) ≤ 28 by omega)]; simp
      simp only [impl_IsPrecedence.j0, decide_eq_true hl, if_true, this]; exact ev_now _
    · simp only [impl_IsPrecedence.j0, decide_eq_false hl, Bool.false_eq_true, if_false]
      have hk : good4 (m : Int) es = (pfE (wrap64 ((m : Int) - 1)) es 0 es.length && acyF (closT m es) 0 m) := by
        unfold good4 okE; rw [hb, decide_eq_true (show (es.length : Int) ≤ 28 by omega)]; simp
      rw [hk]
      refine isPrec_l0 m (by omega) es (by omega) (fun hp => ?_) es.length 0 (by omega) (fun x => x)
      obtain ⟨m', e, _, _, hin⟩ := okE_in (m : Int) es (by unfold okE; rw [hp, hb, decide_eq_true (show (es.length : Int) ≤ 28 by omega)]; rfl)
      rw [show m = m' by omega]; exact hin
  · have hb : (decide (0 ≤ n) && decide (n ≤ 8)) = false := by
      rw [Bool.eq_false_iff]; intro x; simp only [Bool.and_eq_true, decide_eq_true_eq] at x; exact h x
    have : good4 n es = false := by unfold good4 okE; rw [hb]; simp
    simp only [hb, Bool.false_eq_true, if_false, this]
    refine ev_succ ?_
    simp only [impl_IsPrecedence.j0, if_true]; exact ev_now _

theorem tb_put {n : Nat} {t : List (List Bool)} (h : Sq n t) (i j a b : Nat) (hi : i < n) (hj : j < n) (ha : a < n) (hb : b < n) (v : Bool) : tb (putT t i j v) a b = if a = i ∧ b = j then v else tb t a b := by
  have hl := h.1
  have hri := h.row i hi
  have hg : t.getD i [] = t[i] := by rw [List.getD_eq_getElem?_getD, List.getElem?_eq_getElem (by omega)]; rfl
  unfold tb putT
  rw [hg]
  by_cases c : a = i
  · subst c
    rw [List.getD_eq_getElem?_getD (l := t.set a _), List.getElem?_set_self (by omega), Option.getD_some, hg]
    by_cases cb : b = j
    · subst cb
      rw [if_pos ⟨rfl, rfl⟩, List.getD_eq_getElem?_getD, List.getElem?_set_self (by omega), Option.getD_some]
    · rw [if_neg (fun x => cb x.2), List.getD_eq_getElem?_getD, List.getElem?_set_ne (fun x => cb x.symm), ← List.getD_eq_getElem?_getD]
  · rw [if_neg (fun x => c x.1), List.getD_eq_getElem?_getD (l := t.set i _), List.getElem?_set_ne (fun x => c x.symm), ← List.getD_eq_getElem?_getD]
/-- What a phase has done at the places S. -/
def Phase (n k : Nat) (t t' : List (List Bool)) (S : Nat → Nat → Prop) : Prop := Sq n t' ∧ ∀ a b, a < n → b < n → (tb t' a b = true ↔ tb t a b = true ∨ S a b ∧ tb t a k = true ∧ tb t k b = true)
theorem Phase.step {n k : Nat} {t t' : List (List Bool)} {S : Nat → Nat → Prop} (h : Phase n k t t' S) (hk : k < n) (i j : Nat) (hi : i < n) (hj : j < n) : Phase n k t (stepT t' k i j) (fun a b => S a b ∨ a = i ∧ b = j) := by
  refine ⟨h.1.step k i j hi, fun a b ha hb => ?_⟩
  have h1 : tb t' i k = true ↔ tb t i k = true := by
    rw [h.2 i k hi hk]
    exact ⟨fun x => x.elim id (fun y => y.2.1), Or.inl⟩
  have h2 : tb t' k j = true ↔ tb t k j = true := by
    rw [h.2 k j hk hj]
    exact ⟨fun x => x.elim id (fun y => y.2.2), Or.inl⟩
  unfold stepT
  by_cases c : (tb t' i k && tb t' k j) = true
  · rw [if_pos c, tb_put h.1 i j a b hi hj ha hb]
    rw [Bool.and_eq_true, h1, h2] at c
    by_cases e : a = i ∧ b = j
    · rw [if_pos e]
      obtain ⟨rfl, rfl⟩ := e
      exact ⟨fun _ => Or.inr ⟨Or.inr ⟨rfl, rfl⟩, c.1, c.2⟩, fun _ => rfl⟩
    · rw [if_neg e, h.2 a b ha hb]
      exact ⟨fun x => x.imp id (fun y => ⟨Or.inl y.1, y.2⟩), fun x => x.imp id (fun y => ⟨y.1.resolve_right e, y.2⟩)⟩
  · rw [if_neg c, h.2 a b ha hb]
    rw [Bool.and_eq_true, h1, h2] at c
    refine ⟨fun x => x.imp id (fun y => ⟨Or.inl y.1, y.2⟩), fun x => ?_⟩
    rcases x with x | ⟨s | ⟨rfl, rfl⟩, y⟩
    · exact Or.inl x
    · exact Or.inr ⟨s, y⟩
    · exact absurd y c
theorem Phase.congr {n k : Nat} {t t' : List (List Bool)} {S S' : Nat → Nat → Prop} (h : Phase n k t t' S) (e : ∀ a b, a < n → b < n → (S a b ↔ S' a b)) : Phase n k t t' S' := ⟨h.1, fun a b ha hb => by rw [h.2 a b ha hb, e a b ha hb]⟩
theorem Phase.row {n k : Nat} {t : List (List Bool)} (hk : k < n) (i : Nat) (hi : i < n) : ∀ (js : List Nat) (t' : List (List Bool)) (S : Nat → Nat → Prop), (∀ j ∈ js, j < n) → Phase n k t t' S → Phase n k t (rowF t' k i js) (fun a b => S a b ∨ a = i ∧ b ∈ js) := by
  intro js
  induction js with
  | nil => intro t' S _ h; exact h.congr (fun a b _ _ => by simp)
  | cons j js ih =>
    intro t' S hj h
    have h' := ih (stepT t' k i j) _ (fun x hx => hj x (by simp [hx])) (h.step hk i j hi (hj j (by simp)))
    refine Phase.congr h' (fun a b _ _ => ?_)
    constructor
    · rintro ((s | ⟨rfl, rfl⟩) | ⟨rfl, hb⟩)
      · exact Or.inl s
      · exact Or.inr ⟨rfl, by simp⟩
      · exact Or.inr ⟨rfl, by simp [hb]⟩
    · rintro (s | ⟨rfl, hb⟩)
      · exact Or.inl (Or.inl s)
      · rcases List.mem_cons.mp hb with rfl | hb
        · exact Or.inl (Or.inr ⟨rfl, rfl⟩)
        · exact Or.inr ⟨rfl, hb⟩
theorem Phase.mid {n k : Nat} {t : List (List Bool)} (hk : k < n) : ∀ (is : List Nat) (t' : List (List Bool)) (S : Nat → Nat → Prop), (∀ i ∈ is, i < n) → Phase n k t t' S → Phase n k t (midF n t' k is) (fun a b => S a b ∨ a ∈ is) := by
  intro is
  induction is with
  | nil => intro t' S _ h; exact h.congr (fun a b _ _ => by simp)
  | cons i is ih =>
    intro t' S hi h
    have h' := ih (rowF t' k i (List.range' 0 n)) _ (fun x hx => hi x (by simp [hx])) (Phase.row hk i (hi i (by simp)) (List.range' 0 n) t' S (fun j hj => by rw [List.mem_range'_1] at hj; omega) h)
    refine Phase.congr h' (fun a b _ hb => ?_)
    constructor
    · rintro ((s | ⟨rfl, _⟩) | hm)
      · exact Or.inl s
      · exact Or.inr (by simp)
      · exact Or.inr (by simp [hm])
    · rintro (s | hm)
      · exact Or.inl (Or.inl s)
      · rcases List.mem_cons.mp hm with rfl | hm
        · exact Or.inl (Or.inr ⟨rfl, by rw [List.mem_range'_1]; omega⟩)
        · exact Or.inr hm
theorem acy_irr (n : Nat) (t : List (List Bool)) : ∀ (d i : Nat), acyF t i d = true → ∀ j, i ≤ j → j < i + d → tb t j j = false := by
  intro d
  induction d with
  | zero => intro i _ j h1 h2; omega
  | succ d ih =>
    intro i h j h1 h2
    unfold acyF at h
    rw [Bool.and_eq_true] at h
    by_cases e : j = i
    · subst e; simpa using h.1
    · exact ih (i + 1) h.2 j (by omega) (by omega)
/-- What a good precedence gives. -/
theorem good4_facts (n : Int) (es : List S53) (h : good4 n es = true) : ∃ m : Nat, n = m ∧ m ≤ 8 ∧ es.length ≤ 28 ∧ inN m es ∧ (∀ j, j < m → tb (closT m es) j j = false) := by
  unfold good4 at h
  rw [Bool.and_eq_true] at h
  obtain ⟨m, rfl, h1, h2, h3⟩ := okE_in n es h.1
  refine ⟨m, rfl, h1, h2, h3, fun j hj => ?_⟩
  have := h.2
  rw [Int.toNat_natCast] at this
  exact acy_irr m _ m 0 this j (by omega) (by omega)
theorem shrN (c i : Nat) (h : i ≤ 64) : shr .i64 (c : Int) (i : Int) = ((c / 2 ^ i : Nat) : Int) := by
  unfold shr
  rw [Int.toNat_natCast, Nat.min_eq_left (show i ≤ IntKind.i64.bits from h)]
  rw [Int.natCast_ediv, Int.natCast_pow]
  rfl
theorem and1 : ∀ m : Nat, m < 256 → Go.bits .and .i64 (m : Int) 1 = ((m % 2 : Nat) : Int) := by decide +kernel
theorem shl1 : ∀ i : Nat, i < 9 → shl .i64 1 (i : Int) = ((2 ^ i : Nat) : Int) := by decide +kernel
theorem pow8 (n : Nat) (h : n ≤ 8) : 2 ^ n ≤ 256 := Nat.pow_le_pow_right (by omega) h
theorem shr_and (c i : Nat) (hc : c < 256) (hi : i ≤ 64) : Go.bits .and .i64 (shr .i64 (c : Int) (i : Int)) 1 = ((c / 2 ^ i % 2 : Nat) : Int) := by
  rw [shrN c i hi]
  exact and1 _ (Nat.lt_of_le_of_lt (Nat.div_le_self _ _) hc)
theorem mod1 {x : Nat} (h : x % 2 = 1) : ((x % 2 : Nat) : Int) = 1 := by rw [h]; rfl
theorem mod0 {x : Nat} (h : ¬ x % 2 = 1) : ((x % 2 : Nat) : Int) = 0 := by rw [show x % 2 = 0 by omega]; rfl
theorem mod1' {x : Nat} (h : x % 2 = 1) : ¬ ((x % 2 : Nat) : Int) = 0 := by rw [h]; decide
theorem mod0' {x : Nat} (h : ¬ x % 2 = 1) : ¬ ((x % 2 : Nat) : Int) = 1 := by rw [show x % 2 = 0 by omega]; decide
/-- The numbers of the bits of c, from i on. -/
def blF (c i : Nat) : Nat → List Int
  | 0 => []
  | d + 1 => if c / 2 ^ i % 2 = 1 then (i : Int) :: blF c (i + 1) d else blF c (i + 1) d
theorem blF_hit {c i : Nat} (h : c / 2 ^ i % 2 = 1) (d : Nat) : blF c i (d + 1) = (i : Int) :: blF c (i + 1) d := by rw [blF, if_pos h]
theorem blF_miss {c i : Nat} (h : ¬ c / 2 ^ i % 2 = 1) (d : Nat) : blF c i (d + 1) = blF c (i + 1) d := by rw [blF, if_neg h]
theorem blF_nil (c : Nat) : ∀ d i : Nat, c / 2 ^ i = 0 → blF c i d = [] := by
  intro d
  induction d with
  | zero => intro i _; rfl
  | succ d ih =>
    intro i h
    unfold blF
    rw [if_neg (by omega)]
    refine ih (i + 1) ?_
    rw [Nat.pow_succ, ← Nat.div_div_eq_div_mul, h]
theorem blF_mem (c : Nat) : ∀ d i : Nat, ∀ x ∈ blF c i d, ∃ j : Nat, x = (j : Int) ∧ i ≤ j ∧ j < i + d ∧ c / 2 ^ j % 2 = 1 := by
  intro d
  induction d with
  | zero => intro i x hx; simp [blF] at hx
  | succ d ih =>
    intro i x hx
    unfold blF at hx
    split at hx
    · rcases List.mem_cons.mp hx with rfl | hx
      · exact ⟨i, rfl, by omega, by omega, by assumption⟩
      · obtain ⟨j, a, b, e, f⟩ := ih (i + 1) x hx
        exact ⟨j, a, by omega, by omega, f⟩
    · obtain ⟨j, a, b, e, f⟩ := ih (i + 1) x hx
      exact ⟨j, a, by omega, by omega, f⟩
theorem blF_len (c : Nat) : ∀ d i : Nat, (blF c i d).length ≤ d := by
  intro d
  induction d with
  | zero => intro i; exact Nat.le_refl _
  | succ d ih =>
    intro i
    unfold blF
    have := ih (i + 1)
    split
    · rw [List.length_cons]; omega
    · omega
theorem rdz (xs : List Int) (i : Nat) (h : i < xs.length) : rd xs (i : Int) = xs[i] := by
  unfold rd
  rw [Int.toNat_natCast, List.getD_eq_getElem?_getD, List.getElem?_eq_getElem h]
  rfl
theorem two_facts (xs : List S50) (es : List S53) (h : good4 (xs.length : Int) es = true) : xs.length ≤ 8 ∧ es.length ≤ 28 ∧ inN xs.length es ∧ (∀ j, j < xs.length → tb (closT xs.length es) j j = false) := by
  obtain ⟨n, e, a, b, c, d⟩ := good4_facts _ es h
  have e' : xs.length = n := by omega
  subst e'
  exact ⟨a, b, c, d⟩
theorem l4Two_ev (xs : List S50) (es : List S53) (hn : xs.length ≤ 1048576) (he : es.length ≤ 1048576) : Ev (fun k => spec_l4Two.f k xs es) (goodB xs && good4 (xs.length : Int) es) := by
  unfold spec_l4Two.f
  refine ev_bind (l2Good_ev xs (by omega)) ?_
  cases goodB xs
  · simp only [Bool.false_eq_true, if_false, Bool.false_and]; exact ev_now _
  · simp only [if_true, Bool.true_and]
    exact ev_bind (l4Good_ev _ es he) (ev_now _)
theorem isPreceded_ev (xs : List S50) (es : List S53) (hn : xs.length ≤ 1048576) : Ev (fun k => impl_isPreceded.f k xs es) (goodB xs && good4 (xs.length : Int) es) := by
  unfold impl_isPreceded.f
  refine ev_bind (IsJobs_ev xs (by omega)) ?_
  cases goodB xs
  · simp only [Bool.false_eq_true, if_false, Bool.false_and]; exact ev_now _
  · simp only [if_true, Bool.true_and]
    exact ev_bind (isPrec_ev _ es) (ev_now _)

theorem pc_pos : ∀ c : Nat, c < 256 → 0 < c → 0 < (blF c 0 8).length := by decide +kernel
theorem blF_ext (c e : Nat) : ∀ d i : Nat, c / 2 ^ (i + d) = 0 → blF c i (d + e) = blF c i d := by
  intro d
  induction d with
  | zero => intro i h; rw [Nat.zero_add]; exact blF_nil c e i h
  | succ d ih =>
    intro i h
    rw [show d + 1 + e = (d + e) + 1 by omega, blF, blF, ih (i + 1) (by rw [show i + 1 + d = i + (d + 1) by omega]; exact h)]
theorem bl8 (c n : Nat) (hn : n ≤ 8) (hc : c < 2 ^ n) : blF c 0 8 = blF c 0 n := by
  have := blF_ext c (8 - n) n 0 (by rw [Nat.zero_add]; exact Nat.div_eq_of_lt hc)
  rwa [show n + (8 - n) = 8 by omega] at this

theorem l1Has_ev (ls : List Int) (x : Int) (hn : ls.length ≤ 1048576) : Ev (fun k => spec_l1Has.f k ls x) (decide (x ∈ ls)) := by
  have key : ∀ (d i : Nat), i + d = ls.length → Ev (fun k => spec_l1Has.l0 k ls x (i : Int)) (decide (x ∈ ls.drop i)) := by
    intro d
    induction d with
    | zero =>
      intro i hi
      refine ev_succ ?_
      rw [List.drop_of_length_le (by omega)]
      simp only [spec_l1Has.l0, if_neg (show ¬ (i : Int) < (ls.length : Int) by omega), List.not_mem_nil, decide_false]
      exact ev_now _
    | succ d ih =>
      intro i hi
      refine ev_succ ?_
      have hx : i < ls.length := by omega
      rw [List.drop_eq_getElem_cons hx]
      simp only [spec_l1Has.l0, if_pos (show (i : Int) < (ls.length : Int) by omega), if_pos (show (0 : Int) ≤ (i : Int) by omega), rdz ls i hx, wsucc i (by omega)]
      by_cases c : ls[i] = x
      · simp only [if_pos c, List.mem_cons, show x = ls[i] from c.symm, true_or, decide_true]; exact ev_now _
      · simp only [if_neg c, List.mem_cons, show ¬ x = ls[i] from fun e => c e.symm, false_or]; exact ih (i + 1) (by omega)
  have h := key ls.length 0 (Nat.zero_add _)
  rw [List.drop_zero] at h
  unfold spec_l1Has.f
  exact h

theorem rdW (o : List Int) (n : Nat) (h : n < o.length) : rd o (n : Int) = o[n] := by
  simp [rd]
  rw [List.getElem?_eq_getElem h]; rfl

theorem listOf_l (c n : Nat) (hn : n ≤ 8) (hc : c < 2 ^ n) : ∀ (d i : Nat) (acc : List Int), i + d = n → acc.length ≤ i → Ev (fun k => impl_listOf.l0 k (c : Int) acc (i : Int)) (acc ++ blF c i d) := by
  intro d
  have h8 := pow8 n hn
  induction d with
  | zero =>
    intro i acc hi ha
    refine ev_succ ?_
    have hz : c / 2 ^ i = 0 := Nat.div_eq_of_lt (by rw [show i = n by omega]; exact hc)
    simp only [impl_listOf.l0, if_pos (show (0 : Int) ≤ (i : Int) by omega), shrN c i (by omega), hz, gt_iff_lt, if_neg (show ¬ (0 : Int) < ((0 : Nat) : Int) by omega), blF, List.append_nil]
    exact ev_now _
  | succ d ih =>
    intro i acc hi ha
    refine ev_succ ?_
    by_cases hz : c / 2 ^ i = 0
    · rw [blF_nil c _ i hz, List.append_nil]
      simp only [impl_listOf.l0, if_pos (show (0 : Int) ≤ (i : Int) by omega), shrN c i (by omega), hz, gt_iff_lt, if_neg (show ¬ (0 : Int) < ((0 : Nat) : Int) by omega)]
      exact ev_now _
    · simp only [impl_listOf.l0, if_pos (show (0 : Int) ≤ (i : Int) by omega), shr_and c i (by omega) (by omega), blF, wsucc i (by omega)]
      simp only [shrN c i (by omega), gt_iff_lt, if_pos (Int.natCast_pos.mpr (Nat.pos_of_ne_zero hz))]
      by_cases hb : c / 2 ^ i % 2 = 1
      · have h := ih (i + 1) (acc ++ [(i : Int)]) (by omega) (by rw [List.length_append, List.length_singleton]; omega)
        rw [List.append_assoc] at h
        simp only [if_pos hb, if_pos (mod1 hb), if_pos (show acc.length < 17592186044416 by omega)]
        exact h
      · simp only [if_neg hb, if_neg (mod0' hb)]
        exact ih (i + 1) acc (by omega) (by omega)
theorem listOf_ev (c n : Nat) (hn : n ≤ 8) (hc : c < 2 ^ n) : Ev (fun k => impl_listOf.f k (c : Int)) (blF c 0 n) := by
  unfold impl_listOf.f
  exact listOf_l c n hn hc n 0 [] (by omega) (by simp)

theorem l4Set_l (c n : Nat) (hn : n ≤ 8) (hc : c < 256) : ∀ (d i : Nat) (acc : List Int), i + d = n → acc.length ≤ i → Ev (fun k => spec_l4Set.l0 k (n : Int) (c : Int) acc (i : Int)) (acc ++ blF c i d) := by
  intro d
  induction d with
  | zero =>
    intro i acc hi _
    refine ev_succ ?_
    simp only [spec_l4Set.l0, if_neg (show ¬ (i : Int) < (n : Int) by omega), blF, List.append_nil]
    exact ev_now _
  | succ d ih =>
    intro i acc hi ha
    refine ev_succ ?_
    simp only [spec_l4Set.l0, if_pos (show (i : Int) < (n : Int) by omega), if_pos (show (0 : Int) ≤ (i : Int) by omega), shr_and c i hc (by omega), blF, wsucc i (by omega)]
    by_cases hb : c / 2 ^ i % 2 = 1
    · have h := ih (i + 1) (acc ++ [(i : Int)]) (by omega) (by rw [List.length_append, List.length_singleton]; omega)
      rw [List.append_assoc] at h
      simp only [if_pos hb, if_pos (mod1 hb), if_pos (show acc.length < 17592186044416 by omega)]
      exact h
    · simp only [if_neg hb, if_neg (mod0' hb)]
      exact ih (i + 1) acc (by omega) (by omega)
theorem l4Set_ev (c n : Nat) (hn : n ≤ 8) (hc : c < 256) : Ev (fun k => spec_l4Set.f k (n : Int) (c : Int)) (blF c 0 n) := by
  unfold spec_l4Set.f
  exact l4Set_l c n hn hc n 0 [] (by omega) (by simp)
theorem l4Initial_ev {n : Nat} (hn : n ≤ 8) {t : List (List Bool)} (ht : Sq n t) (A S : List Int) (hA : ∀ a ∈ A, 0 ≤ a ∧ a < (n : Int)) (hS : ∀ s ∈ S, 0 ≤ s ∧ s < (n : Int)) (la : A.length ≤ 8) (ls : S.length ≤ 8) :
    Ev (fun k => spec_l4Initial.f k t A S) (S.all fun s => A.all fun a => !tb t a.toNat s.toNat || decide (a ∈ S)) := by
  have key1 : ∀ (q : Nat) (hq : q < S.length) (r : Bool), Ev (fun k => spec_l4Initial.l0 k t A S ((q + 1 : Nat) : Int)) r → ∀ (d i : Nat), i + d = A.length → Ev (fun k => spec_l4Initial.l1 k t A S (q : Int) (i : Int)) (((A.drop i).all fun a => !tb t a.toNat (S[q]).toNat || decide (a ∈ S)) && r) := by
    intro q hq r hr d
    induction d with
    | zero =>
      intro i hi
      refine ev_succ ?_
      rw [List.drop_eq_nil_of_le (by omega)]
      simp only [spec_l4Initial.l1, if_neg (show ¬ (i : Int) < (A.length : Int) by omega), wsucc q (by omega), List.all_nil, Bool.true_and]
      exact hr
    | succ d ih =>
      intro i hi
      have hil : i < A.length := by omega
      have h := ih (i + 1) (by omega)
      obtain ⟨a, ea⟩ : ∃ a : Nat, A[i] = (a : Int) := ⟨A[i].toNat, by have := hA _ (List.getElem_mem hil); omega⟩
      obtain ⟨s, es⟩ : ∃ s : Nat, S[q] = (s : Int) := ⟨S[q].toNat, by have := hS _ (List.getElem_mem hq); omega⟩
      have ba := hA _ (List.getElem_mem hil)
      have bs := hS _ (List.getElem_mem hq)
      have hl := ht.1
      have hrow : (rd_L5 t (a : Int)).length = n := by rw [rdBB t a (by omega)]; exact ht.row a (by omega)
      have htb : rdOf false (rd_L5 t (a : Int)) (s : Int) = tb t a s := by
        unfold rdOf rd_L5 tb
        rw [Int.toNat_natCast, Int.toNat_natCast]
      refine ev_succ ?_
      rw [List.drop_eq_getElem_cons hil, List.all_cons]
      rw [ea] at ba
      rw [es] at bs
      simp only [spec_l4Initial.l1, if_pos (show (i : Int) < (A.length : Int) by omega), if_pos (show (0 : Int) ≤ (i : Int) by omega), rdW A i hil, rdW S q hq, ea, es, if_pos ba.1, if_pos (show (a : Int) < (t.length : Int) by omega), if_pos (show (0 : Int) ≤ (q : Int) by omega), if_pos (show (q : Int) < (S.length : Int) by omega), if_pos bs.1, hrow, if_pos bs.2, htb, wsucc i (by omega), Int.toNat_natCast]
      rw [es, Int.toNat_natCast] at h
      cases tb t a s
      · simp only [Bool.false_eq_true, if_false, Bool.not_false, Bool.true_or, Bool.true_and]
        exact h
      · simp only [if_true, Bool.not_true, Bool.false_or]
        refine ev_bind (l1Has_ev S (a : Int) (by omega)) ?_
        cases decide ((a : Int) ∈ S)
        · simp only [Bool.false_eq_true, if_false, Bool.false_and]; exact ev_now _
        · simp only [if_true, Bool.true_and]; exact h
  have key0 : ∀ (d q : Nat), q + d = S.length → Ev (fun k => spec_l4Initial.l0 k t A S (q : Int)) ((S.drop q).all fun s => A.all fun a => !tb t a.toNat s.toNat || decide (a ∈ S)) := by
    intro d
    induction d with
    | zero =>
      intro q hq
      refine ev_succ ?_
      rw [List.drop_eq_nil_of_le (by omega)]
      simp only [spec_l4Initial.l0, if_neg (show ¬ (q : Int) < (S.length : Int) by omega), List.all_nil]
      exact ev_now _
    | succ d ih =>
      intro q hq
      have hql : q < S.length := by omega
      refine ev_succ ?_
      rw [List.drop_eq_getElem_cons hql, List.all_cons]
      simp only [spec_l4Initial.l0, if_pos (show (q : Int) < (S.length : Int) by omega)]
      exact key1 q hql _ (ih (q + 1) (by omega)) A.length 0 (by omega)
  unfold spec_l4Initial.f
  exact key0 S.length 0 (by omega)
theorem blF_hasB' (c : Nat) : ∀ (d i j : Nat), i ≤ j → j < i + d → c / 2 ^ j % 2 = 1 → (j : Int) ∈ blF c i d := by
  intro d
  induction d with
  | zero => intro i j h1 h2; omega
  | succ d ih =>
    intro i j h1 h2 hb
    unfold blF
    by_cases e : i = j
    · subst e
      rw [if_pos hb]
      exact List.mem_cons_self
    · have := ih (i + 1) j (by omega) (by omega) hb
      split
      · exact List.mem_cons_of_mem _ this
      · exact this
/-- The subsets of a set, in the order of their codes: told by the codes below it, or by the codes of the places in it. -/
def subsOf (left : Nat) : List (List Int) := ((List.range' 1 left).filter (fun s => s &&& left == s)).map (fun s => blF s 0 8)
def depOf (left : Nat) : List (List Int) := (List.range' 1 (2 ^ (blF left 0 8).length - 1)).map (fun c => (blF c 0 8).map (fun i => (blF left 0 8).getD i.toNat 0))
set_option maxRecDepth 100000 in
theorem subs_dep : ∀ left : Nat, left < 256 → subsOf left = depOf left := by decide +kernel
/-- What is in the first set and not in the second one. -/
def diffN (a b : Nat) : Nat := a &&& (18446744073709551615 - b)
theorem diff_le (a b : Nat) : diffN a b ≤ a := Nat.and_le_left
theorem andN1 (b : Nat) (hb : b < 256) (a : Nat) (ha : a < 256) : Go.bits .andNot .i64 (a : Int) (b : Int) = ((diffN a b : Nat) : Int) := by
  have hle := diff_le a b
  show Go.IntKind.i64.wrap ((BitVec.ofInt 64 (a : Int) &&& ~~~BitVec.ofInt 64 (b : Int)).toNat : Int) = _
  rw [BitVec.toNat_and, BitVec.toNat_not, BitVec.ofInt_natCast, BitVec.ofInt_natCast, BitVec.toNat_ofNat, BitVec.toNat_ofNat, Nat.mod_eq_of_lt (show a < 2 ^ 64 by omega), Nat.mod_eq_of_lt (show b < 2 ^ 64 by omega), show 2 ^ 64 - 1 - b = 18446744073709551615 - b by omega, Go.IntKind.wrap_i64]
  have e : diffN a b = a &&& (18446744073709551615 - b) := rfl
  rw [← e]
  omega
theorem diff_bit (a b : Nat) (hb : b < 256) (j : Nat) (hj : j < 64) : diffN a b / 2 ^ j % 2 = 1 ↔ (a / 2 ^ j % 2 = 1 ∧ ¬ b / 2 ^ j % 2 = 1) := by
  have h1 : (diffN a b).testBit j = (a.testBit j && !b.testBit j) := by
    unfold diffN
    rw [Nat.testBit_and, show 18446744073709551615 - b = 2 ^ 64 - (b + 1) by omega, Nat.testBit_two_pow_sub_succ (by omega), decide_eq_true hj, Bool.true_and]
  rw [Nat.testBit_eq_decide_div_mod_eq, Nat.testBit_eq_decide_div_mod_eq, Nat.testBit_eq_decide_div_mod_eq] at h1
  have h2 := congrArg (fun x => x = true) h1
  simp only [decide_eq_true_eq, Bool.and_eq_true, Bool.not_eq_true', decide_eq_false_iff_not] at h2
  exact iff_of_eq h2
theorem and_bit (a b j : Nat) : (a &&& b) / 2 ^ j % 2 = 1 ↔ (a / 2 ^ j % 2 = 1 ∧ b / 2 ^ j % 2 = 1) := by
  have h1 := Nat.testBit_and a b j
  rw [Nat.testBit_eq_decide_div_mod_eq, Nat.testBit_eq_decide_div_mod_eq, Nat.testBit_eq_decide_div_mod_eq] at h1
  have h2 := congrArg (fun x => x = true) h1
  simp only [decide_eq_true_eq, Bool.and_eq_true] at h2
  exact iff_of_eq h2
theorem bit_ext {a b : Nat} (ha : a < 256) (hb : b < 256) (h : ∀ j : Nat, j < 8 → (a / 2 ^ j % 2 = 1 ↔ b / 2 ^ j % 2 = 1)) : a = b := by
  apply Nat.eq_of_testBit_eq
  intro j
  rw [Nat.testBit_eq_decide_div_mod_eq, Nat.testBit_eq_decide_div_mod_eq]
  refine decide_eq_decide.2 ?_
  rcases Nat.lt_or_ge j 8 with hj | hj
  · exact h j hj
  · have h1 : 2 ^ 8 ≤ 2 ^ j := Nat.pow_le_pow_right (by omega) hj
    rw [Nat.div_eq_of_lt (show a < 2 ^ j by omega), Nat.div_eq_of_lt (show b < 2 ^ j by omega)]
theorem diff_zero (s a : Nat) (hs : s < 256) (ha : a < 256) : diffN s a = 0 ↔ s &&& a = s := by
  have hl := diff_le s a
  have hl2 : s &&& a ≤ s := Nat.and_le_left
  constructor
  · intro h
    refine bit_ext (by omega) hs (fun j hj => ?_)
    rw [and_bit]
    have hd := diff_bit s a ha j (by omega)
    rw [h, Nat.zero_div] at hd
    constructor
    · exact fun h => h.1
    · intro h1
      refine ⟨h1, Classical.byContradiction (fun h2 => ?_)⟩
      have := hd.2 ⟨h1, h2⟩
      omega
  · intro h
    refine bit_ext (by omega) (by omega) (fun j hj => ?_)
    rw [diff_bit s a ha j (by omega), Nat.zero_div]
    constructor
    · rintro ⟨h1, h2⟩
      rw [← h, and_bit] at h1
      exact absurd h1.2 h2
    · intro h1
      omega

theorem bit_lessB : ∀ c : Nat, c < 256 → ∀ r : Nat, r < 8 → ∀ j : Nat, j < 8 → ((!decide (c / 2 ^ r % 2 = 1)) || (decide ((c - 2 ^ r) / 2 ^ j % 2 = 1) == (decide (c / 2 ^ j % 2 = 1) && decide (j ≠ r)))) = true := by decide +kernel
theorem bit_lessN (c : Nat) (hc : c < 256) (r : Nat) (hr : r < 8) (j : Nat) (hj : j < 8) (h : c / 2 ^ r % 2 = 1) : ((c - 2 ^ r) / 2 ^ j % 2 = 1 ↔ (c / 2 ^ j % 2 = 1 ∧ j ≠ r)) := by
  have := bit_lessB c hc r hr j hj
  rw [decide_eq_true h] at this
  simp only [Bool.not_true, Bool.false_or, beq_iff_eq] at this
  rw [← Bool.decide_and] at this
  exact decide_eq_decide.1 this
/-- A bit less: its number is left out. -/
theorem bl_less (c : Nat) (hc : c < 256) (r : Nat) (hr : r < 8) (h : c / 2 ^ r % 2 = 1) : ∀ (d i : Nat), i + d ≤ 8 → blF (c - 2 ^ r) i d = (blF c i d).filter (fun x => x != (r : Int)) := by
  intro d
  induction d with
  | zero => intro i _; rfl
  | succ d ih =>
    intro i hi
    have hb := bit_lessN c hc r hr i (by omega) h
    have hh := ih (i + 1) (by omega)
    unfold blF
    by_cases c1 : c / 2 ^ i % 2 = 1
    · by_cases c2 : i = r
      · subst c2
        rw [if_neg (fun h1 => (hb.1 h1).2 rfl), if_pos c1, List.filter_cons_of_neg (by simp)]
        exact hh
      · rw [if_pos (hb.2 ⟨c1, c2⟩), if_pos c1, List.filter_cons_of_pos (by simp; omega), hh]
    · rw [if_neg (fun h1 => c1 (hb.1 h1).1), if_neg c1]
      exact hh
theorem bl_nodup (c : Nat) : ∀ (d i : Nat), (blF c i d).Nodup := by
  intro d
  induction d with
  | zero => intro i; exact List.Pairwise.nil
  | succ d ih =>
    intro i
    unfold blF
    split
    · refine List.nodup_cons.mpr ⟨fun h => ?_, ih (i + 1)⟩
      obtain ⟨j, e, h1, _, _⟩ := blF_mem c d (i + 1) _ h
      omega
    · exact ih (i + 1)
theorem bl_erase (c n : Nat) (hn : n ≤ 8) (hc : c < 256) (r : Nat) (hr : r < 8) (h : c / 2 ^ r % 2 = 1) : blF (c - 2 ^ r) 0 n = (blF c 0 n).erase (r : Int) := by
  rw [(bl_nodup c n 0).erase_eq_filter, bl_less c hc r hr h n 0 (by omega)]

theorem orB : ∀ c : Nat, c < 256 → ∀ r : Nat, r < 8 → (decide (c / 2 ^ r % 2 = 1) || (decide (Go.bits .or .i64 (c : Int) ((2 ^ r : Nat) : Int) = ((c + 2 ^ r : Nat) : Int)) && (decide ((c + 2 ^ r) / 2 ^ r % 2 = 1) && decide (c + 2 ^ r < 256)))) = true := by decide +kernel
theorem or_lt0 : ∀ n : Nat, n < 9 → ∀ c : Nat, c < 2 ^ n → ∀ r : Nat, r < n → (decide (c / 2 ^ r % 2 = 1) || decide (c + 2 ^ r < 2 ^ n)) = true := by decide +kernel
theorem setOf_ev (n : Nat) (hn : n ≤ 8) (A : List Int) (hA : A.length ≤ 8) (hd : A.Nodup) (hin : ∀ x ∈ A, 0 ≤ x ∧ x < (n : Int)) : ∃ c : Nat, c < 2 ^ n ∧ Ev (fun k => impl_setOf.f k A) (c : Int) ∧ (blF c 0 n).Perm A := by
  have h8 := pow8 n hn
  have key : ∀ (d i c : Nat), i + d = A.length → c < 2 ^ n → (blF c 0 n).Perm (A.take i) → ∃ c' : Nat, c' < 2 ^ n ∧ Ev (fun k => impl_setOf.l0 k (c : Int) A (A.length : Int) (i : Int)) (c' : Int) ∧ (blF c' 0 n).Perm A := by
    intro d
    induction d with
    | zero =>
      intro i c hi hc hp
      refine ⟨c, hc, ev_succ ?_, by rw [List.take_of_length_le (by omega)] at hp; exact hp⟩
      simp only [impl_setOf.l0, if_neg (show ¬ (i : Int) < (A.length : Int) by omega)]
      exact ev_now _
    | succ d ih =>
      intro i c hi hc hp
      have hil : i < A.length := by omega
      obtain ⟨r, hr⟩ : ∃ r : Nat, A[i] = (r : Int) := ⟨A[i].toNat, by have := hin _ (List.getElem_mem hil); omega⟩
      have hrn := hin _ (List.getElem_mem hil)
      rw [hr] at hrn
      have hnb : ¬ c / 2 ^ r % 2 = 1 := by
        intro hb
        have h1 := hp.mem_iff.1 (blF_hasB' c n 0 r (by omega) (by omega) hb)
        rw [← hr] at h1
        obtain ⟨j, hj, e⟩ := List.mem_iff_getElem.1 h1
        rw [List.length_take] at hj
        rw [List.getElem_take] at e
        have := (List.getElem_inj hd).1 e
        omega
      have ho := orB c (by omega) r (by omega)
      have hl := or_lt0 n (by omega) c hc r (by omega)
      rw [decide_eq_false hnb, Bool.false_or] at ho hl
      simp only [Bool.and_eq_true, decide_eq_true_eq] at ho hl
      obtain ⟨o1, o2, o3⟩ := ho
      have hnext : (blF (c + 2 ^ r) 0 n).Perm (A.take (i + 1)) := by
        have hm := blF_hasB' (c + 2 ^ r) n 0 r (by omega) (by omega) o2
        have he := bl_erase (c + 2 ^ r) n hn o3 r (by omega) o2
        rw [Nat.add_sub_cancel] at he
        refine (List.perm_cons_erase hm).trans ?_
        rw [← he, List.take_succ_eq_append_getElem hil, hr]
        exact (List.Perm.cons _ hp).trans (List.perm_append_singleton _ _).symm
      obtain ⟨c', h1, h2, h3⟩ := ih (i + 1) (c + 2 ^ r) (by omega) hl hnext
      refine ⟨c', h1, ev_succ ?_, h3⟩
      simp only [impl_setOf.l0, if_pos (show (i : Int) < (A.length : Int) by omega), if_pos (show (0 : Int) ≤ (i : Int) by omega), rdW A i hil, hr, if_pos hrn.1, shl1 r (by omega), o1, wsucc i (by omega)]
      exact h2
  unfold impl_setOf.f
  have h00 : blF 0 0 n = [] := blF_nil 0 _ 0 (by simp)
  exact key A.length 0 0 (by omega) (Nat.two_pow_pos n) (by rw [h00]; exact List.Perm.refl _)

/-- The sums of weights and of times of some jobs. -/
def sumsF (l : List S50) (a b : Int) (M : List Int) : Int × Int := M.foldl (fun s x => (wrap64 (s.1 + (rd_T50 l x).f1), wrap64 (s.2 + (rd_T50 l x).f0))) (a, b)
theorem ratioF_ev (l : List S50) (M : List Int) (hM : ∀ b ∈ M, 0 ≤ b ∧ b < (l.length : Int)) (hn : M.length ≤ 1000) : Ev (fun k => impl_ratioOf.f k l M) (sumsF l 0 0 M) := by
  have key : ∀ (d i : Nat) (a b : Int), i + d = M.length → Ev (fun k => impl_ratioOf.l0 k l M (M.length : Int) (i : Int) a b) (sumsF l a b (M.drop i)) := by
    intro d
    induction d with
    | zero =>
      intro i a b hi
      refine ev_succ ?_
      simp only [impl_ratioOf.l0, if_neg (show ¬ ((i : Int) < (M.length : Int)) by omega)]
      rw [List.drop_eq_nil_of_le (by omega)]
      exact ev_now _
    | succ d ih =>
      intro i a b hi
      have hil : i < M.length := by omega
      have hm := hM _ (List.getElem_mem hil)
      rw [List.drop_eq_getElem_cons hil]
      refine ev_succ ?_
      simp only [impl_ratioOf.l0, if_pos (show ((i : Int) < (M.length : Int)) by omega), if_pos (show (0 : Int) ≤ (i : Int) by omega), rdW M i hil, if_pos hm.1, if_pos hm.2, wsucc i (by omega)]
      exact ih (i + 1) _ _ (by omega)
  exact key M.length 0 0 0 (by omega)
theorem sumsF_ev (l : List S50) (M : List Int) (hM : ∀ b ∈ M, 0 ≤ b ∧ b < (l.length : Int)) (hn : M.length ≤ 1000) : Ev (fun k => spec_l4Sums.f k l M) (sumsF l 0 0 M) := by
  have key : ∀ (d i : Nat) (a b : Int), i + d = M.length → Ev (fun k => spec_l4Sums.l0 k l M (i : Int) a b) (sumsF l a b (M.drop i)) := by
    intro d
    induction d with
    | zero =>
      intro i a b hi
      refine ev_succ ?_
      simp only [spec_l4Sums.l0, if_neg (show ¬ ((i : Int) < (M.length : Int)) by omega)]
      rw [List.drop_eq_nil_of_le (by omega)]
      exact ev_now _
    | succ d ih =>
      intro i a b hi
      have hil : i < M.length := by omega
      have hm := hM _ (List.getElem_mem hil)
      rw [List.drop_eq_getElem_cons hil]
      refine ev_succ ?_
      simp only [spec_l4Sums.l0, if_pos (show ((i : Int) < (M.length : Int)) by omega), if_pos (show (0 : Int) ≤ (i : Int) by omega), rdW M i hil, if_pos hm.1, if_pos hm.2, wsucc i (by omega)]
      exact ih (i + 1) _ _ (by omega)
  exact key M.length 0 0 0 (by omega)
def ratF (a b : Int × Int) : Int := wrap64 ((wrap64 (a.1 * b.2)) - (wrap64 (b.1 * a.2)))
/-- Is the set initial among what is left. -/
def iniS (t : List (List Bool)) (A S : List Int) : Bool := S.all fun s => A.all fun a => !tb t a.toNat s.toNat || decide (a ∈ S)
/-- One set more: the better one stays. -/
def stepS (l : List S50) (t : List (List Bool)) (A B S : List Int) : List Int :=
  if iniS t A S = true then (if (B.length : Int) = 0 then S else if ratF (sumsF l 0 0 S) (sumsF l 0 0 B) > 0 then S else if ratF (sumsF l 0 0 S) (sumsF l 0 0 B) = 0 then (if (S.length : Int) > (B.length : Int) then S else B) else B) else B
theorem stepS_eq (l : List S50) (t : List (List Bool)) (A B S : List Int) : stepS l t A B S =
  if iniS t A S = true then (if (B.length : Int) = 0 then S else if ratF (sumsF l 0 0 S) (sumsF l 0 0 B) > 0 then S else if ratF (sumsF l 0 0 S) (sumsF l 0 0 B) = 0 then (if (S.length : Int) > (B.length : Int) then S else B) else B) else B := rfl
theorem bl_bit (c n j : Nat) (hj : j < n) : decide ((j : Int) ∈ blF c 0 n) = decide (c / 2 ^ j % 2 = 1) := by
  refine decide_eq_decide.2 ⟨fun h => ?_, fun h => blF_hasB' c n 0 j (by omega) (by omega) h⟩
  obtain ⟨q, e, _, _, hq⟩ := blF_mem c n 0 _ h
  rw [show j = q by omega]
  exact hq
theorem bl_in8 (c n : Nat) : ∀ x ∈ blF c 0 n, 0 ≤ x ∧ x < (n : Int) := by
  intro x hx
  obtain ⟨j, rfl, _, h, _⟩ := blF_mem c _ _ x hx
  omega
theorem diff_bl (a s n : Nat) (hn : n ≤ 8) (hs : s < 256) : ∀ (d i : Nat), i + d ≤ n → blF (diffN a s) i d = (blF a i d).filter (fun x => !decide (x ∈ blF s 0 n)) := by
  intro d
  induction d with
  | zero => intro i _; rfl
  | succ d ih =>
    intro i hi
    have h := ih (i + 1) (by omega)
    have hb := diff_bit a s hs i (by omega)
    have hm := bl_bit s n i (by omega)
    by_cases h1 : a / 2 ^ i % 2 = 1
    · rw [blF_hit h1]
      by_cases h2 : s / 2 ^ i % 2 = 1
      · rw [blF_miss (fun h3 => (hb.1 h3).2 h2), List.filter_cons_of_neg (by rw [hm, decide_eq_true h2]; decide), h]
      · rw [blF_hit (hb.2 ⟨h1, h2⟩), List.filter_cons_of_pos (by rw [hm, decide_eq_false h2]; decide), h]
    · rw [blF_miss h1, blF_miss (fun h3 => h1 (hb.1 h3).1), h]
theorem isInitialG_ev {n : Nat} (hn : n ≤ 8) {t : List (List Bool)} (ht : Sq n t) (c a : Nat) (hc : c < 256) (ha : a < 256) : Ev (fun k => impl_isInitial.f k t (c : Int) (a : Int)) (iniS t (blF a 0 n) (blF c 0 n)) := by
  have hl := ht.1
  have key1 : ∀ (i : Nat) (r : Bool), i < n → Ev (fun k => impl_isInitial.l0 k t (c : Int) (a : Int) (n : Int) ((i + 1 : Nat) : Int)) r → ∀ (d j : Nat), j + d = n → Ev (fun k => impl_isInitial.l1 k t (c : Int) (a : Int) (i : Int) (n : Int) (i : Int) (n : Int) (j : Int)) ((!decide (c / 2 ^ i % 2 = 1) || (blF a j d).all fun x => !tb t x.toNat i || decide (x ∈ blF c 0 n)) && r) := by
    intro i r hi hr d
    induction d with
    | zero =>
      intro j hj
      refine ev_succ ?_
      simp only [impl_isInitial.l1, if_neg (show ¬ (j : Int) < (n : Int) by omega), wsucc i (by omega), blF, List.all_nil, Bool.or_true, Bool.true_and]
      exact hr
    | succ d ih =>
      intro j hj
      have h := ih (j + 1) (by omega)
      refine ev_succ ?_
      have hrow : (rd_L5 t (j : Int)).length = n := by rw [rdBB t j (by omega)]; exact ht.row j (by omega)
      simp only [impl_isInitial.l1, if_pos (show (j : Int) < (n : Int) by omega), if_pos (show (0 : Int) ≤ (i : Int) by omega), shr_and c i (by omega) (by omega), if_pos (show (0 : Int) ≤ (j : Int) by omega), shr_and a j (by omega) (by omega), if_pos (show (j : Int) < (t.length : Int) by omega), if_pos (show (i : Int) < ((rd_L5 t (j : Int)).length : Int) by omega), rdTT ht j i (by omega) hi, shr_and c j (by omega) (by omega), wsucc j (by omega)]
      by_cases hb : c / 2 ^ i % 2 = 1
      · rw [decide_eq_true hb] at h ⊢
        simp only [if_pos (mod1 hb), Bool.not_true, Bool.false_or] at h ⊢
        by_cases hq : a / 2 ^ j % 2 = 1
        · rw [blF_hit hq, List.all_cons, Int.toNat_natCast, bl_bit c n j (by omega)]
          simp only [if_pos (mod1 hq)]
          cases tb t j i
          · simp only [Bool.false_eq_true, if_false, Bool.not_false, Bool.true_or, Bool.true_and]; exact h
          · by_cases hj1 : c / 2 ^ j % 2 = 1
            · simp only [if_true, if_neg (mod1' hj1), decide_eq_true hj1, Bool.not_true, Bool.false_or, Bool.true_and]; exact h
            · simp only [if_true, if_pos (mod0 hj1), decide_eq_false hj1, Bool.not_true, Bool.false_or, Bool.false_and]; exact ev_now _
        · rw [blF_miss hq]
          simp only [if_neg (mod0' hq)]
          exact h
      · rw [decide_eq_false hb] at h ⊢
        simp only [if_neg (mod0' hb), Bool.not_false, Bool.true_or, Bool.true_and] at h ⊢
        exact h
  have key0 : ∀ (d i : Nat), i + d = n → Ev (fun k => impl_isInitial.l0 k t (c : Int) (a : Int) (n : Int) (i : Int)) ((blF c i d).all fun s => (blF a 0 n).all fun x => !tb t x.toNat s.toNat || decide (x ∈ blF c 0 n)) := by
    intro d
    induction d with
    | zero =>
      intro i hi
      refine ev_succ ?_
      simp only [impl_isInitial.l0, if_neg (show ¬ (i : Int) < (n : Int) by omega), blF, List.all_nil]
      exact ev_now _
    | succ d ih =>
      intro i hi
      have h := key1 i _ (by omega) (ih (i + 1) (by omega)) n 0 (Nat.zero_add _)
      refine ev_succ ?_
      simp only [impl_isInitial.l0, if_pos (show (i : Int) < (n : Int) by omega), hl]
      by_cases hb : c / 2 ^ i % 2 = 1
      · rw [blF_hit hb, List.all_cons, Int.toNat_natCast]
        rw [decide_eq_true hb, Bool.not_true, Bool.false_or] at h
        exact h
      · rw [blF_miss hb]
        rw [decide_eq_false hb, Bool.not_false, Bool.true_or, Bool.true_and] at h
        exact h
  unfold impl_isInitial.f iniS
  rw [hl]
  exact key0 n 0 (Nat.zero_add _)
/-- The reference's block of what is left. -/
def depA (A : List Int) (c : Nat) : List Int := (blF c 0 8).map (fun i => A.getD i.toNat 0)
theorem pick_l1 (l : List S50) (t : List (List Bool)) (A B : List Int) (hA : A.length ≤ 8) (c : Nat) (r : List Int) : ∀ (d p : Nat) (acc : List Int), p + d = (blF c 0 A.length).length → acc.length ≤ p →
    Ev (fun k => spec_l4Block.l1 k l t A B (c : Int) (blF c 0 A.length) (acc ++ ((blF c 0 A.length).drop p).map (fun i => A.getD i.toNat 0)) ((blF c 0 A.length).length : Int)) r →
    Ev (fun k => spec_l4Block.l1 k l t A B (c : Int) (blF c 0 A.length) acc (p : Int)) r := by
  intro d
  have hbl := blF_len c A.length 0
  induction d with
  | zero =>
    intro p acc hp ha h
    rw [List.drop_of_length_le (by omega), List.map_nil, List.append_nil] at h
    rw [show p = (blF c 0 A.length).length by omega]
    exact h
  | succ d ih =>
    intro p acc hp ha h
    have hx : p < (blF c 0 A.length).length := by omega
    have hin := bl_in8 c A.length _ (List.getElem_mem hx)
    rw [List.drop_eq_getElem_cons hx, List.map_cons] at h
    refine ev_succ ?_
    simp only [spec_l4Block.l1, if_pos (show (p : Int) < ((blF c 0 A.length).length : Int) by omega), if_pos (show (0 : Int) ≤ (p : Int) by omega), rdW _ p hx, if_pos hin.1, if_pos hin.2, if_pos (show acc.length < 17592186044416 by omega), wsucc p (by omega)]
    refine ih (p + 1) (acc ++ [rd A (blF c 0 A.length)[p]]) (by omega) (by rw [List.length_append, List.length_singleton]; omega) ?_
    rw [List.append_assoc]
    exact h
theorem depA_len (A : List Int) (c : Nat) : (depA A c).length ≤ 8 := by
  unfold depA
  rw [List.length_map]
  exact blF_len c 8 0
theorem stepS_inv {P : List Int → Prop} (l : List S50) (t : List (List Bool)) (A B S : List Int) (hB : P B) (hS : P S) : P (stepS l t A B S) := by
  unfold stepS
  repeat' split
  all_goals assumption
theorem l4Block_ev (l : List S50) (hn : l.length ≤ 8) (t : List (List Bool)) (ht : Sq l.length t) (A : List Int) (hA : A.length ≤ 8) (hAm : ∀ x ∈ A, 0 ≤ x ∧ x < (l.length : Int)) :
    Ev (fun k => spec_l4Block.f k l t A) (((List.range' 1 (2 ^ A.length - 1)).map (depA A)).foldl (stepS l t A) []) := by
  have h8 := pow8 _ hA
  have hpos := Nat.two_pow_pos A.length
  have key : ∀ (d c : Nat) (B : List Int), c + d = 2 ^ A.length → 0 < c → (B.length ≤ 8 ∧ ∀ x ∈ B, 0 ≤ x ∧ x < (l.length : Int)) → Ev (fun k => spec_l4Block.l0 k l t A B (c : Int)) (((List.range' c d).map (depA A)).foldl (stepS l t A) B) := by
    intro d
    induction d with
    | zero =>
      intro c B hc h0 hB
      refine ev_succ ?_
      simp only [spec_l4Block.l0, shl1 _ (show A.length < 9 by omega), if_neg (show ¬ (c : Int) < ((2 ^ A.length : Nat) : Int) by omega)]
      exact ev_now _
    | succ d ih =>
      intro c B hc h0 hB
      have hcl : c < 2 ^ A.length := by omega
      rw [List.range'_succ, List.map_cons, List.foldl_cons]
      have hSm : ∀ x ∈ depA A c, 0 ≤ x ∧ x < (l.length : Int) := by
        intro x hx
        unfold depA at hx
        obtain ⟨i, hi, rfl⟩ := List.mem_map.mp hx
        rw [bl8 c A.length hA hcl] at hi
        have := bl_in8 c A.length i hi
        have hil : i.toNat < A.length := by omega
        rw [List.getD_eq_getElem?_getD, List.getElem?_eq_getElem hil]
        exact hAm _ (List.getElem_mem hil)
      have h := ih (c + 1) (stepS l t A B (depA A c)) (by omega) (by omega) (stepS_inv (P := fun B => B.length ≤ 8 ∧ ∀ x ∈ B, 0 ≤ x ∧ x < (l.length : Int)) l t A B _ hB ⟨depA_len A c, hSm⟩)
      generalize ((List.range' (c + 1) d).map (depA A)).foldl (stepS l t A) (stepS l t A B (depA A c)) = rr at h ⊢
      refine ev_succ ?_
      simp only [spec_l4Block.l0, shl1 _ (show A.length < 9 by omega), if_pos (show (c : Int) < ((2 ^ A.length : Nat) : Int) by omega)]
      refine ev_bind (l4Set_ev c A.length hA (by omega)) ?_
      refine pick_l1 l t A B hA c _ (blF c 0 A.length).length 0 [] (by omega) (by simp) ?_
      have eS : [] ++ ((blF c 0 A.length).drop 0).map (fun i => A.getD i.toNat 0) = depA A c := by
        unfold depA
        rw [List.drop_zero, List.nil_append, bl8 c A.length hA hcl]
      rw [eS]
      have hSl := depA_len A c
      refine ev_succ ?_
      simp only [spec_l4Block.l1, if_neg (show ¬ ((blF c 0 A.length).length : Int) < ((blF c 0 A.length).length : Int) by omega), wsucc c (by omega)]
      refine ev_bind (l4Initial_ev hn ht A (depA A c) hAm hSm hA hSl) ?_
      have hi : ((depA A c).all fun s => A.all fun a => !tb t a.toNat s.toNat || decide (a ∈ depA A c)) = iniS t A (depA A c) := rfl
      rw [hi]
      rw [stepS_eq] at h
      cases c1 : iniS t A (depA A c)
      · rw [c1, if_neg (by decide)] at h
        simp only [Bool.false_eq_true, if_false]
        exact h
      · rw [c1, if_pos rfl] at h
        simp only [if_true]
        by_cases c2 : (B.length : Int) = 0
        · rw [if_pos c2] at h
          simp only [if_pos c2]
          exact h
        · rw [if_neg c2] at h
          simp only [if_neg c2]
          refine ev_bind (sumsF_ev l _ hSm (by omega)) ?_
          refine ev_bind (sumsF_ev l B hB.2 (by have := hB.1; omega)) ?_
          have hr : spec_l4Ratio.f (sumsF l 0 0 (depA A c)).1 (sumsF l 0 0 (depA A c)).2 (sumsF l 0 0 B).1 (sumsF l 0 0 B).2 = some (ratF (sumsF l 0 0 (depA A c)) (sumsF l 0 0 B)) := rfl
          simp only [hr, Option.bind_some]
          by_cases c3 : ratF (sumsF l 0 0 (depA A c)) (sumsF l 0 0 B) > 0
          · rw [if_pos c3] at h
            simp only [if_pos c3]
            exact h
          · rw [if_neg c3] at h
            simp only [if_neg c3]
            by_cases c4 : ratF (sumsF l 0 0 (depA A c)) (sumsF l 0 0 B) = 0
            · rw [if_pos c4] at h
              simp only [if_pos c4]
              by_cases c5 : ((depA A c).length : Int) > (B.length : Int)
              · rw [if_pos c5] at h
                simp only [if_pos c5]
                exact h
              · rw [if_neg c5] at h
                simp only [if_neg c5]
                exact h
            · rw [if_neg c4] at h
              simp only [if_neg c4]
              exact h
  unfold spec_l4Block.f
  exact key (2 ^ A.length - 1) 1 [] (by omega) (by omega) ⟨by simp, fun x hx => by cases hx⟩
/-- The program's block of what is left: as the codes go up. -/
def stepC (l : List S50) (t : List (List Bool)) (a : Nat) (B : List Int) (s : Nat) : List Int := if (s &&& a == s) = true then stepS l t (blF a 0 l.length) B (blF s 0 l.length) else B
theorem sid_l1 (l : List S50) (hn : l.length ≤ 8) (t : List (List Bool)) (ht : Sq l.length t) (a : Nat) (ha : a < 2 ^ l.length) (X : List (List Int)) (r : List (List Int)) : ∀ (d s : Nat) (B : List Int), s + d = a + 1 → 0 < s → (B.length ≤ 8 ∧ ∀ x ∈ B, 0 ≤ x ∧ x < (l.length : Int)) →
    Ev (fun k => impl_sidneyBlocks.l1 k l t X (a : Int) ((List.range' s d).foldl (stepC l t a) B) ((a + 1 : Nat) : Int)) r →
    Ev (fun k => impl_sidneyBlocks.l1 k l t X (a : Int) B (s : Int)) r := by
  intro d
  have h8 := pow8 _ hn
  induction d with
  | zero =>
    intro s B hs h0 hB h
    rw [show s = a + 1 by omega]
    exact h
  | succ d ih =>
    intro s B hs h0 hB h
    rw [List.range'_succ, List.foldl_cons] at h
    have hbl := blF_len s l.length 0
    have hinv : (stepC l t a B s).length ≤ 8 ∧ ∀ x ∈ stepC l t a B s, 0 ≤ x ∧ x < (l.length : Int) := by
      unfold stepC
      split
      · exact stepS_inv (P := fun B => B.length ≤ 8 ∧ ∀ x ∈ B, 0 ≤ x ∧ x < (l.length : Int)) l t _ B _ hB ⟨by omega, bl_in8 s l.length⟩
      · exact hB
    have h' := ih (s + 1) (stepC l t a B s) (by omega) (by omega) hinv h
    have han := andN1 a (by omega) s (by omega)
    have hdz := diff_zero s a (by omega) (by omega)
    refine ev_succ ?_
    simp only [impl_sidneyBlocks.l1, if_pos (show (s : Int) ≤ (a : Int) by omega), han]
    unfold stepC at h'
    by_cases c0 : s &&& a = s
    · rw [show (s &&& a == s) = true from by rw [beq_iff_eq]; exact c0, if_pos rfl] at h'
      have hz := hdz.2 c0
      simp only [if_pos (show ((diffN s a : Nat) : Int) = 0 by omega)]
      refine ev_bind (isInitialG_ev hn ht s a (by omega) (by omega)) ?_
      refine ev_succ ?_
      simp only [impl_sidneyBlocks.j2, wsucc s (by omega)]
      unfold stepS at h'
      cases c1 : iniS t (blF a 0 l.length) (blF s 0 l.length)
      · rw [c1, if_neg (by decide)] at h'
        simp only [Bool.not_false, if_true]
        exact h'
      · rw [c1, if_pos rfl] at h'
        simp only [Bool.not_true, Bool.false_eq_true, if_false]
        refine ev_bind (listOf_ev s l.length hn (by omega)) ?_
        have hp := pc_pos s (by omega) h0
        rw [bl8 s l.length hn (by omega)] at hp
        by_cases c2 : (B.length : Int) = 0
        · rw [if_pos c2] at h'
          simp only [if_pos c2, if_pos (show (0 : Int) < ((blF s 0 l.length).length : Int) by omega)]
          exact h'
        · rw [if_neg c2] at h'
          simp only [if_neg c2]
          refine ev_bind (ratioF_ev l _ (bl_in8 s l.length) (by omega)) ?_
          refine ev_bind (ratioF_ev l B hB.2 (by have := hB.1; omega)) ?_
          have hr : impl_compareRatios.f (sumsF l 0 0 (blF s 0 l.length)).1 (sumsF l 0 0 (blF s 0 l.length)).2 (sumsF l 0 0 B).1 (sumsF l 0 0 B).2 = some (ratF (sumsF l 0 0 (blF s 0 l.length)) (sumsF l 0 0 B)) := rfl
          simp only [hr, Option.bind_some, if_pos (show (0 : Int) < ((blF s 0 l.length).length : Int) by omega)]
          by_cases c3 : ratF (sumsF l 0 0 (blF s 0 l.length)) (sumsF l 0 0 B) > 0
          · rw [if_pos c3] at h'
            simp only [if_pos c3]
            exact h'
          · rw [if_neg c3] at h'
            simp only [if_neg c3]
            by_cases c4 : ratF (sumsF l 0 0 (blF s 0 l.length)) (sumsF l 0 0 B) = 0
            · rw [if_pos c4] at h'
              simp only [if_pos c4]
              by_cases c5 : ((blF s 0 l.length).length : Int) > (B.length : Int)
              · rw [if_pos c5] at h'
                simp only [if_pos c5]
                exact h'
              · rw [if_neg c5] at h'
                simp only [if_neg c5]
                exact h'
            · rw [if_neg c4] at h'
              simp only [if_neg c4]
              exact h'
    · rw [show (s &&& a == s) = false from by rw [beq_eq_false_iff_ne]; exact c0, if_neg (by decide)] at h'
      have hz : ¬ diffN s a = 0 := fun h => c0 (hdz.1 h)
      simp only [if_neg (show ¬ ((diffN s a : Nat) : Int) = 0 by omega)]
      refine ev_succ ?_
      simp only [impl_sidneyBlocks.j2, if_true, wsucc s (by omega)]
      exact h'
/-- Both go over the same sets in the same order. -/
theorem block_same (l : List S50) (hn : l.length ≤ 8) (t : List (List Bool)) (a : Nat) (ha : a < 2 ^ l.length) :
    ((List.range' 1 (2 ^ (blF a 0 l.length).length - 1)).map (depA (blF a 0 l.length))).foldl (stepS l t (blF a 0 l.length)) [] = (List.range' 1 a).foldl (stepC l t a) [] := by
  have h8 := pow8 _ hn
  have h := subs_dep a (by omega)
  unfold subsOf depOf at h
  rw [bl8 a l.length hn ha] at h
  have e : (List.range' 1 (2 ^ (blF a 0 l.length).length - 1)).map (depA (blF a 0 l.length)) = ((List.range' 1 a).filter (fun s => s &&& a == s)).map (fun s => blF s 0 8) := h.symm
  rw [e, List.foldl_map, List.foldl_filter]
  have key : ∀ (L : List Nat), (∀ s ∈ L, s ≤ a) → ∀ B : List Int, L.foldl (fun x y => if (y &&& a == y) = true then stepS l t (blF a 0 l.length) x (blF y 0 8) else x) B = L.foldl (stepC l t a) B := by
    intro L
    induction L with
    | nil => intro _ B; rfl
    | cons s L ih =>
      intro hL B
      have hs := hL s List.mem_cons_self
      simp only [List.foldl_cons]
      rw [ih (fun s hs => hL s (List.mem_cons_of_mem _ hs))]
      unfold stepC
      rw [bl8 s l.length hn (by omega)]
  exact key _ (fun s hs => by have := List.mem_range'_1.1 hs; omega) []
/-- The block is a set that is not empty, of what is left. -/
theorem block_ok (l : List S50) (hn : l.length ≤ 8) (t : List (List Bool)) (a : Nat) (ha : a < 2 ^ l.length) (h0 : 0 < a) : ∃ s : Nat, 0 < s ∧ s ≤ a ∧ s &&& a = s ∧ (List.range' 1 a).foldl (stepC l t a) [] = blF s 0 l.length := by
  have h8 := pow8 _ hn
  have hne : ∀ s : Nat, 0 < s → s ≤ a → ¬ ((blF s 0 l.length).length : Int) = 0 := by
    intro s hs1 hs2
    have := pc_pos s (by omega) hs1
    rw [bl8 s l.length hn (by omega)] at this
    omega
  have key : ∀ (d s : Nat) (B : List Int), s + d = a → 0 < s → (B = [] ∨ ∃ q : Nat, 0 < q ∧ q ≤ a ∧ q &&& a = q ∧ B = blF q 0 l.length) → (∃ q : Nat, 0 < q ∧ q ≤ a ∧ q &&& a = q ∧ (List.range' s (d + 1)).foldl (stepC l t a) B = blF q 0 l.length) := by
    intro d
    induction d with
    | zero =>
      intro s B hs h1 hB
      obtain rfl : s = a := by omega
      have hsa : (s &&& s == s) = true := by rw [beq_iff_eq]; exact Nat.and_self s
      have hin : iniS t (blF s 0 l.length) (blF s 0 l.length) = true := by
        unfold iniS
        rw [List.all_eq_true]
        intro x _
        rw [List.all_eq_true]
        intro y hy
        rw [decide_eq_true hy, Bool.or_true]
      simp only [List.range'_succ, List.range'_zero, List.foldl_cons, List.foldl_nil]
      unfold stepC
      rw [if_pos hsa]
      unfold stepS
      rw [if_pos hin]
      rcases hB with rfl | ⟨q, q1, q2, q3, rfl⟩
      · rw [if_pos (by simp)]
        exact ⟨s, h1, Nat.le_refl _, Nat.and_self s, rfl⟩
      · rw [if_neg (hne q q1 q2)]
        repeat' split
        all_goals first
          | exact ⟨s, h1, Nat.le_refl _, Nat.and_self s, rfl⟩
          | exact ⟨q, q1, q2, q3, rfl⟩
    | succ d ih =>
      intro s B hs h1 hB
      rw [List.range'_succ, List.foldl_cons]
      refine ih (s + 1) _ (by omega) (by omega) ?_
      unfold stepC
      by_cases c : (s &&& a == s) = true
      · rw [if_pos c]
        exact stepS_inv (P := fun B => B = [] ∨ ∃ q : Nat, 0 < q ∧ q ≤ a ∧ q &&& a = q ∧ B = blF q 0 l.length) l t _ B _ hB (Or.inr ⟨s, h1, by omega, by rw [beq_iff_eq] at c; exact c, rfl⟩)
      · rw [if_neg c]
        exact hB
  obtain ⟨q, h⟩ := key (a - 1) 1 [] (by omega) (by omega) (Or.inl rfl)
  rw [show a - 1 + 1 = a by omega] at h
  exact ⟨q, h⟩
theorem blF_injP {c c' n : Nat} (hc : c < 2 ^ n) (hc' : c' < 2 ^ n) (h : ∀ x, x ∈ blF c 0 n ↔ x ∈ blF c' 0 n) : c = c' := by
  apply Nat.eq_of_testBit_eq
  intro j
  have key : ∀ a b : Nat, a < 2 ^ n → (∀ x, x ∈ blF a 0 n → x ∈ blF b 0 n) → a / 2 ^ j % 2 = 1 → b / 2 ^ j % 2 = 1 := by
    intro a b ha he hj
    have hjn : j < n := by
      rcases Nat.lt_or_ge j n with h | h
      · exact h
      · have h1 : 2 ^ n ≤ 2 ^ j := Nat.pow_le_pow_right (by omega) h
        rw [Nat.div_eq_of_lt (by omega)] at hj; omega
    have hm := he _ (blF_hasB' a n 0 j (by omega) (by omega) hj)
    obtain ⟨q, hq, _, _, hb⟩ := blF_mem b n 0 _ hm
    have : j = q := by omega
    rw [this]
    exact hb
  rw [Nat.testBit_eq_decide_div_mod_eq, Nat.testBit_eq_decide_div_mod_eq]
  exact decide_eq_decide.2 ⟨key c c' hc (fun x hx => (h x).1 hx), key c' c hc' (fun x hx => (h x).2 hx)⟩
theorem setOf_bl (n : Nat) (hn : n ≤ 8) (s : Nat) (hs : s < 2 ^ n) : Ev (fun k => impl_setOf.f k (blF s 0 n)) (s : Int) := by
  obtain ⟨c, hc, h1, h2⟩ := setOf_ev n hn (blF s 0 n) (by have := blF_len s n 0; omega) (bl_nodup s n 0) (bl_in8 s n)
  have := blF_injP hc hs (fun x => h2.mem_iff)
  rw [this] at h1
  exact h1
theorem sid_rest (l : List S50) (X : List (List Int)) (A B : List Int) (t : List (List Bool)) (hA : A.length ≤ 8) (hB : B.length ≤ 8) (hX : X.length ≤ 1000) (r : List (List Int)) : ∀ (d p : Nat) (acc : List Int), p + d = A.length → acc.length ≤ p →
    Ev (fun k => spec_l4Sidney.l0 k l (X ++ [B]) (acc ++ (A.drop p).filter fun x => !decide (x ∈ B)) t) r →
    Ev (fun k => spec_l4Sidney.l1 k l X A t B acc (p : Int)) r := by
  intro d
  induction d with
  | zero =>
    intro p acc hp ha h
    rw [List.drop_of_length_le (by omega), List.filter_nil, List.append_nil] at h
    refine ev_succ ?_
    simp only [spec_l4Sidney.l1, if_neg (show ¬ (p : Int) < (A.length : Int) by omega), if_pos (show X.length < 5864062014805 by omega)]
    exact h
  | succ d ih =>
    intro p acc hp ha h
    have hx : p < A.length := by omega
    rw [List.drop_eq_getElem_cons hx] at h
    refine ev_succ ?_
    simp only [spec_l4Sidney.l1, if_pos (show (p : Int) < (A.length : Int) by omega), if_pos (show (0 : Int) ≤ (p : Int) by omega), rdW A p hx, wsucc p (by omega)]
    refine ev_bind (l1Has_ev B A[p] (by omega)) ?_
    by_cases hm : A[p] ∈ B
    · rw [List.filter_cons_of_neg (by simp [hm])] at h
      simp only [decide_eq_true hm, if_true]
      exact ih (p + 1) acc (by omega) (by omega) h
    · rw [List.filter_cons_of_pos (by simp [hm])] at h
      simp only [decide_eq_false hm, Bool.false_eq_true, if_false, if_pos (show acc.length < 17592186044416 by omega)]
      refine ih (p + 1) (acc ++ [A[p]]) (by omega) (by rw [List.length_append, List.length_singleton]; omega) ?_
      rw [List.append_assoc]
      exact h

theorem core (l : List S50) (es : List S53) (hm : l.length ≤ 1048576) (_ : ∀ (i : Nat) (hi : i < l.length), I64 l[i].f0 ∧ I64 l[i].f1 ∧ I64 l[i].f2 ∧ I64 l[i].f3) (he : es.length ≤ 1048576) :
    ∃ (r : List (List Int)) (ok : Bool), (r.length ≤ 1048576 ∧ ∀ x ∈ r, x.length ≤ 1048576) ∧ Ev (fun k => spec_SidneyBlocks.f k l es) (r, ok) ∧ Ev (fun k => impl_SidneyBlocks.f k l es) (r, ok) := by
  have h1 := l4Two_ev l es hm he
  have h2 := isPreceded_ev l es hm
  unfold spec_SidneyBlocks.f impl_SidneyBlocks.f
  cases hp : (goodB l && good4 (l.length : Int) es)
  · rw [hp] at h1 h2
    exact ⟨[], false, ⟨by simp, fun x hx => by cases hx⟩, ev_bind h1 (by simp only [Bool.false_eq_true, if_false]; exact ev_now _), ev_bind h2 (by simp only [Bool.false_eq_true, if_false]; exact ev_now _)⟩
  rw [hp] at h1 h2
  rw [Bool.and_eq_true] at hp
  obtain ⟨hn, _, hin, hirr⟩ := two_facts l es hp.2
  have hsq := clos_sq _ es hin
  have h8 := pow8 _ hn
  have hpos := Nat.two_pow_pos l.length
  have hw : wrap64 (((2 ^ l.length : Nat) : Int) - 1) = ((2 ^ l.length - 1 : Nat) : Int) := by rw [w64 (by omega) (by omega)]; omega
  have htab := l4Table_ev _ hn es he hin
  have hclo := closure_ev _ hn es he hin
  obtain ⟨t, htd⟩ : ∃ t, t = closT l.length es := ⟨_, rfl⟩
  rw [← htd] at hsq htab hclo
  have main : ∀ (m a : Nat), a ≤ m → a < 2 ^ l.length → ∃ R : List (List Int), R.length ≤ a ∧ (∀ x ∈ R, x.length ≤ 1048576) ∧ ∀ X : List (List Int), X.length + a ≤ 1000 →
      Ev (fun k => spec_l4Sidney.l0 k l X (blF a 0 l.length) t) (X ++ R) ∧ Ev (fun k => impl_sidneyBlocks.l0 k l t X (a : Int)) (X ++ R) := by
    intro m
    induction m with
    | zero =>
      intro a hm0 _
      obtain rfl : a = 0 := by omega
      have h00 : blF 0 0 l.length = [] := blF_nil 0 _ 0 (by simp)
      refine ⟨[], by simp, (fun x hx => by cases hx), fun X hX => ?_⟩
      rw [h00, List.append_nil]
      refine ⟨ev_succ ?_, ev_succ ?_⟩
      · simp only [spec_l4Sidney.l0, List.length_nil, gt_iff_lt, if_neg (show ¬ (0 : Int) < ((0 : Nat) : Int) by omega)]
        exact ev_now _
      · simp only [impl_sidneyBlocks.l0, Int.natCast_zero, if_true]
        exact ev_now _
    | succ m ih =>
      intro a hma ha
      by_cases h0 : a = 0
      · exact ih a (by omega) ha
      obtain ⟨s, s1, s2, s3, s4⟩ := block_ok l hn t a ha (by omega)
      have hbs := block_same l hn t a ha
      rw [s4] at hbs
      have hdl := diff_le a s
      have hsp := pc_pos s (by omega) s1
      rw [bl8 s l.length hn (by omega)] at hsp
      have hdlt : diffN a s < a := by
        refine Nat.lt_of_le_of_ne hdl (fun e => ?_)
        obtain ⟨y, hy⟩ := List.exists_mem_of_length_pos hsp
        obtain ⟨j, _, _, hj, hjb⟩ := blF_mem s _ _ y hy
        have h1 := diff_bit a s (by omega) j (by omega)
        rw [e] at h1
        have h2 := hjb
        rw [← s3, and_bit] at h2
        exact (h1.1 h2.2).2 hjb
      obtain ⟨R, r1, r2, r3⟩ := ih (diffN a s) (by omega) (by omega)
      have hbl := blF_len s l.length 0
      have hal := blF_len a l.length 0
      have hless := diff_bl a s l.length hn (by omega) l.length 0 (by omega)
      refine ⟨blF s 0 l.length :: R, by rw [List.length_cons]; omega, fun x hx => ?_, fun X hX => ?_⟩
      · rcases List.mem_cons.mp hx with rfl | hx
        · omega
        · exact r2 x hx
      obtain ⟨e1, e2⟩ := r3 (X ++ [blF s 0 l.length]) (by rw [List.length_append, List.length_singleton]; omega)
      rw [List.append_assoc] at e1 e2
      have hap := pc_pos a (by omega) (by omega)
      rw [bl8 a l.length hn ha] at hap
      refine ⟨ev_succ ?_, ev_succ ?_⟩
      · simp only [spec_l4Sidney.l0, gt_iff_lt, if_pos (show (0 : Int) < ((blF a 0 l.length).length : Int) by omega)]
        have hb := l4Block_ev l hn t hsq (blF a 0 l.length) (by omega) (bl_in8 a l.length)
        rw [hbs] at hb
        refine ev_bind hb ?_
        refine sid_rest l X (blF a 0 l.length) (blF s 0 l.length) t (by omega) (by omega) (by omega) _ (blF a 0 l.length).length 0 [] (by omega) (by simp) ?_
        rw [List.drop_zero, List.nil_append, ← hless]
        exact e1
      · simp only [impl_sidneyBlocks.l0, if_neg (show ¬ (a : Int) = 0 by omega)]
        refine sid_l1 l hn t hsq a ha X _ a 1 [] (by omega) (by omega) ⟨by simp, fun x hx => by cases hx⟩ ?_
        rw [s4]
        refine ev_succ ?_
        simp only [impl_sidneyBlocks.l1, if_neg (show ¬ ((a + 1 : Nat) : Int) ≤ (a : Int) by omega), if_pos (show X.length < 5864062014805 by omega)]
        refine ev_bind (setOf_bl l.length hn s (by omega)) ?_
        rw [andN1 s (by omega) a (by omega)]
        exact e2
  obtain ⟨R, r1, r2, r3⟩ := main (2 ^ l.length - 1) (2 ^ l.length - 1) (Nat.le_refl _) (by omega)
  obtain ⟨e1, e2⟩ := r3 [] (by simp; omega)
  rw [List.nil_append] at e1 e2
  refine ⟨R, true, ⟨by omega, r2⟩, ev_bind h1 ?_, ev_bind h2 ?_⟩
  · simp only [if_true]
    refine ev_bind (a := R) ?_ (ev_now _)
    unfold spec_l4Sidney.f
    rw [shl1 _ (show l.length < 9 by omega), hw]
    exact ev_bind (l4Set_ev (2 ^ l.length - 1) l.length hn (by omega)) (ev_bind htab e1)
  · simp only [if_true]
    refine ev_bind (a := R) ?_ (ev_now _)
    unfold impl_sidneyBlocks.f
    rw [shl1 _ (show l.length < 9 by omega), hw]
    exact ev_bind hclo e2

theorem FnExactSidneyBlocks : FnExactSidneyBlocks.Claim := by
  intro l0 l1 hl0 hg0 hl1 hg1
  refine Ev.rounds ?_
  unfold laws_FnExactSidneyBlocks.f
  simp only [szJobS_eq l0 (1048576 : Int) (by omega) (by omega) hl0, Option.bind_some]
  by_cases h0 : (1048576 : Int) < l0.length
  · simp only [if_pos h0, if_pos (show (-1 : Int) < 0 by omega)]
    exact ev_now _
  simp only [if_neg h0, if_neg (show ¬ (((1048576 : Int) - l0.length) < 0) by omega)]
  simp only [szIntA2S_eq l1 ((1048576 : Int) - l0.length) (by omega) (by omega) hl1, Option.bind_some]
  by_cases h1 : ((1048576 : Int) - l0.length) < l1.length
  · simp only [if_pos h1, if_pos (show (-1 : Int) < 0 by omega)]
    exact ev_now _
  simp only [if_neg h1, if_neg (show ¬ (((1048576 : Int) - l0.length - l1.length) < 0) by omega)]
  have hm0 : (l0.map conv).length ≤ 1048576 := by simp; omega
  have hm1 : l1.length ≤ 1048576 := by omega
  obtain ⟨r0, r1, hr0, hs, hi⟩ := core (l0.map conv) l1 hm0 (conv_I64 l0 hg0) hm1
  obtain ⟨qa0, ya0, _, hb0, ma0⟩ := markJobS_from1 (l0.map conv) hm0
  obtain ⟨qa1, ya1, _, hb1, ma1⟩ := markIntA2S_from l1 hm1 qa0 (by omega)
  obtain ⟨q0, y0, m0, e0⟩ := markIntSS_ev r0 hr0.1 hr0.2
  refine ev_bind (toJobS_ev l0 (by omega)) (ev_bind (toIntA2S_ev l1 (by omega)) (ev_bind hs (ev_bind hi (ev_bind (eqIntSS_ev r0 hr0.1 hr0.2) (ev_bind (eqJobS_ev (l0.map conv) (by omega)) (ev_bind (eqIntA2S_ev l1 (by omega)) (ev_bind ma0 (ev_bind ma1 (ev_bind m0 (ev_bind e0 ?_))))))))))
  simp only [if_pos (show (true = true ∧ r1 = r1 ∧ true = true ∧ true = true ∧ ¬ ((qa1 : Int) < 0) ∧ ¬ ((q0 : Int) < 0) ∧ (q0 : Int) = (q0 : Int)) from ⟨rfl, rfl, rfl, rfl, by omega, by omega, rfl⟩)]
  exact ev_now _

end Go.Proofs.Ytlhppclbokkfmaa.Pure
