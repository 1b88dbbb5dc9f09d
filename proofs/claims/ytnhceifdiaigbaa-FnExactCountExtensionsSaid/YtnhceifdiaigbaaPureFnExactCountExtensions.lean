/- The program's function and the reference's come to the same answer: the statement of numbers and lists behind the law FnExactCountExtensions. Conditions: none. -/
import Derived.Test.YtnhceifdiaigbaaArgFnExactCountExtensions
import Derived.Test.YtnhceifdiaigbaaBase
namespace Go.Proofs.Ytnhceifdiaigbaa.Pure
open Go.RowKit Go.Proofs.Ytnhceifdiaigbaa.OFnExactCountExtensions Go.Proofs.Ytnhceifdiaigbaa.Base Go.Proofs.YtnhceifdiaigbaaW.PrintWords Go.Proofs.YtnhceifdiaigbaaW.PrintLast Go.Proofs.YtnhceifdiaigbaaW.PrintMore Go.Proofs.Ytnhceifdiaigbaa.Open
set_option linter.unusedVariables false
set_option linter.unusedSimpArgs false

theorem szIntA2S_eq (xs : List S73) (left : Int) (h0 : 0 ≤ left) (h1 : left ≤ 1048576) (h : xs.length ≤ 9223372036854775807) : laws_szIntA2S.f xs left = some (if left < xs.length then -1 else left - xs.length) := by
  unfold laws_szIntA2S.f
  rw [w64 (by omega) (by omega)]
  by_cases c : left < xs.length
  · rw [if_pos (by omega), if_pos c]
  · rw [if_neg (by omega), if_neg c]

theorem rdA2 (xs : List S73) (i : Nat) (h : i < xs.length) : rd_T73 xs (i : Int) = xs[i] := by
  unfold rd_T73
  rw [Int.toNat_natCast, List.getD_eq_getElem?_getD, List.getElem?_eq_getElem h]
  rfl
theorem w01 : wrap64 (0 + 1) = 1 := by unfold wrap64; omega
theorem w11 : wrap64 (1 + 1) = 2 := by unfold wrap64; omega

theorem toIntA2_ev (a b : Int) : Ev (fun k => laws_toIntA2.f k a b) (a, b) := by
  unfold laws_toIntA2.f
  refine ev_succ ?_
  simp only [laws_toIntA2.l0, if_pos (show (0 : Int) < 2 by omega), if_true, w01]
  refine ev_succ ?_
  simp only [laws_toIntA2.l0, if_pos (show (1 : Int) < 2 by omega), if_neg (show ¬ (1 : Int) = 0 by omega), if_true, w11]
  refine ev_succ ?_
  simp only [laws_toIntA2.l0, if_neg (show ¬ (2 : Int) < 2 by omega)]
  exact ev_now _
theorem toIntA2S_l (xs : List S73) (hn : xs.length ≤ 1048576) : ∀ (d i : Nat) (ys : List S73), i + d = xs.length → ys.length = xs.length → ys.take i = xs.take i → Ev (fun k => laws_toIntA2S.l0 k xs ys (i : Int)) xs := by
  intro d
  induction d with
  | zero =>
    intro i ys hi hl ht
    refine ev_succ ?_
    simp only [laws_toIntA2S.l0, if_neg (show ¬ (i : Int) < (xs.length : Int) by omega)]
    have : ys = xs := by
      rw [List.take_of_length_le (by omega), List.take_of_length_le (by omega)] at ht
      exact ht
    rw [this]
    exact ev_now _
  | succ d ih =>
    intro i ys hi hl ht
    refine ev_succ ?_
    have hx : i < xs.length := by omega
    simp only [laws_toIntA2S.l0, if_pos (show (i : Int) < (xs.length : Int) by omega), if_pos (show (0 : Int) ≤ (i : Int) by omega), rdA2 xs i hx, wsucc i (by omega)]
    refine ev_bind (toIntA2_ev _ _) ?_
    simp only [if_pos (show (i : Int) < (ys.length : Int) by omega), Int.toNat_natCast]
    refine ih (i + 1) _ (by omega) (by rw [List.length_set]; exact hl) ?_
    rw [take_set_succ ys i _ (by omega), ht, List.take_succ_eq_append_getElem hx]
theorem toIntA2S_ev (xs : List S73) (hn : xs.length ≤ 1048576) : Ev (fun k => laws_toIntA2S.f k xs) xs := by
  unfold laws_toIntA2S.f
  simp only [if_pos (show (0 : Int) ≤ (xs.length : Int) by omega), Int.toNat_natCast, if_pos (show xs.length ≤ 17592186044416 by omega)]
  exact toIntA2S_l xs hn xs.length 0 _ (by omega) (by simp) (by simp)

theorem eqIntA2_ev (a b : Int) : Ev (fun k => laws_eqIntA2.f k a b a b) true := by
  unfold laws_eqIntA2.f
  refine ev_succ ?_
  simp only [laws_eqIntA2.l0, if_pos (show (0 : Int) < 2 by omega), if_true, w01]
  refine ev_succ ?_
  simp only [laws_eqIntA2.l0, if_pos (show (1 : Int) < 2 by omega), if_neg (show ¬ (1 : Int) = 0 by omega), if_true, w11]
  refine ev_succ ?_
  simp only [laws_eqIntA2.l0, if_neg (show ¬ (2 : Int) < 2 by omega)]
  exact ev_now _
theorem eqIntA2S_l (xs : List S73) (hn : xs.length ≤ 4611686018427387904) : ∀ (d i : Nat), i + d = xs.length → Ev (fun k => laws_eqIntA2S.l0 k xs xs (i : Int)) true := by
  intro d
  induction d with
  | zero =>
    intro i hi
    refine ev_succ ?_
    simp only [laws_eqIntA2S.l0, if_neg (show ¬ (i : Int) < (xs.length : Int) by omega)]
    exact ev_now _
  | succ d ih =>
    intro i hi
    refine ev_succ ?_
    simp only [laws_eqIntA2S.l0, if_pos (show (i : Int) < (xs.length : Int) by omega), if_pos (show (0 : Int) ≤ (i : Int) by omega), wsucc i (by omega)]
    refine ev_bind (eqIntA2_ev _ _) ?_
    simp only [if_true]
    exact ih (i + 1) (by omega)
theorem eqIntA2S_ev (xs : List S73) (hn : xs.length ≤ 4611686018427387904) : Ev (fun k => laws_eqIntA2S.f k xs xs) true := by
  unfold laws_eqIntA2S.f
  simp only [if_true]
  exact eqIntA2S_l xs hn xs.length 0 (by omega)

/-- A table of n rows and n columns. -/
def Sq (n : Nat) (t : List (List Bool)) : Prop := t.length = n ∧ ∀ r ∈ t, r.length = n
theorem Sq.row {n : Nat} {t : List (List Bool)} (h : Sq n t) (i : Nat) (hi : i < n) : (t[i]'(by rw [h.1]; exact hi)).length = n := h.2 _ (List.getElem_mem _)
def tb (t : List (List Bool)) (i j : Nat) : Bool := (t.getD i []).getD j false
theorem tb_eq (t : List (List Bool)) (i j : Nat) (hi : i < t.length) (hj : j < t[i].length) : tb t i j = t[i][j] := by
  unfold tb
  rw [List.getD_eq_getElem?_getD, List.getD_eq_getElem?_getD, List.getElem?_eq_getElem hi, Option.getD_some, List.getElem?_eq_getElem hj, Option.getD_some]
def putT (t : List (List Bool)) (i j : Nat) (b : Bool) : List (List Bool) := t.set i ((t.getD i []).set j b)
theorem Sq.put {n : Nat} {t : List (List Bool)} (h : Sq n t) (i j : Nat) (hi : i < n) (b : Bool) : Sq n (putT t i j b) := by
  refine ⟨by unfold putT; rw [List.length_set]; exact h.1, fun r hr => ?_⟩
  unfold putT at hr
  rcases List.mem_or_eq_of_mem_set hr with hr | rfl
  · exact h.2 r hr
  · rw [List.length_set, List.getD_eq_getElem?_getD, List.getElem?_eq_getElem (by rw [h.1]; exact hi), Option.getD_some]
    exact h.row i hi
theorem rdBB (t : List (List Bool)) (i : Nat) (h : i < t.length) : rd_L3 t (i : Int) = t[i] := by
  unfold rd_L3
  rw [Int.toNat_natCast, List.getD_eq_getElem?_getD, List.getElem?_eq_getElem h]
  rfl
theorem rdB (r : List Bool) (i : Nat) (h : i < r.length) : rdOf false r (i : Int) = r[i] := by
  unfold rdOf
  rw [Int.toNat_natCast, List.getD_eq_getElem?_getD, List.getElem?_eq_getElem h]
  rfl
theorem rdTB (t : List (List Bool)) (i : Nat) (h : i < t.length) : (rd_L3 t (i : Int)) = t.getD i [] := by
  rw [rdBB t i h, List.getD_eq_getElem?_getD, List.getElem?_eq_getElem h]; rfl
theorem rdTT {n : Nat} {t : List (List Bool)} (h : Sq n t) (i j : Nat) (hi : i < n) (hj : j < n) : rdOf false (rd_L3 t (i : Int)) (j : Int) = tb t i j := by
  have h1 : i < t.length := by rw [h.1]; exact hi
  have h2 := h.row i hi
  rw [rdBB t i h1, rdB _ j (by rw [h2]; exact hj), tb_eq t i j h1 (by rw [h2]; exact hj)]
theorem put_same {n : Nat} {t : List (List Bool)} (h : Sq n t) (i j : Nat) (hi : i < n) (hj : j < n) : putT t i j (tb t i j) = t := by
  have h1 : i < t.length := by rw [h.1]; exact hi
  have h2 := h.row i hi
  have hg : t.getD i [] = t[i] := by rw [List.getD_eq_getElem?_getD, List.getElem?_eq_getElem h1]; rfl
  unfold putT
  rw [hg, tb_eq t i j h1 (by rw [h2]; exact hj), List.set_getElem_self, List.set_getElem_self]
def stepT (t : List (List Bool)) (k i j : Nat) : List (List Bool) := if (tb t i k && tb t k j) = true then putT t i j true else t
theorem Sq.step {n : Nat} {t : List (List Bool)} (h : Sq n t) (k i j : Nat) (hi : i < n) : Sq n (stepT t k i j) := by
  unfold stepT
  split
  · exact h.put i j hi true
  · exact h
def rowF (t : List (List Bool)) (k i : Nat) (js : List Nat) : List (List Bool) := js.foldl (fun t j => stepT t k i j) t
def midF (n : Nat) (t : List (List Bool)) (k : Nat) (is : List Nat) : List (List Bool) := is.foldl (fun t i => rowF t k i (List.range' 0 n)) t
def outF (n : Nat) (t : List (List Bool)) (ks : List Nat) : List (List Bool) := ks.foldl (fun t k => midF n t k (List.range' 0 n)) t
def edgeF (t : List (List Bool)) (es : List S73) : List (List Bool) := es.foldl (fun t e => putT t e.f0.toNat e.f1.toNat true) t
/-- The table of what comes before what. -/
def closT (n : Nat) (es : List S73) : List (List Bool) := outF n (edgeF (List.replicate n (List.replicate n false)) es) (List.range' 0 n)
def inN (n : Nat) (es : List S73) : Prop := ∀ e ∈ es, 0 ≤ e.f0 ∧ e.f0 < n ∧ 0 ≤ e.f1 ∧ e.f1 < n
theorem Sq.row_fold {n : Nat} {t : List (List Bool)} (h : Sq n t) (k i : Nat) (hi : i < n) (js : List Nat) : Sq n (rowF t k i js) := by
  unfold rowF
  induction js generalizing t with
  | nil => exact h
  | cons j js ih => exact ih (h.step k i j hi)
section
variable {F : Nat → List (List Bool) → Nat → Nat → Nat → Option (List (List Bool))}
end
theorem spec_l4 (n : Nat) (hn : n ≤ 8) (kk i : Nat) (hk : kk < n) (hi : i < n) (R : List (List Bool) → List (List Bool))
    (hnext : ∀ t, Sq n t → Ev (fun k => spec_l4Table.l3 k (n : Int) t (kk : Int) ((i + 1 : Nat) : Int)) (R t)) :
    ∀ (d j : Nat) (t : List (List Bool)), j + d = n → Sq n t → Ev (fun k => spec_l4Table.l4 k (n : Int) t (kk : Int) (i : Int) (j : Int)) (R (rowF t kk i (List.range' j d))) := by
  intro d
  induction d with
  | zero =>
    intro j t hj ht
    refine ev_succ ?_
    simp only [spec_l4Table.l4, if_neg (show ¬ (j : Int) < (n : Int) by omega), wsucc i (by omega)]
    exact hnext t ht
  | succ d ih =>
    intro j t hj ht
    refine ev_succ ?_
    have hl := ht.1
    have hri : (rd_L3 t (i : Int)).length = n := by rw [rdBB t i (by omega)]; exact ht.row i hi
    have hrk : (rd_L3 t (kk : Int)).length = n := by rw [rdBB t kk (by omega)]; exact ht.row kk hk
    have h := ih (j + 1) (stepT t kk i j) (by omega) (ht.step kk i j hi)
    rw [List.range'_succ]
    simp only [rowF, List.foldl_cons]
    simp only [rowF] at h
    simp only [spec_l4Table.l4, if_pos (show (j : Int) < (n : Int) by omega), if_pos (show (0 : Int) ≤ (i : Int) by omega), if_pos (show (i : Int) < (t.length : Int) by omega), if_pos (show (0 : Int) ≤ (kk : Int) by omega), if_pos (show (kk : Int) < ((rd_L3 t (i : Int)).length : Int) by omega), if_pos (show (kk : Int) < (t.length : Int) by omega), if_pos (show (0 : Int) ≤ (j : Int) by omega), if_pos (show (j : Int) < ((rd_L3 t (kk : Int)).length : Int) by omega), if_pos (show (j : Int) < ((rd_L3 t (i : Int)).length : Int) by omega), rdTT ht i kk hi hk, rdTT ht kk j hk (by omega), wsucc j (by omega), Int.toNat_natCast]
    by_cases c1 : tb t i kk = true
    · by_cases c2 : tb t kk j = true
      · simp only [if_pos c1, if_pos c2]
        have hs : stepT t kk i j = putT t i j true := by unfold stepT; rw [if_pos (by rw [c1, c2]; rfl)]
        rw [hs] at h ⊢
        rw [rdTB t i (by omega)]
        exact h
      · simp only [if_pos c1, if_neg c2]
        have hs : stepT t kk i j = t := by unfold stepT; rw [if_neg (by rw [c1]; simpa using c2)]
        rw [hs] at h ⊢
        exact h
    · simp only [if_neg c1]
      have hs : stepT t kk i j = t := by unfold stepT; rw [if_neg (by simp only [Bool.and_eq_true]; exact fun x => c1 x.1)]
      rw [hs] at h ⊢
      exact h
theorem spec_l3 (n : Nat) (hn : n ≤ 8) (kk : Nat) (hk : kk < n) (R : List (List Bool) → List (List Bool))
    (hnext : ∀ t, Sq n t → Ev (fun k => spec_l4Table.l2 k (n : Int) t ((kk + 1 : Nat) : Int)) (R t)) :
    ∀ (d i : Nat) (t : List (List Bool)), i + d = n → Sq n t → Ev (fun k => spec_l4Table.l3 k (n : Int) t (kk : Int) (i : Int)) (R (midF n t kk (List.range' i d))) := by
  intro d
  induction d with
  | zero =>
    intro i t hi ht
    refine ev_succ ?_
    simp only [spec_l4Table.l3, if_neg (show ¬ (i : Int) < (n : Int) by omega), wsucc kk (by omega)]
    exact hnext t ht
  | succ d ih =>
    intro i t hi ht
    refine ev_succ ?_
    rw [List.range'_succ]
    simp only [midF, List.foldl_cons, spec_l4Table.l3, if_pos (show (i : Int) < (n : Int) by omega)]
    exact spec_l4 n hn kk i hk (by omega) (fun t => R (midF n t kk (List.range' (i + 1) d))) (fun t ht => ih (i + 1) t (by omega) ht) n 0 t (by omega) ht
theorem mid_sq {n : Nat} {t : List (List Bool)} (h : Sq n t) (k : Nat) : ∀ is : List Nat, (∀ i ∈ is, i < n) → Sq n (midF n t k is) := by
  intro is
  unfold midF
  induction is generalizing t with
  | nil => intro _; exact h
  | cons i is ih => intro hi; exact ih (h.row_fold k i (hi i (by simp)) _) (fun x hx => hi x (by simp [hx]))
theorem spec_l2 (n : Nat) (hn : n ≤ 8) : ∀ (d kk : Nat) (t : List (List Bool)), kk + d = n → Sq n t → Ev (fun k => spec_l4Table.l2 k (n : Int) t (kk : Int)) (outF n t (List.range' kk d)) := by
  intro d
  induction d with
  | zero =>
    intro kk t hk ht
    refine ev_succ ?_
    simp only [spec_l4Table.l2, if_neg (show ¬ (kk : Int) < (n : Int) by omega)]
    exact ev_now _
  | succ d ih =>
    intro kk t hk ht
    refine ev_succ ?_
    rw [List.range'_succ]
    simp only [outF, List.foldl_cons, spec_l4Table.l2, if_pos (show (kk : Int) < (n : Int) by omega)]
    exact spec_l3 n hn kk (by omega) (fun t => outF n t (List.range' (kk + 1) d)) (fun t ht => ih (kk + 1) t (by omega) ht) n 0 t (by omega) ht
theorem edge_sq {n : Nat} {t : List (List Bool)} (h : Sq n t) : ∀ es : List S73, inN n es → Sq n (edgeF t es) := by
  intro es
  unfold edgeF
  induction es generalizing t with
  | nil => intro _; exact h
  | cons e es ih =>
    intro he
    have := he e (by simp)
    exact ih (h.put _ _ (by omega) true) (fun x hx => he x (by simp [hx]))
theorem spec_l1 (n : Nat) (hn : n ≤ 8) (es : List S73) (hes : es.length ≤ 1048576) (hin : inN n es) : ∀ (d i : Nat) (t : List (List Bool)), i + d = es.length → Sq n t → Ev (fun k => spec_l4Table.l1 k (n : Int) es t (i : Int)) (outF n (edgeF t (es.drop i)) (List.range' 0 n)) := by
  intro d
  induction d with
  | zero =>
    intro i t hi ht
    refine ev_succ ?_
    simp only [spec_l4Table.l1, if_neg (show ¬ (i : Int) < (es.length : Int) by omega), List.drop_of_length_le (show es.length ≤ i by omega)]
    exact spec_l2 n hn n 0 t (by omega) ht
  | succ d ih =>
    intro i t hi ht
    refine ev_succ ?_
    have hx : i < es.length := by omega
    have hl := ht.1
    have he := hin es[i] (List.getElem_mem hx)
    obtain ⟨a, ha⟩ := Int.eq_ofNat_of_zero_le he.1
    obtain ⟨b, hb⟩ := Int.eq_ofNat_of_zero_le he.2.2.1
    have hr : (rd_L3 t (a : Int)).length = n := by rw [rdBB t a (by omega)]; exact ht.row a (by omega)
    have h := ih (i + 1) (putT t a b true) (by omega) (ht.put a b (by omega) true)
    rw [List.drop_eq_getElem_cons hx]
    simp only [edgeF, List.foldl_cons, ha, hb, Int.toNat_natCast]
    simp only [edgeF] at h
    simp only [spec_l4Table.l1, if_pos (show (i : Int) < (es.length : Int) by omega), if_pos (show (0 : Int) ≤ (i : Int) by omega), rdA2 es i hx, ha, hb, if_pos (show (0 : Int) ≤ (a : Int) by omega), if_pos (show (a : Int) < (t.length : Int) by omega), if_pos (show (0 : Int) ≤ (b : Int) by omega), if_pos (show (b : Int) < ((rd_L3 t (a : Int)).length : Int) by omega), wsucc i (by omega), Int.toNat_natCast]
    rw [rdTB t a (by omega)]
    exact h
theorem spec_l0 (n : Nat) (hn : n ≤ 8) (es : List S73) (hes : es.length ≤ 1048576) (hin : inN n es) : ∀ (d i : Nat) (t : List (List Bool)), i + d = n → t = List.replicate i (List.replicate n false) → Ev (fun k => spec_l4Table.l0 k (n : Int) es t (i : Int)) (closT n es) := by
  intro d
  induction d with
  | zero =>
    intro i t hi ht
    refine ev_succ ?_
    have hin' : i = n := by omega
    subst hin'
    simp only [spec_l4Table.l0, if_neg (show ¬ (i : Int) < (i : Int) by omega)]
    have := spec_l1 i hn es hes hin es.length 0 t (by omega) (by rw [ht]; exact ⟨by simp, fun r hr => by rw [List.eq_of_mem_replicate hr]; simp⟩)
    rw [List.drop_zero, ht] at this
    rw [ht]
    exact this
  | succ d ih =>
    intro i t hi ht
    refine ev_succ ?_
    have hl : t.length = i := by rw [ht]; simp
    simp only [spec_l4Table.l0, if_pos (show (i : Int) < (n : Int) by omega), if_pos (show (0 : Int) ≤ (n : Int) by omega), Int.toNat_natCast, if_pos (show n ≤ 281474976710656 by omega), if_pos (show t.length < 5864062014805 by omega), wsucc i (by omega)]
    exact ih (i + 1) _ (by omega) (by rw [ht, List.replicate_succ'])
theorem l4Table_ev (n : Nat) (hn : n ≤ 8) (es : List S73) (hes : es.length ≤ 1048576) (hin : inN n es) : Ev (fun k => spec_l4Table.f k (n : Int) es) (closT n es) := by
  unfold spec_l4Table.f
  exact spec_l0 n hn es hes hin n 0 [] (by omega) (by simp)
theorem impl_l4 (n : Nat) (hn : n ≤ 8) (kk i : Nat) (hk : kk < n) (hi : i < n) (R : List (List Bool) → List (List Bool))
    (hnext : ∀ t, Sq n t → Ev (fun k => impl_closure.l3 k (n : Int) t (kk : Int) ((i + 1 : Nat) : Int)) (R t)) :
    ∀ (d j : Nat) (t : List (List Bool)), j + d = n → Sq n t → Ev (fun k => impl_closure.l4 k (n : Int) t (kk : Int) (i : Int) (j : Int)) (R (rowF t kk i (List.range' j d))) := by
  intro d
  induction d with
  | zero =>
    intro j t hj ht
    refine ev_succ ?_
    simp only [impl_closure.l4, if_neg (show ¬ (j : Int) < (n : Int) by omega), wsucc i (by omega)]
    exact hnext t ht
  | succ d ih =>
    intro j t hj ht
    refine ev_succ ?_
    have hl := ht.1
    have hri : (rd_L3 t (i : Int)).length = n := by rw [rdBB t i (by omega)]; exact ht.row i hi
    have hrk : (rd_L3 t (kk : Int)).length = n := by rw [rdBB t kk (by omega)]; exact ht.row kk hk
    have h := ih (j + 1) (stepT t kk i j) (by omega) (ht.step kk i j hi)
    rw [List.range'_succ]
    simp only [rowF, List.foldl_cons]
    simp only [rowF] at h
    simp only [impl_closure.l4, if_pos (show (j : Int) < (n : Int) by omega), if_pos (show (0 : Int) ≤ (i : Int) by omega), if_pos (show (i : Int) < (t.length : Int) by omega), if_pos (show (0 : Int) ≤ (kk : Int) by omega), if_pos (show (kk : Int) < ((rd_L3 t (i : Int)).length : Int) by omega), if_pos (show (kk : Int) < (t.length : Int) by omega), if_pos (show (0 : Int) ≤ (j : Int) by omega), if_pos (show (j : Int) < ((rd_L3 t (kk : Int)).length : Int) by omega), if_pos (show (j : Int) < ((rd_L3 t (i : Int)).length : Int) by omega), rdTT ht i kk hi hk, rdTT ht kk j hk (by omega), rdTT ht i j hi (by omega), wsucc j (by omega), Int.toNat_natCast]
    have hput : ∀ b, t.set i ((rd_L3 t (i : Int)).set j b) = putT t i j b := fun b => by rw [rdTB t i (by omega)]; rfl
    have hsame := put_same ht i j hi (show j < n by omega)
    by_cases c0 : tb t i j = true
    · simp only [if_pos c0, hput]
      have hs : stepT t kk i j = t := by
        unfold stepT
        split
        · rw [c0] at hsame; exact hsame
        · rfl
      rw [hs] at h ⊢
      rw [c0] at hsame
      rw [hsame]
      exact h
    · have c0' : tb t i j = false := by simpa using c0
      rw [c0'] at hsame
      by_cases c1 : tb t i kk = true
      · simp only [if_neg c0, if_pos c1, hput]
        by_cases c2 : tb t kk j = true
        · have hs : stepT t kk i j = putT t i j true := by unfold stepT; rw [if_pos (by rw [c1, c2]; rfl)]
          rw [hs] at h ⊢
          rw [c2]
          exact h
        · have c2' : tb t kk j = false := by simpa using c2
          have hs : stepT t kk i j = t := by unfold stepT; rw [if_neg (by rw [c1]; simpa using c2)]
          rw [hs] at h ⊢
          rw [c2', hsame]
          exact h
      · simp only [if_neg c0, if_neg c1, hput]
        have hs : stepT t kk i j = t := by unfold stepT; rw [if_neg (by simp only [Bool.and_eq_true]; exact fun x => c1 x.1)]
        rw [hs] at h ⊢
        rw [hsame]
        exact h
theorem impl_l3 (n : Nat) (hn : n ≤ 8) (kk : Nat) (hk : kk < n) (R : List (List Bool) → List (List Bool))
    (hnext : ∀ t, Sq n t → Ev (fun k => impl_closure.l2 k (n : Int) t ((kk + 1 : Nat) : Int)) (R t)) :
    ∀ (d i : Nat) (t : List (List Bool)), i + d = n → Sq n t → Ev (fun k => impl_closure.l3 k (n : Int) t (kk : Int) (i : Int)) (R (midF n t kk (List.range' i d))) := by
  intro d
  induction d with
  | zero =>
    intro i t hi ht
    refine ev_succ ?_
    simp only [impl_closure.l3, if_neg (show ¬ (i : Int) < (n : Int) by omega), wsucc kk (by omega)]
    exact hnext t ht
  | succ d ih =>
    intro i t hi ht
    refine ev_succ ?_
    rw [List.range'_succ]
    simp only [midF, List.foldl_cons, impl_closure.l3, if_pos (show (i : Int) < (n : Int) by omega)]
    exact impl_l4 n hn kk i hk (by omega) (fun t => R (midF n t kk (List.range' (i + 1) d))) (fun t ht => ih (i + 1) t (by omega) ht) n 0 t (by omega) ht
theorem impl_l2 (n : Nat) (hn : n ≤ 8) : ∀ (d kk : Nat) (t : List (List Bool)), kk + d = n → Sq n t → Ev (fun k => impl_closure.l2 k (n : Int) t (kk : Int)) (outF n t (List.range' kk d)) := by
  intro d
  induction d with
  | zero =>
    intro kk t hk ht
    refine ev_succ ?_
    simp only [impl_closure.l2, if_neg (show ¬ (kk : Int) < (n : Int) by omega)]
    exact ev_now _
  | succ d ih =>
    intro kk t hk ht
    refine ev_succ ?_
    rw [List.range'_succ]
    simp only [outF, List.foldl_cons, impl_closure.l2, if_pos (show (kk : Int) < (n : Int) by omega)]
    exact impl_l3 n hn kk (by omega) (fun t => outF n t (List.range' (kk + 1) d)) (fun t ht => ih (kk + 1) t (by omega) ht) n 0 t (by omega) ht
theorem impl_l1 (n : Nat) (hn : n ≤ 8) (es : List S73) (hes : es.length ≤ 1048576) (hin : inN n es) : ∀ (d i : Nat) (t : List (List Bool)), i + d = es.length → Sq n t → Ev (fun k => impl_closure.l1 k (n : Int) t es (es.length : Int) (i : Int)) (outF n (edgeF t (es.drop i)) (List.range' 0 n)) := by
  intro d
  induction d with
  | zero =>
    intro i t hi ht
    refine ev_succ ?_
    simp only [impl_closure.l1, if_neg (show ¬ (i : Int) < (es.length : Int) by omega), List.drop_of_length_le (show es.length ≤ i by omega)]
    exact impl_l2 n hn n 0 t (by omega) ht
  | succ d ih =>
    intro i t hi ht
    refine ev_succ ?_
    have hx : i < es.length := by omega
    have hl := ht.1
    have he := hin es[i] (List.getElem_mem hx)
    obtain ⟨a, ha⟩ := Int.eq_ofNat_of_zero_le he.1
    obtain ⟨b, hb⟩ := Int.eq_ofNat_of_zero_le he.2.2.1
    have hr : (rd_L3 t (a : Int)).length = n := by rw [rdBB t a (by omega)]; exact ht.row a (by omega)
    have h := ih (i + 1) (putT t a b true) (by omega) (ht.put a b (by omega) true)
    rw [List.drop_eq_getElem_cons hx]
    simp only [edgeF, List.foldl_cons, ha, hb, Int.toNat_natCast]
    simp only [edgeF] at h
    simp only [impl_closure.l1, if_pos (show (i : Int) < (es.length : Int) by omega), if_pos (show (0 : Int) ≤ (i : Int) by omega), rdA2 es i hx, ha, hb, if_pos (show (0 : Int) ≤ (a : Int) by omega), if_pos (show (a : Int) < (t.length : Int) by omega), if_pos (show (0 : Int) ≤ (b : Int) by omega), if_pos (show (b : Int) < ((rd_L3 t (a : Int)).length : Int) by omega), wsucc i (by omega), Int.toNat_natCast]
    rw [rdTB t a (by omega)]
    exact h
theorem impl_l0 (n : Nat) (hn : n ≤ 8) (es : List S73) (hes : es.length ≤ 1048576) (hin : inN n es) : ∀ (d i : Nat) (t : List (List Bool)), i + d = n → t.length = n → t.take i = List.replicate i (List.replicate n false) → Ev (fun k => impl_closure.l0 k (n : Int) es t (n : Int) (i : Int)) (closT n es) := by
  intro d
  induction d with
  | zero =>
    intro i t hi hl ht
    refine ev_succ ?_
    have hin' : i = n := by omega
    subst hin'
    rw [List.take_of_length_le (by omega)] at ht
    simp only [impl_closure.l0, if_neg (show ¬ (i : Int) < (i : Int) by omega)]
    have := impl_l1 i hn es hes hin es.length 0 t (by omega) (by rw [ht]; exact ⟨by simp, fun r hr => by rw [List.eq_of_mem_replicate hr]; simp⟩)
    rw [List.drop_zero, ht] at this
    rw [ht]
    exact this
  | succ d ih =>
    intro i t hi hl ht
    refine ev_succ ?_
    simp only [impl_closure.l0, if_pos (show (i : Int) < (n : Int) by omega), if_pos (show (0 : Int) ≤ (n : Int) by omega), Int.toNat_natCast, if_pos (show n ≤ 281474976710656 by omega), if_pos (show (0 : Int) ≤ (i : Int) by omega), if_pos (show (i : Int) < (t.length : Int) by omega), wsucc i (by omega)]
    exact ih (i + 1) _ (by omega) (by rw [List.length_set]; exact hl) (by rw [take_set_succ t i _ (by omega), ht, List.replicate_succ'])
theorem closure_ev (n : Nat) (hn : n ≤ 8) (es : List S73) (hes : es.length ≤ 1048576) (hin : inN n es) : Ev (fun k => impl_closure.f k (n : Int) es) (closT n es) := by
  unfold impl_closure.f
  simp only [if_pos (show (0 : Int) ≤ (n : Int) by omega), Int.toNat_natCast, if_pos (show n ≤ 11728124029610 by omega), Option.bind_some, List.length_replicate]
  exact impl_l0 n hn es hes hin n 0 _ (by omega) (by simp) (by simp)
theorem clos_sq (n : Nat) (es : List S73) (hin : inN n es) : Sq n (closT n es) := by
  unfold closT
  have h0 : Sq n (edgeF (List.replicate n (List.replicate n false)) es) := edge_sq ⟨by simp, fun r hr => by rw [List.eq_of_mem_replicate hr]; simp⟩ es hin
  have key : ∀ (ks : List Nat) (t : List (List Bool)), Sq n t → Sq n (outF n t ks) := by
    intro ks
    unfold outF
    induction ks with
    | nil => intro t h; exact h
    | cons k ks ih => intro t h; exact ih _ (mid_sq h k _ (fun i hi => by rw [List.mem_range'_1] at hi; omega))
  exact key _ _ h0

theorem l1In_eq (a b c : Int) : spec_l1In.f a b c = some (decide (b ≤ a) && decide (a ≤ c)) := by
  unfold spec_l1In.f
  by_cases h : b ≤ a
  · rw [if_pos h]; simp [h]
  · rw [if_neg h]; simp [h]

theorem within_eq (a b c : Int) : impl_within.f a b c = some (decide (b ≤ a) && decide (a ≤ c)) := by
  unfold impl_within.f
  by_cases h : b ≤ a
  · rw [if_pos h]; simp [h]
  · rw [if_neg h]; simp [h]

theorem isNumber_eq (i n : Int) (h0 : 0 ≤ n) (h1 : n ≤ 9223372036854775807) : impl_isNumber.f i n = some (decide (0 ≤ i) && decide (i < n)) := by
  unfold impl_isNumber.f
  rw [within_eq, w64 (by omega) (by omega)]
  simp only [Option.bind_some]
  congr 2
  rw [decide_eq_decide]
  omega

def cE (m : Int) (es : List S73) (i : Nat) : Bool :=
  decide (0 ≤ (rd_T73 es (i : Int)).f0) && decide ((rd_T73 es (i : Int)).f0 ≤ m) && (decide (0 ≤ (rd_T73 es (i : Int)).f1) && decide ((rd_T73 es (i : Int)).f1 ≤ m)) && !decide ((rd_T73 es (i : Int)).f0 = (rd_T73 es (i : Int)).f1) &&
  (decide (i = 0) || decide ((rd_T73 es ((i - 1 : Nat) : Int)).f0 < (rd_T73 es (i : Int)).f0) || decide ((rd_T73 es ((i - 1 : Nat) : Int)).f0 = (rd_T73 es (i : Int)).f0) && decide ((rd_T73 es ((i - 1 : Nat) : Int)).f1 < (rd_T73 es (i : Int)).f1))
def pfE (m : Int) (es : List S73) (i : Nat) : Nat → Bool
  | 0 => true
  | d + 1 => cE m es i && pfE m es (i + 1) d
theorem l4Before_eq (a b c d : Int) : spec_l4Before.f a b c d = some (decide (a < c) || decide (a = c) && decide (b < d)) := by
  unfold spec_l4Before.f
  by_cases h : a < c
  · rw [if_pos h]; simp [h]
  · rw [if_neg h]
    by_cases h' : a = c
    · rw [if_pos h']; simp [h, h']
    · rw [if_neg h']; simp [h, h']
theorem wpred (i : Nat) (h0 : 0 < i) (h : i < 4611686018427387904) : wrap64 ((i : Int) - 1) = ((i - 1 : Nat) : Int) := by
  rw [w64 (by omega) (by omega)]; omega
theorem l4Pairs_l (n : Int) (es : List S73) (hes : es.length ≤ 1048576) : ∀ (d i : Nat), i + d = es.length → Ev (fun k => spec_l4Pairs.l0 k n es (i : Int)) (pfE (wrap64 (n - 1)) es i d && ((decide (0 ≤ n) && decide (n ≤ 8)) && decide ((es.length : Int) ≤ 28))) := by
  intro d
  induction d with
  | zero =>
    intro i hi
    refine ev_succ ?_
    simp only [spec_l4Pairs.l0, if_neg (show ¬ (i : Int) < (es.length : Int) by omega), l1In_eq, Option.bind_some, pfE, Bool.true_and]
    cases hb : (decide (0 ≤ n) && decide (n ≤ 8))
    · simp only [Bool.false_eq_true, if_false, Bool.false_and]; exact ev_now _
    · simp only [if_true, Bool.true_and]; exact ev_now _
  | succ d ih =>
    intro i hi
    refine ev_succ ?_
    have h := ih (i + 1) (by omega)
    simp only [spec_l4Pairs.l0, if_pos (show (i : Int) < (es.length : Int) by omega), if_pos (show (0 : Int) ≤ (i : Int) by omega), l1In_eq, l4Before_eq, Option.bind_some, pfE, wsucc i (by omega)]
    unfold cE
    by_cases ha : (decide (0 ≤ (rd_T73 es (i : Int)).f0) && decide ((rd_T73 es (i : Int)).f0 ≤ wrap64 (n - 1))) = true
    · by_cases hb : (decide (0 ≤ (rd_T73 es (i : Int)).f1) && decide ((rd_T73 es (i : Int)).f1 ≤ wrap64 (n - 1))) = true
      · by_cases hc : (rd_T73 es (i : Int)).f0 = (rd_T73 es (i : Int)).f1
        · simp only [ha, hb, if_true, if_pos hc, decide_eq_true hc, Bool.not_true, Bool.and_false, Bool.false_and]; exact ev_now _
        · by_cases h0 : i = 0
          · subst h0
            simp only [ha, hb, if_true, if_neg hc, decide_true, Bool.true_or, Bool.true_and, decide_eq_false hc, Bool.not_false, gt_iff_lt, if_neg (show ¬ ((0 : Int) < ((0 : Nat) : Int)) by omega)]
            exact h
          · simp only [ha, hb, if_true, if_neg hc, if_pos (show (i : Int) > 0 by omega), wpred i (by omega) (by omega), if_pos (show (0 : Int) ≤ ((i - 1 : Nat) : Int) by omega), if_pos (show ((i - 1 : Nat) : Int) < (es.length : Int) by omega), decide_eq_false h0, Bool.false_or, Bool.true_and, decide_eq_false hc, Bool.not_false]
            cases hd : (decide ((rd_T73 es ((i - 1 : Nat) : Int)).f0 < (rd_T73 es (i : Int)).f0) || decide ((rd_T73 es ((i - 1 : Nat) : Int)).f0 = (rd_T73 es (i : Int)).f0) && decide ((rd_T73 es ((i - 1 : Nat) : Int)).f1 < (rd_T73 es (i : Int)).f1))
            · simp only [Bool.false_eq_true, if_false, Bool.false_and]; exact ev_now _
            · simp only [if_true, Bool.true_and]; exact h
      · simp only [ha, if_true, if_neg hb, Bool.not_eq_true .. ▸ hb, Bool.and_false, Bool.false_and]; exact ev_now _
    · simp only [if_neg ha, Bool.not_eq_true .. ▸ ha, Bool.false_and]; exact ev_now _
def okE (n : Int) (es : List S73) : Bool := pfE (wrap64 (n - 1)) es 0 es.length && ((decide (0 ≤ n) && decide (n ≤ 8)) && decide ((es.length : Int) ≤ 28))
theorem l4Pairs_ev (n : Int) (es : List S73) (hes : es.length ≤ 1048576) : Ev (fun k => spec_l4Pairs.f k n es) (okE n es) := by
  unfold spec_l4Pairs.f
  exact l4Pairs_l n es hes es.length 0 (by omega)
theorem pfE_in (n : Nat) (hn : n ≤ 8) (es : List S73) : ∀ (d i : Nat), i + d = es.length → pfE (wrap64 ((n : Int) - 1)) es i d = true → ∀ j, i ≤ j → (hj : j < es.length) → 0 ≤ (es[j]).f0 ∧ (es[j]).f0 < n ∧ 0 ≤ (es[j]).f1 ∧ (es[j]).f1 < n := by
  intro d
  induction d with
  | zero => intro i hi _ j hj hj'; omega
  | succ d ih =>
    intro i hi h j hj hj'
    unfold pfE at h
    rw [Bool.and_eq_true] at h
    by_cases he : j = i
    · subst he
      have h1 := h.1
      unfold cE at h1
      rw [rdA2 es j hj', w64 (by omega) (by omega)] at h1
      simp only [Bool.and_eq_true, decide_eq_true_eq] at h1
      obtain ⟨⟨⟨⟨a1, a2⟩, ⟨a3, a4⟩⟩, _⟩, _⟩ := h1
      exact ⟨a1, by omega, a3, by omega⟩
    · exact ih (i + 1) (by omega) h.2 j (by omega) hj'
theorem okE_in (n : Int) (es : List S73) (h : okE n es = true) : ∃ m : Nat, n = m ∧ m ≤ 8 ∧ es.length ≤ 28 ∧ inN m es := by
  unfold okE at h
  simp only [Bool.and_eq_true, decide_eq_true_eq] at h
  obtain ⟨h1, ⟨h2, h3⟩, h4⟩ := h
  obtain ⟨m, rfl⟩ := Int.eq_ofNat_of_zero_le h2
  refine ⟨m, rfl, by omega, by omega, fun e he => ?_⟩
  obtain ⟨j, hj, rfl⟩ := List.mem_iff_getElem.mp he
  have := pfE_in m (by omega) es es.length 0 (by omega) h1 j (by omega) hj
  omega
/-- No job stands before itself, from the i-th on. -/
def acyF (t : List (List Bool)) (i : Nat) : Nat → Bool
  | 0 => true
  | d + 1 => !tb t i i && acyF t (i + 1) d
def good4 (n : Int) (es : List S73) : Bool := okE n es && acyF (closT n.toNat es) 0 n.toNat
theorem l4Good_l (n : Nat) (hn : n ≤ 8) (t : List (List Bool)) (ht : Sq n t) : ∀ (d i : Nat), i + d = n → Ev (fun k => spec_l4Good.l0 k (n : Int) t (i : Int)) (acyF t i d) := by
  intro d
  induction d with
  | zero =>
    intro i hi
    refine ev_succ ?_
    simp only [spec_l4Good.l0, if_neg (show ¬ (i : Int) < (n : Int) by omega), acyF]
    exact ev_now _
  | succ d ih =>
    intro i hi
    refine ev_succ ?_
    have h := ih (i + 1) (by omega)
    have hl := ht.1
    have hr : (rd_L3 t (i : Int)).length = n := by rw [rdBB t i (by omega)]; exact ht.row i (by omega)
    simp only [spec_l4Good.l0, if_pos (show (i : Int) < (n : Int) by omega), if_pos (show (0 : Int) ≤ (i : Int) by omega), if_pos (show (i : Int) < (t.length : Int) by omega), if_pos (show (i : Int) < ((rd_L3 t (i : Int)).length : Int) by omega), rdTT ht i i (by omega) (by omega), wsucc i (by omega), acyF]
    cases tb t i i
    · simp only [Bool.false_eq_true, if_false, Bool.not_false, Bool.true_and]; exact h
    · simp only [if_true, Bool.not_true, Bool.false_and]; exact ev_now _
theorem l4Good_ev (n : Int) (es : List S73) (hes : es.length ≤ 1048576) : Ev (fun k => spec_l4Good.f k n es) (good4 n es) := by
  unfold spec_l4Good.f good4
  refine ev_bind (l4Pairs_ev n es hes) ?_
  cases hk : okE n es
  · simp only [Bool.false_eq_true, if_false, Bool.false_and]; exact ev_now _
  · obtain ⟨m, rfl, hm, hl, hin⟩ := okE_in n es hk
    simp only [if_true, Bool.true_and, Int.toNat_natCast]
    exact ev_bind (l4Table_ev m hm es hes hin) (l4Good_l m hm _ (clos_sq m es hin) m 0 (by omega))
theorem isPrec_l1 (n : Nat) (hn : n ≤ 8) (t : List (List Bool)) (ht : Sq n t) : ∀ (d i : Nat), i + d = n → Ev (fun k => impl_IsPrecedence.l1 k t (n : Int) (i : Int)) (acyF t i d) := by
  intro d
  induction d with
  | zero =>
    intro i hi
    refine ev_succ ?_
    simp only [impl_IsPrecedence.l1, if_neg (show ¬ (i : Int) < (n : Int) by omega), acyF]
    exact ev_now _
  | succ d ih =>
    intro i hi
    refine ev_succ ?_
    have h := ih (i + 1) (by omega)
    have hl := ht.1
    have hr : (rd_L3 t (i : Int)).length = n := by rw [rdBB t i (by omega)]; exact ht.row i (by omega)
    simp only [impl_IsPrecedence.l1, if_pos (show (i : Int) < (n : Int) by omega), if_pos (show (0 : Int) ≤ (i : Int) by omega), if_pos (show (i : Int) < (t.length : Int) by omega), if_pos (show (i : Int) < ((rd_L3 t (i : Int)).length : Int) by omega), rdTT ht i i (by omega) (by omega), wsucc i (by omega), acyF]
    cases tb t i i
    · simp only [Bool.false_eq_true, if_false, Bool.not_false, Bool.true_and]; exact h
    · simp only [if_true, Bool.not_true, Bool.false_and]; exact ev_now _
theorem isPrec_l0 (n : Nat) (hn : n ≤ 8) (es : List S73) (hes : es.length ≤ 28) (hG : pfE (wrap64 ((n : Int) - 1)) es 0 es.length = true → inN n es) :
    ∀ (d i : Nat), i + d = es.length → (pfE (wrap64 ((n : Int) - 1)) es i d = true → pfE (wrap64 ((n : Int) - 1)) es 0 es.length = true) → Ev (fun k => impl_IsPrecedence.l0 k (n : Int) es es (es.length : Int) (i : Int)) (pfE (wrap64 ((n : Int) - 1)) es i d && acyF (closT n es) 0 n) := by
  intro d
  induction d with
  | zero =>
    intro i hi hp
    have hin := hG (hp rfl)
    have hl := (clos_sq n es hin).1
    refine ev_succ ?_
    simp only [impl_IsPrecedence.l0, if_neg (show ¬ (i : Int) < (es.length : Int) by omega), pfE, Bool.true_and]
    refine ev_bind (closure_ev n hn es (by omega) hin) ?_
    rw [hl]
    exact isPrec_l1 n hn _ (clos_sq n es hin) n 0 (by omega)
  | succ d ih =>
    intro i hi hp
    refine ev_succ ?_
    have hm : wrap64 ((n : Int) - 1) = (n : Int) - 1 := w64 (by omega) (by omega)
    have e1 : ∀ x : Int, decide (x ≤ (n : Int) - 1) = decide (x < (n : Int)) := fun x => by rw [decide_eq_decide]; omega
    have h := fun (hq : cE (wrap64 ((n : Int) - 1)) es i = true) => ih (i + 1) (by omega) (fun x => hp (by rw [pfE, hq, x]; rfl))
    simp only [impl_IsPrecedence.l0, if_pos (show (i : Int) < (es.length : Int) by omega), if_pos (show (0 : Int) ≤ (i : Int) by omega), isNumber_eq _ (n : Int) (by omega) (by omega), Option.bind_some, pfE]
    have hcE : cE (wrap64 ((n : Int) - 1)) es i = (decide (0 ≤ (rd_T73 es (i : Int)).f0) && decide ((rd_T73 es (i : Int)).f0 < (n : Int)) && (decide (0 ≤ (rd_T73 es (i : Int)).f1) && decide ((rd_T73 es (i : Int)).f1 < (n : Int))) && !decide ((rd_T73 es (i : Int)).f0 = (rd_T73 es (i : Int)).f1) &&
        (decide (i = 0) || decide ((rd_T73 es ((i - 1 : Nat) : Int)).f0 < (rd_T73 es (i : Int)).f0) || decide ((rd_T73 es ((i - 1 : Nat) : Int)).f0 = (rd_T73 es (i : Int)).f0) && decide ((rd_T73 es ((i - 1 : Nat) : Int)).f1 < (rd_T73 es (i : Int)).f1))) := by
      unfold cE; rw [hm, e1, e1]
    by_cases ha : (decide (0 ≤ (rd_T73 es (i : Int)).f0) && decide ((rd_T73 es (i : Int)).f0 < (n : Int))) = true
    · by_cases hb : (decide (0 ≤ (rd_T73 es (i : Int)).f1) && decide ((rd_T73 es (i : Int)).f1 < (n : Int))) = true
      · simp only [ha, hb, if_true]
        refine ev_succ ?_
        rw [ha, hb] at hcE
        by_cases hc : (rd_T73 es (i : Int)).f0 = (rd_T73 es (i : Int)).f1
        · rw [hcE]
          simp only [impl_IsPrecedence.j2, hc, beq_self_eq_true, if_true, decide_true, Bool.not_true, Bool.and_false, Bool.false_and]; exact ev_now _
        · by_cases h0 : i = 0
          · have hc' : cE (wrap64 ((n : Int) - 1)) es i = true := by rw [hcE]; simp only [decide_eq_false hc, decide_eq_true h0]; rfl
            have h := h hc'
            rw [hc']
            subst h0
            simp only [impl_IsPrecedence.j2, beq_eq_false_iff_ne.mpr hc, Bool.false_eq_true, if_false, gt_iff_lt, if_neg (show ¬ ((0 : Int) < ((0 : Nat) : Int)) by omega), wsucc 0 (by omega), Bool.true_and]
            exact h
          · simp only [impl_IsPrecedence.j2, beq_eq_false_iff_ne.mpr hc, Bool.false_eq_true, if_false, gt_iff_lt, ge_iff_le, if_pos (show (0 : Int) < (i : Int) by omega), wpred i (by omega) (by omega), if_pos (show (0 : Int) ≤ ((i - 1 : Nat) : Int) by omega), if_pos (show ((i - 1 : Nat) : Int) < (es.length : Int) by omega), wsucc i (by omega)]
            by_cases g1 : (rd_T73 es (i : Int)).f0 < (rd_T73 es ((i - 1 : Nat) : Int)).f0
            · have hc' : cE (wrap64 ((n : Int) - 1)) es i = false := by rw [hcE]; simp only [decide_eq_false h0, decide_eq_false (show ¬ (rd_T73 es ((i - 1 : Nat) : Int)).f0 < (rd_T73 es (i : Int)).f0 by omega), decide_eq_false (show ¬ (rd_T73 es ((i - 1 : Nat) : Int)).f0 = (rd_T73 es (i : Int)).f0 by omega), Bool.false_and, Bool.false_or, Bool.or_false, Bool.and_false]
              simp only [if_pos g1, hc', Bool.false_and]; exact ev_now _
            · simp only [if_neg g1]
              by_cases g2 : (rd_T73 es ((i - 1 : Nat) : Int)).f0 = (rd_T73 es (i : Int)).f0
              · simp only [if_pos g2]
                by_cases g3 : (rd_T73 es (i : Int)).f1 ≤ (rd_T73 es ((i - 1 : Nat) : Int)).f1
                · have hc' : cE (wrap64 ((n : Int) - 1)) es i = false := by rw [hcE]; simp only [decide_eq_false h0, decide_eq_false (show ¬ (rd_T73 es ((i - 1 : Nat) : Int)).f0 < (rd_T73 es (i : Int)).f0 by omega), decide_eq_false (show ¬ (rd_T73 es ((i - 1 : Nat) : Int)).f1 < (rd_T73 es (i : Int)).f1 by omega), Bool.and_false, Bool.false_or, Bool.or_false]
                  simp only [if_pos g3, hc', Bool.false_and]; exact ev_now _
                · have hc' : cE (wrap64 ((n : Int) - 1)) es i = true := by rw [hcE]; simp only [decide_eq_false hc, decide_eq_true g2, decide_eq_true (show (rd_T73 es ((i - 1 : Nat) : Int)).f1 < (rd_T73 es (i : Int)).f1 by omega), Bool.and_true, Bool.or_true, Bool.not_false]
                  simp only [if_neg g3, hc', Bool.true_and]; exact h hc'
              · have hc' : cE (wrap64 ((n : Int) - 1)) es i = true := by rw [hcE]; simp only [decide_eq_false hc, decide_eq_true (show (rd_T73 es ((i - 1 : Nat) : Int)).f0 < (rd_T73 es (i : Int)).f0 by omega), Bool.and_true, Bool.or_true, Bool.true_or, Bool.not_false]
                simp only [if_neg g2, hc', Bool.true_and]; exact h hc'
      · have hb' : (decide (0 ≤ (rd_T73 es (i : Int)).f1) && decide ((rd_T73 es (i : Int)).f1 < (n : Int))) = false := by simpa using hb
        have hc' : cE (wrap64 ((n : Int) - 1)) es i = false := by rw [hcE, hb', Bool.and_false, Bool.false_and, Bool.false_and]
        simp only [ha, if_true, if_neg hb, hc', Bool.false_and]
        refine ev_succ ?_
        simp only [impl_IsPrecedence.j2, if_true]; exact ev_now _
    · have ha' : (decide (0 ≤ (rd_T73 es (i : Int)).f0) && decide ((rd_T73 es (i : Int)).f0 < (n : Int))) = false := by simpa using ha
      have hc' : cE (wrap64 ((n : Int) - 1)) es i = false := by rw [hcE, ha', Bool.false_and, Bool.false_and, Bool.false_and]
      simp only [if_neg ha, hc', Bool.false_and]
      refine ev_succ ?_
      simp only [impl_IsPrecedence.j2, if_true]; exact ev_now _
theorem isPrec_ev (n : Int) (es : List S73) : Ev (fun k => impl_IsPrecedence.f k n es) (good4 n es) := by
  unfold impl_IsPrecedence.f
  simp only [within_eq, Option.bind_some]
  by_cases h : 0 ≤ n ∧ n ≤ 8
  · obtain ⟨m, rfl⟩ := Int.eq_ofNat_of_zero_le h.1
    have hb : (decide (0 ≤ (m : Int)) && decide ((m : Int) ≤ 8)) = true := by simp; omega
    simp only [hb, if_true]
    refine ev_succ ?_
    by_cases hl : (es.length : Int) > 28
    · have : good4 (m : Int) es = false := by unfold good4 okE; rw [decide_eq_false (show ¬ (es.length : Int) ≤ 28 by omega)]; simp
      simp only [impl_IsPrecedence.j0, decide_eq_true hl, if_true, this]; exact ev_now _
    · simp only [impl_IsPrecedence.j0, decide_eq_false hl, Bool.false_eq_true, if_false]
      have hk : good4 (m : Int) es = (pfE (wrap64 ((m : Int) - 1)) es 0 es.length && acyF (closT m es) 0 m) := by
        unfold good4 okE; rw [hb, decide_eq_true (show (es.length : Int) ≤ 28 by omega)]; simp
      rw [hk]
      refine isPrec_l0 m (by omega) es (by omega) (fun hp => ?_) es.length 0 (by omega) (fun x => x)
      obtain ⟨m', e, _, _, hin⟩ := okE_in (m : Int) es (by unfold okE; rw [hp, hb, decide_eq_true (show (es.length : Int) ≤ 28 by omega)]; rfl)
      rw [show m = m' by omega]; exact hin
  · have hb : (decide (0 ≤ n) && decide (n ≤ 8)) = false := by
      rw [Bool.eq_false_iff]; intro x; simp only [Bool.and_eq_true, decide_eq_true_eq] at x; exact h x
    have : good4 n es = false := by unfold good4 okE; rw [hb]; simp
    simp only [hb, Bool.false_eq_true, if_false, this]
    refine ev_succ ?_
    simp only [impl_IsPrecedence.j0, if_true]; exact ev_now _

theorem tb_put {n : Nat} {t : List (List Bool)} (h : Sq n t) (i j a b : Nat) (hi : i < n) (hj : j < n) (ha : a < n) (hb : b < n) (v : Bool) : tb (putT t i j v) a b = if a = i ∧ b = j then v else tb t a b := by
  have hl := h.1
  have hri := h.row i hi
  have hg : t.getD i [] = t[i] := by rw [List.getD_eq_getElem?_getD, List.getElem?_eq_getElem (by omega)]; rfl
  unfold tb putT
  rw [hg]
  by_cases c : a = i
  · subst c
    rw [List.getD_eq_getElem?_getD (l := t.set a _), List.getElem?_set_self (by omega), Option.getD_some, hg]
    by_cases cb : b = j
    · subst cb
      rw [if_pos ⟨rfl, rfl⟩, List.getD_eq_getElem?_getD, List.getElem?_set_self (by omega), Option.getD_some]
    · rw [if_neg (fun x => cb x.2), List.getD_eq_getElem?_getD, List.getElem?_set_ne (fun x => cb x.symm), ← List.getD_eq_getElem?_getD]
  · rw [if_neg (fun x => c x.1), List.getD_eq_getElem?_getD (l := t.set i _), List.getElem?_set_ne (fun x => c x.symm), ← List.getD_eq_getElem?_getD]
/-- What a phase has done at the places S. -/
def Phase (n k : Nat) (t t' : List (List Bool)) (S : Nat → Nat → Prop) : Prop := Sq n t' ∧ ∀ a b, a < n → b < n → (tb t' a b = true ↔ tb t a b = true ∨ S a b ∧ tb t a k = true ∧ tb t k b = true)
theorem Phase.step {n k : Nat} {t t' : List (List Bool)} {S : Nat → Nat → Prop} (h : Phase n k t t' S) (hk : k < n) (i j : Nat) (hi : i < n) (hj : j < n) : Phase n k t (stepT t' k i j) (fun a b => S a b ∨ a = i ∧ b = j) := by
  refine ⟨h.1.step k i j hi, fun a b ha hb => ?_⟩
  have h1 : tb t' i k = true ↔ tb t i k = true := by
    rw [h.2 i k hi hk]
    exact ⟨fun x => x.elim id (fun y => y.2.1), Or.inl⟩
  have h2 : tb t' k j = true ↔ tb t k j = true := by
    rw [h.2 k j hk hj]
    exact ⟨fun x => x.elim id (fun y => y.2.2), Or.inl⟩
  unfold stepT
  by_cases c : (tb t' i k && tb t' k j) = true
  · rw [if_pos c, tb_put h.1 i j a b hi hj ha hb]
    rw [Bool.and_eq_true, h1, h2] at c
    by_cases e : a = i ∧ b = j
    · rw [if_pos e]
      obtain ⟨rfl, rfl⟩ := e
      exact ⟨fun _ => Or.inr ⟨Or.inr ⟨rfl, rfl⟩, c.1, c.2⟩, fun _ => rfl⟩
    · rw [if_neg e, h.2 a b ha hb]
      exact ⟨fun x => x.imp id (fun y => ⟨Or.inl y.1, y.2⟩), fun x => x.imp id (fun y => ⟨y.1.resolve_right e, y.2⟩)⟩
  · rw [if_neg c, h.2 a b ha hb]
    rw [Bool.and_eq_true, h1, h2] at c
    refine ⟨fun x => x.imp id (fun y => ⟨Or.inl y.1, y.2⟩), fun x => ?_⟩
    rcases x with x | ⟨s | ⟨rfl, rfl⟩, y⟩
    · exact Or.inl x
    · exact Or.inr ⟨s, y⟩
    · exact absurd y c
theorem Phase.congr {n k : Nat} {t t' : List (List Bool)} {S S' : Nat → Nat → Prop} (h : Phase n k t t' S) (e : ∀ a b, a < n → b < n → (S a b ↔ S' a b)) : Phase n k t t' S' := ⟨h.1, fun a b ha hb => by rw [h.2 a b ha hb, e a b ha hb]⟩
theorem Phase.row {n k : Nat} {t : List (List Bool)} (hk : k < n) (i : Nat) (hi : i < n) : ∀ (js : List Nat) (t' : List (List Bool)) (S : Nat → Nat → Prop), (∀ j ∈ js, j < n) → Phase n k t t' S → Phase n k t (rowF t' k i js) (fun a b => S a b ∨ a = i ∧ b ∈ js) := by
  intro js
  induction js with
  | nil => intro t' S _ h; exact h.congr (fun a b _ _ => by simp)
  | cons j js ih =>
    intro t' S hj h
    have h' := ih (stepT t' k i j) _ (fun x hx => hj x (by simp [hx])) (h.step hk i j hi (hj j (by simp)))
    refine Phase.congr h' (fun a b _ _ => ?_)
    constructor
    · rintro ((s | ⟨rfl, rfl⟩) | ⟨rfl, hb⟩)
      · exact Or.inl s
      · exact Or.inr ⟨rfl, by simp⟩
      · exact Or.inr ⟨rfl, by simp [hb]⟩
    · rintro (s | ⟨rfl, hb⟩)
      · exact Or.inl (Or.inl s)
      · rcases List.mem_cons.mp hb with rfl | hb
        · exact Or.inl (Or.inr ⟨rfl, rfl⟩)
        · exact Or.inr ⟨rfl, hb⟩
theorem Phase.mid {n k : Nat} {t : List (List Bool)} (hk : k < n) : ∀ (is : List Nat) (t' : List (List Bool)) (S : Nat → Nat → Prop), (∀ i ∈ is, i < n) → Phase n k t t' S → Phase n k t (midF n t' k is) (fun a b => S a b ∨ a ∈ is) := by
  intro is
  induction is with
  | nil => intro t' S _ h; exact h.congr (fun a b _ _ => by simp)
  | cons i is ih =>
    intro t' S hi h
    have h' := ih (rowF t' k i (List.range' 0 n)) _ (fun x hx => hi x (by simp [hx])) (Phase.row hk i (hi i (by simp)) (List.range' 0 n) t' S (fun j hj => by rw [List.mem_range'_1] at hj; omega) h)
    refine Phase.congr h' (fun a b _ hb => ?_)
    constructor
    · rintro ((s | ⟨rfl, _⟩) | hm)
      · exact Or.inl s
      · exact Or.inr (by simp)
      · exact Or.inr (by simp [hm])
    · rintro (s | hm)
      · exact Or.inl (Or.inl s)
      · rcases List.mem_cons.mp hm with rfl | hm
        · exact Or.inl (Or.inr ⟨rfl, by rw [List.mem_range'_1]; omega⟩)
        · exact Or.inr hm
theorem mid_tb {n k : Nat} {t : List (List Bool)} (ht : Sq n t) (hk : k < n) (a b : Nat) (ha : a < n) (hb : b < n) : tb (midF n t k (List.range' 0 n)) a b = true ↔ tb t a b = true ∨ tb t a k = true ∧ tb t k b = true := by
  have h0 : Phase n k t t (fun _ _ => False) := ⟨ht, fun a b _ _ => by simp⟩
  have h := Phase.mid hk (List.range' 0 n) t _ (fun i hi => by rw [List.mem_range'_1] at hi; omega) h0
  rw [h.2 a b ha hb]
  have hm : a ∈ List.range' 0 n := by rw [List.mem_range'_1]; omega
  simp [hm]
/-- Steps through the jobs before k are closed. -/
def Tr (n k : Nat) (t : List (List Bool)) : Prop := ∀ m a b, m < k → a < n → b < n → tb t a m = true → tb t m b = true → tb t a b = true
theorem out_tr (n : Nat) : ∀ (d k : Nat) (t : List (List Bool)), k + d = n → Sq n t → Tr n k t → Tr n n (outF n t (List.range' k d)) ∧ Sq n (outF n t (List.range' k d)) := by
  intro d
  induction d with
  | zero => intro k t hk ht h; rw [show k = n by omega] at h; exact ⟨h, ht⟩
  | succ d ih =>
    intro k t hk ht h
    rw [List.range'_succ]
    refine ih (k + 1) (midF n t k (List.range' 0 n)) (by omega) (mid_sq ht k _ (fun i hi => by rw [List.mem_range'_1] at hi; omega)) ?_
    intro m a b hm ha hb h1 h2
    have hkn : k < n := by omega
    have hmn : m < n := by omega
    rw [mid_tb ht hkn a m ha hmn] at h1
    rw [mid_tb ht hkn m b hmn hb] at h2
    rw [mid_tb ht hkn a b ha hb]
    by_cases c : m = k
    · subst c
      exact Or.inr ⟨h1.elim id (fun x => x.1), h2.elim id (fun x => x.2)⟩
    · have hmk : m < k := by omega
      rcases h1 with h1 | ⟨h1, h1'⟩
      · rcases h2 with h2 | ⟨h2, h2'⟩
        · exact Or.inl (h m a b hmk ha hb h1 h2)
        · exact Or.inr ⟨h m a k hmk ha hkn h1 h2, h2'⟩
      · rcases h2 with h2 | ⟨h2, h2'⟩
        · exact Or.inr ⟨h1, h m k b hmk hkn hb h1' h2⟩
        · exact Or.inr ⟨h1, h2'⟩
theorem clos_tr (n : Nat) (es : List S73) (hin : inN n es) : ∀ a m b, a < n → m < n → b < n → tb (closT n es) a m = true → tb (closT n es) m b = true → tb (closT n es) a b = true := by
  have h0 : Sq n (edgeF (List.replicate n (List.replicate n false)) es) := edge_sq ⟨by simp, fun r hr => by rw [List.eq_of_mem_replicate hr]; simp⟩ es hin
  have h := (out_tr n n 0 _ (Nat.zero_add _) h0 (fun m a b hm => by omega)).1
  intro a m b ha hm hb h1 h2
  exact h m a b hm ha hb h1 h2
theorem acy_irr (n : Nat) (t : List (List Bool)) : ∀ (d i : Nat), acyF t i d = true → ∀ j, i ≤ j → j < i + d → tb t j j = false := by
  intro d
  induction d with
  | zero => intro i _ j h1 h2; omega
  | succ d ih =>
    intro i h j h1 h2
    unfold acyF at h
    rw [Bool.and_eq_true] at h
    by_cases e : j = i
    · subst e; simpa using h.1
    · exact ih (i + 1) h.2 j (by omega) (by omega)
/-- What a good precedence gives. -/
theorem good4_facts (n : Int) (es : List S73) (h : good4 n es = true) : ∃ m : Nat, n = m ∧ m ≤ 8 ∧ es.length ≤ 28 ∧ inN m es ∧ (∀ j, j < m → tb (closT m es) j j = false) := by
  unfold good4 at h
  rw [Bool.and_eq_true] at h
  obtain ⟨m, rfl, h1, h2, h3⟩ := okE_in n es h.1
  refine ⟨m, rfl, h1, h2, h3, fun j hj => ?_⟩
  have := h.2
  rw [Int.toNat_natCast] at this
  exact acy_irr m _ m 0 this j (by omega) (by omega)
/-- How many jobs come after a job, among those before a number. -/
def cntF (t : List (List Bool)) (j : Nat) : Nat → Nat
  | 0 => 0
  | d + 1 => cntF t j d + if tb t j d = true then 1 else 0
theorem cnt_le (t : List (List Bool)) (i j : Nat) : ∀ d : Nat, (∀ b, b < d → tb t i b = true → tb t j b = true) → cntF t i d ≤ cntF t j d := by
  intro d
  induction d with
  | zero => intro _; exact Nat.le_refl _
  | succ d ih =>
    intro h
    have h1 := ih (fun b hb => h b (by omega))
    unfold cntF
    by_cases c : tb t i d = true
    · rw [if_pos c, if_pos (h d (by omega) c)]; omega
    · rw [if_neg c]; omega
theorem cnt_lt (t : List (List Bool)) (i j : Nat) : ∀ d : Nat, (∀ b, b < d → tb t i b = true → tb t j b = true) → (∃ b, b < d ∧ tb t i b = false ∧ tb t j b = true) → cntF t i d < cntF t j d := by
  intro d
  induction d with
  | zero => rintro _ ⟨b, hb, _⟩; omega
  | succ d ih =>
    rintro h ⟨b, hb, h1, h2⟩
    unfold cntF
    by_cases e : b = d
    · subst e
      have := cnt_le t i j b (fun x hx => h x (by omega))
      rw [if_pos h2, if_neg (by rw [h1]; decide)]; omega
    · have := ih (fun x hx => h x (by omega)) ⟨b, by omega, h1, h2⟩
      by_cases c : tb t i d = true
      · rw [if_pos c, if_pos (h d (by omega) c)]; omega
      · rw [if_neg c]; omega
theorem cnt_bound (t : List (List Bool)) (j : Nat) : ∀ d : Nat, cntF t j d ≤ d := by
  intro d
  induction d with
  | zero => exact Nat.le_refl _
  | succ d ih => unfold cntF; split <;> omega
/-- Of two jobs in order the later one has fewer after it. -/
theorem cnt_desc (n : Nat) (es : List S73) (hin : inN n es) (hirr : ∀ j, j < n → tb (closT n es) j j = false) (j i : Nat) (hj : j < n) (hi : i < n) (h : tb (closT n es) j i = true) : cntF (closT n es) i n < cntF (closT n es) j n :=
  cnt_lt _ i j n (fun b hb hib => clos_tr n es hin j i b hj hi hb h hib) ⟨i, hi, hirr i hi, h⟩

theorem shrN (c i : Nat) (h : i ≤ 64) : shr .i64 (c : Int) (i : Int) = ((c / 2 ^ i : Nat) : Int) := by
  unfold shr
  rw [Int.toNat_natCast, Nat.min_eq_left (show i ≤ IntKind.i64.bits from h)]
  rw [Int.natCast_ediv, Int.natCast_pow]
  rfl
theorem and1 : ∀ m : Nat, m < 256 → Go.bits .and .i64 (m : Int) 1 = ((m % 2 : Nat) : Int) := by decide +kernel
theorem shl1 : ∀ i : Nat, i < 9 → shl .i64 1 (i : Int) = ((2 ^ i : Nat) : Int) := by decide +kernel
theorem andn : ∀ c : Nat, c < 256 → ∀ i : Nat, i < 8 → c / 2 ^ i % 2 = 1 → Go.bits .andNot .i64 (c : Int) ((2 ^ i : Nat) : Int) = ((c - 2 ^ i : Nat) : Int) := by decide +kernel
theorem pow8 (n : Nat) (h : n ≤ 8) : 2 ^ n ≤ 256 := Nat.pow_le_pow_right (by omega) h
theorem shr_and (c i : Nat) (hc : c < 256) (hi : i ≤ 64) : Go.bits .and .i64 (shr .i64 (c : Int) (i : Int)) 1 = ((c / 2 ^ i % 2 : Nat) : Int) := by
  rw [shrN c i hi]
  exact and1 _ (Nat.lt_of_le_of_lt (Nat.div_le_self _ _) hc)
theorem mod1 {x : Nat} (h : x % 2 = 1) : ((x % 2 : Nat) : Int) = 1 := by rw [h]; rfl
theorem mod0 {x : Nat} (h : ¬ x % 2 = 1) : ((x % 2 : Nat) : Int) = 0 := by rw [show x % 2 = 0 by omega]; rfl
theorem mod1' {x : Nat} (h : x % 2 = 1) : ¬ ((x % 2 : Nat) : Int) = 0 := by rw [h]; decide
theorem mod0' {x : Nat} (h : ¬ x % 2 = 1) : ¬ ((x % 2 : Nat) : Int) = 1 := by rw [show x % 2 = 0 by omega]; decide
theorem bit_le (c i : Nat) (h : c / 2 ^ i % 2 = 1) : 2 ^ i ≤ c := by
  rcases Nat.lt_or_ge c (2 ^ i) with hl | hl
  · rw [Nat.div_eq_of_lt hl] at h; omega
  · exact hl
/-- The numbers of the bits of c, from i on. -/
def blF (c i : Nat) : Nat → List Int
  | 0 => []
  | d + 1 => if c / 2 ^ i % 2 = 1 then (i : Int) :: blF c (i + 1) d else blF c (i + 1) d
theorem blF_hit {c i : Nat} (h : c / 2 ^ i % 2 = 1) (d : Nat) : blF c i (d + 1) = (i : Int) :: blF c (i + 1) d := by rw [blF, if_pos h]
theorem blF_miss {c i : Nat} (h : ¬ c / 2 ^ i % 2 = 1) (d : Nat) : blF c i (d + 1) = blF c (i + 1) d := by rw [blF, if_neg h]
theorem wsub {c q : Nat} (h : q ≤ c) (hc : c ≤ 4611686018427387904) : wrap64 ((c : Int) - (q : Int)) = ((c - q : Nat) : Int) := by rw [w64 (by omega) (by omega)]; omega
theorem blF_nil (c : Nat) : ∀ d i : Nat, c / 2 ^ i = 0 → blF c i d = [] := by
  intro d
  induction d with
  | zero => intro i _; rfl
  | succ d ih =>
    intro i h
    unfold blF
    rw [if_neg (by omega)]
    refine ih (i + 1) ?_
    rw [Nat.pow_succ, ← Nat.div_div_eq_div_mul, h]
theorem blF_mem (c : Nat) : ∀ d i : Nat, ∀ x ∈ blF c i d, ∃ j : Nat, x = (j : Int) ∧ i ≤ j ∧ j < i + d ∧ c / 2 ^ j % 2 = 1 := by
  intro d
  induction d with
  | zero => intro i x hx; simp [blF] at hx
  | succ d ih =>
    intro i x hx
    unfold blF at hx
    split at hx
    · rcases List.mem_cons.mp hx with rfl | hx
      · exact ⟨i, rfl, by omega, by omega, by assumption⟩
      · obtain ⟨j, a, b, e, f⟩ := ih (i + 1) x hx
        exact ⟨j, a, by omega, by omega, f⟩
    · obtain ⟨j, a, b, e, f⟩ := ih (i + 1) x hx
      exact ⟨j, a, by omega, by omega, f⟩
theorem blF_len (c : Nat) : ∀ d i : Nat, (blF c i d).length ≤ d := by
  intro d
  induction d with
  | zero => intro i; exact Nat.le_refl _
  | succ d ih =>
    intro i
    unfold blF
    have := ih (i + 1)
    split
    · rw [List.length_cons]; omega
    · omega
theorem rdz (xs : List Int) (i : Nat) (h : i < xs.length) : rd xs (i : Int) = xs[i] := by
  unfold rd
  rw [Int.toNat_natCast, List.getD_eq_getElem?_getD, List.getElem?_eq_getElem h]
  rfl
theorem rd_left (a b : List Int) (i : Nat) (h : i < a.length) : rd (a ++ b) (i : Int) = rd a (i : Int) := by
  rw [rdz _ i (by rw [List.length_append]; omega), rdz a i h, List.getElem_append_left h]
theorem rd_mid (a b : List Int) (x : Int) (i : Nat) (h : i = a.length) : rd (a ++ x :: b) (i : Int) = x := by
  subst h
  rw [rdz _ _ (by rw [List.length_append, List.length_cons]; omega)]
  simp
theorem set_mid (a b : List Int) (x y : Int) (i : Nat) (h : i = a.length) : (a ++ x :: b).set i y = a ++ y :: b := by
  subst h
  simp

theorem pc_less : ∀ c : Nat, c < 256 → ∀ i : Nat, i < 8 → c / 2 ^ i % 2 = 1 → (blF (c - 2 ^ i) 0 8).length + 1 = (blF c 0 8).length := by decide +kernel
theorem pc_all : ∀ n : Nat, n < 9 → (blF (2 ^ n - 1) 0 8).length = n := by decide +kernel
theorem pc_pos : ∀ c : Nat, c < 256 → 0 < c → 0 < (blF c 0 8).length := by decide +kernel
theorem pc_zero : ∀ c : Nat, c < 256 → (blF c 0 8).length = 0 → c = 0 := by
  intro c hc h
  rcases Nat.eq_zero_or_pos c with h0 | h0
  · exact h0
  · have := pc_pos c hc h0; omega
theorem blF_ext (c e : Nat) : ∀ d i : Nat, c / 2 ^ (i + d) = 0 → blF c i (d + e) = blF c i d := by
  intro d
  induction d with
  | zero => intro i h; rw [Nat.zero_add]; exact blF_nil c e i h
  | succ d ih =>
    intro i h
    rw [show d + 1 + e = (d + e) + 1 by omega, blF, blF, ih (i + 1) (by rw [show i + 1 + d = i + (d + 1) by omega]; exact h)]
theorem bl8 (c n : Nat) (hn : n ≤ 8) (hc : c < 2 ^ n) : blF c 0 8 = blF c 0 n := by
  have := blF_ext c (8 - n) n 0 (by rw [Nat.zero_add]; exact Nat.div_eq_of_lt hc)
  rwa [show n + (8 - n) = 8 by omega] at this

theorem bit_less0 : ∀ c : Nat, c < 256 → ∀ r : Nat, r < 8 → ∀ j : Nat, j < 8 → (!decide (c / 2 ^ r % 2 = 1) || (decide ((c - 2 ^ r) / 2 ^ j % 2 = 1) == (decide (c / 2 ^ j % 2 = 1) && !decide (j = r)))) = true := by decide +kernel
theorem bit_less (c : Nat) (hc : c < 256) (r : Nat) (hr : r < 8) (h : c / 2 ^ r % 2 = 1) (j : Nat) (hj : j < 8) : ((c - 2 ^ r) / 2 ^ j % 2 = 1) ↔ (c / 2 ^ j % 2 = 1 ∧ j ≠ r) := by
  have := bit_less0 c hc r hr j hj
  rw [decide_eq_true h, Bool.not_true, Bool.false_or, beq_iff_eq] at this
  rw [← decide_eq_true_eq (p := (c - 2 ^ r) / 2 ^ j % 2 = 1), this, Bool.and_eq_true, decide_eq_true_eq, Bool.not_eq_true', decide_eq_false_iff_not]
theorem bit_full : ∀ n : Nat, n < 9 → ∀ j : Nat, j < n → (2 ^ n - 1) / 2 ^ j % 2 = 1 := by decide +kernel
def bitB (c j : Nat) : Bool := decide (c / 2 ^ j % 2 = 1)

theorem l1Has_ev (ls : List Int) (x : Int) (hn : ls.length ≤ 1048576) : Ev (fun k => spec_l1Has.f k ls x) (decide (x ∈ ls)) := by
  have key : ∀ (d i : Nat), i + d = ls.length → Ev (fun k => spec_l1Has.l0 k ls x (i : Int)) (decide (x ∈ ls.drop i)) := by
    intro d
    induction d with
    | zero =>
      intro i hi
      refine ev_succ ?_
      rw [List.drop_of_length_le (by omega)]
      simp only [spec_l1Has.l0, if_neg (show ¬ (i : Int) < (ls.length : Int) by omega), List.not_mem_nil, decide_false]
      exact ev_now _
    | succ d ih =>
      intro i hi
      refine ev_succ ?_
      have hx : i < ls.length := by omega
      rw [List.drop_eq_getElem_cons hx]
      simp only [spec_l1Has.l0, if_pos (show (i : Int) < (ls.length : Int) by omega), if_pos (show (0 : Int) ≤ (i : Int) by omega), rdz ls i hx, wsucc i (by omega)]
      by_cases c : ls[i] = x
      · simp only [if_pos c, List.mem_cons, show x = ls[i] from c.symm, true_or, decide_true]; exact ev_now _
      · simp only [if_neg c, List.mem_cons, show ¬ x = ls[i] from fun e => c e.symm, false_or]; exact ih (i + 1) (by omega)
  have h := key ls.length 0 (Nat.zero_add _)
  rw [List.drop_zero] at h
  unfold spec_l1Has.f
  exact h

theorem bit_more0 : ∀ c : Nat, c < 256 → ∀ r : Nat, r < 8 → ∀ j : Nat, j < 8 → (decide (c / 2 ^ r % 2 = 1) || (decide ((c + 2 ^ r) / 2 ^ j % 2 = 1) == (decide (c / 2 ^ j % 2 = 1) || decide (j = r)))) = true := by decide +kernel
theorem pc_more0 : ∀ c : Nat, c < 256 → ∀ r : Nat, r < 8 → (decide (c / 2 ^ r % 2 = 1) || decide (c + 2 ^ r < 256 ∧ (blF (c + 2 ^ r) 0 8).length = (blF c 0 8).length + 1)) = true := by decide +kernel
theorem bb_more (c : Nat) (hc : c < 256) (r : Nat) (hr : r < 8) (h : bitB c r = false) (j : Nat) (hj : j < 8) : bitB (c + 2 ^ r) j = (bitB c j || decide (j = r)) := by
  have := bit_more0 c hc r hr j hj
  unfold bitB at h ⊢
  rw [h, Bool.false_or, beq_iff_eq] at this
  exact this
theorem bb_less (c : Nat) (hc : c < 256) (r : Nat) (hr : r < 8) (h : bitB c r = true) (j : Nat) (hj : j < 8) : bitB (c - 2 ^ r) j = (bitB c j && !decide (j = r)) := by
  have := bit_less0 c hc r hr j hj
  unfold bitB at h ⊢
  rw [h, Bool.not_true, Bool.false_or, beq_iff_eq] at this
  exact this
theorem pc_more (c : Nat) (hc : c < 256) (r : Nat) (hr : r < 8) (h : bitB c r = false) : c + 2 ^ r < 256 ∧ (blF (c + 2 ^ r) 0 8).length = (blF c 0 8).length + 1 := by
  have := pc_more0 c hc r hr
  unfold bitB at h
  rw [h, Bool.false_or, decide_eq_true_eq] at this
  exact this
theorem pc_less' (c : Nat) (hc : c < 256) (r : Nat) (hr : r < 8) (h : bitB c r = true) : (blF (c - 2 ^ r) 0 8).length + 1 = (blF c 0 8).length := pc_less c hc r hr (of_decide_eq_true h)
theorem code_ext0 : ∀ c : Nat, c < 256 → c = (blF c 0 8).foldl (fun a x => a + 2 ^ x.toNat) 0 := by decide +kernel
def bitsum (c i : Nat) : Nat → Nat
  | 0 => 0
  | d + 1 => (if bitB c i = true then 2 ^ i else 0) + bitsum c (i + 1) d
theorem code_ext1 : ∀ c : Nat, c < 256 → c = bitsum c 0 8 := by decide +kernel
theorem bitsum_congr (c e : Nat) : ∀ d i : Nat, (∀ j, i ≤ j → j < i + d → bitB c j = bitB e j) → bitsum c i d = bitsum e i d := by
  intro d
  induction d with
  | zero => intro i _; rfl
  | succ d ih =>
    intro i h
    unfold bitsum
    rw [h i (by omega) (by omega), ih (i + 1) (fun j h1 h2 => h j (by omega) (by omega))]
/-- Equal bits, equal sets. -/
theorem code_ext (c e : Nat) (hc : c < 256) (he : e < 256) (h : ∀ j, j < 8 → bitB c j = bitB e j) : c = e := by
  rw [code_ext1 c hc, code_ext1 e he]
  exact bitsum_congr c e 8 0 (fun j _ hj => h j (by omega))
/-! Sums. -/
def sumN (f : Nat → Nat) (i : Nat) : Nat → Nat
  | 0 => 0
  | d + 1 => f i + sumN f (i + 1) d
theorem sumN_congr (f g : Nat → Nat) : ∀ d i : Nat, (∀ j, i ≤ j → j < i + d → f j = g j) → sumN f i d = sumN g i d := by
  intro d
  induction d with
  | zero => intro i _; rfl
  | succ d ih =>
    intro i h
    unfold sumN
    rw [h i (by omega) (by omega), ih (i + 1) (fun j h1 h2 => h j (by omega) (by omega))]
theorem sumN_zero : ∀ (d i : Nat), sumN (fun _ => 0) i d = 0 := by
  intro d
  induction d with
  | zero => intro i; rfl
  | succ d ih => intro i; unfold sumN; rw [ih]
theorem sumN_add (f g : Nat → Nat) : ∀ d i : Nat, sumN (fun j => f j + g j) i d = sumN f i d + sumN g i d := by
  intro d
  induction d with
  | zero => intro i; rfl
  | succ d ih => intro i; unfold sumN; rw [ih]; omega
theorem sumN_swap (f : Nat → Nat → Nat) : ∀ (d i e k : Nat), sumN (fun a => sumN (fun b => f a b) k e) i d = sumN (fun b => sumN (fun a => f a b) i d) k e := by
  intro d
  induction d with
  | zero => intro i e k; exact (sumN_zero e k).symm
  | succ d ih =>
    intro i e k
    conv => lhs; unfold sumN
    rw [ih (i + 1) e k, ← sumN_add]
    rfl
theorem sumN_le (f : Nat → Nat) (B : Nat) : ∀ d i : Nat, (∀ j, i ≤ j → j < i + d → f j ≤ B) → sumN f i d ≤ d * B := by
  intro d
  induction d with
  | zero => intro i _; exact Nat.zero_le _
  | succ d ih =>
    intro i h
    have h1 := h i (by omega) (by omega)
    have h2 := ih (i + 1) (fun j h1 h2 => h j (by omega) (by omega))
    unfold sumN
    rw [Nat.succ_mul]; omega
theorem sumN_one (f : Nat → Nat) (r : Nat) : ∀ d i : Nat, i ≤ r → r < i + d → (∀ j, i ≤ j → j < i + d → j ≠ r → f j = 0) → sumN f i d = f r := by
  intro d
  induction d with
  | zero => intro i h1 h2; omega
  | succ d ih =>
    intro i h1 h2 h
    unfold sumN
    by_cases e : i = r
    · subst e
      rw [sumN_congr f (fun _ => 0) d (i + 1) (fun j h1 h2 => h j (by omega) (by omega) (by omega)), sumN_zero]; rfl
    · rw [h i (by omega) (by omega) e, Nat.zero_add]
      exact ih (i + 1) (by omega) (by omega) (fun j h1 h2 h3 => h j (by omega) (by omega) h3)
/-! Chains of initial sets. -/
/-- All before i are in c, from k on. -/
def befB (t : List (List Bool)) (c i k : Nat) : Nat → Bool
  | 0 => true
  | d + 1 => (!tb t k i || bitB c k) && befB t c i (k + 1) d
theorem befB_true (t : List (List Bool)) (c i : Nat) : ∀ d k : Nat, befB t c i k d = true ↔ ∀ q, k ≤ q → q < k + d → tb t q i = true → bitB c q = true := by
  intro d
  induction d with
  | zero => intro k; exact ⟨fun _ q h1 h2 => by omega, fun _ => rfl⟩
  | succ d ih =>
    intro k
    unfold befB
    rw [Bool.and_eq_true, ih (k + 1)]
    constructor
    · rintro ⟨h1, h2⟩ q hq hq' hb
      by_cases e : q = k
      · subst e
        rw [hb, Bool.not_true, Bool.false_or] at h1
        exact h1
      · exact h2 q (by omega) (by omega) hb
    · intro h
      refine ⟨?_, fun q h1 h2 hb => h q (by omega) (by omega) hb⟩
      cases hb : tb t k i
      · rfl
      · rw [h k (by omega) (by omega) hb]; rfl
/-- Initial sets. -/
def iniB (t : List (List Bool)) (n c k : Nat) : Nat → Bool
  | 0 => true
  | d + 1 => (!bitB c k || befB t c k 0 n) && iniB t n c (k + 1) d
theorem iniB_true (t : List (List Bool)) (n c : Nat) : ∀ d k : Nat, iniB t n c k d = true ↔ ∀ i, k ≤ i → i < k + d → bitB c i = true → befB t c i 0 n = true := by
  intro d
  induction d with
  | zero => intro k; exact ⟨fun _ q h1 h2 => by omega, fun _ => rfl⟩
  | succ d ih =>
    intro k
    unfold iniB
    rw [Bool.and_eq_true, ih (k + 1)]
    constructor
    · rintro ⟨h1, h2⟩ q hq hq' hb
      by_cases e : q = k
      · subst e
        rw [hb, Bool.not_true, Bool.false_or] at h1
        exact h1
      · exact h2 q (by omega) (by omega) hb
    · intro h
      refine ⟨?_, fun q h1 h2 hb => h q (by omega) (by omega) hb⟩
      cases hb : bitB c k
      · rfl
      · rw [h k (by omega) (by omega) hb]; rfl
def Ini (t : List (List Bool)) (n c : Nat) : Prop := ∀ i q, i < n → q < n → bitB c i = true → tb t q i = true → bitB c q = true
theorem ini_iff (t : List (List Bool)) (n c : Nat) : iniB t n c 0 n = true ↔ Ini t n c := by
  rw [iniB_true]
  constructor
  · intro h i q hi hq hb ht
    exact (befB_true t c i n 0).1 (h i (by omega) (by omega) hb) q (by omega) (by omega) ht
  · intro h i _ hi hb
    exact (befB_true t c i n 0).2 (fun q _ hq ht => h i q (by omega) (by omega) hb ht)
def stepB' (t : List (List Bool)) (n F S j : Nat) : Bool := bitB F j && !bitB S j && befB t S j 0 n
/-- The number of ways from S to F, m steps away. -/
def waysN (t : List (List Bool)) (n F : Nat) : Nat → Nat → Nat
  | 0, _ => 1
  | m + 1, S => sumN (fun j => if stepB' t n F S j = true then waysN t n F m (S + 2 ^ j) else 0) 0 n
theorem ways_le (t : List (List Bool)) (n F : Nat) (hn : n ≤ 8) : ∀ m S : Nat, waysN t n F m S ≤ 8 ^ m := by
  intro m
  induction m with
  | zero => intro S; exact Nat.le_refl _
  | succ m ih =>
    intro S
    unfold waysN
    have := sumN_le (fun j => if stepB' t n F S j = true then waysN t n F m (S + 2 ^ j) else 0) (8 ^ m) n 0 (fun j _ _ => by
      try dsimp only
      split
      · exact ih _
      · exact Nat.zero_le _)
    rw [Nat.pow_succ, Nat.mul_comm]
    exact Nat.le_trans this (Nat.mul_le_mul_right _ hn)
def Sub (n S F : Nat) : Prop := ∀ j, j < n → bitB S j = true → bitB F j = true
section
variable {t : List (List Bool)} {n : Nat} (hn : n ≤ 8) (hirr : ∀ j, j < n → tb t j j = false)
include hn hirr
theorem last_step : ∀ (m F S : Nat), F < 2 ^ n → S < 2 ^ n → Ini t n F → Ini t n S → Sub n S F → (blF F 0 8).length = (blF S 0 8).length + (m + 1) →
    waysN t n F (m + 1) S = sumN (fun j => if (bitB F j && !bitB S j && iniB t n (F - 2 ^ j) 0 n) = true then waysN t n (F - 2 ^ j) m S else 0) 0 n := by
  have h8 := pow8 n hn
  have hbig : ∀ c : Nat, c < 2 ^ n → ∀ j, n ≤ j → bitB c j = false := fun c hc j hj => by
    unfold bitB
    rw [decide_eq_false_iff_not, Nat.div_eq_of_lt (Nat.lt_of_lt_of_le hc (Nat.pow_le_pow_right (by omega) hj))]
    omega
  intro m
  induction m with
  | zero =>
    intro F S hF hS iF iS hsub hpc
    -- one job is missing
    have hex : ∃ i, i < n ∧ bitB F i = true ∧ bitB S i = false := by
      refine Classical.byContradiction (fun h => ?_)
      have e : F = S := code_ext F S (by omega) (by omega) (fun j hj => by
        by_cases hjn : j < n
        · cases hb : bitB S j
          · cases hb' : bitB F j
            · rfl
            · exact absurd ⟨j, hjn, hb', hb⟩ h
          · exact hsub j hjn hb
        · rw [hbig F hF j (by omega), hbig S hS j (by omega)])
      rw [e] at hpc; omega
    obtain ⟨i, hi, hFi, hSi⟩ := hex
    have hpl := pc_less' F (by omega) i (by omega) hFi
    have e : F - 2 ^ i = S := by
      refine Classical.byContradiction (fun h => ?_)
      have hex2 : ∃ q, q < n ∧ bitB (F - 2 ^ i) q = true ∧ bitB S q = false := by
        refine Classical.byContradiction (fun h' => h ?_)
        refine code_ext _ S (Nat.lt_of_le_of_lt (Nat.sub_le _ _) (by omega)) (by omega) (fun j hj => ?_)
        by_cases hjn : j < n
        · cases hb : bitB S j
          · cases hb' : bitB (F - 2 ^ i) j
            · rfl
            · exact absurd ⟨j, hjn, hb', hb⟩ h'
          · rw [bb_less F (by omega) i (by omega) hFi j hj, hsub j hjn hb]
            have : j ≠ i := by rintro rfl; rw [hSi] at hb; cases hb
            rw [decide_eq_false this]; rfl
        · rw [hbig _ (Nat.lt_of_le_of_lt (Nat.sub_le _ _) hF) j (by omega), hbig S hS j (by omega)]
      obtain ⟨q, hq, hq1, hq2⟩ := hex2
      -- then two are missing: S and i and q lie in F
      have hs1 := pc_more S (by omega) i (by omega) hSi
      have hqi : q ≠ i := by
        rintro rfl
        rw [bb_less F (by omega) q (by omega) hFi q (by omega), decide_eq_true rfl, Bool.not_true, Bool.and_false] at hq1
        cases hq1
      have hq3 : bitB (S + 2 ^ i) q = false := by rw [bb_more S (by omega) i (by omega) hSi q (by omega), hq2, decide_eq_false hqi]; rfl
      have hs2 := pc_more (S + 2 ^ i) hs1.1 q (by omega) hq3
      have hmono : ∀ c e : Nat, c < 256 → e < 256 → (∀ j, j < 8 → bitB c j = true → bitB e j = true) → (blF c 0 8).length ≤ (blF e 0 8).length := by
        intro c e _ _ hce
        have : ∀ d k : Nat, k + d ≤ 8 → (blF c k d).length ≤ (blF e k d).length := by
          intro d
          induction d with
          | zero => intro k _; exact Nat.le_refl _
          | succ d ih =>
            intro k hk
            have := ih (k + 1) (by omega)
            by_cases hb : c / 2 ^ k % 2 = 1
            · have hb' : e / 2 ^ k % 2 = 1 := of_decide_eq_true (hce k (by omega) (decide_eq_true hb))
              rw [blF_hit hb, blF_hit hb', List.length_cons, List.length_cons]; omega
            · rw [blF_miss hb]
              by_cases hb' : e / 2 ^ k % 2 = 1
              · rw [blF_hit hb', List.length_cons]; omega
              · rw [blF_miss hb']; exact this
        exact this 8 0 (by omega)
      have := hmono (S + 2 ^ i + 2 ^ q) F hs2.1 (by omega) (fun j hj hb => by
        rw [bb_more _ hs1.1 q (by omega) hq3 j hj, bb_more S (by omega) i (by omega) hSi j hj] at hb
        rw [bb_less F (by omega) i (by omega) hFi q (by omega)] at hq1
        by_cases hjn : j < n
        · cases hbS : bitB S j
          · rw [hbS, Bool.false_or, Bool.or_eq_true, decide_eq_true_eq, decide_eq_true_eq] at hb
            rcases hb with rfl | rfl
            · exact hFi
            · rw [Bool.and_eq_true] at hq1; exact hq1.1
          · exact hsub j hjn hbS
        · rw [hbig S hS j (by omega), Bool.false_or, Bool.or_eq_true, decide_eq_true_eq, decide_eq_true_eq] at hb
          omega)
      omega
    have hl : waysN t n F 1 S = 1 := by
      unfold waysN
      rw [sumN_one _ i n 0 (by omega) (by omega) (fun j _ hj hji => by
        have : bitB S j = bitB F j := by
          rw [← e, bb_less F (by omega) i (by omega) hFi j (by omega), decide_eq_false hji, Bool.not_false, Bool.and_true]
        unfold stepB'
        rw [this]
        cases bitB F j <;> rfl)]
      have hst : stepB' t n F S i = true := by
        unfold stepB'
        rw [hFi, hSi, Bool.not_false, Bool.true_and, Bool.true_and, befB_true]
        intro q _ hq hb
        have hqF := iF i q hi (by omega) hFi hb
        have hqi : q ≠ i := by rintro rfl; rw [hirr q hi] at hb; cases hb
        rw [← e, bb_less F (by omega) i (by omega) hFi q (by omega), hqF, decide_eq_false hqi]; rfl
      rw [if_pos hst]
      rfl
    rw [hl]
    rw [sumN_one _ i n 0 (by omega) (by omega) (fun j _ hj hji => by
      have : bitB S j = bitB F j := by
        rw [← e, bb_less F (by omega) i (by omega) hFi j (by omega), decide_eq_false hji, Bool.not_false, Bool.and_true]
      rw [this]
      cases bitB F j <;> rfl)]
    have hini : iniB t n (F - 2 ^ i) 0 n = true := by rw [e]; exact (ini_iff t n S).2 iS
    rw [if_pos (by rw [hFi, hSi, hini]; rfl)]
    rfl
  | succ m ih =>
    intro F S hF hS iF iS hsub hpc
    have e1 : waysN t n F (m + 1 + 1) S = sumN (fun i => sumN (fun j => if (stepB' t n F S i && (bitB F j && !bitB S j && !decide (j = i) && iniB t n (F - 2 ^ j) 0 n)) = true then waysN t n (F - 2 ^ j) m (S + 2 ^ i) else 0) 0 n) 0 n := by
      conv => lhs; unfold waysN
      refine sumN_congr _ _ n 0 (fun i _ hi => ?_)
      try dsimp only
      cases hst : stepB' t n F S i
      · rw [if_neg (by decide)]
        rw [sumN_congr _ (fun _ => 0) n 0 (fun j _ _ => by rw [Bool.false_and, if_neg (by decide)]), sumN_zero]
      · rw [if_pos rfl]
        have hst' := hst
        unfold stepB' at hst'
        rw [Bool.and_eq_true, Bool.and_eq_true, Bool.not_eq_true'] at hst'
        obtain ⟨⟨hFi, hSi⟩, hbef⟩ := hst'
        have hm := pc_more S (by omega) i (by omega) hSi
        have hlt : S + 2 ^ i < 2 ^ n := by
          refine Classical.byContradiction (fun h => ?_)
          -- the bits of the sum lie below n
          have hx : ∀ j, j < 8 → bitB (S + 2 ^ i) j = bitB ((S + 2 ^ i) % 2 ^ n) j := fun j hj => by
            by_cases hjn : j < n
            · unfold bitB
              rw [decide_eq_decide]
              have : (S + 2 ^ i) % 2 ^ n / 2 ^ j % 2 = (S + 2 ^ i) / 2 ^ j % 2 := by
                have h1 := Nat.testBit_mod_two_pow (S + 2 ^ i) n j
                rw [Nat.testBit_eq_decide_div_mod_eq, Nat.testBit_eq_decide_div_mod_eq, decide_eq_true hjn, Bool.true_and, decide_eq_decide] at h1
                omega
              rw [this]
            · rw [bb_more S (by omega) i (by omega) hSi j hj, hbig S hS j (by omega), hbig _ (Nat.mod_lt _ (Nat.two_pow_pos n)) j (by omega), decide_eq_false (by omega)]; rfl
          have := code_ext _ _ hm.1 (Nat.lt_of_le_of_lt (Nat.mod_le _ _) hm.1) hx
          have h2 := Nat.mod_lt (S + 2 ^ i) (Nat.two_pow_pos n)
          omega
        have iS' : Ini t n (S + 2 ^ i) := fun a q ha hq hb hta => by
          rw [bb_more S (by omega) i (by omega) hSi a (by omega), Bool.or_eq_true, decide_eq_true_eq] at hb
          rw [bb_more S (by omega) i (by omega) hSi q (by omega), Bool.or_eq_true]
          rcases hb with hb | rfl
          · exact Or.inl (iS a q ha hq hb hta)
          · exact Or.inl ((befB_true t S a n 0).1 hbef q (by omega) (by omega) hta)
        have hsub' : Sub n (S + 2 ^ i) F := fun j hj hb => by
          rw [bb_more S (by omega) i (by omega) hSi j (by omega), Bool.or_eq_true, decide_eq_true_eq] at hb
          rcases hb with hb | rfl
          · exact hsub j hj hb
          · exact hFi
        rw [ih F (S + 2 ^ i) hF hlt iF iS' hsub' (by omega)]
        refine sumN_congr _ _ n 0 (fun j _ hj => ?_)
        try dsimp only
        rw [bb_more S (by omega) i (by omega) hSi j (by omega), Bool.true_and, Bool.not_or, ← Bool.and_assoc (bitB F j)]
    have e2 : sumN (fun j => if (bitB F j && !bitB S j && iniB t n (F - 2 ^ j) 0 n) = true then waysN t n (F - 2 ^ j) (m + 1) S else 0) 0 n = sumN (fun j => sumN (fun i => if (stepB' t n F S i && (bitB F j && !bitB S j && !decide (j = i) && iniB t n (F - 2 ^ j) 0 n)) = true then waysN t n (F - 2 ^ j) m (S + 2 ^ i) else 0) 0 n) 0 n := by
      refine sumN_congr _ _ n 0 (fun j _ hj => ?_)
      try dsimp only
      cases hc : (bitB F j && !bitB S j && iniB t n (F - 2 ^ j) 0 n)
      · rw [if_neg (by decide)]
        rw [sumN_congr _ (fun _ => 0) n 0 (fun i _ _ => by
          have : (bitB F j && !bitB S j && !decide (j = i) && iniB t n (F - 2 ^ j) 0 n) = false := by
            revert hc
            cases bitB F j <;> cases bitB S j <;> cases iniB t n (F - 2 ^ j) 0 n <;> simp
          rw [this, Bool.and_false, if_neg (by decide)]), sumN_zero]
      · rw [if_pos rfl]
        have hc' := hc
        rw [Bool.and_eq_true, Bool.and_eq_true, Bool.not_eq_true'] at hc'
        obtain ⟨⟨hFj, hSj⟩, hin⟩ := hc'
        conv => lhs; unfold waysN
        refine sumN_congr _ _ n 0 (fun i _ hi => ?_)
        try dsimp only
        have hstep : stepB' t n (F - 2 ^ j) S i = (stepB' t n F S i && (bitB F j && !bitB S j && !decide (j = i) && iniB t n (F - 2 ^ j) 0 n)) := by
          unfold stepB'
          rw [bb_less F (by omega) j (by omega) hFj i (by omega), hFj, hSj, hin]
          have : decide (i = j) = decide (j = i) := by rw [decide_eq_decide]; exact eq_comm
          rw [this]
          cases bitB F i <;> cases bitB S i <;> cases befB t S i 0 n <;> cases decide (j = i) <;> rfl
        rw [hstep]
    rw [e1, e2]
    exact sumN_swap _ n 0 n 0
end
theorem add_lt0 : ∀ n : Nat, n < 9 → ∀ S : Nat, S < 2 ^ n → ∀ i : Nat, i < n → (decide (S / 2 ^ i % 2 = 1) || decide (S + 2 ^ i < 2 ^ n)) = true := by decide +kernel
theorem add_lt (n : Nat) (hn : n ≤ 8) (S : Nat) (hS : S < 2 ^ n) (i : Nat) (hi : i < n) (h : bitB S i = false) : S + 2 ^ i < 2 ^ n := by
  have := add_lt0 n (by omega) S hS i hi
  unfold bitB at h
  rw [h, Bool.false_or, decide_eq_true_eq] at this
  exact this
theorem bb_full (n : Nat) (hn : n ≤ 8) (j : Nat) (hj : j < n) : bitB (2 ^ n - 1) j = true := decide_eq_true (bit_full n (by omega) j hj)
theorem bb_zero (j : Nat) : bitB 0 j = false := by unfold bitB; rw [Nat.zero_div]; rfl
structure RelB (n c : Nat) (out : List Int) : Prop where
  lt : c < 2 ^ n
  bits : ∀ j : Nat, j < n → bitB c j = decide ((j : Int) ∈ out)
  cnt : (blF c 0 8).length = out.length
theorem l4Ready_ev {n : Nat} (hn : n ≤ 8) {t : List (List Bool)} (ht : Sq n t) (c : Nat) (out : List Int) (h : RelB n c out) (ho : out.length ≤ 100) (j : Nat) (hj : j < n) : Ev (fun k => spec_l4Ready.f k t out (j : Int)) (befB t c j 0 n && !bitB c j) := by
  have hl := ht.1
  have key : ∀ (d i : Nat), i + d = n → Ev (fun k => spec_l4Ready.l0 k t out (j : Int) (i : Int)) (befB t c j i d && !bitB c j) := by
    intro d
    induction d with
    | zero =>
      intro i hi
      refine ev_succ ?_
      simp only [spec_l4Ready.l0, if_neg (show ¬ (i : Int) < (t.length : Int) by omega), befB, Bool.true_and]
      refine ev_bind (l1Has_ev out _ (by omega)) ?_
      rw [h.bits j hj]
      exact ev_now _
    | succ d ih =>
      intro i hi
      refine ev_succ ?_
      have hr : (rd_L3 t (i : Int)).length = n := by rw [rdBB t i (by omega)]; exact ht.row i (by omega)
      simp only [spec_l4Ready.l0, if_pos (show (i : Int) < (t.length : Int) by omega), if_pos (show (0 : Int) ≤ (i : Int) by omega), if_pos (show (0 : Int) ≤ (j : Int) by omega), if_pos (show (j : Int) < ((rd_L3 t (i : Int)).length : Int) by omega), rdTT ht i j (by omega) hj, wsucc i (by omega), befB]
      cases tb t i j
      · simp only [Bool.false_eq_true, if_false, Bool.not_false, Bool.true_or, Bool.true_and]
        exact ih (i + 1) (by omega)
      · simp only [if_true, Bool.not_true, Bool.false_or]
        refine ev_bind (l1Has_ev out _ (by omega)) ?_
        rw [h.bits i (by omega)]
        cases decide ((i : Int) ∈ out)
        · simp only [Bool.false_eq_true, if_false, Bool.false_and]; exact ev_now _
        · simp only [if_true, Bool.true_and]; exact ih (i + 1) (by omega)
  unfold spec_l4Ready.f
  exact key n 0 (Nat.zero_add _)
theorem l1Own_eq (l : List Int) (h : l.length ≤ 1000) : spec_l1Own.f l = some l := by
  unfold spec_l1Own.f
  simp only [Option.bind_some, List.length_nil, List.nil_append, if_pos (show 0 + l.length < 17592186044416 by omega)]
theorem pow_le : ∀ m : Nat, m ≤ 8 → 8 ^ m ≤ 16777216 := by
  intro m h
  have h1 : 8 ^ m ≤ 8 ^ 8 := Nat.pow_le_pow_right (by omega) h
  have h2 : (8 : Nat) ^ 8 = 16777216 := by decide +kernel
  rw [h2] at h1
  exact h1
theorem l4Count_ev {n : Nat} (hn : n ≤ 8) {t : List (List Bool)} (ht : Sq n t) : ∀ (m c : Nat) (out : List Int), RelB n c out → out.length + m = n → Ev (fun k => spec_l4Count.f k t out) ((waysN t n (2 ^ n - 1) m c : Nat) : Int) := by
  have hl := ht.1
  have h8 := pow8 n hn
  intro m
  induction m with
  | zero =>
    intro c out h hm
    refine ev_succ ?_
    simp only [spec_l4Count.f, if_pos (show (out.length : Int) = (t.length : Int) by omega), waysN]
    exact ev_now _
  | succ m ih =>
    intro c out h hm
    refine ev_succ ?_
    simp only [spec_l4Count.f, if_neg (show ¬ (out.length : Int) = (t.length : Int) by omega)]
    have hp := pow_le m (by omega)
    have key : ∀ (d j acc : Nat), j + d = n → acc ≤ j * 16777216 → Ev (fun k => spec_l4Count.l0 k t out (acc : Int) (j : Int)) ((acc + sumN (fun j => if stepB' t n (2 ^ n - 1) c j = true then waysN t n (2 ^ n - 1) m (c + 2 ^ j) else 0) j d : Nat) : Int) := by
      intro d
      induction d with
      | zero =>
        intro j acc hj ha
        refine ev_succ ?_
        simp only [spec_l4Count.l0, if_neg (show ¬ (j : Int) < (t.length : Int) by omega), sumN, Nat.add_zero]
        exact ev_now _
      | succ d ihd =>
        intro j acc hj ha
        have hjn : j < n := by omega
        refine ev_succ ?_
        simp only [spec_l4Count.l0, if_pos (show (j : Int) < (t.length : Int) by omega), wsucc j (by omega)]
        refine ev_bind (l4Ready_ev hn ht c out h (by omega) j hjn) ?_
        have hst : stepB' t n (2 ^ n - 1) c j = (befB t c j 0 n && !bitB c j) := by
          unfold stepB'
          rw [bb_full n hn j hjn, Bool.true_and, Bool.and_comm]
        cases hr : (befB t c j 0 n && !bitB c j)
        · rw [hr] at hst
          have h := ihd (j + 1) acc (by omega) (Nat.le_trans ha (Nat.mul_le_mul_right _ (Nat.le_succ _)))
          simp only [Bool.false_eq_true, if_false, sumN, hst, Nat.zero_add]
          exact h
        · have hbit : bitB c j = false := by
            rw [Bool.and_eq_true, Bool.not_eq_true'] at hr; exact hr.2
          rw [hr] at hst
          have hlt := h.lt
          have hmore := pc_more c (by omega) j (by omega) hbit
          have hR : RelB n (c + 2 ^ j) (out ++ [(j : Int)]) := by
            refine ⟨add_lt n hn c h.lt j hjn hbit, fun q hq => ?_, by rw [hmore.2, h.cnt]; simp⟩
            rw [bb_more c (by omega) j (by omega) hbit q (by omega), h.bits q hq]
            rw [Bool.eq_iff_iff]
            simp only [Bool.or_eq_true, decide_eq_true_eq, List.mem_append, List.mem_singleton]
            constructor
            · rintro (a | a)
              · exact Or.inl a
              · exact Or.inr (by omega)
            · rintro (a | a)
              · exact Or.inl a
              · exact Or.inr (by omega)
          have hw := ways_le t n (2 ^ n - 1) hn m (c + 2 ^ j)
          have h2 := ihd (j + 1) (acc + waysN t n (2 ^ n - 1) m (c + 2 ^ j)) (by omega) (by omega)
          simp only [if_true, l1Own_eq out (by omega), Option.bind_some, if_pos (show out.length < 17592186044416 by omega)]
          refine ev_bind (ih (c + 2 ^ j) (out ++ [(j : Int)]) hR (by rw [List.length_append, List.length_singleton]; omega)) ?_
          rw [show wrap64 ((acc : Int) + ((waysN t n (2 ^ n - 1) m (c + 2 ^ j) : Nat) : Int)) = ((acc + waysN t n (2 ^ n - 1) m (c + 2 ^ j) : Nat) : Int) by rw [w64 (by omega) (by omega)]; omega]
          simp only [sumN, hst, if_true]
          rw [← Nat.add_assoc]
          exact h2
    have h := key n 0 0 (Nat.zero_add _) (by omega)
    rw [Nat.zero_add] at h
    exact h
theorem isInitial_ev {n : Nat} (hn : n ≤ 8) {t : List (List Bool)} (ht : Sq n t) (c : Nat) (hc : c < 2 ^ n) : Ev (fun k => impl_isInitial.f k t (c : Int) ((2 ^ n - 1 : Nat) : Int)) (iniB t n c 0 n) := by
  have hl := ht.1
  have h8 := pow8 n hn
  have hpos := Nat.two_pow_pos n
  have key1 : ∀ (i : Nat) (r : Bool), i < n → Ev (fun k => impl_isInitial.l0 k t (c : Int) ((2 ^ n - 1 : Nat) : Int) (n : Int) ((i + 1 : Nat) : Int)) r → ∀ (d j : Nat), j + d = n → Ev (fun k => impl_isInitial.l1 k t (c : Int) ((2 ^ n - 1 : Nat) : Int) (i : Int) (n : Int) (i : Int) (n : Int) (j : Int)) ((!bitB c i || befB t c i j d) && r) := by
    intro i r hi hr d
    induction d with
    | zero =>
      intro j hj
      refine ev_succ ?_
      simp only [impl_isInitial.l1, if_neg (show ¬ (j : Int) < (n : Int) by omega), wsucc i (by omega), befB, Bool.or_true, Bool.true_and]
      exact hr
    | succ d ih =>
      intro j hj
      have h := ih (j + 1) (by omega)
      refine ev_succ ?_
      have hrow : (rd_L3 t (j : Int)).length = n := by rw [rdBB t j (by omega)]; exact ht.row j (by omega)
      have hf := bit_full n (by omega) j (by omega)
      simp only [impl_isInitial.l1, if_pos (show (j : Int) < (n : Int) by omega), if_pos (show (0 : Int) ≤ (i : Int) by omega), shr_and c i (by omega) (by omega), if_pos (show (0 : Int) ≤ (j : Int) by omega), shr_and (2 ^ n - 1) j (by omega) (by omega), if_pos (mod1 hf), if_pos (show (j : Int) < (t.length : Int) by omega), if_pos (show (i : Int) < ((rd_L3 t (j : Int)).length : Int) by omega), rdTT ht j i (by omega) hi, shr_and c j (by omega) (by omega), wsucc j (by omega), befB]
      by_cases hb : c / 2 ^ i % 2 = 1
      · have hbb : bitB c i = true := decide_eq_true hb
        rw [hbb] at h ⊢
        simp only [if_pos (mod1 hb), Bool.not_true, Bool.false_or] at h ⊢
        cases tb t j i
        · simp only [Bool.false_eq_true, if_false, Bool.not_false, Bool.true_or, Bool.true_and]; exact h
        · by_cases hj1 : c / 2 ^ j % 2 = 1
          · have : bitB c j = true := decide_eq_true hj1
            simp only [if_true, if_neg (mod1' hj1), this, Bool.not_true, Bool.false_or, Bool.true_and]; exact h
          · have : bitB c j = false := decide_eq_false hj1
            simp only [if_true, if_pos (mod0 hj1), this, Bool.not_true, Bool.false_or, Bool.false_and]; exact ev_now _
      · have hbb : bitB c i = false := decide_eq_false hb
        rw [hbb] at h ⊢
        simp only [if_neg (mod0' hb), Bool.not_false, Bool.true_or, Bool.true_and] at h ⊢
        exact h
  have key0 : ∀ (d i : Nat), i + d = n → Ev (fun k => impl_isInitial.l0 k t (c : Int) ((2 ^ n - 1 : Nat) : Int) (n : Int) (i : Int)) (iniB t n c i d) := by
    intro d
    induction d with
    | zero =>
      intro i hi
      refine ev_succ ?_
      simp only [impl_isInitial.l0, if_neg (show ¬ (i : Int) < (n : Int) by omega), iniB]
      exact ev_now _
    | succ d ih =>
      intro i hi
      refine ev_succ ?_
      simp only [impl_isInitial.l0, if_pos (show (i : Int) < (n : Int) by omega), hl, iniB]
      exact key1 i _ (by omega) (ih (i + 1) (by omega)) n 0 (Nat.zero_add _)
  unfold impl_isInitial.f
  rw [hl]
  exact key0 n 0 (Nat.zero_add _)
/-- What the table of counts holds. -/
def cntG (t : List (List Bool)) (n c : Nat) : Nat := if iniB t n c 0 n = true then waysN t n c (blF c 0 8).length 0 else 0
def listG (t : List (List Bool)) (n c : Nat) : List Int := (List.range c).map (fun q => ((cntG t n q : Nat) : Int))
theorem listG_len (t : List (List Bool)) (n c : Nat) : (listG t n c).length = c := by unfold listG; rw [List.length_map, List.length_range]
theorem listG_rd (t : List (List Bool)) (n c q : Nat) (h : q < c) : rd (listG t n c) (q : Int) = ((cntG t n q : Nat) : Int) := by
  rw [rdz _ q (by rw [listG_len]; exact h)]
  unfold listG
  rw [List.getElem_map, List.getElem_range]
theorem listG_succ (t : List (List Bool)) (n c : Nat) : listG t n (c + 1) = listG t n c ++ [((cntG t n c : Nat) : Int)] := by
  unfold listG
  rw [List.range_succ, List.map_append]; rfl
theorem pc_le8 (c : Nat) : (blF c 0 8).length ≤ 8 := blF_len c 8 0
theorem cntG_le (t : List (List Bool)) (n c : Nat) (hn : n ≤ 8) : cntG t n c ≤ 16777216 := by
  unfold cntG
  split
  · exact Nat.le_trans (ways_le t n c hn _ _) (pow_le _ (pc_le8 c))
  · omega
theorem cntG_sum {n : Nat} (hn : n ≤ 8) {t : List (List Bool)} (hirr : ∀ j, j < n → tb t j j = false) (c : Nat) (hc : c < 2 ^ n) (h0 : 0 < c) (hi : iniB t n c 0 n = true) : cntG t n c = sumN (fun j => if bitB c j = true then cntG t n (c - 2 ^ j) else 0) 0 n := by
  have h8 := pow8 n hn
  have hp := pc_pos c (by omega) h0
  have hz : (blF 0 0 8).length = 0 := by decide
  unfold cntG
  rw [if_pos hi]
  obtain ⟨m, hm⟩ : ∃ m, (blF c 0 8).length = m + 1 := ⟨(blF c 0 8).length - 1, by omega⟩
  rw [hm, last_step hn hirr m c 0 hc (by omega) ((ini_iff t n c).1 hi) (fun i q _ _ hb => by rw [bb_zero] at hb; cases hb) (fun j _ hb => by rw [bb_zero] at hb; cases hb) (by omega)]
  refine sumN_congr _ _ n 0 (fun j _ hj => ?_)
  rw [bb_zero, Bool.not_false, Bool.and_true]
  cases hb : bitB c j
  · rfl
  · have hpl := pc_less' c (by omega) j (by omega) hb
    have : (blF (c - 2 ^ j) 0 8).length = m := by omega
    rw [Bool.true_and, if_pos rfl, this]
theorem iCE_l1 {n : Nat} (hn : n ≤ 8) (t : List (List Bool)) (c : Nat) (hc : c < 2 ^ n) (rest : List Int) (R : Int × Bool)
    (hlen : c + 1 + rest.length = 2 ^ n)
    (hnext : Ev (fun k => impl_CountExtensions.l0 k (n : Int) t (listG t n c ++ ((sumN (fun j => if bitB c j = true then cntG t n (c - 2 ^ j) else 0) 0 n : Nat) : Int) :: rest) ((c + 1 : Nat) : Int)) R) :
    ∀ (d j acc : Nat), j + d = n → acc ≤ j * 16777216 → acc + sumN (fun j => if bitB c j = true then cntG t n (c - 2 ^ j) else 0) j d = sumN (fun j => if bitB c j = true then cntG t n (c - 2 ^ j) else 0) 0 n → Ev (fun k => impl_CountExtensions.l1 k (n : Int) t (listG t n c ++ (acc : Int) :: rest) (c : Int) (j : Int)) R := by
  have h8 := pow8 n hn
  intro d
  induction d with
  | zero =>
    intro j acc hj _ he
    refine ev_succ ?_
    simp only [impl_CountExtensions.l1, if_neg (show ¬ (j : Int) < (n : Int) by omega), wsucc c (by omega)]
    have hz : sumN (fun j => if bitB c j = true then cntG t n (c - 2 ^ j) else 0) j 0 = 0 := rfl
    rw [hz, Nat.add_zero] at he
    rw [he]
    exact hnext
  | succ d ih =>
    intro j acc hj ha he
    refine ev_succ ?_
    have hX : (listG t n c ++ (acc : Int) :: rest).length = 2 ^ n := by rw [List.length_append, listG_len, List.length_cons]; omega
    simp only [impl_CountExtensions.l1, if_pos (show (j : Int) < (n : Int) by omega), if_pos (show (0 : Int) ≤ (j : Int) by omega), shr_and c j (by omega) (by omega), wsucc j (by omega)]
    have hs : sumN (fun j => if bitB c j = true then cntG t n (c - 2 ^ j) else 0) j (d + 1) = (if bitB c j = true then cntG t n (c - 2 ^ j) else 0) + sumN (fun j => if bitB c j = true then cntG t n (c - 2 ^ j) else 0) (j + 1) d := rfl
    rw [hs] at he
    by_cases hb : c / 2 ^ j % 2 = 1
    · have hbb : bitB c j = true := decide_eq_true hb
      have hle := bit_le c j hb
      have hp2 := Nat.two_pow_pos j
      have hg := cntG_le t n (c - 2 ^ j) hn
      rw [if_pos hbb] at he
      have h := ih (j + 1) (acc + cntG t n (c - 2 ^ j)) (by omega) (by omega) (by rw [← he]; omega)
      simp only [if_pos (mod1 hb), if_pos (show (0 : Int) ≤ (c : Int) by omega), hX, if_pos (show (c : Int) < ((2 ^ n : Nat) : Int) by omega), shl1 j (by omega), andn c (by omega) j (by omega) hb, if_pos (show (0 : Int) ≤ ((c - 2 ^ j : Nat) : Int) by omega), if_pos (show ((c - 2 ^ j : Nat) : Int) < ((2 ^ n : Nat) : Int) from Int.ofNat_lt.mpr (Nat.lt_of_le_of_lt (Nat.sub_le _ _) hc)), rd_mid (listG t n c) rest (acc : Int) c (listG_len t n c).symm, rd_left (listG t n c) ((acc : Int) :: rest) (c - 2 ^ j) (by rw [listG_len]; omega), listG_rd t n c (c - 2 ^ j) (by omega), Int.toNat_natCast, set_mid (listG t n c) rest (acc : Int) _ c (listG_len t n c).symm]
      rw [show wrap64 ((acc : Int) + ((cntG t n (c - 2 ^ j) : Nat) : Int)) = ((acc + cntG t n (c - 2 ^ j) : Nat) : Int) by rw [w64 (by omega) (by omega)]; omega]
      exact h
    · have hbb : bitB c j = false := decide_eq_false hb
      rw [hbb, if_neg (by decide), Nat.zero_add] at he
      simp only [if_neg (mod0' hb)]
      exact ih (j + 1) acc (by omega) (Nat.le_trans ha (Nat.mul_le_mul_right _ (Nat.le_succ _))) he
theorem iCE_l0 {n : Nat} (hn : n ≤ 8) {t : List (List Bool)} (ht : Sq n t) (hirr : ∀ j, j < n → tb t j j = false) : ∀ (d c : Nat), c + d = 2 ^ n → 0 < c → Ev (fun k => impl_CountExtensions.l0 k (n : Int) t (listG t n c ++ List.replicate d 0) (c : Int)) (((cntG t n (2 ^ n - 1) : Nat) : Int), true) := by
  have h8 := pow8 n hn
  have hpos := Nat.two_pow_pos n
  have hw : wrap64 (((2 ^ n : Nat) : Int) - 1) = ((2 ^ n - 1 : Nat) : Int) := by rw [w64 (by omega) (by omega)]; omega
  intro d
  induction d with
  | zero =>
    intro c hc h0
    refine ev_succ ?_
    rw [List.replicate_zero, List.append_nil]
    simp only [impl_CountExtensions.l0, if_pos (show (0 : Int) ≤ (n : Int) by omega), shl1 n (by omega), if_neg (show ¬ (c : Int) < ((2 ^ n : Nat) : Int) by omega), hw, if_pos (show (0 : Int) ≤ ((2 ^ n - 1 : Nat) : Int) by omega), listG_len, if_pos (show ((2 ^ n - 1 : Nat) : Int) < (c : Int) by omega), listG_rd t n c (2 ^ n - 1) (by omega)]
    exact ev_now _
  | succ d ih =>
    intro c hc h0
    have h := ih (c + 1) (by omega) (by omega)
    rw [listG_succ, List.append_assoc] at h
    refine ev_succ ?_
    simp only [impl_CountExtensions.l0, if_pos (show (0 : Int) ≤ (n : Int) by omega), shl1 n (by omega), if_pos (show (c : Int) < ((2 ^ n : Nat) : Int) by omega), hw, wsucc c (by omega), List.replicate_succ]
    refine ev_bind (isInitial_ev hn ht c (by omega)) ?_
    cases hi : iniB t n c 0 n
    · have hz : cntG t n c = 0 := by unfold cntG; rw [if_neg (by rw [hi]; decide)]
      rw [hz] at h
      simp only [Bool.false_eq_true, if_false]
      exact h
    · simp only [if_true]
      have hs := cntG_sum hn hirr c (by omega) h0 hi
      exact iCE_l1 hn t c (by omega) (List.replicate d 0) _ (by simp; omega) (by rw [← hs]; exact h) n 0 0 (Nat.zero_add _) (by omega) (by omega)
theorem core (n : Int) (es : List S73) (_ : I64 n) (hm : es.length ≤ 1048576) : ∃ (r : Int) (ok : Bool), True ∧ Ev (fun k => spec_CountExtensions.f k n es) (r, ok) ∧ Ev (fun k => impl_CountExtensions.f k n es) (r, ok) := by
  have h1 := l4Good_ev n es hm
  have h2 := isPrec_ev n es
  unfold spec_CountExtensions.f impl_CountExtensions.f
  cases hg : good4 n es
  · rw [hg] at h1 h2
    exact ⟨0, false, trivial, ev_bind h1 (by simp only [Bool.false_eq_true, if_false]; exact ev_now _), ev_bind h2 (by simp only [Bool.false_eq_true, if_false]; exact ev_now _)⟩
  rw [hg] at h1 h2
  obtain ⟨m, rfl, hm8, hl, hin, hirr⟩ := good4_facts n es hg
  have hsq := clos_sq m es hin
  have h8 := pow8 m hm8
  have hpos := Nat.two_pow_pos m
  have hpc := pc_all m (by omega)
  have hz : (blF 0 0 8).length = 0 := by decide
  have hini : iniB (closT m es) m (2 ^ m - 1) 0 m = true := (ini_iff _ _ _).2 (fun i q _ hq _ _ => bb_full m hm8 q hq)
  have hG : cntG (closT m es) m (2 ^ m - 1) = waysN (closT m es) m (2 ^ m - 1) m 0 := by unfold cntG; rw [if_pos hini, hpc]
  refine ⟨((waysN (closT m es) m (2 ^ m - 1) m 0 : Nat) : Int), true, trivial, ev_bind h1 ?_, ev_bind h2 ?_⟩
  · simp only [if_true]
    refine ev_bind (l4Table_ev m hm8 es hm hin) (ev_bind (l4Count_ev hm8 hsq m 0 [] ⟨by omega, fun j _ => by rw [bb_zero]; simp, by rw [hz]; rfl⟩ (by simp)) (ev_now _))
  · simp only [if_true]
    refine ev_bind (closure_ev m hm8 es hm hin) ?_
    have h := iCE_l0 hm8 hsq hirr (2 ^ m - 1) 1 (by omega) (by omega)
    rw [hG] at h
    have h0 : listG (closT m es) m 1 = [1] := by
      have : cntG (closT m es) m 0 = 1 := by
        unfold cntG
        rw [if_pos ((ini_iff _ _ _).2 (fun i q _ _ hb => by rw [bb_zero] at hb; cases hb)), hz]; rfl
      unfold listG
      simp [List.range_succ, this]
    rw [h0] at h
    simp only [if_pos (show (0 : Int) ≤ (m : Int) by omega), shl1 m (by omega), if_pos (show (0 : Int) ≤ ((2 ^ m : Nat) : Int) by omega), Int.toNat_natCast, if_pos (show 2 ^ m ≤ 35184372088832 by omega), Option.bind_some, List.length_replicate, if_pos (show (0 : Int) < ((2 ^ m : Nat) : Int) by omega)]
    rw [show (List.replicate (2 ^ m) (0 : Int)).set (0 : Int).toNat 1 = [1] ++ List.replicate (2 ^ m - 1) 0 by
      rw [show 2 ^ m = (2 ^ m - 1) + 1 by omega, List.replicate_succ]; simp]
    exact h

theorem FnExactCountExtensions : FnExactCountExtensions.Claim := by
  intro a0 l1 hi0 hl1 hg1
  refine Ev.rounds ?_
  unfold laws_FnExactCountExtensions.f
  simp only [szIntA2S_eq l1 (1048576 : Int) (by omega) (by omega) hl1, Option.bind_some]
  by_cases h1 : (1048576 : Int) < l1.length
  · simp only [if_pos h1, if_pos (show (-1 : Int) < 0 by omega)]
    exact ev_now _
  simp only [if_neg h1, if_neg (show ¬ (((1048576 : Int) - l1.length) < 0) by omega)]
  have ht1 := toIntA2S_ev l1 (by omega)
  have hm1 : l1.length ≤ 1048576 := by omega
  have hq1 := eqIntA2S_ev l1 (by omega)
  obtain ⟨r0, r1, _, hs, hi⟩ := core a0 l1 hi0 hm1
  repeat first
    | exact ev_now _
    | with_reducible refine ev_bind hs ?_
    | with_reducible refine ev_bind hi ?_
    | with_reducible refine ev_bind ht1 ?_
    | with_reducible refine ev_bind hq1 ?_
    | simp only [if_true, if_false, bne_self_eq_false, Bool.false_eq_true]
    | (refine ev_succ ?_; simp only [laws_FnExactCountExtensions.j0])

end Go.Proofs.Ytnhceifdiaigbaa.Pure
