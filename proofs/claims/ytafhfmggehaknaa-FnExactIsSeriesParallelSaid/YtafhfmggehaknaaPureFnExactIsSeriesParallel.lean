/- The program's function and the reference's come to the same answer: the statement of numbers and lists behind the law FnExactIsSeriesParallel. Conditions: none. -/
import Derived.Test.YtafhfmggehaknaaArgFnExactIsSeriesParallel
import Derived.Test.YtafhfmggehaknaaBase
namespace Go.Proofs.Ytafhfmggehaknaa.Pure
open Go.RowKit Go.Proofs.Ytafhfmggehaknaa.OFnExactIsSeriesParallel Go.Proofs.Ytafhfmggehaknaa.Base Go.Proofs.YtafhfmggehaknaaW.PrintWords Go.Proofs.YtafhfmggehaknaaW.PrintLast Go.Proofs.YtafhfmggehaknaaW.PrintMore Go.Proofs.Ytafhfmggehaknaa.Open
set_option linter.unusedVariables false
set_option linter.unusedSimpArgs false

theorem szIntA2S_eq (xs : List S63) (left : Int) (h0 : 0 ≤ left) (h1 : left ≤ 1048576) (h : xs.length ≤ 9223372036854775807) : laws_szIntA2S.f xs left = some (if left < xs.length then -1 else left - xs.length) := by
  unfold laws_szIntA2S.f
  rw [w64 (by omega) (by omega)]
  by_cases c : left < xs.length
  · rw [if_pos (by omega), if_pos c]
  · rw [if_neg (by omega), if_neg c]

theorem rdA2 (xs : List S63) (i : Nat) (h : i < xs.length) : rd_T63 xs (i : Int) = xs[i] := by
  unfold rd_T63
  rw [Int.toNat_natCast, List.getD_eq_getElem?_getD, List.getElem?_eq_getElem h]
  rfl
theorem w01 : wrap64 (0 + 1) = 1 := by unfold wrap64; omega
theorem w11 : wrap64 (1 + 1) = 2 := by unfold wrap64; omega

theorem toIntA2_ev (a b : Int) : Ev (fun k => laws_toIntA2.f k a b) (a, b) := by
  unfold laws_toIntA2.f
  refine ev_succ ?_
  simp only [laws_toIntA2.l0, if_pos (show (0 : Int) < 2 by omega), if_true, w01]
  refine ev_succ ?_
  simp only [laws_toIntA2.l0, if_pos (show (1 : Int) < 2 by omega), if_neg (show ¬ (1 : Int) = 0 by omega), if_true, w11]
  refine ev_succ ?_
  simp only [laws_toIntA2.l0, if_neg (show ¬ (2 : Int) < 2 by omega)]
  exact ev_now _
theorem toIntA2S_l (xs : List S63) (hn : xs.length ≤ 1048576) : ∀ (d i : Nat) (ys : List S63), i + d = xs.length → ys.length = xs.length → ys.take i = xs.take i → Ev (fun k => laws_toIntA2S.l0 k xs ys (i : Int)) xs := by
  intro d
  induction d with
  | zero =>
    intro i ys hi hl ht
    refine ev_succ ?_
    simp only [laws_toIntA2S.l0, if_neg (show ¬ (i : Int) < (xs.length : Int) by omega)]
    have : ys = xs := by
      rw [List.take_of_length_le (by omega), List.take_of_length_le (by omega)] at ht
      exact ht
    rw [this]
    exact ev_now _
  | succ d ih =>
    intro i ys hi hl ht
    refine ev_succ ?_
    have hx : i < xs.length := by omega
    simp only [laws_toIntA2S.l0, if_pos (show (i : Int) < (xs.length : Int) by omega), if_pos (show (0 : Int) ≤ (i : Int) by omega), rdA2 xs i hx, wsucc i (by omega)]
    refine ev_bind (toIntA2_ev _ _) ?_
    simp only [if_pos (show (i : Int) < (ys.length : Int) by omega), Int.toNat_natCast]
    refine ih (i + 1) _ (by omega) (by rw [List.length_set]; exact hl) ?_
    rw [take_set_succ ys i _ (by omega), ht, List.take_succ_eq_append_getElem hx]
theorem toIntA2S_ev (xs : List S63) (hn : xs.length ≤ 1048576) : Ev (fun k => laws_toIntA2S.f k xs) xs := by
  unfold laws_toIntA2S.f
  simp only [if_pos (show (0 : Int) ≤ (xs.length : Int) by omega), Int.toNat_natCast, if_pos (show xs.length ≤ 17592186044416 by omega)]
  exact toIntA2S_l xs hn xs.length 0 _ (by omega) (by simp) (by simp)

theorem eqIntA2_ev (a b : Int) : Ev (fun k => laws_eqIntA2.f k a b a b) true := by
  unfold laws_eqIntA2.f
  refine ev_succ ?_
  simp only [laws_eqIntA2.l0, if_pos (show (0 : Int) < 2 by omega), if_true, w01]
  refine ev_succ ?_
  simp only [laws_eqIntA2.l0, if_pos (show (1 : Int) < 2 by omega), if_neg (show ¬ (1 : Int) = 0 by omega), if_true, w11]
  refine ev_succ ?_
  simp only [laws_eqIntA2.l0, if_neg (show ¬ (2 : Int) < 2 by omega)]
  exact ev_now _
theorem eqIntA2S_l (xs : List S63) (hn : xs.length ≤ 4611686018427387904) : ∀ (d i : Nat), i + d = xs.length → Ev (fun k => laws_eqIntA2S.l0 k xs xs (i : Int)) true := by
  intro d
  induction d with
  | zero =>
    intro i hi
    refine ev_succ ?_
    simp only [laws_eqIntA2S.l0, if_neg (show ¬ (i : Int) < (xs.length : Int) by omega)]
    exact ev_now _
  | succ d ih =>
    intro i hi
    refine ev_succ ?_
    simp only [laws_eqIntA2S.l0, if_pos (show (i : Int) < (xs.length : Int) by omega), if_pos (show (0 : Int) ≤ (i : Int) by omega), wsucc i (by omega)]
    refine ev_bind (eqIntA2_ev _ _) ?_
    simp only [if_true]
    exact ih (i + 1) (by omega)
theorem eqIntA2S_ev (xs : List S63) (hn : xs.length ≤ 4611686018427387904) : Ev (fun k => laws_eqIntA2S.f k xs xs) true := by
  unfold laws_eqIntA2S.f
  simp only [if_true]
  exact eqIntA2S_l xs hn xs.length 0 (by omega)

/-- A table of n rows and n columns. -/
def Sq (n : Nat) (t : List (List Bool)) : Prop := t.length = n ∧ ∀ r ∈ t, r.length = n
theorem Sq.row {n : Nat} {t : List (List Bool)} (h : Sq n t) (i : Nat) (hi : i < n) : (t[i]'(by rw [h.1]; exact hi)).length = n := h.2 _ (List.getElem_mem _)
def tb (t : List (List Bool)) (i j : Nat) : Bool := (t.getD i []).getD j false
theorem tb_eq (t : List (List Bool)) (i j : Nat) (hi : i < t.length) (hj : j < t[i].length) : tb t i j = t[i][j] := by
  unfold tb
  rw [List.getD_eq_getElem?_getD, List.getD_eq_getElem?_getD, List.getElem?_eq_getElem hi, Option.getD_some, List.getElem?_eq_getElem hj, Option.getD_some]
def putT (t : List (List Bool)) (i j : Nat) (b : Bool) : List (List Bool) := t.set i ((t.getD i []).set j b)
theorem Sq.put {n : Nat} {t : List (List Bool)} (h : Sq n t) (i j : Nat) (hi : i < n) (b : Bool) : Sq n (putT t i j b) := by
  refine ⟨by unfold putT; rw [List.length_set]; exact h.1, fun r hr => ?_⟩
  unfold putT at hr
  rcases List.mem_or_eq_of_mem_set hr with hr | rfl
  · exact h.2 r hr
  · rw [List.length_set, List.getD_eq_getElem?_getD, List.getElem?_eq_getElem (by rw [h.1]; exact hi), Option.getD_some]
    exact h.row i hi
theorem rdBB (t : List (List Bool)) (i : Nat) (h : i < t.length) : rd_L3 t (i : Int) = t[i] := by
  unfold rd_L3
  rw [Int.toNat_natCast, List.getD_eq_getElem?_getD, List.getElem?_eq_getElem h]
  rfl
theorem rdB (r : List Bool) (i : Nat) (h : i < r.length) : rdOf false r (i : Int) = r[i] := by
  unfold rdOf
  rw [Int.toNat_natCast, List.getD_eq_getElem?_getD, List.getElem?_eq_getElem h]
  rfl
theorem rdTB (t : List (List Bool)) (i : Nat) (h : i < t.length) : (rd_L3 t (i : Int)) = t.getD i [] := by
  rw [rdBB t i h, List.getD_eq_getElem?_getD, List.getElem?_eq_getElem h]; rfl
theorem rdTT {n : Nat} {t : List (List Bool)} (h : Sq n t) (i j : Nat) (hi : i < n) (hj : j < n) : rdOf false (rd_L3 t (i : Int)) (j : Int) = tb t i j := by
  have h1 : i < t.length := by rw [h.1]; exact hi
  have h2 := h.row i hi
  rw [rdBB t i h1, rdB _ j (by rw [h2]; exact hj), tb_eq t i j h1 (by rw [h2]; exact hj)]
theorem put_same {n : Nat} {t : List (List Bool)} (h : Sq n t) (i j : Nat) (hi : i < n) (hj : j < n) : putT t i j (tb t i j) = t := by
  have h1 : i < t.length := by rw [h.1]; exact hi
  have h2 := h.row i hi
  have hg : t.getD i [] = t[i] := by rw [List.getD_eq_getElem?_getD, List.getElem?_eq_getElem h1]; rfl
  unfold putT
  rw [hg, tb_eq t i j h1 (by rw [h2]; exact hj), List.set_getElem_self, List.set_getElem_self]
def stepT (t : List (List Bool)) (k i j : Nat) : List (List Bool) := if (tb t i k && tb t k j) = true then putT t i j true else t
theorem Sq.step {n : Nat} {t : List (List Bool)} (h : Sq n t) (k i j : Nat) (hi : i < n) : Sq n (stepT t k i j) := by
  unfold stepT
  split
  · exact h.put i j hi true
  · exact h
def rowF (t : List (List Bool)) (k i : Nat) (js : List Nat) : List (List Bool) := js.foldl (fun t j => stepT t k i j) t
def midF (n : Nat) (t : List (List Bool)) (k : Nat) (is : List Nat) : List (List Bool) := is.foldl (fun t i => rowF t k i (List.range' 0 n)) t
def outF (n : Nat) (t : List (List Bool)) (ks : List Nat) : List (List Bool) := ks.foldl (fun t k => midF n t k (List.range' 0 n)) t
def edgeF (t : List (List Bool)) (es : List S63) : List (List Bool) := es.foldl (fun t e => putT t e.f0.toNat e.f1.toNat true) t
/-- The table of what comes before what. -/
def closT (n : Nat) (es : List S63) : List (List Bool) := outF n (edgeF (List.replicate n (List.replicate n false)) es) (List.range' 0 n)
def inN (n : Nat) (es : List S63) : Prop := ∀ e ∈ es, 0 ≤ e.f0 ∧ e.f0 < n ∧ 0 ≤ e.f1 ∧ e.f1 < n
theorem Sq.row_fold {n : Nat} {t : List (List Bool)} (h : Sq n t) (k i : Nat) (hi : i < n) (js : List Nat) : Sq n (rowF t k i js) := by
  unfold rowF
  induction js generalizing t with
  | nil => exact h
  | cons j js ih => exact ih (h.step k i j hi)
section
variable {F : Nat → List (List Bool) → Nat → Nat → Nat → Option (List (List Bool))}
end
theorem spec_l4 (n : Nat) (hn : n ≤ 8) (kk i : Nat) (hk : kk < n) (hi : i < n) (R : List (List Bool) → List (List Bool))
    (hnext : ∀ t, Sq n t → Ev (fun k => spec_l4Table.l3 k (n : Int) t (kk : Int) ((i + 1 : Nat) : Int)) (R t)) :
    ∀ (d j : Nat) (t : List (List Bool)), j + d = n → Sq n t → Ev (fun k => spec_l4Table.l4 k (n : Int) t (kk : Int) (i : Int) (j : Int)) (R (rowF t kk i (List.range' j d))) := by
  intro d
  induction d with
  | zero =>
    intro j t hj ht
    refine ev_succ ?_
    simp only [spec_l4Table.l4, if_neg (show ¬ (j : Int) < (n : Int) by omega), wsucc i (by omega)]
    exact hnext t ht
  | succ d ih =>
    intro j t hj ht
    refine ev_succ ?_
    have hl := ht.1
    have hri : (rd_L3 t (i : Int)).length = n := by rw [rdBB t i (by omega)]; exact ht.row i hi
    have hrk : (rd_L3 t (kk : Int)).length = n := by rw [rdBB t kk (by omega)]; exact ht.row kk hk
    have h := ih (j + 1) (stepT t kk i j) (by omega) (ht.step kk i j hi)
    rw [List.range'_succ]
    simp only [rowF, List.foldl_cons]
    simp only [rowF] at h
    simp only [spec_l4Table.l4, if_pos (show (j : Int) < (n : Int) by omega), if_pos (show (0 : Int) ≤ (i : Int) by omega), if_pos (show (i : Int) < (t.length : Int) by omega), if_pos (show (0 : Int) ≤ (kk : Int) by omega), if_pos (show (kk : Int) < ((rd_L3 t (i : Int)).length : Int) by omega), if_pos (show (kk : Int) < (t.length : Int) by omega), if_pos (show (0 : Int) ≤ (j : Int) by omega), if_pos (show (j : Int) < ((rd_L3 t (kk : Int)).length : Int) by omega), if_pos (show (j : Int) < ((rd_L3 t (i : Int)).length : Int) by omega), rdTT ht i kk hi hk, rdTT ht kk j hk (by omega), wsucc j (by omega), Int.toNat_natCast]
    by_cases c1 : tb t i kk = true
    · by_cases c2 : tb t kk j = true
      · simp only [if_pos c1, if_pos c2]
        have hs : stepT t kk i j = putT t i j true := by unfold stepT; rw [if_pos (by rw [c1, c2]; rfl)]
        rw [hs] at h ⊢
        rw [rdTB t i (by omega)]
        exact h
      · simp only [if_pos c1, if_neg c2]
        have hs : stepT t kk i j = t := by unfold stepT; rw [if_neg (by rw [c1]; simpa using c2)]
        rw [hs] at h ⊢
        exact h
    · simp only [if_neg c1]
      have hs : stepT t kk i j = t := by unfold stepT; rw [if_neg (by simp only [Bool.and_eq_true]; exact fun x => c1 x.1)]
      rw [hs] at h ⊢
      exact h
theorem spec_l3 (n : Nat) (hn : n ≤ 8) (kk : Nat) (hk : kk < n) (R : List (List Bool) → List (List Bool))
    (hnext : ∀ t, Sq n t → Ev (fun k => spec_l4Table.l2 k (n : Int) t ((kk + 1 : Nat) : Int)) (R t)) :
    ∀ (d i : Nat) (t : List (List Bool)), i + d = n → Sq n t → Ev (fun k => spec_l4Table.l3 k (n : Int) t (kk : Int) (i : Int)) (R (midF n t kk (List.range' i d))) := by
  intro d
  induction d with
  | zero =>
    intro i t hi ht
    refine ev_succ ?_
    simp only [spec_l4Table.l3, if_neg (show ¬ (i : Int) < (n : Int) by omega), wsucc kk (by omega)]
    exact hnext t ht
  | succ d ih =>
    intro i t hi ht
    refine ev_succ ?_
    rw [List.range'_succ]
    simp only [midF, List.foldl_cons, spec_l4Table.l3, if_pos (show (i : Int) < (n : Int) by omega)]
    exact spec_l4 n hn kk i hk (by omega) (fun t => R (midF n t kk (List.range' (i + 1) d))) (fun t ht => ih (i + 1) t (by omega) ht) n 0 t (by omega) ht
theorem mid_sq {n : Nat} {t : List (List Bool)} (h : Sq n t) (k : Nat) : ∀ is : List Nat, (∀ i ∈ is, i < n) → Sq n (midF n t k is) := by
  intro is
  unfold midF
  induction is generalizing t with
  | nil => intro _; exact h
  | cons i is ih => intro hi; exact ih (h.row_fold k i (hi i (by simp)) _) (fun x hx => hi x (by simp [hx]))
theorem spec_l2 (n : Nat) (hn : n ≤ 8) : ∀ (d kk : Nat) (t : List (List Bool)), kk + d = n → Sq n t → Ev (fun k => spec_l4Table.l2 k (n : Int) t (kk : Int)) (outF n t (List.range' kk d)) := by
  intro d
  induction d with
  | zero =>
    intro kk t hk ht
    refine ev_succ ?_
    simp only [spec_l4Table.l2, if_neg (show ¬ (kk : Int) < (n : Int) by omega)]
    exact ev_now _
  | succ d ih =>
    intro kk t hk ht
    refine ev_succ ?_
    rw [List.range'_succ]
    simp only [outF, List.foldl_cons, spec_l4Table.l2, if_pos (show (kk : Int) < (n : Int) by omega)]
    exact spec_l3 n hn kk (by omega) (fun t => outF n t (List.range' (kk + 1) d)) (fun t ht => ih (kk + 1) t (by omega) ht) n 0 t (by omega) ht
theorem edge_sq {n : Nat} {t : List (List Bool)} (h : Sq n t) : ∀ es : List S63, inN n es → Sq n (edgeF t es) := by
  intro es
  unfold edgeF
  induction es generalizing t with
  | nil => intro _; exact h
  | cons e es ih =>
    intro he
    have := he e (by simp)
    exact ih (h.put _ _ (by omega) true) (fun x hx => he x (by simp [hx]))
theorem spec_l1 (n : Nat) (hn : n ≤ 8) (es : List S63) (hes : es.length ≤ 1048576) (hin : inN n es) : ∀ (d i : Nat) (t : List (List Bool)), i + d = es.length → Sq n t → Ev (fun k => spec_l4Table.l1 k (n : Int) es t (i : Int)) (outF n (edgeF t (es.drop i)) (List.range' 0 n)) := by
  intro d
  induction d with
  | zero =>
    intro i t hi ht
    refine ev_succ ?_
    simp only [spec_l4Table.l1, if_neg (show ¬ (i : Int) < (es.length : Int) by omega), List.drop_of_length_le (show es.length ≤ i by omega)]
    exact spec_l2 n hn n 0 t (by omega) ht
  | succ d ih =>
    intro i t hi ht
    refine ev_succ ?_
    have hx : i < es.length := by omega
    have hl := ht.1
    have he := hin es[i] (List.getElem_mem hx)
    obtain ⟨a, ha⟩ := Int.eq_ofNat_of_zero_le he.1
    obtain ⟨b, hb⟩ := Int.eq_ofNat_of_zero_le he.2.2.1
    have hr : (rd_L3 t (a : Int)).length = n := by rw [rdBB t a (by omega)]; exact ht.row a (by omega)
    have h := ih (i + 1) (putT t a b true) (by omega) (ht.put a b (by omega) true)
    rw [List.drop_eq_getElem_cons hx]
    simp only [edgeF, List.foldl_cons, ha, hb, Int.toNat_natCast]
    simp only [edgeF] at h
    simp only [spec_l4Table.l1, if_pos (show (i : Int) < (es.length : Int) by omega), if_pos (show (0 : Int) ≤ (i : Int) by omega), rdA2 es i hx, ha, hb, if_pos (show (0 : Int) ≤ (a : Int) by omega), if_pos (show (a : Int) < (t.length : Int) by omega), if_pos (show (0 : Int) ≤ (b : Int) by omega), if_pos (show (b : Int) < ((rd_L3 t (a : Int)).length : Int) by omega), wsucc i (by omega), Int.toNat_natCast]
    rw [rdTB t a (by omega)]
    exact h
theorem spec_l0 (n : Nat) (hn : n ≤ 8) (es : List S63) (hes : es.length ≤ 1048576) (hin : inN n es) : ∀ (d i : Nat) (t : List (List Bool)), i + d = n → t = List.replicate i (List.replicate n false) → Ev (fun k => spec_l4Table.l0 k (n : Int) es t (i : Int)) (closT n es) := by
  intro d
  induction d with
  | zero =>
    intro i t hi ht
    refine ev_succ ?_
    have hin' : i = n := by omega
    subst hin'
    simp only [spec_l4Table.l0, if_neg (show ¬ (i : Int) < (i : Int) by omega)]
    have := spec_l1 i hn es hes hin es.length 0 t (by omega) (by rw [ht]; exact ⟨by simp, fun r hr => by rw [List.eq_of_mem_replicate hr]; simp⟩)
    rw [List.drop_zero, ht] at this
    rw [ht]
    exact this
  | succ d ih =>
    intro i t hi ht
    refine ev_succ ?_
    have hl : t.length = i := by rw [ht]; simp
    simp only [spec_l4Table.l0, if_pos (show (i : Int) < (n : Int) by omega), if_pos (show (0 : Int) ≤ (n : Int) by omega), Int.toNat_natCast, if_pos (show n ≤ 281474976710656 by omega), if_pos (show t.length < 5864062014805 by omega), wsucc i (by omega)]
    exact ih (i + 1) _ (by omega) (by rw [ht, List.replicate_succ'])
theorem l4Table_ev (n : Nat) (hn : n ≤ 8) (es : List S63) (hes : es.length ≤ 1048576) (hin : inN n es) : Ev (fun k => spec_l4Table.f k (n : Int) es) (closT n es) := by
  unfold spec_l4Table.f
  exact spec_l0 n hn es hes hin n 0 [] (by omega) (by simp)
theorem impl_l4 (n : Nat) (hn : n ≤ 8) (kk i : Nat) (hk : kk < n) (hi : i < n) (R : List (List Bool) → List (List Bool))
    (hnext : ∀ t, Sq n t → Ev (fun k => impl_closure.l3 k (n : Int) t (kk : Int) ((i + 1 : Nat) : Int)) (R t)) :
    ∀ (d j : Nat) (t : List (List Bool)), j + d = n → Sq n t → Ev (fun k => impl_closure.l4 k (n : Int) t (kk : Int) (i : Int) (j : Int)) (R (rowF t kk i (List.range' j d))) := by
  intro d
  induction d with
  | zero =>
    intro j t hj ht
    refine ev_succ ?_
    simp only [impl_closure.l4, if_neg (show ¬ (j : Int) < (n : Int) by omega), wsucc i (by omega)]
    exact hnext t ht
  | succ d ih =>
    intro j t hj ht
    refine ev_succ ?_
    have hl := ht.1
    have hri : (rd_L3 t (i : Int)).length = n := by rw [rdBB t i (by omega)]; exact ht.row i hi
    have hrk : (rd_L3 t (kk : Int)).length = n := by rw [rdBB t kk (by omega)]; exact ht.row kk hk
    have h := ih (j + 1) (stepT t kk i j) (by omega) (ht.step kk i j hi)
    rw [List.range'_succ]
    simp only [rowF, List.foldl_cons]
    simp only [rowF] at h
    simp only [impl_closure.l4, if_pos (show (j : Int) < (n : Int) by omega), if_pos (show (0 : Int) ≤ (i : Int) by omega), if_pos (show (i : Int) < (t.length : Int) by omega), if_pos (show (0 : Int) ≤ (kk : Int) by omega), if_pos (show (kk : Int) < ((rd_L3 t (i : Int)).length : Int) by omega), if_pos (show (kk : Int) < (t.length : Int) by omega), if_pos (show (0 : Int) ≤ (j : Int) by omega), if_pos (show (j : Int) < ((rd_L3 t (kk : Int)).length : Int) by omega), if_pos (show (j : Int) < ((rd_L3 t (i : Int)).length : Int) by omega), rdTT ht i kk hi hk, rdTT ht kk j hk (by omega), rdTT ht i j hi (by omega), wsucc j (by omega), Int.toNat_natCast]
    have hput : ∀ b, t.set i ((rd_L3 t (i : Int)).set j b) = putT t i j b := fun b => by rw [rdTB t i (by omega)]; rfl
    have hsame := put_same ht i j hi (show j < n by omega)
    by_cases c0 : tb t i j = true
    · simp only [if_pos c0, hput]
      have hs : stepT t kk i j = t := by
        unfold stepT
        split
        · rw [c0] at hsame; exact hsame
        · rfl
      rw [hs] at h ⊢
      rw [c0] at hsame
      rw [hsame]
      exact h
    · have c0' : tb t i j = false := by simpa using c0
      rw [c0'] at hsame
      by_cases c1 : tb t i kk = true
      · simp only [if_neg c0, if_pos c1, hput]
        by_cases c2 : tb t kk j = true
        · have hs : stepT t kk i j = putT t i j true := by unfold stepT; rw [if_pos (by rw [c1, c2]; rfl)]
          rw [hs] at h ⊢
          rw [c2]
          exact h
        · have c2' : tb t kk j = false := by simpa using c2
          have hs : stepT t kk i j = t := by unfold stepT; rw [if_neg (by rw [c1]; simpa using c2)]
          rw [hs] at h ⊢
          rw [c2', hsame]
          exact h
      · simp only [if_neg c0, if_neg c1, hput]
        have hs : stepT t kk i j = t := by unfold stepT; rw [if_neg (by simp only [Bool.and_eq_true]; exact fun x => c1 x.1)]
        rw [hs] at h ⊢
        rw [hsame]
        exact h
theorem impl_l3 (n : Nat) (hn : n ≤ 8) (kk : Nat) (hk : kk < n) (R : List (List Bool) → List (List Bool))
    (hnext : ∀ t, Sq n t → Ev (fun k => impl_closure.l2 k (n : Int) t ((kk + 1 : Nat) : Int)) (R t)) :
    ∀ (d i : Nat) (t : List (List Bool)), i + d = n → Sq n t → Ev (fun k => impl_closure.l3 k (n : Int) t (kk : Int) (i : Int)) (R (midF n t kk (List.range' i d))) := by
  intro d
  induction d with
  | zero =>
    intro i t hi ht
    refine ev_succ ?_
    simp only [impl_closure.l3, if_neg (show ¬ (i : Int) < (n : Int) by omega), wsucc kk (by omega)]
    exact hnext t ht
  | succ d ih =>
    intro i t hi ht
    refine ev_succ ?_
    rw [List.range'_succ]
    simp only [midF, List.foldl_cons, impl_closure.l3, if_pos (show (i : Int) < (n : Int) by omega)]
    exact impl_l4 n hn kk i hk (by omega) (fun t => R (midF n t kk (List.range' (i + 1) d))) (fun t ht => ih (i + 1) t (by omega) ht) n 0 t (by omega) ht
theorem impl_l2 (n : Nat) (hn : n ≤ 8) : ∀ (d kk : Nat) (t : List (List Bool)), kk + d = n → Sq n t → Ev (fun k => impl_closure.l2 k (n : Int) t (kk : Int)) (outF n t (List.range' kk d)) := by
  intro d
  induction d with
  | zero =>
    intro kk t hk ht
    refine ev_succ ?_
    simp only [impl_closure.l2, if_neg (show ¬ (kk : Int) < (n : Int) by omega)]
    exact ev_now _
  | succ d ih =>
    intro kk t hk ht
    refine ev_succ ?_
    rw [List.range'_succ]
    simp only [outF, List.foldl_cons, impl_closure.l2, if_pos (show (kk : Int) < (n : Int) by omega)]
    exact impl_l3 n hn kk (by omega) (fun t => outF n t (List.range' (kk + 1) d)) (fun t ht => ih (kk + 1) t (by omega) ht) n 0 t (by omega) ht
theorem impl_l1 (n : Nat) (hn : n ≤ 8) (es : List S63) (hes : es.length ≤ 1048576) (hin : inN n es) : ∀ (d i : Nat) (t : List (List Bool)), i + d = es.length → Sq n t → Ev (fun k => impl_closure.l1 k (n : Int) t es (es.length : Int) (i : Int)) (outF n (edgeF t (es.drop i)) (List.range' 0 n)) := by
  intro d
  induction d with
  | zero =>
    intro i t hi ht
    refine ev_succ ?_
    simp only [impl_closure.l1, if_neg (show ¬ (i : Int) < (es.length : Int) by omega), List.drop_of_length_le (show es.length ≤ i by omega)]
    exact impl_l2 n hn n 0 t (by omega) ht
  | succ d ih =>
    intro i t hi ht
    refine ev_succ ?_
    have hx : i < es.length := by omega
    have hl := ht.1
    have he := hin es[i] (List.getElem_mem hx)
    obtain ⟨a, ha⟩ := Int.eq_ofNat_of_zero_le he.1
    obtain ⟨b, hb⟩ := Int.eq_ofNat_of_zero_le he.2.2.1
    have hr : (rd_L3 t (a : Int)).length = n := by rw [rdBB t a (by omega)]; exact ht.row a (by omega)
    have h := ih (i + 1) (putT t a b true) (by omega) (ht.put a b (by omega) true)
    rw [List.drop_eq_getElem_cons hx]
    simp only [edgeF, List.foldl_cons, ha, hb, Int.toNat_natCast]
    simp only [edgeF] at h
    simp only [impl_closure.l1, if_pos (show (i : Int) < (es.length : Int) by omega), if_pos (show (0 : Int) ≤ (i : Int) by omega), rdA2 es i hx, ha, hb, if_pos (show (0 : Int) ≤ (a : Int) by omega), if_pos (show (a : Int) < (t.length : Int) by omega), if_pos (show (0 : Int) ≤ (b : Int) by omega), if_pos (show (b : Int) < ((rd_L3 t (a : Int)).length : Int) by omega), wsucc i (by omega), Int.toNat_natCast]
    rw [rdTB t a (by omega)]
    exact h
theorem impl_l0 (n : Nat) (hn : n ≤ 8) (es : List S63) (hes : es.length ≤ 1048576) (hin : inN n es) : ∀ (d i : Nat) (t : List (List Bool)), i + d = n → t.length = n → t.take i = List.replicate i (List.replicate n false) → Ev (fun k => impl_closure.l0 k (n : Int) es t (n : Int) (i : Int)) (closT n es) := by
  intro d
  induction d with
  | zero =>
    intro i t hi hl ht
    refine ev_succ ?_
    have hin' : i = n := by omega
    subst hin'
    rw [List.take_of_length_le (by omega)] at ht
    simp only [impl_closure.l0, if_neg (show ¬ (i : Int) < (i : Int) by omega)]
    have := impl_l1 i hn es hes hin es.length 0 t (by omega) (by rw [ht]; exact ⟨by simp, fun r hr => by rw [List.eq_of_mem_replicate hr]; simp⟩)
    rw [List.drop_zero, ht] at this
    rw [ht]
    exact this
  | succ d ih =>
    intro i t hi hl ht
    refine ev_succ ?_
    simp only [impl_closure.l0, if_pos (show (i : Int) < (n : Int) by omega), if_pos (show (0 : Int) ≤ (n : Int) by omega), Int.toNat_natCast, if_pos (show n ≤ 281474976710656 by omega), if_pos (show (0 : Int) ≤ (i : Int) by omega), if_pos (show (i : Int) < (t.length : Int) by omega), wsucc i (by omega)]
    exact ih (i + 1) _ (by omega) (by rw [List.length_set]; exact hl) (by rw [take_set_succ t i _ (by omega), ht, List.replicate_succ'])
theorem closure_ev (n : Nat) (hn : n ≤ 8) (es : List S63) (hes : es.length ≤ 1048576) (hin : inN n es) : Ev (fun k => impl_closure.f k (n : Int) es) (closT n es) := by
  unfold impl_closure.f
  simp only [if_pos (show (0 : Int) ≤ (n : Int) by omega), Int.toNat_natCast, if_pos (show n ≤ 11728124029610 by omega), Option.bind_some, List.length_replicate]
  exact impl_l0 n hn es hes hin n 0 _ (by omega) (by simp) (by simp)
theorem clos_sq (n : Nat) (es : List S63) (hin : inN n es) : Sq n (closT n es) := by
  unfold closT
  have h0 : Sq n (edgeF (List.replicate n (List.replicate n false)) es) := edge_sq ⟨by simp, fun r hr => by rw [List.eq_of_mem_replicate hr]; simp⟩ es hin
  have key : ∀ (ks : List Nat) (t : List (List Bool)), Sq n t → Sq n (outF n t ks) := by
    intro ks
    unfold outF
    induction ks with
    | nil => intro t h; exact h
    | cons k ks ih => intro t h; exact ih _ (mid_sq h k _ (fun i hi => by rw [List.mem_range'_1] at hi; omega))
  exact key _ _ h0

theorem l1In_eq (a b c : Int) : spec_l1In.f a b c = some (decide (b ≤ a) && decide (a ≤ c)) := by
  unfold spec_l1In.f
  by_cases h : b ≤ a
  · rw [if_pos h]; simp [h]
  · rw [if_neg h]; simp [h]

theorem within_eq (a b c : Int) : impl_within.f a b c = some (decide (b ≤ a) && decide (a ≤ c)) := by
  unfold impl_within.f
  by_cases h : b ≤ a
  · rw [if_pos h]; simp [h]
  · rw [if_neg h]; simp [h]

theorem isNumber_eq (i n : Int) (h0 : 0 ≤ n) (h1 : n ≤ 9223372036854775807) : impl_isNumber.f i n = some (decide (0 ≤ i) && decide (i < n)) := by
  unfold impl_isNumber.f
  rw [within_eq, w64 (by omega) (by omega)]
  simp only [Option.bind_some]
  congr 2
  rw [decide_eq_decide]
  omega

def cE (m : Int) (es : List S63) (i : Nat) : Bool :=
  decide (0 ≤ (rd_T63 es (i : Int)).f0) && decide ((rd_T63 es (i : Int)).f0 ≤ m) && (decide (0 ≤ (rd_T63 es (i : Int)).f1) && decide ((rd_T63 es (i : Int)).f1 ≤ m)) && !decide ((rd_T63 es (i : Int)).f0 = (rd_T63 es (i : Int)).f1) &&
  (decide (i = 0) || decide ((rd_T63 es ((i - 1 : Nat) : Int)).f0 < (rd_T63 es (i : Int)).f0) || decide ((rd_T63 es ((i - 1 : Nat) : Int)).f0 = (rd_T63 es (i : Int)).f0) && decide ((rd_T63 es ((i - 1 : Nat) : Int)).f1 < (rd_T63 es (i : Int)).f1))
def pfE (m : Int) (es : List S63) (i : Nat) : Nat → Bool
  | 0 => true
  | d + 1 => cE m es i && pfE m es (i + 1) d
theorem l4Before_eq (a b c d : Int) : spec_l4Before.f a b c d = some (decide (a < c) || decide (a = c) && decide (b < d)) := by
  unfold spec_l4Before.f
  by_cases h : a < c
  · rw [if_pos h]; simp [h]
  · rw [if_neg h]
    by_cases h' : a = c
    · rw [if_pos h']; simp [h, h']
    · rw [if_neg h']; simp [h, h']
theorem wpred (i : Nat) (h0 : 0 < i) (h : i < 4611686018427387904) : wrap64 ((i : Int) - 1) = ((i - 1 : Nat) : Int) := by
  rw [w64 (by omega) (by omega)]; omega
theorem l4Pairs_l (n : Int) (es : List S63) (hes : es.length ≤ 1048576) : ∀ (d i : Nat), i + d = es.length → Ev (fun k => spec_l4Pairs.l0 k n es (i : Int)) (pfE (wrap64 (n - 1)) es i d && ((decide (0 ≤ n) && decide (n ≤ 8)) && decide ((es.length : Int) ≤ 28))) := by
  intro d
  induction d with
  | zero =>
    intro i hi
    refine ev_succ ?_
    simp only [spec_l4Pairs.l0, if_neg (show ¬ (i : Int) < (es.length : Int) by omega), l1In_eq, Option.bind_some, pfE, Bool.true_and]
    cases hb : (decide (0 ≤ n) && decide (n ≤ 8))
    · simp only [Bool.false_eq_true, if_false, Bool.false_and]; exact ev_now _
    · simp only [if_true, Bool.true_and]; exact ev_now _
  | succ d ih =>
    intro i hi
    refine ev_succ ?_
    have h := ih (i + 1) (by omega)
    simp only [spec_l4Pairs.l0, if_pos (show (i : Int) < (es.length : Int) by omega), if_pos (show (0 : Int) ≤ (i : Int) by omega), l1In_eq, l4Before_eq, Option.bind_some, pfE, wsucc i (by omega)]
    unfold cE
    by_cases ha : (decide (0 ≤ (rd_T63 es (i : Int)).f0) && decide ((rd_T63 es (i : Int)).f0 ≤ wrap64 (n - 1))) = true
    · by_cases hb : (decide (0 ≤ (rd_T63 es (i : Int)).f1) && decide ((rd_T63 es (i : Int)).f1 ≤ wrap64 (n - 1))) = true
      · by_cases hc : (rd_T63 es (i : Int)).f0 = (rd_T63 es (i : Int)).f1
        · simp only [ha, hb, if_true, if_pos hc, decide_eq_true hc, Bool.not_true, Bool.and_false, Bool.false_and]; exact ev_now _
        · by_cases h0 : i = 0
          · subst h0
            simp only [ha, hb, if_true, if_neg hc, decide_true, Bool.true_or, Bool.true_and, decide_eq_false hc, Bool.not_false, gt_iff_lt, if_neg (show ¬ ((0 : Int) < ((0 : Nat) : Int)) by omega)]
            exact h
          · simp only [ha, hb, if_true, if_neg hc, if_pos (show (i : Int) > 0 by omega), wpred i (by omega) (by omega), if_pos (show (0 : Int) ≤ ((i - 1 : Nat) : Int) by omega), if_pos (show ((i - 1 : Nat) : Int) < (es.length : Int) by omega), decide_eq_false h0, Bool.false_or, Bool.true_and, decide_eq_false hc, Bool.not_false]
            cases hd : (decide ((rd_T63 es ((i - 1 : Nat) : Int)).f0 < (rd_T63 es (i : Int)).f0) || decide ((rd_T63 es ((i - 1 : Nat) : Int)).f0 = (rd_T63 es (i : Int)).f0) && decide ((rd_T63 es ((i - 1 : Nat) : Int)).f1 < (rd_T63 es (i : Int)).f1))
            · simp only [Bool.false_eq_true, if_false, Bool.false_and]; exact ev_now _
            · simp only [if_true, Bool.true_and]; exact h
      · simp only [ha, if_true, if_neg hb, Bool.not_eq_true .. ▸ hb, Bool.and_false, Bool.false_and]; exact ev_now _
    · simp only [if_neg ha, Bool.not_eq_true .. ▸ ha, Bool.false_and]; exact ev_now _
def okE (n : Int) (es : List S63) : Bool := pfE (wrap64 (n - 1)) es 0 es.length && ((decide (0 ≤ n) && decide (n ≤ 8)) && decide ((es.length : Int) ≤ 28))
theorem l4Pairs_ev (n : Int) (es : List S63) (hes : es.length ≤ 1048576) : Ev (fun k => spec_l4Pairs.f k n es) (okE n es) := by
  unfold spec_l4Pairs.f
  exact l4Pairs_l n es hes es.length 0 (by omega)
theorem pfE_in (n : Nat) (hn : n ≤ 8) (es : List S63) : ∀ (d i : Nat), i + d = es.length → pfE (wrap64 ((n : Int) - 1)) es i d = true → ∀ j, i ≤ j → (hj : j < es.length) → 0 ≤ (es[j]).f0 ∧ (es[j]).f0 < n ∧ 0 ≤ (es[j]).f1 ∧ (es[j]).f1 < n := by
  intro d
  induction d with
  | zero => intro i hi _ j hj hj'; omega
  | succ d ih =>
    intro i hi h j hj hj'
    unfold pfE at h
    rw [Bool.and_eq_true] at h
    by_cases he : j = i
    · subst he
      have h1 := h.1
      unfold cE at h1
      rw [rdA2 es j hj', w64 (by omega) (by omega)] at h1
      simp only [Bool.and_eq_true, decide_eq_true_eq] at h1
      obtain ⟨⟨⟨⟨a1, a2⟩, ⟨a3, a4⟩⟩, _⟩, _⟩ := h1
      exact ⟨a1, by omega, a3, by omega⟩
    · exact ih (i + 1) (by omega) h.2 j (by omega) hj'
theorem okE_in (n : Int) (es : List S63) (h : okE n es = true) : ∃ m : Nat, n = m ∧ m ≤ 8 ∧ es.length ≤ 28 ∧ inN m es := by
  unfold okE at h
  simp only [Bool.and_eq_true, decide_eq_true_eq] at h
  obtain ⟨h1, ⟨h2, h3⟩, h4⟩ := h
  obtain ⟨m, rfl⟩ := Int.eq_ofNat_of_zero_le h2
  refine ⟨m, rfl, by omega, by omega, fun e he => ?_⟩
  obtain ⟨j, hj, rfl⟩ := List.mem_iff_getElem.mp he
  have := pfE_in m (by omega) es es.length 0 (by omega) h1 j (by omega) hj
  omega
/-- No job stands before itself, from the i-th on. -/
def acyF (t : List (List Bool)) (i : Nat) : Nat → Bool
  | 0 => true
  | d + 1 => !tb t i i && acyF t (i + 1) d
def good4 (n : Int) (es : List S63) : Bool := okE n es && acyF (closT n.toNat es) 0 n.toNat
theorem l4Good_l (n : Nat) (hn : n ≤ 8) (t : List (List Bool)) (ht : Sq n t) : ∀ (d i : Nat), i + d = n → Ev (fun k => spec_l4Good.l0 k (n : Int) t (i : Int)) (acyF t i d) := by
  intro d
  induction d with
  | zero =>
    intro i hi
    refine ev_succ ?_
    simp only [spec_l4Good.l0, if_neg (show ¬ (i : Int) < (n : Int) by omega), acyF]
    exact ev_now _
  | succ d ih =>
    intro i hi
    refine ev_succ ?_
    have h := ih (i + 1) (by omega)
    have hl := ht.1
    have hr : (rd_L3 t (i : Int)).length = n := by rw [rdBB t i (by omega)]; exact ht.row i (by omega)
    simp only [spec_l4Good.l0, if_pos (show (i : Int) < (n : Int) by omega), if_pos (show (0 : Int) ≤ (i : Int) by omega), if_pos (show (i : Int) < (t.length : Int) by omega), if_pos (show (i : Int) < ((rd_L3 t (i : Int)).length : Int) by omega), rdTT ht i i (by omega) (by omega), wsucc i (by omega), acyF]
    cases tb t i i
    · simp only [Bool.false_eq_true, if_false, Bool.not_false, Bool.true_and]; exact h
    · simp only [if_true, Bool.not_true, Bool.false_and]; exact ev_now _
theorem l4Good_ev (n : Int) (es : List S63) (hes : es.length ≤ 1048576) : Ev (fun k => spec_l4Good.f k n es) (good4 n es) := by
  unfold spec_l4Good.f good4
  refine ev_bind (l4Pairs_ev n es hes) ?_
  cases hk : okE n es
  · simp only [Bool.false_eq_true, if_false, Bool.false_and]; exact ev_now _
  · obtain ⟨m, rfl, hm, hl, hin⟩ := okE_in n es hk
    simp only [if_true, Bool.true_and, Int.toNat_natCast]
    exact ev_bind (l4Table_ev m hm es hes hin) (l4Good_l m hm _ (clos_sq m es hin) m 0 (by omega))
theorem isPrec_l1 (n : Nat) (hn : n ≤ 8) (t : List (List Bool)) (ht : Sq n t) : ∀ (d i : Nat), i + d = n → Ev (fun k => impl_IsPrecedence.l1 k t (n : Int) (i : Int)) (acyF t i d) := by
  intro d
  induction d with
  | zero =>
    intro i hi
    refine ev_succ ?_
    simp only [impl_IsPrecedence.l1, if_neg (show ¬ (i : Int) < (n : Int) by omega), acyF]
    exact ev_now _
  | succ d ih =>
    intro i hi
    refine ev_succ ?_
    have h := ih (i + 1) (by omega)
    have hl := ht.1
    have hr : (rd_L3 t (i : Int)).length = n := by rw [rdBB t i (by omega)]; exact ht.row i (by omega)
    simp only [impl_IsPrecedence.l1, if_pos (show (i : Int) < (n : Int) by omega), if_pos (show (0 : Int) ≤ (i : Int) by omega), if_pos (show (i : Int) < (t.length : Int) by omega), if_pos (show (i : Int) < ((rd_L3 t (i : Int)).length : Int) by omega), rdTT ht i i (by omega) (by omega), wsucc i (by omega), acyF]
    cases tb t i i
    · simp only [Bool.false_eq_true, if_false, Bool.not_false, Bool.true_and]; exact h
    · simp only [if_true, Bool.not_true, Bool.false_and]; exact ev_now _
theorem isPrec_l0 (n : Nat) (hn : n ≤ 8) (es : List S63) (hes : es.length ≤ 28) (hG : pfE (wrap64 ((n : Int) - 1)) es 0 es.length = true → inN n es) :
    ∀ (d i : Nat), i + d = es.length → (pfE (wrap64 ((n : Int) - 1)) es i d = true → pfE (wrap64 ((n : Int) - 1)) es 0 es.length = true) → Ev (fun k => impl_IsPrecedence.l0 k (n : Int) es es (es.length : Int) (i : Int)) (pfE (wrap64 ((n : Int) - 1)) es i d && acyF (closT n es) 0 n) := by
  intro d
  induction d with
  | zero =>
    intro i hi hp
    have hin := hG (hp rfl)
    have hl := (clos_sq n es hin).1
    refine ev_succ ?_
    simp only [impl_IsPrecedence.l0, if_neg (show ¬ (i : Int) < (es.length : Int) by omega), pfE, Bool.true_and]
    refine ev_bind (closure_ev n hn es (by omega) hin) ?_
    rw [hl]
    exact isPrec_l1 n hn _ (clos_sq n es hin) n 0 (by omega)
  | succ d ih =>
    intro i hi hp
    refine ev_succ ?_
    have hm : wrap64 ((n : Int) - 1) = (n : Int) - 1 := w64 (by omega) (by omega)
    have e1 : ∀ x : Int, decide (x ≤ (n : Int) - 1) = decide (x < (n : Int)) := fun x => by rw [decide_eq_decide]; omega
    have h := fun (hq : cE (wrap64 ((n : Int) - 1)) es i = true) => ih (i + 1) (by omega) (fun x => hp (by rw [pfE, hq, x]; rfl))
    simp only [impl_IsPrecedence.l0, if_pos (show (i : Int) < (es.length : Int) by omega), if_pos (show (0 : Int) ≤ (i : Int) by omega), isNumber_eq _ (n : Int) (by omega) (by omega), Option.bind_some, pfE]
    have hcE : cE (wrap64 ((n : Int) - 1)) es i = (decide (0 ≤ (rd_T63 es (i : Int)).f0) && decide ((rd_T63 es (i : Int)).f0 < (n : Int)) && (decide (0 ≤ (rd_T63 es (i : Int)).f1) && decide ((rd_T63 es (i : Int)).f1 < (n : Int))) && !decide ((rd_T63 es (i : Int)).f0 = (rd_T63 es (i : Int)).f1) &&
        (decide (i = 0) || decide ((rd_T63 es ((i - 1 : Nat) : Int)).f0 < (rd_T63 es (i : Int)).f0) || decide ((rd_T63 es ((i - 1 : Nat) : Int)).f0 = (rd_T63 es (i : Int)).f0) && decide ((rd_T63 es ((i - 1 : Nat) : Int)).f1 < (rd_T63 es (i : Int)).f1))) := by
      unfold cE; rw [hm, e1, e1]
    by_cases ha : (decide (0 ≤ (rd_T63 es (i : Int)).f0) && decide ((rd_T63 es (i : Int)).f0 < (n : Int))) = true
    · by_cases hb : (decide (0 ≤ (rd_T63 es (i : Int)).f1) && decide ((rd_T63 es (i : Int)).f1 < (n : Int))) = true
      · simp only [ha, hb, if_true]
        refine ev_succ ?_
        rw [ha, hb] at hcE
        by_cases hc : (rd_T63 es (i : Int)).f0 = (rd_T63 es (i : Int)).f1
        · rw [hcE]
          simp only [impl_IsPrecedence.j2, hc, beq_self_eq_true, if_true, decide_true, Bool.not_true, Bool.and_false, Bool.false_and]; exact ev_now _
        · by_cases h0 : i = 0
          · have hc' : cE (wrap64 ((n : Int) - 1)) es i = true := by rw [hcE]; simp only [decide_eq_false hc, decide_eq_true h0]; rfl
            have h := h hc'
            rw [hc']
            subst h0
            simp only [impl_IsPrecedence.j2, beq_eq_false_iff_ne.mpr hc, Bool.false_eq_true, if_false, gt_iff_lt, if_neg (show ¬ ((0 : Int) < ((0 : Nat) : Int)) by omega), wsucc 0 (by omega), Bool.true_and]
            exact h
          · simp only [impl_IsPrecedence.j2, beq_eq_false_iff_ne.mpr hc, Bool.false_eq_true, if_false, gt_iff_lt, ge_iff_le, if_pos (show (0 : Int) < (i : Int) by omega), wpred i (by omega) (by omega), if_pos (show (0 : Int) ≤ ((i - 1 : Nat) : Int) by omega), if_pos (show ((i - 1 : Nat) : Int) < (es.length : Int) by omega), wsucc i (by omega)]
            by_cases g1 : (rd_T63 es (i : Int)).f0 < (rd_T63 es ((i - 1 : Nat) : Int)).f0
            · have hc' : cE (wrap64 ((n : Int) - 1)) es i = false := by rw [hcE]; simp only [decide_eq_false h0, decide_eq_false (show ¬ (rd_T63 es ((i - 1 : Nat) : Int)).f0 < (rd_T63 es (i : Int)).f0 by omega), decide_eq_false (show ¬ (rd_T63 es ((i - 1 : Nat) : Int)).f0 = (rd_T63 es (i : Int)).f0 by omega), Bool.false_and, Bool.false_or, Bool.or_false, Bool.and_false]
              simp only [if_pos g1, hc', Bool.false_and]; exact ev_now _
            · simp only [if_neg g1]
              by_cases g2 : (rd_T63 es ((i - 1 : Nat) : Int)).f0 = (rd_T63 es (i : Int)).f0
              · simp only [if_pos g2]
                by_cases g3 : (rd_T63 es (i : Int)).f1 ≤ (rd_T63 es ((i - 1 : Nat) : Int)).f1
                · have hc' : cE (wrap64 ((n : Int) - 1)) es i = false := by rw [hcE]; simp only [decide_eq_false h0, decide_eq_false (show ¬ (rd_T63 es ((i - 1 : Nat) : Int)).f0 < (rd_T63 es (i : Int)).f0 by omega), decide_eq_false (show ¬ (rd_T63 es ((i - 1 : Nat) : Int)).f1 < (rd_T63 es (i : Int)).f1 by omega), Bool.and_false, Bool.false_or, Bool.or_false]
                  simp only [if_pos g3, hc', Bool.false_and]; exact ev_now _
                · have hc' : cE (wrap64 ((n : Int) - 1)) es i = true := by rw [hcE]; simp only [decide_eq_false hc, decide_eq_true g2, decide_eq_true (show (rd_T63 es ((i - 1 : Nat) : Int)).f1 < (rd_T63 es (i : Int)).f1 by omega), Bool.and_true, Bool.or_true, Bool.not_false]
                  simp only [if_neg g3, hc', Bool.true_and]; exact h hc'
              · have hc' : cE (wrap64 ((n : Int) - 1)) es i = true := by rw [hcE]; simp only [decide_eq_false hc, decide_eq_true (show (rd_T63 es ((i - 1 : Nat) : Int)).f0 < (rd_T63 es (i : Int)).f0 by omega), Bool.and_true, Bool.or_true, Bool.true_or, Bool.not_false]
                simp only [if_neg g2, hc', Bool.true_and]; exact h hc'
      · have hb' : (decide (0 ≤ (rd_T63 es (i : Int)).f1) && decide ((rd_T63 es (i : Int)).f1 < (n : Int))) = false := by simpa using hb
        have hc' : cE (wrap64 ((n : Int) - 1)) es i = false := by rw [hcE, hb', Bool.and_false, Bool.false_and, Bool.false_and]
        simp only [ha, if_true, if_neg hb, hc', Bool.false_and]
        refine ev_succ ?_
        simp only [impl_IsPrecedence.j2, if_true]; exact ev_now _
    · have ha' : (decide (0 ≤ (rd_T63 es (i : Int)).f0) && decide ((rd_T63 es (i : Int)).f0 < (n : Int))) = false := by simpa using ha
      have hc' : cE (wrap64 ((n : Int) - 1)) es i = false := by rw [hcE, ha', Bool.false_and, Bool.false_and, Bool.false_and]
      simp only [if_neg ha, hc', Bool.false_and]
      refine ev_succ ?_
      simp only [impl_IsPrecedence.j2, if_true]; exact ev_now _
theorem isPrec_ev (n : Int) (es : List S63) : Ev (fun k => impl_IsPrecedence.f k n es) (good4 n es) := by
  unfold impl_IsPrecedence.f
  simp only [within_eq, Option.bind_some]
  by_cases h : 0 ≤ n ∧ n ≤ 8
  · obtain ⟨m, rfl⟩ := Int.eq_ofNat_of_zero_le h.1
    have hb : (decide (0 ≤ (m : Int)) && decide ((m : Int) ≤ 8)) = true := by simp; omega
    simp only [hb, if_true]
    refine ev_succ ?_
    by_cases hl : (es.length : Int) > 28
    · have : good4 (m : Int) es = false := by unfold good4 okE; rw [decide_eq_false (show ¬ (es.length : Int) ≤ 28 by omega)]; simp
      simp only [impl_IsPrecedence.j0, decide_eq_true hl, if_true, this]; exact ev_now _
    · simp only [impl_IsPrecedence.j0, decide_eq_false hl, Bool.false_eq_true, if_false]
      have hk : good4 (m : Int) es = (pfE (wrap64 ((m : Int) - 1)) es 0 es.length && acyF (closT m es) 0 m) := by
        unfold good4 okE; rw [hb, decide_eq_true (show (es.length : Int) ≤ 28 by omega)]; simp
      rw [hk]
      refine isPrec_l0 m (by omega) es (by omega) (fun hp => ?_) es.length 0 (by omega) (fun x => x)
      obtain ⟨m', e, _, _, hin⟩ := okE_in (m : Int) es (by unfold okE; rw [hp, hb, decide_eq_true (show (es.length : Int) ≤ 28 by omega)]; rfl)
      rw [show m = m' by omega]; exact hin
  · have hb : (decide (0 ≤ n) && decide (n ≤ 8)) = false := by
      rw [Bool.eq_false_iff]; intro x; simp only [Bool.and_eq_true, decide_eq_true_eq] at x; exact h x
    have : good4 n es = false := by unfold good4 okE; rw [hb]; simp
    simp only [hb, Bool.false_eq_true, if_false, this]
    refine ev_succ ?_
    simp only [impl_IsPrecedence.j0, if_true]; exact ev_now _

def apB (t : List (List Bool)) (i j : Nat) : Bool := !decide (i = j) && (!tb t i j && !tb t j i)
def badB (t : List (List Bool)) (a b c d : Nat) : Bool := tb t a c && (tb t b c && (tb t b d && (apB t a b && (apB t a d && apB t c d))))
theorem bb_len {n : Nat} {t : List (List Bool)} (ht : Sq n t) {i : Nat} (hi : i < n) : (rd_L3 t (i : Int)).length = n := by rw [rdBB t i (by have := ht.1; omega)]; exact ht.row i hi
theorem key_ser : ∀ (x1 x2 x3 x4 x5 x6 : Bool) (L : Option Bool), (if x1 = true then (if x2 = true then (if x3 = true then (if x4 = true then (if x5 = true then (if x6 = true then some false else L) else L) else L) else L) else L) else L) = if (x1 && (x2 && (x3 && (x4 && (x5 && x6))))) = true then some false else L := by
  intro x1 x2 x3 x4 x5 x6 L
  cases x1 <;> cases x2 <;> cases x3 <;> cases x4 <;> cases x5 <;> cases x6 <;> rfl
theorem key_par : ∀ (x1 x2 x3 x4 x5 x6 : Bool) (L : Option Bool), (if x1 = true then (if x2 = true then (if x3 = true then (if x4 = true then (if x6 = true then (if x5 = true then some false else L) else L) else L) else L) else L) else L) = if (x1 && (x2 && (x3 && (x4 && (x5 && x6))))) = true then some false else L := by
  intro x1 x2 x3 x4 x5 x6 L
  cases x1 <;> cases x2 <;> cases x3 <;> cases x4 <;> cases x5 <;> cases x6 <;> rfl
theorem specApart {n : Nat} {t : List (List Bool)} (ht : Sq n t) {i j : Nat} (hi : i < n) (hj : j < n) : spec_l4Apart.f t (i : Int) (j : Int) = some (apB t i j) := by
  have hl := ht.1
  unfold spec_l4Apart.f apB
  by_cases h : i = j
  · rw [if_pos (by omega), decide_eq_true h]; rfl
  · rw [if_neg (by omega), decide_eq_false h]
    simp only [if_pos (show (0 : Int) ≤ (i : Int) by omega), if_pos (show (i : Int) < (t.length : Int) by omega), if_pos (show (0 : Int) ≤ (j : Int) by omega), if_pos (show (j : Int) < (t.length : Int) by omega), bb_len ht hi, bb_len ht hj, if_pos (show (j : Int) < (n : Int) by omega), if_pos (show (i : Int) < (n : Int) by omega), rdTT ht i j hi hj, rdTT ht j i hj hi]
    cases tb t i j <;> cases tb t j i <;> rfl
theorem implApart {n : Nat} {t : List (List Bool)} (ht : Sq n t) {i j : Nat} (hi : i < n) (hj : j < n) : impl_isSeriesParallel_1.f (i : Int) (j : Int) t = some (apB t i j) := by
  have hl := ht.1
  unfold impl_isSeriesParallel_1.f apB
  by_cases h : i = j
  · rw [if_pos (by omega), decide_eq_true h]; rfl
  · rw [if_neg (by omega), decide_eq_false h]
    simp only [if_pos (show (0 : Int) ≤ (i : Int) by omega), if_pos (show (i : Int) < (t.length : Int) by omega), if_pos (show (0 : Int) ≤ (j : Int) by omega), if_pos (show (j : Int) < (t.length : Int) by omega), bb_len ht hi, bb_len ht hj, if_pos (show (j : Int) < (n : Int) by omega), if_pos (show (i : Int) < (n : Int) by omega), rdTT ht i j hi hj, rdTT ht j i hj hi]
    cases tb t i j <;> cases tb t j i <;> rfl
section
variable {n : Nat} {t : List (List Bool)} (hn : n ≤ 8) (ht : Sq n t)
include hn ht
theorem ser_step3 (k a b c d : Nat) (ha : a < n) (hb : b < n) (hc : c < n) (hd : d < n) : impl_isSeriesParallel.l3 (k + 1) (n : Int) (a : Int) (b : Int) (c : Int) (d : Int) t = if badB t a b c d = true then some false else impl_isSeriesParallel.l3 k (n : Int) (a : Int) (b : Int) (c : Int) ((d + 1 : Nat) : Int) t := by
  have hl := ht.1
  have e := wsucc d (by omega)
  simp only [impl_isSeriesParallel.l3, if_pos (show (d : Int) < (n : Int) by omega), if_pos (show (0 : Int) ≤ (a : Int) by omega), if_pos (show (0 : Int) ≤ (b : Int) by omega), if_pos (show (0 : Int) ≤ (c : Int) by omega), if_pos (show (0 : Int) ≤ (d : Int) by omega), if_pos (show (a : Int) < (t.length : Int) by omega), if_pos (show (b : Int) < (t.length : Int) by omega), bb_len ht ha, bb_len ht hb, if_pos (show (c : Int) < (n : Int) by omega), rdTT ht a c ha hc, rdTT ht b c hb hc, rdTT ht b d hb hd, implApart ht ha hb, implApart ht ha hd, implApart ht hc hd, Option.bind_some, e]
  exact key_ser _ _ _ _ _ _ _
theorem ser3_hit (a b c : Nat) (ha : a < n) (hb : b < n) (hc : c < n) : ∀ (q d : Nat), d + q = n → (∃ d', d ≤ d' ∧ d' < n ∧ badB t a b c d' = true) → Ev (fun K => impl_isSeriesParallel.l3 K (n : Int) (a : Int) (b : Int) (c : Int) (d : Int) t) false := by
  intro q
  induction q with
  | zero => rintro d hd ⟨d', h1, h2, _⟩; omega
  | succ q ih =>
    rintro d hd ⟨d', h1, h2, h3⟩
    refine ev_succ ?_
    simp only [ser_step3 hn ht _ a b c d ha hb hc (by omega)]
    by_cases h : badB t a b c d = true
    · simp only [if_pos h]; exact ev_now _
    · simp only [if_neg h]
      exact ih (d + 1) (by omega) ⟨d', by rcases Nat.lt_or_ge d d' with g | g; · omega
                                          · exact absurd ((show d' = d by omega) ▸ h3) h, h2, h3⟩
theorem ser3_miss (a b c : Nat) (ha : a < n) (hb : b < n) (hc : c < n) (r : Bool) (hr : Ev (fun K => impl_isSeriesParallel.l2 K (n : Int) (a : Int) (b : Int) ((c + 1 : Nat) : Int) t) r) : ∀ (q d : Nat), d + q = n → (∀ d', d ≤ d' → d' < n → badB t a b c d' = false) → Ev (fun K => impl_isSeriesParallel.l3 K (n : Int) (a : Int) (b : Int) (c : Int) (d : Int) t) r := by
  intro q
  induction q with
  | zero =>
    intro d hd _
    refine ev_succ ?_
    have e := wsucc c (by omega)
    simp only [impl_isSeriesParallel.l3, if_neg (show ¬ ((d : Int) < (n : Int)) by omega), e]
    exact hr
  | succ q ih =>
    intro d hd h
    refine ev_succ ?_
    simp only [ser_step3 hn ht _ a b c d ha hb hc (by omega), h d (by omega) (by omega), Bool.false_eq_true, if_false]
    exact ih (d + 1) (by omega) (fun d' h1 h2 => h d' (by omega) h2)
theorem ser2_hit (a b : Nat) (ha : a < n) (hb : b < n) : ∀ (q c : Nat), c + q = n → (∃ c' d', c ≤ c' ∧ c' < n ∧ d' < n ∧ badB t a b c' d' = true) → Ev (fun K => impl_isSeriesParallel.l2 K (n : Int) (a : Int) (b : Int) (c : Int) t) false := by
  intro q
  induction q with
  | zero => rintro c hc ⟨c', d', h1, h2, _⟩; omega
  | succ q ih =>
    rintro c hc ⟨c', d', h1, h2, h3, h4⟩
    refine ev_succ ?_
    simp only [impl_isSeriesParallel.l2, if_pos (show (c : Int) < (n : Int) by omega)]
    by_cases h : ∃ d', 0 ≤ d' ∧ d' < n ∧ badB t a b c d' = true
    · exact ser3_hit hn ht a b c ha hb (by omega) n 0 (by omega) h
    · refine ser3_miss hn ht a b c ha hb (by omega) _ ?_ n 0 (by omega) (fun d' _ g => by cases e : badB t a b c d' with | false => rfl | true => exact absurd ⟨d', Nat.zero_le _, g, e⟩ h)
      refine ih (c + 1) (by omega) ⟨c', d', ?_, h2, h3, h4⟩
      rcases Nat.lt_or_ge c c' with g | g
      · omega
      · obtain rfl : c' = c := by omega
        exact absurd ⟨d', Nat.zero_le _, h3, h4⟩ h
theorem ser2_miss (a b : Nat) (ha : a < n) (hb : b < n) (r : Bool) (hr : Ev (fun K => impl_isSeriesParallel.l1 K (n : Int) (a : Int) ((b + 1 : Nat) : Int) t) r) : ∀ (q c : Nat), c + q = n → (∀ c' d', c ≤ c' → c' < n → d' < n → badB t a b c' d' = false) → Ev (fun K => impl_isSeriesParallel.l2 K (n : Int) (a : Int) (b : Int) (c : Int) t) r := by
  intro q
  induction q with
  | zero =>
    intro c hc _
    refine ev_succ ?_
    have e := wsucc b (by omega)
    simp only [impl_isSeriesParallel.l2, if_neg (show ¬ ((c : Int) < (n : Int)) by omega), e]
    exact hr
  | succ q ih =>
    intro c hc h
    refine ev_succ ?_
    simp only [impl_isSeriesParallel.l2, if_pos (show (c : Int) < (n : Int) by omega)]
    exact ser3_miss hn ht a b c ha hb (by omega) _ (ih (c + 1) (by omega) (fun c' d' h1 h2 h3 => h c' d' (by omega) h2 h3)) n 0 (by omega) (fun d' _ g => h c d' (Nat.le_refl _) (by omega) g)
theorem ser1_hit (a : Nat) (ha : a < n) : ∀ (q b : Nat), b + q = n → (∃ b' c' d', b ≤ b' ∧ b' < n ∧ c' < n ∧ d' < n ∧ badB t a b' c' d' = true) → Ev (fun K => impl_isSeriesParallel.l1 K (n : Int) (a : Int) (b : Int) t) false := by
  intro q
  induction q with
  | zero => rintro b hb ⟨b', c', d', h1, h2, _⟩; omega
  | succ q ih =>
    rintro b hb ⟨b', c', d', h1, h2, h3, h4, h5⟩
    refine ev_succ ?_
    simp only [impl_isSeriesParallel.l1, if_pos (show (b : Int) < (n : Int) by omega)]
    by_cases h : ∃ c' d', 0 ≤ c' ∧ c' < n ∧ d' < n ∧ badB t a b c' d' = true
    · exact ser2_hit hn ht a b ha (by omega) n 0 (by omega) h
    · refine ser2_miss hn ht a b ha (by omega) _ ?_ n 0 (by omega) (fun c' d' _ g g' => by cases e : badB t a b c' d' with | false => rfl | true => exact absurd ⟨c', d', Nat.zero_le _, g, g', e⟩ h)
      refine ih (b + 1) (by omega) ⟨b', c', d', ?_, h2, h3, h4, h5⟩
      rcases Nat.lt_or_ge b b' with g | g
      · omega
      · obtain rfl : b' = b := by omega
        exact absurd ⟨c', d', Nat.zero_le _, h3, h4, h5⟩ h
theorem ser1_miss (a : Nat) (ha : a < n) (r : Bool) (hr : Ev (fun K => impl_isSeriesParallel.l0 K (n : Int) ((a + 1 : Nat) : Int) t) r) : ∀ (q b : Nat), b + q = n → (∀ b' c' d', b ≤ b' → b' < n → c' < n → d' < n → badB t a b' c' d' = false) → Ev (fun K => impl_isSeriesParallel.l1 K (n : Int) (a : Int) (b : Int) t) r := by
  intro q
  induction q with
  | zero =>
    intro b hb _
    refine ev_succ ?_
    have e := wsucc a (by omega)
    simp only [impl_isSeriesParallel.l1, if_neg (show ¬ ((b : Int) < (n : Int)) by omega), e]
    exact hr
  | succ q ih =>
    intro b hb h
    refine ev_succ ?_
    simp only [impl_isSeriesParallel.l1, if_pos (show (b : Int) < (n : Int) by omega)]
    exact ser2_miss hn ht a b ha (by omega) _ (ih (b + 1) (by omega) (fun b' c' d' h1 h2 h3 h4 => h b' c' d' (by omega) h2 h3 h4)) n 0 (by omega) (fun c' d' _ g g' => h b c' d' (Nat.le_refl _) (by omega) g g')
theorem ser0_hit : ∀ (q a : Nat), a + q = n → (∃ a' b' c' d', a ≤ a' ∧ a' < n ∧ b' < n ∧ c' < n ∧ d' < n ∧ badB t a' b' c' d' = true) → Ev (fun K => impl_isSeriesParallel.l0 K (n : Int) (a : Int) t) false := by
  intro q
  induction q with
  | zero => rintro a ha ⟨a', b', c', d', h1, h2, _⟩; omega
  | succ q ih =>
    rintro a ha ⟨a', b', c', d', h1, h2, h3, h4, h5, h6⟩
    refine ev_succ ?_
    simp only [impl_isSeriesParallel.l0, if_pos (show (a : Int) < (n : Int) by omega)]
    by_cases h : ∃ b' c' d', 0 ≤ b' ∧ b' < n ∧ c' < n ∧ d' < n ∧ badB t a b' c' d' = true
    · exact ser1_hit hn ht a (by omega) n 0 (by omega) h
    · refine ser1_miss hn ht a (by omega) _ ?_ n 0 (by omega) (fun b' c' d' _ g g' g2 => by cases e : badB t a b' c' d' with | false => rfl | true => exact absurd ⟨b', c', d', Nat.zero_le _, g, g', g2, e⟩ h)
      refine ih (a + 1) (by omega) ⟨a', b', c', d', ?_, h2, h3, h4, h5, h6⟩
      rcases Nat.lt_or_ge a a' with g | g
      · omega
      · obtain rfl : a' = a := by omega
        exact absurd ⟨b', c', d', Nat.zero_le _, h3, h4, h5, h6⟩ h
theorem ser0_miss : ∀ (q a : Nat), a + q = n → (∀ a' b' c' d', a ≤ a' → a' < n → b' < n → c' < n → d' < n → badB t a' b' c' d' = false) → Ev (fun K => impl_isSeriesParallel.l0 K (n : Int) (a : Int) t) true := by
  intro q
  induction q with
  | zero =>
    intro a ha _
    refine ev_succ ?_
    simp only [impl_isSeriesParallel.l0, if_neg (show ¬ ((a : Int) < (n : Int)) by omega)]
    exact ev_now _
  | succ q ih =>
    intro a ha h
    refine ev_succ ?_
    simp only [impl_isSeriesParallel.l0, if_pos (show (a : Int) < (n : Int) by omega)]
    exact ser1_miss hn ht a (by omega) _ (ih (a + 1) (by omega) (fun a' b' c' d' h1 h2 h3 h4 h5 => h a' b' c' d' (by omega) h2 h3 h4 h5)) n 0 (by omega) (fun b' c' d' _ g g' g2 => h a b' c' d' (Nat.le_refl _) (by omega) g g' g2)
theorem par_step (k q : Nat) (hq : q < n * n * n * n) : spec_l4Parallel.l0 (k + 1) t (n : Int) (q : Int) = if badB t (q % n) (q / n % n) (q / n / n % n) (q / n / n / n) = true then some false else spec_l4Parallel.l0 k t (n : Int) ((q + 1 : Nat) : Int) := by
  have hl := ht.1
  have hn0 : 0 < n := by
    rcases Nat.eq_zero_or_pos n with h | h
    · subst h; simp at hq
    · exact h
  have hb4 : n * n * n * n ≤ 4096 := by
    have h2 : n * n ≤ 64 := Nat.mul_le_mul hn hn
    have h3 : n * n * n ≤ 64 * 8 := Nat.mul_le_mul h2 hn
    exact Nat.mul_le_mul h3 hn
  have e1 : wrap64 ((n : Int) * (n : Int)) = ((n * n : Nat) : Int) := by
    rw [← Int.natCast_mul]
    have h2 : n * n ≤ 64 := Nat.mul_le_mul hn hn
    generalize n * n = z at h2 ⊢
    exact w64 (by omega) (by omega)
  have e2 : wrap64 (((n * n : Nat) : Int) * (n : Int)) = ((n * n * n : Nat) : Int) := by
    rw [← Int.natCast_mul]
    have h2 : n * n ≤ 64 := Nat.mul_le_mul hn hn
    have h3 : n * n * n ≤ 64 * 8 := Nat.mul_le_mul h2 hn
    generalize n * n * n = z at h3 ⊢
    exact w64 (by omega) (by omega)
  have e3 : wrap64 (((n * n * n : Nat) : Int) * (n : Int)) = ((n * n * n * n : Nat) : Int) := by
    rw [← Int.natCast_mul]
    generalize n * n * n * n = z at hb4 ⊢
    exact w64 (by omega) (by omega)
  have hq4 : q < 4096 := by omega
  have ew := wsucc q (by omega)
  have hn1 : ¬ ((n : Int) = 0) := by omega
  have hmod : ∀ x : Nat, Int.tmod (x : Int) (n : Int) = ((x % n : Nat) : Int) := fun x => by rw [Int.tmod_eq_emod_of_nonneg (by omega)]; exact (Int.natCast_emod x n).symm
  have hdiv : ∀ x : Nat, x < 4097 → wrap64 (Int.tdiv (x : Int) (n : Int)) = ((x / n : Nat) : Int) := fun x hx => by
    rw [Int.tdiv_eq_ediv_of_nonneg (by omega), ← Int.natCast_ediv]
    have := Nat.div_le_self x n
    generalize x / n = z at this ⊢
    exact w64 (by omega) (by omega)
  have d1 : q / n ≤ q := Nat.div_le_self _ _
  have d2 : q / n / n ≤ q / n := Nat.div_le_self _ _
  have hA : q % n < n := Nat.mod_lt _ hn0
  have hB : q / n % n < n := Nat.mod_lt _ hn0
  have hC : q / n / n % n < n := Nat.mod_lt _ hn0
  have hD : q / n / n / n < n := by
    rw [Nat.div_div_eq_div_mul, Nat.div_div_eq_div_mul]
    exact Nat.div_lt_of_lt_mul (by rw [← Nat.mul_assoc]; exact hq)
  have q5 : q < 4097 := Nat.lt_trans hq4 (by decide)
  have eb := hdiv q q5
  have ec := hdiv (q / n) (Nat.lt_of_le_of_lt d1 q5)
  have ed := hdiv (q / n / n) (Nat.lt_of_le_of_lt (Nat.le_trans d2 d1) q5)
  have hqI : (q : Int) < ((n * n * n * n : Nat) : Int) := Int.ofNat_lt.2 hq
  simp only [spec_l4Parallel.l0, e1, e2, e3, if_pos hqI, if_neg hn1, eb, ec, ed, hmod, ew]
  clear eb ec ed e1 e2 e3 hmod hdiv d1 d2 hqI ew hb4 q5
  generalize q % n = a at hA ⊢
  generalize q / n / n / n = d at hD ⊢
  generalize q / n / n % n = c at hC ⊢
  generalize q / n % n = b at hB ⊢
  clear hq hq4
  simp only [if_pos (show (0 : Int) ≤ (a : Int) by omega), if_pos (show (0 : Int) ≤ (b : Int) by omega), if_pos (show (0 : Int) ≤ (c : Int) by omega), if_pos (show (0 : Int) ≤ (d : Int) by omega), if_pos (show (a : Int) < (t.length : Int) by omega), if_pos (show (b : Int) < (t.length : Int) by omega), bb_len ht hA, bb_len ht hB, if_pos (show (c : Int) < (n : Int) by omega), if_pos (show (d : Int) < (n : Int) by omega), rdTT ht a c hA hC, rdTT ht b c hB hC, rdTT ht b d hB hD, specApart ht hA hB, specApart ht hA hD, specApart ht hC hD, Option.bind_some]
  exact key_par _ _ _ _ _ _ _
theorem par_hit : ∀ (z q : Nat), q + z = n * n * n * n → (∃ q', q ≤ q' ∧ q' < n * n * n * n ∧ badB t (q' % n) (q' / n % n) (q' / n / n % n) (q' / n / n / n) = true) → Ev (fun K => spec_l4Parallel.l0 K t (n : Int) (q : Int)) false := by
  intro z
  induction z with
  | zero => rintro q hq ⟨q', h1, h2, _⟩; omega
  | succ z ih =>
    rintro q hq ⟨q', h1, h2, h3⟩
    refine ev_succ ?_
    simp only [par_step hn ht _ q (by omega)]
    by_cases h : badB t (q % n) (q / n % n) (q / n / n % n) (q / n / n / n) = true
    · simp only [if_pos h]; exact ev_now _
    · simp only [if_neg h]
      refine ih (q + 1) (by omega) ⟨q', ?_, h2, h3⟩
      rcases Nat.lt_or_ge q q' with g | g
      · omega
      · obtain rfl : q' = q := by omega
        exact absurd h3 h
theorem par_miss : ∀ (z q : Nat), q + z = n * n * n * n → (∀ q', q ≤ q' → q' < n * n * n * n → badB t (q' % n) (q' / n % n) (q' / n / n % n) (q' / n / n / n) = false) → Ev (fun K => spec_l4Parallel.l0 K t (n : Int) (q : Int)) true := by
  intro z
  induction z with
  | zero =>
    intro q hq _
    refine ev_succ ?_
    have hb4 : n * n * n * n ≤ 4096 := by
      have h2 : n * n ≤ 64 := Nat.mul_le_mul hn hn
      have h3 : n * n * n ≤ 64 * 8 := Nat.mul_le_mul h2 hn
      exact Nat.mul_le_mul h3 hn
    have e1 : wrap64 ((n : Int) * (n : Int)) = ((n * n : Nat) : Int) := by
      rw [← Int.natCast_mul]
      have h2 : n * n ≤ 64 := Nat.mul_le_mul hn hn
      generalize n * n = z at h2 ⊢
      exact w64 (by omega) (by omega)
    have e2 : wrap64 (((n * n : Nat) : Int) * (n : Int)) = ((n * n * n : Nat) : Int) := by
      rw [← Int.natCast_mul]
      have h2 : n * n ≤ 64 := Nat.mul_le_mul hn hn
      have h3 : n * n * n ≤ 64 * 8 := Nat.mul_le_mul h2 hn
      generalize n * n * n = z at h3 ⊢
      exact w64 (by omega) (by omega)
    have e3 : wrap64 (((n * n * n : Nat) : Int) * (n : Int)) = ((n * n * n * n : Nat) : Int) := by
      rw [← Int.natCast_mul]
      generalize n * n * n * n = z at hb4 ⊢
      exact w64 (by omega) (by omega)
    simp only [spec_l4Parallel.l0, e1, e2, e3, if_neg (show ¬ ((q : Int) < ((n * n * n * n : Nat) : Int)) by omega)]
    exact ev_now _
  | succ z ih =>
    intro q hq h
    refine ev_succ ?_
    simp only [par_step hn ht _ q (by omega), h q (Nat.le_refl _) (by omega), Bool.false_eq_true, if_false]
    exact ih (q + 1) (by omega) (fun q' h1 h2 => h q' (by omega) h2)
theorem ser_both : ∃ r : Bool, Ev (fun K => spec_l4Parallel.f K t) r ∧ Ev (fun K => impl_isSeriesParallel.f K t) r := by
  have hl := ht.1
  unfold spec_l4Parallel.f impl_isSeriesParallel.f
  rw [hl]
  by_cases h : ∃ q', 0 ≤ q' ∧ q' < n * n * n * n ∧ badB t (q' % n) (q' / n % n) (q' / n / n % n) (q' / n / n / n) = true
  · refine ⟨false, par_hit hn ht (n * n * n * n) 0 (by omega) h, ?_⟩
    obtain ⟨q, _, hq, hb⟩ := h
    have hn0 : 0 < n := by
      rcases Nat.eq_zero_or_pos n with h | h
      · subst h; simp at hq
      · exact h
    have hD : q / n / n / n < n := by
      rw [Nat.div_div_eq_div_mul, Nat.div_div_eq_div_mul]
      exact Nat.div_lt_of_lt_mul (by rw [← Nat.mul_assoc]; exact hq)
    exact ser0_hit hn ht n 0 (by omega) ⟨_, _, _, _, Nat.zero_le _, Nat.mod_lt _ hn0, Nat.mod_lt _ hn0, Nat.mod_lt _ hn0, hD, hb⟩
  · refine ⟨true, par_miss hn ht (n * n * n * n) 0 (by omega) (fun q' h1 h2 => by cases e : badB t (q' % n) (q' / n % n) (q' / n / n % n) (q' / n / n / n) with | false => rfl | true => exact absurd ⟨q', h1, h2, e⟩ h), ?_⟩
    refine ser0_miss hn ht n 0 (by omega) (fun a b c d _ ha hb hc hd => ?_)
    cases e : badB t a b c d with
    | false => rfl
    | true =>
      refine absurd ⟨a + n * (b + n * (c + n * d)), Nat.zero_le _, ?_, ?_⟩ h
      · have h1 : c + n * d < n * n := by
          have : n * d + n ≤ n * n := by rw [← Nat.mul_succ]; exact Nat.mul_le_mul_left n hd
          omega
        have h2 : b + n * (c + n * d) < n * (n * n) := by
          have : n * (c + n * d) + n ≤ n * (n * n) := by rw [← Nat.mul_succ]; exact Nat.mul_le_mul_left n h1
          omega
        have h3 : a + n * (b + n * (c + n * d)) < n * (n * (n * n)) := by
          have : n * (b + n * (c + n * d)) + n ≤ n * (n * (n * n)) := by rw [← Nat.mul_succ]; exact Nat.mul_le_mul_left n h2
          omega
        have e4 : n * (n * (n * n)) = n * n * n * n := by simp only [Nat.mul_assoc]
        omega
      · have hn0 : 0 < n := by omega
        have r1 : ∀ x y : Nat, x < n → (x + n * y) % n = x := fun x y hx => by rw [Nat.add_mul_mod_self_left]; exact Nat.mod_eq_of_lt hx
        have r2 : ∀ x y : Nat, x < n → (x + n * y) / n = y := fun x y hx => by rw [Nat.add_mul_div_left _ _ hn0, Nat.div_eq_of_lt hx, Nat.zero_add]
        rw [r1 a _ ha, r2 a _ ha, r1 b _ hb, r2 b _ hb, r1 c _ hc, r2 c _ hc]
        exact e
end
theorem core (n : Int) (es : List S63) (_ : I64 n) (hm : es.length ≤ 1048576) : ∃ (r : Bool) (ok : Bool), True ∧ Ev (fun k => spec_IsSeriesParallel.f k n es) (r, ok) ∧ Ev (fun k => impl_IsSeriesParallel.f k n es) (r, ok) := by
  have h1 := l4Good_ev n es hm
  have h2 := isPrec_ev n es
  unfold spec_IsSeriesParallel.f impl_IsSeriesParallel.f
  cases hg : good4 n es
  · rw [hg] at h1 h2
    exact ⟨false, false, trivial, ev_bind h1 (by simp only [Bool.false_eq_true, if_false]; exact ev_now _), ev_bind h2 (by simp only [Bool.false_eq_true, if_false]; exact ev_now _)⟩
  rw [hg] at h1 h2
  obtain ⟨m, rfl, hm8, hl, hin⟩ := okE_in n es (by unfold good4 at hg; rw [Bool.and_eq_true] at hg; exact hg.1)
  have hsq := clos_sq m es hin
  obtain ⟨r, e1, e2⟩ := ser_both hm8 hsq
  refine ⟨r, true, trivial, ev_bind h1 ?_, ev_bind h2 ?_⟩
  · simp only [if_true]
    exact ev_bind (l4Table_ev m hm8 es hm hin) (ev_bind e1 (ev_now _))
  · simp only [if_true]
    exact ev_bind (closure_ev m hm8 es hm hin) (ev_bind e2 (ev_now _))

theorem FnExactIsSeriesParallel : FnExactIsSeriesParallel.Claim := by
  intro a0 l1 hi0 hl1 hg1
  refine Ev.rounds ?_
  unfold laws_FnExactIsSeriesParallel.f
  simp only [szIntA2S_eq l1 (1048576 : Int) (by omega) (by omega) hl1, Option.bind_some]
  by_cases h1 : (1048576 : Int) < l1.length
  · simp only [if_pos h1, if_pos (show (-1 : Int) < 0 by omega)]
    exact ev_now _
  simp only [if_neg h1, if_neg (show ¬ (((1048576 : Int) - l1.length) < 0) by omega)]
  have ht1 := toIntA2S_ev l1 (by omega)
  have hm1 : l1.length ≤ 1048576 := by omega
  have hq1 := eqIntA2S_ev l1 (by omega)
  obtain ⟨r0, r1, _, hs, hi⟩ := core a0 l1 hi0 hm1
  repeat first
    | exact ev_now _
    | with_reducible refine ev_bind hs ?_
    | with_reducible refine ev_bind hi ?_
    | with_reducible refine ev_bind ht1 ?_
    | with_reducible refine ev_bind hq1 ?_
    | simp only [if_true, if_false, bne_self_eq_false, Bool.false_eq_true]
    | (refine ev_succ ?_; simp only [laws_FnExactIsSeriesParallel.j0])

end Go.Proofs.Ytafhfmggehaknaa.Pure
