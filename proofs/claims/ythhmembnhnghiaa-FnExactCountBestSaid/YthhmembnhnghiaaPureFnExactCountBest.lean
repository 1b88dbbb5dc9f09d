/- The program's function and the reference's come to the same answer: the statement of numbers and lists behind the law FnExactCountBest. Conditions: none. -/
import Derived.Test.YthhmembnhnghiaaArgFnExactCountBest
import Derived.Test.YthhmembnhnghiaaBase
namespace Go.Proofs.Ythhmembnhnghiaa.Pure
open Go.RowKit Go.Proofs.Ythhmembnhnghiaa.OFnExactCountBest Go.Proofs.Ythhmembnhnghiaa.Base Go.Proofs.YthhmembnhnghiaaW.PrintWords Go.Proofs.YthhmembnhnghiaaW.PrintLast Go.Proofs.YthhmembnhnghiaaW.PrintMore Go.Proofs.Ythhmembnhnghiaa.Open
set_option linter.unusedVariables false
set_option linter.unusedSimpArgs false

theorem szJobS_eq (xs : List S63) (left : Int) (h0 : 0 ≤ left) (h1 : left ≤ 1048576) (h : xs.length ≤ 9223372036854775807) : laws_szJobS.f xs left = some (if left < xs.length then -1 else left - xs.length) := by
  unfold laws_szJobS.f
  rw [w64 (by omega) (by omega)]
  by_cases c : left < xs.length
  · rw [if_pos (by omega), if_pos c]
  · rw [if_neg (by omega), if_neg c]

def conv (x : S63) : S59 := ⟨x.f0, x.f1, x.f2, x.f3⟩
theorem rdL (xs : List S63) (i : Nat) (h : i < xs.length) : rd_T63 xs (i : Int) = xs[i] := by
  unfold rd_T63
  rw [Int.toNat_natCast, List.getD_eq_getElem?_getD, List.getElem?_eq_getElem h]
  rfl

theorem toJobS_l (xs : List S63) (hn : xs.length ≤ 8796093022208) : ∀ (d i : Nat) (ys : List S59), i + d = xs.length → ys.length = xs.length → ys.take i = (xs.map conv).take i → Ev (fun k => laws_toJobS.l0 k xs ys (i : Int)) (xs.map conv) := by
  intro d
  induction d with
  | zero =>
    intro i ys hi hl ht
    refine ev_succ ?_
    simp only [laws_toJobS.l0, if_neg (show ¬ (i : Int) < (xs.length : Int) by omega)]
    have : ys = xs.map conv := by
      rw [List.take_of_length_le (by omega), List.take_of_length_le (by simp; omega)] at ht
      exact ht
    rw [this]
    exact ev_now _
  | succ d ih =>
    intro i ys hi hl ht
    refine ev_succ ?_
    have hx : i < xs.length := by omega
    simp only [laws_toJobS.l0, laws_toJob.f, Option.bind_some, if_pos (show (i : Int) < (xs.length : Int) by omega), if_pos (show (i : Int) < (ys.length : Int) by omega), if_pos (show (0 : Int) ≤ (i : Int) by omega), rdL xs i hx, wsucc i (by omega), Int.toNat_natCast]
    refine ih (i + 1) _ (by omega) (by rw [List.length_set]; exact hl) ?_
    rw [take_set_succ ys i _ (by omega), ht, List.take_succ_eq_append_getElem (by simp; omega)]
    simp [conv]
theorem toJobS_ev (xs : List S63) (hn : xs.length ≤ 1048576) : Ev (fun k => laws_toJobS.f k xs) (xs.map conv) := by
  unfold laws_toJobS.f
  simp only [if_pos (show (0 : Int) ≤ (xs.length : Int) by omega), Int.toNat_natCast, if_pos (show xs.length ≤ 8796093022208 by omega)]
  exact toJobS_l xs (by omega) xs.length 0 _ (by omega) (by simp) (by simp)

theorem rdI (xs : List S59) (i : Nat) (h : i < xs.length) : rd_T59 xs (i : Int) = xs[i] := by
  unfold rd_T59
  rw [Int.toNat_natCast, List.getD_eq_getElem?_getD, List.getElem?_eq_getElem h]
  rfl

theorem eqJobS_l (xs : List S59) (hn : xs.length ≤ 4611686018427387904) : ∀ (d i : Nat), i + d = xs.length → Ev (fun k => laws_eqJobS.l0 k xs xs (i : Int)) true := by
  intro d
  induction d with
  | zero =>
    intro i hi
    refine ev_succ ?_
    simp only [laws_eqJobS.l0, if_neg (show ¬ (i : Int) < (xs.length : Int) by omega)]
    exact ev_now _
  | succ d ih =>
    intro i hi
    refine ev_succ ?_
    simp only [laws_eqJobS.l0, laws_eqJob.f, if_true, Option.bind_some, if_pos (show (i : Int) < (xs.length : Int) by omega), if_pos (show (0 : Int) ≤ (i : Int) by omega), wsucc i (by omega)]
    exact ih (i + 1) (by omega)
theorem eqJobS_ev (xs : List S59) (hn : xs.length ≤ 4611686018427387904) : Ev (fun k => laws_eqJobS.f k xs xs) true := by
  unfold laws_eqJobS.f
  simp only [if_true]
  exact eqJobS_l xs hn xs.length 0 (by omega)

theorem conv_I64 (l : List S63) (hg : ∀ x ∈ l, G63 x) (i : Nat) (hi : i < (l.map conv).length) : I64 (l.map conv)[i].f0 ∧ I64 (l.map conv)[i].f1 ∧ I64 (l.map conv)[i].f2 ∧ I64 (l.map conv)[i].f3 := by
  simp only [List.getElem_map, conv]
  exact hg _ (List.getElem_mem _)

def idsW (n : Nat) : List Int := (List.range n).map (fun (i : Nat) => (i : Int))
theorem idsW_len (n : Nat) : (idsW n).length = n := by simp [idsW]
theorem idsW_mem {n : Nat} {b : Int} (h : b ∈ idsW n) : 0 ≤ b ∧ b < (n : Int) := by
  unfold idsW at h
  obtain ⟨i, hi, rfl⟩ := List.mem_map.1 h
  have := List.mem_range.1 hi
  omega
theorem idsW_succ (n : Nat) : idsW (n + 1) = idsW n ++ [(n : Int)] := by simp [idsW, List.range_succ]

inductive ChainW (nx : List Int → List Int → Prop) : List Int → List (List Int) → List Int → Prop
  | one (a : List Int) : ChainW nx a [a] a
  | cons {a b c : List Int} {L : List (List Int)} : nx a b → ChainW nx b L c → ChainW nx a (a :: L) c
theorem ChainW.append {nx : List Int → List Int → Prop} {a b c d : List Int} {L M : List (List Int)} (h : ChainW nx a L b) (hn : nx b c) (h2 : ChainW nx c M d) : ChainW nx a (L ++ M) d := by
  induction h with
  | one a => exact ChainW.cons hn h2
  | cons h1 _ ih => exact ChainW.cons h1 (ih hn)
def goW (f : List Int → List Int → List (List Int)) (B : List Int) : List Int → List Int → List (List Int)
  | _, [] => []
  | L, a :: H => f (B ++ [a]) (L ++ H) ++ goW f B (L ++ [a]) H
def ordersW : Nat → List Int → List Int → List (List Int)
  | 0, B, _ => [B]
  | d + 1, B, R => goW (ordersW d) B [] R
theorem chain_orders (nx : List Int → List Int → Prop) (hsw : ∀ (B L : List Int) (a b : Int) (H : List Int), (L ++ a :: b :: H).Pairwise (· < ·) → nx (B ++ a :: (L ++ b :: H).reverse) (B ++ b :: (L ++ a :: H))) :
    ∀ (d : Nat) (B R : List Int), R.length = d → R.Pairwise (· < ·) → ChainW nx (B ++ R) (ordersW d B R) (B ++ R.reverse) := by
  intro d
  induction d with
  | zero =>
    intro B R h _
    obtain rfl := List.eq_nil_of_length_eq_zero h
    simp only [List.append_nil, List.reverse_nil, ordersW]
    exact ChainW.one B
  | succ d ih =>
    have inner : ∀ (H : List Int) (B L : List Int) (a : Int), (L ++ H).length = d → (L ++ a :: H).Pairwise (· < ·) → ChainW nx (B ++ a :: (L ++ H)) (goW (ordersW d) B L (a :: H)) (B ++ (L ++ a :: H).reverse) := by
      intro H
      induction H with
      | nil =>
        intro B L a hl hp
        simp only [goW, List.append_nil]
        have h1 := ih (B ++ [a]) L (by simpa using hl) ((List.pairwise_append.mp hp).1)
        simpa using h1
      | cons b H ih2 =>
        intro B L a hl hp
        have hq : (L ++ b :: H).Pairwise (· < ·) := hp.sublist (List.Sublist.append (List.Sublist.refl L) (List.sublist_cons_self a (b :: H)))
        have h1 := ih (B ++ [a]) (L ++ b :: H) hl hq
        have h2 := ih2 B (L ++ [a]) b (by simp only [List.length_append, List.length_cons, List.length_nil] at hl ⊢; omega) (by simpa using hp)
        have h3 := hsw B L a b H hp
        rw [goW]
        simp only [List.append_assoc, List.cons_append, List.nil_append] at h1 h2 ⊢
        exact ChainW.append h1 h3 h2
    intro B R h hp
    cases R with
    | nil => simp at h
    | cons a H =>
      have := inner H B [] a (by simpa using h) (by simpa using hp)
      simpa [ordersW] using this
def outW (B L : List Int) : List Int := L.filter (fun x => decide (x ∉ B))
theorem outW_app (B L M : List Int) : outW B (L ++ M) = outW B L ++ outW B M := by unfold outW; rw [List.filter_append]
theorem outW_in (B L : List Int) (x : Int) (h : x ∈ B) : outW B (x :: L) = outW B L := by unfold outW; rw [List.filter_cons_of_neg (by simp [h])]
theorem outW_out (B L : List Int) (x : Int) (h : x ∉ B) : outW B (x :: L) = x :: outW B L := by unfold outW; rw [List.filter_cons_of_pos (by simp [h])]
theorem outW_more (B L : List Int) (x : Int) (h : x ∉ L) : outW (B ++ [x]) L = outW B L := by
  unfold outW
  apply List.filter_congr
  intro y hy
  have : y ≠ x := fun e => h (e ▸ hy)
  simp [this]
theorem ids_drop (n j : Nat) (hj : j < n) : (idsW n).drop j = (j : Int) :: (idsW n).drop (j + 1) := by
  rw [List.drop_eq_getElem_cons (by rw [idsW_len]; exact hj)]
  simp [idsW]
theorem ids_take (n j : Nat) (hj : j ≤ n) : (idsW n).take j = idsW j := by
  unfold idsW
  rw [← List.map_take, List.take_range, Nat.min_eq_left hj]
theorem ids_split (n j : Nat) (hj : j < n) : idsW n = idsW j ++ (j : Int) :: (idsW n).drop (j + 1) := by
  rw [← ids_drop n j hj, ← ids_take n j (by omega), List.take_append_drop]
theorem ids_asc (n : Nat) : (idsW n).Pairwise (· < ·) := by
  unfold idsW
  rw [List.pairwise_map]
  exact List.pairwise_lt_range.imp (fun h => by omega)
theorem ids_pair (n j : Nat) (hj : j < n) : (j : Int) ∉ idsW j ∧ (j : Int) ∉ (idsW n).drop (j + 1) := by
  refine ⟨fun h => ?_, fun h => ?_⟩
  · have := idsW_mem h; omega
  · have h1 := ids_asc n
    rw [ids_split n j hj] at h1
    have h2 := (List.pairwise_cons.mp (List.pairwise_append.mp h1).2.1).1 _ h
    omega
theorem rest_split (n j : Nat) (hj : j < n) (B : List Int) : outW (B ++ [(j : Int)]) (idsW n) = outW B (idsW j) ++ outW B ((idsW n).drop (j + 1)) := by
  conv => lhs; rw [ids_split n j hj]
  rw [outW_app, outW_in _ _ _ (by simp), outW_more _ _ _ (ids_pair n j hj).1, outW_more _ _ _ (ids_pair n j hj).2]
theorem rest_whole (n j : Nat) (hj : j < n) (B : List Int) (h : (j : Int) ∉ B) : outW B (idsW n) = outW B (idsW j) ++ (j : Int) :: outW B ((idsW n).drop (j + 1)) := by
  conv => lhs; rw [ids_split n j hj]
  rw [outW_app, outW_out _ _ _ h]
theorem outW_nil (L : List Int) : outW [] L = L := by unfold outW; simp

theorem rdM (Y Z : List Int) (c : Int) {i : Int} (h : i = (Y.length : Int)) : rd (Y ++ c :: Z) i = c := by
  subst h
  simp [rd]
theorem setM (Y Z : List Int) (c d : Int) {i : Int} (h : i = (Y.length : Int)) : (Y ++ c :: Z).set i.toNat d = Y ++ d :: Z := by
  subst h
  simp
theorem next_rev : ∀ (n : Nat) (Y A C : List Int), Y.length = n → (A ++ Y ++ C).length ≤ 1048576 → Ev (fun k => impl_nextOrder.l2 k (A ++ Y ++ C) (A.length : Int) ((A.length : Int) + (Y.length : Int) - 1)) (true, A ++ Y.reverse ++ C) := by
  intro n
  induction n using Nat.strongRecOn with
  | _ n ih =>
  intro Y A C hn hl
  have hshort : Y.length ≤ 1 → Ev (fun k => impl_nextOrder.l2 k (A ++ Y ++ C) (A.length : Int) ((A.length : Int) + (Y.length : Int) - 1)) (true, A ++ Y.reverse ++ C) := by
    intro h
    refine ev_succ ?_
    simp only [impl_nextOrder.l2, if_neg (show ¬ ((A.length : Int) < (A.length : Int) + (Y.length : Int) - 1) by omega)]
    have : Y.reverse = Y := by
      match Y, h with
      | [], _ => rfl
      | [x], _ => rfl
    rw [this]
    exact ev_now _
  rcases Nat.lt_or_ge 1 Y.length with h1 | h1
  case inr => exact hshort h1
  obtain ⟨u, Z, v, rfl⟩ : ∃ u Z v, Y = u :: (Z ++ [v]) := by
    cases Y with
    | nil => simp at h1
    | cons u T =>
      rcases List.eq_nil_or_concat T with h | ⟨Z, v, h⟩
      · subst h; simp at h1
      · exact ⟨u, Z, v, by rw [h, List.concat_eq_append]⟩
  have e1 : A ++ u :: (Z ++ [v]) ++ C = A ++ u :: (Z ++ v :: C) := by simp
  have e2 : A ++ v :: (Z ++ v :: C) = (A ++ v :: Z) ++ v :: C := by simp
  have e3 : A ++ u :: (Z ++ v :: C) = (A ++ u :: Z) ++ v :: C := by simp
  have ll : (A ++ u :: (Z ++ v :: C)).length = A.length + Z.length + 2 + C.length := by simp; omega
  rw [e1] at hl ⊢
  have x6 : (A.length : Int) + ((u :: (Z ++ [v])).length : Int) - 1 = (A.length : Int) + (Z.length : Int) + 1 := by simp; omega
  rw [x6]
  refine ev_succ ?_
  rw [ll] at hl
  simp only [impl_nextOrder.l2, ll, if_pos (show (A.length : Int) < (A.length : Int) + (Z.length : Int) + 1 by omega), if_pos (show 0 ≤ (A.length : Int) + (Z.length : Int) + 1 by omega), if_pos (show (A.length : Int) + (Z.length : Int) + 1 < ((A.length + Z.length + 2 + C.length : Nat) : Int) by omega), if_pos (show 0 ≤ (A.length : Int) by omega), if_pos (show (A.length : Int) < ((A.length + Z.length + 2 + C.length : Nat) : Int) by omega), rdM A (Z ++ v :: C) u rfl]
  have r1 : rd (A ++ u :: (Z ++ v :: C)) ((A.length : Int) + (Z.length : Int) + 1) = v := by rw [e3]; exact rdM _ _ _ (by simp; omega)
  rw [r1, setM A (Z ++ v :: C) u v rfl, e2, setM (A ++ v :: Z) C v u (by simp; omega), w64 (x := (A.length : Int) + 1) (by omega) (by omega), w64 (x := (A.length : Int) + (Z.length : Int) + 1 - 1) (by omega) (by omega)]
  have h3 := ih Z.length (by simp at hn; omega) Z (A ++ [v]) (u :: C) rfl (by simp; omega)
  have e4 : (A ++ [v]) ++ Z ++ u :: C = (A ++ v :: Z) ++ u :: C := by simp
  have e5 : ((A ++ [v]).length : Int) = (A.length : Int) + 1 := by simp
  have e6 : (A.length : Int) + (Z.length : Int) + 1 - 1 = (A.length : Int) + 1 + (Z.length : Int) - 1 := by omega
  have e7 : (A ++ [v]) ++ Z.reverse ++ u :: C = A ++ (u :: (Z ++ [v])).reverse ++ C := by simp
  rw [e4, e5, e7] at h3
  rw [e6]
  exact h3
theorem next_find (M : List Int) (a b : Int) (p : Nat) (r : Bool × List Int) (hab : a < b) : ∀ (E F : List Int), (∀ x ∈ E, x < a) → (M ++ b :: (E.reverse ++ F)).length ≤ 1048576 → p < M.length → rd (M ++ b :: (E.reverse ++ F)) (p : Int) = a →
    Ev (fun k => impl_nextOrder.l2 k (((M ++ b :: (E.reverse ++ F)).set p b).set M.length a) (wrap64 ((p : Int) + 1)) (wrap64 (((M ++ b :: (E.reverse ++ F)).length : Int) - 1))) r →
    Ev (fun k => impl_nextOrder.l1 k (M ++ b :: (E.reverse ++ F)) (p : Int) ((M.length : Int) + (E.length : Int))) r := by
  intro E
  induction E with
  | nil =>
    intro F _ hl hp hr h
    simp only [List.reverse_nil, List.nil_append, List.length_nil] at hl hr h ⊢
    refine ev_succ ?_
    have ll : (M ++ b :: F).length = M.length + 1 + F.length := by simp; omega
    rw [ll] at hl
    have e0 : (M.length : Int) + ((0 : Nat) : Int) = (M.length : Int) := by omega
    rw [e0]
    rw [ll] at h
    simp only [impl_nextOrder.l1, ll, if_pos (show 0 ≤ (M.length : Int) by omega), if_pos (show (M.length : Int) < ((M.length + 1 + F.length : Nat) : Int) by omega), if_pos (show 0 ≤ (p : Int) by omega), if_pos (show (p : Int) < ((M.length + 1 + F.length : Nat) : Int) by omega), rdM M F b rfl, hr, if_neg (show ¬ (b < a) by omega), Int.toNat_natCast]
    exact h
  | cons u E ih =>
    intro F hE hl hp hr h
    have e1 : M ++ b :: ((u :: E).reverse ++ F) = M ++ b :: (E.reverse ++ u :: F) := by simp
    rw [e1] at hl hr h ⊢
    have e2 : M ++ b :: (E.reverse ++ u :: F) = (M ++ b :: E.reverse) ++ u :: F := by simp
    have ll : (M ++ b :: (E.reverse ++ u :: F)).length = M.length + E.length + 2 + F.length := by simp; omega
    have h2 := ih (u :: F) (fun x hx => hE x (by simp [hx])) hl hp hr h
    refine ev_succ ?_
    have e0 : (M.length : Int) + (((u :: E).length : Nat) : Int) = (M.length : Int) + (E.length : Int) + 1 := by simp; omega
    rw [e0]
    have r1 : rd (M ++ b :: (E.reverse ++ u :: F)) ((M.length : Int) + (E.length : Int) + 1) = u := by rw [e2]; exact rdM _ _ _ (by simp; omega)
    have hu := hE u (by simp)
    rw [ll] at hl
    simp only [impl_nextOrder.l1, ll, if_pos (show 0 ≤ (M.length : Int) + (E.length : Int) + 1 by omega), if_pos (show (M.length : Int) + (E.length : Int) + 1 < ((M.length + E.length + 2 + F.length : Nat) : Int) by omega), if_pos (show 0 ≤ (p : Int) by omega), if_pos (show (p : Int) < ((M.length + E.length + 2 + F.length : Nat) : Int) by omega), r1, hr, if_pos hu, w64 (x := (M.length : Int) + (E.length : Int) + 1 - 1) (by omega) (by omega)]
    have e3 : (M.length : Int) + (E.length : Int) + 1 - 1 = (M.length : Int) + (E.length : Int) := by omega
    rw [e3]
    exact h2
theorem next_down (B : List Int) (a : Int) (r : Bool × List Int) : ∀ (E D : List Int), D ≠ [] → (E.reverse ++ D).Pairwise (· > ·) → (B ++ a :: (E.reverse ++ D)).length ≤ 1048576 →
    Ev (fun k => impl_nextOrder.l0 k (B ++ a :: (E.reverse ++ D)) (B.length : Int)) r → Ev (fun k => impl_nextOrder.l0 k (B ++ a :: (E.reverse ++ D)) ((B.length : Int) + (E.length : Int))) r := by
  intro E
  induction E with
  | nil =>
    intro D _ _ _ h
    have e0 : (B.length : Int) + ((([] : List Int).length : Nat) : Int) = (B.length : Int) := by simp
    rw [e0]
    exact h
  | cons u E ih =>
    intro D hD hp hl h
    obtain ⟨v, D2, rfl⟩ : ∃ v D2, D = v :: D2 := by
      cases D with
      | nil => exact absurd rfl hD
      | cons v D2 => exact ⟨v, D2, rfl⟩
    have e1 : (u :: E).reverse ++ v :: D2 = E.reverse ++ u :: v :: D2 := by simp
    rw [e1] at hp hl h ⊢
    have h2 := ih (u :: v :: D2) (by simp) hp hl h
    have huv : u > v := (List.pairwise_cons.mp (List.pairwise_append.mp hp).2.1).1 v (by simp)
    have ll : (B ++ a :: (E.reverse ++ u :: v :: D2)).length = B.length + E.length + 3 + D2.length := by simp; omega
    have e2 : B ++ a :: (E.reverse ++ u :: v :: D2) = (B ++ a :: E.reverse) ++ u :: v :: D2 := by simp
    have e3 : B ++ a :: (E.reverse ++ u :: v :: D2) = (B ++ a :: (E.reverse ++ [u])) ++ v :: D2 := by simp
    have e0 : (B.length : Int) + (((u :: E).length : Nat) : Int) = (B.length : Int) + (E.length : Int) + 1 := by simp; omega
    rw [e0]
    have r1 : rd (B ++ a :: (E.reverse ++ u :: v :: D2)) ((B.length : Int) + (E.length : Int) + 1) = u := by rw [e2]; exact rdM _ _ _ (by simp; omega)
    have r2 : rd (B ++ a :: (E.reverse ++ u :: v :: D2)) ((B.length : Int) + (E.length : Int) + 1 + 1) = v := by rw [e3]; exact rdM _ _ _ (by simp; omega)
    refine ev_succ ?_
    rw [ll] at hl
    simp only [impl_nextOrder.l0, ll, ge_iff_le, if_pos (show 0 ≤ (B.length : Int) + (E.length : Int) + 1 by omega), if_pos (show (B.length : Int) + (E.length : Int) + 1 < ((B.length + E.length + 3 + D2.length : Nat) : Int) by omega), w64 (x := (B.length : Int) + (E.length : Int) + 1 + 1) (by omega) (by omega), if_pos (show 0 ≤ (B.length : Int) + (E.length : Int) + 1 + 1 by omega), if_pos (show (B.length : Int) + (E.length : Int) + 1 + 1 < ((B.length + E.length + 3 + D2.length : Nat) : Int) by omega), r1, r2, if_pos huv, w64 (x := (B.length : Int) + (E.length : Int) + 1 - 1) (by omega) (by omega)]
    have e4 : (B.length : Int) + (E.length : Int) + 1 - 1 = (B.length : Int) + (E.length : Int) := by omega
    rw [e4]
    exact h2
theorem desc_of_asc {R : List Int} (h : R.Pairwise (· < ·)) : R.reverse.Pairwise (· > ·) := by
  rw [List.pairwise_reverse]
  exact h
theorem next_swap (B L H : List Int) (a b : Int) (hp : (L ++ a :: b :: H).Pairwise (· < ·)) (hl : (B ++ a :: (L ++ b :: H).reverse).length ≤ 1048576) : Ev (fun k => impl_nextOrder.f k (B ++ a :: (L ++ b :: H).reverse)) (true, B ++ b :: (L ++ a :: H)) := by
  have hq : (L ++ b :: H).Pairwise (· < ·) := hp.sublist (List.Sublist.append (List.Sublist.refl L) (List.sublist_cons_self a (b :: H)))
  have hd := desc_of_asc hq
  have hab : a < b := (List.pairwise_cons.mp (List.pairwise_append.mp hp).2.1).1 b (by simp)
  have hLa : ∀ x ∈ L, x < a := fun x hx => (List.pairwise_append.mp hp).2.2 x hx a (by simp)
  have eD : (L ++ b :: H).reverse = H.reverse ++ b :: L.reverse := by simp
  obtain ⟨E, z, hE⟩ : ∃ (E : List Int) (z : Int), (L ++ b :: H).reverse = E.reverse ++ [z] := by
    rcases List.eq_nil_or_concat (L ++ b :: H).reverse with h | ⟨E, z, h⟩
    · simp at h
    · exact ⟨E.reverse, z, by rw [h, List.concat_eq_append]; simp⟩
  have hEl : E.length + 1 = L.length + H.length + 1 := by
    have := congrArg List.length hE
    simp at this
    omega
  have ll : (B ++ a :: (L ++ b :: H).reverse).length = B.length + L.length + H.length + 2 := by simp; omega
  unfold impl_nextOrder.f
  rw [ll] at hl
  simp only [ll]
  rw [w64 (by omega) (by omega)]
  have e0 : ((B.length + L.length + H.length + 2 : Nat) : Int) - 2 = (B.length : Int) + (E.length : Int) := by omega
  rw [e0]
  rw [hE] at hd ll ⊢
  refine next_down B a _ E [z] (by simp) hd (by rw [ll]; omega) ?_
  rw [← hE] at ll ⊢
  obtain ⟨y, Y, hy⟩ : ∃ y Y, (L ++ b :: H).reverse = y :: Y := by
    cases hh : (L ++ b :: H).reverse with
    | nil => simp at hh
    | cons y Y => exact ⟨y, Y, rfl⟩
  have hay : a < y := by
    rw [← hE, hy] at hd
    have hb : b ∈ y :: Y := by rw [← hy]; simp
    rcases List.mem_cons.mp hb with h | h
    · omega
    · have := (List.pairwise_cons.mp hd).1 b h; omega
  have r1 : rd (B ++ a :: (L ++ b :: H).reverse) (B.length : Int) = a := rdM B _ a rfl
  have r2 : rd (B ++ a :: (L ++ b :: H).reverse) ((B.length : Int) + 1) = y := by
    rw [hy, show B ++ a :: y :: Y = (B ++ [a]) ++ y :: Y by simp]
    exact rdM _ _ _ (by simp)
  refine ev_succ ?_
  simp only [impl_nextOrder.l0, ll, ge_iff_le, if_pos (show 0 ≤ (B.length : Int) by omega), if_pos (show (B.length : Int) < ((B.length + L.length + H.length + 2 : Nat) : Int) by omega), w64 (x := (B.length : Int) + 1) (by omega) (by omega), if_pos (show 0 ≤ (B.length : Int) + 1 by omega), if_pos (show (B.length : Int) + 1 < ((B.length + L.length + H.length + 2 : Nat) : Int) by omega), r1, r2, if_neg (show ¬ a > y by omega)]
  refine ev_succ ?_
  simp only [impl_nextOrder.j1, ll, if_neg (show ¬ (B.length : Int) < 0 by omega)]
  rw [w64 (by omega) (by omega)]
  have eX : B ++ a :: (L ++ b :: H).reverse = (B ++ a :: H.reverse) ++ b :: (L.reverse ++ []) := by simp
  have e1 : ((B.length + L.length + H.length + 2 : Nat) : Int) - 1 = ((B ++ a :: H.reverse).length : Int) + (L.length : Int) := by simp; omega
  rw [e1, eX]
  refine next_find (B ++ a :: H.reverse) a b B.length _ hab L [] hLa (by rw [← eX, ll]; omega) (by simp) (by rw [← eX]; exact r1) ?_
  have s1 : ((B ++ a :: H.reverse) ++ b :: (L.reverse ++ [])).set B.length b = (B ++ b :: H.reverse) ++ b :: L.reverse := by
    have h := setM B (H.reverse ++ b :: L.reverse) a b (i := (B.length : Int)) rfl
    rw [Int.toNat_natCast] at h
    rw [List.append_nil, List.append_assoc, List.append_assoc, List.cons_append, List.cons_append]
    exact h
  have s2 : ((B ++ b :: H.reverse) ++ b :: L.reverse).set (B ++ a :: H.reverse).length a = (B ++ b :: H.reverse) ++ a :: L.reverse := by
    have h := setM (B ++ b :: H.reverse) L.reverse b a (i := ((B ++ b :: H.reverse).length : Int)) rfl
    rw [Int.toNat_natCast] at h
    rw [show (B ++ a :: H.reverse).length = (B ++ b :: H.reverse).length by simp]
    exact h
  rw [s1, s2, ← eX, ll, w64 (by omega) (by omega), w64 (by omega) (by omega)]
  have h3 := next_rev (H.reverse ++ a :: L.reverse).length (H.reverse ++ a :: L.reverse) (B ++ [b]) [] rfl (by simp; omega)
  have f1 : (B ++ [b]) ++ (H.reverse ++ a :: L.reverse) ++ [] = (B ++ b :: H.reverse) ++ a :: L.reverse := by simp
  have f2 : (B ++ [b]) ++ (H.reverse ++ a :: L.reverse).reverse ++ [] = B ++ b :: (L ++ a :: H) := by simp
  have f3 : ((B ++ [b]).length : Int) = (B.length : Int) + 1 := by simp
  have f4 : (B.length : Int) + 1 + ((H.reverse ++ a :: L.reverse).length : Int) - 1 = ((B.length + L.length + H.length + 2 : Nat) : Int) - 1 := by simp; omega
  rw [f1, f2, f3, f4] at h3
  exact h3
theorem next_last (R : List Int) (hp : R.Pairwise (· < ·)) (hl : R.length ≤ 1048576) : Ev (fun k => impl_nextOrder.f k R.reverse) (false, R.reverse) := by
  have hd := desc_of_asc hp
  unfold impl_nextOrder.f
  have base : ∀ i : Int, i < 0 → Ev (fun k => impl_nextOrder.l0 k R.reverse i) (false, R.reverse) := by
    intro i hi
    refine ev_succ ?_
    simp only [impl_nextOrder.l0, if_neg (show ¬ i ≥ 0 by omega)]
    refine ev_succ ?_
    simp only [impl_nextOrder.j1, if_pos hi]
    exact ev_now _
  rw [List.length_reverse, w64 (by omega) (by omega)]
  rcases Nat.lt_or_ge R.length 2 with h | h
  · exact base _ (by omega)
  have down : ∀ (E D : List Int), D ≠ [] → R.reverse = E.reverse ++ D → Ev (fun k => impl_nextOrder.l0 k R.reverse ((E.length : Int) - 1)) (false, R.reverse) := by
    intro E
    induction E with
    | nil => intro D _ _; exact base _ (by simp)
    | cons u E ih =>
      intro D hD hR
      obtain ⟨v, D2, rfl⟩ : ∃ v D2, D = v :: D2 := by
        cases D with
        | nil => exact absurd rfl hD
        | cons v D2 => exact ⟨v, D2, rfl⟩
      have e1 : R.reverse = E.reverse ++ u :: v :: D2 := by rw [hR]; simp
      have h2 := ih (u :: v :: D2) (by simp) e1
      rw [e1] at hd h2 ⊢
      have huv : u > v := (List.pairwise_cons.mp (List.pairwise_append.mp hd).2.1).1 v (by simp)
      have hlen : E.length + 2 + D2.length = R.length := by have := congrArg List.length e1; simp at this; omega
      have ll : (E.reverse ++ u :: v :: D2).length = E.length + 2 + D2.length := by simp; omega
      have r1 : rd (E.reverse ++ u :: v :: D2) (E.length : Int) = u := rdM _ _ _ (by simp)
      have r2 : rd (E.reverse ++ u :: v :: D2) ((E.length : Int) + 1) = v := by rw [show E.reverse ++ u :: v :: D2 = (E.reverse ++ [u]) ++ v :: D2 by simp]; exact rdM _ _ _ (by simp)
      have e0 : (((u :: E).length : Nat) : Int) - 1 = (E.length : Int) := by simp
      rw [e0]
      refine ev_succ ?_
      simp only [impl_nextOrder.l0, ll, ge_iff_le, if_pos (show 0 ≤ (E.length : Int) by omega), if_pos (show (E.length : Int) < ((E.length + 2 + D2.length : Nat) : Int) by omega), w64 (x := (E.length : Int) + 1) (by omega) (by omega), if_pos (show 0 ≤ (E.length : Int) + 1 by omega), if_pos (show (E.length : Int) + 1 < ((E.length + 2 + D2.length : Nat) : Int) by omega), r1, r2, if_pos huv, w64 (x := (E.length : Int) - 1) (by omega) (by omega)]
      exact h2
  obtain ⟨E, z, hE⟩ : ∃ (E : List Int) (z : Int), R.reverse = E.reverse ++ [z] := by
    rcases List.eq_nil_or_concat R.reverse with h' | ⟨E, z, h'⟩
    · have := congrArg List.length h'; simp at this; subst this; simp at h
    · exact ⟨E.reverse, z, by rw [h', List.concat_eq_append]; simp⟩
  have := down E [z] (by simp) hE
  have hlen : E.length + 1 = R.length := by have := congrArg List.length hE; simp at this; omega
  rw [show (R.length : Int) - 2 = (E.length : Int) - 1 by omega]
  exact this

theorem numbersTo_l0 (n : Nat) (hn : n ≤ 1048576) : ∀ (d i : Nat), i + d = n → Ev (fun k => impl_numbersTo.l0 k (n : Int) (idsW i) (i : Int)) (idsW n) := by
  intro d
  induction d with
  | zero =>
    intro i hi
    refine ev_succ ?_
    simp only [impl_numbersTo.l0, if_neg (show ¬ ((i : Int) < n) by omega)]
    rw [show i = n by omega]
    exact ev_now _
  | succ d ih =>
    intro i hi
    refine ev_succ ?_
    simp only [impl_numbersTo.l0, if_pos (show (i : Int) < n by omega), if_pos (show (idsW i).length < 17592186044416 by rw [idsW_len]; omega), w64 (x := (i : Int) + 1) (by omega) (by omega)]
    have := ih (i + 1) (by omega)
    rw [idsW_succ] at this
    exact this
theorem numbersTo_ev (n : Nat) (hn : n ≤ 1048576) : Ev (fun k => impl_numbersTo.f k (n : Int)) (idsW n) := numbersTo_l0 n hn n 0 (by omega)

theorem shrN (c i : Nat) (h : i ≤ 64) : shr .i64 (c : Int) (i : Int) = ((c / 2 ^ i : Nat) : Int) := by
  unfold shr
  rw [Int.toNat_natCast, Nat.min_eq_left (show i ≤ IntKind.i64.bits from h)]
  rw [Int.natCast_ediv, Int.natCast_pow]
  rfl
theorem and1 : ∀ m : Nat, m < 256 → Go.bits .and .i64 (m : Int) 1 = ((m % 2 : Nat) : Int) := by decide +kernel
theorem shl1 : ∀ i : Nat, i < 9 → shl .i64 1 (i : Int) = ((2 ^ i : Nat) : Int) := by decide +kernel
theorem andn : ∀ c : Nat, c < 256 → ∀ i : Nat, i < 8 → c / 2 ^ i % 2 = 1 → Go.bits .andNot .i64 (c : Int) ((2 ^ i : Nat) : Int) = ((c - 2 ^ i : Nat) : Int) := by decide +kernel
theorem pow8 (n : Nat) (h : n ≤ 8) : 2 ^ n ≤ 256 := Nat.pow_le_pow_right (by omega) h
theorem shr_and (c i : Nat) (hc : c < 256) (hi : i ≤ 64) : Go.bits .and .i64 (shr .i64 (c : Int) (i : Int)) 1 = ((c / 2 ^ i % 2 : Nat) : Int) := by
  rw [shrN c i hi]
  exact and1 _ (Nat.lt_of_le_of_lt (Nat.div_le_self _ _) hc)
theorem mod1 {x : Nat} (h : x % 2 = 1) : ((x % 2 : Nat) : Int) = 1 := by rw [h]; rfl
theorem mod0 {x : Nat} (h : ¬ x % 2 = 1) : ((x % 2 : Nat) : Int) = 0 := by rw [show x % 2 = 0 by omega]; rfl
theorem mod1' {x : Nat} (h : x % 2 = 1) : ¬ ((x % 2 : Nat) : Int) = 0 := by rw [h]; decide
theorem mod0' {x : Nat} (h : ¬ x % 2 = 1) : ¬ ((x % 2 : Nat) : Int) = 1 := by rw [show x % 2 = 0 by omega]; decide
theorem bit_le (c i : Nat) (h : c / 2 ^ i % 2 = 1) : 2 ^ i ≤ c := by
  rcases Nat.lt_or_ge c (2 ^ i) with hl | hl
  · rw [Nat.div_eq_of_lt hl] at h; omega
  · exact hl
/-- The numbers of the bits of c, from i on. -/
def blF (c i : Nat) : Nat → List Int
  | 0 => []
  | d + 1 => if c / 2 ^ i % 2 = 1 then (i : Int) :: blF c (i + 1) d else blF c (i + 1) d
theorem blF_hit {c i : Nat} (h : c / 2 ^ i % 2 = 1) (d : Nat) : blF c i (d + 1) = (i : Int) :: blF c (i + 1) d := by rw [blF, if_pos h]
theorem blF_miss {c i : Nat} (h : ¬ c / 2 ^ i % 2 = 1) (d : Nat) : blF c i (d + 1) = blF c (i + 1) d := by rw [blF, if_neg h]
theorem wsub {c q : Nat} (h : q ≤ c) (hc : c ≤ 4611686018427387904) : wrap64 ((c : Int) - (q : Int)) = ((c - q : Nat) : Int) := by rw [w64 (by omega) (by omega)]; omega
theorem blF_nil (c : Nat) : ∀ d i : Nat, c / 2 ^ i = 0 → blF c i d = [] := by
  intro d
  induction d with
  | zero => intro i _; rfl
  | succ d ih =>
    intro i h
    unfold blF
    rw [if_neg (by omega)]
    refine ih (i + 1) ?_
    rw [Nat.pow_succ, ← Nat.div_div_eq_div_mul, h]
theorem blF_mem (c : Nat) : ∀ d i : Nat, ∀ x ∈ blF c i d, ∃ j : Nat, x = (j : Int) ∧ i ≤ j ∧ j < i + d ∧ c / 2 ^ j % 2 = 1 := by
  intro d
  induction d with
  | zero => intro i x hx; simp [blF] at hx
  | succ d ih =>
    intro i x hx
    unfold blF at hx
    split at hx
    · rcases List.mem_cons.mp hx with rfl | hx
      · exact ⟨i, rfl, by omega, by omega, by assumption⟩
      · obtain ⟨j, a, b, e, f⟩ := ih (i + 1) x hx
        exact ⟨j, a, by omega, by omega, f⟩
    · obtain ⟨j, a, b, e, f⟩ := ih (i + 1) x hx
      exact ⟨j, a, by omega, by omega, f⟩
theorem blF_len (c : Nat) : ∀ d i : Nat, (blF c i d).length ≤ d := by
  intro d
  induction d with
  | zero => intro i; exact Nat.le_refl _
  | succ d ih =>
    intro i
    unfold blF
    have := ih (i + 1)
    split
    · rw [List.length_cons]; omega
    · omega
theorem rdz (xs : List Int) (i : Nat) (h : i < xs.length) : rd xs (i : Int) = xs[i] := by
  unfold rd
  rw [Int.toNat_natCast, List.getD_eq_getElem?_getD, List.getElem?_eq_getElem h]
  rfl
theorem rd_left (a b : List Int) (i : Nat) (h : i < a.length) : rd (a ++ b) (i : Int) = rd a (i : Int) := by
  rw [rdz _ i (by rw [List.length_append]; omega), rdz a i h, List.getElem_append_left h]
theorem rd_mid (a b : List Int) (x : Int) (i : Nat) (h : i = a.length) : rd (a ++ x :: b) (i : Int) = x := by
  subst h
  rw [rdz _ _ (by rw [List.length_append, List.length_cons]; omega)]
  simp
theorem set_mid (a b : List Int) (x y : Int) (i : Nat) (h : i = a.length) : (a ++ x :: b).set i y = a ++ y :: b := by
  subst h
  simp

theorem wrap_I64 (x : Int) : I64 (wrap64 x) := by unfold I64 wrap64; omega
def lateF (j : S59) (e : Int) : Int := if 0 < wrap64 (e - j.f3) then wrap64 (e - j.f3) else 0
def costF (j : S59) (e obj : Int) : Int := if obj = 2 then e else if obj = 3 then wrap64 (j.f1 * e) else if obj = 5 then lateF j e else if obj = 6 then wrap64 (j.f1 * lateF j e) else if lateF j e = 0 then 0 else if obj = 7 then 1 else j.f1
theorem add_eq (a : Int) (j : S59) (e obj : Int) (ha : I64 a) (ho : obj = 2 ∨ obj = 3 ∨ obj = 5 ∨ obj = 6 ∨ obj = 7 ∨ obj = 8) : impl_add.f a j.f0 j.f1 j.f2 j.f3 e obj false = some (wrap64 (a + costF j e obj)) := by
  have hmx : ∀ x : Int, mx 0 x = if 0 < x then x else 0 := fun x => rfl
  have hw : wrap64 a = a := w64 ha.1 ha.2
  unfold impl_add.f costF lateF
  rcases ho with rfl | rfl | rfl | rfl | rfl | rfl
  · rfl
  · rfl
  · rfl
  · rfl
  · by_cases h : wrap64 (e - j.f3) ≤ 0
    · simp only [if_neg (show ¬ (0 : Int) < wrap64 (e - j.f3) by omega), if_pos h]
      simp [hw]
    · simp only [if_pos (show (0 : Int) < wrap64 (e - j.f3) by omega), if_neg h, if_neg (show ¬ wrap64 (e - j.f3) = 0 by omega)]
      rfl
  · by_cases h : wrap64 (e - j.f3) ≤ 0
    · simp only [if_neg (show ¬ (0 : Int) < wrap64 (e - j.f3) by omega), if_pos h]
      simp [hw]
    · simp only [if_pos (show (0 : Int) < wrap64 (e - j.f3) by omega), if_neg h, if_neg (show ¬ wrap64 (e - j.f3) = 0 by omega)]
      rfl
theorem l2Cost_eq (j : S59) (e obj : Int) : spec_l2Cost.f j.f0 j.f1 j.f2 j.f3 e obj = some (costF j e obj) := by
  have hm : spec_l1Most.f (wrap64 (e - j.f3)) 0 = some (lateF j e) := by
    unfold spec_l1Most.f lateF
    by_cases h : wrap64 (e - j.f3) > 0
    · rw [if_pos h, if_pos h]
    · rw [if_neg h, if_neg h]
  unfold spec_l2Cost.f costF
  rw [hm, Option.bind_some]
  repeat' split
  all_goals rfl

theorem l1In_eq (a b c : Int) : spec_l1In.f a b c = some (decide (b ≤ a) && decide (a ≤ c)) := by
  unfold spec_l1In.f
  by_cases h : b ≤ a
  · rw [if_pos h]; simp [h]
  · rw [if_neg h]; simp [h]

theorem within_eq (a b c : Int) : impl_within.f a b c = some (decide (b ≤ a) && decide (a ≤ c)) := by
  unfold impl_within.f
  by_cases h : b ≤ a
  · rw [if_pos h]; simp [h]
  · rw [if_neg h]; simp [h]

def objB (o : Int) : Bool := decide (1 ≤ o) && decide (o ≤ 8)
def greatB (o : Int) : Bool := decide (o = 1) || decide (o = 4)
theorem l2Great_eq (o : Int) : spec_l2Greatest.f o = some (greatB o) := by
  unfold spec_l2Greatest.f greatB
  by_cases h1 : o = 1
  · simp [h1]
  · simp only [if_neg h1, decide_eq_false h1, Bool.false_or]; rfl
/-- The value so far, with one more end. -/
def ofStep (o : Int) (first : Bool) (acc : Int) (j : S59) (e : Int) : Int :=
  if greatB o = true then (let x := if o = 4 then wrap64 (e - j.f3) else e; if first = true then x else if x > acc then x else acc) else wrap64 (acc + costF j e o)
def ofF (o : Int) (xs : List S59) (es : List Int) (i : Nat) (acc : Int) : Nat → Int
  | 0 => acc
  | d + 1 => ofF o xs es (i + 1) (ofStep o (decide (i = 0)) acc (rd_T59 xs (i : Int)) (rd es (i : Int))) d
theorem l2Of_ev (xs : List S59) (es : List Int) (o : Int) (hn : xs.length ≤ 8) (he : es.length = xs.length) : Ev (fun k => spec_l2Of.f k xs es o) (ofF o xs es 0 0 xs.length) := by
  have key : ∀ (d i : Nat) (acc : Int), i + d = xs.length → Ev (fun k => spec_l2Of.l0 k xs es o acc (i : Int)) (ofF o xs es i acc d) := by
    intro d
    induction d with
    | zero =>
      intro i acc hi
      refine ev_succ ?_
      simp only [spec_l2Of.l0, if_neg (show ¬ (i : Int) < (xs.length : Int) by omega)]
      exact ev_now _
    | succ d ih =>
      intro i acc hi
      refine ev_succ ?_
      have h := fun a => ih (i + 1) a (by omega)
      simp only [spec_l2Of.l0, if_pos (show (i : Int) < (xs.length : Int) by omega), l2Great_eq, Option.bind_some, if_pos (show (0 : Int) ≤ (i : Int) by omega), if_pos (show (i : Int) < (es.length : Int) by omega), wsucc i (by omega), l2Cost_eq, ofF, ofStep]
      cases hgr : greatB o
      · simp only [Bool.false_eq_true, if_false]
        exact h _
      · simp only [if_true, decide_eq_true_eq]
        by_cases h4 : o = 4
        · by_cases h0 : i = 0
          · simp only [if_pos h4, if_pos h0, if_pos (show (i : Int) = 0 by omega)]; exact h _
          · by_cases hx : wrap64 (rd es (i : Int) - (rd_T59 xs (i : Int)).f3) > acc
            · simp only [if_pos h4, if_neg h0, if_neg (show ¬ (i : Int) = 0 by omega), if_pos hx]; exact h _
            · simp only [if_pos h4, if_neg h0, if_neg (show ¬ (i : Int) = 0 by omega), if_neg hx]; exact h _
        · by_cases h0 : i = 0
          · simp only [if_neg h4, if_pos h0, if_pos (show (i : Int) = 0 by omega)]; exact h _
          · by_cases hx : rd es (i : Int) > acc
            · simp only [if_neg h4, if_neg h0, if_neg (show ¬ (i : Int) = 0 by omega), if_pos hx]; exact h _
            · simp only [if_neg h4, if_neg h0, if_neg (show ¬ (i : Int) = 0 by omega), if_neg hx]; exact h _
  unfold spec_l2Of.f
  exact key xs.length 0 0 (Nat.zero_add _)
theorem add_full (a : Int) (j : S59) (e o : Int) (first : Bool) (ha : I64 a) (hf : first = true → a = 0) (ho : objB o = true) (he : 0 ≤ e) : impl_add.f a j.f0 j.f1 j.f2 j.f3 e o first = some (ofStep o first a j e) := by
  unfold objB at ho
  simp only [Bool.and_eq_true, decide_eq_true_eq] at ho
  have hmx : ∀ x y : Int, mx x y = if x < y then y else x := fun x y => rfl
  by_cases h1 : o = 1
  · subst h1
    unfold impl_add.f ofStep
    cases first
    · simp only [if_true, hmx, show greatB 1 = true by decide, show ¬ (1 : Int) = 4 by decide, if_false, gt_iff_lt, Bool.false_eq_true]
    · have := hf rfl
      subst this
      simp only [if_true, hmx, show greatB 1 = true by decide, show ¬ (1 : Int) = 4 by decide, if_false]
      congr 1
      split <;> omega
  · by_cases h4 : o = 4
    · subst h4
      unfold impl_add.f ofStep
      cases first
      · simp only [if_true, hmx, show greatB 4 = true by decide, show ¬ (4 : Int) = 1 by decide, show ¬ (4 : Int) = 2 by decide, show ¬ (4 : Int) = 3 by decide, if_false, gt_iff_lt, Bool.false_eq_true]
      · simp only [if_true, show greatB 4 = true by decide, show ¬ (4 : Int) = 1 by decide, show ¬ (4 : Int) = 2 by decide, show ¬ (4 : Int) = 3 by decide, if_false]
    · have hg : greatB o = false := by unfold greatB; rw [decide_eq_false h1, decide_eq_false h4]; rfl
      have h := add_eq a j e o ha (by omega)
      unfold ofStep
      simp only [hg, Bool.false_eq_true, if_false]
      rw [← h]
      unfold impl_add.f
      simp only [if_neg h1, if_neg h4]
theorem ofStep_I64 (o : Int) (first : Bool) (acc : Int) (j : S59) (e : Int) (ha : I64 acc) (he : I64 e) : I64 (ofStep o first acc j e) := by
  unfold ofStep
  have h0 := wrap_I64 (acc + costF j e o)
  have h1 := wrap_I64 (e - j.f3)
  dsimp only
  repeat' split
  all_goals assumption
theorem valueOfEnds_ev (xs : List S59) (es : List Int) (o : Int) (hn : xs.length ≤ 8) (he : es.length = xs.length) (hb : ∀ x ∈ es, 0 ≤ x ∧ x ≤ 4611686018427387904) (ho : objB o = true) : Ev (fun k => impl_valueOfEnds.f k xs es o) (ofF o xs es 0 0 xs.length) := by
  have key : ∀ (d i : Nat) (acc : Int), i + d = xs.length → I64 acc → (i = 0 → acc = 0) → Ev (fun k => impl_valueOfEnds.l0 k es o acc xs (xs.length : Int) (i : Int)) (ofF o xs es i acc d) := by
    intro d
    induction d with
    | zero =>
      intro i acc hi _ _
      refine ev_succ ?_
      simp only [impl_valueOfEnds.l0, if_neg (show ¬ (i : Int) < (xs.length : Int) by omega)]
      exact ev_now _
    | succ d ih =>
      intro i acc hi hI h0
      refine ev_succ ?_
      have hx : i < es.length := by omega
      have hbx := hb es[i] (List.getElem_mem hx)
      have hr := rdz es i hx
      have hf : ((i : Int) == 0) = decide (i = 0) := by rw [Bool.eq_iff_iff]; simp
      have hadd := add_full acc (rd_T59 xs (i : Int)) (rd es (i : Int)) o (decide (i = 0)) hI (fun h => h0 (by simpa using h)) ho (by rw [hr]; exact hbx.1)
      simp only [impl_valueOfEnds.l0, if_pos (show (i : Int) < (xs.length : Int) by omega), if_pos (show (0 : Int) ≤ (i : Int) by omega), if_pos (show (i : Int) < (es.length : Int) by omega), hf, hadd, Option.bind_some, wsucc i (by omega), ofF]
      exact ih (i + 1) _ (by omega) (ofStep_I64 _ _ _ _ _ hI (by rw [hr]; unfold I64; omega)) (fun h => by omega)
  unfold impl_valueOfEnds.f
  exact key xs.length 0 0 (Nat.zero_add _) (by unfold I64; omega) (fun _ => rfl)

theorem l2Obj_eq (o : Int) : spec_l2Objective.f o = some (objB o) := by
  unfold spec_l2Objective.f
  rw [l1In_eq]
  rfl
theorem isObj_eq (o : Int) : impl_isObjective.f o = some (objB o) := by
  unfold impl_isObjective.f
  rw [within_eq]
  rfl

/-- A job's numbers are in their bounds. -/
def okJ (x : S59) : Bool := decide (1 ≤ x.f0) && (decide (x.f0 ≤ 50) && (decide (0 ≤ x.f1) && (decide (x.f1 ≤ 50) && (decide (0 ≤ x.f2) && (decide (x.f2 ≤ 500) && (decide (0 ≤ x.f3) && decide (x.f3 ≤ 500)))))))
def goodB (l : List S59) : Bool := decide (l.length ≤ 8) && l.all okJ
theorem isDate_eq (a : Int) : impl_isDate.f a = some (decide (0 ≤ a) && decide (a ≤ 500)) := by
  unfold impl_isDate.f
  rw [within_eq]
  rfl
theorem job_chain (x : S59) (o : Option Bool) : (if (decide (1 ≤ x.f0) && decide (x.f0 ≤ 50)) = true then (if (decide (0 ≤ x.f1) && decide (x.f1 ≤ 50)) = true then (if (decide (0 ≤ x.f2) && decide (x.f2 ≤ 500)) = true then (if (decide (0 ≤ x.f3) && decide (x.f3 ≤ 500)) = true then o else some false) else some false) else some false) else some false) = if okJ x = true then o else some false := by
  unfold okJ
  by_cases a1 : 1 ≤ x.f0 <;> by_cases a2 : x.f0 ≤ 50 <;> simp [a1, a2]
  by_cases b1 : 0 ≤ x.f1 <;> by_cases b2 : x.f1 ≤ 50 <;> simp [b1, b2]
  by_cases c1 : 0 ≤ x.f2 <;> by_cases c2 : x.f2 ≤ 500 <;> simp [c1, c2]
theorem IsJobs_l (xs : List S59) (hn : xs.length ≤ 4611686018427387904) : ∀ (d i : Nat), i + d = xs.length → Ev (fun k => impl_IsJobs.l0 k xs (xs.length : Int) (i : Int)) ((xs.drop i).all okJ) := by
  intro d
  induction d with
  | zero =>
    intro i hi
    refine ev_succ ?_
    simp only [impl_IsJobs.l0, if_neg (show ¬ (i : Int) < (xs.length : Int) by omega), List.drop_of_length_le (show xs.length ≤ i by omega)]
    exact ev_now _
  | succ d ih =>
    intro i hi
    refine ev_succ ?_
    have hx : i < xs.length := by omega
    have hih := ih (i + 1) (by omega)
    rw [List.drop_eq_getElem_cons hx, List.all_cons]
    simp only [impl_IsJobs.l0, within_eq, isDate_eq, Option.bind_some, if_pos (show (i : Int) < (xs.length : Int) by omega), if_pos (show (0 : Int) ≤ (i : Int) by omega), wsucc i (by omega), rdI xs i hx]
    generalize xs[i] = x at *
    simp only [job_chain]
    by_cases c : okJ x = true
    · simpa only [c, if_true, Bool.true_and] using hih
    · have c' : okJ x = false := by simpa using c
      simp only [c', Bool.false_and]
      exact ev_now _
theorem IsJobs_ev (xs : List S59) (hn : xs.length ≤ 4611686018427387904) : Ev (fun k => impl_IsJobs.f k xs) (goodB xs) := by
  unfold impl_IsJobs.f goodB
  by_cases h : xs.length ≤ 8
  · simp only [if_neg (show ¬ ((xs.length : Int) > 8) by omega), decide_eq_true h, Bool.true_and]
    exact IsJobs_l xs hn xs.length 0 (by omega)
  · simp only [if_pos (show ((xs.length : Int) > 8) by omega), decide_eq_false h, Bool.false_and]
    exact ev_now _

theorem good_len {xs : List S59} (h : goodB xs = true) : xs.length ≤ 8 := by
  unfold goodB at h
  simp only [Bool.and_eq_true, decide_eq_true_eq] at h
  exact h.1
theorem good_at {xs : List S59} (h : goodB xs = true) (i : Nat) (hi : i < xs.length) : 1 ≤ xs[i].f0 ∧ xs[i].f0 ≤ 50 ∧ 0 ≤ xs[i].f1 ∧ xs[i].f1 ≤ 50 ∧ 0 ≤ xs[i].f2 ∧ xs[i].f2 ≤ 500 ∧ 0 ≤ xs[i].f3 ∧ xs[i].f3 ≤ 500 := by
  unfold goodB at h
  simp only [Bool.and_eq_true, List.all_eq_true] at h
  have b := h.2 xs[i] (List.getElem_mem hi)
  simp only [okJ, Bool.and_eq_true, decide_eq_true_eq] at b
  obtain ⟨a1, a2, b1, b2, c1, c2, d1, d2⟩ := b
  exact ⟨a1, a2, b1, b2, c1, c2, d1, d2⟩

abbrev inJ (n : Nat) (i : Int) : Prop := 0 ≤ i ∧ i < (n : Int)
theorem inJ_nat {n : Nat} {a : Int} (h : inJ n a) : ∃ i : Nat, i < n ∧ a = (i : Int) := ⟨a.toNat, by have := h.1; have := h.2; omega, by have := h.1; omega⟩
theorem rd_nat (l : List S59) {a : Int} (h : inJ l.length a) : rd_T59 l a = l[a.toNat]'(by have := h.1; have := h.2; omega) := by
  obtain ⟨i, hi, rfl⟩ := inJ_nat h
  rw [rdI l i hi]
  rfl

theorem rdW (o : List Int) (n : Nat) (h : n < o.length) : rd o (n : Int) = o[n] := by
  simp [rd]
  rw [List.getElem?_eq_getElem h]; rfl

/-- Where a number goes among sorted ones: ahead of the first that it comes ahead of. -/
def posW (lt : Int → Int → Bool) (i : Int) (o : List Int) : Nat := o.findIdx (fun b => lt i b)
def insW (lt : Int → Int → Bool) (i : Int) (o : List Int) : List Int := o.take (posW lt i o) ++ i :: o.drop (posW lt i o)
def sortW (lt : Int → Int → Bool) : List Int → List Int → List Int
  | [], o => o
  | i :: t, o => sortW lt t (insW lt i o)
structure OrdW (lt : Int → Int → Bool) (D : Int → Prop) : Prop where
  asym : ∀ a b, D a → D b → lt a b = true → lt b a = false
  co : ∀ i a b, D i → D a → D b → lt i a = true → lt b a = false → lt i b = true
abbrev SortedW (lt : Int → Int → Bool) (o : List Int) : Prop := o.Pairwise (fun a b => lt b a = false)
theorem posW_le (lt : Int → Int → Bool) (i : Int) (o : List Int) : posW lt i o ≤ o.length := List.findIdx_le_length
theorem posW_before {lt : Int → Int → Bool} {i : Int} {o : List Int} {j : Nat} (h : j < posW lt i o) : lt i (o[j]'(Nat.lt_of_lt_of_le h (posW_le _ _ _))) = false := by
  have := List.not_of_lt_findIdx (p := fun b => lt i b) h
  simpa using this
theorem posW_at {lt : Int → Int → Bool} {i : Int} {o : List Int} (h : posW lt i o < o.length) : lt i (o[posW lt i o]'h) = true := List.findIdx_getElem (w := h)
theorem posW_behind {lt : Int → Int → Bool} {D : Int → Prop} (H : OrdW lt D) {i : Int} {o : List Int} (hi : D i) (ho : ∀ b ∈ o, D b) (hs : SortedW lt o) {j : Nat} (hj : posW lt i o ≤ j) (hl : j < o.length) : lt i (o[j]'hl) = true := by
  have hp : posW lt i o < o.length := by omega
  have h0 := posW_at hp
  rcases Nat.lt_or_ge (posW lt i o) j with h | h
  · have h1 := List.pairwise_iff_getElem.1 hs _ _ hp hl h
    exact H.co i _ _ hi (ho _ (List.getElem_mem hp)) (ho _ (List.getElem_mem hl)) h0 h1
  · have : j = posW lt i o := by omega
    subst this
    exact h0
theorem insW_perm (lt : Int → Int → Bool) (i : Int) (o : List Int) : (insW lt i o).Perm (i :: o) := by
  unfold insW
  refine List.perm_middle.trans ?_
  rw [List.take_append_drop]
theorem insW_sorted {lt : Int → Int → Bool} {D : Int → Prop} (H : OrdW lt D) {i : Int} {o : List Int} (hi : D i) (ho : ∀ b ∈ o, D b) (hs : SortedW lt o) : SortedW lt (insW lt i o) := by
  unfold insW SortedW
  rw [List.pairwise_append]
  refine ⟨hs.sublist (List.take_sublist _ _), List.pairwise_cons.2 ⟨?_, hs.sublist (List.drop_sublist _ _)⟩, ?_⟩
  · intro b hb
    obtain ⟨j, hj, rfl⟩ := List.mem_iff_getElem.1 hb
    rw [List.getElem_drop]
    have hl : posW lt i o + j < o.length := by rw [List.length_drop] at hj; omega
    exact H.asym _ _ hi (ho _ (List.getElem_mem hl)) (posW_behind H hi ho hs (by omega) hl)
  · intro a ha b hb
    obtain ⟨j, hj, rfl⟩ := List.mem_iff_getElem.1 ha
    have hjp : j < posW lt i o := by rw [List.length_take] at hj; omega
    rw [List.getElem_take]
    rcases List.mem_cons.1 hb with rfl | hb
    · exact posW_before hjp
    · obtain ⟨q, hq, rfl⟩ := List.mem_iff_getElem.1 hb
      have hl : posW lt i o + q < o.length := by rw [List.length_drop] at hq; omega
      rw [List.getElem_drop]
      exact List.pairwise_iff_getElem.1 hs _ _ _ hl (by omega)
theorem sortW_perm (lt : Int → Int → Bool) : ∀ (l o : List Int), (sortW lt l o).Perm (l ++ o)
  | [], o => by unfold sortW; exact List.Perm.refl _
  | i :: t, o => by
    unfold sortW
    refine (sortW_perm lt t _).trans ?_
    refine ((List.Perm.append_left t (insW_perm lt i o))).trans ?_
    exact List.perm_middle
theorem sortW_sorted {lt : Int → Int → Bool} {D : Int → Prop} (H : OrdW lt D) : ∀ (l o : List Int), (∀ b ∈ l, D b) → (∀ b ∈ o, D b) → SortedW lt o → SortedW lt (sortW lt l o)
  | [], o, _, _, hs => by unfold sortW; exact hs
  | i :: t, o, hl, ho, hs => by
    unfold sortW
    refine sortW_sorted H t _ (fun b hb => hl b (by simp [hb])) ?_ (insW_sorted H (hl i (by simp)) ho hs)
    intro b hb
    rcases List.mem_cons.1 ((insW_perm lt i o).mem_iff.1 hb) with rfl | h
    · exact hl _ (by simp)
    · exact ho b h
/-- Two sorted forms of the same numbers, where no two tie. -/
theorem sortedW_unique {lt : Int → Int → Bool} {a b : List Int} (hd : ∀ x ∈ a, ∀ y ∈ b, lt x y = false → lt y x = false → x = y) (ha : SortedW lt a) (hb : SortedW lt b) (hp : a.Perm b) : a = b :=
  List.Perm.eq_of_pairwise (fun x y hx hy h1 h2 => hd x hx y hy h2 h1) ha hb hp
theorem sortW_append (lt : Int → Int → Bool) : ∀ (a b o : List Int), sortW lt (a ++ b) o = sortW lt b (sortW lt a o)
  | [], b, o => rfl
  | i :: t, b, o => by simp only [List.cons_append, sortW]; exact sortW_append lt t b _

theorem mxe (a b : Int) : mx a b = if a < b then b else a := rfl
def endL (l : List S59) : List Int → Int → List Int → List Int
  | [], _, E => E
  | i :: t, e, E => endL l t (mx e (rd_T59 l i).f2 + (rd_T59 l i).f0) (E.set i.toNat (mx e (rd_T59 l i).f2 + (rd_T59 l i).f0))
def stL (l : List S59) : List Int → Int → List Int → List Int
  | [], _, S => S
  | i :: t, e, S => stL l t (mx e (rd_T59 l i).f2 + (rd_T59 l i).f0) (S.set i.toNat (mx e (rd_T59 l i).f2))
theorem endL_len (l : List S59) : ∀ (D : List Int) (e : Int) (E : List Int), (endL l D e E).length = E.length
  | [], _, _ => rfl
  | i :: t, e, E => by unfold endL; rw [endL_len l t]; exact List.length_set
theorem stL_len (l : List S59) : ∀ (D : List Int) (e : Int) (E : List Int), (stL l D e E).length = E.length
  | [], _, _ => rfl
  | i :: t, e, E => by unfold stL; rw [stL_len l t]; exact List.length_set
theorem end_st (l : List S59) : ∀ (D : List Int) (e : Int) (S E : List Int) (n : Nat), S.length = n → E.length = n → (∀ b ∈ D, inJ n b) →
    (∀ q : Nat, q < n → (q : Int) ∉ D → rd E (q : Int) = rd S (q : Int) + (rd_T59 l (q : Int)).f0) → ∀ q : Nat, q < n → rd (endL l D e E) (q : Int) = rd (stL l D e S) (q : Int) + (rd_T59 l (q : Int)).f0
  | [], e, S, E, n, hS, hE, hD, h, q, hq => h q hq (by simp)
  | i :: t, e, S, E, n, hS, hE, hD, h, q, hq => by
    unfold endL stL
    refine end_st l t _ _ _ n (by rw [List.length_set]; exact hS) (by rw [List.length_set]; exact hE) (fun b hb => hD b (by simp [hb])) ?_ q hq
    intro q hq hn
    have hi := hD i (by simp)
    obtain ⟨j, hj, rfl⟩ := inJ_nat hi
    rw [rdW _ q (by rw [List.length_set]; omega), rdW _ q (by rw [List.length_set]; omega)]
    rw [Int.toNat_natCast, List.getElem_set, List.getElem_set]
    by_cases hqj : j = q
    · subst hqj
      rw [if_pos rfl, if_pos rfl]
    · rw [if_neg hqj, if_neg hqj]
      have := h q hq (by simp only [List.mem_cons, not_or]; exact ⟨by omega, hn⟩)
      rw [rdW E q (by omega), rdW S q (by omega)] at this
      exact this
theorem rd_good {l : List S59} (hg : goodB l = true) {a : Int} (ha : inJ l.length a) : 1 ≤ (rd_T59 l a).f0 ∧ (rd_T59 l a).f0 ≤ 50 ∧ 0 ≤ (rd_T59 l a).f2 ∧ (rd_T59 l a).f2 ≤ 500 := by
  rw [rd_nat l ha]
  have := good_at hg a.toNat (by have := ha.1; have := ha.2; omega)
  omega
theorem stL_bd (l : List S59) (hg : goodB l = true) : ∀ (D : List Int) (e : Int) (S : List Int), (∀ b ∈ D, inJ l.length b) → 0 ≤ e → (if e < 500 then 500 else e) + 50 * D.length ≤ 950 → (∀ x ∈ S, 0 ≤ x ∧ x ≤ 950) → ∀ x ∈ stL l D e S, 0 ≤ x ∧ x ≤ 950
  | [], e, S, _, _, _, hS => hS
  | i :: t, e, S, hD, h0, h1, hS => by
    have hb := rd_good hg (hD i (by simp))
    unfold stL
    rw [List.length_cons] at h1
    have hm : 0 ≤ mx e (rd_T59 l i).f2 ∧ mx e (rd_T59 l i).f2 ≤ (if e < 500 then 500 else e) := by rw [mxe]; split <;> split <;> omega
    refine stL_bd l hg t _ _ (fun b hb => hD b (by simp [hb])) (by omega) ?_ ?_
    · split <;> split at h1 <;> split at hm <;> omega
    · intro x hx
      rcases List.mem_or_eq_of_mem_set hx with h | h
      · exact hS x h
      · subst h
        split at h1 <;> split at hm <;> omega

theorem most_mx2 (a b : Int) : spec_l1Most.f a b = some (mx a b) := by
  unfold spec_l1Most.f
  rw [mxe]
  by_cases h : a < b
  · rw [if_pos h, if_neg (by omega)]
  · rw [if_neg h]
    by_cases h2 : a > b
    · rw [if_pos h2]
    · rw [if_neg h2]; congr 1; omega
theorem l2Starts_l0 (l : List S59) (hg : goodB l = true) (D : List Int) (hD : ∀ b ∈ D, inJ l.length b) (hn : D.length ≤ 8) : ∀ (d j : Nat) (e : Int) (E : List Int), j + d = D.length → E.length = l.length → 0 ≤ e → (if e < 500 then 500 else e) + 50 * d ≤ 950 →
    Ev (fun k => spec_l2Starts.l0 k l D E e (j : Int)) (stL l (D.drop j) e E) := by
  intro d
  induction d with
  | zero =>
    intro j e E hj _ _ _
    refine ev_succ ?_
    simp only [spec_l2Starts.l0, if_neg (show ¬ ((j : Int) < (D.length : Int)) by omega)]
    rw [List.drop_eq_nil_of_le (by omega)]
    exact ev_now _
  | succ d ih =>
    intro j e E hj hE h0 h1
    refine ev_succ ?_
    have hjl : j < D.length := by omega
    have hm := hD _ (List.getElem_mem hjl)
    have hb := rd_good hg hm
    have hmx : 0 ≤ mx e (rd_T59 l D[j]).f2 ∧ mx e (rd_T59 l D[j]).f2 ≤ (if e < 500 then 500 else e) := by rw [mxe]; split <;> split <;> omega
    have hmx2 : mx e (rd_T59 l D[j]).f2 ≤ 950 := by have := hmx.2; split at this <;> split at h1 <;> omega
    have hrd : ∀ (v x : Int), 0 ≤ v → v < (E.length : Int) → rd (E.set v.toNat x) v = x := by
      intro v x h0 h1
      obtain ⟨z, rfl⟩ := Int.eq_ofNat_of_zero_le h0
      rw [Int.toNat_natCast, rdW _ _ (by rw [List.length_set]; omega), List.getElem_set_self]
    rw [List.drop_eq_getElem_cons hjl, stL]
    simp only [spec_l2Starts.l0, if_pos (show (j : Int) < (D.length : Int) by omega), if_pos (show (0 : Int) ≤ (j : Int) by omega), rdW D j hjl, if_pos hm.1, if_pos hm.2, most_mx2, Option.bind_some, if_pos (show D[j] < (E.length : Int) by rw [hE]; exact hm.2), hrd D[j] (mx e (rd_T59 l D[j]).f2) hm.1 (by rw [hE]; exact hm.2), w64 (x := mx e (rd_T59 l D[j]).f2 + (rd_T59 l D[j]).f0) (by omega) (by omega), w64 (x := (j : Int) + 1) (by omega) (by omega)]
    refine ih (j + 1) _ _ (by omega) (by rw [List.length_set]; exact hE) (by omega) ?_
    split <;> split at h1 <;> split at hmx <;> omega
theorem l2Ends_ev (l : List S59) (hg : goodB l = true) (D : List Int) (hD : ∀ b ∈ D, inJ l.length b) (hn : D.length ≤ 8) (hall : ∀ q : Nat, q < l.length → (q : Int) ∈ D) : Ev (fun k => spec_l2Ends.f k l D) (endL l D 0 (List.replicate l.length 0)) := by
  have hl := good_len hg
  unfold spec_l2Ends.f
  have h1 : Ev (fun k => spec_l2Starts.f k l D) (stL l D 0 (List.replicate l.length 0)) := by
    unfold spec_l2Starts.f
    simp only [if_pos (show (0 : Int) ≤ (l.length : Int) by omega), Int.toNat_natCast, if_pos (show l.length ≤ 35184372088832 by omega)]
    exact l2Starts_l0 l hg D hD hn D.length 0 0 _ (by omega) (by simp) (by omega) (by rw [if_pos (by omega)]; omega)
  refine ev_bind h1 ?_
  have hbd := stL_bd l hg D 0 (List.replicate l.length 0) hD (by omega) (by rw [if_pos (by omega)]; omega) (fun x hx => by have := List.eq_of_mem_replicate hx; omega)
  have hrel := end_st l D 0 (List.replicate l.length 0) (List.replicate l.length 0) l.length (by simp) (by simp) hD (fun q hq hn => absurd (hall q hq) hn)
  have lS : (stL l D 0 (List.replicate l.length 0)).length = l.length := by rw [stL_len]; simp
  have lE : (endL l D 0 (List.replicate l.length 0)).length = l.length := by rw [endL_len]; simp
  generalize stL l D 0 (List.replicate l.length 0) = S at *
  generalize endL l D 0 (List.replicate l.length 0) = E at *
  have main : ∀ (d i : Nat), i + d = l.length → Ev (fun k => spec_l2Ends.l0 k l (E.take i ++ S.drop i) (i : Int)) E := by
    intro d
    induction d with
    | zero =>
      intro i hi
      refine ev_succ ?_
      simp only [spec_l2Ends.l0, if_neg (show ¬ ((i : Int) < (l.length : Int)) by omega)]
      rw [List.take_of_length_le (by omega), List.drop_eq_nil_of_le (by omega), List.append_nil]
      exact ev_now _
    | succ d ih =>
      intro i hi
      refine ev_succ ?_
      have hil : i < l.length := by omega
      have ht : (E.take i).length = i := by rw [List.length_take]; omega
      have hlen : (E.take i ++ S.drop i).length = l.length := by rw [List.length_append, ht, List.length_drop]; omega
      have hcons : S.drop i = S[i] :: S.drop (i + 1) := List.drop_eq_getElem_cons (by omega)
      have hr : rd (E.take i ++ S.drop i) (i : Int) = S[i] := by
        rw [rdW _ i (by omega), List.getElem_append_right (by omega)]
        simp only [List.getElem_drop, ht]
        congr 1; omega
      have h2 := hrel i hil
      rw [rdW E i (by omega), rdW S i (by omega)] at h2
      have h3 := hbd S[i] (List.getElem_mem (by omega))
      have h4 := rd_good hg (show inJ l.length (i : Int) from ⟨by omega, by omega⟩)
      simp only [spec_l2Ends.l0, if_pos (show ((i : Int) < (l.length : Int)) by omega), if_pos (show (0 : Int) ≤ (i : Int) by omega), hlen, hr, w64 (x := S[i] + (rd_T59 l (i : Int)).f0) (by omega) (by omega), w64 (x := (i : Int) + 1) (by omega) (by omega), Int.toNat_natCast]
      rw [← h2, hcons, List.set_append_right _ _ (by omega), ht, Nat.sub_self, List.set_cons_zero]
      have := ih (i + 1) (by omega)
      rw [List.take_succ_eq_append_getElem (by omega), List.append_assoc] at this
      exact this
  have h0 := main l.length 0 (by omega)
  simpa using h0

theorem endsOf_l0 (l : List S59) (hg : goodB l = true) (D : List Int) (hD : ∀ b ∈ D, inJ l.length b) (hn : D.length ≤ 8) : ∀ (d j : Nat) (e : Int) (E : List Int), j + d = D.length → E.length = l.length → 0 ≤ e → (if e < 500 then 500 else e) + 50 * d ≤ 950 →
    Ev (fun k => impl_endsOf.l0 k l E e D (D.length : Int) (j : Int)) (endL l (D.drop j) e E) := by
  intro d
  induction d with
  | zero =>
    intro j e E hj _ _ _
    refine ev_succ ?_
    simp only [impl_endsOf.l0, if_neg (show ¬ ((j : Int) < (D.length : Int)) by omega)]
    rw [List.drop_eq_nil_of_le (by omega)]
    exact ev_now _
  | succ d ih =>
    intro j e E hj hE h0 h1
    refine ev_succ ?_
    have hjl : j < D.length := by omega
    have hm := hD _ (List.getElem_mem hjl)
    have hb := rd_good hg hm
    have hmx : 0 ≤ mx e (rd_T59 l D[j]).f2 ∧ mx e (rd_T59 l D[j]).f2 ≤ (if e < 500 then 500 else e) := by rw [mxe]; split <;> split <;> omega
    have hmx2 : mx e (rd_T59 l D[j]).f2 ≤ 950 := by have := hmx.2; split at this <;> split at h1 <;> omega
    rw [List.drop_eq_getElem_cons hjl, endL]
    simp only [impl_endsOf.l0, if_pos (show (j : Int) < (D.length : Int) by omega), if_pos (show (0 : Int) ≤ (j : Int) by omega), rdW D j hjl, if_pos hm.1, if_pos hm.2, if_pos (show D[j] < (E.length : Int) by rw [hE]; exact hm.2), w64 (x := mx e (rd_T59 l D[j]).f2 + (rd_T59 l D[j]).f0) (by omega) (by omega), w64 (x := (j : Int) + 1) (by omega) (by omega)]
    refine ih (j + 1) _ _ (by omega) (by rw [List.length_set]; exact hE) (by omega) ?_
    split <;> split at h1 <;> split at hmx <;> omega
theorem endsOf_ev (l : List S59) (hg : goodB l = true) (D : List Int) (hD : ∀ b ∈ D, inJ l.length b) (hn : D.length ≤ 8) : Ev (fun k => impl_endsOf.f k l D) (endL l D 0 (List.replicate l.length 0)) := by
  have hl := good_len hg
  unfold impl_endsOf.f
  simp only [if_pos (show (0 : Int) ≤ (l.length : Int) by omega), Int.toNat_natCast, if_pos (show l.length ≤ 35184372088832 by omega)]
  exact endsOf_l0 l hg D hD hn D.length 0 0 _ (by omega) (by simp) (by omega) (by rw [if_pos (by omega)]; omega)

theorem endL_bd (l : List S59) (hg : goodB l = true) : ∀ (D : List Int) (e : Int) (S : List Int), (∀ b ∈ D, inJ l.length b) → 0 ≤ e → (if e < 500 then 500 else e) + 50 * D.length ≤ 950 → (∀ x ∈ S, 0 ≤ x ∧ x ≤ 950) → ∀ x ∈ endL l D e S, 0 ≤ x ∧ x ≤ 950
  | [], e, S, _, _, _, hS => hS
  | i :: t, e, S, hD, h0, h1, hS => by
    have hb := rd_good hg (hD i (by simp))
    unfold endL
    rw [List.length_cons] at h1
    have hm : 0 ≤ mx e (rd_T59 l i).f2 ∧ mx e (rd_T59 l i).f2 ≤ (if e < 500 then 500 else e) := by rw [mxe]; split <;> split <;> omega
    refine endL_bd l hg t _ _ (fun b hb => hD b (by simp [hb])) (by omega) ?_ ?_
    · split <;> split at h1 <;> split at hm <;> omega
    · intro x hx
      rcases List.mem_or_eq_of_mem_set hx with h | h
      · exact hS x h
      · subst h
        split at h1 <;> split at hm <;> omega

theorem l2Job_eq (x : S59) : spec_l2Job.f x.f0 x.f1 x.f2 x.f3 = some (okJ x) := by
  unfold spec_l2Job.f okJ
  simp only [l1In_eq, Option.bind_some]
  by_cases a1 : 1 ≤ x.f0 <;> by_cases a2 : x.f0 ≤ 50 <;> simp [a1, a2]
  by_cases b1 : 0 ≤ x.f1 <;> by_cases b2 : x.f1 ≤ 50 <;> simp [b1, b2]
  by_cases c1 : 0 ≤ x.f2 <;> by_cases c2 : x.f2 ≤ 500 <;> simp [c1, c2]
theorem l2Good_l (xs : List S59) (hn : xs.length ≤ 4611686018427387904) : ∀ (d i : Nat), i + d = xs.length → Ev (fun k => spec_l2Good.l0 k xs (i : Int)) ((xs.drop i).all okJ && decide (xs.length ≤ 8)) := by
  intro d
  induction d with
  | zero =>
    intro i hi
    refine ev_succ ?_
    simp only [spec_l2Good.l0, if_neg (show ¬ (i : Int) < (xs.length : Int) by omega), List.drop_of_length_le (show xs.length ≤ i by omega)]
    refine ev_const ?_
    simp
    omega
  | succ d ih =>
    intro i hi
    refine ev_succ ?_
    have hx : i < xs.length := by omega
    have hih := ih (i + 1) (by omega)
    rw [List.drop_eq_getElem_cons hx, List.all_cons]
    simp only [spec_l2Good.l0, if_pos (show (i : Int) < (xs.length : Int) by omega), if_pos (show (0 : Int) ≤ (i : Int) by omega), wsucc i (by omega), rdI xs i hx, l2Job_eq, Option.bind_some]
    by_cases c : okJ xs[i] = true
    · simpa only [c, if_true, Bool.true_and] using hih
    · have c' : okJ xs[i] = false := by simpa using c
      simp only [c', Bool.false_and]
      exact ev_now _
theorem l2Good_ev (xs : List S59) (hn : xs.length ≤ 4611686018427387904) : Ev (fun k => spec_l2Good.f k xs) (goodB xs) := by
  unfold spec_l2Good.f goodB
  rw [Bool.and_comm]
  exact l2Good_l xs hn xs.length 0 (by omega)

theorem l1Has_ev (ls : List Int) (x : Int) (hn : ls.length ≤ 1048576) : Ev (fun k => spec_l1Has.f k ls x) (decide (x ∈ ls)) := by
  have key : ∀ (d i : Nat), i + d = ls.length → Ev (fun k => spec_l1Has.l0 k ls x (i : Int)) (decide (x ∈ ls.drop i)) := by
    intro d
    induction d with
    | zero =>
      intro i hi
      refine ev_succ ?_
      rw [List.drop_of_length_le (by omega)]
      simp only [spec_l1Has.l0, if_neg (show ¬ (i : Int) < (ls.length : Int) by omega), List.not_mem_nil, decide_false]
      exact ev_now _
    | succ d ih =>
      intro i hi
      refine ev_succ ?_
      have hx : i < ls.length := by omega
      rw [List.drop_eq_getElem_cons hx]
      simp only [spec_l1Has.l0, if_pos (show (i : Int) < (ls.length : Int) by omega), if_pos (show (0 : Int) ≤ (i : Int) by omega), rdz ls i hx, wsucc i (by omega)]
      by_cases c : ls[i] = x
      · simp only [if_pos c, List.mem_cons, show x = ls[i] from c.symm, true_or, decide_true]; exact ev_now _
      · simp only [if_neg c, List.mem_cons, show ¬ x = ls[i] from fun e => c e.symm, false_or]; exact ih (i + 1) (by omega)
  have h := key ls.length 0 (Nat.zero_add _)
  rw [List.drop_zero] at h
  unfold spec_l1Has.f
  exact h

theorem own_eq (l : List Int) (h : l.length ≤ 1000) : spec_l1Own.f l = some l := by
  simp only [spec_l1Own.f, Option.bind_some, List.length_nil, if_pos (show 0 + l.length < 17592186044416 by omega), List.nil_append]
theorem copy_eq (l : List Int) (h : l.length ≤ 1000) : impl_copyInts.f l = some l := by
  simp only [impl_copyInts.f, Option.bind_some, List.length_nil, if_pos (show 0 + l.length < 17592186044416 by omega), List.nil_append]
def valP (l : List S59) (ob : Int) (o : List Int) : Int := ofF ob l (endL l o 0 (List.replicate l.length 0)) 0 0 l.length
/-- Of an order: its numbers are the jobs. -/
def ordP (n : Nat) (o : List Int) : Prop := o.Perm (idsW n)
theorem ordP_len {n : Nat} {o : List Int} (h : ordP n o) : o.length = n := by rw [h.length_eq, idsW_len]
theorem ordP_in {n : Nat} {o : List Int} (h : ordP n o) : ∀ b ∈ o, inJ n b := fun b hb => idsW_mem (h.mem_iff.mp hb)
theorem ids_mem (n q : Nat) (h : q < n) : (q : Int) ∈ idsW n := by unfold idsW; exact List.mem_map.mpr ⟨q, List.mem_range.mpr h, rfl⟩
theorem ordP_all {n : Nat} {o : List Int} (h : ordP n o) (q : Nat) (hq : q < n) : (q : Int) ∈ o := h.mem_iff.mpr (ids_mem n q hq)
theorem ends_fact {l : List S59} (hg : goodB l = true) {o : List Int} (ho : ordP l.length o) : (endL l o 0 (List.replicate l.length 0)).length = l.length ∧ ∀ x ∈ endL l o 0 (List.replicate l.length 0), 0 ≤ x ∧ x ≤ 4611686018427387904 := by
  have hl := good_len hg
  refine ⟨by rw [endL_len, List.length_replicate], fun x hx => ?_⟩
  have := endL_bd l hg o 0 (List.replicate l.length 0) (ordP_in ho) (by omega) (by rw [ordP_len ho]; simp; omega) (fun x hx => by have := List.eq_of_mem_replicate hx; omega) x hx
  omega
theorem valS {l : List S59} (hg : goodB l = true) (ob : Int) {o : List Int} (ho : ordP l.length o) : Ev (fun k => spec_l2Value.f k l o ob) (valP l ob o) := by
  have hl := good_len hg
  unfold spec_l2Value.f
  exact ev_bind (l2Ends_ev l hg o (ordP_in ho) (by rw [ordP_len ho]; omega) (ordP_all ho)) (ev_bind (l2Of_ev l _ ob hl (ends_fact hg ho).1) (ev_now _))
theorem valI {l : List S59} (hg : goodB l = true) {ob : Int} (hob : objB ob = true) {o : List Int} (ho : ordP l.length o) : Ev (fun k => impl_valueOf.f k l o ob) (valP l ob o) := by
  have hl := good_len hg
  unfold impl_valueOf.f
  exact ev_bind (endsOf_ev l hg o (ordP_in ho) (by rw [ordP_len ho]; omega)) (ev_bind (valueOfEnds_ev l _ ob hl (ends_fact hg ho).1 (ends_fact hg ho).2 hob) (ev_now _))
theorem goW_mem (f : List Int → List Int → List (List Int)) (Q : List Int → Prop) (B : List Int) : ∀ (H L : List Int), (∀ (L1 H1 : List Int) (a : Int), L ++ H = L1 ++ a :: H1 → ∀ o ∈ f (B ++ [a]) (L1 ++ H1), Q o) → ∀ o ∈ goW f B L H, Q o := by
  intro H
  induction H with
  | nil => intro L _ o ho; simp [goW] at ho
  | cons a H ih =>
    intro L h o ho
    rw [goW, List.mem_append] at ho
    rcases ho with ho | ho
    · exact h L H a rfl o ho
    · exact ih (L ++ [a]) (fun L1 H1 b e => h L1 H1 b (by rw [← e]; simp)) o ho
theorem orders_perm : ∀ (d : Nat) (B R : List Int), R.length = d → ∀ o ∈ ordersW d B R, o.Perm (B ++ R) := by
  intro d
  induction d with
  | zero =>
    intro B R h o ho
    obtain rfl := List.eq_nil_of_length_eq_zero h
    simp only [ordersW, List.mem_singleton] at ho
    subst ho
    simp
  | succ d ih =>
    intro B R h
    refine goW_mem _ _ B R [] (fun L1 H1 a e o ho => ?_)
    rw [List.nil_append] at e
    subst e
    have h1 := ih (B ++ [a]) (L1 ++ H1) (by simp at h ⊢; omega) o ho
    refine h1.trans ?_
    rw [List.append_assoc]
    exact List.Perm.append_left B (show (a :: (L1 ++ H1)).Perm (L1 ++ a :: H1) from List.perm_middle.symm)
/-! The program's way through the orders. -/
def nxW (a b : List Int) : Prop := a.length ≤ 1048576 → Ev (fun k => impl_nextOrder.f k a) (true, b)
theorem eo_ev {σ : Type} (st : Nat → σ → List Int → Option σ) (step : σ → List Int → σ) {a b : List Int} {L : List (List Int)} (h : ChainW nxW a L b) (hlast : Ev (fun k => impl_nextOrder.f k b) (false, b)) :
    (∀ o ∈ L, o.length ≤ 1048576 ∧ ∀ s, Ev (fun k => st k s o) (step s o)) → ∀ s, Ev (fun k => eoL st k s a) (L.foldl step s) := by
  induction h with
  | one a =>
    intro hL s
    refine ev_succ ?_
    simp only [eoL]
    refine ev_bind ((hL a (by simp)).2 s) (ev_bind hlast ?_)
    simp only [Bool.false_eq_true, if_false, List.foldl_cons, List.foldl_nil]
    exact ev_now _
  | @cons a b c L hn hc ih =>
    intro hL s
    refine ev_succ ?_
    simp only [eoL]
    refine ev_bind ((hL a (by simp)).2 s) (ev_bind (hn (hL a (by simp)).1) ?_)
    simp only [if_true, List.foldl_cons]
    exact ih hlast (fun o ho => hL o (by simp [ho])) _
theorem each_ev {σ : Type} (st : Nat → σ → List Int → Option σ) (step : σ → List Int → σ) (n : Nat) (hn : n ≤ 1000) (hst : ∀ o, ordP n o → ∀ s, Ev (fun k => st k s o) (step s o)) (s : σ) : Ev (fun k => eoF st k (n : Int) s) ((ordersW n [] (idsW n)).foldl step s) := by
  unfold eoF
  refine ev_bind (numbersTo_ev n (by omega)) ?_
  have hc := chain_orders nxW (fun B L a b H hp hl => next_swap B L H a b hp hl) n [] (idsW n) (idsW_len n) (ids_asc n)
  rw [List.nil_append, List.nil_append] at hc
  refine eo_ev st step hc (next_last (idsW n) (ids_asc n) (by rw [idsW_len]; omega)) (fun o ho => ?_) s
  have hp : ordP n o := by have := orders_perm n [] (idsW n) (idsW_len n) o ho; rwa [List.nil_append] at this
  exact ⟨by rw [ordP_len hp]; omega, fun s => hst o hp s⟩
def stepW (l : List S59) (ob : Int) (s : Int × Int × List Int) (o : List Int) : Int × Int × List Int :=
  if s.1 = 0 ∨ valP l ob o < s.2.1 then (1, valP l ob o, o) else if valP l ob o = s.2.1 then (wrap64 (s.1 + 1), s.2.1, s.2.2) else s
def bestW (l : List S59) (ob : Int) : Int × Int × List Int := (ordersW l.length [] (idsW l.length)).foldl (stepW l ob) (0, 0, [])
theorem best_ev (l : List S59) (hg : goodB l = true) (ob : Int) (hob : objB ob = true) : Ev (fun k => impl_best.f k l ob) ((bestW l ob).2.2, (bestW l ob).2.1, (bestW l ob).1) := by
  have hl := good_len hg
  unfold impl_best.f
  refine ev_bind (each_ev _ (stepW l ob) l.length (by omega) (fun o ho s => ?_) (0, 0, [])) (ev_now _)
  unfold impl_best_1.f
  refine ev_bind (valI hg hob ho) ?_
  unfold stepW
  by_cases h : s.1 = 0 ∨ valP l ob o < s.2.1
  · simp only [if_pos h]
    rw [copy_eq o (by rw [ordP_len ho]; omega)]
    exact ev_now _
  · simp only [if_neg h]
    by_cases h2 : valP l ob o = s.2.1
    · simp only [if_pos h2]; exact ev_now _
    · simp only [if_neg h2]; exact ev_now _
/-! The reference's way. -/
theorem goW_fold {σ : Type} (step : σ → List Int → σ) (f : List Int → List Int → List (List Int)) (B L H : List Int) (a : Int) (s : σ) : (goW f B L (a :: H)).foldl step s = (goW f B (L ++ [a]) H).foldl step ((f (B ++ [a]) (L ++ H)).foldl step s) := by
  rw [goW, List.foldl_append]

theorem l2Try_ev (l : List S59) (hg : goodB l = true) (ob : Int) : ∀ (d : Nat) (B : List Int) (s : Int × Int × List Int), (outW B (idsW l.length)).length = d → (B ++ outW B (idsW l.length)).Perm (idsW l.length) →
    Ev (fun k => spec_l2Try.f k l B ob s.2.2 s.2.1 s.1) (((ordersW d B (outW B (idsW l.length))).foldl (stepW l ob) s).2.2, ((ordersW d B (outW B (idsW l.length))).foldl (stepW l ob) s).2.1, ((ordersW d B (outW B (idsW l.length))).foldl (stepW l ob) s).1) := by
  have hl := good_len hg
  intro d
  induction d with
  | zero =>
    intro B s hd hp
    have hnil := List.eq_nil_of_length_eq_zero hd
    rw [hnil, List.append_nil] at hp
    have ho : ordP l.length B := hp
    refine ev_succ ?_
    simp only [spec_l2Try.f, if_pos (show (B.length : Int) = (l.length : Int) by rw [ordP_len ho])]
    refine ev_bind (valS hg ob ho) ?_
    simp only [ordersW, List.foldl_cons, List.foldl_nil]
    have hown := own_eq B (by rw [ordP_len ho]; omega)
    by_cases h0 : s.1 = 0
    · simp only [if_pos h0]
      refine ev_succ ?_
      simp only [spec_l2Try.j0, if_true, hown, Option.bind_some, stepW, if_pos (Or.inl h0 : s.1 = 0 ∨ valP l ob B < s.2.1)]
      exact ev_now _
    · simp only [if_neg h0]
      refine ev_succ ?_
      by_cases h1 : valP l ob B < s.2.1
      · simp only [spec_l2Try.j0, decide_eq_true h1, if_true, hown, Option.bind_some, stepW, if_pos (Or.inr h1 : s.1 = 0 ∨ valP l ob B < s.2.1)]
        exact ev_now _
      · simp only [spec_l2Try.j0, decide_eq_false h1, Bool.false_eq_true, if_false, stepW, if_neg (fun h_ => h_.elim h0 h1 : ¬ (s.1 = 0 ∨ valP l ob B < s.2.1))]
        by_cases h2 : valP l ob B = s.2.1
        · simp only [if_pos h2]; exact ev_now _
        · simp only [if_neg h2]; exact ev_now _
  | succ d ih =>
    intro B s hd hp
    have hBl : B.length + (d + 1) = l.length := by have := hp.length_eq; rw [List.length_append, hd, idsW_len] at this; exact this
    have loop : ∀ (c j : Nat) (s : Int × Int × List Int), j + c = l.length → Ev (fun k => spec_l2Try.l0 k l B ob (j : Int) s.2.2 s.2.1 s.1)
        (((goW (ordersW d) B (outW B (idsW j)) (outW B ((idsW l.length).drop j))).foldl (stepW l ob) s).2.2, ((goW (ordersW d) B (outW B (idsW j)) (outW B ((idsW l.length).drop j))).foldl (stepW l ob) s).2.1, ((goW (ordersW d) B (outW B (idsW j)) (outW B ((idsW l.length).drop j))).foldl (stepW l ob) s).1) := by
      intro c
      induction c with
      | zero =>
        intro j s hj
        refine ev_succ ?_
        simp only [spec_l2Try.l0, if_neg (show ¬ ((j : Int) < (l.length : Int)) by omega)]
        rw [List.drop_eq_nil_of_le (by rw [idsW_len]; omega)]
        simp only [outW, List.filter_nil, goW, List.foldl_nil]
        exact ev_now _
      | succ c ihc =>
        intro j s hj
        refine ev_succ ?_
        simp only [spec_l2Try.l0, if_pos (show (j : Int) < (l.length : Int) by omega), wsucc j (by omega)]
        refine ev_bind (l1Has_ev B (j : Int) (by omega)) ?_
        rw [ids_drop l.length j (by omega)]
        by_cases hm : (j : Int) ∈ B
        · simp only [decide_eq_true hm, if_true]
          have h2 := ihc (j + 1) s (by omega)
          rw [idsW_succ, outW_app, outW_in B [] (j : Int) hm] at h2
          rw [outW_in _ _ _ hm]
          simpa [outW] using h2
        · simp only [decide_eq_false hm, Bool.false_eq_true, if_false, own_eq B (by omega), Option.bind_some, List.length_singleton, if_pos (show B.length + 1 < 17592186044416 by omega)]
          rw [outW_out _ _ _ hm, goW_fold]
          have hw := rest_whole l.length j (by omega) B hm
          have hr := rest_split l.length j (by omega) B
          have e1 : (outW (B ++ [(j : Int)]) (idsW l.length)).length = d := by
            rw [hw, List.length_append, List.length_cons] at hd
            rw [hr, List.length_append]
            omega
          have e2 : ((B ++ [(j : Int)]) ++ outW (B ++ [(j : Int)]) (idsW l.length)).Perm (idsW l.length) := by
            refine List.Perm.trans ?_ hp
            rw [hr, hw, List.append_assoc]
            exact List.Perm.append_left B (show ((j : Int) :: (outW B (idsW j) ++ outW B ((idsW l.length).drop (j + 1)))).Perm (outW B (idsW j) ++ (j : Int) :: outW B ((idsW l.length).drop (j + 1))) from List.perm_middle.symm)
          have h1 := ih (B ++ [(j : Int)]) s e1 e2
          rw [hr] at h1
          refine ev_bind h1 ?_
          have h2 := ihc (j + 1) ((ordersW d (B ++ [(j : Int)]) (outW B (idsW j) ++ outW B ((idsW l.length).drop (j + 1)))).foldl (stepW l ob) s) (by omega)
          rw [idsW_succ, outW_app, outW_out B [] (j : Int) hm] at h2
          simpa [outW] using h2
    refine ev_succ ?_
    simp only [spec_l2Try.f, if_neg (show ¬ ((B.length : Int) = (l.length : Int)) by omega)]
    have := loop l.length 0 s (by omega)
    simpa [idsW, outW, ordersW] using this
theorem l2All_ev (l : List S59) (hg : goodB l = true) (ob : Int) : Ev (fun k => spec_l2All.f k l ob) ((bestW l ob).2.2, (bestW l ob).2.1, (bestW l ob).1) := by
  unfold spec_l2All.f
  have := l2Try_ev l hg ob l.length [] (0, 0, []) (by rw [outW_nil, idsW_len]) (by rw [outW_nil]; exact List.Perm.refl _)
  rw [outW_nil] at this
  exact ev_bind this (ev_now _)

theorem core (l : List S59) (ob : Int) (hm : l.length ≤ 1048576) (_ : ∀ (i : Nat) (hi : i < l.length), I64 l[i].f0 ∧ I64 l[i].f1 ∧ I64 l[i].f2 ∧ I64 l[i].f3) (_ : I64 ob) :
    ∃ (r : Int) (ok : Bool), True ∧ Ev (fun k => spec_CountBest.f k l ob) (r, ok) ∧ Ev (fun k => impl_CountBest.f k l ob) (r, ok) := by
  have h1 := l2Good_ev l (by omega)
  have h2 := IsJobs_ev l (by omega)
  unfold spec_CountBest.f impl_CountBest.f
  cases hg : goodB l
  · rw [hg] at h1 h2
    exact ⟨0, false, trivial, ev_bind h1 (by simp only [Bool.false_eq_true, if_false]; exact ev_now _), ev_bind h2 (by simp only [Bool.false_eq_true, if_false]; exact ev_now _)⟩
  rw [hg] at h1 h2
  cases hob : objB ob
  · exact ⟨0, false, trivial, ev_bind h1 (by simp only [if_true, l2Obj_eq, hob, Option.bind_some, Bool.false_eq_true, if_false]; exact ev_now _), ev_bind h2 (by simp only [if_true, isObj_eq, hob, Option.bind_some, Bool.false_eq_true, if_false]; exact ev_now _)⟩
  refine ⟨(bestW l ob).1, true, trivial, ev_bind h1 ?_, ev_bind h2 ?_⟩
  · simp only [if_true, l2Obj_eq, hob, Option.bind_some]
    exact ev_bind (l2All_ev l hg ob) (ev_now _)
  · simp only [if_true, isObj_eq, hob, Option.bind_some]
    exact ev_bind (best_ev l hg ob hob) (ev_now _)

theorem FnExactCountBest : FnExactCountBest.Claim := by
  intro l0 a1 hl0 hg0 hi1
  refine Ev.rounds ?_
  unfold laws_FnExactCountBest.f
  simp only [szJobS_eq l0 (1048576 : Int) (by omega) (by omega) hl0, Option.bind_some]
  by_cases h0 : (1048576 : Int) < l0.length
  · simp only [if_pos h0, if_pos (show (-1 : Int) < 0 by omega)]
    exact ev_now _
  simp only [if_neg h0, if_neg (show ¬ (((1048576 : Int) - l0.length) < 0) by omega)]
  have ht0 := toJobS_ev l0 (by omega)
  have hm0 : (l0.map conv).length ≤ 1048576 := by simp; omega
  have hq0 := eqJobS_ev (l0.map conv) (by omega)
  obtain ⟨r0, r1, _, hs, hi⟩ := core (l0.map conv) a1 hm0 (conv_I64 l0 hg0) hi1
  repeat first
    | exact ev_now _
    | with_reducible refine ev_bind hs ?_
    | with_reducible refine ev_bind hi ?_
    | with_reducible refine ev_bind ht0 ?_
    | with_reducible refine ev_bind hq0 ?_
    | simp only [if_true, if_false, bne_self_eq_false, Bool.false_eq_true]
    | (refine ev_succ ?_; simp only [laws_FnExactCountBest.j0])

end Go.Proofs.Ythhmembnhnghiaa.Pure
