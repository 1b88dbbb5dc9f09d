/- The program's function and the reference's come to the same answer: the statement of numbers and lists behind the law FnExactLeastLateWeight. Conditions: none. -/
import Derived.Test.YthhmembnhnghiaaArgFnExactLeastLateWeight
import Derived.Test.YthhmembnhnghiaaBase
namespace Go.Proofs.Ythhmembnhnghiaa.Pure
open Go.RowKit Go.Proofs.Ythhmembnhnghiaa.OFnExactLeastLateWeight Go.Proofs.Ythhmembnhnghiaa.Base Go.Proofs.YthhmembnhnghiaaW.PrintWords Go.Proofs.YthhmembnhnghiaaW.PrintLast Go.Proofs.YthhmembnhnghiaaW.PrintMore Go.Proofs.Ythhmembnhnghiaa.Open
set_option linter.unusedVariables false
set_option linter.unusedSimpArgs false

theorem szJobS_eq (xs : List S63) (left : Int) (h0 : 0 ≤ left) (h1 : left ≤ 1048576) (h : xs.length ≤ 9223372036854775807) : laws_szJobS.f xs left = some (if left < xs.length then -1 else left - xs.length) := by
  unfold laws_szJobS.f
  rw [w64 (by omega) (by omega)]
  by_cases c : left < xs.length
  · rw [if_pos (by omega), if_pos c]
  · rw [if_neg (by omega), if_neg c]

def conv (x : S63) : S59 := ⟨x.f0, x.f1, x.f2, x.f3⟩
theorem rdL (xs : List S63) (i : Nat) (h : i < xs.length) : rd_T63 xs (i : Int) = xs[i] := by
  unfold rd_T63
  rw [Int.toNat_natCast, List.getD_eq_getElem?_getD, List.getElem?_eq_getElem h]
  rfl

theorem toJobS_l (xs : List S63) (hn : xs.length ≤ 8796093022208) : ∀ (d i : Nat) (ys : List S59), i + d = xs.length → ys.length = xs.length → ys.take i = (xs.map conv).take i → Ev (fun k => laws_toJobS.l0 k xs ys (i : Int)) (xs.map conv) := by
  intro d
  induction d with
  | zero =>
    intro i ys hi hl ht
    refine ev_succ ?_
    simp only [laws_toJobS.l0, if_neg (show ¬ (i : Int) < (xs.length : Int) by omega)]
    have : ys = xs.map conv := by
      rw [List.take_of_length_le (by omega), List.take_of_length_le (by simp; omega)] at ht
      exact ht
    rw [this]
    exact ev_now _
  | succ d ih =>
    intro i ys hi hl ht
    refine ev_succ ?_
    have hx : i < xs.length := by omega
    simp only [laws_toJobS.l0, laws_toJob.f, Option.bind_some, if_pos (show (i : Int) < (xs.length : Int) by omega), if_pos (show (i : Int) < (ys.length : Int) by omega), if_pos (show (0 : Int) ≤ (i : Int) by omega), rdL xs i hx, wsucc i (by omega), Int.toNat_natCast]
    refine ih (i + 1) _ (by omega) (by rw [List.length_set]; exact hl) ?_
    rw [take_set_succ ys i _ (by omega), ht, List.take_succ_eq_append_getElem (by simp; omega)]
    simp [conv]
theorem toJobS_ev (xs : List S63) (hn : xs.length ≤ 1048576) : Ev (fun k => laws_toJobS.f k xs) (xs.map conv) := by
  unfold laws_toJobS.f
  simp only [if_pos (show (0 : Int) ≤ (xs.length : Int) by omega), Int.toNat_natCast, if_pos (show xs.length ≤ 8796093022208 by omega)]
  exact toJobS_l xs (by omega) xs.length 0 _ (by omega) (by simp) (by simp)

theorem rdI (xs : List S59) (i : Nat) (h : i < xs.length) : rd_T59 xs (i : Int) = xs[i] := by
  unfold rd_T59
  rw [Int.toNat_natCast, List.getD_eq_getElem?_getD, List.getElem?_eq_getElem h]
  rfl

theorem eqJobS_l (xs : List S59) (hn : xs.length ≤ 4611686018427387904) : ∀ (d i : Nat), i + d = xs.length → Ev (fun k => laws_eqJobS.l0 k xs xs (i : Int)) true := by
  intro d
  induction d with
  | zero =>
    intro i hi
    refine ev_succ ?_
    simp only [laws_eqJobS.l0, if_neg (show ¬ (i : Int) < (xs.length : Int) by omega)]
    exact ev_now _
  | succ d ih =>
    intro i hi
    refine ev_succ ?_
    simp only [laws_eqJobS.l0, laws_eqJob.f, if_true, Option.bind_some, if_pos (show (i : Int) < (xs.length : Int) by omega), if_pos (show (0 : Int) ≤ (i : Int) by omega), wsucc i (by omega)]
    exact ih (i + 1) (by omega)
theorem eqJobS_ev (xs : List S59) (hn : xs.length ≤ 4611686018427387904) : Ev (fun k => laws_eqJobS.f k xs xs) true := by
  unfold laws_eqJobS.f
  simp only [if_true]
  exact eqJobS_l xs hn xs.length 0 (by omega)

theorem conv_I64 (l : List S63) (hg : ∀ x ∈ l, G63 x) (i : Nat) (hi : i < (l.map conv).length) : I64 (l.map conv)[i].f0 ∧ I64 (l.map conv)[i].f1 ∧ I64 (l.map conv)[i].f2 ∧ I64 (l.map conv)[i].f3 := by
  simp only [List.getElem_map, conv]
  exact hg _ (List.getElem_mem _)

theorem within_eq (a b c : Int) : impl_within.f a b c = some (decide (b ≤ a) && decide (a ≤ c)) := by
  unfold impl_within.f
  by_cases h : b ≤ a
  · rw [if_pos h]; simp [h]
  · rw [if_neg h]; simp [h]

/-- A job's numbers are in their bounds. -/
def okJ (x : S59) : Bool := decide (1 ≤ x.f0) && (decide (x.f0 ≤ 50) && (decide (0 ≤ x.f1) && (decide (x.f1 ≤ 50) && (decide (0 ≤ x.f2) && (decide (x.f2 ≤ 500) && (decide (0 ≤ x.f3) && decide (x.f3 ≤ 500)))))))
def goodB (l : List S59) : Bool := decide (l.length ≤ 8) && l.all okJ
theorem isDate_eq (a : Int) : impl_isDate.f a = some (decide (0 ≤ a) && decide (a ≤ 500)) := by
  unfold impl_isDate.f
  rw [within_eq]
  rfl
theorem job_chain (x : S59) (o : Option Bool) : (if (decide (1 ≤ x.f0) && decide (x.f0 ≤ 50)) = true then (if (decide (0 ≤ x.f1) && decide (x.f1 ≤ 50)) = true then (if (decide (0 ≤ x.f2) && decide (x.f2 ≤ 500)) = true then (if (decide (0 ≤ x.f3) && decide (x.f3 ≤ 500)) = true then o else some false) else some false) else some false) else some false) = if okJ x = true then o else some false := by
  unfold okJ
  by_cases a1 : 1 ≤ x.f0 <;> by_cases a2 : x.f0 ≤ 50 <;> simp [a1, a2]
  by_cases b1 : 0 ≤ x.f1 <;> by_cases b2 : x.f1 ≤ 50 <;> simp [b1, b2]
  by_cases c1 : 0 ≤ x.f2 <;> by_cases c2 : x.f2 ≤ 500 <;> simp [c1, c2]
theorem IsJobs_l (xs : List S59) (hn : xs.length ≤ 4611686018427387904) : ∀ (d i : Nat), i + d = xs.length → Ev (fun k => impl_IsJobs.l0 k xs (xs.length : Int) (i : Int)) ((xs.drop i).all okJ) := by
  intro d
  induction d with
  | zero =>
    intro i hi
    refine ev_succ ?_
    simp only [impl_IsJobs.l0, if_neg (show ¬ (i : Int) < (xs.length : Int) by omega), List.drop_of_length_le (show xs.length ≤ i by omega)]
    exact ev_now _
  | succ d ih =>
    intro i hi
    refine ev_succ ?_
    have hx : i < xs.length := by omega
    have hih := ih (i + 1) (by omega)
    rw [List.drop_eq_getElem_cons hx, List.all_cons]
    simp only [impl_IsJobs.l0, within_eq, isDate_eq, Option.bind_some, if_pos (show (i : Int) < (xs.length : Int) by omega), if_pos (show (0 : Int) ≤ (i : Int) by omega), wsucc i (by omega), rdI xs i hx]
    generalize xs[i] = x at *
    simp only [job_chain]
    by_cases c : okJ x = true
    · simpa only [c, if_true, Bool.true_and] using hih
    · have c' : okJ x = false := by simpa using c
      simp only [c', Bool.false_and]
      exact ev_now _
theorem IsJobs_ev (xs : List S59) (hn : xs.length ≤ 4611686018427387904) : Ev (fun k => impl_IsJobs.f k xs) (goodB xs) := by
  unfold impl_IsJobs.f goodB
  by_cases h : xs.length ≤ 8
  · simp only [if_neg (show ¬ ((xs.length : Int) > 8) by omega), decide_eq_true h, Bool.true_and]
    exact IsJobs_l xs hn xs.length 0 (by omega)
  · simp only [if_pos (show ((xs.length : Int) > 8) by omega), decide_eq_false h, Bool.false_and]
    exact ev_now _

def freeJ (x : S59) : Bool := decide (x.f2 = 0)
def plainB (l : List S59) : Bool := goodB l && l.all freeJ
theorem isPlain_l (xs : List S59) (hn : xs.length ≤ 4611686018427387904) : ∀ (d i : Nat), i + d = xs.length → Ev (fun k => impl_isPlain.l0 k xs (xs.length : Int) (i : Int)) ((xs.drop i).all freeJ) := by
  intro d
  induction d with
  | zero =>
    intro i hi
    refine ev_succ ?_
    simp only [impl_isPlain.l0, if_neg (show ¬ (i : Int) < (xs.length : Int) by omega), List.drop_of_length_le (show xs.length ≤ i by omega)]
    exact ev_now _
  | succ d ih =>
    intro i hi
    refine ev_succ ?_
    have hx : i < xs.length := by omega
    have hih := ih (i + 1) (by omega)
    rw [List.drop_eq_getElem_cons hx, List.all_cons]
    simp only [impl_isPlain.l0, if_pos (show (i : Int) < (xs.length : Int) by omega), if_pos (show (0 : Int) ≤ (i : Int) by omega), wsucc i (by omega), rdI xs i hx]
    by_cases c : (xs[i]).f2 = 0
    · simp only [if_pos c, freeJ, decide_eq_true c, Bool.true_and]
      exact hih
    · simp only [if_neg c, freeJ, decide_eq_false c, Bool.false_and]
      exact ev_now _
theorem isPlain_ev (xs : List S59) (hn : xs.length ≤ 4611686018427387904) : Ev (fun k => impl_isPlain.f k xs) (xs.all freeJ) := by
  unfold impl_isPlain.f
  exact isPlain_l xs hn xs.length 0 (by omega)

theorem IsPlain_ev (xs : List S59) (hn : xs.length ≤ 4611686018427387904) : Ev (fun k => impl_IsPlain.f k xs) (plainB xs) := by
  unfold impl_IsPlain.f plainB
  refine ev_bind (IsJobs_ev xs hn) ?_
  cases goodB xs
  · simp only [Bool.false_eq_true, if_false, Bool.false_and]; exact ev_now _
  · simp only [if_true, Bool.true_and]; exact ev_bind (isPlain_ev xs hn) (ev_now _)

theorem l1In_eq (a b c : Int) : spec_l1In.f a b c = some (decide (b ≤ a) && decide (a ≤ c)) := by
  unfold spec_l1In.f
  by_cases h : b ≤ a
  · rw [if_pos h]; simp [h]
  · rw [if_neg h]; simp [h]

theorem l2Job_eq (x : S59) : spec_l2Job.f x.f0 x.f1 x.f2 x.f3 = some (okJ x) := by
  unfold spec_l2Job.f okJ
  simp only [l1In_eq, Option.bind_some]
  by_cases a1 : 1 ≤ x.f0 <;> by_cases a2 : x.f0 ≤ 50 <;> simp [a1, a2]
  by_cases b1 : 0 ≤ x.f1 <;> by_cases b2 : x.f1 ≤ 50 <;> simp [b1, b2]
  by_cases c1 : 0 ≤ x.f2 <;> by_cases c2 : x.f2 ≤ 500 <;> simp [c1, c2]
theorem l2Good_l (xs : List S59) (hn : xs.length ≤ 4611686018427387904) : ∀ (d i : Nat), i + d = xs.length → Ev (fun k => spec_l2Good.l0 k xs (i : Int)) ((xs.drop i).all okJ && decide (xs.length ≤ 8)) := by
  intro d
  induction d with
  | zero =>
    intro i hi
    refine ev_succ ?_
    simp only [spec_l2Good.l0, if_neg (show ¬ (i : Int) < (xs.length : Int) by omega), List.drop_of_length_le (show xs.length ≤ i by omega)]
    refine ev_const ?_
    simp
    omega
  | succ d ih =>
    intro i hi
    refine ev_succ ?_
    have hx : i < xs.length := by omega
    have hih := ih (i + 1) (by omega)
    rw [List.drop_eq_getElem_cons hx, List.all_cons]
    simp only [spec_l2Good.l0, if_pos (show (i : Int) < (xs.length : Int) by omega), if_pos (show (0 : Int) ≤ (i : Int) by omega), wsucc i (by omega), rdI xs i hx, l2Job_eq, Option.bind_some]
    by_cases c : okJ xs[i] = true
    · simpa only [c, if_true, Bool.true_and] using hih
    · have c' : okJ xs[i] = false := by simpa using c
      simp only [c', Bool.false_and]
      exact ev_now _
theorem l2Good_ev (xs : List S59) (hn : xs.length ≤ 4611686018427387904) : Ev (fun k => spec_l2Good.f k xs) (goodB xs) := by
  unfold spec_l2Good.f goodB
  rw [Bool.and_comm]
  exact l2Good_l xs hn xs.length 0 (by omega)

def freeJ' (x : S59) : Bool := decide (¬ x.f2 > 0)
theorem l4Free_l (xs : List S59) (hn : xs.length ≤ 4611686018427387904) : ∀ (d i : Nat), i + d = xs.length → Ev (fun k => spec_l4Free.l0 k xs (i : Int)) ((xs.drop i).all freeJ') := by
  intro d
  induction d with
  | zero =>
    intro i hi
    refine ev_succ ?_
    simp only [spec_l4Free.l0, if_neg (show ¬ (i : Int) < (xs.length : Int) by omega), List.drop_of_length_le (show xs.length ≤ i by omega)]
    exact ev_now _
  | succ d ih =>
    intro i hi
    refine ev_succ ?_
    have hx : i < xs.length := by omega
    have hih := ih (i + 1) (by omega)
    rw [List.drop_eq_getElem_cons hx, List.all_cons]
    simp only [spec_l4Free.l0, if_pos (show (i : Int) < (xs.length : Int) by omega), if_pos (show (0 : Int) ≤ (i : Int) by omega), wsucc i (by omega), rdI xs i hx]
    by_cases c : (xs[i]).f2 > 0
    · simp only [if_pos c, freeJ', decide_eq_false (show ¬ ¬ (xs[i]).f2 > 0 by omega), Bool.false_and]
      exact ev_now _
    · simp only [if_neg c, freeJ', decide_eq_true c, Bool.true_and]
      exact hih
theorem l4Free_ev (xs : List S59) (hn : xs.length ≤ 4611686018427387904) : Ev (fun k => spec_l4Free.f k xs) (xs.all freeJ') := by
  unfold spec_l4Free.f
  exact l4Free_l xs hn xs.length 0 (by omega)
theorem good_free (xs : List S59) (h : goodB xs = true) : xs.all freeJ' = xs.all freeJ := by
  unfold goodB at h
  simp only [Bool.and_eq_true, List.all_eq_true] at h
  rw [Bool.eq_iff_iff]
  simp only [List.all_eq_true]
  constructor
  · intro hh x hx
    have a := hh x hx
    have b := h.2 x hx
    simp only [okJ, Bool.and_eq_true, decide_eq_true_eq] at b
    simp only [freeJ', decide_eq_true_eq] at a
    simp only [freeJ, decide_eq_true_eq]
    omega
  · intro hh x hx
    have a := hh x hx
    simp only [freeJ, decide_eq_true_eq] at a
    simp only [freeJ', decide_eq_true_eq]
    omega

theorem l6Good_ev (xs : List S59) (hn : xs.length ≤ 4611686018427387904) : Ev (fun k => spec_l6Good.f k xs) (plainB xs) := by
  unfold spec_l6Good.f plainB
  refine ev_bind (l2Good_ev xs hn) ?_
  cases hg : goodB xs
  · simp only [Bool.false_eq_true, if_false, Bool.false_and]; exact ev_now _
  · simp only [if_true, Bool.true_and]
    rw [← good_free xs hg]
    exact ev_bind (l4Free_ev xs hn) (ev_now _)

theorem plain_good {xs : List S59} (h : plainB xs = true) : goodB xs = true := by
  unfold plainB at h
  simp only [Bool.and_eq_true] at h
  exact h.1

/-- Where a number goes among sorted ones: ahead of the first that it comes ahead of. -/
def posW (lt : Int → Int → Bool) (i : Int) (o : List Int) : Nat := o.findIdx (fun b => lt i b)
def insW (lt : Int → Int → Bool) (i : Int) (o : List Int) : List Int := o.take (posW lt i o) ++ i :: o.drop (posW lt i o)
def sortW (lt : Int → Int → Bool) : List Int → List Int → List Int
  | [], o => o
  | i :: t, o => sortW lt t (insW lt i o)
structure OrdW (lt : Int → Int → Bool) (D : Int → Prop) : Prop where
  asym : ∀ a b, D a → D b → lt a b = true → lt b a = false
  co : ∀ i a b, D i → D a → D b → lt i a = true → lt b a = false → lt i b = true
abbrev SortedW (lt : Int → Int → Bool) (o : List Int) : Prop := o.Pairwise (fun a b => lt b a = false)
theorem posW_le (lt : Int → Int → Bool) (i : Int) (o : List Int) : posW lt i o ≤ o.length := List.findIdx_le_length
theorem posW_before {lt : Int → Int → Bool} {i : Int} {o : List Int} {j : Nat} (h : j < posW lt i o) : lt i (o[j]'(Nat.lt_of_lt_of_le h (posW_le _ _ _))) = false := by
  have := List.not_of_lt_findIdx (p := fun b => lt i b) h
  simpa using this
theorem posW_at {lt : Int → Int → Bool} {i : Int} {o : List Int} (h : posW lt i o < o.length) : lt i (o[posW lt i o]'h) = true := List.findIdx_getElem (w := h)
theorem posW_behind {lt : Int → Int → Bool} {D : Int → Prop} (H : OrdW lt D) {i : Int} {o : List Int} (hi : D i) (ho : ∀ b ∈ o, D b) (hs : SortedW lt o) {j : Nat} (hj : posW lt i o ≤ j) (hl : j < o.length) : lt i (o[j]'hl) = true := by
  have hp : posW lt i o < o.length := by omega
  have h0 := posW_at hp
  rcases Nat.lt_or_ge (posW lt i o) j with h | h
  · have h1 := List.pairwise_iff_getElem.1 hs _ _ hp hl h
    exact H.co i _ _ hi (ho _ (List.getElem_mem hp)) (ho _ (List.getElem_mem hl)) h0 h1
  · have : j = posW lt i o := by omega
    subst this
    exact h0
theorem insW_perm (lt : Int → Int → Bool) (i : Int) (o : List Int) : (insW lt i o).Perm (i :: o) := by
  unfold insW
  refine List.perm_middle.trans ?_
  rw [List.take_append_drop]
theorem insW_sorted {lt : Int → Int → Bool} {D : Int → Prop} (H : OrdW lt D) {i : Int} {o : List Int} (hi : D i) (ho : ∀ b ∈ o, D b) (hs : SortedW lt o) : SortedW lt (insW lt i o) := by
  unfold insW SortedW
  rw [List.pairwise_append]
  refine ⟨hs.sublist (List.take_sublist _ _), List.pairwise_cons.2 ⟨?_, hs.sublist (List.drop_sublist _ _)⟩, ?_⟩
  · intro b hb
    obtain ⟨j, hj, rfl⟩ := List.mem_iff_getElem.1 hb
    rw [List.getElem_drop]
    have hl : posW lt i o + j < o.length := by rw [List.length_drop] at hj; omega
    exact H.asym _ _ hi (ho _ (List.getElem_mem hl)) (posW_behind H hi ho hs (by omega) hl)
  · intro a ha b hb
    obtain ⟨j, hj, rfl⟩ := List.mem_iff_getElem.1 ha
    have hjp : j < posW lt i o := by rw [List.length_take] at hj; omega
    rw [List.getElem_take]
    rcases List.mem_cons.1 hb with rfl | hb
    · exact posW_before hjp
    · obtain ⟨q, hq, rfl⟩ := List.mem_iff_getElem.1 hb
      have hl : posW lt i o + q < o.length := by rw [List.length_drop] at hq; omega
      rw [List.getElem_drop]
      exact List.pairwise_iff_getElem.1 hs _ _ _ hl (by omega)
theorem sortW_perm (lt : Int → Int → Bool) : ∀ (l o : List Int), (sortW lt l o).Perm (l ++ o)
  | [], o => by unfold sortW; exact List.Perm.refl _
  | i :: t, o => by
    unfold sortW
    refine (sortW_perm lt t _).trans ?_
    refine ((List.Perm.append_left t (insW_perm lt i o))).trans ?_
    exact List.perm_middle
theorem sortW_sorted {lt : Int → Int → Bool} {D : Int → Prop} (H : OrdW lt D) : ∀ (l o : List Int), (∀ b ∈ l, D b) → (∀ b ∈ o, D b) → SortedW lt o → SortedW lt (sortW lt l o)
  | [], o, _, _, hs => by unfold sortW; exact hs
  | i :: t, o, hl, ho, hs => by
    unfold sortW
    refine sortW_sorted H t _ (fun b hb => hl b (by simp [hb])) ?_ (insW_sorted H (hl i (by simp)) ho hs)
    intro b hb
    rcases List.mem_cons.1 ((insW_perm lt i o).mem_iff.1 hb) with rfl | h
    · exact hl _ (by simp)
    · exact ho b h
theorem rdW (o : List Int) (n : Nat) (h : n < o.length) : rd o (n : Int) = o[n] := by
  simp [rd]
  rw [List.getElem?_eq_getElem h]; rfl
theorem sbK_pos {p : Int → Option Bool} {f : Int → Bool} {o : List Int} {t : Nat} (hp : ∀ b ∈ o, p b = some (f b)) (ht : t ≤ o.length) (h1 : ∀ j (hj : j < o.length), t ≤ j → f o[j] = true) (h2 : ∀ j (hj : j < o.length), j < t → f o[j] = false) :
    ∀ n, n ≤ o.length → t ≤ n → sbK p o n = some t
  | 0, _, h => by
    have : t = 0 := by omega
    subst this
    rfl
  | n + 1, hn, h => by
    unfold sbK
    rw [rdW o n (by omega), hp _ (List.getElem_mem (by omega)), Option.bind_some]
    rcases Nat.lt_or_ge n t with hlt | hge
    · rw [h2 n (by omega) hlt, if_neg (by simp)]
      congr 1; omega
    · rw [h1 n (by omega) hge, if_pos rfl]
      exact sbK_pos hp ht h1 h2 n (by omega) hge
theorem sbL_eq {p : Int → Int → Option Bool} {lt : Int → Int → Bool} {D : Int → Prop} (H : OrdW lt D) (hp : ∀ a b, D a → D b → p a b = some (lt a b)) : ∀ (l o : List Int), (∀ b ∈ l, D b) → (∀ b ∈ o, D b) → SortedW lt o → sbL p l o = some (sortW lt l o)
  | [], o, _, _, _ => rfl
  | i :: t, o, hl, ho, hs => by
    have hi : D i := hl i (by simp)
    unfold sbL sortW
    rw [sbK_pos (f := fun b => lt i b) (t := posW lt i o) (fun b hb => hp i b hi (ho b hb)) (posW_le _ _ _) (fun j hj h => posW_behind H hi ho hs h hj) (fun j hj h => posW_before h) _ (Nat.le_refl _) (posW_le _ _ _), Option.bind_some]
    refine sbL_eq H hp t _ (fun b hb => hl b (by simp [hb])) ?_ (insW_sorted H hi ho hs)
    intro b hb
    rcases List.mem_cons.1 ((insW_perm lt i o).mem_iff.1 hb) with rfl | h
    · exact hi
    · exact ho b h
/-- Two sorted forms of the same numbers, where no two tie. -/
theorem sortedW_unique {lt : Int → Int → Bool} {a b : List Int} (hd : ∀ x ∈ a, ∀ y ∈ b, lt x y = false → lt y x = false → x = y) (ha : SortedW lt a) (hb : SortedW lt b) (hp : a.Perm b) : a = b :=
  List.Perm.eq_of_pairwise (fun x y hx hy h1 h2 => hd x hx y hy h2 h1) ha hb hp
theorem sortW_append (lt : Int → Int → Bool) : ∀ (a b o : List Int), sortW lt (a ++ b) o = sortW lt b (sortW lt a o)
  | [], b, o => rfl
  | i :: t, b, o => by simp only [List.cons_append, sortW]; exact sortW_append lt t b _

/-- Is nobody late, one behind the other? -/
def okL (tm du : Int → Int) : Int → List Int → Bool
  | _, [] => true
  | t, i :: L => if t + tm i > du i then false else okL tm du (t + tm i) L
def sumW (tm : Int → Int) : List Int → Int
  | [] => 0
  | i :: L => tm i + sumW tm L
theorem sumW_perm (tm : Int → Int) {A B : List Int} (h : A.Perm B) : sumW tm A = sumW tm B := by
  induction h with
  | nil => rfl
  | cons x _ ih => simp only [sumW, ih]
  | swap x y l => simp only [sumW]; omega
  | trans _ _ h1 h2 => rw [h1, h2]
theorem sumW_nonneg (tm : Int → Int) : ∀ A : List Int, (∀ a ∈ A, 0 ≤ tm a) → 0 ≤ sumW tm A
  | [], _ => by simp [sumW]
  | a :: A, h => by
    have h1 := h a (by simp)
    have h2 := sumW_nonneg tm A (fun b hb => h b (by simp [hb]))
    simp only [sumW]; omega
theorem sumW_congr (tm tm' : Int → Int) : ∀ A : List Int, (∀ a ∈ A, tm a = tm' a) → sumW tm A = sumW tm' A
  | [], _ => rfl
  | a :: A, h => by simp only [sumW, h a (by simp), sumW_congr tm tm' A (fun b hb => h b (by simp [hb]))]
theorem okL_iff (tm du : Int → Int) : ∀ (L : List Int) (t : Int), (∀ a ∈ L, 0 ≤ tm a) → L.Pairwise (fun a b => du a ≤ du b) →
    (okL tm du t L = true ↔ ∀ j ∈ L, t + sumW tm (L.filter (fun b => decide (du b ≤ du j))) ≤ du j)
  | [], t, _, _ => by simp [okL]
  | i :: L, t, h0, hs => by
    rw [List.pairwise_cons] at hs
    have hL : ∀ a ∈ L, 0 ≤ tm a := fun a ha => h0 a (by simp [ha])
    have ih := okL_iff tm du L (t + tm i) hL hs.2
    have hf : ∀ j ∈ i :: L, sumW tm ((i :: L).filter (fun b => decide (du b ≤ du j))) = tm i + sumW tm (L.filter (fun b => decide (du b ≤ du j))) := by
      intro j hj
      have hij : du i ≤ du j := by
        rcases List.mem_cons.1 hj with rfl | hj
        · exact Int.le_refl _
        · exact hs.1 j hj
      rw [List.filter_cons_of_pos (by simpa using hij)]
      rfl
    have hnn : ∀ j, 0 ≤ sumW tm (L.filter (fun b => decide (du b ≤ du j))) := fun j => sumW_nonneg tm _ (fun a ha => hL a (List.mem_filter.1 ha).1)
    unfold okL
    constructor
    · intro h
      by_cases hc : t + tm i > du i
      · rw [if_pos hc] at h; simp at h
      · rw [if_neg hc] at h
        have h := ih.1 h
        intro j hj
        rw [hf j hj]
        rcases List.mem_cons.1 hj with rfl | hj'
        · by_cases he : L.filter (fun b => decide (du b ≤ du j)) = []
          · rw [he]; simp only [sumW]; omega
          · obtain ⟨b, hb⟩ := List.exists_mem_of_ne_nil _ he
            have hb := List.mem_filter.1 hb
            have h1 := of_decide_eq_true hb.2
            have h2 := hs.1 b hb.1
            have h3 := h b hb.1
            have h4 : du b = du j := by omega
            rw [h4] at h3
            omega
        · have := h j hj'
          omega
    · intro h
      have h1 := h i (by simp)
      rw [hf i (by simp)] at h1
      have := hnn i
      rw [if_neg (by omega)]
      refine ih.2 (fun j hj => ?_)
      have h2 := h j (by simp [hj])
      rw [hf j (by simp [hj])] at h2
      omega
theorem okL_perm {tm du tm' du' : Int → Int} {A B : List Int} (t : Int) (hp : A.Perm B) (hc : ∀ a ∈ A, tm a = tm' a ∧ du a = du' a) (h0 : ∀ a ∈ A, 0 ≤ tm a)
    (hA : A.Pairwise (fun a b => du a ≤ du b)) (hB : B.Pairwise (fun a b => du' a ≤ du' b)) : okL tm du t A = okL tm' du' t B := by
  have hcB : ∀ b ∈ B, tm b = tm' b ∧ du b = du' b := fun b hb => hc b (hp.mem_iff.2 hb)
  have e : (okL tm du t A = true) ↔ (okL tm' du' t B = true) := by
    rw [okL_iff tm du A t h0 hA, okL_iff tm' du' B t (fun b hb => by rw [← (hcB b hb).1]; exact h0 b (hp.mem_iff.2 hb)) hB]
    have key : ∀ j ∈ A, sumW tm (A.filter (fun b => decide (du b ≤ du j))) = sumW tm' (B.filter (fun b => decide (du' b ≤ du' j))) := by
      intro j hj
      rw [sumW_perm tm (hp.filter _), sumW_congr tm tm' _ (fun b hb => (hcB b (List.mem_filter.1 hb).1).1)]
      congr 1
      refine List.filter_congr (fun b hb => ?_)
      rw [(hcB b hb).2, (hc j hj).2]
    constructor
    · intro h j hj
      have hj := hp.mem_iff.2 hj
      have := h j hj
      rw [key j hj, (hc j hj).2] at this
      exact this
    · intro h j hj
      have := h j (hp.mem_iff.1 hj)
      rw [key j hj, (hc j hj).2]
      exact this
  cases h1 : okL tm du t A <;> cases h2 : okL tm' du' t B <;> simp_all

theorem good_len {xs : List S59} (h : goodB xs = true) : xs.length ≤ 8 := by
  unfold goodB at h
  simp only [Bool.and_eq_true, decide_eq_true_eq] at h
  exact h.1
theorem good_at {xs : List S59} (h : goodB xs = true) (i : Nat) (hi : i < xs.length) : 1 ≤ xs[i].f0 ∧ xs[i].f0 ≤ 50 ∧ 0 ≤ xs[i].f1 ∧ xs[i].f1 ≤ 50 ∧ 0 ≤ xs[i].f2 ∧ xs[i].f2 ≤ 500 ∧ 0 ≤ xs[i].f3 ∧ xs[i].f3 ≤ 500 := by
  unfold goodB at h
  simp only [Bool.and_eq_true, List.all_eq_true] at h
  have b := h.2 xs[i] (List.getElem_mem hi)
  simp only [okJ, Bool.and_eq_true, decide_eq_true_eq] at b
  obtain ⟨a1, a2, b1, b2, c1, c2, d1, d2⟩ := b
  exact ⟨a1, a2, b1, b2, c1, c2, d1, d2⟩

abbrev inJ (n : Nat) (i : Int) : Prop := 0 ≤ i ∧ i < (n : Int)
theorem inJ_nat {n : Nat} {a : Int} (h : inJ n a) : ∃ i : Nat, i < n ∧ a = (i : Int) := ⟨a.toNat, by have := h.1; have := h.2; omega, by have := h.1; omega⟩
theorem rd_nat (l : List S59) {a : Int} (h : inJ l.length a) : rd_T59 l a = l[a.toNat]'(by have := h.1; have := h.2; omega) := by
  obtain ⟨i, hi, rfl⟩ := inJ_nat h
  rw [rdI l i hi]
  rfl

def tmJ (l : List S59) (a : Int) : Int := (rd_T59 l a).f0
def duJ (l : List S59) (a : Int) : Int := (rd_T59 l a).f3
/-- Times and dates that stay small. -/
def smallJ (l : List S59) : Prop := ∀ (i : Nat) (hi : i < l.length), 0 ≤ l[i].f0 ∧ l[i].f0 ≤ 50 ∧ 0 ≤ l[i].f3 ∧ l[i].f3 ≤ 1000
theorem small_at {l : List S59} (h : smallJ l) {a : Int} (ha : inJ l.length a) : 0 ≤ tmJ l a ∧ tmJ l a ≤ 50 ∧ 0 ≤ duJ l a ∧ duJ l a ≤ 1000 := by
  unfold tmJ duJ
  rw [rd_nat l ha]
  exact h _ _

def idsW (n : Nat) : List Int := (List.range n).map (fun (i : Nat) => (i : Int))
theorem idsW_len (n : Nat) : (idsW n).length = n := by simp [idsW]
theorem idsW_mem {n : Nat} {b : Int} (h : b ∈ idsW n) : 0 ≤ b ∧ b < (n : Int) := by
  unfold idsW at h
  obtain ⟨i, hi, rfl⟩ := List.mem_map.1 h
  have := List.mem_range.1 hi
  omega
theorem idsW_succ (n : Nat) : idsW (n + 1) = idsW n ++ [(n : Int)] := by simp [idsW, List.range_succ]

def ltN (a b : Int) : Bool := decide (a < b)
def ltD (l : List S59) (a b : Int) : Bool := decide ((rd_T59 l a).f3 < (rd_T59 l b).f3) || (decide ((rd_T59 l a).f3 = (rd_T59 l b).f3) && decide ((rd_T59 l a).f0 < (rd_T59 l b).f0))
def ltS (l : List S59) (a b : Int) : Bool := ltD l a b || (decide ((rd_T59 l a).f3 = (rd_T59 l b).f3) && (decide ((rd_T59 l a).f0 = (rd_T59 l b).f0) && decide (a < b)))
theorem ordN (D : Int → Prop) : OrdW ltN D := by
  constructor
  · intro a b _ _ h; unfold ltN at *; simp only [decide_eq_true_eq, decide_eq_false_iff_not] at *; omega
  · intro i a b _ _ _ h1 h2; unfold ltN at *; simp only [decide_eq_true_eq, decide_eq_false_iff_not] at *; omega
theorem ordD (l : List S59) (D : Int → Prop) : OrdW (ltD l) D := by
  constructor
  · intro a b _ _ h
    unfold ltD at *
    generalize (rd_T59 l a).f3 = x, (rd_T59 l b).f3 = y, (rd_T59 l a).f0 = u, (rd_T59 l b).f0 = v at *
    simp only [Bool.or_eq_true, Bool.and_eq_true, Bool.or_eq_false_iff, Bool.and_eq_false_iff, decide_eq_true_eq, decide_eq_false_iff_not] at *
    omega
  · intro i a b _ _ _ h1 h2
    unfold ltD at *
    generalize (rd_T59 l a).f3 = x, (rd_T59 l b).f3 = y, (rd_T59 l a).f0 = u, (rd_T59 l b).f0 = v, (rd_T59 l i).f3 = p, (rd_T59 l i).f0 = q at *
    simp only [Bool.or_eq_true, Bool.and_eq_true, Bool.or_eq_false_iff, Bool.and_eq_false_iff, decide_eq_true_eq, decide_eq_false_iff_not] at *
    omega
theorem ordS (l : List S59) (D : Int → Prop) : OrdW (ltS l) D := by
  constructor
  · intro a b _ _ h
    unfold ltS ltD at *
    generalize (rd_T59 l a).f3 = x, (rd_T59 l b).f3 = y, (rd_T59 l a).f0 = u, (rd_T59 l b).f0 = v at *
    simp only [Bool.or_eq_true, Bool.and_eq_true, Bool.or_eq_false_iff, Bool.and_eq_false_iff, decide_eq_true_eq, decide_eq_false_iff_not] at *
    omega
  · intro i a b _ _ _ h1 h2
    unfold ltS ltD at *
    generalize (rd_T59 l a).f3 = x, (rd_T59 l b).f3 = y, (rd_T59 l a).f0 = u, (rd_T59 l b).f0 = v, (rd_T59 l i).f3 = p, (rd_T59 l i).f0 = q at *
    simp only [Bool.or_eq_true, Bool.and_eq_true, Bool.or_eq_false_iff, Bool.and_eq_false_iff, decide_eq_true_eq, decide_eq_false_iff_not] at *
    omega
theorem ltS_total (l : List S59) (a b : Int) (h1 : ltS l a b = false) (h2 : ltS l b a = false) : a = b := by
  unfold ltS ltD at *
  generalize (rd_T59 l a).f3 = x, (rd_T59 l b).f3 = y, (rd_T59 l a).f0 = u, (rd_T59 l b).f0 = v at *
  simp only [Bool.or_eq_false_iff, Bool.and_eq_false_iff, decide_eq_false_iff_not] at *
  omega
theorem ltS_not (l : List S59) {a b : Int} (h : a ≠ b) : (!ltS l a b) = ltS l b a := by
  cases h1 : ltS l a b with
  | true => exact ((ordS l (fun _ => True)).asym a b trivial trivial h1).symm
  | false =>
    cases h2 : ltS l b a with
    | true => rfl
    | false => exact absurd (ltS_total l a b h1 h2) h
theorem posW_congr {lt lt' : Int → Int → Bool} {i : Int} : ∀ {o : List Int}, (∀ b ∈ o, lt i b = lt' i b) → posW lt i o = posW lt' i o := by
  intro o
  unfold posW
  induction o with
  | nil => intro _; rfl
  | cons x o ih =>
    intro h
    rw [List.findIdx_cons, List.findIdx_cons, h x (by simp), ih (fun b hb => h b (by simp [hb]))]
theorem sortDS (l : List S59) : ∀ (t o : List Int), (∀ b ∈ o, ∀ i ∈ t, b ≤ i) → t.Pairwise (fun a b => a ≤ b) → sortW (ltD l) t o = sortW (ltS l) t o
  | [], o, _, _ => rfl
  | i :: t, o, h, hs => by
    have e : insW (ltD l) i o = insW (ltS l) i o := by
      unfold insW
      rw [posW_congr (lt := ltD l) (lt' := ltS l) (fun b hb => by
        have := h b hb i (by simp)
        unfold ltS
        rw [decide_eq_false (show ¬ i < b by omega), Bool.and_false, Bool.and_false, Bool.or_false])]
    unfold sortW
    rw [e]
    rw [List.pairwise_cons] at hs
    refine sortDS l t _ ?_ hs.2
    intro b hb j hj
    rcases List.mem_cons.1 ((insW_perm _ i o).mem_iff.1 hb) with rfl | hb
    · exact hs.1 j hj
    · exact h b hb j (by simp [hj])
/-- In ascending order. -/
def ascW (L : List Int) : List Int := sortW ltN L []
theorem ascW_perm (L : List Int) : (ascW L).Perm L := by
  have := sortW_perm ltN L []
  rw [List.append_nil] at this
  exact this
theorem ascW_sorted (L : List Int) : (ascW L).Pairwise (fun a b => a ≤ b) := by
  have := sortW_sorted (ordN (fun _ => True)) L [] (fun _ _ => trivial) (by simp) List.Pairwise.nil
  exact this.imp (fun h => by unfold ltN at h; have := of_decide_eq_false h; omega)
theorem ascW_id {L : List Int} (h : L.Pairwise (fun a b => a ≤ b)) : ascW L = L :=
  List.Perm.eq_of_pairwise (fun a b _ _ h1 h2 => by omega) (ascW_sorted L) h (ascW_perm L)
theorem idsW_asc (n : Nat) : (idsW n).Pairwise (fun a b => a ≤ b) := by
  unfold idsW
  rw [List.pairwise_map]
  exact List.pairwise_lt_range.imp (fun h => by omega)
/-- In due order. -/
def dueL (l : List S59) (L : List Int) : List Int := sortW (ltS l) L []
theorem dueL_perm (l : List S59) (L : List Int) : (dueL l L).Perm L := by
  have := sortW_perm (ltS l) L []
  rw [List.append_nil] at this
  exact this
theorem dueL_sorted (l : List S59) (L : List Int) : SortedW (ltS l) (dueL l L) := sortW_sorted (ordS l (fun _ => True)) L [] (fun _ _ => trivial) (by simp) List.Pairwise.nil
theorem dueL_congr (l : List S59) {L M : List Int} (h : L.Perm M) : dueL l L = dueL l M :=
  sortedW_unique (fun x _ y _ h1 h2 => ltS_total l x y h1 h2) (dueL_sorted l L) (dueL_sorted l M) ((dueL_perm l L).trans (h.trans (dueL_perm l M).symm))

def ltU (l : List S59) (a b : Int) : Bool := decide ((rd_T59 l a).f3 < (rd_T59 l b).f3)
theorem ordU (l : List S59) (D : Int → Prop) : OrdW (ltU l) D := by
  constructor
  · intro a b _ _ h; unfold ltU at *; simp only [decide_eq_true_eq, decide_eq_false_iff_not] at *; omega
  · intro i a b _ _ _ h1 h2; unfold ltU at *; simp only [decide_eq_true_eq, decide_eq_false_iff_not] at *; omega
def dueU (l : List S59) (L : List Int) : List Int := sortW (ltU l) L []
theorem dueU_perm (l : List S59) (L : List Int) : (dueU l L).Perm L := by
  have := sortW_perm (ltU l) L []
  rw [List.append_nil] at this
  exact this
theorem dueU_sorted (l : List S59) (L : List Int) : (dueU l L).Pairwise (fun a b => duJ l a ≤ duJ l b) :=
  (sortW_sorted (ordU l (fun _ => True)) L [] (fun _ _ => trivial) (by simp) List.Pairwise.nil).imp (fun h => by unfold ltU at h; have := of_decide_eq_false h; unfold duJ; omega)
theorem dueL_due (l : List S59) (L : List Int) : (dueL l L).Pairwise (fun a b => duJ l a ≤ duJ l b) :=
  (dueL_sorted l L).imp (fun h => by
    unfold ltS ltD at h
    simp only [Bool.or_eq_false_iff, decide_eq_false_iff_not] at h
    unfold duJ; omega)
theorem onTime_l0 (l : List S59) (hs : smallJ l) (M : List Int) (hM : ∀ b ∈ M, inJ l.length b) (hlen : M.length ≤ 1000) : ∀ (d i : Nat) (t : Int), i + d = M.length → 0 ≤ t → t ≤ 50 * i → Ev (fun k => impl_onTime.l0 k t M (M.length : Int) (i : Int) l) (okL (tmJ l) (duJ l) t (M.drop i)) := by
  intro d
  induction d with
  | zero =>
    intro i t hi _ _
    refine ev_succ ?_
    simp only [impl_onTime.l0, if_neg (show ¬ ((i : Int) < (M.length : Int)) by omega)]
    rw [List.drop_eq_nil_of_le (by omega)]
    exact ev_now _
  | succ d ih =>
    intro i t hi h0 h1
    refine ev_succ ?_
    have hil : i < M.length := by omega
    have hm := hM _ (List.getElem_mem hil)
    have hb := small_at hs hm
    unfold tmJ duJ at hb
    rw [List.drop_eq_getElem_cons hil]
    by_cases hc : t + (rd_T59 l M[i]).f0 > (rd_T59 l M[i]).f3
    · rw [show okL (tmJ l) (duJ l) t (M[i] :: M.drop (i + 1)) = false from by unfold okL; exact if_pos hc]
      simp only [impl_onTime.l0, if_pos (show (i : Int) < (M.length : Int) by omega), if_pos (show (0 : Int) ≤ (i : Int) by omega), rdW M i hil, if_pos hm.1, if_pos hm.2, w64 (x := t + (rd_T59 l M[i]).f0) (by omega) (by omega), if_pos hc]
      exact ev_now _
    · rw [show okL (tmJ l) (duJ l) t (M[i] :: M.drop (i + 1)) = okL (tmJ l) (duJ l) (t + (rd_T59 l M[i]).f0) (M.drop (i + 1)) from by rw [okL]; exact if_neg hc]
      simp only [impl_onTime.l0, if_pos (show (i : Int) < (M.length : Int) by omega), if_pos (show (0 : Int) ≤ (i : Int) by omega), rdW M i hil, if_pos hm.1, if_pos hm.2, w64 (x := t + (rd_T59 l M[i]).f0) (by omega) (by omega), w64 (x := (i : Int) + 1) (by omega) (by omega), if_neg hc]
      exact ih (i + 1) _ (by omega) (by omega) (by omega)
theorem closureU (l : List S59) {a b : Int} (ha : inJ l.length a) (hb : inJ l.length b) : impl_onTime_1.f a b l = some (ltU l a b) := by
  unfold impl_onTime_1.f ltU
  simp only [if_pos ha.1, if_pos ha.2, if_pos hb.1, if_pos hb.2]
theorem onTime_ev (l : List S59) (hs : smallJ l) (L : List Int) (hL : ∀ b ∈ L, inJ l.length b) (hlen : L.length ≤ 1000) : Ev (fun k => impl_onTime.f k l L) (okL (tmJ l) (duJ l) 0 (dueU l L)) := by
  have hp := dueU_perm l L
  unfold impl_onTime.f
  simp only [impl_sortedBy_141.f, if_pos (show L.length < 17592186044416 by omega)]
  rw [sbL_eq (ordU l (inJ l.length)) (fun a b ha hb => closureU l ha hb) _ _ hL (by simp) List.Pairwise.nil]
  simp only [Option.bind_some]
  exact onTime_l0 l hs (dueU l L) (fun b hb => hL b (hp.mem_iff.1 hb)) (by rw [hp.length_eq]; exact hlen) (dueU l L).length 0 0 (by omega) (by omega) (by omega)

/-- The sum of the times of jobs. -/
def timesL : List S59 → Int
  | [] => 0
  | x :: t => x.f0 + timesL t
theorem totalOf_l (xs : List S59) (hg : goodB xs = true) : ∀ (d i : Nat) (acc : Int), i + d = xs.length → 0 ≤ acc → acc ≤ 50 * i → Ev (fun k => impl_totalOf.l0 k acc xs (xs.length : Int) (i : Int)) (acc + timesL (xs.drop i)) := by
  have hl := good_len hg
  intro d
  induction d with
  | zero =>
    intro i acc hi h0 h1
    refine ev_succ ?_
    simp only [impl_totalOf.l0, if_neg (show ¬ (i : Int) < (xs.length : Int) by omega), List.drop_of_length_le (show xs.length ≤ i by omega), timesL, Int.add_zero]
    exact ev_now _
  | succ d ih =>
    intro i acc hi h0 h1
    have hx : i < xs.length := by omega
    have hb := good_at hg i hx
    have := ih (i + 1) (acc + xs[i].f0) (by omega) (by omega) (by omega)
    refine ev_succ ?_
    rw [List.drop_eq_getElem_cons hx, timesL, ← Int.add_assoc]
    simp only [impl_totalOf.l0, if_pos (show (i : Int) < (xs.length : Int) by omega), if_pos (show (0 : Int) ≤ (i : Int) by omega), rdI xs i hx, wsucc i (by omega), w64 (x := acc + xs[i].f0) (by omega) (by omega)]
    exact this
theorem totalOf_ev (xs : List S59) (hg : goodB xs = true) : Ev (fun k => impl_totalOf.f k xs) (timesL xs) := by
  have := totalOf_l xs hg xs.length 0 0 (by omega) (by omega) (by omega)
  unfold impl_totalOf.f
  simpa using this

theorem shrN (c i : Nat) (h : i ≤ 64) : shr .i64 (c : Int) (i : Int) = ((c / 2 ^ i : Nat) : Int) := by
  unfold shr
  rw [Int.toNat_natCast, Nat.min_eq_left (show i ≤ IntKind.i64.bits from h)]
  rw [Int.natCast_ediv, Int.natCast_pow]
  rfl
theorem and1 : ∀ m : Nat, m < 256 → Go.bits .and .i64 (m : Int) 1 = ((m % 2 : Nat) : Int) := by decide +kernel
theorem shl1 : ∀ i : Nat, i < 9 → shl .i64 1 (i : Int) = ((2 ^ i : Nat) : Int) := by decide +kernel
theorem andn : ∀ c : Nat, c < 256 → ∀ i : Nat, i < 8 → c / 2 ^ i % 2 = 1 → Go.bits .andNot .i64 (c : Int) ((2 ^ i : Nat) : Int) = ((c - 2 ^ i : Nat) : Int) := by decide +kernel
theorem pow8 (n : Nat) (h : n ≤ 8) : 2 ^ n ≤ 256 := Nat.pow_le_pow_right (by omega) h
theorem shr_and (c i : Nat) (hc : c < 256) (hi : i ≤ 64) : Go.bits .and .i64 (shr .i64 (c : Int) (i : Int)) 1 = ((c / 2 ^ i % 2 : Nat) : Int) := by
  rw [shrN c i hi]
  exact and1 _ (Nat.lt_of_le_of_lt (Nat.div_le_self _ _) hc)
theorem mod1 {x : Nat} (h : x % 2 = 1) : ((x % 2 : Nat) : Int) = 1 := by rw [h]; rfl
theorem mod0 {x : Nat} (h : ¬ x % 2 = 1) : ((x % 2 : Nat) : Int) = 0 := by rw [show x % 2 = 0 by omega]; rfl
theorem mod1' {x : Nat} (h : x % 2 = 1) : ¬ ((x % 2 : Nat) : Int) = 0 := by rw [h]; decide
theorem mod0' {x : Nat} (h : ¬ x % 2 = 1) : ¬ ((x % 2 : Nat) : Int) = 1 := by rw [show x % 2 = 0 by omega]; decide
theorem bit_le (c i : Nat) (h : c / 2 ^ i % 2 = 1) : 2 ^ i ≤ c := by
  rcases Nat.lt_or_ge c (2 ^ i) with hl | hl
  · rw [Nat.div_eq_of_lt hl] at h; omega
  · exact hl
/-- The numbers of the bits of c, from i on. -/
def blF (c i : Nat) : Nat → List Int
  | 0 => []
  | d + 1 => if c / 2 ^ i % 2 = 1 then (i : Int) :: blF c (i + 1) d else blF c (i + 1) d
theorem blF_hit {c i : Nat} (h : c / 2 ^ i % 2 = 1) (d : Nat) : blF c i (d + 1) = (i : Int) :: blF c (i + 1) d := by rw [blF, if_pos h]
theorem blF_miss {c i : Nat} (h : ¬ c / 2 ^ i % 2 = 1) (d : Nat) : blF c i (d + 1) = blF c (i + 1) d := by rw [blF, if_neg h]
theorem wsub {c q : Nat} (h : q ≤ c) (hc : c ≤ 4611686018427387904) : wrap64 ((c : Int) - (q : Int)) = ((c - q : Nat) : Int) := by rw [w64 (by omega) (by omega)]; omega
theorem blF_nil (c : Nat) : ∀ d i : Nat, c / 2 ^ i = 0 → blF c i d = [] := by
  intro d
  induction d with
  | zero => intro i _; rfl
  | succ d ih =>
    intro i h
    unfold blF
    rw [if_neg (by omega)]
    refine ih (i + 1) ?_
    rw [Nat.pow_succ, ← Nat.div_div_eq_div_mul, h]
theorem blF_mem (c : Nat) : ∀ d i : Nat, ∀ x ∈ blF c i d, ∃ j : Nat, x = (j : Int) ∧ i ≤ j ∧ j < i + d ∧ c / 2 ^ j % 2 = 1 := by
  intro d
  induction d with
  | zero => intro i x hx; simp [blF] at hx
  | succ d ih =>
    intro i x hx
    unfold blF at hx
    split at hx
    · rcases List.mem_cons.mp hx with rfl | hx
      · exact ⟨i, rfl, by omega, by omega, by assumption⟩
      · obtain ⟨j, a, b, e, f⟩ := ih (i + 1) x hx
        exact ⟨j, a, by omega, by omega, f⟩
    · obtain ⟨j, a, b, e, f⟩ := ih (i + 1) x hx
      exact ⟨j, a, by omega, by omega, f⟩
theorem blF_len (c : Nat) : ∀ d i : Nat, (blF c i d).length ≤ d := by
  intro d
  induction d with
  | zero => intro i; exact Nat.le_refl _
  | succ d ih =>
    intro i
    unfold blF
    have := ih (i + 1)
    split
    · rw [List.length_cons]; omega
    · omega
theorem rdz (xs : List Int) (i : Nat) (h : i < xs.length) : rd xs (i : Int) = xs[i] := by
  unfold rd
  rw [Int.toNat_natCast, List.getD_eq_getElem?_getD, List.getElem?_eq_getElem h]
  rfl
theorem rd_left (a b : List Int) (i : Nat) (h : i < a.length) : rd (a ++ b) (i : Int) = rd a (i : Int) := by
  rw [rdz _ i (by rw [List.length_append]; omega), rdz a i h, List.getElem_append_left h]
theorem rd_mid (a b : List Int) (x : Int) (i : Nat) (h : i = a.length) : rd (a ++ x :: b) (i : Int) = x := by
  subst h
  rw [rdz _ _ (by rw [List.length_append, List.length_cons]; omega)]
  simp
theorem set_mid (a b : List Int) (x y : Int) (i : Nat) (h : i = a.length) : (a ++ x :: b).set i y = a ++ y :: b := by
  subst h
  simp

theorem good_small {l : List S59} (hg : goodB l = true) : smallJ l := by
  intro i hi
  have := good_at hg i hi
  omega

def wtJ (l : List S59) (a : Int) : Int := (rd_T59 l a).f1
theorem mx_def (a b : Int) : mx a b = if a < b then b else a := rfl
/-- A table that tells, for each time, the greatest weight of what is told. -/
def rightT (N : Nat) (T : List Int) (F : Int → Int → Prop) : Prop :=
  T.length = N + 1 ∧ ∀ t : Nat, t ≤ N → (rd T (t : Int) = -1 ∧ ∀ w, ¬ F t w) ∨ (F t (rd T (t : Int)) ∧ 0 ≤ rd T (t : Int) ∧ ∀ w, F t w → w ≤ rd T (t : Int))
theorem right_unique {N : Nat} {T T' : List Int} {F F' : Int → Int → Prop} (h : rightT N T F) (h' : rightT N T' F') (e : ∀ t w, F t w ↔ F' t w) : T = T' := by
  apply List.ext_getElem (by rw [h.1, h'.1])
  intro i hi hi'
  have a := h.2 i (by have := h.1; omega)
  have b := h'.2 i (by have := h.1; omega)
  rw [rdW T i hi] at a
  rw [rdW T' i hi'] at b
  rcases a with ⟨a1, a2⟩ | ⟨a1, a2, a3⟩ <;> rcases b with ⟨b1, b2⟩ | ⟨b1, b2, b3⟩
  · omega
  · exact absurd ((e _ _).2 b1) (a2 _)
  · exact absurd ((e _ _).1 a1) (b2 _)
  · have := a3 _ ((e _ _).2 b1)
    have := b3 _ ((e _ _).1 a1)
    omega
theorem idsW_get {n i : Nat} (h : i < n) : (idsW n)[i]'(by rw [idsW_len]; exact h) = (i : Int) := by simp [idsW]
theorem idsW_drop {n i : Nat} (h : i < n) : (idsW n).drop i = (i : Int) :: (idsW n).drop (i + 1) := by
  rw [List.drop_eq_getElem_cons (by rw [idsW_len]; exact h), idsW_get h]
theorem times_ids (l : List S59) : ∀ (d i : Nat), i + d = l.length → timesL (l.drop i) = sumW (tmJ l) ((idsW l.length).drop i) := by
  intro d
  induction d with
  | zero =>
    intro i hi
    rw [List.drop_eq_nil_of_le (by omega), List.drop_eq_nil_of_le (by rw [idsW_len]; omega)]
    rfl
  | succ d ih =>
    intro i hi
    have hil : i < l.length := by omega
    rw [List.drop_eq_getElem_cons hil, idsW_drop hil, timesL, sumW, ih (i + 1) (by omega)]
    unfold tmJ
    rw [rdI l i hil]
theorem sumW_filter_le (tm : Int → Int) (p : Int → Bool) : ∀ A : List Int, (∀ a ∈ A, 0 ≤ tm a) → sumW tm (A.filter p) ≤ sumW tm A
  | [], _ => Int.le_refl _
  | a :: A, h => by
    have ih := sumW_filter_le tm p A (fun b hb => h b (by simp [hb]))
    have h0 := h a (by simp)
    cases hp : p a
    · rw [List.filter_cons_of_neg (by simp [hp])]; simp only [sumW]; omega
    · rw [List.filter_cons_of_pos hp]; simp only [sumW]; omega
theorem sumW_app (tm : Int → Int) : ∀ A B : List Int, sumW tm (A ++ B) = sumW tm A + sumW tm B
  | [], B => by simp [sumW]
  | a :: A, B => by simp only [List.cons_append, sumW, sumW_app tm A B]; omega
theorem okL_app (tm du : Int → Int) : ∀ (A : List Int) (t j : Int), okL tm du t (A ++ [j]) = (okL tm du t A && !decide (t + sumW tm A + tm j > du j))
  | [], t, j => by
    simp only [List.nil_append, okL, sumW, Int.add_zero, Bool.true_and]
    by_cases h : t + tm j > du j
    · rw [if_pos h, decide_eq_true h]; rfl
    · rw [if_neg h, decide_eq_false h]; rfl
  | a :: A, t, j => by
    by_cases h : t + tm a > du a
    · simp only [List.cons_append, okL, sumW, if_pos h, Bool.false_and]
    · simp only [List.cons_append, okL, sumW, if_neg h, okL_app tm du A]
      exact congrArg (fun z => okL tm du (t + tm a) A && !z) (decide_eq_decide.2 (by omega))
/-- What can be done on time out of some jobs, in their order: time and weight. -/
def famP (tm du wt : Int → Int) (P : List Int) (t w : Int) : Prop := ∃ p : Int → Bool, okL tm du 0 (P.filter p) = true ∧ sumW tm (P.filter p) = t ∧ sumW wt (P.filter p) = w
theorem fam_snoc (tm du wt : Int → Int) (P : List Int) (j : Int) (hj : j ∉ P) (t w : Int) :
    famP tm du wt (P ++ [j]) t w ↔ famP tm du wt P t w ∨ (t ≤ du j ∧ famP tm du wt P (t - tm j) (w - wt j)) := by
  constructor
  · rintro ⟨p, h1, h2, h3⟩
    rw [List.filter_append] at h1 h2 h3
    cases hp : p j
    · rw [List.filter_cons_of_neg (by simp [hp]), List.filter_nil, List.append_nil] at h1 h2 h3
      exact Or.inl ⟨p, h1, h2, h3⟩
    · rw [List.filter_cons_of_pos hp, List.filter_nil] at h1 h2 h3
      rw [okL_app, Bool.and_eq_true, Bool.not_eq_true', decide_eq_false_iff_not] at h1
      rw [sumW_app] at h2 h3
      simp only [sumW] at h2 h3
      exact Or.inr ⟨by omega, p, h1.1, by omega, by omega⟩
  · have agree : ∀ (p : Int → Bool) (b : Bool), P.filter (fun x => if x = j then b else p x) = P.filter p := by
      intro p b
      refine List.filter_congr (fun x hx => ?_)
      rw [if_neg (fun (h : x = j) => hj (h ▸ hx))]
    rintro (⟨p, h1, h2, h3⟩ | ⟨h0, p, h1, h2, h3⟩)
    · refine ⟨fun x => if x = j then false else p x, ?_, ?_, ?_⟩ <;> rw [List.filter_append, agree, List.filter_cons_of_neg (by simp), List.filter_nil, List.append_nil] <;> assumption
    · refine ⟨fun x => if x = j then true else p x, ?_, ?_, ?_⟩ <;> rw [List.filter_append, agree, List.filter_cons_of_pos (by simp), List.filter_nil]
      · rw [okL_app, h1, Bool.true_and, Bool.not_eq_true', decide_eq_false_iff_not]; omega
      · rw [sumW_app]; simp only [sumW]; omega
      · rw [sumW_app]; simp only [sumW]; omega
/-- The table with one more job. -/
def updT (T : List Int) (p : Nat) (w : Int) : Nat → List Int
  | 0 => T
  | d + 1 => updT (if 0 ≤ rd T (d : Int) then T.set (p + d) (mx (rd T ((p + d : Nat) : Int)) (rd T (d : Int) + w)) else T) p w d
theorem updT_len (p : Nat) (w : Int) : ∀ (d : Nat) (T : List Int), (updT T p w d).length = T.length
  | 0, _ => rfl
  | d + 1, T => by
    unfold updT
    rw [updT_len p w d]
    split
    · exact List.length_set
    · rfl
theorem rd_set (T : List Int) (i j : Nat) (x : Int) (hi : i < T.length) (hj : j < T.length) : rd (T.set i x) (j : Int) = if i = j then x else rd T (j : Int) := by
  rw [rdW _ j (by rw [List.length_set]; exact hj), List.getElem_set, rdW T j hj]
theorem updT_rd (p : Nat) (hp : 1 ≤ p) (w : Int) : ∀ (d : Nat) (T : List Int) (t : Nat), p + d ≤ T.length → t < T.length →
    rd (updT T p w d) (t : Int) = if p ≤ t ∧ t < p + d ∧ 0 ≤ rd T ((t - p : Nat) : Int) then mx (rd T (t : Int)) (rd T ((t - p : Nat) : Int) + w) else rd T (t : Int)
  | 0, T, t, hd, ht => by
    unfold updT
    rw [if_neg (by omega)]
  | d + 1, T, t, hd, ht => by
    unfold updT
    generalize hT1 : (if 0 ≤ rd T (d : Int) then T.set (p + d) (mx (rd T ((p + d : Nat) : Int)) (rd T (d : Int) + w)) else T) = T1
    have l1 : T1.length = T.length := by rw [← hT1]; split <;> simp
    have r1 : ∀ s : Nat, s < T.length → s ≠ p + d → rd T1 (s : Int) = rd T (s : Int) := by
      intro s hs hne
      rw [← hT1]
      split
      · rw [rd_set _ _ _ _ (by omega) hs, if_neg (by omega)]
      · rfl
    rw [updT_rd p hp w d T1 t (by omega) (by omega)]
    by_cases ht2 : t = p + d
    · subst ht2
      rw [if_neg (by omega), show p + d - p = d by omega, ← hT1]
      by_cases h0 : 0 ≤ rd T (d : Int)
      · rw [if_pos h0, rd_set _ _ _ _ (by omega) ht, if_pos rfl, if_pos ⟨by omega, by omega, h0⟩]
      · rw [if_neg h0, if_neg (fun h => h0 h.2.2)]
    · rw [r1 t ht ht2]
      by_cases hc : p ≤ t ∧ t < p + d
      · rw [r1 (t - p) (by omega) (by omega)]
        by_cases h0 : 0 ≤ rd T ((t - p : Nat) : Int)
        · rw [if_pos ⟨hc.1, hc.2, h0⟩, if_pos ⟨hc.1, by omega, h0⟩]
        · rw [if_neg (fun h => h0 h.2.2), if_neg (fun h => h0 h.2.2)]
      · rw [if_neg (fun h => hc ⟨h.1, h.2.1⟩), if_neg (fun h => hc ⟨h.1, by omega⟩)]
theorem right_step {N : Nat} {T : List Int} {F F' : Int → Int → Prop} (h : rightT N T F) (p : Nat) (hp : 1 ≤ p) (w du : Int) (hw : 0 ≤ w) (d : Nat) (hd : ∀ t : Nat, t ≤ N → (t < p + d ↔ (t : Int) ≤ du ∨ t < p)) (hdN : p + d ≤ N + 1 ∨ d = 0)
    (hF : ∀ t v, F' t v ↔ F t v ∨ (t ≤ du ∧ F (t - p) (v - w))) (hneg : ∀ t v, F t v → 0 ≤ t) : rightT N (updT T p w d) F' := by
  have hlen := h.1
  refine ⟨by rw [updT_len]; exact hlen, fun t ht => ?_⟩
  have hrd : rd (updT T p w d) (t : Int) = if p ≤ t ∧ t < p + d ∧ 0 ≤ rd T ((t - p : Nat) : Int) then mx (rd T (t : Int)) (rd T ((t - p : Nat) : Int) + w) else rd T (t : Int) := by
    rcases hdN with hdN | hd0
    · exact updT_rd p hp w d T t (by omega) (by omega)
    · subst hd0
      unfold updT
      rw [if_neg (by omega)]
  rw [hrd]
  have ha := h.2 t ht
  have hdt := hd t ht
  by_cases hc : p ≤ t ∧ t < p + d
  · have hb := h.2 (t - p) (by omega)
    have hdu : (t : Int) ≤ du := by rcases hdt.1 hc.2 with h | h <;> omega
    have ecast : ((t - p : Nat) : Int) = (t : Int) - (p : Int) := by omega
    rcases hb with ⟨b1, b2⟩ | ⟨b1, b2, b3⟩
    · rw [if_neg (by omega)]
      rw [ecast] at b2
      rcases ha with ⟨a1, a2⟩ | ⟨a1, a2, a3⟩
      · exact Or.inl ⟨a1, fun v hv => by rcases (hF _ _).1 hv with h | h; exact a2 _ h; exact b2 _ h.2⟩
      · exact Or.inr ⟨(hF _ _).2 (Or.inl a1), a2, fun v hv => by rcases (hF _ _).1 hv with h | h; exact a3 _ h; exact absurd h.2 (b2 _)⟩
    · rw [if_pos ⟨hc.1, hc.2, b2⟩]
      rw [ecast] at b1 b3 b2 ⊢
      refine Or.inr ?_
      have hB : F' t (rd T ((t : Int) - p) + w) := (hF _ _).2 (Or.inr ⟨hdu, by rw [show rd T ((t : Int) - p) + w - w = rd T ((t : Int) - p) by omega]; exact b1⟩)
      rcases ha with ⟨a1, a2⟩ | ⟨a1, a2, a3⟩
      · have hm : mx (rd T (t : Int)) (rd T ((t : Int) - p) + w) = rd T ((t : Int) - p) + w := by rw [mx_def, if_pos (by omega)]
        rw [hm]
        refine ⟨hB, by omega, fun v hv => ?_⟩
        rcases (hF _ _).1 hv with h | h
        · exact absurd h (a2 _)
        · have := b3 _ h.2; omega
      · refine ⟨?_, ?_, fun v hv => ?_⟩
        · rw [mx_def]; split
          · exact hB
          · exact (hF _ _).2 (Or.inl a1)
        · rw [mx_def]; split <;> omega
        · have hv2 : v ≤ rd T (t : Int) ∨ v ≤ rd T ((t : Int) - p) + w := by
            rcases (hF _ _).1 hv with h | h
            · exact Or.inl (a3 _ h)
            · have := b3 _ h.2; exact Or.inr (by omega)
          rw [mx_def]; split <;> omega
  · rw [if_neg (fun h => hc ⟨h.1, h.2.1⟩)]
    have hno : ∀ v, ¬ ((t : Int) ≤ du ∧ F ((t : Int) - p) (v - w)) := by
      rintro v ⟨h1, h2⟩
      have h3 := hneg _ _ h2
      exact hc ⟨by omega, hdt.2 (Or.inl h1)⟩
    rcases ha with ⟨a1, a2⟩ | ⟨a1, a2, a3⟩
    · exact Or.inl ⟨a1, fun v hv => by rcases (hF _ _).1 hv with h | h; exact a2 _ h; exact hno _ h⟩
    · exact Or.inr ⟨(hF _ _).2 (Or.inl a1), a2, fun v hv => by rcases (hF _ _).1 hv with h | h; exact a3 _ h; exact absurd h (hno _)⟩
-- bits
def bitP (c : Nat) (x : Int) : Bool := decide (c / 2 ^ x.toNat % 2 = 1)
theorem blF_ids (c n : Nat) : ∀ (d i : Nat), i + d = n → blF c i d = ((idsW n).drop i).filter (bitP c) := by
  intro d
  induction d with
  | zero =>
    intro i hi
    rw [List.drop_eq_nil_of_le (by rw [idsW_len]; omega)]
    rfl
  | succ d ih =>
    intro i hi
    have hil : i < n := by omega
    rw [idsW_drop hil, blF]
    by_cases hb : c / 2 ^ i % 2 = 1
    · rw [if_pos hb, List.filter_cons_of_pos (by unfold bitP; rw [Int.toNat_natCast]; exact decide_eq_true hb), ih (i + 1) (by omega)]
    · rw [if_neg hb, List.filter_cons_of_neg (by unfold bitP; rw [Int.toNat_natCast, decide_eq_false hb]; simp), ih (i + 1) (by omega)]
def maskOf (p : Int → Bool) : Nat → Nat
  | 0 => 0
  | n + 1 => maskOf p n + if p (n : Int) = true then 2 ^ n else 0
theorem maskOf_lt (p : Int → Bool) : ∀ n, maskOf p n < 2 ^ n
  | 0 => by simp [maskOf]
  | n + 1 => by
    have := maskOf_lt p n
    unfold maskOf
    rw [Nat.pow_succ]
    split <;> omega
theorem maskOf_bit (p : Int → Bool) : ∀ (n i : Nat), i < n → (maskOf p n / 2 ^ i % 2 = 1 ↔ p (i : Int) = true)
  | 0, i, h => by omega
  | n + 1, i, h => by
    unfold maskOf
    have hlt := maskOf_lt p n
    by_cases hp : p (n : Int) = true
    · rw [if_pos hp]
      rcases Nat.lt_or_ge i n with hi | hi
      · rw [← maskOf_bit p n i hi]
        have e : 2 ^ n = 2 ^ i * (2 * 2 ^ (n - i - 1)) := by
          rw [← Nat.mul_assoc, Nat.mul_comm (2 ^ i) 2, Nat.mul_assoc, ← Nat.pow_add, Nat.mul_comm, ← Nat.pow_succ]
          congr 1; omega
        rw [e, Nat.add_mul_div_left _ _ (Nat.pow_pos (by omega)), Nat.add_mul_mod_self_left]
      · have : i = n := by omega
        subst this
        rw [Nat.add_div_right _ (Nat.pow_pos (by omega)), Nat.div_eq_of_lt hlt]
        simp [hp]
    · rw [if_neg hp, Nat.add_zero]
      rcases Nat.lt_or_ge i n with hi | hi
      · exact maskOf_bit p n i hi
      · have : i = n := by omega
        subst this
        rw [Nat.div_eq_of_lt hlt]
        simp [hp]
theorem blF_mask (p : Int → Bool) (n : Nat) : blF (maskOf p n) 0 n = (idsW n).filter p := by
  rw [blF_ids (maskOf p n) n n 0 (by omega), List.drop_zero]
  refine List.filter_congr (fun x hx => ?_)
  have hm := idsW_mem hx
  obtain ⟨i, rfl⟩ := Int.eq_ofNat_of_zero_le hm.1
  unfold bitP
  rw [Int.toNat_natCast]
  have := maskOf_bit p n i (by omega)
  cases hp : p (i : Int)
  · rw [decide_eq_false (fun h => by rw [this.1 h] at hp; simp at hp)]
  · rw [decide_eq_true (this.2 hp)]
/-- What the masks below one tell. -/
def famM (l : List S59) (c : Nat) (t w : Int) : Prop := ∃ m : Nat, m < c ∧ okL (tmJ l) (duJ l) 0 (dueU l (blF m 0 l.length)) = true ∧ sumW (tmJ l) (blF m 0 l.length) = t ∧ sumW (wtJ l) (blF m 0 l.length) = w
theorem fam_same (l : List S59) (hs : smallJ l) (t w : Int) : famP (tmJ l) (duJ l) (wtJ l) (dueL l (idsW l.length)) t w ↔ famM l (2 ^ l.length) t w := by
  have same : ∀ p : Int → Bool, okL (tmJ l) (duJ l) 0 ((dueL l (idsW l.length)).filter p) = okL (tmJ l) (duJ l) 0 (dueU l ((idsW l.length).filter p)) := by
    intro p
    refine okL_perm 0 (((dueL_perm l _).filter p).trans (dueU_perm l _).symm) (fun a _ => ⟨rfl, rfl⟩) (fun a ha => ?_) ((dueL_due l _).sublist List.filter_sublist) (dueU_sorted l _)
    exact (small_at hs (idsW_mem ((dueL_perm l _).mem_iff.1 (List.mem_filter.1 ha).1))).1
  have sums : ∀ (f : Int → Int) (p : Int → Bool), sumW f ((dueL l (idsW l.length)).filter p) = sumW f ((idsW l.length).filter p) := fun f p => sumW_perm f ((dueL_perm l _).filter p)
  constructor
  · rintro ⟨p, h1, h2, h3⟩
    refine ⟨maskOf p l.length, maskOf_lt p _, ?_, ?_, ?_⟩ <;> rw [blF_mask]
    · rw [← same]; exact h1
    · rw [← sums]; exact h2
    · rw [← sums]; exact h3
  · rintro ⟨m, hm, h1, h2, h3⟩
    rw [blF_ids m l.length l.length 0 (by omega), List.drop_zero] at h1 h2 h3
    refine ⟨bitP m, ?_, ?_, ?_⟩
    · rw [same]; exact h1
    · rw [sums]; exact h2
    · rw [sums]; exact h3

theorem sumW_bd (f : Int → Int) (B : Nat) (p : Int → Bool) : ∀ A : List Int, (∀ a ∈ A, 0 ≤ f a ∧ f a ≤ B) → 0 ≤ sumW f (A.filter p) ∧ sumW f (A.filter p) ≤ B * A.length
  | [], _ => by simp [sumW]
  | a :: A, h => by
    have ih := sumW_bd f B p A (fun b hb => h b (by simp [hb]))
    have h0 := h a (by simp)
    have e : (B : Int) * ((a :: A).length : Int) = B * A.length + B := by rw [List.length_cons]; push_cast; rw [Int.mul_add, Int.mul_one]
    cases hp : p a
    · rw [List.filter_cons_of_neg (by simp [hp])]; omega
    · rw [List.filter_cons_of_pos hp]; simp only [sumW]; omega
theorem wt_bd {l : List S59} (hg : goodB l = true) {a : Int} (ha : inJ l.length a) : 0 ≤ wtJ l a ∧ wtJ l a ≤ 50 ∧ 1 ≤ tmJ l a ∧ tmJ l a ≤ 50 ∧ 0 ≤ duJ l a ∧ duJ l a ≤ 500 := by
  unfold wtJ tmJ duJ
  rw [rd_nat l ha]
  have := good_at hg a.toNat (by have := ha.1; have := ha.2; omega)
  omega

theorem l2Times_l (xs : List S59) (hg : goodB xs = true) : ∀ (d i : Nat) (acc : Int), i + d = xs.length → 0 ≤ acc → acc ≤ 50 * i → Ev (fun k => spec_l2Times.l0 k xs acc (i : Int)) (acc + timesL (xs.drop i)) := by
  have hl := good_len hg
  intro d
  induction d with
  | zero =>
    intro i acc hi h0 h1
    refine ev_succ ?_
    simp only [spec_l2Times.l0, if_neg (show ¬ (i : Int) < (xs.length : Int) by omega), List.drop_of_length_le (show xs.length ≤ i by omega), timesL, Int.add_zero]
    exact ev_now _
  | succ d ih =>
    intro i acc hi h0 h1
    have hx : i < xs.length := by omega
    have hb := good_at hg i hx
    have := ih (i + 1) (acc + xs[i].f0) (by omega) (by omega) (by omega)
    refine ev_succ ?_
    rw [List.drop_eq_getElem_cons hx, timesL, ← Int.add_assoc]
    simp only [spec_l2Times.l0, if_pos (show (i : Int) < (xs.length : Int) by omega), if_pos (show (0 : Int) ≤ (i : Int) by omega), rdI xs i hx, wsucc i (by omega), w64 (x := acc + xs[i].f0) (by omega) (by omega)]
    exact this
theorem l2Times_ev (xs : List S59) (hg : goodB xs = true) : Ev (fun k => spec_l2Times.f k xs) (timesL xs) := by
  have := l2Times_l xs hg xs.length 0 0 (by omega) (by omega) (by omega)
  unfold spec_l2Times.f
  simpa using this

theorem sooner_eq (l : List S59) {a b : Int} (ha : inJ l.length a) (hb : inJ l.length b) : spec_l6Sooner.f l a b = some (ltS l a b) := by
  unfold spec_l6Sooner.f ltS ltD
  simp only [if_pos ha.1, if_pos ha.2, if_pos hb.1, if_pos hb.2]
  by_cases h1 : (rd_T59 l a).f3 = (rd_T59 l b).f3
  · simp only [if_pos h1, decide_eq_true h1, decide_eq_false (show ¬ (rd_T59 l a).f3 < (rd_T59 l b).f3 by omega), Bool.true_and, Bool.false_or]
    by_cases h2 : (rd_T59 l a).f0 = (rd_T59 l b).f0
    · simp only [if_pos h2, decide_eq_true h2, decide_eq_false (show ¬ (rd_T59 l a).f0 < (rd_T59 l b).f0 by omega), Bool.true_and, Bool.false_or]
    · simp only [if_neg h2, decide_eq_false h2, Bool.false_and, Bool.or_false]
  · simp only [if_neg h1, decide_eq_false h1, Bool.false_and, Bool.or_false]
theorem l6Due_l1 (l : List S59) (L out : List Int) (q : Nat) (hq : q < L.length) (hi : inJ l.length L[q]) (ho : ∀ b ∈ out, inJ l.length b) (hne : ∀ b ∈ out, b ≠ L[q]) (hlen : out.length ≤ 1048576) (hL : L.length ≤ 1048576) (r : List Int)
    (hnext : Ev (fun k => spec_l6Due.l0 k l L (insW (ltS l) L[q] out) (wrap64 ((q : Int) + 1))) r) : ∀ (d k : Nat), k + d = posW (ltS l) L[q] out → Ev (fun K => spec_l6Due.l1 K l L out (q : Int) (k : Int)) r := by
  have fin : ∀ k : Nat, k = posW (ltS l) L[q] out → ((out.take ((k : Nat) : Int).toNat ++ [L[q]]) ++ out.drop ((k : Nat) : Int).toNat) = insW (ltS l) L[q] out := by
    intro k hk
    subst hk
    simp [insW]
  have hp := posW_le (ltS l) L[q] out
  intro d
  induction d with
  | zero =>
    intro k hk
    have hk' : k = posW (ltS l) L[q] out := by omega
    refine ev_succ ?_
    have c0 : ([] : List Int).length + (out.take ((k : Nat) : Int).toNat).length < 17592186044416 := by simp only [List.length_take, List.length_nil]; omega
    have c1 : ((out.take ((k : Nat) : Int).toNat).length + [L[q]].length < 17592186044416) := by simp only [List.length_take, List.length_singleton]; omega
    have c2 : (((out.take ((k : Nat) : Int).toNat) ++ [L[q]]).length + (out.drop ((k : Nat) : Int).toNat).length < 17592186044416) := by simp only [List.length_append, List.length_take, List.length_drop, List.length_singleton]; omega
    by_cases hkl : k < out.length
    · have hlt : ltS l L[q] (out[k]'hkl) = true := by
        subst hk'
        exact posW_at hkl
      have hm : inJ l.length out[k] := ho _ (List.getElem_mem hkl)
      have hs : ltS l out[k] L[q] = false := (ordS l (fun _ => True)).asym _ _ trivial trivial hlt
      simp only [spec_l6Due.l1, if_pos (show ((k : Nat) : Int) < (out.length : Int) by omega), if_pos (show (0 : Int) ≤ ((k : Nat) : Int) by omega), if_pos (show (0 : Int) ≤ (q : Int) by omega), if_pos (show (q : Int) < (L.length : Int) by omega), rdW out k hkl, rdW L q hq, sooner_eq l hm hi, hs, Option.bind_some, Bool.false_eq_true, if_false, if_pos c0, List.nil_append, if_pos c1, if_pos c2, if_pos (show ((k : Nat) : Int) ≤ (out.length : Int) by omega), fin k hk']
      exact hnext
    · simp only [spec_l6Due.l1, if_neg (show ¬ ((k : Nat) : Int) < (out.length : Int) by omega), if_pos (show (0 : Int) ≤ ((k : Nat) : Int) by omega), if_pos (show ((k : Nat) : Int) ≤ (out.length : Int) by omega), if_pos (show (0 : Int) ≤ (q : Int) by omega), if_pos (show (q : Int) < (L.length : Int) by omega), rdW L q hq, Option.bind_some, if_pos c0, List.nil_append, if_pos c1, if_pos c2, fin k hk']
      exact hnext
  | succ d ih =>
    intro k hk
    refine ev_succ ?_
    have hkl : k < out.length := by omega
    have hm : inJ l.length out[k] := ho _ (List.getElem_mem hkl)
    have hlt : ltS l L[q] out[k] = false := posW_before (by omega)
    have hs : ltS l out[k] L[q] = true := by
      have := ltS_not l (fun h => hne _ (List.getElem_mem hkl) h.symm)
      rw [hlt] at this
      exact this.symm
    simp only [spec_l6Due.l1, if_pos (show ((k : Nat) : Int) < (out.length : Int) by omega), if_pos (show (0 : Int) ≤ ((k : Nat) : Int) by omega), if_pos (show (0 : Int) ≤ (q : Int) by omega), if_pos (show (q : Int) < (L.length : Int) by omega), rdW out k hkl, rdW L q hq, sooner_eq l hm hi, hs, Option.bind_some, if_true, w64 (x := ((k : Nat) : Int) + 1) (by omega) (by omega)]
    exact ih (k + 1) (by omega)
theorem l6Due_ev (l : List S59) (L : List Int) (hL : ∀ b ∈ L, inJ l.length b) (hd : L.Nodup) (hn : L.length ≤ 1048576) : Ev (fun k => spec_l6Due.f k l L) (dueL l L) := by
  have main : ∀ (d i : Nat), i + d = L.length → Ev (fun k => spec_l6Due.l0 k l L (sortW (ltS l) (L.take i) []) (i : Int)) (dueL l L) := by
    intro d
    induction d with
    | zero =>
      intro i hi
      refine ev_succ ?_
      simp only [spec_l6Due.l0, if_neg (show ¬ ((i : Int) < (L.length : Int)) by omega)]
      rw [List.take_of_length_le (by omega)]
      exact ev_now _
    | succ d ih =>
      intro i hi
      refine ev_succ ?_
      have hil : i < L.length := by omega
      simp only [spec_l6Due.l0, if_pos (show (i : Int) < (L.length : Int) by omega)]
      have hp := sortW_perm (ltS l) (L.take i) []
      rw [List.append_nil] at hp
      refine l6Due_l1 l L _ i hil (hL _ (List.getElem_mem hil)) (fun b hb => hL b (List.mem_of_mem_take (hp.mem_iff.1 hb))) (fun b hb he => ?_) (by rw [hp.length_eq, List.length_take]; omega) hn _ ?_ (posW (ltS l) L[i] (sortW (ltS l) (L.take i) [])) 0 (by omega)
      · obtain ⟨j, hj, rfl⟩ := List.mem_iff_getElem.1 (hp.mem_iff.1 hb)
        rw [List.length_take] at hj
        rw [List.getElem_take] at he
        have := (List.getElem_inj hd).1 he
        omega
      · have := ih (i + 1) (by omega)
        rw [List.take_succ_eq_append_getElem hil, sortW_append] at this
        rw [w64 (x := (i : Int) + 1) (by omega) (by omega)]
        exact this
  exact main L.length 0 (by omega)

theorem all_bit : ∀ n : Nat, n < 9 → ∀ i : Nat, i < n → (2 ^ n - 1) / 2 ^ i % 2 = 1 := by decide +kernel
theorem l4Set_all (n : Nat) (hn : n ≤ 8) : ∀ (d i : Nat), i + d = n → Ev (fun k => spec_l4Set.l0 k (n : Int) ((2 ^ n - 1 : Nat) : Int) (idsW i) (i : Int)) (idsW n) := by
  have h8 := pow8 n hn
  intro d
  induction d with
  | zero =>
    intro i hi
    refine ev_succ ?_
    simp only [spec_l4Set.l0, if_neg (show ¬ ((i : Int) < n) by omega)]
    rw [show i = n by omega]
    exact ev_now _
  | succ d ih =>
    intro i hi
    refine ev_succ ?_
    have hb : (2 ^ n - 1) / 2 ^ i % 2 = 1 := all_bit n (by omega) i (by omega)
    have := ih (i + 1) (by omega)
    rw [idsW_succ] at this
    simp only [spec_l4Set.l0, if_pos (show (i : Int) < n by omega), if_pos (show (0 : Int) ≤ (i : Int) by omega), shr_and (2 ^ n - 1) i (by omega) (by omega), if_pos (mod1 hb), if_pos (show (idsW i).length < 17592186044416 by rw [idsW_len]; omega), w64 (x := (i : Int) + 1) (by omega) (by omega)]
    exact this
theorem l6All_ev (xs : List S59) (hn : xs.length ≤ 8) : Ev (fun k => spec_l6All.f k xs) (idsW xs.length) := by
  unfold spec_l6All.f
  have h8 := pow8 xs.length hn
  have hp : 0 < 2 ^ xs.length := Nat.pow_pos (by omega)
  rw [shl1 xs.length (by omega), w64 (x := ((2 ^ xs.length : Nat) : Int) - 1) (by omega) (by omega), show ((2 ^ xs.length : Nat) : Int) - 1 = ((2 ^ xs.length - 1 : Nat) : Int) by omega]
  refine ev_bind (a := idsW xs.length) ?_ (ev_now _)
  exact l4Set_all xs.length hn xs.length 0 (by omega)
theorem idsW_nodup (n : Nat) : (idsW n).Nodup := by
  unfold idsW List.Nodup
  rw [List.pairwise_map]
  exact List.pairwise_lt_range.imp (fun h => by omega)

theorem most_mx3 (a b : Int) : spec_l1Most.f a b = some (mx a b) := by
  unfold spec_l1Most.f
  rw [mx_def]
  by_cases h : a < b
  · rw [if_pos h, if_neg (by omega)]
  · rw [if_neg h]
    by_cases h2 : a > b
    · rw [if_pos h2]
    · rw [if_neg h2]; congr 1; omega
theorem fam_bd (l : List S59) (hg : goodB l = true) (P : List Int) (hP : ∀ a ∈ P, inJ l.length a) (hn : P.length ≤ 8) (t w : Int) (h : famP (tmJ l) (duJ l) (wtJ l) P t w) : 0 ≤ t ∧ 0 ≤ w ∧ w ≤ 400 := by
  obtain ⟨p, _, h2, h3⟩ := h
  have a := sumW_bd (tmJ l) 50 p P (fun a ha => by have := wt_bd hg (hP a ha); omega)
  have b := sumW_bd (wtJ l) 50 p P (fun a ha => by have := wt_bd hg (hP a ha); omega)
  omega
theorem table_l2 (l : List S59) (D : List Int) (x6 : Int) (p : Nat) (hp : 1 ≤ p) (hpb : p ≤ 50) (w g2 g3 : Int) (hw : 0 ≤ w) (hw2 : w ≤ 50) (N : Nat) (hN : N ≤ 1000) (r : List Int) : ∀ (d : Nat) (T : List Int), T.length = N + 1 → (d = 0 ∨ p + d ≤ N + 1) → (∀ s : Nat, s < d → rd T (s : Int) ≤ 1000000) →
    Ev (fun k => spec_l6Table.l1 k l D (updT T p w d) (wrap64 (x6 + 1))) r → Ev (fun k => spec_l6Table.l2 k l D T x6 (((p + d : Nat) : Int) - 1) (p : Int) w g2 g3) r := by
  intro d
  induction d with
  | zero =>
    intro T hT _ _ h
    refine ev_succ ?_
    simp only [spec_l6Table.l2, if_neg (show ¬ ((((p + 0 : Nat) : Int) - 1) ≥ (p : Int)) by omega)]
    exact h
  | succ d ih =>
    intro T hT hd hb h
    refine ev_succ ?_
    have hd : p + (d + 1) ≤ N + 1 := by omega
    have e1 : wrap64 (((p + (d + 1) : Nat) : Int) - 1 - (p : Int)) = (d : Int) := by rw [w64 (by omega) (by omega)]; omega
    have e2 : ((p + (d + 1) : Nat) : Int) - 1 = ((p + d : Nat) : Int) := by omega
    have e3 : wrap64 (((p + d : Nat) : Int) - 1) = ((p + d : Nat) : Int) - 1 := w64 (by omega) (by omega)
    simp only [spec_l6Table.l2, if_pos (show (((p + (d + 1) : Nat) : Int) - 1) ≥ (p : Int) by omega), e1, if_pos (show (0 : Int) ≤ (d : Int) by omega), if_pos (show (d : Int) < (T.length : Int) by omega)]
    rw [e2]
    unfold updT at h
    by_cases h0 : 0 ≤ rd T (d : Int)
    · rw [if_pos h0] at h
      have hbd := hb d (by omega)
      have := ih (T.set (p + d) (mx (rd T ((p + d : Nat) : Int)) (rd T (d : Int) + w))) (by rw [List.length_set]; exact hT) (by omega) (fun s hs => by
        rw [rd_set _ _ _ _ (by omega) (by omega), if_neg (by omega)]
        exact hb s (by omega)) h
      simp only [if_pos (show rd T (d : Int) ≥ 0 from h0), if_pos (show (0 : Int) ≤ ((p + d : Nat) : Int) by omega), if_pos (show ((p + d : Nat) : Int) < (T.length : Int) by omega), w64 (x := rd T (d : Int) + w) (by omega) (by omega), most_mx3, Option.bind_some, e3, Int.toNat_natCast]
      exact this
    · rw [if_neg h0] at h
      have := ih T hT (by omega) (fun s hs => hb s (by omega)) h
      simp only [if_neg (show ¬ rd T (d : Int) ≥ 0 from h0), e3]
      exact this
theorem table_l1 (l : List S59) (hg : goodB l = true) (N : Nat) (hN : N ≤ 1000) (D : List Int) (hD : ∀ b ∈ D, inJ l.length b) (hn : D.length ≤ 8) (hnd : D.Nodup) : ∀ (d i : Nat) (T : List Int), i + d = D.length → rightT N T (famP (tmJ l) (duJ l) (wtJ l) (D.take i)) →
    ∃ T' : List Int, Ev (fun k => spec_l6Table.l1 k l D T (i : Int)) T' ∧ rightT N T' (famP (tmJ l) (duJ l) (wtJ l) D) := by
  intro d
  induction d with
  | zero =>
    intro i T hi h
    refine ⟨T, ev_succ ?_, ?_⟩
    · simp only [spec_l6Table.l1, if_neg (show ¬ ((i : Int) < (D.length : Int)) by omega)]
      exact ev_now _
    · rw [List.take_of_length_le (by omega)] at h
      exact h
  | succ d ih =>
    intro i T hi h
    have hil : i < D.length := by omega
    have hm := hD _ (List.getElem_mem hil)
    have hb := wt_bd hg hm
    have hlen := h.1
    generalize hpp : (tmJ l D[i]).toNat = p
    have hp : (p : Int) = tmJ l D[i] := by omega
    generalize hmm : (if duJ l D[i] < (N : Int) then duJ l D[i] else (N : Int)) = m
    have hm0 : 0 ≤ m := by rw [← hmm]; split <;> omega
    have hmN : m ≤ N := by rw [← hmm]; split <;> omega
    have hmd : ∀ t : Nat, t ≤ N → ((t : Int) ≤ m ↔ (t : Int) ≤ duJ l D[i]) := by intro t ht; rw [← hmm]; split <;> omega
    have hbdT : ∀ s : Nat, s ≤ N → rd T (s : Int) ≤ 1000000 := by
      intro s hs
      rcases h.2 s hs with ⟨a, _⟩ | ⟨a, _⟩
      · omega
      · have := fam_bd l hg _ (fun a ha => hD a (List.mem_of_mem_take ha)) (by rw [List.length_take]; omega) _ _ a
        omega
    have hnext : rightT N (updT T p (wtJ l D[i]) (m.toNat + 1 - p)) (famP (tmJ l) (duJ l) (wtJ l) (D.take (i + 1))) := by
      rw [List.take_succ_eq_append_getElem hil]
      refine right_step h p (by omega) (wtJ l D[i]) (duJ l D[i]) hb.1 (m.toNat + 1 - p) (fun t ht => ?_) (by omega) (fun t v => ?_) (fun t v hv => (fam_bd l hg _ (fun a ha => hD a (List.mem_of_mem_take ha)) (by rw [List.length_take]; omega) _ _ hv).1)
      · have := hmd t ht
        omega
      · rw [hp]
        refine fam_snoc (tmJ l) (duJ l) (wtJ l) (D.take i) D[i] (fun hin => ?_) t v
        obtain ⟨q, hq, e⟩ := List.mem_iff_getElem.1 hin
        rw [List.length_take] at hq
        rw [List.getElem_take] at e
        have := (List.getElem_inj hnd).1 e
        omega
    obtain ⟨T', hT', hr'⟩ := ih (i + 1) _ (by omega) hnext
    refine ⟨T', ev_succ ?_, hr'⟩
    have hw1 : wrap64 ((T.length : Int) - 1) = (N : Int) := by rw [w64 (by omega) (by omega)]; omega
    have hleast : spec_l1Least.f (duJ l D[i]) (N : Int) = some m := by
      unfold spec_l1Least.f
      rw [← hmm]
      split <;> rfl
    unfold duJ at hleast
    simp only [spec_l6Table.l1, if_pos (show ((i : Int) < (D.length : Int)) by omega), if_pos (show (0 : Int) ≤ (i : Int) by omega), rdW D i hil, if_pos hm.1, if_pos hm.2, hw1, hleast, Option.bind_some]
    rw [show ((i + 1 : Nat) : Int) = wrap64 ((i : Int) + 1) by rw [w64 (by omega) (by omega)]; omega] at hT'
    by_cases hmp : (p : Int) ≤ m
    · have e : m = ((p + (m.toNat + 1 - p) : Nat) : Int) - 1 := by omega
      have := table_l2 l D (i : Int) p (by omega) (by omega) (wtJ l D[i]) (rd_T59 l D[i]).f2 (rd_T59 l D[i]).f3 hb.1 (by omega) N hN T' (m.toNat + 1 - p) T hlen (Or.inr (by omega)) (fun s hs => hbdT s (by omega)) hT'
      rw [← e, hp] at this
      exact this
    · refine ev_succ ?_
      have hpu : (rd_T59 l D[i]).f0 = (p : Int) := by rw [hp]; rfl
      simp only [spec_l6Table.l2, if_neg (show ¬ (m ≥ (rd_T59 l D[i]).f0) by rw [hpu]; omega)]
      rw [show m.toNat + 1 - p = 0 by omega] at hT'
      exact hT'
theorem rd_cons_rep (N : Nat) (t : Nat) (ht : t ≤ N) : rd ((0 : Int) :: List.replicate N (-1)) (t : Int) = if t = 0 then 0 else -1 := by
  rw [rdW _ t (by simp; omega)]
  cases t with
  | zero => rfl
  | succ t => rw [if_neg (by omega), List.getElem_cons_succ, List.getElem_replicate]
theorem l6Table_ev (l : List S59) (hg : goodB l = true) (N : Nat) (hN : N ≤ 1000) (hNt : timesL l = (N : Int)) : ∃ T : List Int, Ev (fun k => spec_l6Table.f k l) T ∧ rightT N T (famP (tmJ l) (duJ l) (wtJ l) (dueL l (idsW l.length))) := by
  have hl := good_len hg
  have hD : ∀ b ∈ dueL l (idsW l.length), inJ l.length b := fun b hb => idsW_mem ((dueL_perm l _).mem_iff.1 hb)
  have hDn : (dueL l (idsW l.length)).length ≤ 8 := by rw [(dueL_perm l _).length_eq, idsW_len]; exact hl
  have hnd : (dueL l (idsW l.length)).Nodup := (dueL_perm l _).nodup_iff.2 (idsW_nodup _)
  have h0 : rightT N ((0 : Int) :: List.replicate N (-1)) (famP (tmJ l) (duJ l) (wtJ l) ((dueL l (idsW l.length)).take 0)) := by
    refine ⟨by simp, fun t ht => ?_⟩
    rw [rd_cons_rep N t ht, List.take_zero]
    by_cases h : t = 0
    · subst h
      rw [if_pos rfl]
      refine Or.inr ⟨⟨fun _ => true, rfl, rfl, rfl⟩, by omega, ?_⟩
      rintro w ⟨p, _, _, h3⟩
      rw [← h3]
      simp [sumW]
    · rw [if_neg h]
      refine Or.inl ⟨rfl, ?_⟩
      rintro w ⟨p, _, h2, _⟩
      rw [List.filter_nil] at h2
      simp only [sumW] at h2
      omega
  obtain ⟨T, hT, hr⟩ := table_l1 l hg N hN (dueL l (idsW l.length)) hD hDn hnd (dueL l (idsW l.length)).length 0 _ (by omega) h0
  refine ⟨T, ?_, hr⟩
  unfold spec_l6Table.f
  refine ev_bind (l6All_ev l hl) (ev_bind (l6Due_ev l _ (fun b hb => idsW_mem hb) (idsW_nodup _) (by rw [idsW_len]; omega)) ?_)
  have main : ∀ (d i : Nat), i + d = N → Ev (fun k => spec_l6Table.l0 k l (dueL l (idsW l.length)) ((0 : Int) :: List.replicate i (-1)) (i : Int)) T := by
    intro d
    induction d with
    | zero =>
      intro i hi
      refine ev_succ ?_
      simp only [spec_l6Table.l0]
      refine ev_bind (l2Times_ev l hg) ?_
      simp only [hNt, if_neg (show ¬ ((i : Int) < (N : Int)) by omega)]
      rw [show i = N by omega]
      exact hT
    | succ d ih =>
      intro i hi
      refine ev_succ ?_
      simp only [spec_l6Table.l0]
      refine ev_bind (l2Times_ev l hg) ?_
      have := ih (i + 1) (by omega)
      rw [List.replicate_succ', ← List.cons_append] at this
      simp only [hNt, if_pos (show ((i : Int) < (N : Int)) by omega), if_pos (show ((0 : Int) :: List.replicate i (-1)).length < 17592186044416 by simp; omega), w64 (x := (i : Int) + 1) (by omega) (by omega)]
      exact this
  exact main N 0 (by omega)

theorem listOf_l (c n : Nat) (hn : n ≤ 8) (hc : c < 2 ^ n) : ∀ (d i : Nat) (acc : List Int), i + d = n → acc.length ≤ i → Ev (fun k => impl_listOf.l0 k (c : Int) acc (i : Int)) (acc ++ blF c i d) := by
  intro d
  have h8 := pow8 n hn
  induction d with
  | zero =>
    intro i acc hi ha
    refine ev_succ ?_
    have hz : c / 2 ^ i = 0 := Nat.div_eq_of_lt (by rw [show i = n by omega]; exact hc)
    simp only [impl_listOf.l0, if_pos (show (0 : Int) ≤ (i : Int) by omega), shrN c i (by omega), hz, gt_iff_lt, if_neg (show ¬ (0 : Int) < ((0 : Nat) : Int) by omega), blF, List.append_nil]
    exact ev_now _
  | succ d ih =>
    intro i acc hi ha
    refine ev_succ ?_
    by_cases hz : c / 2 ^ i = 0
    · rw [blF_nil c _ i hz, List.append_nil]
      simp only [impl_listOf.l0, if_pos (show (0 : Int) ≤ (i : Int) by omega), shrN c i (by omega), hz, gt_iff_lt, if_neg (show ¬ (0 : Int) < ((0 : Nat) : Int) by omega)]
      exact ev_now _
    · simp only [impl_listOf.l0, if_pos (show (0 : Int) ≤ (i : Int) by omega), shr_and c i (by omega) (by omega), blF, wsucc i (by omega)]
      simp only [shrN c i (by omega), gt_iff_lt, if_pos (Int.natCast_pos.mpr (Nat.pos_of_ne_zero hz))]
      by_cases hb : c / 2 ^ i % 2 = 1
      · have h := ih (i + 1) (acc ++ [(i : Int)]) (by omega) (by rw [List.length_append, List.length_singleton]; omega)
        rw [List.append_assoc] at h
        simp only [if_pos hb, if_pos (mod1 hb), if_pos (show acc.length < 17592186044416 by omega)]
        exact h
      · simp only [if_neg hb, if_neg (mod0' hb)]
        exact ih (i + 1) acc (by omega) (by omega)
theorem listOf_ev (c n : Nat) (hn : n ≤ 8) (hc : c < 2 ^ n) : Ev (fun k => impl_listOf.f k (c : Int)) (blF c 0 n) := by
  unfold impl_listOf.f
  exact listOf_l c n hn hc n 0 [] (by omega) (by simp)

theorem ratioOf_ev (l : List S59) (hg : goodB l = true) (M : List Int) (hM : ∀ b ∈ M, inJ l.length b) (hn : M.length ≤ 8) : Ev (fun k => impl_ratioOf.f k l M) (sumW (wtJ l) M, sumW (tmJ l) M) := by
  have main : ∀ (d i : Nat) (a b : Int), i + d = M.length → 0 ≤ a → a ≤ 50 * i → 0 ≤ b → b ≤ 50 * i → Ev (fun k => impl_ratioOf.l0 k l M (M.length : Int) (i : Int) a b) (a + sumW (wtJ l) (M.drop i), b + sumW (tmJ l) (M.drop i)) := by
    intro d
    induction d with
    | zero =>
      intro i a b hi _ _ _ _
      refine ev_succ ?_
      simp only [impl_ratioOf.l0, if_neg (show ¬ ((i : Int) < (M.length : Int)) by omega)]
      rw [List.drop_eq_nil_of_le (by omega), sumW, sumW, Int.add_zero, Int.add_zero]
      exact ev_now _
    | succ d ih =>
      intro i a b hi h1 h2 h3 h4
      refine ev_succ ?_
      have hil : i < M.length := by omega
      have hm := hM _ (List.getElem_mem hil)
      have hb := wt_bd hg hm
      have hb' := hb
      unfold wtJ tmJ at hb'
      have := ih (i + 1) (a + (rd_T59 l M[i]).f1) (b + (rd_T59 l M[i]).f0) (by omega) (by omega) (by omega) (by omega) (by omega)
      rw [List.drop_eq_getElem_cons hil]
      simp only [sumW]
      rw [show a + (wtJ l M[i] + sumW (wtJ l) (M.drop (i + 1))) = a + (rd_T59 l M[i]).f1 + sumW (wtJ l) (M.drop (i + 1)) by unfold wtJ; omega, show b + (tmJ l M[i] + sumW (tmJ l) (M.drop (i + 1))) = b + (rd_T59 l M[i]).f0 + sumW (tmJ l) (M.drop (i + 1)) by unfold tmJ; omega]
      simp only [impl_ratioOf.l0, if_pos (show ((i : Int) < (M.length : Int)) by omega), if_pos (show (0 : Int) ≤ (i : Int) by omega), rdW M i hil, if_pos hm.1, if_pos hm.2, w64 (x := (i : Int) + 1) (by omega) (by omega), w64 (x := a + (rd_T59 l M[i]).f1) (by omega) (by omega), w64 (x := b + (rd_T59 l M[i]).f0) (by omega) (by omega)]
      exact this
  have := main M.length 0 0 0 (by omega) (by omega) (by omega) (by omega) (by omega)
  rw [List.drop_zero, Int.zero_add, Int.zero_add] at this
  exact this
theorem right_put {N : Nat} {T : List Int} {F F' : Int → Int → Prop} (h : rightT N T F) (t0 : Nat) (ht0 : t0 ≤ N) (w0 : Int) (hw : 0 ≤ w0) (hF : ∀ t v, F' t v ↔ F t v ∨ (t = t0 ∧ v = w0)) : rightT N (T.set t0 (mx (rd T (t0 : Int)) w0)) F' := by
  have hlen := h.1
  refine ⟨by rw [List.length_set]; exact hlen, fun t ht => ?_⟩
  rw [rd_set T t0 t _ (by omega) (by omega)]
  have ha := h.2 t ht
  by_cases e : t0 = t
  · subst e
    rw [if_pos rfl]
    refine Or.inr ?_
    have hB : F' t0 w0 := (hF _ _).2 (Or.inr ⟨rfl, rfl⟩)
    rcases ha with ⟨a1, a2⟩ | ⟨a1, a2, a3⟩
    · rw [show mx (rd T (t0 : Int)) w0 = w0 by rw [mx_def, if_pos (by omega)]]
      refine ⟨hB, hw, fun v hv => ?_⟩
      rcases (hF _ _).1 hv with h | h
      · exact absurd h (a2 _)
      · omega
    · refine ⟨?_, ?_, fun v hv => ?_⟩
      · rw [mx_def]; split
        · exact hB
        · exact (hF _ _).2 (Or.inl a1)
      · rw [mx_def]; split <;> omega
      · have : v ≤ rd T (t0 : Int) ∨ v ≤ w0 := by
          rcases (hF _ _).1 hv with h | h
          · exact Or.inl (a3 _ h)
          · exact Or.inr (by omega)
        rw [mx_def]; split <;> omega
  · rw [if_neg e]
    have hne : ∀ v, F' t v ↔ F t v := fun v => ⟨fun hv => by rcases (hF _ _).1 hv with h | h; exact h; omega, fun hv => (hF _ _).2 (Or.inl hv)⟩
    rcases ha with ⟨a1, a2⟩ | ⟨a1, a2, a3⟩
    · exact Or.inl ⟨a1, fun v hv => a2 _ ((hne _).1 hv)⟩
    · exact Or.inr ⟨(hne _).2 a1, a2, fun v hv => a3 _ ((hne _).1 hv)⟩
theorem weightTable_ev (l : List S59) (hg : goodB l = true) (N : Nat) (hN : N ≤ 1000) (hNt : timesL l = (N : Int)) : ∃ T : List Int, Ev (fun k => impl_weightTable.f k l) T ∧ rightT N T (famM l (2 ^ l.length)) := by
  have hl := good_len hg
  have hs := good_small hg
  have h8 := pow8 l.length hl
  have hmask : ∀ c : Nat, (∀ b ∈ blF c 0 l.length, inJ l.length b) ∧ (blF c 0 l.length).length ≤ 8 := by
    intro c
    rw [blF_ids c l.length l.length 0 (by omega), List.drop_zero]
    refine ⟨fun b hb => idsW_mem (List.mem_filter.1 hb).1, ?_⟩
    have := List.length_filter_le (bitP c) (idsW l.length)
    rw [idsW_len] at this
    omega
  have hbdm : ∀ c : Nat, 0 ≤ sumW (wtJ l) (blF c 0 l.length) ∧ 0 ≤ sumW (tmJ l) (blF c 0 l.length) ∧ sumW (tmJ l) (blF c 0 l.length) ≤ N := by
    intro c
    rw [blF_ids c l.length l.length 0 (by omega), List.drop_zero]
    have a := sumW_bd (wtJ l) 50 (bitP c) (idsW l.length) (fun a ha => by have := wt_bd hg (idsW_mem ha); omega)
    have b := sumW_bd (tmJ l) 50 (bitP c) (idsW l.length) (fun a ha => by have := wt_bd hg (idsW_mem ha); omega)
    have d := sumW_filter_le (tmJ l) (bitP c) (idsW l.length) (fun a ha => by have := wt_bd hg (idsW_mem ha); omega)
    have e := times_ids l l.length 0 (by omega)
    rw [List.drop_zero, List.drop_zero] at e
    omega
  have step : ∀ (d c : Nat) (T : List Int), c + d = 2 ^ l.length → rightT N T (famM l c) → ∃ T' : List Int, Ev (fun k => impl_weightTable.l1 k l T (c : Int)) T' ∧ rightT N T' (famM l (2 ^ l.length)) := by
    intro d
    induction d with
    | zero =>
      intro c T hc h
      refine ⟨T, ev_succ ?_, ?_⟩
      · simp only [impl_weightTable.l1, shl1 l.length (by omega), if_neg (show ¬ ((c : Int) < ((2 ^ l.length : Nat) : Int)) by omega)]
        exact ev_now _
      · rw [show c = 2 ^ l.length by omega] at h
        exact h
    | succ d ih =>
      intro c T hc h
      obtain ⟨hm1, hm2⟩ := hmask c
      obtain ⟨b1, b2, b3⟩ := hbdm c
      have hlen := h.1
      have hfam : ∀ t w, famM l (c + 1) t w ↔ famM l c t w ∨ (okL (tmJ l) (duJ l) 0 (dueU l (blF c 0 l.length)) = true ∧ t = sumW (tmJ l) (blF c 0 l.length) ∧ w = sumW (wtJ l) (blF c 0 l.length)) := by
        intro t w
        constructor
        · rintro ⟨m, hm, h1, h2, h3⟩
          rcases Nat.lt_or_ge m c with h | h
          · exact Or.inl ⟨m, h, h1, h2, h3⟩
          · have : m = c := by omega
            subst this
            exact Or.inr ⟨h1, h2.symm, h3.symm⟩
        · rintro (⟨m, hm, h1, h2, h3⟩ | ⟨h1, h2, h3⟩)
          · exact ⟨m, by omega, h1, h2, h3⟩
          · exact ⟨c, by omega, h1, h2.symm, h3.symm⟩
      have hw : wrap64 ((c : Int) + 1) = ((c + 1 : Nat) : Int) := by rw [w64 (by omega) (by omega)]; omega
      by_cases ho : okL (tmJ l) (duJ l) 0 (dueU l (blF c 0 l.length)) = true
      · obtain ⟨t0, ht0⟩ := Int.eq_ofNat_of_zero_le b2
        have hnext := right_put (F' := famM l (c + 1)) h t0 (by omega) (sumW (wtJ l) (blF c 0 l.length)) b1 (fun t v => by rw [hfam, ht0]; exact ⟨fun h => h.imp_right (fun h => h.2), fun h => h.imp_right (fun h => ⟨ho, h⟩)⟩)
        obtain ⟨T', hT', hr'⟩ := ih (c + 1) _ (by omega) hnext
        refine ⟨T', ev_succ ?_, hr'⟩
        simp only [impl_weightTable.l1, shl1 l.length (by omega), if_pos (show ((c : Int) < ((2 ^ l.length : Nat) : Int)) by omega)]
        refine ev_bind (listOf_ev c l.length hl (by omega)) (ev_bind (onTime_ev l hs _ hm1 (by omega)) ?_)
        simp only [ho, if_true]
        refine ev_bind (ratioOf_ev l hg _ hm1 hm2) ?_
        simp only [ht0, if_pos (show (0 : Int) ≤ ((t0 : Nat) : Int) by omega), if_pos (show ((t0 : Nat) : Int) < (T.length : Int) by omega), Int.toNat_natCast, hw]
        exact hT'
      · have hnext : rightT N T (famM l (c + 1)) := ⟨h.1, fun t ht => by
          have e : ∀ v, famM l (c + 1) t v ↔ famM l c t v := fun v => by rw [hfam]; exact ⟨fun h => by rcases h with h | h; exact h; exact absurd h.1 ho, Or.inl⟩
          rcases h.2 t ht with ⟨a1, a2⟩ | ⟨a1, a2, a3⟩
          · exact Or.inl ⟨a1, fun v hv => a2 _ ((e _).1 hv)⟩
          · exact Or.inr ⟨(e _).2 a1, a2, fun v hv => a3 _ ((e _).1 hv)⟩⟩
        obtain ⟨T', hT', hr'⟩ := ih (c + 1) _ (by omega) hnext
        refine ⟨T', ev_succ ?_, hr'⟩
        simp only [impl_weightTable.l1, shl1 l.length (by omega), if_pos (show ((c : Int) < ((2 ^ l.length : Nat) : Int)) by omega)]
        refine ev_bind (listOf_ev c l.length hl (by omega)) (ev_bind (onTime_ev l hs _ hm1 (by omega)) ?_)
        simp only [ho, Bool.false_eq_true, if_false, hw]
        exact hT'
  have h0 : rightT N (List.replicate (N + 1) (-1)) (famM l 0) := by
    refine ⟨by simp, fun t ht => Or.inl ⟨?_, ?_⟩⟩
    · rw [rdW _ t (by simp; omega), List.getElem_replicate]
    · rintro w ⟨m, hm, _⟩
      omega
  obtain ⟨T, hT, hr⟩ := step (2 ^ l.length) 0 _ (by omega) h0
  refine ⟨T, ?_, hr⟩
  unfold impl_weightTable.f
  refine ev_bind (totalOf_ev l hg) ?_
  have hw : wrap64 (timesL l + 1) = ((N + 1 : Nat) : Int) := by rw [hNt, w64 (by omega) (by omega)]; omega
  have main : ∀ (d i : Nat), i + d = N + 1 → Ev (fun k => impl_weightTable.l0 k l (List.replicate i (-1)) ((N + 1 : Nat) : Int) (i : Int)) T := by
    intro d
    induction d with
    | zero =>
      intro i hi
      refine ev_succ ?_
      simp only [impl_weightTable.l0, if_neg (show ¬ ((i : Int) < ((N + 1 : Nat) : Int)) by omega)]
      rw [show i = N + 1 by omega]
      exact hT
    | succ d ih =>
      intro i hi
      refine ev_succ ?_
      have := ih (i + 1) (by omega)
      rw [List.replicate_succ'] at this
      simp only [impl_weightTable.l0, if_pos (show ((i : Int) < ((N + 1 : Nat) : Int)) by omega), if_pos (show (List.replicate i (-1 : Int)).length < 17592186044416 by simp; omega), w64 (x := (i : Int) + 1) (by omega) (by omega)]
      exact this
  rw [hw]
  exact main (N + 1) 0 (by omega)

theorem numbersTo_l0 (n : Nat) (hn : n ≤ 1048576) : ∀ (d i : Nat), i + d = n → Ev (fun k => impl_numbersTo.l0 k (n : Int) (idsW i) (i : Int)) (idsW n) := by
  intro d
  induction d with
  | zero =>
    intro i hi
    refine ev_succ ?_
    simp only [impl_numbersTo.l0, if_neg (show ¬ ((i : Int) < n) by omega)]
    rw [show i = n by omega]
    exact ev_now _
  | succ d ih =>
    intro i hi
    refine ev_succ ?_
    simp only [impl_numbersTo.l0, if_pos (show (i : Int) < n by omega), if_pos (show (idsW i).length < 17592186044416 by rw [idsW_len]; omega), w64 (x := (i : Int) + 1) (by omega) (by omega)]
    have := ih (i + 1) (by omega)
    rw [idsW_succ] at this
    exact this
theorem numbersTo_ev (n : Nat) (hn : n ≤ 1048576) : Ev (fun k => impl_numbersTo.f k (n : Int)) (idsW n) := numbersTo_l0 n hn n 0 (by omega)

def lmost (a b : Int) : Int := if a > b then a else b
theorem l1Most_eq (a b : Int) : spec_l1Most.f a b = some (lmost a b) := by
  unfold spec_l1Most.f lmost
  split <;> rfl
theorem lmost_mx (a b : Int) : mx b a = lmost a b := by
  unfold lmost mx
  by_cases h : a > b
  · rw [if_pos h]
  · rw [if_neg h]
def timeF (xs : List S59) (j : Nat) : Int := (rd_T59 xs (j : Int)).f0
theorem time_ok {xs : List S59} (hg : goodB xs = true) (j : Nat) (hj : j < xs.length) : 1 ≤ timeF xs j ∧ timeF xs j ≤ 50 := by
  unfold timeF
  rw [rdI xs j hj]
  have := good_at hg j hj
  omega

theorem mx_lmost (a b : Int) : mx a b = lmost a b := by
  unfold lmost mx
  by_cases h : a < b
  · rw [if_pos h, if_neg (by omega)]
  · rw [if_neg h]; split <;> omega
def lastL (acc : Int) (ls : List Int) : Int := ls.foldl lmost acc
theorem l2Last_ev (ls : List Int) (hn : ls.length ≤ 1048576) : Ev (fun k => spec_l2Last.f k ls) (lastL 0 ls) := by
  have key : ∀ (d i : Nat) (acc : Int), i + d = ls.length → Ev (fun k => spec_l2Last.l0 k ls acc (i : Int)) (lastL acc (ls.drop i)) := by
    intro d
    induction d with
    | zero =>
      intro i acc hi
      refine ev_succ ?_
      simp only [spec_l2Last.l0, if_neg (show ¬ (i : Int) < (ls.length : Int) by omega), List.drop_of_length_le (show ls.length ≤ i by omega)]
      exact ev_now _
    | succ d ih =>
      intro i acc hi
      refine ev_succ ?_
      have hx : i < ls.length := by omega
      rw [List.drop_eq_getElem_cons hx]
      simp only [spec_l2Last.l0, if_pos (show (i : Int) < (ls.length : Int) by omega), if_pos (show (0 : Int) ≤ (i : Int) by omega), rdz ls i hx, l1Most_eq, Option.bind_some, wsucc i (by omega)]
      exact ih (i + 1) _ (by omega)
  unfold spec_l2Last.f
  exact key ls.length 0 0 (Nat.zero_add _)

theorem times_bd (l : List S59) (hg : goodB l = true) : 0 ≤ timesL l ∧ timesL l ≤ 400 := by
  have hl := good_len hg
  have e := times_ids l l.length 0 (by omega)
  rw [List.drop_zero, List.drop_zero] at e
  have b := sumW_bd (tmJ l) 50 (fun _ => true) (idsW l.length) (fun a ha => by have := wt_bd hg (idsW_mem ha); omega)
  rw [List.filter_eq_self.2 (fun _ _ => rfl), idsW_len] at b
  omega

theorem core (l : List S59) (hm : l.length ≤ 1048576) (_ : ∀ (i : Nat) (hi : i < l.length), I64 l[i].f0 ∧ I64 l[i].f1 ∧ I64 l[i].f2 ∧ I64 l[i].f3) :
    ∃ (r : Int) (ok : Bool), True ∧ Ev (fun k => spec_LeastLateWeight.f k l) (r, ok) ∧ Ev (fun k => impl_LeastLateWeight.f k l) (r, ok) := by
  have h1 := l6Good_ev l (by omega)
  have h2 := IsPlain_ev l (by omega)
  unfold spec_LeastLateWeight.f impl_LeastLateWeight.f
  cases hp : plainB l
  · rw [hp] at h1 h2
    exact ⟨0, false, trivial, ev_bind h1 (by simp only [Bool.false_eq_true, if_false]; exact ev_now _), ev_bind h2 (by simp only [Bool.false_eq_true, if_false]; exact ev_now _)⟩
  rw [hp] at h1 h2
  have hg := plain_good hp
  have hl := good_len hg
  have hb := times_bd l hg
  obtain ⟨N, hN⟩ := Int.eq_ofNat_of_zero_le hb.1
  obtain ⟨T, hT, hr⟩ := l6Table_ev l hg N (by omega) hN
  obtain ⟨T', hT', hr'⟩ := weightTable_ev l hg N (by omega) hN
  have e : T = T' := right_unique hr hr' (fam_same l (good_small hg))
  subst e
  have hTn := hr.1
  refine ⟨wrap64 (sumW (wtJ l) (idsW l.length) - lastL 0 T), true, trivial, ev_bind h1 ?_, ev_bind h2 ?_⟩ <;> simp only [if_true]
  · have main : ∀ (d i : Nat) (a : Int), i + d = l.length → 0 ≤ a → a ≤ 50 * i → Ev (fun k => spec_LeastLateWeight.l0 k l a (i : Int)) (wrap64 (a + sumW (wtJ l) ((idsW l.length).drop i) - lastL 0 T), true) := by
      intro d
      induction d with
      | zero =>
        intro i a hi _ _
        refine ev_succ ?_
        simp only [spec_LeastLateWeight.l0, if_neg (show ¬ ((i : Int) < (l.length : Int)) by omega)]
        rw [List.drop_eq_nil_of_le (by rw [idsW_len]; omega), sumW, Int.add_zero]
        exact ev_bind hT (ev_bind (l2Last_ev T (by omega)) (ev_now _))
      | succ d ih =>
        intro i a hi h0 h5
        refine ev_succ ?_
        have hil : i < l.length := by omega
        have hx := wt_bd hg (show inJ l.length (i : Int) from ⟨by omega, by omega⟩)
        have hx' := hx
        unfold wtJ at hx'
        have := ih (i + 1) (a + (rd_T59 l (i : Int)).f1) (by omega) (by omega) (by omega)
        rw [idsW_drop hil, sumW, show a + (wtJ l (i : Int) + sumW (wtJ l) ((idsW l.length).drop (i + 1))) = a + (rd_T59 l (i : Int)).f1 + sumW (wtJ l) ((idsW l.length).drop (i + 1)) by unfold wtJ; omega]
        simp only [spec_LeastLateWeight.l0, if_pos (show ((i : Int) < (l.length : Int)) by omega), if_pos (show (0 : Int) ≤ (i : Int) by omega), w64 (x := (i : Int) + 1) (by omega) (by omega), w64 (x := a + (rd_T59 l (i : Int)).f1) (by omega) (by omega)]
        exact this
    have := main l.length 0 0 (by omega) (by omega) (by omega)
    rw [List.drop_zero, Int.zero_add] at this
    exact this
  · refine ev_bind hT' ?_
    have main : ∀ (d i : Nat) (a : Int), i + d = T.length → Ev (fun k => impl_LeastLateWeight.l0 k l a T (T.length : Int) (i : Int)) (wrap64 (sumW (wtJ l) (idsW l.length) - lastL a (T.drop i)), true) := by
      intro d
      induction d with
      | zero =>
        intro i a hi
        refine ev_succ ?_
        simp only [impl_LeastLateWeight.l0, if_neg (show ¬ ((i : Int) < (T.length : Int)) by omega)]
        rw [List.drop_eq_nil_of_le (by omega)]
        refine ev_bind (numbersTo_ev l.length (by omega)) (ev_bind (ratioOf_ev l hg (idsW l.length) (fun b hb => idsW_mem hb) (by rw [idsW_len]; exact hl)) ?_)
        exact ev_now _
      | succ d ih =>
        intro i a hi
        refine ev_succ ?_
        have hil : i < T.length := by omega
        have := ih (i + 1) (mx a (rd T (i : Int))) (by omega)
        rw [List.drop_eq_getElem_cons hil]
        have e : lastL a (T[i] :: T.drop (i + 1)) = lastL (mx a (rd T (i : Int))) (T.drop (i + 1)) := by
          rw [rdW T i hil, mx_lmost]; rfl
        rw [e]
        simp only [impl_LeastLateWeight.l0, if_pos (show ((i : Int) < (T.length : Int)) by omega), if_pos (show (0 : Int) ≤ (i : Int) by omega), w64 (x := (i : Int) + 1) (by omega) (by omega)]
        exact this
    have := main T.length 0 0 (by omega)
    rw [List.drop_zero] at this
    exact this

theorem FnExactLeastLateWeight : FnExactLeastLateWeight.Claim := by
  intro l0 hl0 hg0
  refine Ev.rounds ?_
  unfold laws_FnExactLeastLateWeight.f
  simp only [szJobS_eq l0 (1048576 : Int) (by omega) (by omega) hl0, Option.bind_some]
  by_cases h0 : (1048576 : Int) < l0.length
  · simp only [if_pos h0, if_pos (show (-1 : Int) < 0 by omega)]
    exact ev_now _
  simp only [if_neg h0, if_neg (show ¬ (((1048576 : Int) - l0.length) < 0) by omega)]
  have ht0 := toJobS_ev l0 (by omega)
  have hm0 : (l0.map conv).length ≤ 1048576 := by simp; omega
  have hq0 := eqJobS_ev (l0.map conv) (by omega)
  obtain ⟨r0, r1, _, hs, hi⟩ := core (l0.map conv) hm0 (conv_I64 l0 hg0)
  repeat first
    | exact ev_now _
    | with_reducible refine ev_bind hs ?_
    | with_reducible refine ev_bind hi ?_
    | with_reducible refine ev_bind ht0 ?_
    | with_reducible refine ev_bind hq0 ?_
    | simp only [if_true, if_false, bne_self_eq_false, Bool.false_eq_true]
    | (refine ev_succ ?_; simp only [laws_FnExactLeastLateWeight.j0])

end Go.Proofs.Ythhmembnhnghiaa.Pure
