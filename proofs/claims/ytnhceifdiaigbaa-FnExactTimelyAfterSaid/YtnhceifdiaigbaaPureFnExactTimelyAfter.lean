/- The program's function and the reference's come to the same answer: the statement of numbers and lists behind the law FnExactTimelyAfter. Conditions: none. -/
import Derived.Test.YtnhceifdiaigbaaArgFnExactTimelyAfter
import Derived.Test.YtnhceifdiaigbaaBase
namespace Go.Proofs.Ytnhceifdiaigbaa.Pure
open Go.RowKit Go.Proofs.Ytnhceifdiaigbaa.OFnExactTimelyAfter Go.Proofs.Ytnhceifdiaigbaa.Base Go.Proofs.YtnhceifdiaigbaaW.PrintWords Go.Proofs.YtnhceifdiaigbaaW.PrintLast Go.Proofs.YtnhceifdiaigbaaW.PrintMore Go.Proofs.Ytnhceifdiaigbaa.Open
set_option linter.unusedVariables false
set_option linter.unusedSimpArgs false

theorem szJobS_eq (xs : List S67) (left : Int) (h0 : 0 ≤ left) (h1 : left ≤ 1048576) (h : xs.length ≤ 9223372036854775807) : laws_szJobS.f xs left = some (if left < xs.length then -1 else left - xs.length) := by
  unfold laws_szJobS.f
  rw [w64 (by omega) (by omega)]
  by_cases c : left < xs.length
  · rw [if_pos (by omega), if_pos c]
  · rw [if_neg (by omega), if_neg c]

def conv (x : S67) : S63 := ⟨x.f0, x.f1, x.f2, x.f3⟩
theorem rdL (xs : List S67) (i : Nat) (h : i < xs.length) : rd_T67 xs (i : Int) = xs[i] := by
  unfold rd_T67
  rw [Int.toNat_natCast, List.getD_eq_getElem?_getD, List.getElem?_eq_getElem h]
  rfl

theorem toJobS_l (xs : List S67) (hn : xs.length ≤ 8796093022208) : ∀ (d i : Nat) (ys : List S63), i + d = xs.length → ys.length = xs.length → ys.take i = (xs.map conv).take i → Ev (fun k => laws_toJobS.l0 k xs ys (i : Int)) (xs.map conv) := by
  intro d
  induction d with
  | zero =>
    intro i ys hi hl ht
    refine ev_succ ?_
    simp only [laws_toJobS.l0, if_neg (show ¬ (i : Int) < (xs.length : Int) by omega)]
    have : ys = xs.map conv := by
      rw [List.take_of_length_le (by omega), List.take_of_length_le (by simp; omega)] at ht
      exact ht
    rw [this]
    exact ev_now _
  | succ d ih =>
    intro i ys hi hl ht
    refine ev_succ ?_
    have hx : i < xs.length := by omega
    simp only [laws_toJobS.l0, laws_toJob.f, Option.bind_some, if_pos (show (i : Int) < (xs.length : Int) by omega), if_pos (show (i : Int) < (ys.length : Int) by omega), if_pos (show (0 : Int) ≤ (i : Int) by omega), rdL xs i hx, wsucc i (by omega), Int.toNat_natCast]
    refine ih (i + 1) _ (by omega) (by rw [List.length_set]; exact hl) ?_
    rw [take_set_succ ys i _ (by omega), ht, List.take_succ_eq_append_getElem (by simp; omega)]
    simp [conv]
theorem toJobS_ev (xs : List S67) (hn : xs.length ≤ 1048576) : Ev (fun k => laws_toJobS.f k xs) (xs.map conv) := by
  unfold laws_toJobS.f
  simp only [if_pos (show (0 : Int) ≤ (xs.length : Int) by omega), Int.toNat_natCast, if_pos (show xs.length ≤ 8796093022208 by omega)]
  exact toJobS_l xs (by omega) xs.length 0 _ (by omega) (by simp) (by simp)

theorem rdI (xs : List S63) (i : Nat) (h : i < xs.length) : rd_T63 xs (i : Int) = xs[i] := by
  unfold rd_T63
  rw [Int.toNat_natCast, List.getD_eq_getElem?_getD, List.getElem?_eq_getElem h]
  rfl

theorem eqJobS_l (xs : List S63) (hn : xs.length ≤ 4611686018427387904) : ∀ (d i : Nat), i + d = xs.length → Ev (fun k => laws_eqJobS.l0 k xs xs (i : Int)) true := by
  intro d
  induction d with
  | zero =>
    intro i hi
    refine ev_succ ?_
    simp only [laws_eqJobS.l0, if_neg (show ¬ (i : Int) < (xs.length : Int) by omega)]
    exact ev_now _
  | succ d ih =>
    intro i hi
    refine ev_succ ?_
    simp only [laws_eqJobS.l0, laws_eqJob.f, if_true, Option.bind_some, if_pos (show (i : Int) < (xs.length : Int) by omega), if_pos (show (0 : Int) ≤ (i : Int) by omega), wsucc i (by omega)]
    exact ih (i + 1) (by omega)
theorem eqJobS_ev (xs : List S63) (hn : xs.length ≤ 4611686018427387904) : Ev (fun k => laws_eqJobS.f k xs xs) true := by
  unfold laws_eqJobS.f
  simp only [if_true]
  exact eqJobS_l xs hn xs.length 0 (by omega)

theorem conv_I64 (l : List S67) (hg : ∀ x ∈ l, G67 x) (i : Nat) (hi : i < (l.map conv).length) : I64 (l.map conv)[i].f0 ∧ I64 (l.map conv)[i].f1 ∧ I64 (l.map conv)[i].f2 ∧ I64 (l.map conv)[i].f3 := by
  simp only [List.getElem_map, conv]
  exact hg _ (List.getElem_mem _)

theorem within_eq (a b c : Int) : impl_within.f a b c = some (decide (b ≤ a) && decide (a ≤ c)) := by
  unfold impl_within.f
  by_cases h : b ≤ a
  · rw [if_pos h]; simp [h]
  · rw [if_neg h]; simp [h]

/-- A job's numbers are in their bounds. -/
def okJ (x : S63) : Bool := decide (1 ≤ x.f0) && (decide (x.f0 ≤ 50) && (decide (0 ≤ x.f1) && (decide (x.f1 ≤ 50) && (decide (0 ≤ x.f2) && (decide (x.f2 ≤ 500) && (decide (0 ≤ x.f3) && decide (x.f3 ≤ 500)))))))
def goodB (l : List S63) : Bool := decide (l.length ≤ 8) && l.all okJ
theorem isDate_eq (a : Int) : impl_isDate.f a = some (decide (0 ≤ a) && decide (a ≤ 500)) := by
  unfold impl_isDate.f
  rw [within_eq]
  rfl
theorem job_chain (x : S63) (o : Option Bool) : (if (decide (1 ≤ x.f0) && decide (x.f0 ≤ 50)) = true then (if (decide (0 ≤ x.f1) && decide (x.f1 ≤ 50)) = true then (if (decide (0 ≤ x.f2) && decide (x.f2 ≤ 500)) = true then (if (decide (0 ≤ x.f3) && decide (x.f3 ≤ 500)) = true then o else some false) else some false) else some false) else some false) = if okJ x = true then o else some false := by
  unfold okJ
  by_cases a1 : 1 ≤ x.f0 <;> by_cases a2 : x.f0 ≤ 50 <;> simp [a1, a2]
  by_cases b1 : 0 ≤ x.f1 <;> by_cases b2 : x.f1 ≤ 50 <;> simp [b1, b2]
  by_cases c1 : 0 ≤ x.f2 <;> by_cases c2 : x.f2 ≤ 500 <;> simp [c1, c2]
theorem IsJobs_l (xs : List S63) (hn : xs.length ≤ 4611686018427387904) : ∀ (d i : Nat), i + d = xs.length → Ev (fun k => impl_IsJobs.l0 k xs (xs.length : Int) (i : Int)) ((xs.drop i).all okJ) := by
  intro d
  induction d with
  | zero =>
    intro i hi
    refine ev_succ ?_
    simp only [impl_IsJobs.l0, if_neg (show ¬ (i : Int) < (xs.length : Int) by omega), List.drop_of_length_le (show xs.length ≤ i by omega)]
    exact ev_now _
  | succ d ih =>
    intro i hi
    refine ev_succ ?_
    have hx : i < xs.length := by omega
    have hih := ih (i + 1) (by omega)
    rw [List.drop_eq_getElem_cons hx, List.all_cons]
    simp only [impl_IsJobs.l0, within_eq, isDate_eq, Option.bind_some, if_pos (show (i : Int) < (xs.length : Int) by omega), if_pos (show (0 : Int) ≤ (i : Int) by omega), wsucc i (by omega), rdI xs i hx]
    generalize xs[i] = x at *
    simp only [job_chain]
    by_cases c : okJ x = true
    · simpa only [c, if_true, Bool.true_and] using hih
    · have c' : okJ x = false := by simpa using c
      simp only [c', Bool.false_and]
      exact ev_now _
theorem IsJobs_ev (xs : List S63) (hn : xs.length ≤ 4611686018427387904) : Ev (fun k => impl_IsJobs.f k xs) (goodB xs) := by
  unfold impl_IsJobs.f goodB
  by_cases h : xs.length ≤ 8
  · simp only [if_neg (show ¬ ((xs.length : Int) > 8) by omega), decide_eq_true h, Bool.true_and]
    exact IsJobs_l xs hn xs.length 0 (by omega)
  · simp only [if_pos (show ((xs.length : Int) > 8) by omega), decide_eq_false h, Bool.false_and]
    exact ev_now _

def freeJ (x : S63) : Bool := decide (x.f2 = 0)
def plainB (l : List S63) : Bool := goodB l && l.all freeJ
theorem isPlain_l (xs : List S63) (hn : xs.length ≤ 4611686018427387904) : ∀ (d i : Nat), i + d = xs.length → Ev (fun k => impl_isPlain.l0 k xs (xs.length : Int) (i : Int)) ((xs.drop i).all freeJ) := by
  intro d
  induction d with
  | zero =>
    intro i hi
    refine ev_succ ?_
    simp only [impl_isPlain.l0, if_neg (show ¬ (i : Int) < (xs.length : Int) by omega), List.drop_of_length_le (show xs.length ≤ i by omega)]
    exact ev_now _
  | succ d ih =>
    intro i hi
    refine ev_succ ?_
    have hx : i < xs.length := by omega
    have hih := ih (i + 1) (by omega)
    rw [List.drop_eq_getElem_cons hx, List.all_cons]
    simp only [impl_isPlain.l0, if_pos (show (i : Int) < (xs.length : Int) by omega), if_pos (show (0 : Int) ≤ (i : Int) by omega), wsucc i (by omega), rdI xs i hx]
    by_cases c : (xs[i]).f2 = 0
    · simp only [if_pos c, freeJ, decide_eq_true c, Bool.true_and]
      exact hih
    · simp only [if_neg c, freeJ, decide_eq_false c, Bool.false_and]
      exact ev_now _
theorem isPlain_ev (xs : List S63) (hn : xs.length ≤ 4611686018427387904) : Ev (fun k => impl_isPlain.f k xs) (xs.all freeJ) := by
  unfold impl_isPlain.f
  exact isPlain_l xs hn xs.length 0 (by omega)

theorem IsPlain_ev (xs : List S63) (hn : xs.length ≤ 4611686018427387904) : Ev (fun k => impl_IsPlain.f k xs) (plainB xs) := by
  unfold impl_IsPlain.f plainB
  refine ev_bind (IsJobs_ev xs hn) ?_
  cases goodB xs
  · simp only [Bool.false_eq_true, if_false, Bool.false_and]; exact ev_now _
  · simp only [if_true, Bool.true_and]; exact ev_bind (isPlain_ev xs hn) (ev_now _)

theorem l1In_eq (a b c : Int) : spec_l1In.f a b c = some (decide (b ≤ a) && decide (a ≤ c)) := by
  unfold spec_l1In.f
  by_cases h : b ≤ a
  · rw [if_pos h]; simp [h]
  · rw [if_neg h]; simp [h]

theorem l2Job_eq (x : S63) : spec_l2Job.f x.f0 x.f1 x.f2 x.f3 = some (okJ x) := by
  unfold spec_l2Job.f okJ
  simp only [l1In_eq, Option.bind_some]
  by_cases a1 : 1 ≤ x.f0 <;> by_cases a2 : x.f0 ≤ 50 <;> simp [a1, a2]
  by_cases b1 : 0 ≤ x.f1 <;> by_cases b2 : x.f1 ≤ 50 <;> simp [b1, b2]
  by_cases c1 : 0 ≤ x.f2 <;> by_cases c2 : x.f2 ≤ 500 <;> simp [c1, c2]
theorem l2Good_l (xs : List S63) (hn : xs.length ≤ 4611686018427387904) : ∀ (d i : Nat), i + d = xs.length → Ev (fun k => spec_l2Good.l0 k xs (i : Int)) ((xs.drop i).all okJ && decide (xs.length ≤ 8)) := by
  intro d
  induction d with
  | zero =>
    intro i hi
    refine ev_succ ?_
    simp only [spec_l2Good.l0, if_neg (show ¬ (i : Int) < (xs.length : Int) by omega), List.drop_of_length_le (show xs.length ≤ i by omega)]
    refine ev_const ?_
    simp
    omega
  | succ d ih =>
    intro i hi
    refine ev_succ ?_
    have hx : i < xs.length := by omega
    have hih := ih (i + 1) (by omega)
    rw [List.drop_eq_getElem_cons hx, List.all_cons]
    simp only [spec_l2Good.l0, if_pos (show (i : Int) < (xs.length : Int) by omega), if_pos (show (0 : Int) ≤ (i : Int) by omega), wsucc i (by omega), rdI xs i hx, l2Job_eq, Option.bind_some]
    by_cases c : okJ xs[i] = true
    · simpa only [c, if_true, Bool.true_and] using hih
    · have c' : okJ xs[i] = false := by simpa using c
      simp only [c', Bool.false_and]
      exact ev_now _
theorem l2Good_ev (xs : List S63) (hn : xs.length ≤ 4611686018427387904) : Ev (fun k => spec_l2Good.f k xs) (goodB xs) := by
  unfold spec_l2Good.f goodB
  rw [Bool.and_comm]
  exact l2Good_l xs hn xs.length 0 (by omega)

def freeJ' (x : S63) : Bool := decide (¬ x.f2 > 0)
theorem l4Free_l (xs : List S63) (hn : xs.length ≤ 4611686018427387904) : ∀ (d i : Nat), i + d = xs.length → Ev (fun k => spec_l4Free.l0 k xs (i : Int)) ((xs.drop i).all freeJ') := by
  intro d
  induction d with
  | zero =>
    intro i hi
    refine ev_succ ?_
    simp only [spec_l4Free.l0, if_neg (show ¬ (i : Int) < (xs.length : Int) by omega), List.drop_of_length_le (show xs.length ≤ i by omega)]
    exact ev_now _
  | succ d ih =>
    intro i hi
    refine ev_succ ?_
    have hx : i < xs.length := by omega
    have hih := ih (i + 1) (by omega)
    rw [List.drop_eq_getElem_cons hx, List.all_cons]
    simp only [spec_l4Free.l0, if_pos (show (i : Int) < (xs.length : Int) by omega), if_pos (show (0 : Int) ≤ (i : Int) by omega), wsucc i (by omega), rdI xs i hx]
    by_cases c : (xs[i]).f2 > 0
    · simp only [if_pos c, freeJ', decide_eq_false (show ¬ ¬ (xs[i]).f2 > 0 by omega), Bool.false_and]
      exact ev_now _
    · simp only [if_neg c, freeJ', decide_eq_true c, Bool.true_and]
      exact hih
theorem l4Free_ev (xs : List S63) (hn : xs.length ≤ 4611686018427387904) : Ev (fun k => spec_l4Free.f k xs) (xs.all freeJ') := by
  unfold spec_l4Free.f
  exact l4Free_l xs hn xs.length 0 (by omega)
theorem good_free (xs : List S63) (h : goodB xs = true) : xs.all freeJ' = xs.all freeJ := by
  unfold goodB at h
  simp only [Bool.and_eq_true, List.all_eq_true] at h
  rw [Bool.eq_iff_iff]
  simp only [List.all_eq_true]
  constructor
  · intro hh x hx
    have a := hh x hx
    have b := h.2 x hx
    simp only [okJ, Bool.and_eq_true, decide_eq_true_eq] at b
    simp only [freeJ', decide_eq_true_eq] at a
    simp only [freeJ, decide_eq_true_eq]
    omega
  · intro hh x hx
    have a := hh x hx
    simp only [freeJ, decide_eq_true_eq] at a
    simp only [freeJ', decide_eq_true_eq]
    omega

theorem l6Good_ev (xs : List S63) (hn : xs.length ≤ 4611686018427387904) : Ev (fun k => spec_l6Good.f k xs) (plainB xs) := by
  unfold spec_l6Good.f plainB
  refine ev_bind (l2Good_ev xs hn) ?_
  cases hg : goodB xs
  · simp only [Bool.false_eq_true, if_false, Bool.false_and]; exact ev_now _
  · simp only [if_true, Bool.true_and]
    rw [← good_free xs hg]
    exact ev_bind (l4Free_ev xs hn) (ev_now _)

theorem plain_good {xs : List S63} (h : plainB xs = true) : goodB xs = true := by
  unfold plainB at h
  simp only [Bool.and_eq_true] at h
  exact h.1

/-- Where a number goes among sorted ones: ahead of the first that it comes ahead of. -/
def posW (lt : Int → Int → Bool) (i : Int) (o : List Int) : Nat := o.findIdx (fun b => lt i b)
def insW (lt : Int → Int → Bool) (i : Int) (o : List Int) : List Int := o.take (posW lt i o) ++ i :: o.drop (posW lt i o)
def sortW (lt : Int → Int → Bool) : List Int → List Int → List Int
  | [], o => o
  | i :: t, o => sortW lt t (insW lt i o)
structure OrdW (lt : Int → Int → Bool) (D : Int → Prop) : Prop where
  asym : ∀ a b, D a → D b → lt a b = true → lt b a = false
  co : ∀ i a b, D i → D a → D b → lt i a = true → lt b a = false → lt i b = true
abbrev SortedW (lt : Int → Int → Bool) (o : List Int) : Prop := o.Pairwise (fun a b => lt b a = false)
theorem posW_le (lt : Int → Int → Bool) (i : Int) (o : List Int) : posW lt i o ≤ o.length := List.findIdx_le_length
theorem posW_before {lt : Int → Int → Bool} {i : Int} {o : List Int} {j : Nat} (h : j < posW lt i o) : lt i (o[j]'(Nat.lt_of_lt_of_le h (posW_le _ _ _))) = false := by
  have := List.not_of_lt_findIdx (p := fun b => lt i b) h
  simpa using this
theorem posW_at {lt : Int → Int → Bool} {i : Int} {o : List Int} (h : posW lt i o < o.length) : lt i (o[posW lt i o]'h) = true := List.findIdx_getElem (w := h)
theorem posW_behind {lt : Int → Int → Bool} {D : Int → Prop} (H : OrdW lt D) {i : Int} {o : List Int} (hi : D i) (ho : ∀ b ∈ o, D b) (hs : SortedW lt o) {j : Nat} (hj : posW lt i o ≤ j) (hl : j < o.length) : lt i (o[j]'hl) = true := by
  have hp : posW lt i o < o.length := by omega
  have h0 := posW_at hp
  rcases Nat.lt_or_ge (posW lt i o) j with h | h
  · have h1 := List.pairwise_iff_getElem.1 hs _ _ hp hl h
    exact H.co i _ _ hi (ho _ (List.getElem_mem hp)) (ho _ (List.getElem_mem hl)) h0 h1
  · have : j = posW lt i o := by omega
    subst this
    exact h0
theorem insW_perm (lt : Int → Int → Bool) (i : Int) (o : List Int) : (insW lt i o).Perm (i :: o) := by
  unfold insW
  refine List.perm_middle.trans ?_
  rw [List.take_append_drop]
theorem insW_sorted {lt : Int → Int → Bool} {D : Int → Prop} (H : OrdW lt D) {i : Int} {o : List Int} (hi : D i) (ho : ∀ b ∈ o, D b) (hs : SortedW lt o) : SortedW lt (insW lt i o) := by
  unfold insW SortedW
  rw [List.pairwise_append]
  refine ⟨hs.sublist (List.take_sublist _ _), List.pairwise_cons.2 ⟨?_, hs.sublist (List.drop_sublist _ _)⟩, ?_⟩
  · intro b hb
    obtain ⟨j, hj, rfl⟩ := List.mem_iff_getElem.1 hb
    rw [List.getElem_drop]
    have hl : posW lt i o + j < o.length := by rw [List.length_drop] at hj; omega
    exact H.asym _ _ hi (ho _ (List.getElem_mem hl)) (posW_behind H hi ho hs (by omega) hl)
  · intro a ha b hb
    obtain ⟨j, hj, rfl⟩ := List.mem_iff_getElem.1 ha
    have hjp : j < posW lt i o := by rw [List.length_take] at hj; omega
    rw [List.getElem_take]
    rcases List.mem_cons.1 hb with rfl | hb
    · exact posW_before hjp
    · obtain ⟨q, hq, rfl⟩ := List.mem_iff_getElem.1 hb
      have hl : posW lt i o + q < o.length := by rw [List.length_drop] at hq; omega
      rw [List.getElem_drop]
      exact List.pairwise_iff_getElem.1 hs _ _ _ hl (by omega)
theorem sortW_perm (lt : Int → Int → Bool) : ∀ (l o : List Int), (sortW lt l o).Perm (l ++ o)
  | [], o => by unfold sortW; exact List.Perm.refl _
  | i :: t, o => by
    unfold sortW
    refine (sortW_perm lt t _).trans ?_
    refine ((List.Perm.append_left t (insW_perm lt i o))).trans ?_
    exact List.perm_middle
theorem sortW_sorted {lt : Int → Int → Bool} {D : Int → Prop} (H : OrdW lt D) : ∀ (l o : List Int), (∀ b ∈ l, D b) → (∀ b ∈ o, D b) → SortedW lt o → SortedW lt (sortW lt l o)
  | [], o, _, _, hs => by unfold sortW; exact hs
  | i :: t, o, hl, ho, hs => by
    unfold sortW
    refine sortW_sorted H t _ (fun b hb => hl b (by simp [hb])) ?_ (insW_sorted H (hl i (by simp)) ho hs)
    intro b hb
    rcases List.mem_cons.1 ((insW_perm lt i o).mem_iff.1 hb) with rfl | h
    · exact hl _ (by simp)
    · exact ho b h
theorem rdW (o : List Int) (n : Nat) (h : n < o.length) : rd o (n : Int) = o[n] := by
  simp [rd]
  rw [List.getElem?_eq_getElem h]; rfl
theorem sbK_pos {p : Int → Option Bool} {f : Int → Bool} {o : List Int} {t : Nat} (hp : ∀ b ∈ o, p b = some (f b)) (ht : t ≤ o.length) (h1 : ∀ j (hj : j < o.length), t ≤ j → f o[j] = true) (h2 : ∀ j (hj : j < o.length), j < t → f o[j] = false) :
    ∀ n, n ≤ o.length → t ≤ n → sbK p o n = some t
  | 0, _, h => by
    have : t = 0 := by omega
    subst this
    rfl
  | n + 1, hn, h => by
    unfold sbK
    rw [rdW o n (by omega), hp _ (List.getElem_mem (by omega)), Option.bind_some]
    rcases Nat.lt_or_ge n t with hlt | hge
    · rw [h2 n (by omega) hlt, if_neg (by simp)]
      congr 1; omega
    · rw [h1 n (by omega) hge, if_pos rfl]
      exact sbK_pos hp ht h1 h2 n (by omega) hge
theorem sbL_eq {p : Int → Int → Option Bool} {lt : Int → Int → Bool} {D : Int → Prop} (H : OrdW lt D) (hp : ∀ a b, D a → D b → p a b = some (lt a b)) : ∀ (l o : List Int), (∀ b ∈ l, D b) → (∀ b ∈ o, D b) → SortedW lt o → sbL p l o = some (sortW lt l o)
  | [], o, _, _, _ => rfl
  | i :: t, o, hl, ho, hs => by
    have hi : D i := hl i (by simp)
    unfold sbL sortW
    rw [sbK_pos (f := fun b => lt i b) (t := posW lt i o) (fun b hb => hp i b hi (ho b hb)) (posW_le _ _ _) (fun j hj h => posW_behind H hi ho hs h hj) (fun j hj h => posW_before h) _ (Nat.le_refl _) (posW_le _ _ _), Option.bind_some]
    refine sbL_eq H hp t _ (fun b hb => hl b (by simp [hb])) ?_ (insW_sorted H hi ho hs)
    intro b hb
    rcases List.mem_cons.1 ((insW_perm lt i o).mem_iff.1 hb) with rfl | h
    · exact hi
    · exact ho b h
/-- Two sorted forms of the same numbers, where no two tie. -/
theorem sortedW_unique {lt : Int → Int → Bool} {a b : List Int} (hd : ∀ x ∈ a, ∀ y ∈ b, lt x y = false → lt y x = false → x = y) (ha : SortedW lt a) (hb : SortedW lt b) (hp : a.Perm b) : a = b :=
  List.Perm.eq_of_pairwise (fun x y hx hy h1 h2 => hd x hx y hy h2 h1) ha hb hp
theorem sortW_append (lt : Int → Int → Bool) : ∀ (a b o : List Int), sortW lt (a ++ b) o = sortW lt b (sortW lt a o)
  | [], b, o => rfl
  | i :: t, b, o => by simp only [List.cons_append, sortW]; exact sortW_append lt t b _

/-- Is nobody late, one behind the other? -/
def okL (tm du : Int → Int) : Int → List Int → Bool
  | _, [] => true
  | t, i :: L => if t + tm i > du i then false else okL tm du (t + tm i) L
def sumW (tm : Int → Int) : List Int → Int
  | [] => 0
  | i :: L => tm i + sumW tm L
theorem sumW_perm (tm : Int → Int) {A B : List Int} (h : A.Perm B) : sumW tm A = sumW tm B := by
  induction h with
  | nil => rfl
  | cons x _ ih => simp only [sumW, ih]
  | swap x y l => simp only [sumW]; omega
  | trans _ _ h1 h2 => rw [h1, h2]
theorem sumW_nonneg (tm : Int → Int) : ∀ A : List Int, (∀ a ∈ A, 0 ≤ tm a) → 0 ≤ sumW tm A
  | [], _ => by simp [sumW]
  | a :: A, h => by
    have h1 := h a (by simp)
    have h2 := sumW_nonneg tm A (fun b hb => h b (by simp [hb]))
    simp only [sumW]; omega
theorem sumW_congr (tm tm' : Int → Int) : ∀ A : List Int, (∀ a ∈ A, tm a = tm' a) → sumW tm A = sumW tm' A
  | [], _ => rfl
  | a :: A, h => by simp only [sumW, h a (by simp), sumW_congr tm tm' A (fun b hb => h b (by simp [hb]))]
theorem okL_iff (tm du : Int → Int) : ∀ (L : List Int) (t : Int), (∀ a ∈ L, 0 ≤ tm a) → L.Pairwise (fun a b => du a ≤ du b) →
    (okL tm du t L = true ↔ ∀ j ∈ L, t + sumW tm (L.filter (fun b => decide (du b ≤ du j))) ≤ du j)
  | [], t, _, _ => by simp [okL]
  | i :: L, t, h0, hs => by
    rw [List.pairwise_cons] at hs
    have hL : ∀ a ∈ L, 0 ≤ tm a := fun a ha => h0 a (by simp [ha])
    have ih := okL_iff tm du L (t + tm i) hL hs.2
    have hf : ∀ j ∈ i :: L, sumW tm ((i :: L).filter (fun b => decide (du b ≤ du j))) = tm i + sumW tm (L.filter (fun b => decide (du b ≤ du j))) := by
      intro j hj
      have hij : du i ≤ du j := by
        rcases List.mem_cons.1 hj with rfl | hj
        · exact Int.le_refl _
        · exact hs.1 j hj
      rw [List.filter_cons_of_pos (by simpa using hij)]
      rfl
    have hnn : ∀ j, 0 ≤ sumW tm (L.filter (fun b => decide (du b ≤ du j))) := fun j => sumW_nonneg tm _ (fun a ha => hL a (List.mem_filter.1 ha).1)
    unfold okL
    constructor
    · intro h
      by_cases hc : t + tm i > du i
      · rw [if_pos hc] at h; simp at h
      · rw [if_neg hc] at h
        have h := ih.1 h
        intro j hj
        rw [hf j hj]
        rcases List.mem_cons.1 hj with rfl | hj'
        · by_cases he : L.filter (fun b => decide (du b ≤ du j)) = []
          · rw [he]; simp only [sumW]; omega
          · obtain ⟨b, hb⟩ := List.exists_mem_of_ne_nil _ he
            have hb := List.mem_filter.1 hb
            have h1 := of_decide_eq_true hb.2
            have h2 := hs.1 b hb.1
            have h3 := h b hb.1
            have h4 : du b = du j := by omega
            rw [h4] at h3
            omega
        · have := h j hj'
          omega
    · intro h
      have h1 := h i (by simp)
      rw [hf i (by simp)] at h1
      have := hnn i
      rw [if_neg (by omega)]
      refine ih.2 (fun j hj => ?_)
      have h2 := h j (by simp [hj])
      rw [hf j (by simp [hj])] at h2
      omega
theorem okL_perm {tm du tm' du' : Int → Int} {A B : List Int} (t : Int) (hp : A.Perm B) (hc : ∀ a ∈ A, tm a = tm' a ∧ du a = du' a) (h0 : ∀ a ∈ A, 0 ≤ tm a)
    (hA : A.Pairwise (fun a b => du a ≤ du b)) (hB : B.Pairwise (fun a b => du' a ≤ du' b)) : okL tm du t A = okL tm' du' t B := by
  have hcB : ∀ b ∈ B, tm b = tm' b ∧ du b = du' b := fun b hb => hc b (hp.mem_iff.2 hb)
  have e : (okL tm du t A = true) ↔ (okL tm' du' t B = true) := by
    rw [okL_iff tm du A t h0 hA, okL_iff tm' du' B t (fun b hb => by rw [← (hcB b hb).1]; exact h0 b (hp.mem_iff.2 hb)) hB]
    have key : ∀ j ∈ A, sumW tm (A.filter (fun b => decide (du b ≤ du j))) = sumW tm' (B.filter (fun b => decide (du' b ≤ du' j))) := by
      intro j hj
      rw [sumW_perm tm (hp.filter _), sumW_congr tm tm' _ (fun b hb => (hcB b (List.mem_filter.1 hb).1).1)]
      congr 1
      refine List.filter_congr (fun b hb => ?_)
      rw [(hcB b hb).2, (hc j hj).2]
    constructor
    · intro h j hj
      have hj := hp.mem_iff.2 hj
      have := h j hj
      rw [key j hj, (hc j hj).2] at this
      exact this
    · intro h j hj
      have := h j (hp.mem_iff.1 hj)
      rw [key j hj, (hc j hj).2]
      exact this
  cases h1 : okL tm du t A <;> cases h2 : okL tm' du' t B <;> simp_all

theorem good_len {xs : List S63} (h : goodB xs = true) : xs.length ≤ 8 := by
  unfold goodB at h
  simp only [Bool.and_eq_true, decide_eq_true_eq] at h
  exact h.1
theorem good_at {xs : List S63} (h : goodB xs = true) (i : Nat) (hi : i < xs.length) : 1 ≤ xs[i].f0 ∧ xs[i].f0 ≤ 50 ∧ 0 ≤ xs[i].f1 ∧ xs[i].f1 ≤ 50 ∧ 0 ≤ xs[i].f2 ∧ xs[i].f2 ≤ 500 ∧ 0 ≤ xs[i].f3 ∧ xs[i].f3 ≤ 500 := by
  unfold goodB at h
  simp only [Bool.and_eq_true, List.all_eq_true] at h
  have b := h.2 xs[i] (List.getElem_mem hi)
  simp only [okJ, Bool.and_eq_true, decide_eq_true_eq] at b
  obtain ⟨a1, a2, b1, b2, c1, c2, d1, d2⟩ := b
  exact ⟨a1, a2, b1, b2, c1, c2, d1, d2⟩

def idsW (n : Nat) : List Int := (List.range n).map (fun (i : Nat) => (i : Int))
theorem idsW_len (n : Nat) : (idsW n).length = n := by simp [idsW]
theorem idsW_mem {n : Nat} {b : Int} (h : b ∈ idsW n) : 0 ≤ b ∧ b < (n : Int) := by
  unfold idsW at h
  obtain ⟨i, hi, rfl⟩ := List.mem_map.1 h
  have := List.mem_range.1 hi
  omega
theorem idsW_succ (n : Nat) : idsW (n + 1) = idsW n ++ [(n : Int)] := by simp [idsW, List.range_succ]
theorem numbersTo_l0 (n : Nat) (hn : n ≤ 1048576) : ∀ (d i : Nat), i + d = n → Ev (fun k => impl_numbersTo.l0 k (n : Int) (idsW i) (i : Int)) (idsW n) := by
  intro d
  induction d with
  | zero =>
    intro i hi
    refine ev_succ ?_
    simp only [impl_numbersTo.l0, if_neg (show ¬ ((i : Int) < n) by omega)]
    rw [show i = n by omega]
    exact ev_now _
  | succ d ih =>
    intro i hi
    refine ev_succ ?_
    simp only [impl_numbersTo.l0, if_pos (show (i : Int) < n by omega), if_pos (show (idsW i).length < 17592186044416 by rw [idsW_len]; omega), w64 (x := (i : Int) + 1) (by omega) (by omega)]
    have := ih (i + 1) (by omega)
    rw [idsW_succ] at this
    exact this
theorem numbersTo_ev (n : Nat) (hn : n ≤ 1048576) : Ev (fun k => impl_numbersTo.f k (n : Int)) (idsW n) := numbersTo_l0 n hn n 0 (by omega)

abbrev inJ (n : Nat) (i : Int) : Prop := 0 ≤ i ∧ i < (n : Int)
theorem inJ_nat {n : Nat} {a : Int} (h : inJ n a) : ∃ i : Nat, i < n ∧ a = (i : Int) := ⟨a.toNat, by have := h.1; have := h.2; omega, by have := h.1; omega⟩
theorem rd_nat (l : List S63) {a : Int} (h : inJ l.length a) : rd_T63 l a = l[a.toNat]'(by have := h.1; have := h.2; omega) := by
  obtain ⟨i, hi, rfl⟩ := inJ_nat h
  rw [rdI l i hi]
  rfl

def ltN (a b : Int) : Bool := decide (a < b)
def ltD (l : List S63) (a b : Int) : Bool := decide ((rd_T63 l a).f3 < (rd_T63 l b).f3) || (decide ((rd_T63 l a).f3 = (rd_T63 l b).f3) && decide ((rd_T63 l a).f0 < (rd_T63 l b).f0))
def ltS (l : List S63) (a b : Int) : Bool := ltD l a b || (decide ((rd_T63 l a).f3 = (rd_T63 l b).f3) && (decide ((rd_T63 l a).f0 = (rd_T63 l b).f0) && decide (a < b)))
theorem ordN (D : Int → Prop) : OrdW ltN D := by
  constructor
  · intro a b _ _ h; unfold ltN at *; simp only [decide_eq_true_eq, decide_eq_false_iff_not] at *; omega
  · intro i a b _ _ _ h1 h2; unfold ltN at *; simp only [decide_eq_true_eq, decide_eq_false_iff_not] at *; omega
theorem ordD (l : List S63) (D : Int → Prop) : OrdW (ltD l) D := by
  constructor
  · intro a b _ _ h
    unfold ltD at *
    generalize (rd_T63 l a).f3 = x, (rd_T63 l b).f3 = y, (rd_T63 l a).f0 = u, (rd_T63 l b).f0 = v at *
    simp only [Bool.or_eq_true, Bool.and_eq_true, Bool.or_eq_false_iff, Bool.and_eq_false_iff, decide_eq_true_eq, decide_eq_false_iff_not] at *
    omega
  · intro i a b _ _ _ h1 h2
    unfold ltD at *
    generalize (rd_T63 l a).f3 = x, (rd_T63 l b).f3 = y, (rd_T63 l a).f0 = u, (rd_T63 l b).f0 = v, (rd_T63 l i).f3 = p, (rd_T63 l i).f0 = q at *
    simp only [Bool.or_eq_true, Bool.and_eq_true, Bool.or_eq_false_iff, Bool.and_eq_false_iff, decide_eq_true_eq, decide_eq_false_iff_not] at *
    omega
theorem ordS (l : List S63) (D : Int → Prop) : OrdW (ltS l) D := by
  constructor
  · intro a b _ _ h
    unfold ltS ltD at *
    generalize (rd_T63 l a).f3 = x, (rd_T63 l b).f3 = y, (rd_T63 l a).f0 = u, (rd_T63 l b).f0 = v at *
    simp only [Bool.or_eq_true, Bool.and_eq_true, Bool.or_eq_false_iff, Bool.and_eq_false_iff, decide_eq_true_eq, decide_eq_false_iff_not] at *
    omega
  · intro i a b _ _ _ h1 h2
    unfold ltS ltD at *
    generalize (rd_T63 l a).f3 = x, (rd_T63 l b).f3 = y, (rd_T63 l a).f0 = u, (rd_T63 l b).f0 = v, (rd_T63 l i).f3 = p, (rd_T63 l i).f0 = q at *
    simp only [Bool.or_eq_true, Bool.and_eq_true, Bool.or_eq_false_iff, Bool.and_eq_false_iff, decide_eq_true_eq, decide_eq_false_iff_not] at *
    omega
theorem ltS_total (l : List S63) (a b : Int) (h1 : ltS l a b = false) (h2 : ltS l b a = false) : a = b := by
  unfold ltS ltD at *
  generalize (rd_T63 l a).f3 = x, (rd_T63 l b).f3 = y, (rd_T63 l a).f0 = u, (rd_T63 l b).f0 = v at *
  simp only [Bool.or_eq_false_iff, Bool.and_eq_false_iff, decide_eq_false_iff_not] at *
  omega
theorem ltS_not (l : List S63) {a b : Int} (h : a ≠ b) : (!ltS l a b) = ltS l b a := by
  cases h1 : ltS l a b with
  | true => exact ((ordS l (fun _ => True)).asym a b trivial trivial h1).symm
  | false =>
    cases h2 : ltS l b a with
    | true => rfl
    | false => exact absurd (ltS_total l a b h1 h2) h
theorem posW_congr {lt lt' : Int → Int → Bool} {i : Int} : ∀ {o : List Int}, (∀ b ∈ o, lt i b = lt' i b) → posW lt i o = posW lt' i o := by
  intro o
  unfold posW
  induction o with
  | nil => intro _; rfl
  | cons x o ih =>
    intro h
    rw [List.findIdx_cons, List.findIdx_cons, h x (by simp), ih (fun b hb => h b (by simp [hb]))]
theorem sortDS (l : List S63) : ∀ (t o : List Int), (∀ b ∈ o, ∀ i ∈ t, b ≤ i) → t.Pairwise (fun a b => a ≤ b) → sortW (ltD l) t o = sortW (ltS l) t o
  | [], o, _, _ => rfl
  | i :: t, o, h, hs => by
    have e : insW (ltD l) i o = insW (ltS l) i o := by
      unfold insW
      rw [posW_congr (lt := ltD l) (lt' := ltS l) (fun b hb => by
        have := h b hb i (by simp)
        unfold ltS
        rw [decide_eq_false (show ¬ i < b by omega), Bool.and_false, Bool.and_false, Bool.or_false])]
    unfold sortW
    rw [e]
    rw [List.pairwise_cons] at hs
    refine sortDS l t _ ?_ hs.2
    intro b hb j hj
    rcases List.mem_cons.1 ((insW_perm _ i o).mem_iff.1 hb) with rfl | hb
    · exact hs.1 j hj
    · exact h b hb j (by simp [hj])
/-- In ascending order. -/
def ascW (L : List Int) : List Int := sortW ltN L []
theorem ascW_perm (L : List Int) : (ascW L).Perm L := by
  have := sortW_perm ltN L []
  rw [List.append_nil] at this
  exact this
theorem ascW_sorted (L : List Int) : (ascW L).Pairwise (fun a b => a ≤ b) := by
  have := sortW_sorted (ordN (fun _ => True)) L [] (fun _ _ => trivial) (by simp) List.Pairwise.nil
  exact this.imp (fun h => by unfold ltN at h; have := of_decide_eq_false h; omega)
theorem ascW_id {L : List Int} (h : L.Pairwise (fun a b => a ≤ b)) : ascW L = L :=
  List.Perm.eq_of_pairwise (fun a b _ _ h1 h2 => by omega) (ascW_sorted L) h (ascW_perm L)
theorem idsW_asc (n : Nat) : (idsW n).Pairwise (fun a b => a ≤ b) := by
  unfold idsW
  rw [List.pairwise_map]
  exact List.pairwise_lt_range.imp (fun h => by omega)
/-- In due order. -/
def dueL (l : List S63) (L : List Int) : List Int := sortW (ltS l) L []
theorem dueL_perm (l : List S63) (L : List Int) : (dueL l L).Perm L := by
  have := sortW_perm (ltS l) L []
  rw [List.append_nil] at this
  exact this
theorem dueL_sorted (l : List S63) (L : List Int) : SortedW (ltS l) (dueL l L) := sortW_sorted (ordS l (fun _ => True)) L [] (fun _ _ => trivial) (by simp) List.Pairwise.nil
theorem dueL_congr (l : List S63) {L M : List Int} (h : L.Perm M) : dueL l L = dueL l M :=
  sortedW_unique (fun x _ y _ h1 h2 => ltS_total l x y h1 h2) (dueL_sorted l L) (dueL_sorted l M) ((dueL_perm l L).trans (h.trans (dueL_perm l M).symm))

def ltU (l : List S63) (a b : Int) : Bool := decide ((rd_T63 l a).f3 < (rd_T63 l b).f3)
theorem ordU (l : List S63) (D : Int → Prop) : OrdW (ltU l) D := by
  constructor
  · intro a b _ _ h; unfold ltU at *; simp only [decide_eq_true_eq, decide_eq_false_iff_not] at *; omega
  · intro i a b _ _ _ h1 h2; unfold ltU at *; simp only [decide_eq_true_eq, decide_eq_false_iff_not] at *; omega
def tmJ (l : List S63) (a : Int) : Int := (rd_T63 l a).f0
def duJ (l : List S63) (a : Int) : Int := (rd_T63 l a).f3
/-- Times and dates that stay small. -/
def smallJ (l : List S63) : Prop := ∀ (i : Nat) (hi : i < l.length), 0 ≤ l[i].f0 ∧ l[i].f0 ≤ 50 ∧ 0 ≤ l[i].f3 ∧ l[i].f3 ≤ 1000
theorem small_at {l : List S63} (h : smallJ l) {a : Int} (ha : inJ l.length a) : 0 ≤ tmJ l a ∧ tmJ l a ≤ 50 ∧ 0 ≤ duJ l a ∧ duJ l a ≤ 1000 := by
  unfold tmJ duJ
  rw [rd_nat l ha]
  exact h _ _
def dueU (l : List S63) (L : List Int) : List Int := sortW (ltU l) L []
theorem dueU_perm (l : List S63) (L : List Int) : (dueU l L).Perm L := by
  have := sortW_perm (ltU l) L []
  rw [List.append_nil] at this
  exact this
theorem dueU_sorted (l : List S63) (L : List Int) : (dueU l L).Pairwise (fun a b => duJ l a ≤ duJ l b) :=
  (sortW_sorted (ordU l (fun _ => True)) L [] (fun _ _ => trivial) (by simp) List.Pairwise.nil).imp (fun h => by unfold ltU at h; have := of_decide_eq_false h; unfold duJ; omega)
theorem dueL_due (l : List S63) (L : List Int) : (dueL l L).Pairwise (fun a b => duJ l a ≤ duJ l b) :=
  (dueL_sorted l L).imp (fun h => by
    unfold ltS ltD at h
    simp only [Bool.or_eq_false_iff, decide_eq_false_iff_not] at h
    unfold duJ; omega)
theorem onTime_l0 (l : List S63) (hs : smallJ l) (M : List Int) (hM : ∀ b ∈ M, inJ l.length b) (hlen : M.length ≤ 1000) : ∀ (d i : Nat) (t : Int), i + d = M.length → 0 ≤ t → t ≤ 50 * i → Ev (fun k => impl_onTime.l0 k t M (M.length : Int) (i : Int) l) (okL (tmJ l) (duJ l) t (M.drop i)) := by
  intro d
  induction d with
  | zero =>
    intro i t hi _ _
    refine ev_succ ?_
    simp only [impl_onTime.l0, if_neg (show ¬ ((i : Int) < (M.length : Int)) by omega)]
    rw [List.drop_eq_nil_of_le (by omega)]
    exact ev_now _
  | succ d ih =>
    intro i t hi h0 h1
    refine ev_succ ?_
    have hil : i < M.length := by omega
    have hm := hM _ (List.getElem_mem hil)
    have hb := small_at hs hm
    unfold tmJ duJ at hb
    rw [List.drop_eq_getElem_cons hil]
    by_cases hc : t + (rd_T63 l M[i]).f0 > (rd_T63 l M[i]).f3
    · rw [show okL (tmJ l) (duJ l) t (M[i] :: M.drop (i + 1)) = false from by unfold okL; exact if_pos hc]
      simp only [impl_onTime.l0, if_pos (show (i : Int) < (M.length : Int) by omega), if_pos (show (0 : Int) ≤ (i : Int) by omega), rdW M i hil, if_pos hm.1, if_pos hm.2, w64 (x := t + (rd_T63 l M[i]).f0) (by omega) (by omega), if_pos hc]
      exact ev_now _
    · rw [show okL (tmJ l) (duJ l) t (M[i] :: M.drop (i + 1)) = okL (tmJ l) (duJ l) (t + (rd_T63 l M[i]).f0) (M.drop (i + 1)) from by rw [okL]; exact if_neg hc]
      simp only [impl_onTime.l0, if_pos (show (i : Int) < (M.length : Int) by omega), if_pos (show (0 : Int) ≤ (i : Int) by omega), rdW M i hil, if_pos hm.1, if_pos hm.2, w64 (x := t + (rd_T63 l M[i]).f0) (by omega) (by omega), w64 (x := (i : Int) + 1) (by omega) (by omega), if_neg hc]
      exact ih (i + 1) _ (by omega) (by omega) (by omega)
theorem closureU (l : List S63) {a b : Int} (ha : inJ l.length a) (hb : inJ l.length b) : impl_onTime_1.f a b l = some (ltU l a b) := by
  unfold impl_onTime_1.f ltU
  simp only [if_pos ha.1, if_pos ha.2, if_pos hb.1, if_pos hb.2]
theorem onTime_ev (l : List S63) (hs : smallJ l) (L : List Int) (hL : ∀ b ∈ L, inJ l.length b) (hlen : L.length ≤ 1000) : Ev (fun k => impl_onTime.f k l L) (okL (tmJ l) (duJ l) 0 (dueU l L)) := by
  have hp := dueU_perm l L
  unfold impl_onTime.f
  simp only [impl_sortedBy_116.f, if_pos (show L.length < 17592186044416 by omega)]
  rw [sbL_eq (ordU l (inJ l.length)) (fun a b ha hb => closureU l ha hb) _ _ hL (by simp) List.Pairwise.nil]
  simp only [Option.bind_some]
  exact onTime_l0 l hs (dueU l L) (fun b hb => hL b (hp.mem_iff.1 hb)) (by rw [hp.length_eq]; exact hlen) (dueU l L).length 0 0 (by omega) (by omega) (by omega)

theorem sooner_eq (l : List S63) {a b : Int} (ha : inJ l.length a) (hb : inJ l.length b) : spec_l6Sooner.f l a b = some (ltS l a b) := by
  unfold spec_l6Sooner.f ltS ltD
  simp only [if_pos ha.1, if_pos ha.2, if_pos hb.1, if_pos hb.2]
  by_cases h1 : (rd_T63 l a).f3 = (rd_T63 l b).f3
  · simp only [if_pos h1, decide_eq_true h1, decide_eq_false (show ¬ (rd_T63 l a).f3 < (rd_T63 l b).f3 by omega), Bool.true_and, Bool.false_or]
    by_cases h2 : (rd_T63 l a).f0 = (rd_T63 l b).f0
    · simp only [if_pos h2, decide_eq_true h2, decide_eq_false (show ¬ (rd_T63 l a).f0 < (rd_T63 l b).f0 by omega), Bool.true_and, Bool.false_or]
    · simp only [if_neg h2, decide_eq_false h2, Bool.false_and, Bool.or_false]
  · simp only [if_neg h1, decide_eq_false h1, Bool.false_and, Bool.or_false]
theorem l6Due_l1 (l : List S63) (L out : List Int) (q : Nat) (hq : q < L.length) (hi : inJ l.length L[q]) (ho : ∀ b ∈ out, inJ l.length b) (hne : ∀ b ∈ out, b ≠ L[q]) (hlen : out.length ≤ 1048576) (hL : L.length ≤ 1048576) (r : List Int)
    (hnext : Ev (fun k => spec_l6Due.l0 k l L (insW (ltS l) L[q] out) (wrap64 ((q : Int) + 1))) r) : ∀ (d k : Nat), k + d = posW (ltS l) L[q] out → Ev (fun K => spec_l6Due.l1 K l L out (q : Int) (k : Int)) r := by
  have fin : ∀ k : Nat, k = posW (ltS l) L[q] out → ((out.take ((k : Nat) : Int).toNat ++ [L[q]]) ++ out.drop ((k : Nat) : Int).toNat) = insW (ltS l) L[q] out := by
    intro k hk
    subst hk
    simp [insW]
  have hp := posW_le (ltS l) L[q] out
  intro d
  induction d with
  | zero =>
    intro k hk
    have hk' : k = posW (ltS l) L[q] out := by omega
    refine ev_succ ?_
    have c0 : ([] : List Int).length + (out.take ((k : Nat) : Int).toNat).length < 17592186044416 := by simp only [List.length_take, List.length_nil]; omega
    have c1 : ((out.take ((k : Nat) : Int).toNat).length + [L[q]].length < 17592186044416) := by simp only [List.length_take, List.length_singleton]; omega
    have c2 : (((out.take ((k : Nat) : Int).toNat) ++ [L[q]]).length + (out.drop ((k : Nat) : Int).toNat).length < 17592186044416) := by simp only [List.length_append, List.length_take, List.length_drop, List.length_singleton]; omega
    by_cases hkl : k < out.length
    · have hlt : ltS l L[q] (out[k]'hkl) = true := by
        subst hk'
        exact posW_at hkl
      have hm : inJ l.length out[k] := ho _ (List.getElem_mem hkl)
      have hs : ltS l out[k] L[q] = false := (ordS l (fun _ => True)).asym _ _ trivial trivial hlt
      simp only [spec_l6Due.l1, if_pos (show ((k : Nat) : Int) < (out.length : Int) by omega), if_pos (show (0 : Int) ≤ ((k : Nat) : Int) by omega), if_pos (show (0 : Int) ≤ (q : Int) by omega), if_pos (show (q : Int) < (L.length : Int) by omega), rdW out k hkl, rdW L q hq, sooner_eq l hm hi, hs, Option.bind_some, Bool.false_eq_true, if_false, if_pos c0, List.nil_append, if_pos c1, if_pos c2, if_pos (show ((k : Nat) : Int) ≤ (out.length : Int) by omega), fin k hk']
      exact hnext
    · simp only [spec_l6Due.l1, if_neg (show ¬ ((k : Nat) : Int) < (out.length : Int) by omega), if_pos (show (0 : Int) ≤ ((k : Nat) : Int) by omega), if_pos (show ((k : Nat) : Int) ≤ (out.length : Int) by omega), if_pos (show (0 : Int) ≤ (q : Int) by omega), if_pos (show (q : Int) < (L.length : Int) by omega), rdW L q hq, Option.bind_some, if_pos c0, List.nil_append, if_pos c1, if_pos c2, fin k hk']
      exact hnext
  | succ d ih =>
    intro k hk
    refine ev_succ ?_
    have hkl : k < out.length := by omega
    have hm : inJ l.length out[k] := ho _ (List.getElem_mem hkl)
    have hlt : ltS l L[q] out[k] = false := posW_before (by omega)
    have hs : ltS l out[k] L[q] = true := by
      have := ltS_not l (fun h => hne _ (List.getElem_mem hkl) h.symm)
      rw [hlt] at this
      exact this.symm
    simp only [spec_l6Due.l1, if_pos (show ((k : Nat) : Int) < (out.length : Int) by omega), if_pos (show (0 : Int) ≤ ((k : Nat) : Int) by omega), if_pos (show (0 : Int) ≤ (q : Int) by omega), if_pos (show (q : Int) < (L.length : Int) by omega), rdW out k hkl, rdW L q hq, sooner_eq l hm hi, hs, Option.bind_some, if_true, w64 (x := ((k : Nat) : Int) + 1) (by omega) (by omega)]
    exact ih (k + 1) (by omega)
theorem l6Due_ev (l : List S63) (L : List Int) (hL : ∀ b ∈ L, inJ l.length b) (hd : L.Nodup) (hn : L.length ≤ 1048576) : Ev (fun k => spec_l6Due.f k l L) (dueL l L) := by
  have main : ∀ (d i : Nat), i + d = L.length → Ev (fun k => spec_l6Due.l0 k l L (sortW (ltS l) (L.take i) []) (i : Int)) (dueL l L) := by
    intro d
    induction d with
    | zero =>
      intro i hi
      refine ev_succ ?_
      simp only [spec_l6Due.l0, if_neg (show ¬ ((i : Int) < (L.length : Int)) by omega)]
      rw [List.take_of_length_le (by omega)]
      exact ev_now _
    | succ d ih =>
      intro i hi
      refine ev_succ ?_
      have hil : i < L.length := by omega
      simp only [spec_l6Due.l0, if_pos (show (i : Int) < (L.length : Int) by omega)]
      have hp := sortW_perm (ltS l) (L.take i) []
      rw [List.append_nil] at hp
      refine l6Due_l1 l L _ i hil (hL _ (List.getElem_mem hil)) (fun b hb => hL b (List.mem_of_mem_take (hp.mem_iff.1 hb))) (fun b hb he => ?_) (by rw [hp.length_eq, List.length_take]; omega) hn _ ?_ (posW (ltS l) L[i] (sortW (ltS l) (L.take i) [])) 0 (by omega)
      · obtain ⟨j, hj, rfl⟩ := List.mem_iff_getElem.1 (hp.mem_iff.1 hb)
        rw [List.length_take] at hj
        rw [List.getElem_take] at he
        have := (List.getElem_inj hd).1 he
        omega
      · have := ih (i + 1) (by omega)
        rw [List.take_succ_eq_append_getElem hil, sortW_append] at this
        rw [w64 (x := (i : Int) + 1) (by omega) (by omega)]
        exact this
  exact main L.length 0 (by omega)

theorem l6Timely_l0 (l : List S63) (hs : smallJ l) (M : List Int) (hM : ∀ b ∈ M, inJ l.length b) (hlen : M.length ≤ 1000) : ∀ (d i : Nat) (t : Int), i + d = M.length → 0 ≤ t → t ≤ 50 * i → Ev (fun k => spec_l6Timely.l0 k l M t (i : Int)) (okL (tmJ l) (duJ l) t (M.drop i)) := by
  intro d
  induction d with
  | zero =>
    intro i t hi _ _
    refine ev_succ ?_
    simp only [spec_l6Timely.l0, if_neg (show ¬ ((i : Int) < (M.length : Int)) by omega)]
    rw [List.drop_eq_nil_of_le (by omega)]
    exact ev_now _
  | succ d ih =>
    intro i t hi h0 h1
    refine ev_succ ?_
    have hil : i < M.length := by omega
    have hm := hM _ (List.getElem_mem hil)
    have hb := small_at hs hm
    unfold tmJ duJ at hb
    rw [List.drop_eq_getElem_cons hil]
    by_cases hc : t + (rd_T63 l M[i]).f0 > (rd_T63 l M[i]).f3
    · rw [show okL (tmJ l) (duJ l) t (M[i] :: M.drop (i + 1)) = false from by unfold okL; exact if_pos hc]
      simp only [spec_l6Timely.l0, if_pos (show (i : Int) < (M.length : Int) by omega), if_pos (show (0 : Int) ≤ (i : Int) by omega), rdW M i hil, if_pos hm.1, if_pos hm.2, w64 (x := t + (rd_T63 l M[i]).f0) (by omega) (by omega), if_pos hc]
      exact ev_now _
    · rw [show okL (tmJ l) (duJ l) t (M[i] :: M.drop (i + 1)) = okL (tmJ l) (duJ l) (t + (rd_T63 l M[i]).f0) (M.drop (i + 1)) from by rw [okL]; exact if_neg hc]
      simp only [spec_l6Timely.l0, if_pos (show (i : Int) < (M.length : Int) by omega), if_pos (show (0 : Int) ≤ (i : Int) by omega), rdW M i hil, if_pos hm.1, if_pos hm.2, w64 (x := t + (rd_T63 l M[i]).f0) (by omega) (by omega), w64 (x := (i : Int) + 1) (by omega) (by omega), if_neg hc]
      exact ih (i + 1) _ (by omega) (by omega) (by omega)
theorem l6Timely_ev (l : List S63) (hs : smallJ l) (L : List Int) (hL : ∀ b ∈ L, inJ l.length b) (hd : L.Nodup) (hlen : L.length ≤ 1000) : Ev (fun k => spec_l6Timely.f k l L) (okL (tmJ l) (duJ l) 0 (dueL l L)) := by
  have hp := dueL_perm l L
  unfold spec_l6Timely.f
  refine ev_bind (l6Due_ev l L hL hd (by omega)) ?_
  exact l6Timely_l0 l hs (dueL l L) (fun b hb => hL b (hp.mem_iff.1 hb)) (by rw [hp.length_eq]; exact hlen) (dueL l L).length 0 0 (by omega) (by omega) (by omega)

theorem shrN (c i : Nat) (h : i ≤ 64) : shr .i64 (c : Int) (i : Int) = ((c / 2 ^ i : Nat) : Int) := by
  unfold shr
  rw [Int.toNat_natCast, Nat.min_eq_left (show i ≤ IntKind.i64.bits from h)]
  rw [Int.natCast_ediv, Int.natCast_pow]
  rfl
theorem and1 : ∀ m : Nat, m < 256 → Go.bits .and .i64 (m : Int) 1 = ((m % 2 : Nat) : Int) := by decide +kernel
theorem shl1 : ∀ i : Nat, i < 9 → shl .i64 1 (i : Int) = ((2 ^ i : Nat) : Int) := by decide +kernel
theorem andn : ∀ c : Nat, c < 256 → ∀ i : Nat, i < 8 → c / 2 ^ i % 2 = 1 → Go.bits .andNot .i64 (c : Int) ((2 ^ i : Nat) : Int) = ((c - 2 ^ i : Nat) : Int) := by decide +kernel
theorem pow8 (n : Nat) (h : n ≤ 8) : 2 ^ n ≤ 256 := Nat.pow_le_pow_right (by omega) h
theorem shr_and (c i : Nat) (hc : c < 256) (hi : i ≤ 64) : Go.bits .and .i64 (shr .i64 (c : Int) (i : Int)) 1 = ((c / 2 ^ i % 2 : Nat) : Int) := by
  rw [shrN c i hi]
  exact and1 _ (Nat.lt_of_le_of_lt (Nat.div_le_self _ _) hc)
theorem mod1 {x : Nat} (h : x % 2 = 1) : ((x % 2 : Nat) : Int) = 1 := by rw [h]; rfl
theorem mod0 {x : Nat} (h : ¬ x % 2 = 1) : ((x % 2 : Nat) : Int) = 0 := by rw [show x % 2 = 0 by omega]; rfl
theorem mod1' {x : Nat} (h : x % 2 = 1) : ¬ ((x % 2 : Nat) : Int) = 0 := by rw [h]; decide
theorem mod0' {x : Nat} (h : ¬ x % 2 = 1) : ¬ ((x % 2 : Nat) : Int) = 1 := by rw [show x % 2 = 0 by omega]; decide
theorem bit_le (c i : Nat) (h : c / 2 ^ i % 2 = 1) : 2 ^ i ≤ c := by
  rcases Nat.lt_or_ge c (2 ^ i) with hl | hl
  · rw [Nat.div_eq_of_lt hl] at h; omega
  · exact hl
/-- The numbers of the bits of c, from i on. -/
def blF (c i : Nat) : Nat → List Int
  | 0 => []
  | d + 1 => if c / 2 ^ i % 2 = 1 then (i : Int) :: blF c (i + 1) d else blF c (i + 1) d
theorem blF_hit {c i : Nat} (h : c / 2 ^ i % 2 = 1) (d : Nat) : blF c i (d + 1) = (i : Int) :: blF c (i + 1) d := by rw [blF, if_pos h]
theorem blF_miss {c i : Nat} (h : ¬ c / 2 ^ i % 2 = 1) (d : Nat) : blF c i (d + 1) = blF c (i + 1) d := by rw [blF, if_neg h]
theorem wsub {c q : Nat} (h : q ≤ c) (hc : c ≤ 4611686018427387904) : wrap64 ((c : Int) - (q : Int)) = ((c - q : Nat) : Int) := by rw [w64 (by omega) (by omega)]; omega
theorem blF_nil (c : Nat) : ∀ d i : Nat, c / 2 ^ i = 0 → blF c i d = [] := by
  intro d
  induction d with
  | zero => intro i _; rfl
  | succ d ih =>
    intro i h
    unfold blF
    rw [if_neg (by omega)]
    refine ih (i + 1) ?_
    rw [Nat.pow_succ, ← Nat.div_div_eq_div_mul, h]
theorem blF_mem (c : Nat) : ∀ d i : Nat, ∀ x ∈ blF c i d, ∃ j : Nat, x = (j : Int) ∧ i ≤ j ∧ j < i + d ∧ c / 2 ^ j % 2 = 1 := by
  intro d
  induction d with
  | zero => intro i x hx; simp [blF] at hx
  | succ d ih =>
    intro i x hx
    unfold blF at hx
    split at hx
    · rcases List.mem_cons.mp hx with rfl | hx
      · exact ⟨i, rfl, by omega, by omega, by assumption⟩
      · obtain ⟨j, a, b, e, f⟩ := ih (i + 1) x hx
        exact ⟨j, a, by omega, by omega, f⟩
    · obtain ⟨j, a, b, e, f⟩ := ih (i + 1) x hx
      exact ⟨j, a, by omega, by omega, f⟩
theorem blF_len (c : Nat) : ∀ d i : Nat, (blF c i d).length ≤ d := by
  intro d
  induction d with
  | zero => intro i; exact Nat.le_refl _
  | succ d ih =>
    intro i
    unfold blF
    have := ih (i + 1)
    split
    · rw [List.length_cons]; omega
    · omega
theorem rdz (xs : List Int) (i : Nat) (h : i < xs.length) : rd xs (i : Int) = xs[i] := by
  unfold rd
  rw [Int.toNat_natCast, List.getD_eq_getElem?_getD, List.getElem?_eq_getElem h]
  rfl
theorem rd_left (a b : List Int) (i : Nat) (h : i < a.length) : rd (a ++ b) (i : Int) = rd a (i : Int) := by
  rw [rdz _ i (by rw [List.length_append]; omega), rdz a i h, List.getElem_append_left h]
theorem rd_mid (a b : List Int) (x : Int) (i : Nat) (h : i = a.length) : rd (a ++ x :: b) (i : Int) = x := by
  subst h
  rw [rdz _ _ (by rw [List.length_append, List.length_cons]; omega)]
  simp
theorem set_mid (a b : List Int) (x y : Int) (i : Nat) (h : i = a.length) : (a ++ x :: b).set i y = a ++ y :: b := by
  subst h
  simp

theorem all_bit : ∀ n : Nat, n < 9 → ∀ i : Nat, i < n → (2 ^ n - 1) / 2 ^ i % 2 = 1 := by decide +kernel
theorem l4Set_all (n : Nat) (hn : n ≤ 8) : ∀ (d i : Nat), i + d = n → Ev (fun k => spec_l4Set.l0 k (n : Int) ((2 ^ n - 1 : Nat) : Int) (idsW i) (i : Int)) (idsW n) := by
  have h8 := pow8 n hn
  intro d
  induction d with
  | zero =>
    intro i hi
    refine ev_succ ?_
    simp only [spec_l4Set.l0, if_neg (show ¬ ((i : Int) < n) by omega)]
    rw [show i = n by omega]
    exact ev_now _
  | succ d ih =>
    intro i hi
    refine ev_succ ?_
    have hb : (2 ^ n - 1) / 2 ^ i % 2 = 1 := all_bit n (by omega) i (by omega)
    have := ih (i + 1) (by omega)
    rw [idsW_succ] at this
    simp only [spec_l4Set.l0, if_pos (show (i : Int) < n by omega), if_pos (show (0 : Int) ≤ (i : Int) by omega), shr_and (2 ^ n - 1) i (by omega) (by omega), if_pos (mod1 hb), if_pos (show (idsW i).length < 17592186044416 by rw [idsW_len]; omega), w64 (x := (i : Int) + 1) (by omega) (by omega)]
    exact this
theorem l6All_ev (xs : List S63) (hn : xs.length ≤ 8) : Ev (fun k => spec_l6All.f k xs) (idsW xs.length) := by
  unfold spec_l6All.f
  have h8 := pow8 xs.length hn
  have hp : 0 < 2 ^ xs.length := Nat.pow_pos (by omega)
  rw [shl1 xs.length (by omega), w64 (x := ((2 ^ xs.length : Nat) : Int) - 1) (by omega) (by omega), show ((2 ^ xs.length : Nat) : Int) - 1 = ((2 ^ xs.length - 1 : Nat) : Int) by omega]
  refine ev_bind (a := idsW xs.length) ?_ (ev_now _)
  exact l4Set_all xs.length hn xs.length 0 (by omega)
theorem idsW_nodup (n : Nat) : (idsW n).Nodup := by
  unfold idsW List.Nodup
  rw [List.pairwise_map]
  exact List.pairwise_lt_range.imp (fun h => by omega)

def laterS (d : Int) (j : S63) : S63 := ⟨j.f0, 0, 0, j.f3 + d⟩
def laterI (d : Int) (j : S63) : S63 := ⟨j.f0, j.f1, j.f2, j.f3 + d⟩
theorem core (l : List S63) (a : Int) (hm : l.length ≤ 1048576) (_ : ∀ (i : Nat) (hi : i < l.length), I64 l[i].f0 ∧ I64 l[i].f1 ∧ I64 l[i].f2 ∧ I64 l[i].f3) (_ : I64 a) :
    ∃ (r : Bool) (ok : Bool), True ∧ Ev (fun k => spec_TimelyAfter.f k l a) (r, ok) ∧ Ev (fun k => impl_TimelyAfter.f k l a) (r, ok) := by
  have h1 := l6Good_ev l (by omega)
  have h2 := IsPlain_ev l (by omega)
  have n1 : Ev (fun k => spec_TimelyAfter.j0 k l a true) (false, false) := ev_succ (by simp only [spec_TimelyAfter.j0, if_true]; exact ev_now _)
  have n2 : Ev (fun k => impl_TimelyAfter.j0 k l a true) (false, false) := ev_succ (by simp only [impl_TimelyAfter.j0, if_true]; exact ev_now _)
  unfold spec_TimelyAfter.f impl_TimelyAfter.f
  cases hp : plainB l
  · rw [hp] at h1 h2
    exact ⟨false, false, trivial, ev_bind h1 (by simp only [Bool.false_eq_true, if_false]; exact n1), ev_bind h2 (by simp only [Bool.false_eq_true, if_false]; exact n2)⟩
  rw [hp] at h1 h2
  have hg := plain_good hp
  have hl := good_len hg
  by_cases ha : 0 ≤ a ∧ a ≤ 400
  case neg =>
    have hb : (decide (0 ≤ a) && decide (a ≤ 400)) = false := by simpa using ha
    refine ⟨false, false, trivial, ev_bind h1 ?_, ev_bind h2 ?_⟩ <;> simp only [if_true, l1In_eq, within_eq, Option.bind_some, hb, Bool.not_false]
    · exact n1
    · exact n2
  have hb : (decide (0 ≤ a) && decide (a ≤ 400)) = true := by simpa using ha
  have lS : (l.map (laterS a)).length = l.length := by simp
  have lI : (l.map (laterI a)).length = l.length := by simp
  have sS : smallJ (l.map (laterS a)) := by
    intro i hi
    have := good_at hg i (by omega)
    simp only [List.getElem_map, laterS]
    omega
  have sI : smallJ (l.map (laterI a)) := by
    intro i hi
    have := good_at hg i (by omega)
    simp only [List.getElem_map, laterI]
    omega
  have agree : okL (tmJ (l.map (laterI a))) (duJ (l.map (laterI a))) 0 (dueU (l.map (laterI a)) (idsW l.length)) = okL (tmJ (l.map (laterS a))) (duJ (l.map (laterS a))) 0 (dueL (l.map (laterS a)) (idsW l.length)) := by
    refine okL_perm 0 ((dueU_perm _ _).trans (dueL_perm _ _).symm) ?_ ?_ (dueU_sorted _ _) (dueL_due _ _)
    · intro b hb
      have hb := idsW_mem ((dueU_perm _ _).mem_iff.1 hb)
      unfold tmJ duJ
      rw [rd_nat (l.map (laterI a)) ⟨hb.1, by rw [lI]; exact hb.2⟩, rd_nat (l.map (laterS a)) ⟨hb.1, by rw [lS]; exact hb.2⟩]
      simp only [List.getElem_map, laterI, laterS, and_self]
    · intro b hb
      have hb := idsW_mem ((dueU_perm _ _).mem_iff.1 hb)
      exact (small_at sI ⟨hb.1, by rw [lI]; exact hb.2⟩).1
  refine ⟨okL (tmJ (l.map (laterS a))) (duJ (l.map (laterS a))) 0 (dueL (l.map (laterS a)) (idsW l.length)), true, trivial, ev_bind h1 ?_, ev_bind h2 ?_⟩ <;> simp only [if_true, l1In_eq, within_eq, Option.bind_some, hb, Bool.not_true]
  · refine ev_succ ?_
    simp only [spec_TimelyAfter.j0, Bool.false_eq_true, if_false]
    have main : ∀ (d i : Nat), i + d = l.length → Ev (fun k => spec_TimelyAfter.l0 k l a ((l.map (laterS a)).take i) (i : Int)) (okL (tmJ (l.map (laterS a))) (duJ (l.map (laterS a))) 0 (dueL (l.map (laterS a)) (idsW l.length)), true) := by
      intro d
      induction d with
      | zero =>
        intro i hi
        refine ev_succ ?_
        simp only [spec_TimelyAfter.l0, if_neg (show ¬ ((i : Int) < (l.length : Int)) by omega)]
        rw [List.take_of_length_le (by omega)]
        refine ev_bind (l6All_ev (l.map (laterS a)) (by omega)) ?_
        rw [lS]
        exact ev_bind (l6Timely_ev _ sS _ (fun b hb => by rw [lS]; exact idsW_mem hb) (idsW_nodup _) (by rw [idsW_len]; omega)) (ev_now _)
      | succ d ih =>
        intro i hi
        refine ev_succ ?_
        have hil : i < l.length := by omega
        have hx := good_at hg i hil
        simp only [spec_TimelyAfter.l0, if_pos (show (i : Int) < (l.length : Int) by omega), if_pos (show (0 : Int) ≤ (i : Int) by omega), if_pos (show ((l.map (laterS a)).take i).length < 4398046511104 by rw [List.length_take]; omega), rdI l i hil, w64 (x := l[i].f3 + a) (by omega) (by omega), w64 (x := (i : Int) + 1) (by omega) (by omega)]
        have := ih (i + 1) (by omega)
        rw [List.take_succ_eq_append_getElem (by omega), List.getElem_map] at this
        exact this
    exact main l.length 0 (by omega)
  · refine ev_succ ?_
    simp only [impl_TimelyAfter.j0, Bool.false_eq_true, if_false, Option.bind_some, List.length_nil, Nat.zero_add, if_pos (show l.length < 4398046511104 by omega), List.nil_append]
    have main : ∀ (d i : Nat), i + d = l.length → Ev (fun k => impl_TimelyAfter.l0 k l a ((l.map (laterI a)).take i ++ l.drop i) (l.length : Int) (i : Int)) (okL (tmJ (l.map (laterS a))) (duJ (l.map (laterS a))) 0 (dueL (l.map (laterS a)) (idsW l.length)), true) := by
      intro d
      induction d with
      | zero =>
        intro i hi
        refine ev_succ ?_
        simp only [impl_TimelyAfter.l0, if_neg (show ¬ ((i : Int) < (l.length : Int)) by omega)]
        rw [List.take_of_length_le (by omega), List.drop_eq_nil_of_le (by omega), List.append_nil, ← agree]
        refine ev_bind (numbersTo_ev l.length (by omega)) ?_
        exact ev_bind (onTime_ev _ sI _ (fun b hb => by rw [lI]; exact idsW_mem hb) (by rw [idsW_len]; omega)) (ev_now _)
      | succ d ih =>
        intro i hi
        refine ev_succ ?_
        have hil : i < l.length := by omega
        have hx := good_at hg i hil
        have ht : ((l.map (laterI a)).take i).length = i := by rw [List.length_take]; omega
        have hw : (l.map (laterI a)).take i ++ l.drop i = (l.map (laterI a)).take i ++ l[i] :: l.drop (i + 1) := by rw [List.drop_eq_getElem_cons hil]
        have hlen : ((l.map (laterI a)).take i ++ l.drop i).length = l.length := by simp only [List.length_append, List.length_drop, ht]; omega
        have hr : rd_T63 ((l.map (laterI a)).take i ++ l.drop i) (i : Int) = l[i] := by
          rw [rdI _ i (by omega), List.getElem_append_right (by omega)]
          simp only [List.getElem_drop, ht]
          congr 1; omega
        simp only [impl_TimelyAfter.l0, if_pos (show (i : Int) < (l.length : Int) by omega), if_pos (show (0 : Int) ≤ (i : Int) by omega), hlen, hr, w64 (x := l[i].f3 + a) (by omega) (by omega), w64 (x := (i : Int) + 1) (by omega) (by omega), Int.toNat_natCast]
        have hset : ((l.map (laterI a)).take i ++ l.drop i).set i (⟨l[i].f0, l[i].f1, l[i].f2, l[i].f3 + a⟩ : S63) = (l.map (laterI a)).take (i + 1) ++ l.drop (i + 1) := by
          rw [hw, List.set_append_right _ _ (by omega), ht, Nat.sub_self, List.set_cons_zero, List.take_succ_eq_append_getElem (by omega), List.getElem_map, List.append_assoc]
          rfl
        rw [hset]
        exact ih (i + 1) (by omega)
    have h0 := main l.length 0 (by omega)
    simpa using h0

theorem FnExactTimelyAfter : FnExactTimelyAfter.Claim := by
  intro l0 a1 hl0 hg0 hi1
  refine Ev.rounds ?_
  unfold laws_FnExactTimelyAfter.f
  simp only [szJobS_eq l0 (1048576 : Int) (by omega) (by omega) hl0, Option.bind_some]
  by_cases h0 : (1048576 : Int) < l0.length
  · simp only [if_pos h0, if_pos (show (-1 : Int) < 0 by omega)]
    exact ev_now _
  simp only [if_neg h0, if_neg (show ¬ (((1048576 : Int) - l0.length) < 0) by omega)]
  have ht0 := toJobS_ev l0 (by omega)
  have hm0 : (l0.map conv).length ≤ 1048576 := by simp; omega
  have hq0 := eqJobS_ev (l0.map conv) (by omega)
  obtain ⟨r0, r1, _, hs, hi⟩ := core (l0.map conv) a1 hm0 (conv_I64 l0 hg0) hi1
  repeat first
    | exact ev_now _
    | with_reducible refine ev_bind hs ?_
    | with_reducible refine ev_bind hi ?_
    | with_reducible refine ev_bind ht0 ?_
    | with_reducible refine ev_bind hq0 ?_
    | simp only [if_true, if_false, bne_self_eq_false, Bool.false_eq_true]
    | (refine ev_succ ?_; simp only [laws_FnExactTimelyAfter.j0])

end Go.Proofs.Ytnhceifdiaigbaa.Pure
