/- The program's function and the reference's come to the same answer: the statement of numbers and lists behind the law FnExactTardinessBound. Conditions: none. -/
import Derived.Test.YtafhfmggehaknaaArgFnExactTardinessBound
import Derived.Test.YtafhfmggehaknaaBase
namespace Go.Proofs.Ytafhfmggehaknaa.Pure
open Go.RowKit Go.Proofs.Ytafhfmggehaknaa.OFnExactTardinessBound Go.Proofs.Ytafhfmggehaknaa.Base Go.Proofs.YtafhfmggehaknaaW.PrintWords Go.Proofs.YtafhfmggehaknaaW.PrintLast Go.Proofs.YtafhfmggehaknaaW.PrintMore Go.Proofs.Ytafhfmggehaknaa.Open
set_option linter.unusedVariables false
set_option linter.unusedSimpArgs false

theorem szJobS_eq (xs : List S60) (left : Int) (h0 : 0 ≤ left) (h1 : left ≤ 1048576) (h : xs.length ≤ 9223372036854775807) : laws_szJobS.f xs left = some (if left < xs.length then -1 else left - xs.length) := by
  unfold laws_szJobS.f
  rw [w64 (by omega) (by omega)]
  by_cases c : left < xs.length
  · rw [if_pos (by omega), if_pos c]
  · rw [if_neg (by omega), if_neg c]

def conv (x : S60) : S58 := ⟨x.f0, x.f1, x.f2, x.f3⟩
theorem rdL (xs : List S60) (i : Nat) (h : i < xs.length) : rd_T60 xs (i : Int) = xs[i] := by
  unfold rd_T60
  rw [Int.toNat_natCast, List.getD_eq_getElem?_getD, List.getElem?_eq_getElem h]
  rfl

theorem toJobS_l (xs : List S60) (hn : xs.length ≤ 8796093022208) : ∀ (d i : Nat) (ys : List S58), i + d = xs.length → ys.length = xs.length → ys.take i = (xs.map conv).take i → Ev (fun k => laws_toJobS.l0 k xs ys (i : Int)) (xs.map conv) := by
  intro d
  induction d with
  | zero =>
    intro i ys hi hl ht
    refine ev_succ ?_
    simp only [laws_toJobS.l0, if_neg (show ¬ (i : Int) < (xs.length : Int) by omega)]
    have : ys = xs.map conv := by
      rw [List.take_of_length_le (by omega), List.take_of_length_le (by simp; omega)] at ht
      exact ht
    rw [this]
    exact ev_now _
  | succ d ih =>
    intro i ys hi hl ht
    refine ev_succ ?_
    have hx : i < xs.length := by omega
    simp only [laws_toJobS.l0, laws_toJob.f, Option.bind_some, if_pos (show (i : Int) < (xs.length : Int) by omega), if_pos (show (i : Int) < (ys.length : Int) by omega), if_pos (show (0 : Int) ≤ (i : Int) by omega), rdL xs i hx, wsucc i (by omega), Int.toNat_natCast]
    refine ih (i + 1) _ (by omega) (by rw [List.length_set]; exact hl) ?_
    rw [take_set_succ ys i _ (by omega), ht, List.take_succ_eq_append_getElem (by simp; omega)]
    simp [conv]
theorem toJobS_ev (xs : List S60) (hn : xs.length ≤ 1048576) : Ev (fun k => laws_toJobS.f k xs) (xs.map conv) := by
  unfold laws_toJobS.f
  simp only [if_pos (show (0 : Int) ≤ (xs.length : Int) by omega), Int.toNat_natCast, if_pos (show xs.length ≤ 8796093022208 by omega)]
  exact toJobS_l xs (by omega) xs.length 0 _ (by omega) (by simp) (by simp)

theorem rdI (xs : List S58) (i : Nat) (h : i < xs.length) : rd_T58 xs (i : Int) = xs[i] := by
  unfold rd_T58
  rw [Int.toNat_natCast, List.getD_eq_getElem?_getD, List.getElem?_eq_getElem h]
  rfl

theorem eqJobS_l (xs : List S58) (hn : xs.length ≤ 4611686018427387904) : ∀ (d i : Nat), i + d = xs.length → Ev (fun k => laws_eqJobS.l0 k xs xs (i : Int)) true := by
  intro d
  induction d with
  | zero =>
    intro i hi
    refine ev_succ ?_
    simp only [laws_eqJobS.l0, if_neg (show ¬ (i : Int) < (xs.length : Int) by omega)]
    exact ev_now _
  | succ d ih =>
    intro i hi
    refine ev_succ ?_
    simp only [laws_eqJobS.l0, laws_eqJob.f, if_true, Option.bind_some, if_pos (show (i : Int) < (xs.length : Int) by omega), if_pos (show (0 : Int) ≤ (i : Int) by omega), wsucc i (by omega)]
    exact ih (i + 1) (by omega)
theorem eqJobS_ev (xs : List S58) (hn : xs.length ≤ 4611686018427387904) : Ev (fun k => laws_eqJobS.f k xs xs) true := by
  unfold laws_eqJobS.f
  simp only [if_true]
  exact eqJobS_l xs hn xs.length 0 (by omega)

theorem conv_I64 (l : List S60) (hg : ∀ x ∈ l, G60 x) (i : Nat) (hi : i < (l.map conv).length) : I64 (l.map conv)[i].f0 ∧ I64 (l.map conv)[i].f1 ∧ I64 (l.map conv)[i].f2 ∧ I64 (l.map conv)[i].f3 := by
  simp only [List.getElem_map, conv]
  exact hg _ (List.getElem_mem _)

theorem within_eq (a b c : Int) : impl_within.f a b c = some (decide (b ≤ a) && decide (a ≤ c)) := by
  unfold impl_within.f
  by_cases h : b ≤ a
  · rw [if_pos h]; simp [h]
  · rw [if_neg h]; simp [h]

/-- A job's numbers are in their bounds. -/
def okJ (x : S58) : Bool := decide (1 ≤ x.f0) && (decide (x.f0 ≤ 50) && (decide (0 ≤ x.f1) && (decide (x.f1 ≤ 50) && (decide (0 ≤ x.f2) && (decide (x.f2 ≤ 500) && (decide (0 ≤ x.f3) && decide (x.f3 ≤ 500)))))))
def goodB (l : List S58) : Bool := decide (l.length ≤ 8) && l.all okJ
theorem isDate_eq (a : Int) : impl_isDate.f a = some (decide (0 ≤ a) && decide (a ≤ 500)) := by
  unfold impl_isDate.f
  rw [within_eq]
  rfl
theorem job_chain (x : S58) (o : Option Bool) : (if (decide (1 ≤ x.f0) && decide (x.f0 ≤ 50)) = true then (if (decide (0 ≤ x.f1) && decide (x.f1 ≤ 50)) = true then (if (decide (0 ≤ x.f2) && decide (x.f2 ≤ 500)) = true then (if (decide (0 ≤ x.f3) && decide (x.f3 ≤ 500)) = true then o else some false) else some false) else some false) else some false) = if okJ x = true then o else some false := by
  unfold okJ
  by_cases a1 : 1 ≤ x.f0 <;> by_cases a2 : x.f0 ≤ 50 <;> simp [a1, a2]
  by_cases b1 : 0 ≤ x.f1 <;> by_cases b2 : x.f1 ≤ 50 <;> simp [b1, b2]
  by_cases c1 : 0 ≤ x.f2 <;> by_cases c2 : x.f2 ≤ 500 <;> simp [c1, c2]
theorem IsJobs_l (xs : List S58) (hn : xs.length ≤ 4611686018427387904) : ∀ (d i : Nat), i + d = xs.length → Ev (fun k => impl_IsJobs.l0 k xs (xs.length : Int) (i : Int)) ((xs.drop i).all okJ) := by
  intro d
  induction d with
  | zero =>
    intro i hi
    refine ev_succ ?_
    simp only [impl_IsJobs.l0, if_neg (show ¬ (i : Int) < (xs.length : Int) by omega), List.drop_of_length_le (show xs.length ≤ i by omega)]
    exact ev_now _
  | succ d ih =>
    intro i hi
    refine ev_succ ?_
    have hx : i < xs.length := by omega
    have hih := ih (i + 1) (by omega)
    rw [List.drop_eq_getElem_cons hx, List.all_cons]
    simp only [impl_IsJobs.l0, within_eq, isDate_eq, Option.bind_some, if_pos (show (i : Int) < (xs.length : Int) by omega), if_pos (show (0 : Int) ≤ (i : Int) by omega), wsucc i (by omega), rdI xs i hx]
    generalize xs[i] = x at *
    simp only [job_chain]
    by_cases c : okJ x = true
    · simpa only [c, if_true, Bool.true_and] using hih
    · have c' : okJ x = false := by simpa using c
      simp only [c', Bool.false_and]
      exact ev_now _
theorem IsJobs_ev (xs : List S58) (hn : xs.length ≤ 4611686018427387904) : Ev (fun k => impl_IsJobs.f k xs) (goodB xs) := by
  unfold impl_IsJobs.f goodB
  by_cases h : xs.length ≤ 8
  · simp only [if_neg (show ¬ ((xs.length : Int) > 8) by omega), decide_eq_true h, Bool.true_and]
    exact IsJobs_l xs hn xs.length 0 (by omega)
  · simp only [if_pos (show ((xs.length : Int) > 8) by omega), decide_eq_false h, Bool.false_and]
    exact ev_now _

def freeJ (x : S58) : Bool := decide (x.f2 = 0)
def plainB (l : List S58) : Bool := goodB l && l.all freeJ
theorem isPlain_l (xs : List S58) (hn : xs.length ≤ 4611686018427387904) : ∀ (d i : Nat), i + d = xs.length → Ev (fun k => impl_isPlain.l0 k xs (xs.length : Int) (i : Int)) ((xs.drop i).all freeJ) := by
  intro d
  induction d with
  | zero =>
    intro i hi
    refine ev_succ ?_
    simp only [impl_isPlain.l0, if_neg (show ¬ (i : Int) < (xs.length : Int) by omega), List.drop_of_length_le (show xs.length ≤ i by omega)]
    exact ev_now _
  | succ d ih =>
    intro i hi
    refine ev_succ ?_
    have hx : i < xs.length := by omega
    have hih := ih (i + 1) (by omega)
    rw [List.drop_eq_getElem_cons hx, List.all_cons]
    simp only [impl_isPlain.l0, if_pos (show (i : Int) < (xs.length : Int) by omega), if_pos (show (0 : Int) ≤ (i : Int) by omega), wsucc i (by omega), rdI xs i hx]
    by_cases c : (xs[i]).f2 = 0
    · simp only [if_pos c, freeJ, decide_eq_true c, Bool.true_and]
      exact hih
    · simp only [if_neg c, freeJ, decide_eq_false c, Bool.false_and]
      exact ev_now _
theorem isPlain_ev (xs : List S58) (hn : xs.length ≤ 4611686018427387904) : Ev (fun k => impl_isPlain.f k xs) (xs.all freeJ) := by
  unfold impl_isPlain.f
  exact isPlain_l xs hn xs.length 0 (by omega)

theorem IsPlain_ev (xs : List S58) (hn : xs.length ≤ 4611686018427387904) : Ev (fun k => impl_IsPlain.f k xs) (plainB xs) := by
  unfold impl_IsPlain.f plainB
  refine ev_bind (IsJobs_ev xs hn) ?_
  cases goodB xs
  · simp only [Bool.false_eq_true, if_false, Bool.false_and]; exact ev_now _
  · simp only [if_true, Bool.true_and]; exact ev_bind (isPlain_ev xs hn) (ev_now _)

theorem l1In_eq (a b c : Int) : spec_l1In.f a b c = some (decide (b ≤ a) && decide (a ≤ c)) := by
  unfold spec_l1In.f
  by_cases h : b ≤ a
  · rw [if_pos h]; simp [h]
  · rw [if_neg h]; simp [h]

theorem l2Job_eq (x : S58) : spec_l2Job.f x.f0 x.f1 x.f2 x.f3 = some (okJ x) := by
  unfold spec_l2Job.f okJ
  simp only [l1In_eq, Option.bind_some]
  by_cases a1 : 1 ≤ x.f0 <;> by_cases a2 : x.f0 ≤ 50 <;> simp [a1, a2]
  by_cases b1 : 0 ≤ x.f1 <;> by_cases b2 : x.f1 ≤ 50 <;> simp [b1, b2]
  by_cases c1 : 0 ≤ x.f2 <;> by_cases c2 : x.f2 ≤ 500 <;> simp [c1, c2]
theorem l2Good_l (xs : List S58) (hn : xs.length ≤ 4611686018427387904) : ∀ (d i : Nat), i + d = xs.length → Ev (fun k => spec_l2Good.l0 k xs (i : Int)) ((xs.drop i).all okJ && decide (xs.length ≤ 8)) := by
  intro d
  induction d with
  | zero =>
    intro i hi
    refine ev_succ ?_
    simp only [spec_l2Good.l0, if_neg (show ¬ (i : Int) < (xs.length : Int) by omega), List.drop_of_length_le (show xs.length ≤ i by omega)]
    refine ev_const ?_
    simp
    omega
  | succ d ih =>
    intro i hi
    refine ev_succ ?_
    have hx : i < xs.length := by omega
    have hih := ih (i + 1) (by omega)
    rw [List.drop_eq_getElem_cons hx, List.all_cons]
    simp only [spec_l2Good.l0, if_pos (show (i : Int) < (xs.length : Int) by omega), if_pos (show (0 : Int) ≤ (i : Int) by omega), wsucc i (by omega), rdI xs i hx, l2Job_eq, Option.bind_some]
    by_cases c : okJ xs[i] = true
    · simpa only [c, if_true, Bool.true_and] using hih
    · have c' : okJ xs[i] = false := by simpa using c
      simp only [c', Bool.false_and]
      exact ev_now _
theorem l2Good_ev (xs : List S58) (hn : xs.length ≤ 4611686018427387904) : Ev (fun k => spec_l2Good.f k xs) (goodB xs) := by
  unfold spec_l2Good.f goodB
  rw [Bool.and_comm]
  exact l2Good_l xs hn xs.length 0 (by omega)

def freeJ' (x : S58) : Bool := decide (¬ x.f2 > 0)
theorem l4Free_l (xs : List S58) (hn : xs.length ≤ 4611686018427387904) : ∀ (d i : Nat), i + d = xs.length → Ev (fun k => spec_l4Free.l0 k xs (i : Int)) ((xs.drop i).all freeJ') := by
  intro d
  induction d with
  | zero =>
    intro i hi
    refine ev_succ ?_
    simp only [spec_l4Free.l0, if_neg (show ¬ (i : Int) < (xs.length : Int) by omega), List.drop_of_length_le (show xs.length ≤ i by omega)]
    exact ev_now _
  | succ d ih =>
    intro i hi
    refine ev_succ ?_
    have hx : i < xs.length := by omega
    have hih := ih (i + 1) (by omega)
    rw [List.drop_eq_getElem_cons hx, List.all_cons]
    simp only [spec_l4Free.l0, if_pos (show (i : Int) < (xs.length : Int) by omega), if_pos (show (0 : Int) ≤ (i : Int) by omega), wsucc i (by omega), rdI xs i hx]
    by_cases c : (xs[i]).f2 > 0
    · simp only [if_pos c, freeJ', decide_eq_false (show ¬ ¬ (xs[i]).f2 > 0 by omega), Bool.false_and]
      exact ev_now _
    · simp only [if_neg c, freeJ', decide_eq_true c, Bool.true_and]
      exact hih
theorem l4Free_ev (xs : List S58) (hn : xs.length ≤ 4611686018427387904) : Ev (fun k => spec_l4Free.f k xs) (xs.all freeJ') := by
  unfold spec_l4Free.f
  exact l4Free_l xs hn xs.length 0 (by omega)
theorem good_free (xs : List S58) (h : goodB xs = true) : xs.all freeJ' = xs.all freeJ := by
  unfold goodB at h
  simp only [Bool.and_eq_true, List.all_eq_true] at h
  rw [Bool.eq_iff_iff]
  simp only [List.all_eq_true]
  constructor
  · intro hh x hx
    have a := hh x hx
    have b := h.2 x hx
    simp only [okJ, Bool.and_eq_true, decide_eq_true_eq] at b
    simp only [freeJ', decide_eq_true_eq] at a
    simp only [freeJ, decide_eq_true_eq]
    omega
  · intro hh x hx
    have a := hh x hx
    simp only [freeJ, decide_eq_true_eq] at a
    simp only [freeJ', decide_eq_true_eq]
    omega

theorem l6Good_ev (xs : List S58) (hn : xs.length ≤ 4611686018427387904) : Ev (fun k => spec_l6Good.f k xs) (plainB xs) := by
  unfold spec_l6Good.f plainB
  refine ev_bind (l2Good_ev xs hn) ?_
  cases hg : goodB xs
  · simp only [Bool.false_eq_true, if_false, Bool.false_and]; exact ev_now _
  · simp only [if_true, Bool.true_and]
    rw [← good_free xs hg]
    exact ev_bind (l4Free_ev xs hn) (ev_now _)

theorem plain_good {xs : List S58} (h : plainB xs = true) : goodB xs = true := by
  unfold plainB at h
  simp only [Bool.and_eq_true] at h
  exact h.1

theorem good_len {xs : List S58} (h : goodB xs = true) : xs.length ≤ 8 := by
  unfold goodB at h
  simp only [Bool.and_eq_true, decide_eq_true_eq] at h
  exact h.1
theorem good_at {xs : List S58} (h : goodB xs = true) (i : Nat) (hi : i < xs.length) : 1 ≤ xs[i].f0 ∧ xs[i].f0 ≤ 50 ∧ 0 ≤ xs[i].f1 ∧ xs[i].f1 ≤ 50 ∧ 0 ≤ xs[i].f2 ∧ xs[i].f2 ≤ 500 ∧ 0 ≤ xs[i].f3 ∧ xs[i].f3 ≤ 500 := by
  unfold goodB at h
  simp only [Bool.and_eq_true, List.all_eq_true] at h
  have b := h.2 xs[i] (List.getElem_mem hi)
  simp only [okJ, Bool.and_eq_true, decide_eq_true_eq] at b
  obtain ⟨a1, a2, b1, b2, c1, c2, d1, d2⟩ := b
  exact ⟨a1, a2, b1, b2, c1, c2, d1, d2⟩

/-- Where a number goes among sorted ones: ahead of the first that it comes ahead of. -/
def posW (lt : Int → Int → Bool) (i : Int) (o : List Int) : Nat := o.findIdx (fun b => lt i b)
def insW (lt : Int → Int → Bool) (i : Int) (o : List Int) : List Int := o.take (posW lt i o) ++ i :: o.drop (posW lt i o)
def sortW (lt : Int → Int → Bool) : List Int → List Int → List Int
  | [], o => o
  | i :: t, o => sortW lt t (insW lt i o)
structure OrdW (lt : Int → Int → Bool) (D : Int → Prop) : Prop where
  asym : ∀ a b, D a → D b → lt a b = true → lt b a = false
  co : ∀ i a b, D i → D a → D b → lt i a = true → lt b a = false → lt i b = true
abbrev SortedW (lt : Int → Int → Bool) (o : List Int) : Prop := o.Pairwise (fun a b => lt b a = false)
theorem posW_le (lt : Int → Int → Bool) (i : Int) (o : List Int) : posW lt i o ≤ o.length := List.findIdx_le_length
theorem posW_before {lt : Int → Int → Bool} {i : Int} {o : List Int} {j : Nat} (h : j < posW lt i o) : lt i (o[j]'(Nat.lt_of_lt_of_le h (posW_le _ _ _))) = false := by
  have := List.not_of_lt_findIdx (p := fun b => lt i b) h
  simpa using this
theorem posW_at {lt : Int → Int → Bool} {i : Int} {o : List Int} (h : posW lt i o < o.length) : lt i (o[posW lt i o]'h) = true := List.findIdx_getElem (w := h)
theorem posW_behind {lt : Int → Int → Bool} {D : Int → Prop} (H : OrdW lt D) {i : Int} {o : List Int} (hi : D i) (ho : ∀ b ∈ o, D b) (hs : SortedW lt o) {j : Nat} (hj : posW lt i o ≤ j) (hl : j < o.length) : lt i (o[j]'hl) = true := by
  have hp : posW lt i o < o.length := by omega
  have h0 := posW_at hp
  rcases Nat.lt_or_ge (posW lt i o) j with h | h
  · have h1 := List.pairwise_iff_getElem.1 hs _ _ hp hl h
    exact H.co i _ _ hi (ho _ (List.getElem_mem hp)) (ho _ (List.getElem_mem hl)) h0 h1
  · have : j = posW lt i o := by omega
    subst this
    exact h0
theorem insW_perm (lt : Int → Int → Bool) (i : Int) (o : List Int) : (insW lt i o).Perm (i :: o) := by
  unfold insW
  refine List.perm_middle.trans ?_
  rw [List.take_append_drop]
theorem insW_sorted {lt : Int → Int → Bool} {D : Int → Prop} (H : OrdW lt D) {i : Int} {o : List Int} (hi : D i) (ho : ∀ b ∈ o, D b) (hs : SortedW lt o) : SortedW lt (insW lt i o) := by
  unfold insW SortedW
  rw [List.pairwise_append]
  refine ⟨hs.sublist (List.take_sublist _ _), List.pairwise_cons.2 ⟨?_, hs.sublist (List.drop_sublist _ _)⟩, ?_⟩
  · intro b hb
    obtain ⟨j, hj, rfl⟩ := List.mem_iff_getElem.1 hb
    rw [List.getElem_drop]
    have hl : posW lt i o + j < o.length := by rw [List.length_drop] at hj; omega
    exact H.asym _ _ hi (ho _ (List.getElem_mem hl)) (posW_behind H hi ho hs (by omega) hl)
  · intro a ha b hb
    obtain ⟨j, hj, rfl⟩ := List.mem_iff_getElem.1 ha
    have hjp : j < posW lt i o := by rw [List.length_take] at hj; omega
    rw [List.getElem_take]
    rcases List.mem_cons.1 hb with rfl | hb
    · exact posW_before hjp
    · obtain ⟨q, hq, rfl⟩ := List.mem_iff_getElem.1 hb
      have hl : posW lt i o + q < o.length := by rw [List.length_drop] at hq; omega
      rw [List.getElem_drop]
      exact List.pairwise_iff_getElem.1 hs _ _ _ hl (by omega)
theorem sortW_perm (lt : Int → Int → Bool) : ∀ (l o : List Int), (sortW lt l o).Perm (l ++ o)
  | [], o => by unfold sortW; exact List.Perm.refl _
  | i :: t, o => by
    unfold sortW
    refine (sortW_perm lt t _).trans ?_
    refine ((List.Perm.append_left t (insW_perm lt i o))).trans ?_
    exact List.perm_middle
theorem sortW_sorted {lt : Int → Int → Bool} {D : Int → Prop} (H : OrdW lt D) : ∀ (l o : List Int), (∀ b ∈ l, D b) → (∀ b ∈ o, D b) → SortedW lt o → SortedW lt (sortW lt l o)
  | [], o, _, _, hs => by unfold sortW; exact hs
  | i :: t, o, hl, ho, hs => by
    unfold sortW
    refine sortW_sorted H t _ (fun b hb => hl b (by simp [hb])) ?_ (insW_sorted H (hl i (by simp)) ho hs)
    intro b hb
    rcases List.mem_cons.1 ((insW_perm lt i o).mem_iff.1 hb) with rfl | h
    · exact hl _ (by simp)
    · exact ho b h
theorem rdW (o : List Int) (n : Nat) (h : n < o.length) : rd o (n : Int) = o[n] := by
  simp [rd]
  rw [List.getElem?_eq_getElem h]; rfl
theorem sbK_pos {p : Int → Option Bool} {f : Int → Bool} {o : List Int} {t : Nat} (hp : ∀ b ∈ o, p b = some (f b)) (ht : t ≤ o.length) (h1 : ∀ j (hj : j < o.length), t ≤ j → f o[j] = true) (h2 : ∀ j (hj : j < o.length), j < t → f o[j] = false) :
    ∀ n, n ≤ o.length → t ≤ n → sbK p o n = some t
  | 0, _, h => by
    have : t = 0 := by omega
    subst this
    rfl
  | n + 1, hn, h => by
    unfold sbK
    rw [rdW o n (by omega), hp _ (List.getElem_mem (by omega)), Option.bind_some]
    rcases Nat.lt_or_ge n t with hlt | hge
    · rw [h2 n (by omega) hlt, if_neg (by simp)]
      congr 1; omega
    · rw [h1 n (by omega) hge, if_pos rfl]
      exact sbK_pos hp ht h1 h2 n (by omega) hge
theorem sbL_eq {p : Int → Int → Option Bool} {lt : Int → Int → Bool} {D : Int → Prop} (H : OrdW lt D) (hp : ∀ a b, D a → D b → p a b = some (lt a b)) : ∀ (l o : List Int), (∀ b ∈ l, D b) → (∀ b ∈ o, D b) → SortedW lt o → sbL p l o = some (sortW lt l o)
  | [], o, _, _, _ => rfl
  | i :: t, o, hl, ho, hs => by
    have hi : D i := hl i (by simp)
    unfold sbL sortW
    rw [sbK_pos (f := fun b => lt i b) (t := posW lt i o) (fun b hb => hp i b hi (ho b hb)) (posW_le _ _ _) (fun j hj h => posW_behind H hi ho hs h hj) (fun j hj h => posW_before h) _ (Nat.le_refl _) (posW_le _ _ _), Option.bind_some]
    refine sbL_eq H hp t _ (fun b hb => hl b (by simp [hb])) ?_ (insW_sorted H hi ho hs)
    intro b hb
    rcases List.mem_cons.1 ((insW_perm lt i o).mem_iff.1 hb) with rfl | h
    · exact hi
    · exact ho b h
/-- Two sorted forms of the same numbers, where no two tie. -/
theorem sortedW_unique {lt : Int → Int → Bool} {a b : List Int} (hd : ∀ x ∈ a, ∀ y ∈ b, lt x y = false → lt y x = false → x = y) (ha : SortedW lt a) (hb : SortedW lt b) (hp : a.Perm b) : a = b :=
  List.Perm.eq_of_pairwise (fun x y hx hy h1 h2 => hd x hx y hy h2 h1) ha hb hp
theorem sortW_append (lt : Int → Int → Bool) : ∀ (a b o : List Int), sortW lt (a ++ b) o = sortW lt b (sortW lt a o)
  | [], b, o => rfl
  | i :: t, b, o => by simp only [List.cons_append, sortW]; exact sortW_append lt t b _

def idsW (n : Nat) : List Int := (List.range n).map (fun (i : Nat) => (i : Int))
theorem idsW_len (n : Nat) : (idsW n).length = n := by simp [idsW]
theorem idsW_mem {n : Nat} {b : Int} (h : b ∈ idsW n) : 0 ≤ b ∧ b < (n : Int) := by
  unfold idsW at h
  obtain ⟨i, hi, rfl⟩ := List.mem_map.1 h
  have := List.mem_range.1 hi
  omega
theorem idsW_succ (n : Nat) : idsW (n + 1) = idsW n ++ [(n : Int)] := by simp [idsW, List.range_succ]

abbrev inJ (n : Nat) (i : Int) : Prop := 0 ≤ i ∧ i < (n : Int)
theorem inJ_nat {n : Nat} {a : Int} (h : inJ n a) : ∃ i : Nat, i < n ∧ a = (i : Int) := ⟨a.toNat, by have := h.1; have := h.2; omega, by have := h.1; omega⟩
theorem rd_nat (l : List S58) {a : Int} (h : inJ l.length a) : rd_T58 l a = l[a.toNat]'(by have := h.1; have := h.2; omega) := by
  obtain ⟨i, hi, rfl⟩ := inJ_nat h
  rw [rdI l i hi]
  rfl

def ltN (a b : Int) : Bool := decide (a < b)
def ltD (l : List S58) (a b : Int) : Bool := decide ((rd_T58 l a).f3 < (rd_T58 l b).f3) || (decide ((rd_T58 l a).f3 = (rd_T58 l b).f3) && decide ((rd_T58 l a).f0 < (rd_T58 l b).f0))
def ltS (l : List S58) (a b : Int) : Bool := ltD l a b || (decide ((rd_T58 l a).f3 = (rd_T58 l b).f3) && (decide ((rd_T58 l a).f0 = (rd_T58 l b).f0) && decide (a < b)))
theorem ordN (D : Int → Prop) : OrdW ltN D := by
  constructor
  · intro a b _ _ h; unfold ltN at *; simp only [decide_eq_true_eq, decide_eq_false_iff_not] at *; omega
  · intro i a b _ _ _ h1 h2; unfold ltN at *; simp only [decide_eq_true_eq, decide_eq_false_iff_not] at *; omega
theorem ordD (l : List S58) (D : Int → Prop) : OrdW (ltD l) D := by
  constructor
  · intro a b _ _ h
    unfold ltD at *
    generalize (rd_T58 l a).f3 = x, (rd_T58 l b).f3 = y, (rd_T58 l a).f0 = u, (rd_T58 l b).f0 = v at *
    simp only [Bool.or_eq_true, Bool.and_eq_true, Bool.or_eq_false_iff, Bool.and_eq_false_iff, decide_eq_true_eq, decide_eq_false_iff_not] at *
    omega
  · intro i a b _ _ _ h1 h2
    unfold ltD at *
    generalize (rd_T58 l a).f3 = x, (rd_T58 l b).f3 = y, (rd_T58 l a).f0 = u, (rd_T58 l b).f0 = v, (rd_T58 l i).f3 = p, (rd_T58 l i).f0 = q at *
    simp only [Bool.or_eq_true, Bool.and_eq_true, Bool.or_eq_false_iff, Bool.and_eq_false_iff, decide_eq_true_eq, decide_eq_false_iff_not] at *
    omega
theorem ordS (l : List S58) (D : Int → Prop) : OrdW (ltS l) D := by
  constructor
  · intro a b _ _ h
    unfold ltS ltD at *
    generalize (rd_T58 l a).f3 = x, (rd_T58 l b).f3 = y, (rd_T58 l a).f0 = u, (rd_T58 l b).f0 = v at *
    simp only [Bool.or_eq_true, Bool.and_eq_true, Bool.or_eq_false_iff, Bool.and_eq_false_iff, decide_eq_true_eq, decide_eq_false_iff_not] at *
    omega
  · intro i a b _ _ _ h1 h2
    unfold ltS ltD at *
    generalize (rd_T58 l a).f3 = x, (rd_T58 l b).f3 = y, (rd_T58 l a).f0 = u, (rd_T58 l b).f0 = v, (rd_T58 l i).f3 = p, (rd_T58 l i).f0 = q at *
    simp only [Bool.or_eq_true, Bool.and_eq_true, Bool.or_eq_false_iff, Bool.and_eq_false_iff, decide_eq_true_eq, decide_eq_false_iff_not] at *
    omega
theorem ltS_total (l : List S58) (a b : Int) (h1 : ltS l a b = false) (h2 : ltS l b a = false) : a = b := by
  unfold ltS ltD at *
  generalize (rd_T58 l a).f3 = x, (rd_T58 l b).f3 = y, (rd_T58 l a).f0 = u, (rd_T58 l b).f0 = v at *
  simp only [Bool.or_eq_false_iff, Bool.and_eq_false_iff, decide_eq_false_iff_not] at *
  omega
theorem ltS_not (l : List S58) {a b : Int} (h : a ≠ b) : (!ltS l a b) = ltS l b a := by
  cases h1 : ltS l a b with
  | true => exact ((ordS l (fun _ => True)).asym a b trivial trivial h1).symm
  | false =>
    cases h2 : ltS l b a with
    | true => rfl
    | false => exact absurd (ltS_total l a b h1 h2) h
theorem posW_congr {lt lt' : Int → Int → Bool} {i : Int} : ∀ {o : List Int}, (∀ b ∈ o, lt i b = lt' i b) → posW lt i o = posW lt' i o := by
  intro o
  unfold posW
  induction o with
  | nil => intro _; rfl
  | cons x o ih =>
    intro h
    rw [List.findIdx_cons, List.findIdx_cons, h x (by simp), ih (fun b hb => h b (by simp [hb]))]
theorem sortDS (l : List S58) : ∀ (t o : List Int), (∀ b ∈ o, ∀ i ∈ t, b ≤ i) → t.Pairwise (fun a b => a ≤ b) → sortW (ltD l) t o = sortW (ltS l) t o
  | [], o, _, _ => rfl
  | i :: t, o, h, hs => by
    have e : insW (ltD l) i o = insW (ltS l) i o := by
      unfold insW
      rw [posW_congr (lt := ltD l) (lt' := ltS l) (fun b hb => by
        have := h b hb i (by simp)
        unfold ltS
        rw [decide_eq_false (show ¬ i < b by omega), Bool.and_false, Bool.and_false, Bool.or_false])]
    unfold sortW
    rw [e]
    rw [List.pairwise_cons] at hs
    refine sortDS l t _ ?_ hs.2
    intro b hb j hj
    rcases List.mem_cons.1 ((insW_perm _ i o).mem_iff.1 hb) with rfl | hb
    · exact hs.1 j hj
    · exact h b hb j (by simp [hj])
/-- In ascending order. -/
def ascW (L : List Int) : List Int := sortW ltN L []
theorem ascW_perm (L : List Int) : (ascW L).Perm L := by
  have := sortW_perm ltN L []
  rw [List.append_nil] at this
  exact this
theorem ascW_sorted (L : List Int) : (ascW L).Pairwise (fun a b => a ≤ b) := by
  have := sortW_sorted (ordN (fun _ => True)) L [] (fun _ _ => trivial) (by simp) List.Pairwise.nil
  exact this.imp (fun h => by unfold ltN at h; have := of_decide_eq_false h; omega)
theorem ascW_id {L : List Int} (h : L.Pairwise (fun a b => a ≤ b)) : ascW L = L :=
  List.Perm.eq_of_pairwise (fun a b _ _ h1 h2 => by omega) (ascW_sorted L) h (ascW_perm L)
theorem idsW_asc (n : Nat) : (idsW n).Pairwise (fun a b => a ≤ b) := by
  unfold idsW
  rw [List.pairwise_map]
  exact List.pairwise_lt_range.imp (fun h => by omega)
/-- In due order. -/
def dueL (l : List S58) (L : List Int) : List Int := sortW (ltS l) L []
theorem dueL_perm (l : List S58) (L : List Int) : (dueL l L).Perm L := by
  have := sortW_perm (ltS l) L []
  rw [List.append_nil] at this
  exact this
theorem dueL_sorted (l : List S58) (L : List Int) : SortedW (ltS l) (dueL l L) := sortW_sorted (ordS l (fun _ => True)) L [] (fun _ _ => trivial) (by simp) List.Pairwise.nil
theorem dueL_congr (l : List S58) {L M : List Int} (h : L.Perm M) : dueL l L = dueL l M :=
  sortedW_unique (fun x _ y _ h1 h2 => ltS_total l x y h1 h2) (dueL_sorted l L) (dueL_sorted l M) ((dueL_perm l L).trans (h.trans (dueL_perm l M).symm))

theorem l6Sorted_l1 (L out : List Int) (q : Nat) (hq : q < L.length) (hlen : out.length ≤ 1048576) (hL : L.length ≤ 1048576) (r : List Int)
    (hnext : Ev (fun k => spec_l6Sorted.l0 k L (insW ltN L[q] out) (wrap64 ((q : Int) + 1))) r) : ∀ (d k : Nat), k + d = posW ltN L[q] out → Ev (fun K => spec_l6Sorted.l1 K L out (q : Int) (k : Int)) r := by
  have fin : ∀ k : Nat, k = posW ltN L[q] out → ((out.take ((k : Nat) : Int).toNat ++ [L[q]]) ++ out.drop ((k : Nat) : Int).toNat) = insW ltN L[q] out := by
    intro k hk
    subst hk
    simp [insW]
  have hp := posW_le ltN L[q] out
  intro d
  induction d with
  | zero =>
    intro k hk
    have hk' : k = posW ltN L[q] out := by omega
    refine ev_succ ?_
    have c0 : ([] : List Int).length + (out.take ((k : Nat) : Int).toNat).length < 17592186044416 := by simp only [List.length_take, List.length_nil]; omega
    have c1 : ((out.take ((k : Nat) : Int).toNat).length + [L[q]].length < 17592186044416) := by simp only [List.length_take, List.length_singleton]; omega
    have c2 : (((out.take ((k : Nat) : Int).toNat) ++ [L[q]]).length + (out.drop ((k : Nat) : Int).toNat).length < 17592186044416) := by simp only [List.length_append, List.length_take, List.length_drop, List.length_singleton]; omega
    by_cases hkl : k < out.length
    · have hlt : ltN L[q] (out[k]'hkl) = true := by
        subst hk'
        exact posW_at hkl
      have hs : ¬ (out[k] ≤ L[q]) := by have := of_decide_eq_true hlt; omega
      simp only [spec_l6Sorted.l1, if_pos (show ((k : Nat) : Int) < (out.length : Int) by omega), if_pos (show (0 : Int) ≤ ((k : Nat) : Int) by omega), if_pos (show (0 : Int) ≤ (q : Int) by omega), if_pos (show (q : Int) < (L.length : Int) by omega), rdW out k hkl, rdW L q hq, if_neg hs, Option.bind_some, if_pos c0, List.nil_append, if_pos c1, if_pos c2, if_pos (show ((k : Nat) : Int) ≤ (out.length : Int) by omega), fin k hk']
      exact hnext
    · simp only [spec_l6Sorted.l1, if_neg (show ¬ ((k : Nat) : Int) < (out.length : Int) by omega), if_pos (show (0 : Int) ≤ ((k : Nat) : Int) by omega), if_pos (show ((k : Nat) : Int) ≤ (out.length : Int) by omega), if_pos (show (0 : Int) ≤ (q : Int) by omega), if_pos (show (q : Int) < (L.length : Int) by omega), rdW L q hq, Option.bind_some, if_pos c0, List.nil_append, if_pos c1, if_pos c2, fin k hk']
      exact hnext
  | succ d ih =>
    intro k hk
    refine ev_succ ?_
    have hkl : k < out.length := by omega
    have hlt : ltN L[q] out[k] = false := posW_before (by omega)
    have hs : out[k] ≤ L[q] := by have := of_decide_eq_false hlt; omega
    simp only [spec_l6Sorted.l1, if_pos (show ((k : Nat) : Int) < (out.length : Int) by omega), if_pos (show (0 : Int) ≤ ((k : Nat) : Int) by omega), if_pos (show (0 : Int) ≤ (q : Int) by omega), if_pos (show (q : Int) < (L.length : Int) by omega), rdW out k hkl, rdW L q hq, if_pos hs, w64 (x := ((k : Nat) : Int) + 1) (by omega) (by omega)]
    exact ih (k + 1) (by omega)
theorem l6Sorted_ev (L : List Int) (hn : L.length ≤ 1048576) : Ev (fun k => spec_l6Sorted.f k L) (ascW L) := by
  have main : ∀ (d i : Nat), i + d = L.length → Ev (fun k => spec_l6Sorted.l0 k L (sortW ltN (L.take i) []) (i : Int)) (ascW L) := by
    intro d
    induction d with
    | zero =>
      intro i hi
      refine ev_succ ?_
      simp only [spec_l6Sorted.l0, if_neg (show ¬ ((i : Int) < (L.length : Int)) by omega)]
      rw [List.take_of_length_le (by omega)]
      exact ev_now _
    | succ d ih =>
      intro i hi
      refine ev_succ ?_
      have hil : i < L.length := by omega
      simp only [spec_l6Sorted.l0, if_pos (show (i : Int) < (L.length : Int) by omega)]
      have hp := sortW_perm ltN (L.take i) []
      rw [List.append_nil] at hp
      refine l6Sorted_l1 L _ i hil (by rw [hp.length_eq, List.length_take]; omega) hn _ ?_ (posW ltN L[i] (sortW ltN (L.take i) [])) 0 (by omega)
      have := ih (i + 1) (by omega)
      rw [List.take_succ_eq_append_getElem hil, sortW_append] at this
      rw [w64 (x := (i : Int) + 1) (by omega) (by omega)]
      exact this
  exact main L.length 0 (by omega)

theorem ascending_eq (L : List Int) (h : L.length < 17592186044416) : impl_ascending.f L = some (ascW L) := by
  unfold impl_ascending.f
  simp only [impl_sortedBy_96.f, if_pos h]
  rw [sbL_eq (p := fun a b => impl_ascending_1.f a b) (lt := ltN) (ordN (fun _ => True)) (fun a b _ _ => rfl) _ _ (fun _ _ => trivial) (by simp) List.Pairwise.nil]
  rfl

def tbG (A B : List Int) : Nat → Nat → Int → Int → Int
  | 0, _, _, b => b
  | d + 1, i, t, b => tbG A B d (i + 1) (wrap64 (t + rd A (i : Int))) (wrap64 (b + mx 0 (wrap64 (wrap64 (t + rd A (i : Int)) - rd B (i : Int)))))
theorem most_mx (a : Int) : spec_l1Most.f a 0 = some (mx 0 a) := by
  unfold spec_l1Most.f mx
  by_cases h : 0 < a
  · rw [if_pos h, if_pos h]
  · rw [if_neg h, if_neg h]
theorem core (l : List S58) (hm : l.length ≤ 1048576) (_ : ∀ (i : Nat) (hi : i < l.length), I64 l[i].f0 ∧ I64 l[i].f1 ∧ I64 l[i].f2 ∧ I64 l[i].f3) :
    ∃ (r : Int) (ok : Bool), True ∧ Ev (fun k => spec_TardinessBound.f k l) (r, ok) ∧ Ev (fun k => impl_TardinessBound.f k l) (r, ok) := by
  have h1 := l6Good_ev l (by omega)
  have h2 := IsPlain_ev l (by omega)
  unfold spec_TardinessBound.f impl_TardinessBound.f
  cases hp : plainB l
  · rw [hp] at h1 h2
    exact ⟨0, false, trivial, ev_bind h1 (by simp only [Bool.false_eq_true, if_false]; exact ev_now _), ev_bind h2 (by simp only [Bool.false_eq_true, if_false]; exact ev_now _)⟩
  rw [hp] at h1 h2
  have hl := good_len (plain_good hp)
  have l0 : (l.map (fun j => j.f0)).length = l.length := by simp
  have l3 : (l.map (fun j => j.f3)).length = l.length := by simp
  generalize hA : ascW (l.map (fun j => j.f0)) = A
  generalize hB : ascW (l.map (fun j => j.f3)) = B
  have lA : A.length = l.length := by rw [← hA, (ascW_perm _).length_eq, l0]
  have lB : B.length = l.length := by rw [← hB, (ascW_perm _).length_eq, l3]
  refine ⟨tbG A B l.length 0 0 0, true, trivial, ev_bind h1 ?_, ev_bind h2 ?_⟩ <;> simp only [if_true]
  · have two : ∀ (d i : Nat) (t b : Int), i + d = l.length → Ev (fun k => spec_TardinessBound.l1 k l A B t b (i : Int)) (tbG A B d i t b, true) := by
      intro d
      induction d with
      | zero =>
        intro i t b hi
        refine ev_succ ?_
        simp only [spec_TardinessBound.l1, if_neg (show ¬ ((i : Int) < (l.length : Int)) by omega), tbG]
        exact ev_now _
      | succ d ih =>
        intro i t b hi
        refine ev_succ ?_
        have := ih (i + 1) (wrap64 (t + rd A (i : Int))) (wrap64 (b + mx 0 (wrap64 (wrap64 (t + rd A (i : Int)) - rd B (i : Int))))) (by omega)
        simp only [spec_TardinessBound.l1, if_pos (show ((i : Int) < (l.length : Int)) by omega), if_pos (show (0 : Int) ≤ (i : Int) by omega), if_pos (show ((i : Int) < (A.length : Int)) by omega), if_pos (show ((i : Int) < (B.length : Int)) by omega), most_mx, Option.bind_some, tbG, w64 (x := (i : Int) + 1) (by omega) (by omega)]
        exact this
    have one : ∀ (d i : Nat), i + d = l.length → Ev (fun k => spec_TardinessBound.l0 k l ((l.map (fun j => j.f0)).take i) ((l.map (fun j => j.f3)).take i) 0 0 (i : Int)) (tbG A B l.length 0 0 0, true) := by
      intro d
      induction d with
      | zero =>
        intro i hi
        refine ev_succ ?_
        simp only [spec_TardinessBound.l0, if_neg (show ¬ ((i : Int) < (l.length : Int)) by omega)]
        rw [List.take_of_length_le (by omega), List.take_of_length_le (by omega)]
        refine ev_bind (a := A) (hA ▸ l6Sorted_ev _ (by omega)) (ev_bind (a := B) (hB ▸ l6Sorted_ev _ (by omega)) ?_)
        exact two l.length 0 0 0 (by omega)
      | succ d ih =>
        intro i hi
        refine ev_succ ?_
        have hil : i < l.length := by omega
        have := ih (i + 1) (by omega)
        rw [List.take_succ_eq_append_getElem (by omega), List.take_succ_eq_append_getElem (by omega), List.getElem_map, List.getElem_map] at this
        simp only [spec_TardinessBound.l0, if_pos (show ((i : Int) < (l.length : Int)) by omega), if_pos (show (0 : Int) ≤ (i : Int) by omega), if_pos (show ((l.map (fun j => j.f0)).take i).length < 17592186044416 by rw [List.length_take]; omega), if_pos (show ((l.map (fun j => j.f3)).take i).length < 17592186044416 by rw [List.length_take]; omega), rdI l i hil, w64 (x := (i : Int) + 1) (by omega) (by omega)]
        exact this
    exact one l.length 0 (by omega)
  · have two : ∀ (d i : Nat) (t b : Int), i + d = l.length → Ev (fun k => impl_TardinessBound.l1 k A B b t (l.length : Int) (i : Int)) (tbG A B d i t b, true) := by
      intro d
      induction d with
      | zero =>
        intro i t b hi
        refine ev_succ ?_
        simp only [impl_TardinessBound.l1, if_neg (show ¬ ((i : Int) < (l.length : Int)) by omega), tbG]
        exact ev_now _
      | succ d ih =>
        intro i t b hi
        refine ev_succ ?_
        have := ih (i + 1) (wrap64 (t + rd A (i : Int))) (wrap64 (b + mx 0 (wrap64 (wrap64 (t + rd A (i : Int)) - rd B (i : Int))))) (by omega)
        simp only [impl_TardinessBound.l1, if_pos (show ((i : Int) < (l.length : Int)) by omega), if_pos (show (0 : Int) ≤ (i : Int) by omega), if_pos (show ((i : Int) < (A.length : Int)) by omega), if_pos (show ((i : Int) < (B.length : Int)) by omega), tbG, w64 (x := (i : Int) + 1) (by omega) (by omega)]
        exact this
    have one : ∀ (d i : Nat), i + d = l.length → Ev (fun k => impl_TardinessBound.l0 k l ((l.map (fun j => j.f0)).take i) ((l.map (fun j => j.f3)).take i) l (l.length : Int) (i : Int)) (tbG A B l.length 0 0 0, true) := by
      intro d
      induction d with
      | zero =>
        intro i hi
        refine ev_succ ?_
        simp only [impl_TardinessBound.l0, if_neg (show ¬ ((i : Int) < (l.length : Int)) by omega)]
        rw [List.take_of_length_le (by omega), List.take_of_length_le (by omega)]
        simp only [ascending_eq _ (show (l.map (fun j => j.f0)).length < 17592186044416 by omega), ascending_eq _ (show (l.map (fun j => j.f3)).length < 17592186044416 by omega), Option.bind_some, hA, hB]
        exact two l.length 0 0 0 (by omega)
      | succ d ih =>
        intro i hi
        refine ev_succ ?_
        have hil : i < l.length := by omega
        have := ih (i + 1) (by omega)
        rw [List.take_succ_eq_append_getElem (by omega), List.take_succ_eq_append_getElem (by omega), List.getElem_map, List.getElem_map] at this
        simp only [impl_TardinessBound.l0, if_pos (show ((i : Int) < (l.length : Int)) by omega), if_pos (show (0 : Int) ≤ (i : Int) by omega), Option.bind_some, rdI l i hil, w64 (x := (i : Int) + 1) (by omega) (by omega)]
        simp only [if_pos (show ((l.map (fun j => j.f0)).take i).length + [l[i].f0].length < 17592186044416 by rw [List.length_take, List.length_singleton]; omega), if_pos (show ((l.map (fun j => j.f3)).take i).length + [l[i].f3].length < 17592186044416 by rw [List.length_take, List.length_singleton]; omega)]
        exact this
    exact one l.length 0 (by omega)

theorem FnExactTardinessBound : FnExactTardinessBound.Claim := by
  intro l0 hl0 hg0
  refine Ev.rounds ?_
  unfold laws_FnExactTardinessBound.f
  simp only [szJobS_eq l0 (1048576 : Int) (by omega) (by omega) hl0, Option.bind_some]
  by_cases h0 : (1048576 : Int) < l0.length
  · simp only [if_pos h0, if_pos (show (-1 : Int) < 0 by omega)]
    exact ev_now _
  simp only [if_neg h0, if_neg (show ¬ (((1048576 : Int) - l0.length) < 0) by omega)]
  have ht0 := toJobS_ev l0 (by omega)
  have hm0 : (l0.map conv).length ≤ 1048576 := by simp; omega
  have hq0 := eqJobS_ev (l0.map conv) (by omega)
  obtain ⟨r0, r1, _, hs, hi⟩ := core (l0.map conv) hm0 (conv_I64 l0 hg0)
  repeat first
    | exact ev_now _
    | with_reducible refine ev_bind hs ?_
    | with_reducible refine ev_bind hi ?_
    | with_reducible refine ev_bind ht0 ?_
    | with_reducible refine ev_bind hq0 ?_
    | simp only [if_true, if_false, bne_self_eq_false, Bool.false_eq_true]
    | (refine ev_succ ?_; simp only [laws_FnExactTardinessBound.j0])

end Go.Proofs.Ytafhfmggehaknaa.Pure
