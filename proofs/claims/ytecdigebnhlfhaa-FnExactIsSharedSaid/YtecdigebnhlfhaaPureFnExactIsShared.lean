/- The program's function and the reference's come to the same answer: the statement of numbers and lists behind the law FnExactIsShared. Conditions: none. -/
import Derived.Test.YtecdigebnhlfhaaArgFnExactIsShared
import Derived.Test.YtecdigebnhlfhaaBase
namespace Go.Proofs.Ytecdigebnhlfhaa.Pure
open Go.RowKit Go.Proofs.Ytecdigebnhlfhaa.OFnExactIsShared Go.Proofs.Ytecdigebnhlfhaa.Base Go.Proofs.YtecdigebnhlfhaaW.PrintWords Go.Proofs.YtecdigebnhlfhaaW.PrintLast Go.Proofs.YtecdigebnhlfhaaW.PrintMore Go.Proofs.Ytecdigebnhlfhaa.Open
set_option linter.unusedVariables false
set_option linter.unusedSimpArgs false

theorem szJobS_eq (xs : List S83) (left : Int) (h0 : 0 ≤ left) (h1 : left ≤ 1048576) (h : xs.length ≤ 9223372036854775807) : laws_szJobS.f xs left = some (if left < xs.length then -1 else left - xs.length) := by
  unfold laws_szJobS.f
  rw [w64 (by omega) (by omega)]
  by_cases c : left < xs.length
  · rw [if_pos (by omega), if_pos c]
  · rw [if_neg (by omega), if_neg c]

def conv (x : S83) : S79 := ⟨x.f0, x.f1, x.f2, x.f3⟩
theorem rdL (xs : List S83) (i : Nat) (h : i < xs.length) : rd_T83 xs (i : Int) = xs[i] := by
  unfold rd_T83
  rw [Int.toNat_natCast, List.getD_eq_getElem?_getD, List.getElem?_eq_getElem h]
  rfl

theorem toJobS_l (xs : List S83) (hn : xs.length ≤ 8796093022208) : ∀ (d i : Nat) (ys : List S79), i + d = xs.length → ys.length = xs.length → ys.take i = (xs.map conv).take i → Ev (fun k => laws_toJobS.l0 k xs ys (i : Int)) (xs.map conv) := by
  intro d
  induction d with
  | zero =>
    intro i ys hi hl ht
    refine ev_succ ?_
    simp only [laws_toJobS.l0, if_neg (show ¬ (i : Int) < (xs.length : Int) by omega)]
    have : ys = xs.map conv := by
      rw [List.take_of_length_le (by omega), List.take_of_length_le (by simp; omega)] at ht
      exact ht
    rw [this]
    exact ev_now _
  | succ d ih =>
    intro i ys hi hl ht
    refine ev_succ ?_
    have hx : i < xs.length := by omega
    simp only [laws_toJobS.l0, laws_toJob.f, Option.bind_some, if_pos (show (i : Int) < (xs.length : Int) by omega), if_pos (show (i : Int) < (ys.length : Int) by omega), if_pos (show (0 : Int) ≤ (i : Int) by omega), rdL xs i hx, wsucc i (by omega), Int.toNat_natCast]
    refine ih (i + 1) _ (by omega) (by rw [List.length_set]; exact hl) ?_
    rw [take_set_succ ys i _ (by omega), ht, List.take_succ_eq_append_getElem (by simp; omega)]
    simp [conv]
theorem toJobS_ev (xs : List S83) (hn : xs.length ≤ 1048576) : Ev (fun k => laws_toJobS.f k xs) (xs.map conv) := by
  unfold laws_toJobS.f
  simp only [if_pos (show (0 : Int) ≤ (xs.length : Int) by omega), Int.toNat_natCast, if_pos (show xs.length ≤ 8796093022208 by omega)]
  exact toJobS_l xs (by omega) xs.length 0 _ (by omega) (by simp) (by simp)

theorem rdI (xs : List S79) (i : Nat) (h : i < xs.length) : rd_T79 xs (i : Int) = xs[i] := by
  unfold rd_T79
  rw [Int.toNat_natCast, List.getD_eq_getElem?_getD, List.getElem?_eq_getElem h]
  rfl

theorem eqJobS_l (xs : List S79) (hn : xs.length ≤ 4611686018427387904) : ∀ (d i : Nat), i + d = xs.length → Ev (fun k => laws_eqJobS.l0 k xs xs (i : Int)) true := by
  intro d
  induction d with
  | zero =>
    intro i hi
    refine ev_succ ?_
    simp only [laws_eqJobS.l0, if_neg (show ¬ (i : Int) < (xs.length : Int) by omega)]
    exact ev_now _
  | succ d ih =>
    intro i hi
    refine ev_succ ?_
    simp only [laws_eqJobS.l0, laws_eqJob.f, if_true, Option.bind_some, if_pos (show (i : Int) < (xs.length : Int) by omega), if_pos (show (0 : Int) ≤ (i : Int) by omega), wsucc i (by omega)]
    exact ih (i + 1) (by omega)
theorem eqJobS_ev (xs : List S79) (hn : xs.length ≤ 4611686018427387904) : Ev (fun k => laws_eqJobS.f k xs xs) true := by
  unfold laws_eqJobS.f
  simp only [if_true]
  exact eqJobS_l xs hn xs.length 0 (by omega)

theorem conv_I64 (l : List S83) (hg : ∀ x ∈ l, G83 x) (i : Nat) (hi : i < (l.map conv).length) : I64 (l.map conv)[i].f0 ∧ I64 (l.map conv)[i].f1 ∧ I64 (l.map conv)[i].f2 ∧ I64 (l.map conv)[i].f3 := by
  simp only [List.getElem_map, conv]
  exact hg _ (List.getElem_mem _)

theorem szSpanS_eq (xs : List S134) (left : Int) (h0 : 0 ≤ left) (h1 : left ≤ 1048576) (h : xs.length ≤ 9223372036854775807) : laws_szSpanS.f xs left = some (if left < xs.length then -1 else left - xs.length) := by
  unfold laws_szSpanS.f
  rw [w64 (by omega) (by omega)]
  by_cases c : left < xs.length
  · rw [if_pos (by omega), if_pos c]
  · rw [if_neg (by omega), if_neg c]

def convS (x : S134) : S130 := ⟨x.f0, x.f1, x.f2⟩
theorem rdLS (xs : List S134) (i : Nat) (h : i < xs.length) : rd_T134 xs (i : Int) = xs[i] := by
  unfold rd_T134
  rw [Int.toNat_natCast, List.getD_eq_getElem?_getD, List.getElem?_eq_getElem h]
  rfl

theorem toSpanS_l (xs : List S134) (hn : xs.length ≤ 11728124029610) : ∀ (d i : Nat) (ys : List S130), i + d = xs.length → ys.length = xs.length → ys.take i = (xs.map convS).take i → Ev (fun k => laws_toSpanS.l0 k xs ys (i : Int)) (xs.map convS) := by
  intro d
  induction d with
  | zero =>
    intro i ys hi hl ht
    refine ev_succ ?_
    simp only [laws_toSpanS.l0, if_neg (show ¬ (i : Int) < (xs.length : Int) by omega)]
    have : ys = xs.map convS := by
      rw [List.take_of_length_le (by omega), List.take_of_length_le (by simp; omega)] at ht
      exact ht
    rw [this]
    exact ev_now _
  | succ d ih =>
    intro i ys hi hl ht
    refine ev_succ ?_
    have hx : i < xs.length := by omega
    simp only [laws_toSpanS.l0, laws_toSpan.f, Option.bind_some, if_pos (show (i : Int) < (xs.length : Int) by omega), if_pos (show (i : Int) < (ys.length : Int) by omega), if_pos (show (0 : Int) ≤ (i : Int) by omega), rdLS xs i hx, wsucc i (by omega), Int.toNat_natCast]
    refine ih (i + 1) _ (by omega) (by rw [List.length_set]; exact hl) ?_
    rw [take_set_succ ys i _ (by omega), ht, List.take_succ_eq_append_getElem (by simp; omega)]
    simp [convS]
theorem toSpanS_ev (xs : List S134) (hn : xs.length ≤ 1048576) : Ev (fun k => laws_toSpanS.f k xs) (xs.map convS) := by
  unfold laws_toSpanS.f
  simp only [if_pos (show (0 : Int) ≤ (xs.length : Int) by omega), Int.toNat_natCast, if_pos (show xs.length ≤ 11728124029610 by omega)]
  exact toSpanS_l xs (by omega) xs.length 0 _ (by omega) (by simp) (by simp)

theorem rdIS (xs : List S130) (i : Nat) (h : i < xs.length) : rd_T130 xs (i : Int) = xs[i] := by
  unfold rd_T130
  rw [Int.toNat_natCast, List.getD_eq_getElem?_getD, List.getElem?_eq_getElem h]
  rfl

theorem eqSpanS_l (xs : List S130) (hn : xs.length ≤ 4611686018427387904) : ∀ (d i : Nat), i + d = xs.length → Ev (fun k => laws_eqSpanS.l0 k xs xs (i : Int)) true := by
  intro d
  induction d with
  | zero =>
    intro i hi
    refine ev_succ ?_
    simp only [laws_eqSpanS.l0, if_neg (show ¬ (i : Int) < (xs.length : Int) by omega)]
    exact ev_now _
  | succ d ih =>
    intro i hi
    refine ev_succ ?_
    simp only [laws_eqSpanS.l0, laws_eqSpan.f, if_true, Option.bind_some, if_pos (show (i : Int) < (xs.length : Int) by omega), if_pos (show (0 : Int) ≤ (i : Int) by omega), wsucc i (by omega)]
    exact ih (i + 1) (by omega)
theorem eqSpanS_ev (xs : List S130) (hn : xs.length ≤ 4611686018427387904) : Ev (fun k => laws_eqSpanS.f k xs xs) true := by
  unfold laws_eqSpanS.f
  simp only [if_true]
  exact eqSpanS_l xs hn xs.length 0 (by omega)

theorem rdLSS (xs : List (List S134)) (i : Nat) (h : i < xs.length) : rd_L4 xs (i : Int) = xs[i] := by
  unfold rd_L4
  rw [Int.toNat_natCast, List.getD_eq_getElem?_getD, List.getElem?_eq_getElem h]
  rfl
theorem rdISS (xs : List (List S130)) (i : Nat) (h : i < xs.length) : rd_L9 xs (i : Int) = xs[i] := by
  unfold rd_L9
  rw [Int.toNat_natCast, List.getD_eq_getElem?_getD, List.getElem?_eq_getElem h]
  rfl
theorem szSpanSS_ev (xs : List (List S134)) (left : Int) (h0 : 0 ≤ left) (h1 : left ≤ 1048576) (hn : xs.length ≤ 9223372036854775807) (hr : ∀ r ∈ xs, r.length ≤ 9223372036854775807) :
    ∃ r : Int, Ev (fun k => laws_szSpanSS.f k xs left) r ∧ (r < 0 ∨ 0 ≤ r ∧ xs.length ≤ 1048576 ∧ ∀ q ∈ xs, q.length ≤ 1048576) := by
  have key : xs.length ≤ 1048576 → ∀ (d i : Nat) (a : Int), i + d = xs.length → 0 ≤ a → a ≤ 1048576 → (∀ (q : Nat) (h : q < xs.length), q < i → xs[q].length ≤ 1048576) → ∃ r : Int, Ev (fun k => laws_szSpanSS.l0 k xs a (i : Int)) r ∧ (r < 0 ∨ 0 ≤ r ∧ ∀ q ∈ xs, q.length ≤ 1048576) := by
    intro hx d
    induction d with
    | zero =>
      intro i a hi ha0 ha1 hq
      refine ⟨a, ev_succ ?_, Or.inr ⟨ha0, fun q hq' => ?_⟩⟩
      · simp only [laws_szSpanSS.l0, if_neg (show ¬ (i : Int) < (xs.length : Int) by omega)]; exact ev_now _
      · obtain ⟨j, hj, rfl⟩ := List.mem_iff_getElem.mp hq'
        exact hq j hj (by omega)
    | succ d ih =>
      intro i a hi ha0 ha1 hq
      have hxi : i < xs.length := by omega
      have hz := szSpanS_eq xs[i] a ha0 ha1 (hr _ (List.getElem_mem hxi))
      by_cases c : a < (xs[i].length : Int)
      · refine ⟨-1, ev_succ ?_, Or.inl (by omega)⟩
        rw [if_pos c] at hz
        simp only [laws_szSpanSS.l0, if_pos (show (i : Int) < (xs.length : Int) by omega), if_pos (show (0 : Int) ≤ (i : Int) by omega), rdLSS xs i hxi, hz, Option.bind_some, if_pos (show (-1 : Int) < 0 by omega)]
        exact ev_now _
      · rw [if_neg c] at hz
        obtain ⟨r, h1, h2⟩ := ih (i + 1) (a - xs[i].length) (by omega) (by omega) (by omega) (fun q h hq' => by
          by_cases e : q = i
          · subst e; omega
          · exact hq q h (by omega))
        refine ⟨r, ev_succ ?_, h2⟩
        simp only [laws_szSpanSS.l0, if_pos (show (i : Int) < (xs.length : Int) by omega), if_pos (show (0 : Int) ≤ (i : Int) by omega), rdLSS xs i hxi, hz, Option.bind_some, if_neg (show ¬ (a - (xs[i].length : Int)) < 0 by omega), wsucc i (by omega)]
        exact h1
  unfold laws_szSpanSS.f
  rw [w64 (x := left - (xs.length : Int)) (by omega) (by omega)]
  by_cases c : left - (xs.length : Int) < 0
  · exact ⟨-1, by simp only [if_pos c]; exact ev_now _, Or.inl (by omega)⟩
  · obtain ⟨r, h1, h2⟩ := key (by omega) xs.length 0 (left - xs.length) (Nat.zero_add _) (by omega) (by omega) (fun q _ h => by omega)
    refine ⟨r, by simp only [if_neg c]; exact h1, ?_⟩
    rcases h2 with h2 | ⟨h2, h3⟩
    · exact Or.inl h2
    · exact Or.inr ⟨h2, by omega, h3⟩
theorem toSpanSS_ev (xs : List (List S134)) (hn : xs.length ≤ 1048576) (hr : ∀ q ∈ xs, q.length ≤ 1048576) : Ev (fun k => laws_toSpanSS.f k xs) (xs.map (List.map convS)) := by
  have key : ∀ (d i : Nat) (ys : List (List S130)), i + d = xs.length → ys.length = xs.length → ys.take i = (xs.map (List.map convS)).take i → Ev (fun k => laws_toSpanSS.l0 k xs ys (i : Int)) (xs.map (List.map convS)) := by
    intro d
    induction d with
    | zero =>
      intro i ys hi hl ht
      refine ev_succ ?_
      simp only [laws_toSpanSS.l0, if_neg (show ¬ (i : Int) < (xs.length : Int) by omega)]
      have : ys = xs.map (List.map convS) := by
        rw [List.take_of_length_le (by omega), List.take_of_length_le (by simp; omega)] at ht
        exact ht
      rw [this]
      exact ev_now _
    | succ d ih =>
      intro i ys hi hl ht
      refine ev_succ ?_
      have hx : i < xs.length := by omega
      simp only [laws_toSpanSS.l0, if_pos (show (i : Int) < (xs.length : Int) by omega), if_pos (show (0 : Int) ≤ (i : Int) by omega), rdLSS xs i hx]
      refine ev_bind (toSpanS_ev xs[i] (hr _ (List.getElem_mem hx))) ?_
      simp only [if_pos (show (i : Int) < (ys.length : Int) by omega), wsucc i (by omega), Int.toNat_natCast]
      refine ih (i + 1) _ (by omega) (by rw [List.length_set]; exact hl) ?_
      rw [take_set_succ ys i _ (by omega), ht, List.take_succ_eq_append_getElem (by simp; omega)]
      simp
  unfold laws_toSpanSS.f
  simp only [if_pos (show (0 : Int) ≤ (xs.length : Int) by omega), Int.toNat_natCast, if_pos (show xs.length ≤ 11728124029610 by omega)]
  exact key xs.length 0 _ (Nat.zero_add _) (by simp) (by simp)
theorem eqSpanSS_ev (xs : List (List S130)) (hn : xs.length ≤ 1048576) (hr : ∀ q ∈ xs, q.length ≤ 1048576) : Ev (fun k => laws_eqSpanSS.f k xs xs) true := by
  have key : ∀ (d i : Nat), i + d = xs.length → Ev (fun k => laws_eqSpanSS.l0 k xs xs (i : Int)) true := by
    intro d
    induction d with
    | zero =>
      intro i hi
      refine ev_succ ?_
      simp only [laws_eqSpanSS.l0, if_neg (show ¬ (i : Int) < (xs.length : Int) by omega)]
      exact ev_now _
    | succ d ih =>
      intro i hi
      refine ev_succ ?_
      have hx : i < xs.length := by omega
      simp only [laws_eqSpanSS.l0, if_pos (show (i : Int) < (xs.length : Int) by omega), if_pos (show (0 : Int) ≤ (i : Int) by omega), rdISS xs i hx, wsucc i (by omega)]
      have := hr _ (List.getElem_mem hx)
      refine ev_bind (eqSpanS_ev xs[i] (by omega)) ?_
      simp only [if_true]
      exact ih (i + 1) (by omega)
  unfold laws_eqSpanSS.f
  simp only [if_true]
  exact key xs.length 0 (Nat.zero_add _)

theorem within_eq (a b c : Int) : impl_within.f a b c = some (decide (b ≤ a) && decide (a ≤ c)) := by
  unfold impl_within.f
  by_cases h : b ≤ a
  · rw [if_pos h]; simp [h]
  · rw [if_neg h]; simp [h]

/-- A job's numbers are in their bounds. -/
def okJ (x : S79) : Bool := decide (1 ≤ x.f0) && (decide (x.f0 ≤ 50) && (decide (0 ≤ x.f1) && (decide (x.f1 ≤ 50) && (decide (0 ≤ x.f2) && (decide (x.f2 ≤ 500) && (decide (0 ≤ x.f3) && decide (x.f3 ≤ 500)))))))
def goodB (l : List S79) : Bool := decide (l.length ≤ 8) && l.all okJ
theorem isDate_eq (a : Int) : impl_isDate.f a = some (decide (0 ≤ a) && decide (a ≤ 500)) := by
  unfold impl_isDate.f
  rw [within_eq]
  rfl
theorem job_chain (x : S79) (o : Option Bool) : (if (decide (1 ≤ x.f0) && decide (x.f0 ≤ 50)) = true then (if (decide (0 ≤ x.f1) && decide (x.f1 ≤ 50)) = true then (if (decide (0 ≤ x.f2) && decide (x.f2 ≤ 500)) = true then (if (decide (0 ≤ x.f3) && decide (x.f3 ≤ 500)) = true then o else some false) else some false) else some false) else some false) = if okJ x = true then o else some false := by
  unfold okJ
  by_cases a1 : 1 ≤ x.f0 <;> by_cases a2 : x.f0 ≤ 50 <;> simp [a1, a2]
  by_cases b1 : 0 ≤ x.f1 <;> by_cases b2 : x.f1 ≤ 50 <;> simp [b1, b2]
  by_cases c1 : 0 ≤ x.f2 <;> by_cases c2 : x.f2 ≤ 500 <;> simp [c1, c2]
theorem IsJobs_l (xs : List S79) (hn : xs.length ≤ 4611686018427387904) : ∀ (d i : Nat), i + d = xs.length → Ev (fun k => impl_IsJobs.l0 k xs (xs.length : Int) (i : Int)) ((xs.drop i).all okJ) := by
  intro d
  induction d with
  | zero =>
    intro i hi
    refine ev_succ ?_
    simp only [impl_IsJobs.l0, if_neg (show ¬ (i : Int) < (xs.length : Int) by omega), List.drop_of_length_le (show xs.length ≤ i by omega)]
    exact ev_now _
  | succ d ih =>
    intro i hi
    refine ev_succ ?_
    have hx : i < xs.length := by omega
    have hih := ih (i + 1) (by omega)
    rw [List.drop_eq_getElem_cons hx, List.all_cons]
    simp only [impl_IsJobs.l0, within_eq, isDate_eq, Option.bind_some, if_pos (show (i : Int) < (xs.length : Int) by omega), if_pos (show (0 : Int) ≤ (i : Int) by omega), wsucc i (by omega), rdI xs i hx]
    generalize xs[i] = x at *
    simp only [job_chain]
    by_cases c : okJ x = true
    · simpa only [c, if_true, Bool.true_and] using hih
    · have c' : okJ x = false := by simpa using c
      simp only [c', Bool.false_and]
      exact ev_now _
theorem IsJobs_ev (xs : List S79) (hn : xs.length ≤ 4611686018427387904) : Ev (fun k => impl_IsJobs.f k xs) (goodB xs) := by
  unfold impl_IsJobs.f goodB
  by_cases h : xs.length ≤ 8
  · simp only [if_neg (show ¬ ((xs.length : Int) > 8) by omega), decide_eq_true h, Bool.true_and]
    exact IsJobs_l xs hn xs.length 0 (by omega)
  · simp only [if_pos (show ((xs.length : Int) > 8) by omega), decide_eq_false h, Bool.false_and]
    exact ev_now _

def freeJ (x : S79) : Bool := decide (x.f2 = 0)
def plainB (l : List S79) : Bool := goodB l && l.all freeJ
theorem isPlain_l (xs : List S79) (hn : xs.length ≤ 4611686018427387904) : ∀ (d i : Nat), i + d = xs.length → Ev (fun k => impl_isPlain.l0 k xs (xs.length : Int) (i : Int)) ((xs.drop i).all freeJ) := by
  intro d
  induction d with
  | zero =>
    intro i hi
    refine ev_succ ?_
    simp only [impl_isPlain.l0, if_neg (show ¬ (i : Int) < (xs.length : Int) by omega), List.drop_of_length_le (show xs.length ≤ i by omega)]
    exact ev_now _
  | succ d ih =>
    intro i hi
    refine ev_succ ?_
    have hx : i < xs.length := by omega
    have hih := ih (i + 1) (by omega)
    rw [List.drop_eq_getElem_cons hx, List.all_cons]
    simp only [impl_isPlain.l0, if_pos (show (i : Int) < (xs.length : Int) by omega), if_pos (show (0 : Int) ≤ (i : Int) by omega), wsucc i (by omega), rdI xs i hx]
    by_cases c : (xs[i]).f2 = 0
    · simp only [if_pos c, freeJ, decide_eq_true c, Bool.true_and]
      exact hih
    · simp only [if_neg c, freeJ, decide_eq_false c, Bool.false_and]
      exact ev_now _
theorem isPlain_ev (xs : List S79) (hn : xs.length ≤ 4611686018427387904) : Ev (fun k => impl_isPlain.f k xs) (xs.all freeJ) := by
  unfold impl_isPlain.f
  exact isPlain_l xs hn xs.length 0 (by omega)

theorem IsPlain_ev (xs : List S79) (hn : xs.length ≤ 4611686018427387904) : Ev (fun k => impl_IsPlain.f k xs) (plainB xs) := by
  unfold impl_IsPlain.f plainB
  refine ev_bind (IsJobs_ev xs hn) ?_
  cases goodB xs
  · simp only [Bool.false_eq_true, if_false, Bool.false_and]; exact ev_now _
  · simp only [if_true, Bool.true_and]; exact ev_bind (isPlain_ev xs hn) (ev_now _)

theorem plain_good {xs : List S79} (h : plainB xs = true) : goodB xs = true := by
  unfold plainB at h
  simp only [Bool.and_eq_true] at h
  exact h.1

theorem good_len {xs : List S79} (h : goodB xs = true) : xs.length ≤ 8 := by
  unfold goodB at h
  simp only [Bool.and_eq_true, decide_eq_true_eq] at h
  exact h.1
theorem good_at {xs : List S79} (h : goodB xs = true) (i : Nat) (hi : i < xs.length) : 1 ≤ xs[i].f0 ∧ xs[i].f0 ≤ 50 ∧ 0 ≤ xs[i].f1 ∧ xs[i].f1 ≤ 50 ∧ 0 ≤ xs[i].f2 ∧ xs[i].f2 ≤ 500 ∧ 0 ≤ xs[i].f3 ∧ xs[i].f3 ≤ 500 := by
  unfold goodB at h
  simp only [Bool.and_eq_true, List.all_eq_true] at h
  have b := h.2 xs[i] (List.getElem_mem hi)
  simp only [okJ, Bool.and_eq_true, decide_eq_true_eq] at b
  obtain ⟨a1, a2, b1, b2, c1, c2, d1, d2⟩ := b
  exact ⟨a1, a2, b1, b2, c1, c2, d1, d2⟩

theorem l1In_eq (a b c : Int) : spec_l1In.f a b c = some (decide (b ≤ a) && decide (a ≤ c)) := by
  unfold spec_l1In.f
  by_cases h : b ≤ a
  · rw [if_pos h]; simp [h]
  · rw [if_neg h]; simp [h]

theorem l2Job_eq (x : S79) : spec_l2Job.f x.f0 x.f1 x.f2 x.f3 = some (okJ x) := by
  unfold spec_l2Job.f okJ
  simp only [l1In_eq, Option.bind_some]
  by_cases a1 : 1 ≤ x.f0 <;> by_cases a2 : x.f0 ≤ 50 <;> simp [a1, a2]
  by_cases b1 : 0 ≤ x.f1 <;> by_cases b2 : x.f1 ≤ 50 <;> simp [b1, b2]
  by_cases c1 : 0 ≤ x.f2 <;> by_cases c2 : x.f2 ≤ 500 <;> simp [c1, c2]
theorem l2Good_l (xs : List S79) (hn : xs.length ≤ 4611686018427387904) : ∀ (d i : Nat), i + d = xs.length → Ev (fun k => spec_l2Good.l0 k xs (i : Int)) ((xs.drop i).all okJ && decide (xs.length ≤ 8)) := by
  intro d
  induction d with
  | zero =>
    intro i hi
    refine ev_succ ?_
    simp only [spec_l2Good.l0, if_neg (show ¬ (i : Int) < (xs.length : Int) by omega), List.drop_of_length_le (show xs.length ≤ i by omega)]
    refine ev_const ?_
    simp
    omega
  | succ d ih =>
    intro i hi
    refine ev_succ ?_
    have hx : i < xs.length := by omega
    have hih := ih (i + 1) (by omega)
    rw [List.drop_eq_getElem_cons hx, List.all_cons]
    simp only [spec_l2Good.l0, if_pos (show (i : Int) < (xs.length : Int) by omega), if_pos (show (0 : Int) ≤ (i : Int) by omega), wsucc i (by omega), rdI xs i hx, l2Job_eq, Option.bind_some]
    by_cases c : okJ xs[i] = true
    · simpa only [c, if_true, Bool.true_and] using hih
    · have c' : okJ xs[i] = false := by simpa using c
      simp only [c', Bool.false_and]
      exact ev_now _
theorem l2Good_ev (xs : List S79) (hn : xs.length ≤ 4611686018427387904) : Ev (fun k => spec_l2Good.f k xs) (goodB xs) := by
  unfold spec_l2Good.f goodB
  rw [Bool.and_comm]
  exact l2Good_l xs hn xs.length 0 (by omega)

theorem l3Plain_l (xs : List S79) (hn : xs.length ≤ 4611686018427387904) : ∀ (d i : Nat), i + d = xs.length → Ev (fun k => spec_l3Plain.l0 k xs (i : Int)) ((xs.drop i).all freeJ) := by
  intro d
  induction d with
  | zero =>
    intro i hi
    refine ev_succ ?_
    simp only [spec_l3Plain.l0, if_neg (show ¬ (i : Int) < (xs.length : Int) by omega), List.drop_of_length_le (show xs.length ≤ i by omega)]
    exact ev_now _
  | succ d ih =>
    intro i hi
    refine ev_succ ?_
    have hx : i < xs.length := by omega
    have hih := ih (i + 1) (by omega)
    rw [List.drop_eq_getElem_cons hx, List.all_cons]
    simp only [spec_l3Plain.l0, if_pos (show (i : Int) < (xs.length : Int) by omega), if_pos (show (0 : Int) ≤ (i : Int) by omega), wsucc i (by omega), rdI xs i hx]
    by_cases c : (xs[i]).f2 = 0
    · simp only [if_pos c, freeJ, decide_eq_true c, Bool.true_and]
      exact hih
    · simp only [if_neg c, freeJ, decide_eq_false c, Bool.false_and]
      exact ev_now _
theorem l3Plain_ev (xs : List S79) (hn : xs.length ≤ 4611686018427387904) : Ev (fun k => spec_l3Plain.f k xs) (xs.all freeJ) := by
  unfold spec_l3Plain.f
  exact l3Plain_l xs hn xs.length 0 (by omega)

theorem rdA2 (xs : List S71) (i : Nat) (h : i < xs.length) : rd_T71 xs (i : Int) = xs[i] := by
  unfold rd_T71
  rw [Int.toNat_natCast, List.getD_eq_getElem?_getD, List.getElem?_eq_getElem h]
  rfl
theorem w01 : wrap64 (0 + 1) = 1 := by unfold wrap64; omega
theorem w11 : wrap64 (1 + 1) = 2 := by unfold wrap64; omega

/-- A table of n rows and n columns. -/
def Sq (n : Nat) (t : List (List Bool)) : Prop := t.length = n ∧ ∀ r ∈ t, r.length = n
theorem Sq.row {n : Nat} {t : List (List Bool)} (h : Sq n t) (i : Nat) (hi : i < n) : (t[i]'(by rw [h.1]; exact hi)).length = n := h.2 _ (List.getElem_mem _)
def tb (t : List (List Bool)) (i j : Nat) : Bool := (t.getD i []).getD j false
theorem tb_eq (t : List (List Bool)) (i j : Nat) (hi : i < t.length) (hj : j < t[i].length) : tb t i j = t[i][j] := by
  unfold tb
  rw [List.getD_eq_getElem?_getD, List.getD_eq_getElem?_getD, List.getElem?_eq_getElem hi, Option.getD_some, List.getElem?_eq_getElem hj, Option.getD_some]
def putT (t : List (List Bool)) (i j : Nat) (b : Bool) : List (List Bool) := t.set i ((t.getD i []).set j b)
theorem Sq.put {n : Nat} {t : List (List Bool)} (h : Sq n t) (i j : Nat) (hi : i < n) (b : Bool) : Sq n (putT t i j b) := by
  refine ⟨by unfold putT; rw [List.length_set]; exact h.1, fun r hr => ?_⟩
  unfold putT at hr
  rcases List.mem_or_eq_of_mem_set hr with hr | rfl
  · exact h.2 r hr
  · rw [List.length_set, List.getD_eq_getElem?_getD, List.getElem?_eq_getElem (by rw [h.1]; exact hi), Option.getD_some]
    exact h.row i hi
theorem rdBB (t : List (List Bool)) (i : Nat) (h : i < t.length) : rd_L7 t (i : Int) = t[i] := by
  unfold rd_L7
  rw [Int.toNat_natCast, List.getD_eq_getElem?_getD, List.getElem?_eq_getElem h]
  rfl
theorem rdB (r : List Bool) (i : Nat) (h : i < r.length) : rdOf false r (i : Int) = r[i] := by
  unfold rdOf
  rw [Int.toNat_natCast, List.getD_eq_getElem?_getD, List.getElem?_eq_getElem h]
  rfl
theorem rdTB (t : List (List Bool)) (i : Nat) (h : i < t.length) : (rd_L7 t (i : Int)) = t.getD i [] := by
  rw [rdBB t i h, List.getD_eq_getElem?_getD, List.getElem?_eq_getElem h]; rfl
theorem rdTT {n : Nat} {t : List (List Bool)} (h : Sq n t) (i j : Nat) (hi : i < n) (hj : j < n) : rdOf false (rd_L7 t (i : Int)) (j : Int) = tb t i j := by
  have h1 : i < t.length := by rw [h.1]; exact hi
  have h2 := h.row i hi
  rw [rdBB t i h1, rdB _ j (by rw [h2]; exact hj), tb_eq t i j h1 (by rw [h2]; exact hj)]
theorem put_same {n : Nat} {t : List (List Bool)} (h : Sq n t) (i j : Nat) (hi : i < n) (hj : j < n) : putT t i j (tb t i j) = t := by
  have h1 : i < t.length := by rw [h.1]; exact hi
  have h2 := h.row i hi
  have hg : t.getD i [] = t[i] := by rw [List.getD_eq_getElem?_getD, List.getElem?_eq_getElem h1]; rfl
  unfold putT
  rw [hg, tb_eq t i j h1 (by rw [h2]; exact hj), List.set_getElem_self, List.set_getElem_self]
def stepT (t : List (List Bool)) (k i j : Nat) : List (List Bool) := if (tb t i k && tb t k j) = true then putT t i j true else t
theorem Sq.step {n : Nat} {t : List (List Bool)} (h : Sq n t) (k i j : Nat) (hi : i < n) : Sq n (stepT t k i j) := by
  unfold stepT
  split
  · exact h.put i j hi true
  · exact h
def rowF (t : List (List Bool)) (k i : Nat) (js : List Nat) : List (List Bool) := js.foldl (fun t j => stepT t k i j) t
def midF (n : Nat) (t : List (List Bool)) (k : Nat) (is : List Nat) : List (List Bool) := is.foldl (fun t i => rowF t k i (List.range' 0 n)) t
def outF (n : Nat) (t : List (List Bool)) (ks : List Nat) : List (List Bool) := ks.foldl (fun t k => midF n t k (List.range' 0 n)) t
def edgeF (t : List (List Bool)) (es : List S71) : List (List Bool) := es.foldl (fun t e => putT t e.f0.toNat e.f1.toNat true) t
/-- The table of what comes before what. -/
def closT (n : Nat) (es : List S71) : List (List Bool) := outF n (edgeF (List.replicate n (List.replicate n false)) es) (List.range' 0 n)
def inN (n : Nat) (es : List S71) : Prop := ∀ e ∈ es, 0 ≤ e.f0 ∧ e.f0 < n ∧ 0 ≤ e.f1 ∧ e.f1 < n
theorem Sq.row_fold {n : Nat} {t : List (List Bool)} (h : Sq n t) (k i : Nat) (hi : i < n) (js : List Nat) : Sq n (rowF t k i js) := by
  unfold rowF
  induction js generalizing t with
  | nil => exact h
  | cons j js ih => exact ih (h.step k i j hi)
section
variable {F : Nat → List (List Bool) → Nat → Nat → Nat → Option (List (List Bool))}
end
theorem spec_l4 (n : Nat) (hn : n ≤ 8) (kk i : Nat) (hk : kk < n) (hi : i < n) (R : List (List Bool) → List (List Bool))
    (hnext : ∀ t, Sq n t → Ev (fun k => spec_l4Table.l3 k (n : Int) t (kk : Int) ((i + 1 : Nat) : Int)) (R t)) :
    ∀ (d j : Nat) (t : List (List Bool)), j + d = n → Sq n t → Ev (fun k => spec_l4Table.l4 k (n : Int) t (kk : Int) (i : Int) (j : Int)) (R (rowF t kk i (List.range' j d))) := by
  intro d
  induction d with
  | zero =>
    intro j t hj ht
    refine ev_succ ?_
    simp only [spec_l4Table.l4, if_neg (show ¬ (j : Int) < (n : Int) by omega), wsucc i (by omega)]
    exact hnext t ht
  | succ d ih =>
    intro j t hj ht
    refine ev_succ ?_
    have hl := ht.1
    have hri : (rd_L7 t (i : Int)).length = n := by rw [rdBB t i (by omega)]; exact ht.row i hi
    have hrk : (rd_L7 t (kk : Int)).length = n := by rw [rdBB t kk (by omega)]; exact ht.row kk hk
    have h := ih (j + 1) (stepT t kk i j) (by omega) (ht.step kk i j hi)
    rw [List.range'_succ]
    simp only [rowF, List.foldl_cons]
    simp only [rowF] at h
    simp only [spec_l4Table.l4, if_pos (show (j : Int) < (n : Int) by omega), if_pos (show (0 : Int) ≤ (i : Int) by omega), if_pos (show (i : Int) < (t.length : Int) by omega), if_pos (show (0 : Int) ≤ (kk : Int) by omega), if_pos (show (kk : Int) < ((rd_L7 t (i : Int)).length : Int) by omega), if_pos (show (kk : Int) < (t.length : Int) by omega), if_pos (show (0 : Int) ≤ (j : Int) by omega), if_pos (show (j : Int) < ((rd_L7 t (kk : Int)).length : Int) by omega), if_pos (show (j : Int) < ((rd_L7 t (i : Int)).length : Int) by omega), rdTT ht i kk hi hk, rdTT ht kk j hk (by omega), wsucc j (by omega), Int.toNat_natCast]
    by_cases c1 : tb t i kk = true
    · by_cases c2 : tb t kk j = true
      · simp only [if_pos c1, if_pos c2]
        have hs : stepT t kk i j = putT t i j true := by unfold stepT; rw [if_pos (by rw [c1, c2]; rfl)]
        rw [hs] at h ⊢
        rw [rdTB t i (by omega)]
        exact h
      · simp only [if_pos c1, if_neg c2]
        have hs : stepT t kk i j = t := by unfold stepT; rw [if_neg (by rw [c1]; simpa using c2)]
        rw [hs] at h ⊢
        exact h
    · simp only [if_neg c1]
      have hs : stepT t kk i j = t := by unfold stepT; rw [if_neg (by simp only [Bool.and_eq_true]; exact fun x => c1 x.1)]
      rw [hs] at h ⊢
      exact h
theorem spec_l3 (n : Nat) (hn : n ≤ 8) (kk : Nat) (hk : kk < n) (R : List (List Bool) → List (List Bool))
    (hnext : ∀ t, Sq n t → Ev (fun k => spec_l4Table.l2 k (n : Int) t ((kk + 1 : Nat) : Int)) (R t)) :
    ∀ (d i : Nat) (t : List (List Bool)), i + d = n → Sq n t → Ev (fun k => spec_l4Table.l3 k (n : Int) t (kk : Int) (i : Int)) (R (midF n t kk (List.range' i d))) := by
  intro d
  induction d with
  | zero =>
    intro i t hi ht
    refine ev_succ ?_
    simp only [spec_l4Table.l3, if_neg (show ¬ (i : Int) < (n : Int) by omega), wsucc kk (by omega)]
    exact hnext t ht
  | succ d ih =>
    intro i t hi ht
    refine ev_succ ?_
    rw [List.range'_succ]
    simp only [midF, List.foldl_cons, spec_l4Table.l3, if_pos (show (i : Int) < (n : Int) by omega)]
    exact spec_l4 n hn kk i hk (by omega) (fun t => R (midF n t kk (List.range' (i + 1) d))) (fun t ht => ih (i + 1) t (by omega) ht) n 0 t (by omega) ht
theorem mid_sq {n : Nat} {t : List (List Bool)} (h : Sq n t) (k : Nat) : ∀ is : List Nat, (∀ i ∈ is, i < n) → Sq n (midF n t k is) := by
  intro is
  unfold midF
  induction is generalizing t with
  | nil => intro _; exact h
  | cons i is ih => intro hi; exact ih (h.row_fold k i (hi i (by simp)) _) (fun x hx => hi x (by simp [hx]))
theorem spec_l2 (n : Nat) (hn : n ≤ 8) : ∀ (d kk : Nat) (t : List (List Bool)), kk + d = n → Sq n t → Ev (fun k => spec_l4Table.l2 k (n : Int) t (kk : Int)) (outF n t (List.range' kk d)) := by
  intro d
  induction d with
  | zero =>
    intro kk t hk ht
    refine ev_succ ?_
    simp only [spec_l4Table.l2, if_neg (show ¬ (kk : Int) < (n : Int) by omega)]
    exact ev_now _
  | succ d ih =>
    intro kk t hk ht
    refine ev_succ ?_
    rw [List.range'_succ]
    simp only [outF, List.foldl_cons, spec_l4Table.l2, if_pos (show (kk : Int) < (n : Int) by omega)]
    exact spec_l3 n hn kk (by omega) (fun t => outF n t (List.range' (kk + 1) d)) (fun t ht => ih (kk + 1) t (by omega) ht) n 0 t (by omega) ht
theorem edge_sq {n : Nat} {t : List (List Bool)} (h : Sq n t) : ∀ es : List S71, inN n es → Sq n (edgeF t es) := by
  intro es
  unfold edgeF
  induction es generalizing t with
  | nil => intro _; exact h
  | cons e es ih =>
    intro he
    have := he e (by simp)
    exact ih (h.put _ _ (by omega) true) (fun x hx => he x (by simp [hx]))
theorem spec_l1 (n : Nat) (hn : n ≤ 8) (es : List S71) (hes : es.length ≤ 1048576) (hin : inN n es) : ∀ (d i : Nat) (t : List (List Bool)), i + d = es.length → Sq n t → Ev (fun k => spec_l4Table.l1 k (n : Int) es t (i : Int)) (outF n (edgeF t (es.drop i)) (List.range' 0 n)) := by
  intro d
  induction d with
  | zero =>
    intro i t hi ht
    refine ev_succ ?_
    simp only [spec_l4Table.l1, if_neg (show ¬ (i : Int) < (es.length : Int) by omega), List.drop_of_length_le (show es.length ≤ i by omega)]
    exact spec_l2 n hn n 0 t (by omega) ht
  | succ d ih =>
    intro i t hi ht
    refine ev_succ ?_
    have hx : i < es.length := by omega
    have hl := ht.1
    have he := hin es[i] (List.getElem_mem hx)
    obtain ⟨a, ha⟩ := Int.eq_ofNat_of_zero_le he.1
    obtain ⟨b, hb⟩ := Int.eq_ofNat_of_zero_le he.2.2.1
    have hr : (rd_L7 t (a : Int)).length = n := by rw [rdBB t a (by omega)]; exact ht.row a (by omega)
    have h := ih (i + 1) (putT t a b true) (by omega) (ht.put a b (by omega) true)
    rw [List.drop_eq_getElem_cons hx]
    simp only [edgeF, List.foldl_cons, ha, hb, Int.toNat_natCast]
    simp only [edgeF] at h
    simp only [spec_l4Table.l1, if_pos (show (i : Int) < (es.length : Int) by omega), if_pos (show (0 : Int) ≤ (i : Int) by omega), rdA2 es i hx, ha, hb, if_pos (show (0 : Int) ≤ (a : Int) by omega), if_pos (show (a : Int) < (t.length : Int) by omega), if_pos (show (0 : Int) ≤ (b : Int) by omega), if_pos (show (b : Int) < ((rd_L7 t (a : Int)).length : Int) by omega), wsucc i (by omega), Int.toNat_natCast]
    rw [rdTB t a (by omega)]
    exact h
theorem spec_l0 (n : Nat) (hn : n ≤ 8) (es : List S71) (hes : es.length ≤ 1048576) (hin : inN n es) : ∀ (d i : Nat) (t : List (List Bool)), i + d = n → t = List.replicate i (List.replicate n false) → Ev (fun k => spec_l4Table.l0 k (n : Int) es t (i : Int)) (closT n es) := by
  intro d
  induction d with
  | zero =>
    intro i t hi ht
    refine ev_succ ?_
    have hin' : i = n := by omega
    subst hin'
    simp only [spec_l4Table.l0, if_neg (show ¬ (i : Int) < (i : Int) by omega)]
    have := spec_l1 i hn es hes hin es.length 0 t (by omega) (by rw [ht]; exact ⟨by simp, fun r hr => by rw [List.eq_of_mem_replicate hr]; simp⟩)
    rw [List.drop_zero, ht] at this
    rw [ht]
    exact this
  | succ d ih =>
    intro i t hi ht
    refine ev_succ ?_
    have hl : t.length = i := by rw [ht]; simp
    simp only [spec_l4Table.l0, if_pos (show (i : Int) < (n : Int) by omega), if_pos (show (0 : Int) ≤ (n : Int) by omega), Int.toNat_natCast, if_pos (show n ≤ 281474976710656 by omega), if_pos (show t.length < 5864062014805 by omega), wsucc i (by omega)]
    exact ih (i + 1) _ (by omega) (by rw [ht, List.replicate_succ'])
theorem l4Table_ev (n : Nat) (hn : n ≤ 8) (es : List S71) (hes : es.length ≤ 1048576) (hin : inN n es) : Ev (fun k => spec_l4Table.f k (n : Int) es) (closT n es) := by
  unfold spec_l4Table.f
  exact spec_l0 n hn es hes hin n 0 [] (by omega) (by simp)
theorem impl_l4 (n : Nat) (hn : n ≤ 8) (kk i : Nat) (hk : kk < n) (hi : i < n) (R : List (List Bool) → List (List Bool))
    (hnext : ∀ t, Sq n t → Ev (fun k => impl_closure.l3 k (n : Int) t (kk : Int) ((i + 1 : Nat) : Int)) (R t)) :
    ∀ (d j : Nat) (t : List (List Bool)), j + d = n → Sq n t → Ev (fun k => impl_closure.l4 k (n : Int) t (kk : Int) (i : Int) (j : Int)) (R (rowF t kk i (List.range' j d))) := by
  intro d
  induction d with
  | zero =>
    intro j t hj ht
    refine ev_succ ?_
    simp only [impl_closure.l4, if_neg (show ¬ (j : Int) < (n : Int) by omega), wsucc i (by omega)]
    exact hnext t ht
  | succ d ih =>
    intro j t hj ht
    refine ev_succ ?_
    have hl := ht.1
    have hri : (rd_L7 t (i : Int)).length = n := by rw [rdBB t i (by omega)]; exact ht.row i hi
    have hrk : (rd_L7 t (kk : Int)).length = n := by rw [rdBB t kk (by omega)]; exact ht.row kk hk
    have h := ih (j + 1) (stepT t kk i j) (by omega) (ht.step kk i j hi)
    rw [List.range'_succ]
    simp only [rowF, List.foldl_cons]
    simp only [rowF] at h
    simp only [impl_closure.l4, if_pos (show (j : Int) < (n : Int) by omega), if_pos (show (0 : Int) ≤ (i : Int) by omega), if_pos (show (i : Int) < (t.length : Int) by omega), if_pos (show (0 : Int) ≤ (kk : Int) by omega), if_pos (show (kk : Int) < ((rd_L7 t (i : Int)).length : Int) by omega), if_pos (show (kk : Int) < (t.length : Int) by omega), if_pos (show (0 : Int) ≤ (j : Int) by omega), if_pos (show (j : Int) < ((rd_L7 t (kk : Int)).length : Int) by omega), if_pos (show (j : Int) < ((rd_L7 t (i : Int)).length : Int) by omega), rdTT ht i kk hi hk, rdTT ht kk j hk (by omega), rdTT ht i j hi (by omega), wsucc j (by omega), Int.toNat_natCast]
    have hput : ∀ b, t.set i ((rd_L7 t (i : Int)).set j b) = putT t i j b := fun b => by rw [rdTB t i (by omega)]; rfl
    have hsame := put_same ht i j hi (show j < n by omega)
    by_cases c0 : tb t i j = true
    · simp only [if_pos c0, hput]
      have hs : stepT t kk i j = t := by
        unfold stepT
        split
        · rw [c0] at hsame; exact hsame
        · rfl
      rw [hs] at h ⊢
      rw [c0] at hsame
      rw [hsame]
      exact h
    · have c0' : tb t i j = false := by simpa using c0
      rw [c0'] at hsame
      by_cases c1 : tb t i kk = true
      · simp only [if_neg c0, if_pos c1, hput]
        by_cases c2 : tb t kk j = true
        · have hs : stepT t kk i j = putT t i j true := by unfold stepT; rw [if_pos (by rw [c1, c2]; rfl)]
          rw [hs] at h ⊢
          rw [c2]
          exact h
        · have c2' : tb t kk j = false := by simpa using c2
          have hs : stepT t kk i j = t := by unfold stepT; rw [if_neg (by rw [c1]; simpa using c2)]
          rw [hs] at h ⊢
          rw [c2', hsame]
          exact h
      · simp only [if_neg c0, if_neg c1, hput]
        have hs : stepT t kk i j = t := by unfold stepT; rw [if_neg (by simp only [Bool.and_eq_true]; exact fun x => c1 x.1)]
        rw [hs] at h ⊢
        rw [hsame]
        exact h
theorem impl_l3 (n : Nat) (hn : n ≤ 8) (kk : Nat) (hk : kk < n) (R : List (List Bool) → List (List Bool))
    (hnext : ∀ t, Sq n t → Ev (fun k => impl_closure.l2 k (n : Int) t ((kk + 1 : Nat) : Int)) (R t)) :
    ∀ (d i : Nat) (t : List (List Bool)), i + d = n → Sq n t → Ev (fun k => impl_closure.l3 k (n : Int) t (kk : Int) (i : Int)) (R (midF n t kk (List.range' i d))) := by
  intro d
  induction d with
  | zero =>
    intro i t hi ht
    refine ev_succ ?_
    simp only [impl_closure.l3, if_neg (show ¬ (i : Int) < (n : Int) by omega), wsucc kk (by omega)]
    exact hnext t ht
  | succ d ih =>
    intro i t hi ht
    refine ev_succ ?_
    rw [List.range'_succ]
    simp only [midF, List.foldl_cons, impl_closure.l3, if_pos (show (i : Int) < (n : Int) by omega)]
    exact impl_l4 n hn kk i hk (by omega) (fun t => R (midF n t kk (List.range' (i + 1) d))) (fun t ht => ih (i + 1) t (by omega) ht) n 0 t (by omega) ht
theorem impl_l2 (n : Nat) (hn : n ≤ 8) : ∀ (d kk : Nat) (t : List (List Bool)), kk + d = n → Sq n t → Ev (fun k => impl_closure.l2 k (n : Int) t (kk : Int)) (outF n t (List.range' kk d)) := by
  intro d
  induction d with
  | zero =>
    intro kk t hk ht
    refine ev_succ ?_
    simp only [impl_closure.l2, if_neg (show ¬ (kk : Int) < (n : Int) by omega)]
    exact ev_now _
  | succ d ih =>
    intro kk t hk ht
    refine ev_succ ?_
    rw [List.range'_succ]
    simp only [outF, List.foldl_cons, impl_closure.l2, if_pos (show (kk : Int) < (n : Int) by omega)]
    exact impl_l3 n hn kk (by omega) (fun t => outF n t (List.range' (kk + 1) d)) (fun t ht => ih (kk + 1) t (by omega) ht) n 0 t (by omega) ht
theorem impl_l1 (n : Nat) (hn : n ≤ 8) (es : List S71) (hes : es.length ≤ 1048576) (hin : inN n es) : ∀ (d i : Nat) (t : List (List Bool)), i + d = es.length → Sq n t → Ev (fun k => impl_closure.l1 k (n : Int) t es (es.length : Int) (i : Int)) (outF n (edgeF t (es.drop i)) (List.range' 0 n)) := by
  intro d
  induction d with
  | zero =>
    intro i t hi ht
    refine ev_succ ?_
    simp only [impl_closure.l1, if_neg (show ¬ (i : Int) < (es.length : Int) by omega), List.drop_of_length_le (show es.length ≤ i by omega)]
    exact impl_l2 n hn n 0 t (by omega) ht
  | succ d ih =>
    intro i t hi ht
    refine ev_succ ?_
    have hx : i < es.length := by omega
    have hl := ht.1
    have he := hin es[i] (List.getElem_mem hx)
    obtain ⟨a, ha⟩ := Int.eq_ofNat_of_zero_le he.1
    obtain ⟨b, hb⟩ := Int.eq_ofNat_of_zero_le he.2.2.1
    have hr : (rd_L7 t (a : Int)).length = n := by rw [rdBB t a (by omega)]; exact ht.row a (by omega)
    have h := ih (i + 1) (putT t a b true) (by omega) (ht.put a b (by omega) true)
    rw [List.drop_eq_getElem_cons hx]
    simp only [edgeF, List.foldl_cons, ha, hb, Int.toNat_natCast]
    simp only [edgeF] at h
    simp only [impl_closure.l1, if_pos (show (i : Int) < (es.length : Int) by omega), if_pos (show (0 : Int) ≤ (i : Int) by omega), rdA2 es i hx, ha, hb, if_pos (show (0 : Int) ≤ (a : Int) by omega), if_pos (show (a : Int) < (t.length : Int) by omega), if_pos (show (0 : Int) ≤ (b : Int) by omega), if_pos (show (b : Int) < ((rd_L7 t (a : Int)).length : Int) by omega), wsucc i (by omega), Int.toNat_natCast]
    rw [rdTB t a (by omega)]
    exact h
theorem impl_l0 (n : Nat) (hn : n ≤ 8) (es : List S71) (hes : es.length ≤ 1048576) (hin : inN n es) : ∀ (d i : Nat) (t : List (List Bool)), i + d = n → t.length = n → t.take i = List.replicate i (List.replicate n false) → Ev (fun k => impl_closure.l0 k (n : Int) es t (n : Int) (i : Int)) (closT n es) := by
  intro d
  induction d with
  | zero =>
    intro i t hi hl ht
    refine ev_succ ?_
    have hin' : i = n := by omega
    subst hin'
    rw [List.take_of_length_le (by omega)] at ht
    simp only [impl_closure.l0, if_neg (show ¬ (i : Int) < (i : Int) by omega)]
    have := impl_l1 i hn es hes hin es.length 0 t (by omega) (by rw [ht]; exact ⟨by simp, fun r hr => by rw [List.eq_of_mem_replicate hr]; simp⟩)
    rw [List.drop_zero, ht] at this
    rw [ht]
    exact this
  | succ d ih =>
    intro i t hi hl ht
    refine ev_succ ?_
    simp only [impl_closure.l0, if_pos (show (i : Int) < (n : Int) by omega), if_pos (show (0 : Int) ≤ (n : Int) by omega), Int.toNat_natCast, if_pos (show n ≤ 281474976710656 by omega), if_pos (show (0 : Int) ≤ (i : Int) by omega), if_pos (show (i : Int) < (t.length : Int) by omega), wsucc i (by omega)]
    exact ih (i + 1) _ (by omega) (by rw [List.length_set]; exact hl) (by rw [take_set_succ t i _ (by omega), ht, List.replicate_succ'])
theorem closure_ev (n : Nat) (hn : n ≤ 8) (es : List S71) (hes : es.length ≤ 1048576) (hin : inN n es) : Ev (fun k => impl_closure.f k (n : Int) es) (closT n es) := by
  unfold impl_closure.f
  simp only [if_pos (show (0 : Int) ≤ (n : Int) by omega), Int.toNat_natCast, if_pos (show n ≤ 11728124029610 by omega), Option.bind_some, List.length_replicate]
  exact impl_l0 n hn es hes hin n 0 _ (by omega) (by simp) (by simp)
theorem clos_sq (n : Nat) (es : List S71) (hin : inN n es) : Sq n (closT n es) := by
  unfold closT
  have h0 : Sq n (edgeF (List.replicate n (List.replicate n false)) es) := edge_sq ⟨by simp, fun r hr => by rw [List.eq_of_mem_replicate hr]; simp⟩ es hin
  have key : ∀ (ks : List Nat) (t : List (List Bool)), Sq n t → Sq n (outF n t ks) := by
    intro ks
    unfold outF
    induction ks with
    | nil => intro t h; exact h
    | cons k ks ih => intro t h; exact ih _ (mid_sq h k _ (fun i hi => by rw [List.mem_range'_1] at hi; omega))
  exact key _ _ h0

theorem isNumber_eq (i n : Int) (h0 : 0 ≤ n) (h1 : n ≤ 9223372036854775807) : impl_isNumber.f i n = some (decide (0 ≤ i) && decide (i < n)) := by
  unfold impl_isNumber.f
  rw [within_eq, w64 (by omega) (by omega)]
  simp only [Option.bind_some]
  congr 2
  rw [decide_eq_decide]
  omega

def cE (m : Int) (es : List S71) (i : Nat) : Bool :=
  decide (0 ≤ (rd_T71 es (i : Int)).f0) && decide ((rd_T71 es (i : Int)).f0 ≤ m) && (decide (0 ≤ (rd_T71 es (i : Int)).f1) && decide ((rd_T71 es (i : Int)).f1 ≤ m)) && !decide ((rd_T71 es (i : Int)).f0 = (rd_T71 es (i : Int)).f1) &&
  (decide (i = 0) || decide ((rd_T71 es ((i - 1 : Nat) : Int)).f0 < (rd_T71 es (i : Int)).f0) || decide ((rd_T71 es ((i - 1 : Nat) : Int)).f0 = (rd_T71 es (i : Int)).f0) && decide ((rd_T71 es ((i - 1 : Nat) : Int)).f1 < (rd_T71 es (i : Int)).f1))
def pfE (m : Int) (es : List S71) (i : Nat) : Nat → Bool
  | 0 => true
  | d + 1 => cE m es i && pfE m es (i + 1) d
theorem l4Before_eq (a b c d : Int) : spec_l4Before.f a b c d = some (decide (a < c) || decide (a = c) && decide (b < d)) := by
  unfold spec_l4Before.f
  by_cases h : a < c
  · rw [if_pos h]; simp [h]
  · rw [if_neg h]
    by_cases h' : a = c
    · rw [if_pos h']; simp [h, h']
    · rw [if_neg h']; simp [h, h']
theorem wpred (i : Nat) (h0 : 0 < i) (h : i < 4611686018427387904) : wrap64 ((i : Int) - 1) = ((i - 1 : Nat) : Int) := by
  rw [w64 (by omega) (by omega)]; omega
theorem l4Pairs_l (n : Int) (es : List S71) (hes : es.length ≤ 1048576) : ∀ (d i : Nat), i + d = es.length → Ev (fun k => spec_l4Pairs.l0 k n es (i : Int)) (pfE (wrap64 (n - 1)) es i d && ((decide (0 ≤ n) && decide (n ≤ 8)) && decide ((es.length : Int) ≤ 28))) := by
  intro d
  induction d with
  | zero =>
    intro i hi
    refine ev_succ ?_
    simp only [spec_l4Pairs.l0, if_neg (show ¬ (i : Int) < (es.length : Int) by omega), l1In_eq, Option.bind_some, pfE, Bool.true_and]
    cases hb : (decide (0 ≤ n) && decide (n ≤ 8))
    · simp only [Bool.false_eq_true, if_false, Bool.false_and]; exact ev_now _
    · simp only [if_true, Bool.true_and]; exact ev_now _
  | succ d ih =>
    intro i hi
    refine ev_succ ?_
    have h := ih (i + 1) (by omega)
    simp only [spec_l4Pairs.l0, if_pos (show (i : Int) < (es.length : Int) by omega), if_pos (show (0 : Int) ≤ (i : Int) by omega), l1In_eq, l4Before_eq, Option.bind_some, pfE, wsucc i (by omega)]
    unfold cE
    by_cases ha : (decide (0 ≤ (rd_T71 es (i : Int)).f0) && decide ((rd_T71 es (i : Int)).f0 ≤ wrap64 (n - 1))) = true
    · by_cases hb : (decide (0 ≤ (rd_T71 es (i : Int)).f1) && decide ((rd_T71 es (i : Int)).f1 ≤ wrap64 (n - 1))) = true
      · by_cases hc : (rd_T71 es (i : Int)).f0 = (rd_T71 es (i : Int)).f1
        · simp only [ha, hb, if_true, if_pos hc, decide_eq_true hc, Bool.not_true, Bool.and_false, Bool.false_and]; exact ev_now _
        · by_cases h0 : i = 0
          · subst h0
            simp only [ha, hb, if_true, if_neg hc, decide_true, Bool.true_or, Bool.true_and, decide_eq_false hc, Bool.not_false, gt_iff_lt, if_neg (show ¬ ((0 : Int) < ((0 : Nat) : Int)) by omega)]
            exact h
          · simp only [ha, hb, if_true, if_neg hc, if_pos (show (i : Int) > 0 by omega), wpred i (by omega) (by omega), if_pos (show (0 : Int) ≤ ((i - 1 : Nat) : Int) by omega), if_pos (show ((i - 1 : Nat) : Int) < (es.length : Int) by omega), decide_eq_false h0, Bool.false_or, Bool.true_and, decide_eq_false hc, Bool.not_false]
            cases hd : (decide ((rd_T71 es ((i - 1 : Nat) : Int)).f0 < (rd_T71 es (i : Int)).f0) || decide ((rd_T71 es ((i - 1 : Nat) : Int)).f0 = (rd_T71 es (i : Int)).f0) && decide ((rd_T71 es ((i - 1 : Nat) : Int)).f1 < (rd_T71 es (i : Int)).f1))
            · simp only [Bool.false_eq_true, if_false, Bool.false_and]; exact ev_now _
            · simp only [if_true, Bool.true_and]; exact h
      · simp only [ha, if_true, if_neg hb, Bool.not_eq_true .. ▸ hb, Bool.and_false, Bool.false_and]; exact ev_now _
    · simp only [if_neg ha, Bool.not_eq_true .. ▸ ha, Bool.false_and]; exact ev_now _
def okE (n : Int) (es : List S71) : Bool := pfE (wrap64 (n - 1)) es 0 es.length && ((decide (0 ≤ n) && decide (n ≤ 8)) && decide ((es.length : Int) ≤ 28))
theorem l4Pairs_ev (n : Int) (es : List S71) (hes : es.length ≤ 1048576) : Ev (fun k => spec_l4Pairs.f k n es) (okE n es) := by
  unfold spec_l4Pairs.f
  exact l4Pairs_l n es hes es.length 0 (by omega)
theorem pfE_in (n : Nat) (hn : n ≤ 8) (es : List S71) : ∀ (d i : Nat), i + d = es.length → pfE (wrap64 ((n : Int) - 1)) es i d = true → ∀ j, i ≤ j → (hj : j < es.length) → 0 ≤ (es[j]).f0 ∧ (es[j]).f0 < n ∧ 0 ≤ (es[j]).f1 ∧ (es[j]).f1 < n := by
  intro d
  induction d with
  | zero => intro i hi _ j hj hj'; omega
  | succ d ih =>
    intro i hi h j hj hj'
    unfold pfE at h
    rw [Bool.and_eq_true] at h
    by_cases he : j = i
    · subst he
      have h1 := h.1
      unfold cE at h1
      rw [rdA2 es j hj', w64 (by omega) (by omega)] at h1
      simp only [Bool.and_eq_true, decide_eq_true_eq] at h1
      obtain ⟨⟨⟨⟨a1, a2⟩, ⟨a3, a4⟩⟩, _⟩, _⟩ := h1
      exact ⟨a1, by omega, a3, by omega⟩
    · exact ih (i + 1) (by omega) h.2 j (by omega) hj'
theorem okE_in (n : Int) (es : List S71) (h : okE n es = true) : ∃ m : Nat, n = m ∧ m ≤ 8 ∧ es.length ≤ 28 ∧ inN m es := by
  unfold okE at h
  simp only [Bool.and_eq_true, decide_eq_true_eq] at h
  obtain ⟨h1, ⟨h2, h3⟩, h4⟩ := h
  obtain ⟨m, rfl⟩ := Int.eq_ofNat_of_zero_le h2
  refine ⟨m, rfl, by omega, by omega, fun e he => ?_⟩
  obtain ⟨j, hj, rfl⟩ := List.mem_iff_getElem.mp he
  have := pfE_in m (by omega) es es.length 0 (by omega) h1 j (by omega) hj
  omega
/-- No job stands before itself, from the i-th on. -/
def acyF (t : List (List Bool)) (i : Nat) : Nat → Bool
  | 0 => true
  | d + 1 => !tb t i i && acyF t (i + 1) d
def good4 (n : Int) (es : List S71) : Bool := okE n es && acyF (closT n.toNat es) 0 n.toNat
theorem l4Good_l (n : Nat) (hn : n ≤ 8) (t : List (List Bool)) (ht : Sq n t) : ∀ (d i : Nat), i + d = n → Ev (fun k => spec_l4Good.l0 k (n : Int) t (i : Int)) (acyF t i d) := by
  intro d
  induction d with
  | zero =>
    intro i hi
    refine ev_succ ?_
    simp only [spec_l4Good.l0, if_neg (show ¬ (i : Int) < (n : Int) by omega), acyF]
    exact ev_now _
  | succ d ih =>
    intro i hi
    refine ev_succ ?_
    have h := ih (i + 1) (by omega)
    have hl := ht.1
    have hr : (rd_L7 t (i : Int)).length = n := by rw [rdBB t i (by omega)]; exact ht.row i (by omega)
    simp only [spec_l4Good.l0, if_pos (show (i : Int) < (n : Int) by omega), if_pos (show (0 : Int) ≤ (i : Int) by omega), if_pos (show (i : Int) < (t.length : Int) by omega), if_pos (show (i : Int) < ((rd_L7 t (i : Int)).length : Int) by omega), rdTT ht i i (by omega) (by omega), wsucc i (by omega), acyF]
    cases tb t i i
    · simp only [Bool.false_eq_true, if_false, Bool.not_false, Bool.true_and]; exact h
    · simp only [if_true, Bool.not_true, Bool.false_and]; exact ev_now _
theorem l4Good_ev (n : Int) (es : List S71) (hes : es.length ≤ 1048576) : Ev (fun k => spec_l4Good.f k n es) (good4 n es) := by
  unfold spec_l4Good.f good4
  refine ev_bind (l4Pairs_ev n es hes) ?_
  cases hk : okE n es
  · simp only [Bool.false_eq_true, if_false, Bool.false_and]; exact ev_now _
  · obtain ⟨m, rfl, hm, hl, hin⟩ := okE_in n es hk
    simp only [if_true, Bool.true_and, Int.toNat_natCast]
    exact ev_bind (l4Table_ev m hm es hes hin) (l4Good_l m hm _ (clos_sq m es hin) m 0 (by omega))
theorem isPrec_l1 (n : Nat) (hn : n ≤ 8) (t : List (List Bool)) (ht : Sq n t) : ∀ (d i : Nat), i + d = n → Ev (fun k => impl_IsPrecedence.l1 k t (n : Int) (i : Int)) (acyF t i d) := by
  intro d
  induction d with
  | zero =>
    intro i hi
    refine ev_succ ?_
    simp only [impl_IsPrecedence.l1, if_neg (show ¬ (i : Int) < (n : Int) by omega), acyF]
    exact ev_now _
  | succ d ih =>
    intro i hi
    refine ev_succ ?_
    have h := ih (i + 1) (by omega)
    have hl := ht.1
    have hr : (rd_L7 t (i : Int)).length = n := by rw [rdBB t i (by omega)]; exact ht.row i (by omega)
    simp only [impl_IsPrecedence.l1, if_pos (show (i : Int) < (n : Int) by omega), if_pos (show (0 : Int) ≤ (i : Int) by omega), if_pos (show (i : Int) < (t.length : Int) by omega), if_pos (show (i : Int) < ((rd_L7 t (i : Int)).length : Int) by omega), rdTT ht i i (by omega) (by omega), wsucc i (by omega), acyF]
    cases tb t i i
    · simp only [Bool.false_eq_true, if_false, Bool.not_false, Bool.true_and]; exact h
    · simp only [if_true, Bool.not_true, Bool.false_and]; exact ev_now _
theorem isPrec_l0 (n : Nat) (hn : n ≤ 8) (es : List S71) (hes : es.length ≤ 28) (hG : pfE (wrap64 ((n : Int) - 1)) es 0 es.length = true → inN n es) :
    ∀ (d i : Nat), i + d = es.length → (pfE (wrap64 ((n : Int) - 1)) es i d = true → pfE (wrap64 ((n : Int) - 1)) es 0 es.length = true) → Ev (fun k => impl_IsPrecedence.l0 k (n : Int) es es (es.length : Int) (i : Int)) (pfE (wrap64 ((n : Int) - 1)) es i d && acyF (closT n es) 0 n) := by
  intro d
  induction d with
  | zero =>
    intro i hi hp
    have hin := hG (hp rfl)
    have hl := (clos_sq n es hin).1
    refine ev_succ ?_
    simp only [impl_IsPrecedence.l0, if_neg (show ¬ (i : Int) < (es.length : Int) by omega), pfE, Bool.true_and]
    refine ev_bind (closure_ev n hn es (by omega) hin) ?_
    rw [hl]
    exact isPrec_l1 n hn _ (clos_sq n es hin) n 0 (by omega)
  | succ d ih =>
    intro i hi hp
    refine ev_succ ?_
    have hm : wrap64 ((n : Int) - 1) = (n : Int) - 1 := w64 (by omega) (by omega)
    have e1 : ∀ x : Int, decide (x ≤ (n : Int) - 1) = decide (x < (n : Int)) := fun x => by rw [decide_eq_decide]; omega
    have h := fun (hq : cE (wrap64 ((n : Int) - 1)) es i = true) => ih (i + 1) (by omega) (fun x => hp (by rw [pfE, hq, x]; rfl))
    simp only [impl_IsPrecedence.l0, if_pos (show (i : Int) < (es.length : Int) by omega), if_pos (show (0 : Int) ≤ (i : Int) by omega), isNumber_eq _ (n : Int) (by omega) (by omega), Option.bind_some, pfE]
    have hcE : cE (wrap64 ((n : Int) - 1)) es i = (decide (0 ≤ (rd_T71 es (i : Int)).f0) && decide ((rd_T71 es (i : Int)).f0 < (n : Int)) && (decide (0 ≤ (rd_T71 es (i : Int)).f1) && decide ((rd_T71 es (i : Int)).f1 < (n : Int))) && !decide ((rd_T71 es (i : Int)).f0 = (rd_T71 es (i : Int)).f1) &&
        (decide (i = 0) || decide ((rd_T71 es ((i - 1 : Nat) : Int)).f0 < (rd_T71 es (i : Int)).f0) || decide ((rd_T71 es ((i - 1 : Nat) : Int)).f0 = (rd_T71 es (i : Int)).f0) && decide ((rd_T71 es ((i - 1 : Nat) : Int)).f1 < (rd_T71 es (i : Int)).f1))) := by
      unfold cE; rw [hm, e1, e1]
    by_cases ha : (decide (0 ≤ (rd_T71 es (i : Int)).f0) && decide ((rd_T71 es (i : Int)).f0 < (n : Int))) = true
    · by_cases hb : (decide (0 ≤ (rd_T71 es (i : Int)).f1) && decide ((rd_T71 es (i : Int)).f1 < (n : Int))) = true
      · simp only [ha, hb, if_true]
        refine ev_succ ?_
        rw [ha, hb] at hcE
        by_cases hc : (rd_T71 es (i : Int)).f0 = (rd_T71 es (i : Int)).f1
        · rw [hcE]
          simp only [impl_IsPrecedence.j2, hc, beq_self_eq_true, if_true, decide_true, Bool.not_true, Bool.and_false, Bool.false_and]; exact ev_now _
        · by_cases h0 : i = 0
          · have hc' : cE (wrap64 ((n : Int) - 1)) es i = true := by rw [hcE]; simp only [decide_eq_false hc, decide_eq_true h0]; rfl
            have h := h hc'
            rw [hc']
            subst h0
            simp only [impl_IsPrecedence.j2, beq_eq_false_iff_ne.mpr hc, Bool.false_eq_true, if_false, gt_iff_lt, if_neg (show ¬ ((0 : Int) < ((0 : Nat) : Int)) by omega), wsucc 0 (by omega), Bool.true_and]
            exact h
          · simp only [impl_IsPrecedence.j2, beq_eq_false_iff_ne.mpr hc, Bool.false_eq_true, if_false, gt_iff_lt, ge_iff_le, if_pos (show (0 : Int) < (i : Int) by omega), wpred i (by omega) (by omega), if_pos (show (0 : Int) ≤ ((i - 1 : Nat) : Int) by omega), if_pos (show ((i - 1 : Nat) : Int) < (es.length : Int) by omega), wsucc i (by omega)]
            by_cases g1 : (rd_T71 es (i : Int)).f0 < (rd_T71 es ((i - 1 : Nat) : Int)).f0
            · have hc' : cE (wrap64 ((n : Int) - 1)) es i = false := by rw [hcE]; simp only [decide_eq_false h0, decide_eq_false (show ¬ (rd_T71 es ((i - 1 : Nat) : Int)).f0 < (rd_T71 es (i : Int)).f0 by omega), decide_eq_false (show ¬ (rd_T71 es ((i - 1 : Nat) : Int)).f0 = (rd_T71 es (i : Int)).f0 by omega), Bool.false_and, Bool.false_or, Bool.or_false, Bool.and_false]
              simp only [if_pos g1, hc', Bool.false_and]; exact ev_now _
            · simp only [if_neg g1]
              by_cases g2 : (rd_T71 es ((i - 1 : Nat) : Int)).f0 = (rd_T71 es (i : Int)).f0
              · simp only [if_pos g2]
                by_cases g3 : (rd_T71 es (i : Int)).f1 ≤ (rd_T71 es ((i - 1 : Nat) : Int)).f1
                · have hc' : cE (wrap64 ((n : Int) - 1)) es i = false := by rw [hcE]; simp only [decide_eq_false h0, decide_eq_false (show ¬ (rd_T71 es ((i - 1 : Nat) : Int)).f0 < (rd_T71 es (i : Int)).f0 by omega), decide_eq_false (show ¬ (rd_T71 es ((i - 1 : Nat) : Int)).f1 < (rd_T71 es (i : Int)).f1 by omega), Bool.and_false, Bool.false_or, Bool.or_false]
                  simp only [if_pos g3, hc', Bool.false_and]; exact ev_now _
                · have hc' : cE (wrap64 ((n : Int) - 1)) es i = true := by rw [hcE]; simp only [decide_eq_false hc, decide_eq_true g2, decide_eq_true (show (rd_T71 es ((i - 1 : Nat) : Int)).f1 < (rd_T71 es (i : Int)).f1 by omega), Bool.and_true, Bool.or_true, Bool.not_false]
                  simp only [if_neg g3, hc', Bool.true_and]; exact h hc'
              · have hc' : cE (wrap64 ((n : Int) - 1)) es i = true := by rw [hcE]; simp only [decide_eq_false hc, decide_eq_true (show (rd_T71 es ((i - 1 : Nat) : Int)).f0 < (rd_T71 es (i : Int)).f0 by omega), Bool.and_true, Bool.or_true, Bool.true_or, Bool.not_false]
                simp only [if_neg g2, hc', Bool.true_and]; exact h hc'
      · have hb' : (decide (0 ≤ (rd_T71 es (i : Int)).f1) && decide ((rd_T71 es (i : Int)).f1 < (n : Int))) = false := by simpa using hb
        have hc' : cE (wrap64 ((n : Int) - 1)) es i = false := by rw [hcE, hb', Bool.and_false, Bool.false_and, Bool.false_and]
        simp only [ha, if_true, if_neg hb, hc', Bool.false_and]
        refine ev_succ ?_
        simp only [impl_IsPrecedence.j2, if_true]; exact ev_now _
    · have ha' : (decide (0 ≤ (rd_T71 es (i : Int)).f0) && decide ((rd_T71 es (i : Int)).f0 < (n : Int))) = false := by simpa using ha
      have hc' : cE (wrap64 ((n : Int) - 1)) es i = false := by rw [hcE, ha', Bool.false_and, Bool.false_and, Bool.false_and]
      simp only [if_neg ha, hc', Bool.false_and]
      refine ev_succ ?_
      simp only [impl_IsPrecedence.j2, if_true]; exact ev_now _
theorem isPrec_ev (n : Int) (es : List S71) : Ev (fun k => impl_IsPrecedence.f k n es) (good4 n es) := by
  unfold impl_IsPrecedence.f
  simp only [within_eq, Option.bind_some]
  by_cases h : 0 ≤ n ∧ n ≤ 8
  · obtain ⟨m, rfl⟩ := Int.eq_ofNat_of_zero_le h.1
    have hb : (decide (0 ≤ (m : Int)) && decide ((m : Int) ≤ 8)) = true := by simp; omega
    simp only [hb, if_true]
    refine ev_succ ?_
    by_cases hl : (es.length : Int) > 28
    · have : good4 (m : Int) es = false := by unfold good4 okE; rw [decide_eq_false (show ¬ (es.length : Int) ≤ 28 by omega)]; simp
      simp only [impl_IsPrecedence.j0, decide_eq_true hl, if_true, this]; exact ev_now _
    · simp only [impl_IsPrecedence.j0, decide_eq_false hl, Bool.false_eq_true, if_false]
      have hk : good4 (m : Int) es = (pfE (wrap64 ((m : Int) - 1)) es 0 es.length && acyF (closT m es) 0 m) := by
        unfold good4 okE; rw [hb, decide_eq_true (show (es.length : Int) ≤ 28 by omega)]; simp
      rw [hk]
      refine isPrec_l0 m (by omega) es (by omega) (fun hp => ?_) es.length 0 (by omega) (fun x => x)
      obtain ⟨m', e, _, _, hin⟩ := okE_in (m : Int) es (by unfold okE; rw [hp, hb, decide_eq_true (show (es.length : Int) ≤ 28 by omega)]; rfl)
      rw [show m = m' by omega]; exact hin
  · have hb : (decide (0 ≤ n) && decide (n ≤ 8)) = false := by
      rw [Bool.eq_false_iff]; intro x; simp only [Bool.and_eq_true, decide_eq_true_eq] at x; exact h x
    have : good4 n es = false := by unfold good4 okE; rw [hb]; simp
    simp only [hb, Bool.false_eq_true, if_false, this]
    refine ev_succ ?_
    simp only [impl_IsPrecedence.j0, if_true]; exact ev_now _

theorem tb_put {n : Nat} {t : List (List Bool)} (h : Sq n t) (i j a b : Nat) (hi : i < n) (hj : j < n) (ha : a < n) (hb : b < n) (v : Bool) : tb (putT t i j v) a b = if a = i ∧ b = j then v else tb t a b := by
  have hl := h.1
  have hri := h.row i hi
  have hg : t.getD i [] = t[i] := by rw [List.getD_eq_getElem?_getD, List.getElem?_eq_getElem (by omega)]; rfl
  unfold tb putT
  rw [hg]
  by_cases c : a = i
  · subst c
    rw [List.getD_eq_getElem?_getD (l := t.set a _), List.getElem?_set_self (by omega), Option.getD_some, hg]
    by_cases cb : b = j
    · subst cb
      rw [if_pos ⟨rfl, rfl⟩, List.getD_eq_getElem?_getD, List.getElem?_set_self (by omega), Option.getD_some]
    · rw [if_neg (fun x => cb x.2), List.getD_eq_getElem?_getD, List.getElem?_set_ne (fun x => cb x.symm), ← List.getD_eq_getElem?_getD]
  · rw [if_neg (fun x => c x.1), List.getD_eq_getElem?_getD (l := t.set i _), List.getElem?_set_ne (fun x => c x.symm), ← List.getD_eq_getElem?_getD]
/-- What a phase has done at the places S. -/
def Phase (n k : Nat) (t t' : List (List Bool)) (S : Nat → Nat → Prop) : Prop := Sq n t' ∧ ∀ a b, a < n → b < n → (tb t' a b = true ↔ tb t a b = true ∨ S a b ∧ tb t a k = true ∧ tb t k b = true)
theorem Phase.step {n k : Nat} {t t' : List (List Bool)} {S : Nat → Nat → Prop} (h : Phase n k t t' S) (hk : k < n) (i j : Nat) (hi : i < n) (hj : j < n) : Phase n k t (stepT t' k i j) (fun a b => S a b ∨ a = i ∧ b = j) := by
  refine ⟨h.1.step k i j hi, fun a b ha hb => ?_⟩
  have h1 : tb t' i k = true ↔ tb t i k = true := by
    rw [h.2 i k hi hk]
    exact ⟨fun x => x.elim id (fun y => y.2.1), Or.inl⟩
  have h2 : tb t' k j = true ↔ tb t k j = true := by
    rw [h.2 k j hk hj]
    exact ⟨fun x => x.elim id (fun y => y.2.2), Or.inl⟩
  unfold stepT
  by_cases c : (tb t' i k && tb t' k j) = true
  · rw [if_pos c, tb_put h.1 i j a b hi hj ha hb]
    rw [Bool.and_eq_true, h1, h2] at c
    by_cases e : a = i ∧ b = j
    · rw [if_pos e]
      obtain ⟨rfl, rfl⟩ := e
      exact ⟨fun _ => Or.inr ⟨Or.inr ⟨rfl, rfl⟩, c.1, c.2⟩, fun _ => rfl⟩
    · rw [if_neg e, h.2 a b ha hb]
      exact ⟨fun x => x.imp id (fun y => ⟨Or.inl y.1, y.2⟩), fun x => x.imp id (fun y => ⟨y.1.resolve_right e, y.2⟩)⟩
  · rw [if_neg c, h.2 a b ha hb]
    rw [Bool.and_eq_true, h1, h2] at c
    refine ⟨fun x => x.imp id (fun y => ⟨Or.inl y.1, y.2⟩), fun x => ?_⟩
    rcases x with x | ⟨s | ⟨rfl, rfl⟩, y⟩
    · exact Or.inl x
    · exact Or.inr ⟨s, y⟩
    · exact absurd y c
theorem Phase.congr {n k : Nat} {t t' : List (List Bool)} {S S' : Nat → Nat → Prop} (h : Phase n k t t' S) (e : ∀ a b, a < n → b < n → (S a b ↔ S' a b)) : Phase n k t t' S' := ⟨h.1, fun a b ha hb => by rw [h.2 a b ha hb, e a b ha hb]⟩
theorem Phase.row {n k : Nat} {t : List (List Bool)} (hk : k < n) (i : Nat) (hi : i < n) : ∀ (js : List Nat) (t' : List (List Bool)) (S : Nat → Nat → Prop), (∀ j ∈ js, j < n) → Phase n k t t' S → Phase n k t (rowF t' k i js) (fun a b => S a b ∨ a = i ∧ b ∈ js) := by
  intro js
  induction js with
  | nil => intro t' S _ h; exact h.congr (fun a b _ _ => by simp)
  | cons j js ih =>
    intro t' S hj h
    have h' := ih (stepT t' k i j) _ (fun x hx => hj x (by simp [hx])) (h.step hk i j hi (hj j (by simp)))
    refine Phase.congr h' (fun a b _ _ => ?_)
    constructor
    · rintro ((s | ⟨rfl, rfl⟩) | ⟨rfl, hb⟩)
      · exact Or.inl s
      · exact Or.inr ⟨rfl, by simp⟩
      · exact Or.inr ⟨rfl, by simp [hb]⟩
    · rintro (s | ⟨rfl, hb⟩)
      · exact Or.inl (Or.inl s)
      · rcases List.mem_cons.mp hb with rfl | hb
        · exact Or.inl (Or.inr ⟨rfl, rfl⟩)
        · exact Or.inr ⟨rfl, hb⟩
theorem Phase.mid {n k : Nat} {t : List (List Bool)} (hk : k < n) : ∀ (is : List Nat) (t' : List (List Bool)) (S : Nat → Nat → Prop), (∀ i ∈ is, i < n) → Phase n k t t' S → Phase n k t (midF n t' k is) (fun a b => S a b ∨ a ∈ is) := by
  intro is
  induction is with
  | nil => intro t' S _ h; exact h.congr (fun a b _ _ => by simp)
  | cons i is ih =>
    intro t' S hi h
    have h' := ih (rowF t' k i (List.range' 0 n)) _ (fun x hx => hi x (by simp [hx])) (Phase.row hk i (hi i (by simp)) (List.range' 0 n) t' S (fun j hj => by rw [List.mem_range'_1] at hj; omega) h)
    refine Phase.congr h' (fun a b _ hb => ?_)
    constructor
    · rintro ((s | ⟨rfl, _⟩) | hm)
      · exact Or.inl s
      · exact Or.inr (by simp)
      · exact Or.inr (by simp [hm])
    · rintro (s | hm)
      · exact Or.inl (Or.inl s)
      · rcases List.mem_cons.mp hm with rfl | hm
        · exact Or.inl (Or.inr ⟨rfl, by rw [List.mem_range'_1]; omega⟩)
        · exact Or.inr hm
theorem mid_tb {n k : Nat} {t : List (List Bool)} (ht : Sq n t) (hk : k < n) (a b : Nat) (ha : a < n) (hb : b < n) : tb (midF n t k (List.range' 0 n)) a b = true ↔ tb t a b = true ∨ tb t a k = true ∧ tb t k b = true := by
  have h0 : Phase n k t t (fun _ _ => False) := ⟨ht, fun a b _ _ => by simp⟩
  have h := Phase.mid hk (List.range' 0 n) t _ (fun i hi => by rw [List.mem_range'_1] at hi; omega) h0
  rw [h.2 a b ha hb]
  have hm : a ∈ List.range' 0 n := by rw [List.mem_range'_1]; omega
  simp [hm]
/-- Steps through the jobs before k are closed. -/
def Tr (n k : Nat) (t : List (List Bool)) : Prop := ∀ m a b, m < k → a < n → b < n → tb t a m = true → tb t m b = true → tb t a b = true
theorem out_tr (n : Nat) : ∀ (d k : Nat) (t : List (List Bool)), k + d = n → Sq n t → Tr n k t → Tr n n (outF n t (List.range' k d)) ∧ Sq n (outF n t (List.range' k d)) := by
  intro d
  induction d with
  | zero => intro k t hk ht h; rw [show k = n by omega] at h; exact ⟨h, ht⟩
  | succ d ih =>
    intro k t hk ht h
    rw [List.range'_succ]
    refine ih (k + 1) (midF n t k (List.range' 0 n)) (by omega) (mid_sq ht k _ (fun i hi => by rw [List.mem_range'_1] at hi; omega)) ?_
    intro m a b hm ha hb h1 h2
    have hkn : k < n := by omega
    have hmn : m < n := by omega
    rw [mid_tb ht hkn a m ha hmn] at h1
    rw [mid_tb ht hkn m b hmn hb] at h2
    rw [mid_tb ht hkn a b ha hb]
    by_cases c : m = k
    · subst c
      exact Or.inr ⟨h1.elim id (fun x => x.1), h2.elim id (fun x => x.2)⟩
    · have hmk : m < k := by omega
      rcases h1 with h1 | ⟨h1, h1'⟩
      · rcases h2 with h2 | ⟨h2, h2'⟩
        · exact Or.inl (h m a b hmk ha hb h1 h2)
        · exact Or.inr ⟨h m a k hmk ha hkn h1 h2, h2'⟩
      · rcases h2 with h2 | ⟨h2, h2'⟩
        · exact Or.inr ⟨h1, h m k b hmk hkn hb h1' h2⟩
        · exact Or.inr ⟨h1, h2'⟩
theorem clos_tr (n : Nat) (es : List S71) (hin : inN n es) : ∀ a m b, a < n → m < n → b < n → tb (closT n es) a m = true → tb (closT n es) m b = true → tb (closT n es) a b = true := by
  have h0 : Sq n (edgeF (List.replicate n (List.replicate n false)) es) := edge_sq ⟨by simp, fun r hr => by rw [List.eq_of_mem_replicate hr]; simp⟩ es hin
  have h := (out_tr n n 0 _ (Nat.zero_add _) h0 (fun m a b hm => by omega)).1
  intro a m b ha hm hb h1 h2
  exact h m a b hm ha hb h1 h2
theorem acy_irr (n : Nat) (t : List (List Bool)) : ∀ (d i : Nat), acyF t i d = true → ∀ j, i ≤ j → j < i + d → tb t j j = false := by
  intro d
  induction d with
  | zero => intro i _ j h1 h2; omega
  | succ d ih =>
    intro i h j h1 h2
    unfold acyF at h
    rw [Bool.and_eq_true] at h
    by_cases e : j = i
    · subst e; simpa using h.1
    · exact ih (i + 1) h.2 j (by omega) (by omega)
/-- What a good precedence gives. -/
theorem good4_facts (n : Int) (es : List S71) (h : good4 n es = true) : ∃ m : Nat, n = m ∧ m ≤ 8 ∧ es.length ≤ 28 ∧ inN m es ∧ (∀ j, j < m → tb (closT m es) j j = false) := by
  unfold good4 at h
  rw [Bool.and_eq_true] at h
  obtain ⟨m, rfl, h1, h2, h3⟩ := okE_in n es h.1
  refine ⟨m, rfl, h1, h2, h3, fun j hj => ?_⟩
  have := h.2
  rw [Int.toNat_natCast] at this
  exact acy_irr m _ m 0 this j (by omega) (by omega)
/-- How many jobs come after a job, among those before a number. -/
def cntF (t : List (List Bool)) (j : Nat) : Nat → Nat
  | 0 => 0
  | d + 1 => cntF t j d + if tb t j d = true then 1 else 0
theorem cnt_le (t : List (List Bool)) (i j : Nat) : ∀ d : Nat, (∀ b, b < d → tb t i b = true → tb t j b = true) → cntF t i d ≤ cntF t j d := by
  intro d
  induction d with
  | zero => intro _; exact Nat.le_refl _
  | succ d ih =>
    intro h
    have h1 := ih (fun b hb => h b (by omega))
    unfold cntF
    by_cases c : tb t i d = true
    · rw [if_pos c, if_pos (h d (by omega) c)]; omega
    · rw [if_neg c]; omega
theorem cnt_lt (t : List (List Bool)) (i j : Nat) : ∀ d : Nat, (∀ b, b < d → tb t i b = true → tb t j b = true) → (∃ b, b < d ∧ tb t i b = false ∧ tb t j b = true) → cntF t i d < cntF t j d := by
  intro d
  induction d with
  | zero => rintro _ ⟨b, hb, _⟩; omega
  | succ d ih =>
    rintro h ⟨b, hb, h1, h2⟩
    unfold cntF
    by_cases e : b = d
    · subst e
      have := cnt_le t i j b (fun x hx => h x (by omega))
      rw [if_pos h2, if_neg (by rw [h1]; decide)]; omega
    · have := ih (fun x hx => h x (by omega)) ⟨b, by omega, h1, h2⟩
      by_cases c : tb t i d = true
      · rw [if_pos c, if_pos (h d (by omega) c)]; omega
      · rw [if_neg c]; omega
theorem cnt_bound (t : List (List Bool)) (j : Nat) : ∀ d : Nat, cntF t j d ≤ d := by
  intro d
  induction d with
  | zero => exact Nat.le_refl _
  | succ d ih => unfold cntF; split <;> omega
/-- Of two jobs in order the later one has fewer after it. -/
theorem cnt_desc (n : Nat) (es : List S71) (hin : inN n es) (hirr : ∀ j, j < n → tb (closT n es) j j = false) (j i : Nat) (hj : j < n) (hi : i < n) (h : tb (closT n es) j i = true) : cntF (closT n es) i n < cntF (closT n es) j n :=
  cnt_lt _ i j n (fun b hb hib => clos_tr n es hin j i b hj hi hb h hib) ⟨i, hi, hirr i hi, h⟩

def par7 (xs : List S79) (m : Int) (es : List S71) : Bool := plainB xs && ((decide (1 ≤ m) && decide (m ≤ 4)) && good4 (xs.length : Int) es)
theorem l7Good_ev (xs : List S79) (m : Int) (es : List S71) (hn : xs.length ≤ 1048576) (he : es.length ≤ 1048576) : Ev (fun k => spec_l7Good.f k xs m es) (par7 xs m es) := by
  have h1 := l2Good_ev xs (by omega)
  have h2 := l3Plain_ev xs (by omega)
  have h3 := l4Good_ev (xs.length : Int) es he
  unfold spec_l7Good.f par7 plainB
  simp only [l1In_eq, Option.bind_some]
  refine ev_bind h1 ?_
  cases goodB xs
  · simp only [Bool.false_eq_true, if_false, Bool.false_and]; exact ev_now _
  · simp only [if_true, Bool.true_and]
    refine ev_bind h2 ?_
    cases xs.all freeJ
    · simp only [Bool.false_eq_true, if_false, Bool.false_and]; exact ev_now _
    · simp only [if_true, Bool.true_and]
      cases (decide (1 ≤ m) && decide (m ≤ 4))
      · simp only [Bool.false_eq_true, if_false, Bool.false_and]; exact ev_now _
      · simp only [if_true, Bool.true_and]; exact ev_bind h3 (ev_now _)
theorem isParallel_ev (xs : List S79) (m : Int) (es : List S71) (hn : xs.length ≤ 1048576) : Ev (fun k => impl_isParallel.f k xs m es) (par7 xs m es) := by
  have h1 := IsPlain_ev xs (by omega)
  have h3 := isPrec_ev (xs.length : Int) es
  unfold impl_isParallel.f par7
  simp only [within_eq, Option.bind_some]
  refine ev_bind h1 ?_
  cases plainB xs
  · simp only [Bool.false_eq_true, if_false, Bool.false_and]; exact ev_now _
  · simp only [if_true, Bool.true_and]
    cases (decide (1 ≤ m) && decide (m ≤ 4))
    · simp only [Bool.false_eq_true, if_false, Bool.false_and]; exact ev_now _
    · simp only [if_true, Bool.true_and]; exact ev_bind h3 (ev_now _)
theorem par7_facts (xs : List S79) (m : Int) (es : List S71) (h : par7 xs m es = true) : goodB xs = true ∧ (1 ≤ m ∧ m ≤ 4) ∧ xs.length ≤ 8 ∧ es.length ≤ 28 ∧ inN xs.length es ∧ (∀ j, j < xs.length → tb (closT xs.length es) j j = false) := by
  unfold par7 at h
  simp only [Bool.and_eq_true, decide_eq_true_eq] at h
  obtain ⟨h1, h2, h3⟩ := h
  obtain ⟨n, e, a, b, c, d⟩ := good4_facts _ es h3
  have e' : xs.length = n := by omega
  subst e'
  exact ⟨plain_good h1, h2, a, b, c, d⟩

theorem l3Job_eq (xs : List S79) (i : Int) (hn : xs.length ≤ 1048576) : spec_l3Job.f xs i = some (decide (0 ≤ i) && decide (i < (xs.length : Int))) := by
  unfold spec_l3Job.f
  rw [l1In_eq, w64 (by omega) (by omega)]
  simp only [Option.bind_some]
  congr 2
  rw [decide_eq_decide]
  omega

def vldS (n : Nat) (prev : Int) (p : S130) : Bool := (decide (0 ≤ p.f0) && decide (p.f0 < (n : Int))) && (!decide (p.f1 < prev) && (!decide (p.f2 ≤ p.f1) && !decide (p.f2 > 1000)))
def chainS (n : Nat) : Int → List S130 → Bool
  | _, [] => true
  | prev, p :: t => vldS n prev p && chainS n p.f2 t
def addS (done : List Int) (p : S130) : List Int := done.set p.f0.toNat (wrap64 (rd done p.f0 + wrap64 (p.f2 - p.f1)))
def addsS (done : List Int) (L : List S130) : List Int := L.foldl addS done
theorem addsS_len : ∀ (L : List S130) (done : List Int), (addsS done L).length = done.length
  | [], _ => rfl
  | p :: t, done => by
    show (addsS (addS done p) t).length = _
    rw [addsS_len t]
    exact List.length_set
def ovlS (p q : S130) : Bool := decide (p.f0 = q.f0) && (decide (q.f1 < p.f2) && decide (p.f1 < q.f2))
def apartS (p : S130) (L : List S130) : Bool := L.all (fun q => !ovlS p q)
def workS (l : List S79) (done : List Int) (i : Nat) : Nat → Bool
  | 0 => true
  | d + 1 => decide (rd done (i : Int) = (rd_T79 l (i : Int)).f0) && workS l done (i + 1) d
/-- The lists from one on, each beside those ahead of it. -/
def apF (ss : List (List S130)) (a : Nat) : Nat → Bool
  | 0 => true
  | d + 1 => (rd_L9 ss (a : Int)).all (fun p => (ss.take a).all (apartS p)) && apF ss (a + 1) d
def runS (n : Nat) (ss : List (List S130)) (fin : List Int → Bool) (a : Nat) (done : List Int) : Nat → Bool
  | 0 => fin done
  | d + 1 => if chainS n 0 (rd_L9 ss (a : Int)) = true then runS n ss fin (a + 1) (addsS done (rd_L9 ss (a : Int))) d else false
def specS (n : Nat) (ss : List (List S130)) (fin : List Int → Bool) (a : Nat) (done : List Int) : Nat → Bool
  | 0 => fin done
  | d + 1 => if (chainS n 0 (rd_L9 ss (a : Int)) && (rd_L9 ss (a : Int)).all (fun p => (ss.take a).all (apartS p))) = true then specS n ss fin (a + 1) (addsS done (rd_L9 ss (a : Int))) d else false
theorem spec_run (n : Nat) (ss : List (List S130)) (fin : List Int → Bool) : ∀ (d a : Nat) (done : List Int), specS n ss fin a done d = (runS n ss fin a done d && apF ss a d)
  | 0, a, done => by simp [specS, runS, apF]
  | d + 1, a, done => by
    unfold specS runS apF
    rw [spec_run n ss fin d]
    cases chainS n 0 (rd_L9 ss (a : Int)) <;> cases (rd_L9 ss (a : Int)).all (fun p => (ss.take a).all (apartS p)) <;> simp
theorem run_and (n : Nat) (ss : List (List S130)) (fin : List Int → Bool) (X : Bool) : ∀ (d a : Nat) (done : List Int), runS n ss (fun z => fin z && X) a done d = (runS n ss fin a done d && X)
  | 0, a, done => rfl
  | d + 1, a, done => by
    unfold runS
    rw [run_and n ss fin X d]
    cases chainS n 0 (rd_L9 ss (a : Int)) <;> simp
theorem rdISp (L : List S130) (i : Nat) (h : i < L.length) : rd_T130 L (i : Int) = L[i] := by
  unfold rd_T130
  simp only [Int.toNat_natCast]
  rw [List.getD_eq_getElem?_getD, List.getElem?_eq_getElem h]
  rfl
theorem wrap_assoc (a b c : Int) : wrap64 (wrap64 (a + b) - c) = wrap64 (a + wrap64 (b - c)) := by
  unfold wrap64; omega
-- the program
theorem shared_l6 (x1 : List (List S130)) (x13 x15 : List S130) (x103 : List (List S130)) (x104 x105 : Int) (x112 : List (List S130)) (x113 x114 : Int) (x118 : List S130) (x119 x120 : Int) (p : S130) (L : List S130) (hL : L.length ≤ 1048576) (r : Bool)
    (hn : Ev (fun k => impl_isShared.l5 k x1 x13 x15 x103 x104 x105 x112 x113 x114 x118 x119 (wrap64 (x120 + 1))) r) : ∀ (d j : Nat), j + d = L.length →
    Ev (fun k => impl_isShared.l6 k x1 x13 x15 x103 x104 x105 x112 x113 x114 x118 x119 x120 L (L.length : Int) (j : Int) p.f0 p.f1 p.f2) (if (L.drop j).all (fun q => !ovlS p q) = true then r else false) := by
  intro d
  induction d with
  | zero =>
    intro j hj
    refine ev_succ ?_
    rw [List.drop_eq_nil_of_le (by omega)]
    simp only [impl_isShared.l6, if_neg (show ¬ ((j : Int) < (L.length : Int)) by omega), List.all_nil, if_true]
    exact hn
  | succ d ih =>
    intro j hj
    refine ev_succ ?_
    have hjl : j < L.length := by omega
    have := ih (j + 1) (by omega)
    rw [List.drop_eq_getElem_cons hjl, List.all_cons]
    simp only [impl_isShared.l6, if_pos (show ((j : Int) < (L.length : Int)) by omega), if_pos (show (0 : Int) ≤ (j : Int) by omega), rdISp L j hjl, w64 (x := (j : Int) + 1) (by omega) (by omega), ovlS]
    by_cases h1 : p.f0 = L[j].f0
    · simp only [if_pos h1, decide_eq_true h1, Bool.true_and]
      by_cases h2 : L[j].f1 < p.f2
      · simp only [if_pos (show p.f2 > L[j].f1 from h2), decide_eq_true h2, Bool.true_and]
        by_cases h3 : p.f1 < L[j].f2
        · simp only [if_pos (show L[j].f2 > p.f1 from h3), decide_eq_true h3, Bool.not_true, Bool.false_and, Bool.false_eq_true, if_false]
          exact ev_now _
        · simp only [if_neg (show ¬ L[j].f2 > p.f1 from h3), decide_eq_false h3, Bool.not_false, Bool.true_and]
          exact this
      · simp only [if_neg (show ¬ p.f2 > L[j].f1 from h2), decide_eq_false h2, Bool.false_and, Bool.not_false, Bool.true_and]
        exact this
    · simp only [if_neg h1, decide_eq_false h1, Bool.false_and, Bool.not_false, Bool.true_and]
      exact this
theorem shared_l5 (x1 : List (List S130)) (L O : List S130) (x103 : List (List S130)) (x104 x105 : Int) (x112 : List (List S130)) (x113 x114 : Int) (hL : L.length ≤ 1048576) (hO : O.length ≤ 1048576) (r : Bool)
    (hn : Ev (fun k => impl_isShared.l4 k x1 L x103 x104 x105 x112 x113 (wrap64 (x114 + 1))) r) : ∀ (d j : Nat), j + d = L.length →
    Ev (fun k => impl_isShared.l5 k x1 L O x103 x104 x105 x112 x113 x114 L (L.length : Int) (j : Int)) (if (L.drop j).all (fun p => apartS p O) = true then r else false) := by
  intro d
  induction d with
  | zero =>
    intro j hj
    refine ev_succ ?_
    rw [List.drop_eq_nil_of_le (by omega)]
    simp only [impl_isShared.l5, if_neg (show ¬ ((j : Int) < (L.length : Int)) by omega), List.all_nil, if_true]
    exact hn
  | succ d ih =>
    intro j hj
    refine ev_succ ?_
    have hjl : j < L.length := by omega
    have nx := ih (j + 1) (by omega)
    rw [show ((j + 1 : Nat) : Int) = wrap64 ((j : Int) + 1) by rw [w64 (by omega) (by omega)]; omega] at nx
    have := shared_l6 x1 L O x103 x104 x105 x112 x113 x114 L (L.length : Int) (j : Int) L[j] O hO _ nx O.length 0 (by omega)
    rw [List.drop_eq_getElem_cons hjl, List.all_cons]
    simp only [impl_isShared.l5, if_pos (show ((j : Int) < (L.length : Int)) by omega), if_pos (show (0 : Int) ≤ (j : Int) by omega), rdISp L j hjl]
    rw [List.drop_zero] at this
    have e : (if O.all (fun q => !ovlS L[j] q) = true then (if (L.drop (j + 1)).all (fun p => apartS p O) = true then r else false) else false) = (if (apartS L[j] O && (L.drop (j + 1)).all (fun p => apartS p O)) = true then r else false) := by
      unfold apartS
      cases O.all (fun q => !ovlS L[j] q) <;> simp
    rw [e] at this
    exact this
theorem shared_l4 (x1 : List (List S130)) (L : List S130) (x103 : List (List S130)) (x104 x105 : Int) (M : List (List S130)) (hL : L.length ≤ 1048576) (hM : M.length ≤ 1048576) (hMr : ∀ q ∈ M, q.length ≤ 1048576) (r : Bool)
    (hn : Ev (fun k => impl_isShared.l3 k x1 x103 x104 (wrap64 (x105 + 1))) r) : ∀ (d j : Nat), j + d = M.length →
    Ev (fun k => impl_isShared.l4 k x1 L x103 x104 x105 M (M.length : Int) (j : Int)) (if (M.drop j).all (fun O => L.all (fun p => apartS p O)) = true then r else false) := by
  intro d
  induction d with
  | zero =>
    intro j hj
    refine ev_succ ?_
    rw [List.drop_eq_nil_of_le (by omega)]
    simp only [impl_isShared.l4, if_neg (show ¬ ((j : Int) < (M.length : Int)) by omega), List.all_nil, if_true]
    exact hn
  | succ d ih =>
    intro j hj
    refine ev_succ ?_
    have hjl : j < M.length := by omega
    have nx := ih (j + 1) (by omega)
    rw [show ((j + 1 : Nat) : Int) = wrap64 ((j : Int) + 1) by rw [w64 (by omega) (by omega)]; omega] at nx
    have := shared_l5 x1 L M[j] x103 x104 x105 M (M.length : Int) (j : Int) hL (hMr _ (List.getElem_mem hjl)) _ nx L.length 0 (by omega)
    rw [List.drop_eq_getElem_cons hjl, List.all_cons]
    simp only [impl_isShared.l4, if_pos (show ((j : Int) < (M.length : Int)) by omega), if_pos (show (0 : Int) ≤ (j : Int) by omega), rdISS M j hjl]
    rw [List.drop_zero] at this
    have e : (if L.all (fun p => apartS p M[j]) = true then (if (M.drop (j + 1)).all (fun O => L.all (fun p => apartS p O)) = true then r else false) else false) = (if (L.all (fun p => apartS p M[j]) && (M.drop (j + 1)).all (fun O => L.all (fun p => apartS p O))) = true then r else false) := by
      cases L.all (fun p => apartS p M[j]) <;> simp
    rw [e] at this
    exact this
theorem all_swap (L : List S130) (M : List (List S130)) : M.all (fun O => L.all (fun p => apartS p O)) = L.all (fun p => M.all (apartS p)) := by
  rw [Bool.eq_iff_iff]
  simp only [List.all_eq_true]
  exact ⟨fun h p hp O hO => h O hO p hp, fun h O hO p hp => h p hp O hO⟩
theorem shared_l3 (ss : List (List S130)) (hs : ss.length ≤ 1048576) (hr : ∀ q ∈ ss, q.length ≤ 1048576) : ∀ (d a : Nat), a + d = ss.length →
    Ev (fun k => impl_isShared.l3 k ss ss (ss.length : Int) (a : Int)) (apF ss a d) := by
  intro d
  induction d with
  | zero =>
    intro a ha
    refine ev_succ ?_
    simp only [impl_isShared.l3, if_neg (show ¬ ((a : Int) < (ss.length : Int)) by omega), apF]
    exact ev_now _
  | succ d ih =>
    intro a ha
    refine ev_succ ?_
    have hal : a < ss.length := by omega
    have nx := ih (a + 1) (by omega)
    rw [show ((a + 1 : Nat) : Int) = wrap64 ((a : Int) + 1) by rw [w64 (by omega) (by omega)]; omega] at nx
    have := shared_l4 ss ss[a] ss (ss.length : Int) (a : Int) (ss.take a) (hr _ (List.getElem_mem hal)) (by rw [List.length_take]; omega) (fun q hq => hr q (List.mem_of_mem_take hq)) _ nx (ss.take a).length 0 (by omega)
    rw [List.drop_zero, all_swap] at this
    simp only [impl_isShared.l3, if_pos (show ((a : Int) < (ss.length : Int)) by omega), if_pos (show (0 : Int) ≤ (a : Int) by omega), if_pos (show ((a : Int) ≤ (ss.length : Int)) by omega), rdISS ss a hal, Option.bind_some, Int.toNat_natCast, apF]
    have e : (if ss[a].all (fun p => (ss.take a).all (apartS p)) = true then apF ss (a + 1) d else false) = (ss[a].all (fun p => (ss.take a).all (apartS p)) && apF ss (a + 1) d) := by
      cases ss[a].all (fun p => (ss.take a).all (apartS p)) <;> simp
    rw [e] at this
    exact this
theorem shared_l2 (ss : List (List S130)) (hs : ss.length ≤ 1048576) (hr : ∀ q ∈ ss, q.length ≤ 1048576) (l : List S79) (hl : l.length ≤ 8) (done : List Int) (hd : done.length = l.length) : ∀ (d i : Nat), i + d = l.length →
    Ev (fun k => impl_isShared.l2 k ss done l (l.length : Int) (i : Int)) (workS l done i d && apF ss 0 ss.length) := by
  intro d
  induction d with
  | zero =>
    intro i hi
    refine ev_succ ?_
    simp only [impl_isShared.l2, if_neg (show ¬ ((i : Int) < (l.length : Int)) by omega), workS, Bool.true_and]
    exact shared_l3 ss hs hr ss.length 0 (by omega)
  | succ d ih =>
    intro i hi
    refine ev_succ ?_
    have nx := ih (i + 1) (by omega)
    simp only [impl_isShared.l2, if_pos (show ((i : Int) < (l.length : Int)) by omega), if_pos (show (0 : Int) ≤ (i : Int) by omega), if_pos (show ((i : Int) < (done.length : Int)) by omega), workS, w64 (x := (i : Int) + 1) (by omega) (by omega)]
    by_cases h : rd done (i : Int) = (rd_T79 l (i : Int)).f0
    · simp only [if_pos h, decide_eq_true h, Bool.true_and]; exact nx
    · simp only [if_neg h, decide_eq_false h, Bool.false_and]; exact ev_now _
/-- What a chain of spans is held against. -/
def prevS (L : List S130) : Nat → Int
  | 0 => 0
  | j + 1 => (rd_T130 L (j : Int)).f2
theorem shared_l1 (l : List S79) (hl : l.length ≤ 8) (ss : List (List S130)) (L : List S130) (hL : L.length ≤ 1048576) (x23 : List (List S130)) (x24 x25 : Int) (NX : List Int → Bool)
    (hn : ∀ done : List Int, done.length = l.length → Ev (fun k => impl_isShared.l0 k l ss done x23 x24 (wrap64 (x25 + 1))) (NX done)) : ∀ (d j : Nat) (done : List Int), j + d = L.length → done.length = l.length → 0 ≤ prevS L j →
    Ev (fun k => impl_isShared.l1 k l ss done L x23 x24 x25 L (L.length : Int) (j : Int)) (if chainS l.length (prevS L j) (L.drop j) = true then NX (addsS done (L.drop j)) else false) := by
  intro d
  induction d with
  | zero =>
    intro j done hj hd _
    refine ev_succ ?_
    rw [List.drop_eq_nil_of_le (by omega)]
    simp only [impl_isShared.l1, if_neg (show ¬ ((j : Int) < (L.length : Int)) by omega), chainS, if_true]
    exact hn done hd
  | succ d ih =>
    intro j done hj hd hp
    refine ev_succ ?_
    have hjl : j < L.length := by omega
    rw [List.drop_eq_getElem_cons hjl]
    have hch : chainS l.length (prevS L j) (L[j] :: L.drop (j + 1)) = (vldS l.length (prevS L j) L[j] && chainS l.length L[j].f2 (L.drop (j + 1))) := rfl
    have had : addsS done (L[j] :: L.drop (j + 1)) = addsS (addS done L[j]) (L.drop (j + 1)) := rfl
    rw [hch, had]
    simp only [impl_isShared.l1, if_pos (show ((j : Int) < (L.length : Int)) by omega), if_pos (show (0 : Int) ≤ (j : Int) by omega), rdISp L j hjl, isNumber_eq L[j].f0 _ (Int.natCast_nonneg l.length) (by omega), Option.bind_some]
    have nx := ih (j + 1) (addS done L[j]) (by omega) (by unfold addS; rw [List.length_set]; exact hd)
    have hpv : prevS L (j + 1) = L[j].f2 := by show (rd_T130 L (j : Int)).f2 = _; rw [rdISp L j hjl]
    rw [hpv] at nx
    by_cases hv : (decide (0 ≤ L[j].f0) && decide (L[j].f0 < (l.length : Int))) = true
    · simp only [hv, if_true]
      have hv' := hv
      simp only [Bool.and_eq_true, decide_eq_true_eq] at hv'
      by_cases h1 : L[j].f1 < 0
      · have hf : vldS l.length (prevS L j) L[j] = false := by unfold vldS; rw [decide_eq_true (show L[j].f1 < prevS L j by omega)]; simp
        simp only [if_pos h1, hf, Bool.false_and, Bool.false_eq_true, if_false]; exact ev_now _
      · simp only [if_neg h1]
        by_cases h2 : L[j].f2 ≤ L[j].f1
        · have hf : vldS l.length (prevS L j) L[j] = false := by unfold vldS; rw [decide_eq_true h2]; simp
          simp only [if_pos (show L[j].f1 ≥ L[j].f2 from h2), hf, Bool.false_and, Bool.false_eq_true, if_false]; exact ev_now _
        · simp only [if_neg (show ¬ L[j].f1 ≥ L[j].f2 from h2)]
          by_cases h3 : L[j].f2 > 1000
          · have hf : vldS l.length (prevS L j) L[j] = false := by unfold vldS; rw [decide_eq_true h3]; simp
            simp only [if_pos h3, hf, Bool.false_and, Bool.false_eq_true, if_false]; exact ev_now _
          · simp only [if_neg h3]
            have nx := nx (by omega)
            have hgo : Ev (fun k => impl_isShared.l1 k l ss (done.set L[j].f0.toNat (wrap64 (rd done L[j].f0 + wrap64 (L[j].f2 - L[j].f1)))) L x23 x24 x25 L (L.length : Int) ((j : Int) + 1)) (if chainS l.length L[j].f2 (L.drop (j + 1)) = true then NX (addsS (addS done L[j]) (L.drop (j + 1))) else false) := nx
            have hc5 : L[j].f0 < (done.length : Int) := by omega
            cases j with
            | zero =>
              have ht : vldS l.length (prevS L 0) L[0] = true := by
                unfold vldS
                rw [hv, decide_eq_false h2, decide_eq_false h3, decide_eq_false (show ¬ L[0].f1 < prevS L 0 from h1)]; rfl
              simp only [ht, Bool.true_and, if_neg (show ¬ (((0 : Nat) : Int) > 0) by omega), if_pos hv'.1, if_pos hc5, w64 (x := ((0 : Nat) : Int) + 1) (by omega) (by omega)]
              exact hgo
            | succ q =>
              have hw : wrap64 (((q + 1 : Nat) : Int) - 1) = (q : Int) := by rw [w64 (by omega) (by omega)]; omega
              have hpq : prevS L (q + 1) = L[q].f2 := by show (rd_T130 L (q : Int)).f2 = _; rw [rdISp L q (by omega)]
              simp only [if_pos (show (((q + 1 : Nat) : Int) > 0) by omega), hw, if_pos (show (0 : Int) ≤ (q : Int) by omega), if_pos (show ((q : Int) < (L.length : Int)) by omega), rdISp L q (by omega)]
              by_cases h4 : L[q + 1].f1 < L[q].f2
              · have hf : vldS l.length (prevS L (q + 1)) L[q + 1] = false := by unfold vldS; rw [hpq, decide_eq_true h4]; simp
                simp only [if_pos h4, hf, Bool.false_and, Bool.false_eq_true, if_false]; exact ev_now _
              · have ht : vldS l.length (prevS L (q + 1)) L[q + 1] = true := by
                  unfold vldS
                  rw [hv, decide_eq_false h2, decide_eq_false h3, hpq, decide_eq_false h4]; rfl
                simp only [if_neg h4, ht, Bool.true_and, if_pos hv'.1, if_pos hc5, w64 (x := ((q + 1 : Nat) : Int) + 1) (by omega) (by omega)]
                exact hgo
    · have hv0 : (decide (0 ≤ L[j].f0) && decide (L[j].f0 < (l.length : Int))) = false := by simpa using hv
      have hf : vldS l.length (prevS L j) L[j] = false := by unfold vldS; rw [hv0]; simp
      simp only [hv0, Bool.false_eq_true, if_false, hf, Bool.false_and]; exact ev_now _
theorem shared_l0 (l : List S79) (hl : l.length ≤ 8) (ss : List (List S130)) (hs : ss.length ≤ 1048576) (hr : ∀ q ∈ ss, q.length ≤ 1048576) : ∀ (d a : Nat) (done : List Int), a + d = ss.length → done.length = l.length →
    Ev (fun k => impl_isShared.l0 k l ss done ss (ss.length : Int) (a : Int)) (runS l.length ss (fun z => workS l z 0 l.length && apF ss 0 ss.length) a done d) := by
  intro d
  induction d with
  | zero =>
    intro a done ha hd
    refine ev_succ ?_
    simp only [impl_isShared.l0, if_neg (show ¬ ((a : Int) < (ss.length : Int)) by omega), runS]
    exact shared_l2 ss hs hr l hl done hd l.length 0 (by omega)
  | succ d ih =>
    intro a done ha hd
    refine ev_succ ?_
    have hal : a < ss.length := by omega
    simp only [impl_isShared.l0, if_pos (show ((a : Int) < (ss.length : Int)) by omega), if_pos (show (0 : Int) ≤ (a : Int) by omega), rdISS ss a hal, runS]
    have := shared_l1 l hl ss ss[a] (hr _ (List.getElem_mem hal)) ss (ss.length : Int) (a : Int) (fun z => runS l.length ss (fun z => workS l z 0 l.length && apF ss 0 ss.length) (a + 1) z d)
      (fun z hz => by
        have := ih (a + 1) z (by omega) hz
        rw [show ((a + 1 : Nat) : Int) = wrap64 ((a : Int) + 1) by rw [w64 (by omega) (by omega)]; omega] at this
        exact this) ss[a].length 0 done (by omega) hd (Int.le_refl 0)
    rw [List.drop_zero] at this
    exact this
-- the reference
theorem l7Apart_ev (p : S130) (L : List S130) (hL : L.length ≤ 1048576) : Ev (fun k => spec_l7Apart.f k p.f0 p.f1 p.f2 L) (apartS p L) := by
  have main : ∀ (d j : Nat), j + d = L.length → Ev (fun k => spec_l7Apart.l0 k L (j : Int) p.f0 p.f1 p.f2) ((L.drop j).all (fun q => !ovlS p q)) := by
    intro d
    induction d with
    | zero =>
      intro j hj
      refine ev_succ ?_
      rw [List.drop_eq_nil_of_le (by omega)]
      simp only [spec_l7Apart.l0, if_neg (show ¬ ((j : Int) < (L.length : Int)) by omega), List.all_nil]
      exact ev_now _
    | succ d ih =>
      intro j hj
      refine ev_succ ?_
      have hjl : j < L.length := by omega
      have := ih (j + 1) (by omega)
      rw [List.drop_eq_getElem_cons hjl, List.all_cons]
      simp only [spec_l7Apart.l0, if_pos (show ((j : Int) < (L.length : Int)) by omega), if_pos (show (0 : Int) ≤ (j : Int) by omega), rdISp L j hjl, w64 (x := (j : Int) + 1) (by omega) (by omega), ovlS]
      by_cases h1 : L[j].f0 = p.f0
      · simp only [if_pos h1, decide_eq_true h1.symm, Bool.true_and]
        by_cases h2 : L[j].f1 < p.f2
        · simp only [if_pos h2, decide_eq_true h2, Bool.true_and]
          by_cases h3 : p.f1 < L[j].f2
          · simp only [if_pos h3, decide_eq_true h3, Bool.not_true, Bool.false_and]
            exact ev_now _
          · simp only [if_neg h3, decide_eq_false h3, Bool.not_false, Bool.true_and]
            exact this
        · simp only [if_neg h2, decide_eq_false h2, Bool.false_and, Bool.not_false, Bool.true_and]
          exact this
      · simp only [if_neg h1, decide_eq_false (show ¬ p.f0 = L[j].f0 from fun h => h1 h.symm), Bool.false_and, Bool.not_false, Bool.true_and]
        exact this
  have := main L.length 0 (by omega)
  rw [List.drop_zero] at this
  exact this
theorem sshared_l2 (l : List S79) (ss : List (List S130)) (hs : ss.length ≤ 1048576) (hr : ∀ q ∈ ss, q.length ≤ 1048576) (done : List Int) (a : Nat) (ha : a < ss.length) (x8 : Int) (p : S130) (h0 : 0 ≤ p.f0) (h1 : p.f0 < (done.length : Int)) (r : Bool)
    (hn : Ev (fun k => spec_l7Shared.l1 k l ss (addS done p) (a : Int) p.f2 (wrap64 (x8 + 1))) r) : ∀ (d j : Nat), j + d = a →
    Ev (fun k => spec_l7Shared.l2 k l ss done (a : Int) x8 (j : Int) p.f0 p.f1 p.f2) (if ((ss.take a).drop j).all (apartS p) = true then r else false) := by
  have ht : (ss.take a).length = a := by rw [List.length_take]; omega
  intro d
  induction d with
  | zero =>
    intro j hj
    refine ev_succ ?_
    rw [List.drop_eq_nil_of_le (by omega)]
    simp only [spec_l7Shared.l2, if_neg (show ¬ ((j : Int) < (a : Int)) by omega), List.all_nil, if_true, if_pos h0, if_pos h1, wrap_assoc]
    exact hn
  | succ d ih =>
    intro j hj
    refine ev_succ ?_
    have hjl : j < ss.length := by omega
    have := ih (j + 1) (by omega)
    rw [List.drop_eq_getElem_cons (by omega), List.all_cons, List.getElem_take]
    simp only [spec_l7Shared.l2, if_pos (show ((j : Int) < (a : Int)) by omega), if_pos (show (0 : Int) ≤ (j : Int) by omega), if_pos (show ((j : Int) < (ss.length : Int)) by omega), rdISS ss j hjl, w64 (x := (j : Int) + 1) (by omega) (by omega)]
    refine ev_bind (l7Apart_ev p ss[j] (hr _ (List.getElem_mem hjl))) ?_
    cases apartS p ss[j]
    · simp only [Bool.false_and, Bool.false_eq_true, if_false]; exact ev_now _
    · simp only [Bool.true_and, if_true]; exact this
theorem sshared_l1 (l : List S79) (hl : l.length ≤ 8) (ss : List (List S130)) (hs : ss.length ≤ 1048576) (hr : ∀ q ∈ ss, q.length ≤ 1048576) (a : Nat) (ha : a < ss.length) (NX : List Int → Bool)
    (hn : ∀ done : List Int, done.length = l.length → Ev (fun k => spec_l7Shared.l0 k l ss done (wrap64 ((a : Int) + 1))) (NX done)) : ∀ (d j : Nat) (now : Int) (done : List Int), j + d = ss[a].length → done.length = l.length →
    Ev (fun k => spec_l7Shared.l1 k l ss done (a : Int) now (j : Int)) (if (chainS l.length now (ss[a].drop j) && (ss[a].drop j).all (fun p => (ss.take a).all (apartS p))) = true then NX (addsS done (ss[a].drop j)) else false) := by
  have hLr := hr _ (List.getElem_mem ha)
  have fls : ∀ (done : List Int) (x8 : Int) (u v w : Int), Ev (fun k => spec_l7Shared.j2 k l ss done (a : Int) x8 true u v w) false := fun done x8 u v w => ev_succ (by simp only [spec_l7Shared.j2, if_true]; exact ev_now _)
  intro d
  induction d with
  | zero =>
    intro j now done hj hd
    refine ev_succ ?_
    rw [List.drop_eq_nil_of_le (by omega)]
    simp only [spec_l7Shared.l1, if_pos (show (0 : Int) ≤ (a : Int) by omega), if_pos (show ((a : Int) < (ss.length : Int)) by omega), rdISS ss a ha, if_neg (show ¬ ((j : Int) < (ss[a].length : Int)) by omega), chainS, List.all_nil, Bool.and_self, if_true]
    exact hn done hd
  | succ d ih =>
    intro j now done hj hd
    refine ev_succ ?_
    have hjl : j < ss[a].length := by omega
    have nx := ih (j + 1) ss[a][j].f2 (addS done ss[a][j]) (by omega) (by unfold addS; rw [List.length_set]; exact hd)
    rw [List.drop_eq_getElem_cons hjl]
    have hch : chainS l.length now (ss[a][j] :: ss[a].drop (j + 1)) = (vldS l.length now ss[a][j] && chainS l.length ss[a][j].f2 (ss[a].drop (j + 1))) := rfl
    have had : addsS done (ss[a][j] :: ss[a].drop (j + 1)) = addsS (addS done ss[a][j]) (ss[a].drop (j + 1)) := rfl
    rw [hch, had, List.all_cons]
    simp only [spec_l7Shared.l1, if_pos (show (0 : Int) ≤ (a : Int) by omega), if_pos (show ((a : Int) < (ss.length : Int)) by omega), rdISS ss a ha, if_pos (show ((j : Int) < (ss[a].length : Int)) by omega), if_pos (show (0 : Int) ≤ (j : Int) by omega), rdISp ss[a] j hjl, l3Job_eq l _ (by omega), Option.bind_some]
    by_cases hv : (decide (0 ≤ ss[a][j].f0) && decide (ss[a][j].f0 < (l.length : Int))) = true
    · simp only [hv, if_true]
      have hv' := hv
      simp only [Bool.and_eq_true, decide_eq_true_eq] at hv'
      by_cases h1 : ss[a][j].f1 < now
      · have hf : vldS l.length now ss[a][j] = false := by unfold vldS; rw [decide_eq_true h1]; simp
        simp only [if_pos h1, hf, Bool.false_and, Bool.false_eq_true, if_false]; exact fls _ _ _ _ _
      · simp only [if_neg h1]
        by_cases h2 : ss[a][j].f2 ≤ ss[a][j].f1
        · have hf : vldS l.length now ss[a][j] = false := by unfold vldS; rw [decide_eq_true h2]; simp
          simp only [if_pos h2, hf, Bool.false_and, Bool.false_eq_true, if_false]; exact fls _ _ _ _ _
        · simp only [if_neg h2]
          by_cases h3 : ss[a][j].f2 > 1000
          · have hf : vldS l.length now ss[a][j] = false := by unfold vldS; rw [decide_eq_true h3]; simp
            simp only [decide_eq_true h3, hf, Bool.false_and, Bool.false_eq_true, if_false]; exact fls _ _ _ _ _
          · have ht : vldS l.length now ss[a][j] = true := by
              unfold vldS
              rw [hv, decide_eq_false h1, decide_eq_false h2, decide_eq_false h3]; rfl
            simp only [decide_eq_false h3, ht, Bool.true_and]
            refine ev_succ ?_
            simp only [spec_l7Shared.j2, Bool.false_eq_true, if_false]
            have := sshared_l2 l ss hs hr done a ha (j : Int) ss[a][j] hv'.1 (by omega) _ (by rw [w64 (x := (j : Int) + 1) (by omega) (by omega)]; exact nx) a 0 (by omega)
            rw [List.drop_zero] at this
            have e : (if (ss.take a).all (apartS ss[a][j]) = true then (if (chainS l.length ss[a][j].f2 (ss[a].drop (j + 1)) && (ss[a].drop (j + 1)).all (fun p => (ss.take a).all (apartS p))) = true then NX (addsS (addS done ss[a][j]) (ss[a].drop (j + 1))) else false) else false) = (if (chainS l.length ss[a][j].f2 (ss[a].drop (j + 1)) && ((ss.take a).all (apartS ss[a][j]) && (ss[a].drop (j + 1)).all (fun p => (ss.take a).all (apartS p)))) = true then NX (addsS (addS done ss[a][j]) (ss[a].drop (j + 1))) else false) := by
              cases (ss.take a).all (apartS ss[a][j]) <;> cases chainS l.length ss[a][j].f2 (ss[a].drop (j + 1)) <;> simp
            rw [e] at this
            exact this
    · have hv0 : (decide (0 ≤ ss[a][j].f0) && decide (ss[a][j].f0 < (l.length : Int))) = false := by simpa using hv
      have hf : vldS l.length now ss[a][j] = false := by unfold vldS; rw [hv0]; simp
      simp only [hv0, Bool.false_eq_true, if_false, hf, Bool.false_and]; exact fls _ _ _ _ _
theorem sshared_l3 (l : List S79) (hl : l.length ≤ 8) (done : List Int) (hd : done.length = l.length) : ∀ (d i : Nat), i + d = l.length → Ev (fun k => spec_l7Shared.l3 k l done (i : Int)) (workS l done i d) := by
  intro d
  induction d with
  | zero =>
    intro i hi
    refine ev_succ ?_
    simp only [spec_l7Shared.l3, if_neg (show ¬ ((i : Int) < (l.length : Int)) by omega), workS]
    exact ev_now _
  | succ d ih =>
    intro i hi
    refine ev_succ ?_
    have nx := ih (i + 1) (by omega)
    simp only [spec_l7Shared.l3, if_pos (show ((i : Int) < (l.length : Int)) by omega), if_pos (show (0 : Int) ≤ (i : Int) by omega), if_pos (show ((i : Int) < (done.length : Int)) by omega), workS, w64 (x := (i : Int) + 1) (by omega) (by omega)]
    by_cases h : rd done (i : Int) = (rd_T79 l (i : Int)).f0
    · simp only [if_pos h, decide_eq_true h, Bool.true_and]; exact nx
    · simp only [if_neg h, decide_eq_false h, Bool.false_and]; exact ev_now _
theorem sshared_l0 (l : List S79) (hl : l.length ≤ 8) (ss : List (List S130)) (hs : ss.length ≤ 1048576) (hr : ∀ q ∈ ss, q.length ≤ 1048576) : ∀ (d a : Nat) (done : List Int), a + d = ss.length → done.length = l.length →
    Ev (fun k => spec_l7Shared.l0 k l ss done (a : Int)) (specS l.length ss (fun z => workS l z 0 l.length) a done d) := by
  intro d
  induction d with
  | zero =>
    intro a done ha hd
    refine ev_succ ?_
    simp only [spec_l7Shared.l0, if_neg (show ¬ ((a : Int) < (ss.length : Int)) by omega), specS]
    exact sshared_l3 l hl done hd l.length 0 (by omega)
  | succ d ih =>
    intro a done ha hd
    refine ev_succ ?_
    have hal : a < ss.length := by omega
    simp only [spec_l7Shared.l0, if_pos (show ((a : Int) < (ss.length : Int)) by omega), specS, rdISS ss a hal]
    have := sshared_l1 l hl ss hs hr a hal (fun z => specS l.length ss (fun z => workS l z 0 l.length) (a + 1) z d)
      (fun z hz => by
        have := ih (a + 1) z (by omega) hz
        rw [show ((a + 1 : Nat) : Int) = wrap64 ((a : Int) + 1) by rw [w64 (by omega) (by omega)]; omega] at this
        exact this) ss[a].length 0 0 done (by omega) hd
    rw [List.drop_zero] at this
    exact this
theorem core (l : List S79) (m : Int) (ss : List (List S130)) (hm : l.length ≤ 1048576) (_ : ∀ (i : Nat) (hi : i < l.length), I64 l[i].f0 ∧ I64 l[i].f1 ∧ I64 l[i].f2 ∧ I64 l[i].f3) (_ : I64 m) (hs : ss.length ≤ 1048576) (hr : ∀ q ∈ ss, q.length ≤ 1048576) :
    ∃ (r ok : Bool), True ∧ Ev (fun k => spec_IsShared.f k l m ss) (r, ok) ∧ Ev (fun k => impl_IsShared.f k l m ss) (r, ok) := by
  have h1 := l7Good_ev l m [] hm (by simp)
  have h2 := isParallel_ev l m [] hm
  unfold spec_IsShared.f impl_IsShared.f
  cases hp : par7 l m []
  · rw [hp] at h1 h2
    exact ⟨false, false, trivial, ev_bind h1 (by simp only [Bool.false_eq_true, if_false]; exact ev_now _), ev_bind h2 (by simp only [Bool.false_eq_true, if_false]; exact ev_now _)⟩
  rw [hp] at h1 h2
  have hl : l.length ≤ 8 := (par7_facts l m [] hp).2.2.1
  by_cases hc : (ss.length : Int) = m
  · refine ⟨runS l.length ss (fun z => workS l z 0 l.length) 0 (List.replicate l.length 0) ss.length && apF ss 0 ss.length, true, trivial, ev_bind h1 ?_, ev_bind h2 ?_⟩ <;> simp only [if_true, if_pos hc]
    · rw [← spec_run]
      unfold spec_l7Shared.f
      simp only [if_pos (show (0 : Int) ≤ (l.length : Int) by omega), Int.toNat_natCast, if_pos (show l.length ≤ 35184372088832 by omega)]
      exact ev_bind (sshared_l0 l hl ss hs hr ss.length 0 _ (by omega) (by simp)) (ev_now _)
    · rw [← run_and]
      unfold impl_isShared.f
      simp only [if_pos (show (0 : Int) ≤ (l.length : Int) by omega), Int.toNat_natCast, if_pos (show l.length ≤ 35184372088832 by omega)]
      exact ev_bind (shared_l0 l hl ss hs hr ss.length 0 _ (by omega) (by simp)) (ev_now _)
  · refine ⟨false, true, trivial, ev_bind h1 ?_, ev_bind h2 ?_⟩ <;> simp only [if_true, if_neg hc] <;> exact ev_now _

theorem FnExactIsShared : FnExactIsShared.Claim := by
  intro l0 a1 l2 hl0 hg0 hi1 hl2 hg2
  refine Ev.rounds ?_
  unfold laws_FnExactIsShared.f
  simp only [szJobS_eq l0 (1048576 : Int) (by omega) (by omega) hl0, Option.bind_some]
  by_cases h0 : (1048576 : Int) < l0.length
  · simp only [if_pos h0, if_pos (show (-1 : Int) < 0 by omega)]
    exact ev_now _
  simp only [if_neg h0, if_neg (show ¬ (((1048576 : Int) - l0.length) < 0) by omega)]
  obtain ⟨r, hr, hr2⟩ := szSpanSS_ev l2 ((1048576 : Int) - l0.length) (by omega) (by omega) hl2 (fun q hq => (hg2 q hq).1)
  refine ev_bind hr ?_
  rcases hr2 with hneg | ⟨hpos, hn2, hq2⟩
  · simp only [if_pos hneg]; exact ev_now _
  simp only [if_neg (show ¬ (r < 0) by omega)]
  have ht0 := toJobS_ev l0 (by omega)
  have hm0 : (l0.map conv).length ≤ 1048576 := by simp; omega
  have hq0 := eqJobS_ev (l0.map conv) (by omega)
  have ht2 := toSpanSS_ev l2 hn2 hq2
  have hm2 : (l2.map (List.map convS)).length ≤ 1048576 := by simp; omega
  have hr3 : ∀ q ∈ l2.map (List.map convS), q.length ≤ 1048576 := by
    intro q hq
    obtain ⟨z, hz, rfl⟩ := List.mem_map.1 hq
    simp only [List.length_map]
    exact hq2 z hz
  have hq3 := eqSpanSS_ev (l2.map (List.map convS)) hm2 hr3
  obtain ⟨r0, r1, _, hs, hi⟩ := core (l0.map conv) a1 (l2.map (List.map convS)) hm0 (conv_I64 l0 hg0) hi1 hm2 hr3
  repeat first
    | exact ev_now _
    | with_reducible refine ev_bind hs ?_
    | with_reducible refine ev_bind hi ?_
    | with_reducible refine ev_bind ht0 ?_
    | with_reducible refine ev_bind hq0 ?_
    | with_reducible refine ev_bind ht2 ?_
    | with_reducible refine ev_bind hq3 ?_
    | simp only [if_true, if_false, bne_self_eq_false, Bool.false_eq_true]
    | (refine ev_succ ?_; simp only [laws_FnExactIsShared.j0])

end Go.Proofs.Ytecdigebnhlfhaa.Pure
