/- The program's function and the reference's come to the same answer: the statement of numbers and lists behind the law FnExactStretchedJobs. Conditions: none. -/
import Derived.Test.YtafhfmggehaknaaArgFnExactStretchedJobs
import Derived.Test.YtafhfmggehaknaaBase
namespace Go.Proofs.Ytafhfmggehaknaa.Pure
open Go.RowKit Go.Proofs.Ytafhfmggehaknaa.PFnExactStretchedJobs Go.Proofs.Ytafhfmggehaknaa.Base Go.Proofs.YtafhfmggehaknaaW.PrintWords Go.Proofs.YtafhfmggehaknaaW.PrintLast Go.Proofs.YtafhfmggehaknaaW.PrintMore Go.Proofs.Ytafhfmggehaknaa.Open
set_option linter.unusedVariables false
set_option linter.unusedSimpArgs false

theorem szJobS_eq (xs : List S60) (left : Int) (h0 : 0 ≤ left) (h1 : left ≤ 1048576) (h : xs.length ≤ 9223372036854775807) : laws_szJobS.f xs left = some (if left < xs.length then -1 else left - xs.length) := by
  unfold laws_szJobS.f
  rw [w64 (by omega) (by omega)]
  by_cases c : left < xs.length
  · rw [if_pos (by omega), if_pos c]
  · rw [if_neg (by omega), if_neg c]

def conv (x : S60) : S58 := ⟨x.f0, x.f1, x.f2, x.f3⟩
theorem rdL (xs : List S60) (i : Nat) (h : i < xs.length) : rd_T60 xs (i : Int) = xs[i] := by
  unfold rd_T60
  rw [Int.toNat_natCast, List.getD_eq_getElem?_getD, List.getElem?_eq_getElem h]
  rfl

theorem toJobS_l (xs : List S60) (hn : xs.length ≤ 8796093022208) : ∀ (d i : Nat) (ys : List S58), i + d = xs.length → ys.length = xs.length → ys.take i = (xs.map conv).take i → Ev (fun k => laws_toJobS.l0 k xs ys (i : Int)) (xs.map conv) := by
  intro d
  induction d with
  | zero =>
    intro i ys hi hl ht
    refine ev_succ ?_
    simp only [laws_toJobS.l0, if_neg (show ¬ (i : Int) < (xs.length : Int) by omega)]
    have : ys = xs.map conv := by
      rw [List.take_of_length_le (by omega), List.take_of_length_le (by simp; omega)] at ht
      exact ht
    rw [this]
    exact ev_now _
  | succ d ih =>
    intro i ys hi hl ht
    refine ev_succ ?_
    have hx : i < xs.length := by omega
    simp only [laws_toJobS.l0, laws_toJob.f, Option.bind_some, if_pos (show (i : Int) < (xs.length : Int) by omega), if_pos (show (i : Int) < (ys.length : Int) by omega), if_pos (show (0 : Int) ≤ (i : Int) by omega), rdL xs i hx, wsucc i (by omega), Int.toNat_natCast]
    refine ih (i + 1) _ (by omega) (by rw [List.length_set]; exact hl) ?_
    rw [take_set_succ ys i _ (by omega), ht, List.take_succ_eq_append_getElem (by simp; omega)]
    simp [conv]
theorem toJobS_ev (xs : List S60) (hn : xs.length ≤ 1048576) : Ev (fun k => laws_toJobS.f k xs) (xs.map conv) := by
  unfold laws_toJobS.f
  simp only [if_pos (show (0 : Int) ≤ (xs.length : Int) by omega), Int.toNat_natCast, if_pos (show xs.length ≤ 8796093022208 by omega)]
  exact toJobS_l xs (by omega) xs.length 0 _ (by omega) (by simp) (by simp)

theorem rdI (xs : List S58) (i : Nat) (h : i < xs.length) : rd_T58 xs (i : Int) = xs[i] := by
  unfold rd_T58
  rw [Int.toNat_natCast, List.getD_eq_getElem?_getD, List.getElem?_eq_getElem h]
  rfl

theorem eqJobS_l (xs : List S58) (hn : xs.length ≤ 4611686018427387904) : ∀ (d i : Nat), i + d = xs.length → Ev (fun k => laws_eqJobS.l0 k xs xs (i : Int)) true := by
  intro d
  induction d with
  | zero =>
    intro i hi
    refine ev_succ ?_
    simp only [laws_eqJobS.l0, if_neg (show ¬ (i : Int) < (xs.length : Int) by omega)]
    exact ev_now _
  | succ d ih =>
    intro i hi
    refine ev_succ ?_
    simp only [laws_eqJobS.l0, laws_eqJob.f, if_true, Option.bind_some, if_pos (show (i : Int) < (xs.length : Int) by omega), if_pos (show (0 : Int) ≤ (i : Int) by omega), wsucc i (by omega)]
    exact ih (i + 1) (by omega)
theorem eqJobS_ev (xs : List S58) (hn : xs.length ≤ 4611686018427387904) : Ev (fun k => laws_eqJobS.f k xs xs) true := by
  unfold laws_eqJobS.f
  simp only [if_true]
  exact eqJobS_l xs hn xs.length 0 (by omega)

theorem conv_I64 (l : List S60) (hg : ∀ x ∈ l, G60 x) (i : Nat) (hi : i < (l.map conv).length) : I64 (l.map conv)[i].f0 ∧ I64 (l.map conv)[i].f1 ∧ I64 (l.map conv)[i].f2 ∧ I64 (l.map conv)[i].f3 := by
  simp only [List.getElem_map, conv]
  exact hg _ (List.getElem_mem _)

/-- A job's numbers are in their bounds. -/
def okJ (x : S58) : Bool := decide (1 ≤ x.f0) && (decide (x.f0 ≤ 50) && (decide (0 ≤ x.f1) && (decide (x.f1 ≤ 50) && (decide (0 ≤ x.f2) && (decide (x.f2 ≤ 500) && (decide (0 ≤ x.f3) && decide (x.f3 ≤ 500)))))))
def goodB (l : List S58) : Bool := decide (l.length ≤ 8) && l.all okJ
theorem within_eq (a b c : Int) : impl_within.f a b c = some (decide (b ≤ a) && decide (a ≤ c)) := by
  unfold impl_within.f
  by_cases h : b ≤ a
  · rw [if_pos h]; simp [h]
  · rw [if_neg h]; simp [h]
theorem isDate_eq (a : Int) : impl_isDate.f a = some (decide (0 ≤ a) && decide (a ≤ 500)) := by
  unfold impl_isDate.f
  rw [within_eq]
  rfl
theorem job_chain (x : S58) (o : Option Bool) : (if (decide (1 ≤ x.f0) && decide (x.f0 ≤ 50)) = true then (if (decide (0 ≤ x.f1) && decide (x.f1 ≤ 50)) = true then (if (decide (0 ≤ x.f2) && decide (x.f2 ≤ 500)) = true then (if (decide (0 ≤ x.f3) && decide (x.f3 ≤ 500)) = true then o else some false) else some false) else some false) else some false) = if okJ x = true then o else some false := by
  unfold okJ
  by_cases a1 : 1 ≤ x.f0 <;> by_cases a2 : x.f0 ≤ 50 <;> simp [a1, a2]
  by_cases b1 : 0 ≤ x.f1 <;> by_cases b2 : x.f1 ≤ 50 <;> simp [b1, b2]
  by_cases c1 : 0 ≤ x.f2 <;> by_cases c2 : x.f2 ≤ 500 <;> simp [c1, c2]
theorem IsJobs_l (xs : List S58) (hn : xs.length ≤ 4611686018427387904) : ∀ (d i : Nat), i + d = xs.length → Ev (fun k => impl_IsJobs.l0 k xs (xs.length : Int) (i : Int)) ((xs.drop i).all okJ) := by
  intro d
  induction d with
  | zero =>
    intro i hi
    refine ev_succ ?_
    simp only [impl_IsJobs.l0, if_neg (show ¬ (i : Int) < (xs.length : Int) by omega), List.drop_of_length_le (show xs.length ≤ i by omega)]
    exact ev_now _
  | succ d ih =>
    intro i hi
    refine ev_succ ?_
    have hx : i < xs.length := by omega
    have hih := ih (i + 1) (by omega)
    rw [List.drop_eq_getElem_cons hx, List.all_cons]
    simp only [impl_IsJobs.l0, within_eq, isDate_eq, Option.bind_some, if_pos (show (i : Int) < (xs.length : Int) by omega), if_pos (show (0 : Int) ≤ (i : Int) by omega), wsucc i (by omega), rdI xs i hx]
    generalize xs[i] = x at *
    simp only [job_chain]
    by_cases c : okJ x = true
    · simpa only [c, if_true, Bool.true_and] using hih
    · have c' : okJ x = false := by simpa using c
      simp only [c', Bool.false_and]
      exact ev_now _
theorem IsJobs_ev (xs : List S58) (hn : xs.length ≤ 4611686018427387904) : Ev (fun k => impl_IsJobs.f k xs) (goodB xs) := by
  unfold impl_IsJobs.f goodB
  by_cases h : xs.length ≤ 8
  · simp only [if_neg (show ¬ ((xs.length : Int) > 8) by omega), decide_eq_true h, Bool.true_and]
    exact IsJobs_l xs hn xs.length 0 (by omega)
  · simp only [if_pos (show ((xs.length : Int) > 8) by omega), decide_eq_false h, Bool.false_and]
    exact ev_now _

theorem l1In_eq (a b c : Int) : spec_l1In.f a b c = some (decide (b ≤ a) && decide (a ≤ c)) := by
  unfold spec_l1In.f
  by_cases h : b ≤ a
  · rw [if_pos h]; simp [h]
  · rw [if_neg h]; simp [h]
theorem l2Job_eq (x : S58) : spec_l2Job.f x.f0 x.f1 x.f2 x.f3 = some (okJ x) := by
  unfold spec_l2Job.f okJ
  simp only [l1In_eq, Option.bind_some]
  by_cases a1 : 1 ≤ x.f0 <;> by_cases a2 : x.f0 ≤ 50 <;> simp [a1, a2]
  by_cases b1 : 0 ≤ x.f1 <;> by_cases b2 : x.f1 ≤ 50 <;> simp [b1, b2]
  by_cases c1 : 0 ≤ x.f2 <;> by_cases c2 : x.f2 ≤ 500 <;> simp [c1, c2]
theorem l2Good_l (xs : List S58) (hn : xs.length ≤ 4611686018427387904) : ∀ (d i : Nat), i + d = xs.length → Ev (fun k => spec_l2Good.l0 k xs (i : Int)) ((xs.drop i).all okJ && decide (xs.length ≤ 8)) := by
  intro d
  induction d with
  | zero =>
    intro i hi
    refine ev_succ ?_
    simp only [spec_l2Good.l0, if_neg (show ¬ (i : Int) < (xs.length : Int) by omega), List.drop_of_length_le (show xs.length ≤ i by omega)]
    refine ev_const ?_
    simp
    omega
  | succ d ih =>
    intro i hi
    refine ev_succ ?_
    have hx : i < xs.length := by omega
    have hih := ih (i + 1) (by omega)
    rw [List.drop_eq_getElem_cons hx, List.all_cons]
    simp only [spec_l2Good.l0, if_pos (show (i : Int) < (xs.length : Int) by omega), if_pos (show (0 : Int) ≤ (i : Int) by omega), wsucc i (by omega), rdI xs i hx, l2Job_eq, Option.bind_some]
    by_cases c : okJ xs[i] = true
    · simpa only [c, if_true, Bool.true_and] using hih
    · have c' : okJ xs[i] = false := by simpa using c
      simp only [c', Bool.false_and]
      exact ev_now _
theorem l2Good_ev (xs : List S58) (hn : xs.length ≤ 4611686018427387904) : Ev (fun k => spec_l2Good.f k xs) (goodB xs) := by
  unfold spec_l2Good.f goodB
  rw [Bool.and_comm]
  exact l2Good_l xs hn xs.length 0 (by omega)

theorem build_l (xs : List S58) (a : Int) (hn : xs.length ≤ 1048576) : ∀ (d i : Nat) (acc : List S58), i + d = xs.length → acc.length = i →
    ∃ out : List S58, out.length ≤ 1048576 ∧ Ev (fun k => spec_StretchedJobs.l0 k xs a acc (i : Int)) (if goodB out = true then (out, true) else ([], false)) ∧ Ev (fun k => impl_StretchedJobs.l0 k a acc xs (xs.length : Int) (i : Int)) (if goodB out = true then (out, true) else ([], false)) := by
  intro d
  induction d with
  | zero =>
    intro i acc hi ha
    refine ⟨acc, by omega, ev_succ ?_, ev_succ ?_⟩
    · simp only [spec_StretchedJobs.l0, if_neg (show ¬ (i : Int) < (xs.length : Int) by omega)]
      refine ev_bind (l2Good_ev acc (by omega)) ?_
      cases goodB acc
      · simp only [Bool.false_eq_true, if_false]; exact ev_now _
      · simp only [if_true]; exact ev_now _
    · simp only [impl_StretchedJobs.l0, if_neg (show ¬ (i : Int) < (xs.length : Int) by omega)]
      refine ev_bind (IsJobs_ev acc (by omega)) ?_
      cases goodB acc
      · simp only [Bool.false_eq_true, if_false]; exact ev_now _
      · simp only [if_true]; exact ev_now _
  | succ d ih =>
    intro i acc hi ha
    have hx : i < xs.length := by omega
    obtain ⟨out, ho, h1, h2⟩ := ih (i + 1) (acc ++ [⟨wrap64 (xs[i].f0 * a), xs[i].f1, wrap64 (xs[i].f2 * a), wrap64 (xs[i].f3 * a)⟩]) (by omega) (by simp [ha])
    refine ⟨out, ho, ev_succ ?_, ev_succ ?_⟩
    · simp only [spec_StretchedJobs.l0, if_pos (show (i : Int) < (xs.length : Int) by omega), if_pos (show (0 : Int) ≤ (i : Int) by omega), if_pos (show acc.length < 4398046511104 by omega), rdI xs i hx, wsucc i (by omega)]
      exact h1
    · simp only [impl_StretchedJobs.l0, if_pos (show (i : Int) < (xs.length : Int) by omega), if_pos (show (0 : Int) ≤ (i : Int) by omega), if_pos (show acc.length < 4398046511104 by omega), rdI xs i hx, wsucc i (by omega), Int.mul_comm a]
      exact h2
theorem core (l : List S58) (a : Int) (hm : l.length ≤ 1048576) (_ : ∀ (i : Nat) (hi : i < l.length), I64 l[i].f0 ∧ I64 l[i].f1 ∧ I64 l[i].f2 ∧ I64 l[i].f3) (_ : I64 a) :
    ∃ (r : List S58) (ok : Bool), r.length ≤ 1048576 ∧ Ev (fun k => spec_StretchedJobs.f k l a) (r, ok) ∧ Ev (fun k => impl_StretchedJobs.f k l a) (r, ok) := by
  have h1 := l2Good_ev l (by omega)
  have h2 := IsJobs_ev l (by omega)
  obtain ⟨out, ho, e1, e2⟩ := build_l l a hm l.length 0 [] (by omega) rfl
  unfold spec_StretchedJobs.f impl_StretchedJobs.f
  simp only [Option.bind_some, l1In_eq, within_eq]
  have no1 : ∀ acc, Ev (fun k => spec_StretchedJobs.j0 k l a acc true) (acc, false) := fun acc => ev_succ (by simp only [spec_StretchedJobs.j0, if_true]; exact ev_now _)
  have no2 : Ev (fun k => impl_StretchedJobs.j0 k l a true) ([], false) := ev_succ (by simp only [impl_StretchedJobs.j0, if_true]; exact ev_now _)
  cases hp : goodB l
  · rw [hp] at h1 h2
    exact ⟨[], false, by simp, ev_bind h1 (by simp only [Bool.false_eq_true, if_false]; exact no1 _), ev_bind h2 (by simp only [Bool.false_eq_true, if_false]; exact no2)⟩
  rw [hp] at h1 h2
  cases hb : (decide (1 ≤ a) && decide (a ≤ 10))
  · exact ⟨[], false, by simp, ev_bind h1 (by simp only [if_true, Bool.not_false]; exact no1 _), ev_bind h2 (by simp only [if_true, Bool.not_false]; exact no2)⟩
  · have y1 : Ev (fun k => spec_StretchedJobs.j0 k l a [] false) (if goodB out = true then (out, true) else ([], false)) := ev_succ (by simp only [spec_StretchedJobs.j0, Bool.false_eq_true, if_false]; exact e1)
    have y2 : Ev (fun k => impl_StretchedJobs.j0 k l a false) (if goodB out = true then (out, true) else ([], false)) := ev_succ (by simp only [impl_StretchedJobs.j0, Bool.false_eq_true, if_false]; exact e2)
    cases hq : goodB out
    · rw [hq] at y1 y2
      simp only [Bool.false_eq_true, if_false] at y1 y2
      exact ⟨[], false, by simp, ev_bind h1 (by simp only [if_true, Bool.not_true]; exact y1), ev_bind h2 (by simp only [if_true, Bool.not_true]; exact y2)⟩
    · rw [hq] at y1 y2
      simp only [if_true] at y1 y2
      exact ⟨out, true, ho, ev_bind h1 (by simp only [if_true, Bool.not_true]; exact y1), ev_bind h2 (by simp only [if_true, Bool.not_true]; exact y2)⟩

theorem rdI_set (xs : List S58) (i : Nat) (h : i < xs.length) (v : S58) : rd_T58 (xs.set i v) (i : Int) = v := by
  rw [rdI _ i (by rw [List.length_set]; exact h)]
  simp
theorem markJobS_l : ∀ (d i m : Nat) (xs : List S58), i + d = xs.length → m + 4 * d ≤ 1152921504606846976 → xs.length ≤ 1152921504606846976 →
    ∃ (q : Nat) (ys : List S58), Ev (fun k => laws_markJobS.l0 k xs (m : Int) (i : Int)) ((q : Int), ys) ∧ ys.length = xs.length ∧ ys.take i = xs.take i ∧ m ≤ q ∧ Ev (fun k => laws_heldJobS.l0 k ys (m : Int) (i : Int)) (q : Int) := by
  intro d
  induction d with
  | zero =>
    intro i m xs hi hmd hxl
    refine ⟨m, xs, ev_succ ?_, rfl, rfl, Nat.le_refl _, ev_succ ?_⟩
    · simp only [laws_markJobS.l0, if_neg (show ¬ (i : Int) < (xs.length : Int) by omega)]
      exact ev_now _
    · simp only [laws_heldJobS.l0, if_neg (show ¬ (i : Int) < (xs.length : Int) by omega)]
      exact ev_now _
  | succ d ih =>
    intro i m xs hi hmd hxl
    obtain ⟨q, ys, h1, h2, h3, h4, h5⟩ := ih (i + 1) (m + 4) (xs.set i ⟨(m : Int), ((m + 1 : Nat) : Int), ((m + 2 : Nat) : Int), ((m + 3 : Nat) : Int)⟩) (by rw [List.length_set]; omega) (by omega) (by rw [List.length_set]; omega)
    rw [List.length_set] at h2
    rw [take_set_succ xs i _ (by omega)] at h3
    have hy : ys[i]'(by omega) = ⟨(m : Int), ((m + 1 : Nat) : Int), ((m + 2 : Nat) : Int), ((m + 3 : Nat) : Int)⟩ := by
      have := congrArg (fun l => l[i]?) h3
      simp only [List.getElem?_take, if_pos (show i < i + 1 by omega)] at this
      rw [List.getElem?_append_right (by simp; omega), List.getElem?_eq_getElem (by omega)] at this
      simpa [Nat.min_eq_left (show i ≤ xs.length by omega)] using this
    refine ⟨q, ys, ev_succ ?_, h2, ?_, by omega, ev_succ ?_⟩
    · simp only [laws_markJobS.l0, Option.bind_some, if_pos (show (i : Int) < (xs.length : Int) by omega), if_pos (show (0 : Int) ≤ (i : Int) by omega), wsucc i (by omega), wsucc m (by omega), wsucc (m + 1) (by omega), wsucc (m + 2) (by omega), wsucc (m + 3) (by omega), Int.toNat_natCast, rdI_set xs i (by omega), List.set_set]
      exact h1
    · have := congrArg (fun l => l.take i) h3
      simp only [List.take_take, Nat.min_eq_left (show i ≤ i + 1 by omega)] at this
      rw [this, List.take_append_of_le_length (by simp; omega), List.take_take, Nat.min_self]
    · simp only [laws_heldJobS.l0, if_pos (show (i : Int) < (ys.length : Int) by omega), if_pos (show (0 : Int) ≤ (i : Int) by omega), wsucc i (by omega), wsucc m (by omega), wsucc (m + 1) (by omega), wsucc (m + 2) (by omega), wsucc (m + 3) (by omega), rdI ys i (by omega), hy, if_true]
      exact h5
theorem markJobS_ev (xs : List S58) (h : xs.length ≤ 1048576) : ∃ (q : Nat) (ys : List S58), 1 ≤ q ∧ Ev (fun k => laws_markJobS.f k xs 1) ((q : Int), ys) ∧ Ev (fun k => laws_heldJobS.f k ys 1) (q : Int) := by
  obtain ⟨q, ys, h1, h2, h3, h4, h5⟩ := markJobS_l xs.length 0 1 xs (by omega) (by omega) (by omega)
  exact ⟨q, ys, h4, h1, h5⟩

theorem FnExactStretchedJobs : FnExactStretchedJobs.Claim := by
  intro l0 a1 hl0 hg0 hi1
  refine Ev.rounds ?_
  unfold laws_FnExactStretchedJobs.f
  simp only [szJobS_eq l0 1048576 (by omega) (by omega) hl0, Option.bind_some]
  by_cases h : (1048576 : Int) < l0.length
  · simp only [if_pos h, if_pos (show (-1 : Int) < 0 by omega)]
    exact ev_now _
  · simp only [if_neg h, if_neg (show ¬ ((1048576 : Int) - l0.length < 0) by omega)]
    have ht := toJobS_ev l0 (by omega)
    have hm : (l0.map conv).length ≤ 1048576 := by simp; omega
    have hq := eqJobS_ev (l0.map conv) (by omega)
    obtain ⟨r0, r1, hr0, hs, hi⟩ := core (l0.map conv) a1 hm (conv_I64 l0 hg0) hi1
    obtain ⟨qa, la, qa1, ma, _⟩ := markJobS_ev (l0.map conv) hm
    have he0 := eqJobS_ev r0 (by omega)
    obtain ⟨q0, y0, hq0, m0, e0⟩ := markJobS_ev r0 hr0
    repeat first
      | exact ev_now _
      | with_reducible refine ev_bind hs ?_
      | with_reducible refine ev_bind hi ?_
      | with_reducible refine ev_bind ht ?_
      | with_reducible refine ev_bind hq ?_
      | with_reducible refine ev_bind ma ?_
      | with_reducible refine ev_bind he0 ?_
      | with_reducible refine ev_bind m0 ?_
      | with_reducible refine ev_bind e0 ?_
      | simp only [if_true, if_false, bne_self_eq_false, Bool.false_eq_true, if_neg (show ¬ ((qa : Int) < 0) by omega), if_neg (show ¬ ((q0 : Int) < 0) by omega)]
      | (refine ev_succ ?_; simp only [laws_FnExactStretchedJobs.j0])
      | (refine ev_succ ?_; simp only [laws_FnExactStretchedJobs.j1])
      | (refine ev_succ ?_; simp only [laws_FnExactStretchedJobs.j2])

end Go.Proofs.Ytafhfmggehaknaa.Pure
