/- The program's function and the reference's come to the same answer: the statement of numbers and lists behind the law FnExactSplitString. Conditions: none. -/
import Derived.Test.YtliongdcpemeiaaPFnExactSplitStringx2
import Derived.Test.YtliongdcpemeiaaBase
namespace Go.Proofs.Ytliongdcpemeiaa.Pure
open Go.RowKit Go.Proofs.Ytliongdcpemeiaa.PFnExactSplitString Go.Proofs.Ytliongdcpemeiaa.Base Go.Proofs.YtliongdcpemeiaaW.PrintWords Go.Proofs.YtliongdcpemeiaaW.PrintLast Go.Proofs.YtliongdcpemeiaaW.PrintMore
set_option linter.unusedVariables false
set_option linter.unusedSimpArgs false

/-- A string cut at a byte: the first part, and the others. -/
def splitL (b : UInt8) : List UInt8 → List UInt8 × List (List UInt8)
  | [] => ([], [])
  | c :: t => if c = b then ([], (splitL b t).1 :: (splitL b t).2) else (c :: (splitL b t).1, (splitL b t).2)
def mkS (l : List UInt8) : ByteArray := ⟨l.toArray⟩
theorem mkS_L (s : ByteArray) : mkS (L s) = s := rfl
theorem L_mkS (l : List UInt8) : L (mkS l) = l := rfl
theorem extract_mkS (s : ByteArray) (a b : Nat) : s.extract a b = mkS (((L s).drop a).take (b - a)) := by
  apply L_inj
  rw [L_mkS]
  exact Go.Lib.extract_data s a b
theorem byte_eq (c b : UInt8) : ((c.toNat : Int) = (b.toNat : Int)) ↔ c = b := by
  constructor
  · intro h
    exact UInt8.toNat_inj.1 (by omega)
  · intro h; rw [h]
/-- All parts, where a part has begun. -/
def partsS (b : UInt8) (pre l : List UInt8) : List ByteArray := mkS (pre ++ (splitL b l).1) :: (splitL b l).2.map mkS
theorem parts_hit (b : UInt8) (pre : List UInt8) (l : List UInt8) : partsS b pre (b :: l) = mkS pre :: partsS b [] l := by
  simp [partsS, splitL]
theorem parts_miss (b : UInt8) (pre : List UInt8) (c : UInt8) (l : List UInt8) (h : c ≠ b) : partsS b pre (c :: l) = partsS b (pre ++ [c]) l := by
  simp [partsS, splitL, h]
theorem parts_end (b : UInt8) (pre : List UInt8) : partsS b pre [] = [mkS pre] := by
  simp [partsS, splitL]

theorem l1Split_l (s : ByteArray) (b : UInt8) (hn : s.size ≤ 4398046511104) : ∀ (d i fr : Nat) (acc : List ByteArray), i + d = s.size → fr ≤ i → acc.length ≤ i → Ev (fun k => spec_l1Split.l0 k s (b.toNat : Int) acc (fr : Int) (i : Int)) (acc ++ partsS b (((L s).drop fr).take (i - fr)) ((L s).drop i)) := by
  have hL := L_size s
  intro d
  induction d with
  | zero =>
    intro i fr acc hi hf ha
    refine ev_succ ?_
    simp only [spec_l1Split.l0, if_neg (show ¬ (i : Int) < (s.size : Int) by omega), if_pos (show (0 : Int) ≤ (fr : Int) by omega), if_pos (show (fr : Int) ≤ (s.size : Int) by omega), if_pos (show acc.length < 8796093022208 by omega), Int.toNat_natCast, List.drop_of_length_le (show (L s).length ≤ i by omega), parts_end, extract_mkS]
    rw [show s.size - fr = i - fr by omega]
    exact ev_now _
  | succ d ih =>
    intro i fr acc hi hf ha
    refine ev_succ ?_
    have hx : i < (L s).length := by omega
    simp only [spec_l1Split.l0, if_pos (show (i : Int) < (s.size : Int) by omega), if_pos (show (0 : Int) ≤ (i : Int) by omega), if_pos (show (0 : Int) ≤ (fr : Int) by omega), if_pos (show (fr : Int) ≤ (i : Int) by omega), if_pos (show (i : Int) ≤ (s.size : Int) by omega), if_pos (show acc.length < 8796093022208 by omega), Int.toNat_natCast, wsucc i (by omega), bt_L s i hx, extract_mkS]
    rw [List.drop_eq_getElem_cons hx]
    by_cases c : (L s)[i] = b
    · have c' : (((L s)[i]).toNat : Int) = (b.toNat : Int) := (byte_eq _ _).2 c
      simp only [if_pos c']
      rw [c, parts_hit]
      have := ih (i + 1) (i + 1) (acc ++ [mkS (((L s).drop fr).take (i - fr))]) (by omega) (by omega) (by simp; omega)
      rw [show i + 1 - (i + 1) = 0 by omega, List.take_zero, List.append_assoc, List.singleton_append] at this
      exact this
    · have c' : ¬ (((L s)[i]).toNat : Int) = (b.toNat : Int) := fun h => c ((byte_eq _ _).1 h)
      simp only [if_neg c']
      rw [parts_miss _ _ _ _ c]
      have := ih (i + 1) fr acc (by omega) (by omega) (by omega)
      have ht : ((L s).drop fr).take (i + 1 - fr) = ((L s).drop fr).take (i - fr) ++ [(L s)[i]] := by
        rw [show i + 1 - fr = (i - fr) + 1 by omega, List.take_succ_eq_append_getElem (by rw [List.length_drop]; omega)]
        congr 2
        rw [List.getElem_drop]
        congr 1
        omega
      rw [ht] at this
      exact this
theorem l1Split_ev (s : ByteArray) (b : UInt8) (hn : s.size ≤ 4398046511104) : Ev (fun k => spec_l1Split.f k s (b.toNat : Int)) (partsS b [] (L s)) := by
  have := l1Split_l s b hn s.size 0 0 [] (by omega) (by omega) (by simp)
  unfold spec_l1Split.f
  simpa using this

theorem implSplit_l (s : ByteArray) (b : UInt8) (hn : s.size ≤ 4398046511104) : ∀ (d i fr : Nat) (acc : List ByteArray), i + d = s.size → fr ≤ i → acc.length ≤ i → Ev (fun k => impl_split.l0 k s (b.toNat : Int) acc (fr : Int) (i : Int)) (acc ++ partsS b (((L s).drop fr).take (i - fr)) ((L s).drop i)) := by
  have hL := L_size s
  intro d
  induction d with
  | zero =>
    intro i fr acc hi hf ha
    refine ev_succ ?_
    simp only [impl_split.l0, if_neg (show ¬ (i : Int) < (s.size : Int) by omega), if_pos (show (0 : Int) ≤ (fr : Int) by omega), if_pos (show (fr : Int) ≤ (s.size : Int) by omega), if_pos (show acc.length < 8796093022208 by omega), Int.toNat_natCast, List.drop_of_length_le (show (L s).length ≤ i by omega), parts_end, extract_mkS]
    rw [show s.size - fr = i - fr by omega]
    exact ev_now _
  | succ d ih =>
    intro i fr acc hi hf ha
    refine ev_succ ?_
    have hx : i < (L s).length := by omega
    simp only [impl_split.l0, if_pos (show (i : Int) < (s.size : Int) by omega), if_pos (show (0 : Int) ≤ (i : Int) by omega), if_pos (show (0 : Int) ≤ (fr : Int) by omega), if_pos (show (fr : Int) ≤ (i : Int) by omega), if_pos (show (i : Int) ≤ (s.size : Int) by omega), if_pos (show acc.length < 8796093022208 by omega), Int.toNat_natCast, wsucc i (by omega), bt_L s i hx, extract_mkS]
    rw [List.drop_eq_getElem_cons hx]
    by_cases c : (L s)[i] = b
    · have c' : (((L s)[i]).toNat : Int) = (b.toNat : Int) := (byte_eq _ _).2 c
      simp only [if_pos c']
      rw [c, parts_hit]
      have := ih (i + 1) (i + 1) (acc ++ [mkS (((L s).drop fr).take (i - fr))]) (by omega) (by omega) (by simp; omega)
      rw [show i + 1 - (i + 1) = 0 by omega, List.take_zero, List.append_assoc, List.singleton_append] at this
      exact this
    · have c' : ¬ (((L s)[i]).toNat : Int) = (b.toNat : Int) := fun h => c ((byte_eq _ _).1 h)
      simp only [if_neg c']
      rw [parts_miss _ _ _ _ c]
      have := ih (i + 1) fr acc (by omega) (by omega) (by omega)
      have ht : ((L s).drop fr).take (i + 1 - fr) = ((L s).drop fr).take (i - fr) ++ [(L s)[i]] := by
        rw [show i + 1 - fr = (i - fr) + 1 by omega, List.take_succ_eq_append_getElem (by rw [List.length_drop]; omega)]
        congr 2
        rw [List.getElem_drop]
        congr 1
        omega
      rw [ht] at this
      exact this
theorem implSplit_ev (s : ByteArray) (b : UInt8) (hn : s.size ≤ 4398046511104) : Ev (fun k => impl_split.f k s (b.toNat : Int)) (partsS b [] (L s)) := by
  have := implSplit_l s b hn s.size 0 0 [] (by omega) (by omega) (by simp)
  unfold impl_split.f
  simpa using this

theorem eqStringS_l (xs : List ByteArray) (hn : xs.length ≤ 4611686018427387904) : ∀ (d i : Nat), i + d = xs.length → Ev (fun k => laws_eqStringS.l0 k xs xs (i : Int)) true := by
  intro d
  induction d with
  | zero =>
    intro i hi
    refine ev_succ ?_
    simp only [laws_eqStringS.l0, if_neg (show ¬ (i : Int) < (xs.length : Int) by omega)]
    exact ev_now _
  | succ d ih =>
    intro i hi
    refine ev_succ ?_
    simp only [laws_eqStringS.l0, if_true, if_pos (show (i : Int) < (xs.length : Int) by omega), if_pos (show (0 : Int) ≤ (i : Int) by omega), wsucc i (by omega)]
    exact ih (i + 1) (by omega)
theorem eqStringS_ev (xs : List ByteArray) (hn : xs.length ≤ 4611686018427387904) : Ev (fun k => laws_eqStringS.f k xs xs) true := by
  unfold laws_eqStringS.f
  simp only [if_true]
  exact eqStringS_l xs hn xs.length 0 (by omega)

theorem one_size (x : Int) : (strOfNums [x]).size = 1 := rfl
theorem markText_l : ∀ (n : Nat) (acc : ByteArray), acc.size + n ≤ 4611686018427387904 → ∃ t, Ev (fun k => laws_markText.l0 k (n : Int) acc) t := by
  intro n
  induction n using Nat.strongRecOn with
  | ind n ih =>
    intro acc ha
    by_cases h : n = 0
    · subst h
      refine ⟨(⟨#[109]⟩ : ByteArray) ++ acc, ev_succ ?_⟩
      simp only [laws_markText.l0, if_neg (show ¬ (((0 : Nat) : Int) > 0) by omega), if_pos (show 1 + acc.size ≤ 9223372036854775807 by omega)]
      exact ev_now _
    · obtain ⟨t, ht⟩ := ih (n / 10) (by omega) (strOfNums [(wrap64 (48 + Int.tmod (n : Int) 10)) % 256] ++ acc) (by rw [ByteArray.size_append, one_size]; omega)
      refine ⟨t, ev_succ ?_⟩
      simp only [laws_markText.l0, if_pos (show ((n : Int) > 0) by omega), Option.bind_some, if_pos (show (strOfNums [(wrap64 (48 + Int.tmod (n : Int) 10)) % 256]).size + acc.size ≤ 9223372036854775807 by rw [one_size]; omega)]
      rw [show wrap64 (Int.tdiv (n : Int) 10) = ((n / 10 : Nat) : Int) by rw [Int.tdiv_eq_ediv_of_nonneg (by omega)]; rw [w64 (by omega) (by omega)]; omega]
      exact ht
theorem markText_ev (m : Nat) (h0 : 1 ≤ m) (h : m ≤ 2305843009213693952) : ∃ t, Ev (fun k => laws_markText.f k (m : Int)) t := by
  unfold laws_markText.f
  simp only [if_neg (show ¬ (m : Int) ≤ 0 by omega)]
  exact markText_l m _ (by simp [ByteArray.size]; omega)

theorem rdS (xs : List ByteArray) (i : Nat) (h : i < xs.length) : rdOf ByteArray.empty xs (i : Int) = xs[i] := by
  unfold rdOf
  rw [Int.toNat_natCast, List.getD_eq_getElem?_getD, List.getElem?_eq_getElem h]
  rfl
theorem markStringS_l : ∀ (d i m : Nat) (xs : List ByteArray), i + d = xs.length → 1 ≤ m → m + d ≤ 1152921504606846976 → xs.length ≤ 1152921504606846976 →
    ∃ (q : Nat) (ys : List ByteArray), Ev (fun k => laws_markStringS.l0 k xs (m : Int) (i : Int)) ((q : Int), ys) ∧ ys.length = xs.length ∧ ys.take i = xs.take i ∧ m ≤ q ∧ Ev (fun k => laws_heldStringS.l0 k ys (m : Int) (i : Int)) (q : Int) := by
  intro d
  induction d with
  | zero =>
    intro i m xs hi hm hmd hxl
    refine ⟨m, xs, ev_succ ?_, rfl, rfl, Nat.le_refl _, ev_succ ?_⟩
    · simp only [laws_markStringS.l0, if_neg (show ¬ (i : Int) < (xs.length : Int) by omega)]
      exact ev_now _
    · simp only [laws_heldStringS.l0, if_neg (show ¬ (i : Int) < (xs.length : Int) by omega)]
      exact ev_now _
  | succ d ih =>
    intro i m xs hi hm hmd hxl
    obtain ⟨t, ht⟩ := markText_ev m hm (by omega)
    obtain ⟨q, ys, h1, h2, h3, h4, h5⟩ := ih (i + 1) (m + 1) (xs.set i t) (by rw [List.length_set]; omega) (by omega) (by omega) (by rw [List.length_set]; omega)
    rw [List.length_set] at h2
    rw [take_set_succ xs i t (by omega)] at h3
    have hy : ys[i]'(by omega) = t := by
      have := congrArg (fun l => l[i]?) h3
      simp only [List.getElem?_take, if_pos (show i < i + 1 by omega)] at this
      rw [List.getElem?_append_right (by simp; omega), List.getElem?_eq_getElem (by omega)] at this
      simpa [Nat.min_eq_left (show i ≤ xs.length by omega)] using this
    refine ⟨q, ys, ev_succ ?_, h2, ?_, by omega, ev_succ ?_⟩
    · simp only [laws_markStringS.l0, if_pos (show (i : Int) < (xs.length : Int) by omega), if_pos (show (0 : Int) ≤ (i : Int) by omega), wsucc i (by omega), wsucc m (by omega), Int.toNat_natCast]
      exact ev_bind ht h1
    · have := congrArg (fun l => l.take i) h3
      simp only [List.take_take, Nat.min_eq_left (show i ≤ i + 1 by omega)] at this
      rw [this, List.take_append_of_le_length (by simp; omega), List.take_take, Nat.min_self]
    · simp only [laws_heldStringS.l0, if_pos (show (i : Int) < (ys.length : Int) by omega), if_pos (show (0 : Int) ≤ (i : Int) by omega), wsucc i (by omega), wsucc m (by omega), rdS ys i (by omega), hy]
      refine ev_bind ht ?_
      simp only [if_true]
      exact h5
theorem markStringS_ev (xs : List ByteArray) (h : xs.length ≤ 1048576) : ∃ (q : Nat) (ys : List ByteArray), 1 ≤ q ∧ Ev (fun k => laws_markStringS.f k xs 1) ((q : Int), ys) ∧ Ev (fun k => laws_heldStringS.f k ys 1) (q : Int) := by
  obtain ⟨q, ys, h1, h2, h3, h4, h5⟩ := markStringS_l xs.length 0 1 xs (by omega) (by omega) (by omega) (by omega)
  exact ⟨q, ys, h4, h1, h5⟩

theorem parts_length (b : UInt8) : ∀ (l pre : List UInt8), (partsS b pre l).length ≤ l.length + 1 := by
  intro l
  induction l with
  | nil => intro pre; simp [parts_end]
  | cons c t ih =>
    intro pre
    by_cases h : c = b
    · subst h
      rw [parts_hit]
      have := ih []
      simp only [List.length_cons]
      omega
    · rw [parts_miss _ _ _ _ h]
      have := ih (pre ++ [c])
      simp only [List.length_cons]
      omega
theorem FnExactSplitString : laws_FnExactSplitString.Pure := by
  intro s sep hs hsep
  refine Ev.rounds ?_
  unfold laws_FnExactSplitString.f
  by_cases h : (s.size : Int) > 1048576
  · simp only [if_pos h]; exact ev_now _
  simp only [if_neg h]
  by_cases h' : (sep.size : Int) > 1048576
  · simp only [if_pos h']; exact ev_now _
  simp only [if_neg h']
  have both : ∃ (r : List ByteArray) (b : Bool), r.length ≤ 1048576 ∧ Ev (fun k => spec_SplitString.f k s sep) (r, b) ∧ Ev (fun k => impl_SplitString.f k s sep) (r, b) := by
    by_cases c1 : (sep.size : Int) = 1
    · by_cases c2 : (s.size : Int) > 4000
      · refine ⟨[], false, by simp, ?_, ?_⟩
        · unfold spec_SplitString.f
          simp only [if_pos c1, if_pos c2]
          exact ev_now _
        · unfold impl_SplitString.f
          simp only [if_pos c2]
          exact ev_now _
      · have hb : bt sep 0 = (((L sep)[0]'(by rw [L_size]; omega)).toNat : Int) := bt_L sep 0 (by rw [L_size]; omega)
        refine ⟨partsS ((L sep)[0]'(by rw [L_size]; omega)) [] (L s), true, ?_, ?_, ?_⟩
        · have := parts_length ((L sep)[0]'(by rw [L_size]; omega)) (L s) []
          have hL := L_size s
          omega
        · unfold spec_SplitString.f
          simp only [if_pos c1, if_neg c2, if_pos (show (0 : Int) < (sep.size : Int) by omega), hb]
          exact ev_bind (l1Split_ev s _ (by omega)) (ev_now _)
        · unfold impl_SplitString.f
          simp only [if_pos c1, if_neg c2, if_pos (show (0 : Int) < (sep.size : Int) by omega), hb]
          exact ev_bind (implSplit_ev s _ (by omega)) (ev_now _)
    · refine ⟨[], false, by simp, ?_, ?_⟩
      · unfold spec_SplitString.f
        simp only [if_neg c1]
        exact ev_now _
      · unfold impl_SplitString.f
        by_cases c2 : (s.size : Int) > 4000
        · simp only [if_pos c2]; exact ev_now _
        · simp only [if_neg c2, if_neg c1]; exact ev_now _
  obtain ⟨r, b, hr, e1, e2⟩ := both
  obtain ⟨q, ys, hq, m1, m2⟩ := markStringS_ev r hr
  have e3 := eqStringS_ev r (by omega)
  refine ev_bind e1 (ev_bind e2 (ev_bind e3 ?_))
  simp only [if_true, bne_self_eq_false]
  refine ev_succ ?_
  simp only [laws_FnExactSplitString.j0, Bool.false_eq_true, if_false]
  refine ev_bind m1 (ev_bind m2 ?_)
  simp only [if_neg (show ¬ ((q : Int) < 0) by omega), if_true]
  refine ev_bind e2 (ev_bind e3 ?_)
  simp only [if_true, bne_self_eq_false]
  refine ev_succ ?_
  simp only [laws_FnExactSplitString.j1, Bool.false_eq_true, if_false]
  refine ev_bind m2 ?_
  simp only [if_neg (show ¬ ((q : Int) < 0) by omega), if_true]
  exact ev_now _

end Go.Proofs.Ytliongdcpemeiaa.Pure
