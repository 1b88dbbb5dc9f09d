/- The program's function and the reference's come to the same answer: the statement of numbers and lists behind the law FnExactJoinStrings. Conditions: none. -/
import Derived.Test.YtliongdcpemeiaaArgFnExactJoinStrings
import Derived.Test.YtliongdcpemeiaaBase
namespace Go.Proofs.Ytliongdcpemeiaa.Pure
open Go.RowKit Go.Proofs.Ytliongdcpemeiaa.OFnExactJoinStrings Go.Proofs.Ytliongdcpemeiaa.Base Go.Proofs.YtliongdcpemeiaaW.PrintWords Go.Proofs.YtliongdcpemeiaaW.PrintLast Go.Proofs.YtliongdcpemeiaaW.PrintMore Go.Proofs.Ytliongdcpemeiaa.Open
set_option linter.unusedVariables false
set_option linter.unusedSimpArgs false

theorem rdS (xs : List ByteArray) (i : Nat) (h : i < xs.length) : rdOf ByteArray.empty xs (i : Int) = xs[i] := by
  unfold rdOf
  rw [Int.toNat_natCast, List.getD_eq_getElem?_getD, List.getElem?_eq_getElem h]
  rfl

def sumSz : List ByteArray → Nat
  | [] => 0
  | x :: t => x.size + sumSz t
theorem szStringS_l (xs : List ByteArray) (hn : xs.length ≤ 1048576) (hx : ∀ x ∈ xs, x.size ≤ 9223372036854775807) : ∀ (d i : Nat) (left : Int), i + d = xs.length → 0 ≤ left → left ≤ 1048576 → Ev (fun k => laws_szStringS.l0 k xs left (i : Int)) (if left < (sumSz (xs.drop i) : Int) then -1 else left - (sumSz (xs.drop i) : Int)) := by
  intro d
  induction d with
  | zero =>
    intro i left hi h0 h1
    refine ev_succ ?_
    simp only [laws_szStringS.l0, if_neg (show ¬ (i : Int) < (xs.length : Int) by omega), List.drop_of_length_le (show xs.length ≤ i by omega), sumSz]
    exact ev_const (by rw [if_neg (by omega)]; simp)
  | succ d ih =>
    intro i left hi h0 h1
    refine ev_succ ?_
    have hil : i < xs.length := by omega
    have hs := hx xs[i] (List.getElem_mem hil)
    rw [List.drop_eq_getElem_cons hil, sumSz]
    simp only [laws_szStringS.l0, if_pos (show (i : Int) < (xs.length : Int) by omega), if_pos (show (0 : Int) ≤ (i : Int) by omega), rdS xs i hil, w64 (x := left - (xs[i].size : Int)) (by omega) (by omega), wsucc i (by omega)]
    by_cases c : left - (xs[i].size : Int) < 0
    · simp only [if_pos c]
      exact ev_const (by rw [if_pos (by omega)])
    · simp only [if_neg c]
      have := ih (i + 1) (left - (xs[i].size : Int)) (by omega) (by omega) (by omega)
      by_cases c2 : left - (xs[i].size : Int) < (sumSz (xs.drop (i + 1)) : Int)
      · rw [if_pos c2] at this
        rw [if_pos (by omega)]
        exact this
      · rw [if_neg c2] at this
        rw [if_neg (by omega), show left - ((xs[i].size + sumSz (xs.drop (i + 1)) : Nat) : Int) = left - (xs[i].size : Int) - (sumSz (xs.drop (i + 1)) : Int) by omega]
        exact this
theorem szStringS_ev (xs : List ByteArray) (hl : xs.length ≤ 9223372036854775807) (hx : ∀ x ∈ xs, x.size ≤ 9223372036854775807) :
    Ev (fun k => laws_szStringS.f k xs 1048576) (-1) ∨ (xs.length ≤ 1048576 ∧ sumSz xs ≤ 1048576 ∧ ∃ t : Int, 0 ≤ t ∧ Ev (fun k => laws_szStringS.f k xs 1048576) t) := by
  unfold laws_szStringS.f
  simp only [w64 (x := 1048576 - (xs.length : Int)) (by omega) (by omega)]
  by_cases c : (1048576 : Int) - (xs.length : Int) < 0
  · simp only [if_pos c]; exact Or.inl (ev_now _)
  · simp only [if_neg c]
    have := szStringS_l xs (by omega) hx xs.length 0 (1048576 - (xs.length : Int)) (by omega) (by omega) (by omega)
    simp only [List.drop_zero] at this
    by_cases c2 : (1048576 : Int) - (xs.length : Int) < (sumSz xs : Int)
    · rw [if_pos c2] at this; exact Or.inl this
    · rw [if_neg c2] at this
      exact Or.inr ⟨by omega, by omega, _, by omega, this⟩

theorem toStringS_l (xs : List ByteArray) (hn : xs.length ≤ 1048576) : ∀ (d i : Nat) (ys : List ByteArray), i + d = xs.length → ys.length = xs.length → ys.take i = xs.take i → Ev (fun k => laws_toStringS.l0 k xs ys (i : Int)) xs := by
  intro d
  induction d with
  | zero =>
    intro i ys hi hl ht
    refine ev_succ ?_
    simp only [laws_toStringS.l0, if_neg (show ¬ (i : Int) < (xs.length : Int) by omega)]
    have : ys = xs := by
      rw [List.take_of_length_le (by omega), List.take_of_length_le (by omega)] at ht
      exact ht
    rw [this]
    exact ev_now _
  | succ d ih =>
    intro i ys hi hl ht
    refine ev_succ ?_
    have hx : i < xs.length := by omega
    simp only [laws_toStringS.l0, if_pos (show (i : Int) < (xs.length : Int) by omega), if_pos (show (i : Int) < (ys.length : Int) by omega), if_pos (show (0 : Int) ≤ (i : Int) by omega), rdS xs i hx, wsucc i (by omega), Int.toNat_natCast]
    refine ih (i + 1) _ (by omega) (by rw [List.length_set]; exact hl) ?_
    rw [take_set_succ ys i _ (by omega), ht, List.take_succ_eq_append_getElem hx]
theorem toStringS_ev (xs : List ByteArray) (hn : xs.length ≤ 1048576) : Ev (fun k => laws_toStringS.f k xs) xs := by
  unfold laws_toStringS.f
  simp only [if_pos (show (0 : Int) ≤ (xs.length : Int) by omega), Int.toNat_natCast, if_pos (show xs.length ≤ 17592186044416 by omega)]
  exact toStringS_l xs hn xs.length 0 _ (by omega) (by simp) (by simp)

theorem eqStringS_l (xs : List ByteArray) (hn : xs.length ≤ 4611686018427387904) : ∀ (d i : Nat), i + d = xs.length → Ev (fun k => laws_eqStringS.l0 k xs xs (i : Int)) true := by
  intro d
  induction d with
  | zero =>
    intro i hi
    refine ev_succ ?_
    simp only [laws_eqStringS.l0, if_neg (show ¬ (i : Int) < (xs.length : Int) by omega)]
    exact ev_now _
  | succ d ih =>
    intro i hi
    refine ev_succ ?_
    simp only [laws_eqStringS.l0, if_true, if_pos (show (i : Int) < (xs.length : Int) by omega), if_pos (show (0 : Int) ≤ (i : Int) by omega), wsucc i (by omega)]
    exact ih (i + 1) (by omega)
theorem eqStringS_ev (xs : List ByteArray) (hn : xs.length ≤ 4611686018427387904) : Ev (fun k => laws_eqStringS.f k xs xs) true := by
  unfold laws_eqStringS.f
  simp only [if_true]
  exact eqStringS_l xs hn xs.length 0 (by omega)

/-- A string cut at a byte: the first part, and the others. -/
def splitL (b : UInt8) : List UInt8 → List UInt8 × List (List UInt8)
  | [] => ([], [])
  | c :: t => if c = b then ([], (splitL b t).1 :: (splitL b t).2) else (c :: (splitL b t).1, (splitL b t).2)
def mkS (l : List UInt8) : ByteArray := ⟨l.toArray⟩
theorem mkS_L (s : ByteArray) : mkS (L s) = s := rfl
theorem L_mkS (l : List UInt8) : L (mkS l) = l := rfl
theorem extract_mkS (s : ByteArray) (a b : Nat) : s.extract a b = mkS (((L s).drop a).take (b - a)) := by
  apply L_inj
  rw [L_mkS]
  exact Go.Lib.extract_data s a b
theorem byte_eq (c b : UInt8) : ((c.toNat : Int) = (b.toNat : Int)) ↔ c = b := by
  constructor
  · intro h
    exact UInt8.toNat_inj.1 (by omega)
  · intro h; rw [h]
/-- All parts, where a part has begun. -/
def partsS (b : UInt8) (pre l : List UInt8) : List ByteArray := mkS (pre ++ (splitL b l).1) :: (splitL b l).2.map mkS
theorem parts_hit (b : UInt8) (pre : List UInt8) (l : List UInt8) : partsS b pre (b :: l) = mkS pre :: partsS b [] l := by
  simp [partsS, splitL]
theorem parts_miss (b : UInt8) (pre : List UInt8) (c : UInt8) (l : List UInt8) (h : c ≠ b) : partsS b pre (c :: l) = partsS b (pre ++ [c]) l := by
  simp [partsS, splitL, h]
theorem parts_end (b : UInt8) (pre : List UInt8) : partsS b pre [] = [mkS pre] := by
  simp [partsS, splitL]

theorem l1Stands_l (s : ByteArray) (b : UInt8) (hn : s.size ≤ 4398046511104) : ∀ (d i : Nat), i + d = s.size → Ev (fun k => spec_l1Stands.l0 k s (b.toNat : Int) (i : Int)) (decide (b ∈ (L s).drop i)) := by
  have hL := L_size s
  intro d
  induction d with
  | zero =>
    intro i hi
    refine ev_succ ?_
    simp only [spec_l1Stands.l0, if_neg (show ¬ (i : Int) < (s.size : Int) by omega), List.drop_of_length_le (show (L s).length ≤ i by omega)]
    exact ev_const (by simp)
  | succ d ih =>
    intro i hi
    refine ev_succ ?_
    have hx : i < (L s).length := by omega
    simp only [spec_l1Stands.l0, if_pos (show (i : Int) < (s.size : Int) by omega), if_pos (show (0 : Int) ≤ (i : Int) by omega), wsucc i (by omega), bt_L s i hx]
    rw [List.drop_eq_getElem_cons hx]
    by_cases c : (L s)[i] = b
    · have c' : (((L s)[i]).toNat : Int) = (b.toNat : Int) := (byte_eq _ _).2 c
      simp only [if_pos c']
      exact ev_const (by simp [c])
    · have c' : ¬ (((L s)[i]).toNat : Int) = (b.toNat : Int) := fun h => c ((byte_eq _ _).1 h)
      simp only [if_neg c']
      have := ih (i + 1) (by omega)
      rw [show decide (b ∈ (L s)[i] :: (L s).drop (i + 1)) = decide (b ∈ (L s).drop (i + 1)) by rw [decide_eq_decide, List.mem_cons]; exact ⟨fun h => h.resolve_left (fun e => c e.symm), Or.inr⟩]
      exact this
theorem l1Stands_ev (s : ByteArray) (b : UInt8) (hn : s.size ≤ 4398046511104) : Ev (fun k => spec_l1Stands.f k s (b.toNat : Int)) (decide (b ∈ L s)) := by
  have := l1Stands_l s b hn s.size 0 (by omega)
  unfold spec_l1Stands.f
  simpa using this

theorem implSplit_l (s : ByteArray) (b : UInt8) (hn : s.size ≤ 4398046511104) : ∀ (d i fr : Nat) (acc : List ByteArray), i + d = s.size → fr ≤ i → acc.length ≤ i → Ev (fun k => impl_split.l0 k s (b.toNat : Int) acc (fr : Int) (i : Int)) (acc ++ partsS b (((L s).drop fr).take (i - fr)) ((L s).drop i)) := by
  have hL := L_size s
  intro d
  induction d with
  | zero =>
    intro i fr acc hi hf ha
    refine ev_succ ?_
    simp only [impl_split.l0, if_neg (show ¬ (i : Int) < (s.size : Int) by omega), if_pos (show (0 : Int) ≤ (fr : Int) by omega), if_pos (show (fr : Int) ≤ (s.size : Int) by omega), if_pos (show acc.length < 8796093022208 by omega), Int.toNat_natCast, List.drop_of_length_le (show (L s).length ≤ i by omega), parts_end, extract_mkS]
    rw [show s.size - fr = i - fr by omega]
    exact ev_now _
  | succ d ih =>
    intro i fr acc hi hf ha
    refine ev_succ ?_
    have hx : i < (L s).length := by omega
    simp only [impl_split.l0, if_pos (show (i : Int) < (s.size : Int) by omega), if_pos (show (0 : Int) ≤ (i : Int) by omega), if_pos (show (0 : Int) ≤ (fr : Int) by omega), if_pos (show (fr : Int) ≤ (i : Int) by omega), if_pos (show (i : Int) ≤ (s.size : Int) by omega), if_pos (show acc.length < 8796093022208 by omega), Int.toNat_natCast, wsucc i (by omega), bt_L s i hx, extract_mkS]
    rw [List.drop_eq_getElem_cons hx]
    by_cases c : (L s)[i] = b
    · have c' : (((L s)[i]).toNat : Int) = (b.toNat : Int) := (byte_eq _ _).2 c
      simp only [if_pos c']
      rw [c, parts_hit]
      have := ih (i + 1) (i + 1) (acc ++ [mkS (((L s).drop fr).take (i - fr))]) (by omega) (by omega) (by simp; omega)
      rw [show i + 1 - (i + 1) = 0 by omega, List.take_zero, List.append_assoc, List.singleton_append] at this
      exact this
    · have c' : ¬ (((L s)[i]).toNat : Int) = (b.toNat : Int) := fun h => c ((byte_eq _ _).1 h)
      simp only [if_neg c']
      rw [parts_miss _ _ _ _ c]
      have := ih (i + 1) fr acc (by omega) (by omega) (by omega)
      have ht : ((L s).drop fr).take (i + 1 - fr) = ((L s).drop fr).take (i - fr) ++ [(L s)[i]] := by
        rw [show i + 1 - fr = (i - fr) + 1 by omega, List.take_succ_eq_append_getElem (by rw [List.length_drop]; omega)]
        congr 2
        rw [List.getElem_drop]
        congr 1
        omega
      rw [ht] at this
      exact this
theorem implSplit_ev (s : ByteArray) (b : UInt8) (hn : s.size ≤ 4398046511104) : Ev (fun k => impl_split.f k s (b.toNat : Int)) (partsS b [] (L s)) := by
  have := implSplit_l s b hn s.size 0 0 [] (by omega) (by omega) (by simp)
  unfold impl_split.f
  simpa using this

theorem split_none (b : UInt8) : ∀ l : List UInt8, b ∉ l → splitL b l = (l, []) := by
  intro l
  induction l with
  | nil => intro _; rfl
  | cons c t ih =>
    intro h
    rw [List.mem_cons, not_or] at h
    rw [splitL, if_neg (fun e => h.1 e.symm), ih h.2]
theorem split_some (b : UInt8) : ∀ l : List UInt8, b ∈ l → (splitL b l).2 ≠ [] := by
  intro l
  induction l with
  | nil => intro h; cases h
  | cons c t ih =>
    intro h
    by_cases e : c = b
    · rw [splitL, if_pos e]; simp
    · rw [splitL, if_neg e]
      rw [List.mem_cons] at h
      exact ih (h.resolve_left (fun x => e x.symm))
theorem split_first (b : UInt8) : ∀ l : List UInt8, b ∉ (splitL b l).1 ∧ (splitL b l).1.length ≤ l.length := by
  intro l
  induction l with
  | nil => simp [splitL]
  | cons c t ih =>
    by_cases e : c = b
    · rw [splitL, if_pos e]; simp
    · rw [splitL, if_neg e]
      refine ⟨?_, by simp; exact ih.2⟩
      rw [List.mem_cons, not_or]
      exact ⟨fun x => e x.symm, ih.1⟩
theorem parts_gt (b : UInt8) (s : ByteArray) : ((partsS b [] (L s)).length : Int) > 1 ↔ b ∈ L s := by
  unfold partsS
  by_cases h : b ∈ L s
  · have := split_some b (L s) h
    simp only [h, iff_true, List.length_cons, List.length_map]
    have h2 : 0 < (splitL b (L s)).2.length := List.length_pos_iff.2 this
    omega
  · simp [h, split_none b (L s) h]
theorem b35 : ((35 : UInt8).toNat : Int) = 35 := rfl

/-- What is joined onto a beginning. -/
def jn (sep acc : ByteArray) (l : List ByteArray) : ByteArray := l.foldl (fun o x => (o ++ sep) ++ x) acc
theorem jn_cons (sep acc x : ByteArray) (l : List ByteArray) : jn sep acc (x :: l) = jn sep ((acc ++ sep) ++ x) l := rfl
theorem jn_size (sep : ByteArray) (hs : sep.size = 1) : ∀ (l : List ByteArray) (acc : ByteArray), (jn sep acc l).size = acc.size + l.length + sumSz l := by
  intro l
  induction l with
  | nil => intro acc; rfl
  | cons x t ih =>
    intro acc
    rw [jn_cons, ih, ByteArray.size_append, ByteArray.size_append, hs, List.length_cons, sumSz]
    omega
def hasB (b : UInt8) (l : List ByteArray) : Bool := l.any fun x => decide (b ∈ L x)
theorem part_le : ∀ (l : List ByteArray) (x : ByteArray), x ∈ l → x.size ≤ sumSz l := by
  intro l
  induction l with
  | nil => intro x h; cases h
  | cons y t ih =>
    intro x h
    rw [List.mem_cons] at h
    rw [sumSz]
    rcases h with rfl | h
    · omega
    · have := ih x h; omega
theorem drop_sum (l : List ByteArray) : ∀ i, sumSz (l.drop i) ≤ sumSz l := by
  intro i
  induction l generalizing i with
  | nil => simp
  | cons x t ih =>
    cases i with
    | zero => exact Nat.le_refl _
    | succ i => rw [List.drop_succ_cons, sumSz]; have := ih i; omega
theorem spec_tail (xs : List ByteArray) (sep : ByteArray) (b : UInt8) (hs : sep.size = 1) (hb : bt sep 0 = (b.toNat : Int)) (hn : xs.length ≤ 1048576) (hz : sumSz xs ≤ 1048576) : ∀ (d i : Nat) (out : ByteArray), i + d = xs.length → 0 < i → out.size ≤ 4000 →
    Ev (fun k => spec_JoinStrings.l0 k xs sep out (i : Int)) (if hasB b (xs.drop i) = true ∨ (jn sep out (xs.drop i)).size > 4000 then ((⟨#[]⟩ : ByteArray), false) else (jn sep out (xs.drop i), true)) := by
  intro d
  induction d with
  | zero =>
    intro i out hi h0 ho
    refine ev_succ ?_
    simp only [spec_JoinStrings.l0, if_neg (show ¬ (i : Int) < (xs.length : Int) by omega), List.drop_of_length_le (show xs.length ≤ i by omega)]
    exact ev_const (by rw [if_neg (by simp [hasB, jn]; omega)]; rfl)
  | succ d ih =>
    intro i out hi h0 ho
    refine ev_succ ?_
    have hx : i < xs.length := by omega
    have hp := part_le xs xs[i] (List.getElem_mem hx)
    rw [List.drop_eq_getElem_cons hx, jn_cons]
    simp only [spec_JoinStrings.l0, if_pos (show (i : Int) < (xs.length : Int) by omega), if_pos (show (0 : Int) ≤ (i : Int) by omega), if_pos (show (0 : Int) < (sep.size : Int) by omega), rdS xs i hx, hb, wsucc i (by omega)]
    refine ev_bind (l1Stands_ev xs[i] b (by omega)) ?_
    by_cases c : b ∈ L xs[i]
    · simp only [decide_eq_true c, if_true]
      exact ev_const (by rw [if_pos (Or.inl (by unfold hasB; rw [List.any_cons, decide_eq_true c, Bool.true_or]))])
    · have hh : hasB b (xs[i] :: xs.drop (i + 1)) = hasB b (xs.drop (i + 1)) := by unfold hasB; rw [List.any_cons, decide_eq_false c, Bool.false_or]
      have e1 : (out ++ sep).size = out.size + 1 := by rw [ByteArray.size_append, hs]
      have e2 : ((out ++ sep) ++ xs[i]).size = out.size + 1 + xs[i].size := by rw [ByteArray.size_append, e1]
      have hj := jn_size sep hs (xs.drop (i + 1)) ((out ++ sep) ++ xs[i])
      simp only [decide_eq_false c, Bool.false_eq_true, if_false, if_pos (show (i : Int) > 0 by omega), if_pos (show out.size + sep.size ≤ 9223372036854775807 by omega), if_pos (show (out ++ sep).size + xs[i].size ≤ 9223372036854775807 by omega)]
      rw [hh]
      by_cases z : (((out ++ sep) ++ xs[i]).size : Int) > 4000
      · simp only [if_pos z]
        exact ev_const (by rw [if_pos (Or.inr (by omega))])
      · simp only [if_neg z]
        exact ih (i + 1) _ (by omega) (by omega) (by omega)
theorem join_l (xs : List ByteArray) (sep : ByteArray) (hs : sep.size = 1) (hn : xs.length ≤ 1048576) (hz : sumSz xs ≤ 1048576) : ∀ (d i : Nat) (out : ByteArray), i + d = xs.length → 0 < i → out.size + (xs.drop i).length + sumSz (xs.drop i) ≤ 4611686018427387904 →
    Ev (fun k => impl_join.l0 k sep out xs (xs.length : Int) (i : Int)) (jn sep out (xs.drop i)) := by
  intro d
  induction d with
  | zero =>
    intro i out hi h0 ho
    refine ev_succ ?_
    simp only [impl_join.l0, if_neg (show ¬ (i : Int) < (xs.length : Int) by omega), List.drop_of_length_le (show xs.length ≤ i by omega)]
    exact ev_now _
  | succ d ih =>
    intro i out hi h0 ho
    refine ev_succ ?_
    have hx : i < xs.length := by omega
    rw [List.drop_eq_getElem_cons hx, List.length_cons, sumSz] at ho
    rw [List.drop_eq_getElem_cons hx, jn_cons]
    have e1 : (out ++ sep).size = out.size + 1 := by rw [ByteArray.size_append, hs]
    have e2 : ((out ++ sep) ++ xs[i]).size = out.size + 1 + xs[i].size := by rw [ByteArray.size_append, e1]
    simp only [impl_join.l0, if_pos (show (i : Int) < (xs.length : Int) by omega), if_pos (show (0 : Int) ≤ (i : Int) by omega), rdS xs i hx, wsucc i (by omega), if_pos (show (i : Int) > 0 by omega), if_pos (show out.size + sep.size ≤ 9223372036854775807 by omega), if_pos (show (out ++ sep).size + xs[i].size ≤ 9223372036854775807 by omega)]
    exact ih (i + 1) _ (by omega) (by omega) (by omega)
theorem empty_append (x : ByteArray) : (⟨#[]⟩ : ByteArray) ++ x = x := L_inj (by rw [L_append]; rfl)
theorem join_ev (xs : List ByteArray) (sep x : ByteArray) (t : List ByteArray) (hx : xs = x :: t) (hs : sep.size = 1) (hn : xs.length ≤ 1048576) (hz : sumSz xs ≤ 1048576) : Ev (fun k => impl_join.f k xs sep) (jn sep x t) := by
  unfold impl_join.f
  refine ev_succ ?_
  have hl : 0 < xs.length := by rw [hx]; simp
  have h0 : rdOf ByteArray.empty xs 0 = x := by rw [hx]; rfl
  have hsz : xs.length = t.length + 1 := by rw [hx]; simp
  have hsu : sumSz xs = x.size + sumSz t := by rw [hx]; rfl
  simp only [impl_join.l0, if_pos (show (0 : Int) < (xs.length : Int) by omega), if_pos (show (0 : Int) ≤ 0 by omega), if_neg (show ¬ (0 : Int) > 0 by omega), h0, if_pos (show (⟨#[]⟩ : ByteArray).size + x.size ≤ 9223372036854775807 by rw [show (⟨#[]⟩ : ByteArray).size = 0 from rfl]; omega), empty_append]
  have := join_l xs sep hs hn hz (xs.length - 1) 1 x (by omega) (by omega) (by rw [hx]; simp; omega)
  rw [show wrap64 (0 + 1) = ((1 : Nat) : Int) by unfold wrap64; omega]
  rw [show xs.drop 1 = t by rw [hx]; rfl] at this
  exact this
theorem impl_tail (xs : List ByteArray) (sep x : ByteArray) (t : List ByteArray) (b : UInt8) (hxt : xs = x :: t) (hs : sep.size = 1) (hb : bt sep 0 = (b.toNat : Int)) (hn : xs.length ≤ 1048576) (hz : sumSz xs ≤ 1048576) : ∀ (d i : Nat) (len : Int), i + d = xs.length → 0 ≤ len → len ≤ 4194304 →
    len + (sumSz (xs.drop i) : Int) ≤ 4194304 → Ev (fun k => impl_JoinStrings.l0 k xs sep len xs (xs.length : Int) (i : Int)) (if hasB b (xs.drop i) = true ∨ len + (sumSz (xs.drop i) : Int) > 4000 then ((⟨#[]⟩ : ByteArray), false) else (jn sep x t, true)) := by
  intro d
  induction d with
  | zero =>
    intro i len hi h0 h1 h2
    refine ev_succ ?_
    simp only [impl_JoinStrings.l0, if_neg (show ¬ (i : Int) < (xs.length : Int) by omega), List.drop_of_length_le (show xs.length ≤ i by omega)]
    by_cases c : len > 4000
    · simp only [if_pos c]
      exact ev_const (by rw [if_pos (Or.inr (by simp [sumSz]; omega))])
    · simp only [if_neg c]
      rw [if_neg (by simp [sumSz, hasB]; omega)]
      exact ev_bind (join_ev xs sep x t hxt hs hn hz) (ev_now _)
  | succ d ih =>
    intro i len hi h0 h1 h2
    refine ev_succ ?_
    have hx : i < xs.length := by omega
    have hp := part_le xs xs[i] (List.getElem_mem hx)
    rw [List.drop_eq_getElem_cons hx, sumSz] at h2 ⊢
    simp only [impl_JoinStrings.l0, if_pos (show (i : Int) < (xs.length : Int) by omega), if_pos (show (0 : Int) ≤ (i : Int) by omega), if_pos (show (0 : Int) < (sep.size : Int) by omega), rdS xs i hx, hb, wsucc i (by omega), w64 (x := len + (xs[i].size : Int)) (by omega) (by omega)]
    refine ev_bind (implSplit_ev xs[i] b (by omega)) ?_
    by_cases c : b ∈ L xs[i]
    · simp only [if_pos ((parts_gt b xs[i]).2 c)]
      exact ev_const (by rw [if_pos (Or.inl (by unfold hasB; rw [List.any_cons, decide_eq_true c, Bool.true_or]))])
    · simp only [if_neg (show ¬ ((partsS b [] (L xs[i])).length : Int) > 1 from fun h => c ((parts_gt b xs[i]).1 h))]
      have hh : hasB b (xs[i] :: xs.drop (i + 1)) = hasB b (xs.drop (i + 1)) := by unfold hasB; rw [List.any_cons, decide_eq_false c, Bool.false_or]
      rw [hh, show len + ((xs[i].size + sumSz (xs.drop (i + 1)) : Nat) : Int) = len + (xs[i].size : Int) + (sumSz (xs.drop (i + 1)) : Int) by omega]
      exact ih (i + 1) _ (by omega) (by omega) (by omega) (by omega)
theorem core (xs : List ByteArray) (sep : ByteArray) (hn : xs.length ≤ 1048576) (hz : sumSz xs ≤ 1048576) : ∃ r : ByteArray × Bool, Ev (fun k => spec_JoinStrings.f k xs sep) r ∧ Ev (fun k => impl_JoinStrings.f k xs sep) r := by
  have no1 : ∀ b : Bool, b = true → Ev (fun k => spec_JoinStrings.j0 k xs sep b) ((⟨#[]⟩ : ByteArray), false) := fun b hb => ev_succ (by subst hb; simp only [spec_JoinStrings.j0, if_true]; exact ev_now _)
  have no2 : ∀ b : Bool, b = true → Ev (fun k => impl_JoinStrings.j0 k xs sep b) ((⟨#[]⟩ : ByteArray), false) := fun b hb => ev_succ (by subst hb; simp only [impl_JoinStrings.j0, if_true]; exact ev_now _)
  unfold spec_JoinStrings.f impl_JoinStrings.f
  cases hxt : xs with
  | nil =>
    rw [hxt] at no1 no2
    refine ⟨((⟨#[]⟩ : ByteArray), false), ?_, ?_⟩
    · by_cases c : (sep.size : Int) = 1
      · simp only [if_pos c]; exact no1 _ rfl
      · simp only [if_neg c]; exact no1 _ rfl
    · simp only [if_pos (show ((([] : List ByteArray).length : Nat) : Int) = 0 from rfl)]; exact no2 _ rfl
  | cons x t =>
    rw [← hxt]
    have hlen : xs.length = t.length + 1 := by rw [hxt]; simp
    have hsu : sumSz xs = x.size + sumSz t := by rw [hxt]; rfl
    simp only [if_neg (show ¬ (xs.length : Int) = 0 by omega)]
    by_cases c : (sep.size : Int) = 1
    · have hs : sep.size = 1 := by omega
      have hx0 : 0 < (L sep).length := by rw [L_size]; omega
      have hb : bt sep 0 = (((L sep)[0]).toNat : Int) := bt_L sep 0 hx0
      generalize (L sep)[0] = b at hb
      have hbe : (((xs.length : Int) == 0)) = false := by rw [beq_eq_false_iff_ne]; omega
      have hbn : (((sep.size : Int) != 1)) = false := by rw [c]; rfl
      simp only [if_pos c, hbe, hbn]
      have hi := impl_tail xs sep x t b hxt hs hb hn hz xs.length 0 ((xs.length : Int) - 1) (by omega) (by omega) (by omega) (by rw [List.drop_zero]; omega)
      rw [List.drop_zero] at hi
      have hj := jn_size sep hs t x
      have hsp : Ev (fun k => spec_JoinStrings.l0 k xs sep (⟨#[]⟩ : ByteArray) 0) (if hasB b xs = true ∨ ((xs.length : Int) - 1) + (sumSz xs : Int) > 4000 then ((⟨#[]⟩ : ByteArray), false) else (jn sep x t, true)) := by
        refine ev_succ ?_
        have h0 : rdOf ByteArray.empty xs 0 = x := by rw [hxt]; rfl
        simp only [spec_JoinStrings.l0, if_pos (show (0 : Int) < (xs.length : Int) by omega), if_pos (show (0 : Int) ≤ 0 by omega), if_pos (show (0 : Int) < (sep.size : Int) by omega), h0, hb, if_neg (show ¬ (0 : Int) > 0 by omega), if_pos (show (⟨#[]⟩ : ByteArray).size + x.size ≤ 9223372036854775807 by rw [show (⟨#[]⟩ : ByteArray).size = 0 from rfl]; omega), empty_append]
        refine ev_bind (l1Stands_ev x b (by omega)) ?_
        by_cases m : b ∈ L x
        · simp only [decide_eq_true m, if_true]
          exact ev_const (by rw [if_pos (Or.inl (by rw [hxt]; simp [hasB, m]))])
        · have hh : hasB b xs = hasB b t := by rw [hxt]; simp [hasB, m]
          simp only [decide_eq_false m, Bool.false_eq_true, if_false]
          rw [hh]
          by_cases z : (x.size : Int) > 4000
          · simp only [if_pos z]
            exact ev_const (by rw [if_pos (Or.inr (by omega))])
          · simp only [if_neg z]
            have := spec_tail xs sep b hs hb hn hz (xs.length - 1) 1 x (by omega) (by omega) (by omega)
            rw [show xs.drop 1 = t by rw [hxt]; rfl] at this
            rw [show wrap64 (0 + 1) = ((1 : Nat) : Int) by unfold wrap64; omega]
            by_cases q : hasB b t = true ∨ (jn sep x t).size > 4000
            · rw [if_pos q] at this
              rw [if_pos (q.imp id (fun h => by omega))]
              exact this
            · rw [if_neg q] at this
              rw [if_neg (fun h => q (h.imp id (fun h => by omega)))]
              exact this
      refine ⟨_, ev_succ (by simp only [spec_JoinStrings.j0, Bool.false_eq_true, if_false]; exact hsp), ev_succ ?_⟩
      simp only [impl_JoinStrings.j0, Bool.false_eq_true, if_false, w64 (x := (xs.length : Int) - 1) (by omega) (by omega)]
      exact hi
    · have hbn : (((sep.size : Int) != 1)) = true := by rw [bne_iff_ne]; exact c
      simp only [if_neg c, hbn]
      exact ⟨_, no1 _ rfl, no2 _ rfl⟩
theorem FnExactJoinStrings : FnExactJoinStrings.Claim := by
  intro xs sep hl hg hs
  refine Ev.rounds ?_
  unfold laws_FnExactJoinStrings.f
  by_cases h : (sep.size : Int) > 1048576
  · simp only [if_pos h]; exact ev_now _
  simp only [if_neg h]
  rcases szStringS_ev xs hl hg with e | ⟨hn, hz, t, t0, e⟩
  · refine ev_bind e ?_
    simp only [if_pos (show (-1 : Int) < 0 by omega)]
    exact ev_now _
  · refine ev_bind e ?_
    simp only [if_neg (show ¬ t < 0 by omega)]
    obtain ⟨r, e1, e2⟩ := core xs sep hn hz
    have et := toStringS_ev xs hn
    have eq := eqStringS_ev xs (by omega)
    refine ev_bind et (ev_bind e1 (ev_bind et (ev_bind e2 ?_)))
    simp only [if_true, bne_self_eq_false]
    refine ev_succ ?_
    simp only [laws_FnExactJoinStrings.j0, Bool.false_eq_true, if_false]
    refine ev_bind et (ev_bind eq ?_)
    simp only [if_true]
    exact ev_now _

end Go.Proofs.Ytliongdcpemeiaa.Pure
