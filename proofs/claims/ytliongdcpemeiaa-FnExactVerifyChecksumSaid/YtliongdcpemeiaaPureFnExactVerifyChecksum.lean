/- The program's function and the reference's come to the same answer: the statement of numbers and lists behind the law FnExactVerifyChecksum. Conditions: none. -/
import Derived.Test.YtliongdcpemeiaaArgFnExactVerifyChecksum
import Derived.Test.YtliongdcpemeiaaBase
namespace Go.Proofs.Ytliongdcpemeiaa.Pure
open Go.RowKit Go.Proofs.Ytliongdcpemeiaa.OFnExactVerifyChecksum Go.Proofs.Ytliongdcpemeiaa.Base Go.Proofs.YtliongdcpemeiaaW.PrintWords Go.Proofs.YtliongdcpemeiaaW.PrintLast Go.Proofs.YtliongdcpemeiaaW.PrintMore Go.Proofs.Ytliongdcpemeiaa.Open
set_option linter.unusedVariables false
set_option linter.unusedSimpArgs false

theorem sum_step (h : Int) (s : ByteArray) (i : Int) (h0 : 0 ≤ h) (h1 : h < 999979) : Int.tmod (wrap64 ((wrap64 ((wrap64 (41 * h)) + (wrap64 (bt s i)))) + 1)) 999979 = (41 * h + bt s i + 1) % 999979 := by
  have hb := bt_range s i
  rw [w64 (x := 41 * h) (by omega) (by omega), w64 (x := bt s i) (by omega) (by omega), w64 (x := 41 * h + bt s i) (by omega) (by omega), w64 (by omega) (by omega)]
  exact Int.tmod_eq_emod_of_nonneg (by omega)

theorem sum_l (s : ByteArray) (hn : s.size ≤ 4611686018427387904) : ∀ (d i : Nat) (h : Int), i + d = s.size → 0 ≤ h → h < 999979 → ∃ r : Int, 0 ≤ r ∧ r < 999979 ∧ Ev (fun k => spec_l1Sum.l0 k s h (i : Int)) r ∧ Ev (fun k => impl_Checksum.l0 k s h (i : Int)) (r, true) := by
  intro d
  induction d with
  | zero =>
    intro i h hi h0 h1
    refine ⟨h, h0, h1, ev_succ ?_, ev_succ ?_⟩
    · simp only [spec_l1Sum.l0, if_neg (show ¬ (i : Int) < (s.size : Int) by omega)]
      exact ev_now _
    · simp only [impl_Checksum.l0, if_neg (show ¬ (i : Int) < (s.size : Int) by omega)]
      exact ev_now _
  | succ d ih =>
    intro i h hi h0 h1
    obtain ⟨r, r0, r1, hs, hm⟩ := ih (i + 1) ((41 * h + bt s i + 1) % 999979) (by omega) (by omega) (by omega)
    refine ⟨r, r0, r1, ev_succ ?_, ev_succ ?_⟩
    · simp only [spec_l1Sum.l0, if_pos (show (i : Int) < (s.size : Int) by omega), if_pos (show (0 : Int) ≤ (i : Int) by omega), wsucc i (by omega), sum_step h s i h0 h1]
      exact hs
    · simp only [impl_Checksum.l0, if_pos (show (i : Int) < (s.size : Int) by omega), if_pos (show (0 : Int) ≤ (i : Int) by omega), wsucc i (by omega), sum_step h s i h0 h1]
      exact hm
theorem sum_ev (s : ByteArray) (hn : s.size ≤ 1048576) : ∃ r : Int, 0 ≤ r ∧ r < 999979 ∧ Ev (fun k => spec_l1Sum.f k s) r ∧ Ev (fun k => impl_Checksum.f k s) (if (s.size : Int) > 4000 then (0, false) else (r, true)) := by
  obtain ⟨r, r0, r1, hs, hm⟩ := sum_l s (by omega) s.size 0 7 (by omega) (by omega) (by omega)
  refine ⟨r, r0, r1, hs, ?_⟩
  unfold impl_Checksum.f
  by_cases c : (s.size : Int) > 4000
  · simp only [if_pos c]; exact ev_now _
  · simp only [if_neg c]; exact hm

theorem tdivN (n : Nat) : Int.tdiv (n : Int) 10 = ((n / 10 : Nat) : Int) := by
  rw [Int.tdiv_eq_ediv_of_nonneg (by omega)]; omega
theorem tmodN (n : Nat) : Int.tmod (n : Int) 10 = ((n % 10 : Nat) : Int) := by
  rw [Int.tmod_eq_emod_of_nonneg (by omega)]; omega
theorem wN (n : Nat) (h : n ≤ 4611686018427387904) : wrap64 (n : Int) = (n : Int) := w64 (by omega) (by omega)
theorem one_ext_size (n : Nat) (h : n < 10) : ((⟨#[48, 49, 50, 51, 52, 53, 54, 55, 56, 57]⟩ : ByteArray).extract n (n + 1)).size = 1 := by
  rw [digits_extract n h]; rfl
/-- A number that may be negative, as it is written. -/
def numS (n : Int) : ByteArray := if n < 0 then (⟨#[45]⟩ : ByteArray) ++ digS n.natAbs else digS n.natAbs
theorem numS_nat (n : Nat) : numS (n : Int) = digS n := by
  unfold numS
  rw [if_neg (by omega)]
  rfl
theorem digS_size' (n : Nat) (h : n ≤ 1152921504606846976) : (digS n).size ≤ 1152921504606846977 := by
  have := digS_size n
  omega

theorem l1Num_nat : ∀ n : Nat, n ≤ 1152921504606846976 → Ev (fun k => spec_l1Num.f k (n : Int)) (digS n) := by
  intro n
  induction n using Nat.strongRecOn with
  | ind n ih =>
    intro hn
    refine ev_succ ?_
    by_cases h : n < 10
    · simp only [spec_l1Num.f, if_neg (show ¬ (n : Int) < 0 by omega), if_pos (show (n : Int) < 10 by omega), if_pos (show (0 : Int) ≤ (n : Int) by omega), wsucc n (by omega), if_pos (show (n : Int) ≤ ((n + 1 : Nat) : Int) by omega), if_pos (show ((n + 1 : Nat) : Int) ≤ 10 by omega), Int.toNat_natCast, digits_extract n h]
      rw [digS_lt h]
      exact ev_now _
    · have hd : n % 10 < 10 := by omega
      have hs := digS_size (n / 10)
      simp only [spec_l1Num.f, if_neg (show ¬ (n : Int) < 0 by omega), if_neg (show ¬ (n : Int) < 10 by omega), tdivN, tmodN, wN (n / 10) (by omega), wsucc (n % 10) (by omega), if_pos (show (0 : Int) ≤ ((n % 10 : Nat) : Int) by omega), if_pos (show ((n % 10 : Nat) : Int) ≤ ((n % 10 + 1 : Nat) : Int) by omega), if_pos (show ((n % 10 + 1 : Nat) : Int) ≤ 10 by omega), Int.toNat_natCast]
      refine ev_bind (ih (n / 10) (by omega) (by omega)) ?_
      simp only [if_pos (show (digS (n / 10)).size + ((⟨#[48, 49, 50, 51, 52, 53, 54, 55, 56, 57]⟩ : ByteArray).extract (n % 10) (n % 10 + 1)).size ≤ 9223372036854775807 by rw [one_ext_size _ hd]; omega)]
      simp only [digits_extract _ hd]
      rw [digS_ge h]
      exact ev_now _
theorem l1Num_ev (n : Int) (h0 : -1152921504606846976 ≤ n) (h1 : n ≤ 1152921504606846976) : Ev (fun k => spec_l1Num.f k n) (numS n) := by
  by_cases h : n < 0
  · unfold numS
    rw [if_pos h]
    refine ev_succ ?_
    have hw : wrap64 (-n) = ((n.natAbs : Nat) : Int) := by rw [w64 (by omega) (by omega)]; omega
    have hs := digS_size n.natAbs
    simp only [spec_l1Num.f, if_pos h, hw]
    refine ev_bind (l1Num_nat n.natAbs (by omega)) ?_
    simp only [if_pos (show 1 + (digS n.natAbs).size ≤ 9223372036854775807 by omega)]
    exact ev_now _
  · obtain ⟨m, rfl⟩ := Int.eq_ofNat_of_zero_le (show 0 ≤ n by omega)
    rw [numS_nat]
    exact l1Num_nat m (by omega)

theorem sum_bounds (s : ByteArray) (hn : s.size ≤ 1048576) : ∃ r : Int, 0 ≤ r ∧ r < 999979 ∧ Ev (fun k => spec_l1Sum.f k s) r ∧ Ev (fun k => impl_Checksum.f k s) (if (s.size : Int) > 4000 then (0, false) else (r, true)) ∧ Ev (fun k => spec_l1Seal.f k s) ((s ++ (⟨#[35]⟩ : ByteArray)) ++ numS r) ∧ (numS r).size ≤ 1000000 := by
  obtain ⟨r, r0, r1, e1, e2⟩ := sum_ev s hn
  have hs : (numS r).size ≤ 1000000 := by
    obtain ⟨m, rfl⟩ := Int.eq_ofNat_of_zero_le r0
    rw [numS_nat]
    have := digS_size m
    omega
  refine ⟨r, r0, r1, e1, e2, ?_, hs⟩
  unfold spec_l1Seal.f
  simp only [if_pos (show s.size + 1 ≤ 9223372036854775807 by omega)]
  refine ev_bind e1 (ev_bind (l1Num_ev r (by omega) (by omega)) ?_)
  simp only [if_pos (show (s ++ (⟨#[35]⟩ : ByteArray)).size + (numS r).size ≤ 9223372036854775807 by rw [ByteArray.size_append, show (⟨#[35]⟩ : ByteArray).size = 1 from rfl]; omega)]
  exact ev_now _

theorem text_l : ∀ (n : Nat) (acc : ByteArray), acc.size + n ≤ 2305843009213693952 → Ev (fun k => impl_text.l0 k (n : Int) acc) (digS n ++ acc) := by
  intro n
  induction n using Nat.strongRecOn with
  | ind n ih =>
    intro acc ha
    refine ev_succ ?_
    have hb : (wrap64 (48 + Int.tmod (n : Int) 10)) % 256 = ((48 + n % 10 : Nat) : Int) := by
      rw [tmodN, w64 (by omega) (by omega)]
      omega
    have hs1 : (strOfNums [((48 + n % 10 : Nat) : Int)]).size = 1 := rfl
    simp only [impl_text.l0, Option.bind_some, hb, tdivN, wN (n / 10) (by omega)]
    simp only [if_pos (show (strOfNums [((48 + n % 10 : Nat) : Int)]).size + acc.size ≤ 9223372036854775807 by omega)]
    rw [show strOfNums [((48 + n % 10 : Nat) : Int)] = (⟨#[UInt8.ofNat (48 + n % 10)]⟩ : ByteArray) from rfl]
    by_cases h : n < 10
    · simp only [if_pos (show ((n / 10 : Nat) : Int) = 0 by omega)]
      rw [digS_lt h, Nat.mod_eq_of_lt h]
      exact ev_now _
    · simp only [if_neg (show ¬ ((n / 10 : Nat) : Int) = 0 by omega)]
      rw [digS_ge h, ByteArray.append_assoc]
      refine ih (n / 10) (by omega) _ ?_
      rw [ByteArray.size_append, show (⟨#[UInt8.ofNat (48 + n % 10)]⟩ : ByteArray).size = 1 from rfl]
      omega
theorem text_nat (n : Nat) (hn : n ≤ 1152921504606846976) : Ev (fun k => impl_text.f k (n : Int)) (digS n) := by
  refine ev_succ ?_
  simp only [impl_text.f, if_neg (show ¬ (n : Int) < 0 by omega)]
  have := text_l n (⟨#[]⟩ : ByteArray) (by rw [show (⟨#[]⟩ : ByteArray).size = 0 from rfl]; omega)
  rw [show digS n ++ (⟨#[]⟩ : ByteArray) = digS n from L_inj (by rw [L_append]; simp [L])] at this
  exact this
theorem text_ev (n : Int) (h0 : -1152921504606846976 ≤ n) (h1 : n ≤ 1152921504606846976) : Ev (fun k => impl_text.f k n) (numS n) := by
  by_cases h : n < 0
  · unfold numS
    rw [if_pos h]
    refine ev_succ ?_
    have hw : wrap64 (-n) = ((n.natAbs : Nat) : Int) := by rw [w64 (by omega) (by omega)]; omega
    have hs := digS_size n.natAbs
    simp only [impl_text.f, if_pos h, hw]
    refine ev_bind (text_nat n.natAbs (by omega)) ?_
    simp only [if_pos (show 1 + (digS n.natAbs).size ≤ 9223372036854775807 by omega)]
    exact ev_now _
  · obtain ⟨m, rfl⟩ := Int.eq_ofNat_of_zero_le (show 0 ≤ n by omega)
    rw [numS_nat]
    exact text_nat m (by omega)

/-- A string cut at a byte: the first part, and the others. -/
def splitL (b : UInt8) : List UInt8 → List UInt8 × List (List UInt8)
  | [] => ([], [])
  | c :: t => if c = b then ([], (splitL b t).1 :: (splitL b t).2) else (c :: (splitL b t).1, (splitL b t).2)
def mkS (l : List UInt8) : ByteArray := ⟨l.toArray⟩
theorem mkS_L (s : ByteArray) : mkS (L s) = s := rfl
theorem L_mkS (l : List UInt8) : L (mkS l) = l := rfl
theorem extract_mkS (s : ByteArray) (a b : Nat) : s.extract a b = mkS (((L s).drop a).take (b - a)) := by
  apply L_inj
  rw [L_mkS]
  exact Go.Lib.extract_data s a b
theorem byte_eq (c b : UInt8) : ((c.toNat : Int) = (b.toNat : Int)) ↔ c = b := by
  constructor
  · intro h
    exact UInt8.toNat_inj.1 (by omega)
  · intro h; rw [h]
/-- All parts, where a part has begun. -/
def partsS (b : UInt8) (pre l : List UInt8) : List ByteArray := mkS (pre ++ (splitL b l).1) :: (splitL b l).2.map mkS
theorem parts_hit (b : UInt8) (pre : List UInt8) (l : List UInt8) : partsS b pre (b :: l) = mkS pre :: partsS b [] l := by
  simp [partsS, splitL]
theorem parts_miss (b : UInt8) (pre : List UInt8) (c : UInt8) (l : List UInt8) (h : c ≠ b) : partsS b pre (c :: l) = partsS b (pre ++ [c]) l := by
  simp [partsS, splitL, h]
theorem parts_end (b : UInt8) (pre : List UInt8) : partsS b pre [] = [mkS pre] := by
  simp [partsS, splitL]

theorem implSplit_l (s : ByteArray) (b : UInt8) (hn : s.size ≤ 4398046511104) : ∀ (d i fr : Nat) (acc : List ByteArray), i + d = s.size → fr ≤ i → acc.length ≤ i → Ev (fun k => impl_split.l0 k s (b.toNat : Int) acc (fr : Int) (i : Int)) (acc ++ partsS b (((L s).drop fr).take (i - fr)) ((L s).drop i)) := by
  have hL := L_size s
  intro d
  induction d with
  | zero =>
    intro i fr acc hi hf ha
    refine ev_succ ?_
    simp only [impl_split.l0, if_neg (show ¬ (i : Int) < (s.size : Int) by omega), if_pos (show (0 : Int) ≤ (fr : Int) by omega), if_pos (show (fr : Int) ≤ (s.size : Int) by omega), if_pos (show acc.length < 8796093022208 by omega), Int.toNat_natCast, List.drop_of_length_le (show (L s).length ≤ i by omega), parts_end, extract_mkS]
    rw [show s.size - fr = i - fr by omega]
    exact ev_now _
  | succ d ih =>
    intro i fr acc hi hf ha
    refine ev_succ ?_
    have hx : i < (L s).length := by omega
    simp only [impl_split.l0, if_pos (show (i : Int) < (s.size : Int) by omega), if_pos (show (0 : Int) ≤ (i : Int) by omega), if_pos (show (0 : Int) ≤ (fr : Int) by omega), if_pos (show (fr : Int) ≤ (i : Int) by omega), if_pos (show (i : Int) ≤ (s.size : Int) by omega), if_pos (show acc.length < 8796093022208 by omega), Int.toNat_natCast, wsucc i (by omega), bt_L s i hx, extract_mkS]
    rw [List.drop_eq_getElem_cons hx]
    by_cases c : (L s)[i] = b
    · have c' : (((L s)[i]).toNat : Int) = (b.toNat : Int) := (byte_eq _ _).2 c
      simp only [if_pos c']
      rw [c, parts_hit]
      have := ih (i + 1) (i + 1) (acc ++ [mkS (((L s).drop fr).take (i - fr))]) (by omega) (by omega) (by simp; omega)
      rw [show i + 1 - (i + 1) = 0 by omega, List.take_zero, List.append_assoc, List.singleton_append] at this
      exact this
    · have c' : ¬ (((L s)[i]).toNat : Int) = (b.toNat : Int) := fun h => c ((byte_eq _ _).1 h)
      simp only [if_neg c']
      rw [parts_miss _ _ _ _ c]
      have := ih (i + 1) fr acc (by omega) (by omega) (by omega)
      have ht : ((L s).drop fr).take (i + 1 - fr) = ((L s).drop fr).take (i - fr) ++ [(L s)[i]] := by
        rw [show i + 1 - fr = (i - fr) + 1 by omega, List.take_succ_eq_append_getElem (by rw [List.length_drop]; omega)]
        congr 2
        rw [List.getElem_drop]
        congr 1
        omega
      rw [ht] at this
      exact this
theorem implSplit_ev (s : ByteArray) (b : UInt8) (hn : s.size ≤ 4398046511104) : Ev (fun k => impl_split.f k s (b.toNat : Int)) (partsS b [] (L s)) := by
  have := implSplit_l s b hn s.size 0 0 [] (by omega) (by omega) (by simp)
  unfold impl_split.f
  simpa using this

theorem split_none (b : UInt8) : ∀ l : List UInt8, b ∉ l → splitL b l = (l, []) := by
  intro l
  induction l with
  | nil => intro _; rfl
  | cons c t ih =>
    intro h
    rw [List.mem_cons, not_or] at h
    rw [splitL, if_neg (fun e => h.1 e.symm), ih h.2]
theorem split_some (b : UInt8) : ∀ l : List UInt8, b ∈ l → (splitL b l).2 ≠ [] := by
  intro l
  induction l with
  | nil => intro h; cases h
  | cons c t ih =>
    intro h
    by_cases e : c = b
    · rw [splitL, if_pos e]; simp
    · rw [splitL, if_neg e]
      rw [List.mem_cons] at h
      exact ih (h.resolve_left (fun x => e x.symm))
theorem split_first (b : UInt8) : ∀ l : List UInt8, b ∉ (splitL b l).1 ∧ (splitL b l).1.length ≤ l.length := by
  intro l
  induction l with
  | nil => simp [splitL]
  | cons c t ih =>
    by_cases e : c = b
    · rw [splitL, if_pos e]; simp
    · rw [splitL, if_neg e]
      refine ⟨?_, by simp; exact ih.2⟩
      rw [List.mem_cons, not_or]
      exact ⟨fun x => e x.symm, ih.1⟩
theorem parts_gt (b : UInt8) (s : ByteArray) : ((partsS b [] (L s)).length : Int) > 1 ↔ b ∈ L s := by
  unfold partsS
  by_cases h : b ∈ L s
  · have := split_some b (L s) h
    simp only [h, iff_true, List.length_cons, List.length_map]
    have h2 : 0 < (splitL b (L s)).2.length := List.length_pos_iff.2 this
    omega
  · simp [h, split_none b (L s) h]
theorem b35 : ((35 : UInt8).toNat : Int) = 35 := rfl

theorem implAppend_ev (s : ByteArray) (r : Int) (hn : s.size ≤ 1048576) (r0 : 0 ≤ r) (r1 : r < 999979) (hsz : (numS r).size ≤ 1000000) (e2 : Ev (fun k => impl_Checksum.f k s) (if (s.size : Int) > 4000 then (0, false) else (r, true))) :
    Ev (fun k => impl_AppendChecksum.f k s) (if (s.size : Int) > 4000 then ((⟨#[]⟩ : ByteArray), false) else if (35 : UInt8) ∈ L s then ((⟨#[]⟩ : ByteArray), false) else if ((((s ++ (⟨#[35]⟩ : ByteArray)) ++ numS r).size : Nat) : Int) > 4000 then ((⟨#[]⟩ : ByteArray), false) else ((s ++ (⟨#[35]⟩ : ByteArray)) ++ numS r, true)) := by
  unfold impl_AppendChecksum.f
  have h1 : s.size + 1 ≤ 9223372036854775807 := by omega
  have h2 : ∀ t : ByteArray, t.size ≤ 1000000 → (s ++ (⟨#[35]⟩ : ByteArray)).size + t.size ≤ 9223372036854775807 := by
    intro t ht
    rw [ByteArray.size_append, show (⟨#[35]⟩ : ByteArray).size = 1 from rfl]
    omega
  by_cases c : (s.size : Int) > 4000
  · rw [if_pos c] at e2 ⊢
    refine ev_bind e2 ?_
    have h0 : (numS 0).size ≤ 1000000 := by rw [show (0 : Int) = ((0 : Nat) : Int) from rfl, numS_nat]; have := digS_size 0; omega
    simp only [if_pos h1]
    refine ev_bind (text_ev 0 (by omega) (by omega)) ?_
    simp only [if_pos (h2 _ h0), Bool.false_eq_true, if_false]
    exact ev_now _
  · rw [if_neg c] at e2 ⊢
    refine ev_bind e2 ?_
    simp only [if_pos h1]
    refine ev_bind (text_ev r (by omega) (by omega)) ?_
    simp only [if_pos (h2 _ hsz), if_true]
    refine ev_bind (implSplit_ev s 35 (by omega)) ?_
    by_cases m : (35 : UInt8) ∈ L s
    · simp only [if_pos ((parts_gt 35 s).2 m), if_pos m]
      exact ev_now _
    · simp only [if_neg (fun h => m ((parts_gt 35 s).1 h)), if_neg m]
      by_cases z : ((((s ++ (⟨#[35]⟩ : ByteArray)) ++ numS r).size : Nat) : Int) > 4000
      · simp only [if_pos z]; exact ev_now _
      · simp only [if_neg z]; exact ev_now _

theorem l1Split_l (s : ByteArray) (b : UInt8) (hn : s.size ≤ 4398046511104) : ∀ (d i fr : Nat) (acc : List ByteArray), i + d = s.size → fr ≤ i → acc.length ≤ i → Ev (fun k => spec_l1Split.l0 k s (b.toNat : Int) acc (fr : Int) (i : Int)) (acc ++ partsS b (((L s).drop fr).take (i - fr)) ((L s).drop i)) := by
  have hL := L_size s
  intro d
  induction d with
  | zero =>
    intro i fr acc hi hf ha
    refine ev_succ ?_
    simp only [spec_l1Split.l0, if_neg (show ¬ (i : Int) < (s.size : Int) by omega), if_pos (show (0 : Int) ≤ (fr : Int) by omega), if_pos (show (fr : Int) ≤ (s.size : Int) by omega), if_pos (show acc.length < 8796093022208 by omega), Int.toNat_natCast, List.drop_of_length_le (show (L s).length ≤ i by omega), parts_end, extract_mkS]
    rw [show s.size - fr = i - fr by omega]
    exact ev_now _
  | succ d ih =>
    intro i fr acc hi hf ha
    refine ev_succ ?_
    have hx : i < (L s).length := by omega
    simp only [spec_l1Split.l0, if_pos (show (i : Int) < (s.size : Int) by omega), if_pos (show (0 : Int) ≤ (i : Int) by omega), if_pos (show (0 : Int) ≤ (fr : Int) by omega), if_pos (show (fr : Int) ≤ (i : Int) by omega), if_pos (show (i : Int) ≤ (s.size : Int) by omega), if_pos (show acc.length < 8796093022208 by omega), Int.toNat_natCast, wsucc i (by omega), bt_L s i hx, extract_mkS]
    rw [List.drop_eq_getElem_cons hx]
    by_cases c : (L s)[i] = b
    · have c' : (((L s)[i]).toNat : Int) = (b.toNat : Int) := (byte_eq _ _).2 c
      simp only [if_pos c']
      rw [c, parts_hit]
      have := ih (i + 1) (i + 1) (acc ++ [mkS (((L s).drop fr).take (i - fr))]) (by omega) (by omega) (by simp; omega)
      rw [show i + 1 - (i + 1) = 0 by omega, List.take_zero, List.append_assoc, List.singleton_append] at this
      exact this
    · have c' : ¬ (((L s)[i]).toNat : Int) = (b.toNat : Int) := fun h => c ((byte_eq _ _).1 h)
      simp only [if_neg c']
      rw [parts_miss _ _ _ _ c]
      have := ih (i + 1) fr acc (by omega) (by omega) (by omega)
      have ht : ((L s).drop fr).take (i + 1 - fr) = ((L s).drop fr).take (i - fr) ++ [(L s)[i]] := by
        rw [show i + 1 - fr = (i - fr) + 1 by omega, List.take_succ_eq_append_getElem (by rw [List.length_drop]; omega)]
        congr 2
        rw [List.getElem_drop]
        congr 1
        omega
      rw [ht] at this
      exact this
theorem l1Split_ev (s : ByteArray) (b : UInt8) (hn : s.size ≤ 4398046511104) : Ev (fun k => spec_l1Split.f k s (b.toNat : Int)) (partsS b [] (L s)) := by
  have := l1Split_l s b hn s.size 0 0 [] (by omega) (by omega) (by simp)
  unfold spec_l1Split.f
  simpa using this

theorem FnExactVerifyChecksum : FnExactVerifyChecksum.Claim := by
  intro s hs
  refine Ev.rounds ?_
  unfold laws_FnExactVerifyChecksum.f
  by_cases h : (s.size : Int) > 1048576
  · simp only [if_pos h]; exact ev_now _
  simp only [if_neg h]
  have both : ∃ r : ByteArray × Bool, Ev (fun k => spec_VerifyChecksum.f k s) r ∧ Ev (fun k => impl_VerifyChecksum.f k s) r := by
    unfold spec_VerifyChecksum.f impl_VerifyChecksum.f
    by_cases c : (s.size : Int) > 4000
    · simp only [if_pos c]; exact ⟨_, ev_now _, ev_now _⟩
    · simp only [if_neg c]
      have hf := split_first 35 (L s)
      have hL := L_size s
      have ht : rdOf ByteArray.empty (partsS 35 [] (L s)) 0 = mkS (splitL 35 (L s)).1 := by simp [rdOf, partsS]
      have htl : (mkS (splitL 35 (L s)).1).size ≤ 4000 := by
        rw [← L_size, L_mkS]
        omega
      have hp : (0 : Int) < ((partsS 35 [] (L s)).length : Int) := by simp [partsS] <;> omega
      obtain ⟨r, r0, r1, e1, e2, e3, hz⟩ := sum_bounds (mkS (splitL 35 (L s)).1) (by omega)
      have hi := implAppend_ev (mkS (splitL 35 (L s)).1) r (by omega) r0 r1 hz e2
      rw [if_neg (by omega), if_neg (by rw [L_mkS]; exact hf.1)] at hi
      by_cases q : (mkS (splitL 35 (L s)).1 ++ (⟨#[35]⟩ : ByteArray)) ++ numS r = s
      · refine ⟨(mkS (splitL 35 (L s)).1, true), ev_bind (l1Split_ev s 35 (by omega)) ?_, ev_bind (implSplit_ev s 35 (by omega)) ?_⟩
        · simp only [if_pos hp, ht]
          refine ev_bind e3 ?_
          simp only [if_pos ((toList_iff _ _).2 q)]
          exact ev_now _
        · rw [if_neg (by rw [q]; exact c)] at hi
          simp only [if_pos hp, ht]
          refine ev_bind hi ?_
          simp only [if_true, if_pos ((toList_iff _ _).2 q)]
          exact ev_now _
      · refine ⟨((⟨#[]⟩ : ByteArray), false), ev_bind (l1Split_ev s 35 (by omega)) ?_, ev_bind (implSplit_ev s 35 (by omega)) ?_⟩
        · simp only [if_pos hp, ht]
          refine ev_bind e3 ?_
          simp only [if_neg (fun e => q ((toList_iff _ _).1 e))]
          exact ev_now _
        · simp only [if_pos hp, ht]
          refine ev_bind hi ?_
          by_cases z : (((((mkS (splitL 35 (L s)).1) ++ (⟨#[35]⟩ : ByteArray)) ++ numS r).size : Nat) : Int) > 4000
          · simp only [if_pos z, Bool.false_eq_true, if_false]; exact ev_now _
          · simp only [if_neg z, if_true, if_neg (fun e => q ((toList_iff _ _).1 e))]; exact ev_now _
  obtain ⟨r, e1, e2⟩ := both
  refine ev_bind e1 (ev_bind e2 ?_)
  simp only [if_true, bne_self_eq_false, Bool.false_eq_true, if_false]
  exact ev_now _

end Go.Proofs.Ytliongdcpemeiaa.Pure
