/- The program's function and the reference's come to the same answer: the statement of numbers and lists behind the law FnExactParseInt. Conditions: none. -/
import Derived.Test.YtliongdcpemeiaaArgFnExactParseInt
import Derived.Test.YtliongdcpemeiaaBase
namespace Go.Proofs.Ytliongdcpemeiaa.Pure
open Go.RowKit Go.Proofs.Ytliongdcpemeiaa.OFnExactParseInt Go.Proofs.Ytliongdcpemeiaa.Base Go.Proofs.YtliongdcpemeiaaW.PrintWords Go.Proofs.YtliongdcpemeiaaW.PrintLast Go.Proofs.YtliongdcpemeiaaW.PrintMore Go.Proofs.Ytliongdcpemeiaa.Open
set_option linter.unusedVariables false
set_option linter.unusedSimpArgs false

theorem tdivN (n : Nat) : Int.tdiv (n : Int) 10 = ((n / 10 : Nat) : Int) := by
  rw [Int.tdiv_eq_ediv_of_nonneg (by omega)]; omega
theorem tmodN (n : Nat) : Int.tmod (n : Int) 10 = ((n % 10 : Nat) : Int) := by
  rw [Int.tmod_eq_emod_of_nonneg (by omega)]; omega
theorem wN (n : Nat) (h : n ≤ 4611686018427387904) : wrap64 (n : Int) = (n : Int) := w64 (by omega) (by omega)
theorem one_ext_size (n : Nat) (h : n < 10) : ((⟨#[48, 49, 50, 51, 52, 53, 54, 55, 56, 57]⟩ : ByteArray).extract n (n + 1)).size = 1 := by
  rw [digits_extract n h]; rfl
/-- A number that may be negative, as it is written. -/
def numS (n : Int) : ByteArray := if n < 0 then (⟨#[45]⟩ : ByteArray) ++ digS n.natAbs else digS n.natAbs
theorem numS_nat (n : Nat) : numS (n : Int) = digS n := by
  unfold numS
  rw [if_neg (by omega)]
  rfl
theorem digS_size' (n : Nat) (h : n ≤ 1152921504606846976) : (digS n).size ≤ 1152921504606846977 := by
  have := digS_size n
  omega

def isDig (c : UInt8) : Bool := decide (48 ≤ c.toNat) && decide (c.toNat ≤ 57)
def valF (n : Nat) (l : List UInt8) : Nat := l.foldl (fun n c => 10 * n + (c.toNat - 48)) n
theorem valF_cons (n : Nat) (c : UInt8) (l : List UInt8) : valF n (c :: l) = valF (10 * n + (c.toNat - 48)) l := by unfold valF; rw [List.foldl_cons]
theorem valF_snoc (n : Nat) (c : UInt8) (l : List UInt8) : valF n (l ++ [c]) = 10 * valF n l + (c.toNat - 48) := by simp [valF]
theorem byte_of (c : UInt8) (h : isDig c = true) : UInt8.ofNat (48 + (c.toNat - 48)) = c := by
  simp only [isDig, Bool.and_eq_true, decide_eq_true_eq] at h
  rw [show 48 + (c.toNat - 48) = c.toNat by omega]
  exact UInt8.ofNat_toNat
theorem snoc_ind {α : Type} {P : List α → Prop} (nil : P []) (snoc : ∀ t c, P t → P (t ++ [c])) (l : List α) : P l := by
  have key : ∀ (n : Nat) (l : List α), l.length = n → P l := by
    intro n
    induction n with
    | zero => intro l hl; rw [List.length_eq_zero_iff.1 hl]; exact nil
    | succ n ih =>
      intro l hl
      have hne : l ≠ [] := fun e => by rw [e] at hl; simp at hl
      rw [← List.dropLast_concat_getLast hne]
      exact snoc _ _ (ih _ (by rw [List.length_dropLast]; omega))
  exact key _ l rfl
/-- Written as a number is: a single digit, or more of which the first is not 0. -/
def canon (l : List UInt8) : Prop := l ≠ [] ∧ (l.length = 1 ∨ l.head? ≠ some 48)
theorem valF_pos (l : List UInt8) (hd : l.all isDig = true) (h : l ≠ []) (h0 : l.head? ≠ some 48) : 10 ^ (l.length - 1) ≤ valF 0 l := by
  induction l using snoc_ind with
  | nil => exact absurd rfl h
  | snoc t c ih =>
    rw [valF_snoc]
    by_cases ht : t = []
    · subst ht
      simp only [List.nil_append, List.all_cons, List.all_nil, Bool.and_true] at hd
      simp only [isDig, Bool.and_eq_true, decide_eq_true_eq] at hd
      have hne : c ≠ 48 := by simpa using h0
      have : c.toNat ≠ 48 := fun e => hne (UInt8.toNat_inj.1 (by rw [e]; rfl))
      simp [valF]
      omega
    · have hh : t.head? ≠ some 48 := by
        intro e
        apply h0
        rw [List.head?_append, e]
        rfl
      rw [List.all_append, Bool.and_eq_true] at hd
      have := ih hd.1 ht hh
      rw [List.length_append, List.length_singleton, Nat.add_sub_cancel]
      have hl : 0 < t.length := List.length_pos_iff.2 ht
      have hp : 10 ^ t.length = 10 ^ (t.length - 1) * 10 := by rw [← Nat.pow_succ]; congr 1; omega
      omega
theorem valF_lt (l : List UInt8) (hd : l.all isDig = true) : valF 0 l < 10 ^ l.length := by
  induction l using snoc_ind with
  | nil => simp [valF]
  | snoc t c ih =>
    rw [List.all_append, Bool.and_eq_true] at hd
    have h1 := ih hd.1
    have h2 : isDig c = true := by simpa using hd.2
    simp only [isDig, Bool.and_eq_true, decide_eq_true_eq] at h2
    rw [valF_snoc, List.length_append, List.length_singleton, Nat.pow_succ]
    omega
theorem dig_val (l : List UInt8) (hd : l.all isDig = true) (hc : canon l) : dig (valF 0 l) = l := by
  induction l using snoc_ind with
  | nil => exact absurd rfl hc.1
  | snoc t c ih =>
    rw [List.all_append, Bool.and_eq_true] at hd
    have h2 : isDig c = true := by simpa using hd.2
    have hb := byte_of c h2
    simp only [isDig, Bool.and_eq_true, decide_eq_true_eq] at h2
    rw [valF_snoc]
    by_cases ht : t = []
    · subst ht
      rw [show 10 * valF 0 [] + (c.toNat - 48) = c.toNat - 48 by simp [valF], dig_lt (by omega), hb]
      rfl
    · have hh : t.head? ≠ some 48 := by
        intro e
        rcases hc.2 with h1 | h1
        · have hl : 0 < t.length := List.length_pos_iff.2 ht
          simp at h1
          exact ht h1
        · apply h1
          rw [List.head?_append, e]
          rfl
      have hp := valF_pos t hd.1 ht hh
      have hp1 : 1 ≤ 10 ^ (t.length - 1) := Nat.one_le_pow _ _ (by omega)
      rw [dig_ge (by omega), show (10 * valF 0 t + (c.toNat - 48)) / 10 = valF 0 t by omega, show (10 * valF 0 t + (c.toNat - 48)) % 10 = c.toNat - 48 by omega, hb, ih hd.1 ⟨ht, Or.inr hh⟩]
theorem dig_ne (n : Nat) : dig n ≠ [] := by
  by_cases h : n < 10
  · rw [dig_lt h]; simp
  · rw [dig_ge h]; simp
theorem dig_length_ge (n : Nat) (h : ¬ n < 10) : 2 ≤ (dig n).length := by
  rw [dig_ge h, List.length_append, List.length_singleton]
  have := List.length_pos_iff.2 (dig_ne (n / 10))
  omega
theorem dig_canon (n : Nat) : canon (dig n) := by
  induction n using Nat.strongRecOn with
  | ind n ih =>
    by_cases h : n < 10
    · rw [dig_lt h]; exact ⟨by simp, Or.inl rfl⟩
    · rw [dig_ge h]
      obtain ⟨h1, h2⟩ := ih (n / 10) (by omega)
      refine ⟨by simp, Or.inr ?_⟩
      rw [List.head?_append]
      rcases h2 with h2 | h2
      · by_cases h10 : n / 10 < 10
        · rw [dig_lt h10]
          have : UInt8.ofNat (48 + n / 10) ≠ 48 := by
            intro e
            have := congrArg UInt8.toNat e
            rw [UInt8.toNat_ofNat'] at this
            have h48 : (48 : UInt8).toNat = 48 := rfl
            omega
          simpa using this
        · have := dig_length_ge (n / 10) h10
          omega
      · obtain ⟨x, hx⟩ : ∃ x, (dig (n / 10)).head? = some x := by
          cases hd : dig (n / 10) with
          | nil => exact absurd hd h1
          | cons a t => exact ⟨a, rfl⟩
        rw [hx]
        rw [hx] at h2
        simpa using h2

theorem dig_step (n : Nat) (c : UInt8) (h1 : ¬ ((c.toNat : Int) < 48)) (h2 : ¬ ((c.toNat : Int) > 57)) (hn : n ≤ 1000000000) : wrap64 ((wrap64 (10 * (n : Int))) + (((c.toNat : Int) - 48) % 256)) = ((10 * n + (c.toNat - 48) : Nat) : Int) := by
  rw [w64 (x := 10 * (n : Int)) (by omega) (by omega), w64 (by omega) (by omega)]
  omega
theorem isDig_iff (c : UInt8) : isDig c = true ↔ ¬ ((c.toNat : Int) < 48) ∧ ¬ ((c.toNat : Int) > 57) := by
  simp only [isDig, Bool.and_eq_true, decide_eq_true_eq]
  omega
theorem number_l (s : ByteArray) (hs : s.size ≤ 9) : ∀ (d i n : Nat), i + d = s.size → n < 10 ^ i → Ev (fun k => impl_number.l0 k s (n : Int) (i : Int)) (if ((L s).drop i).all isDig = true then ((valF n ((L s).drop i) : Nat), true) else (0, false)) := by
  have hL := L_size s
  intro d
  induction d with
  | zero =>
    intro i n hi hn
    refine ev_succ ?_
    simp only [impl_number.l0, if_neg (show ¬ (i : Int) < (s.size : Int) by omega), List.drop_of_length_le (show (L s).length ≤ i by omega)]
    exact ev_const (by simp [valF])
  | succ d ih =>
    intro i n hi hn
    refine ev_succ ?_
    have hx : i < (L s).length := by omega
    have hp : 10 ^ i ≤ 10 ^ 8 := Nat.pow_le_pow_right (by omega) (by omega)
    rw [List.drop_eq_getElem_cons hx, List.all_cons, valF_cons]
    simp only [impl_number.l0, if_pos (show (i : Int) < (s.size : Int) by omega), if_pos (show (0 : Int) ≤ (i : Int) by omega), wsucc i (by omega), bt_L s i hx]
    by_cases c : isDig (L s)[i] = true
    · have c' := (isDig_iff _).1 c
      have c'' := c
      simp only [isDig, Bool.and_eq_true, decide_eq_true_eq] at c''
      simp only [if_neg c'.1, if_neg c'.2, dig_step n _ c'.1 c'.2 (by omega), c, Bool.true_and]
      exact ih (i + 1) _ (by omega) (by rw [Nat.pow_succ]; omega)
    · have c' : ¬ (¬ (((L s)[i].toNat : Int) < 48) ∧ ¬ (((L s)[i].toNat : Int) > 57)) := fun h => c ((isDig_iff _).2 h)
      have cf : isDig (L s)[i] = false := by simpa using c
      simp only [cf, Bool.false_and, Bool.false_eq_true, if_false]
      by_cases h1 : ((L s)[i].toNat : Int) < 48
      · simp only [if_pos h1]; exact ev_now _
      · have h2 : ((L s)[i].toNat : Int) > 57 := by omega
        simp only [if_neg h1, if_pos h2]; exact ev_now _
instance (l : List UInt8) : Decidable (canon l) := by unfold canon; infer_instance
theorem number_ev (s : ByteArray) (hs : s.size ≤ 1048576) : Ev (fun k => impl_number.f k s) (if canon (L s) ∧ (L s).length ≤ 9 ∧ (L s).all isDig = true then ((valF 0 (L s) : Nat), true) else (0, false)) := by
  have hL := L_size s
  unfold impl_number.f
  have no : ∀ b : Bool, b = true → Ev (fun k => impl_number.j0 k s b) (0, false) := fun b hb => ev_succ (by subst hb; simp only [impl_number.j0, if_true]; exact ev_now _)
  by_cases h0 : (s.size : Int) = 0
  · simp only [if_pos h0]
    rw [if_neg (fun h => h.1.1 (List.length_eq_zero_iff.1 (by omega)))]
    exact no _ rfl
  simp only [if_neg h0]
  by_cases h9 : (s.size : Int) > 9
  · simp only [if_pos h9]
    rw [if_neg (fun h => by have := h.2.1; omega)]
    exact no _ rfl
  simp only [if_neg h9, if_pos (show (0 : Int) < (s.size : Int) by omega)]
  have hx : 0 < (L s).length := by omega
  have hb := bt_L s 0 hx
  have hhead : (L s).head? = some (L s)[0] := by rw [List.head?_eq_getElem?, List.getElem?_eq_getElem hx]
  have yes : ∀ b : Bool, b = false → Ev (fun k => impl_number.j0 k s b) (if (L s).all isDig = true then ((valF 0 (L s) : Nat), true) else (0, false)) := fun b hb => ev_succ (by
    subst hb
    simp only [impl_number.j0, Bool.false_eq_true, if_false]
    have := number_l s (by omega) s.size 0 0 (by omega) (by simp)
    simpa using this)
  rw [show bt s 0 = (((L s)[0]).toNat : Int) from hb]
  by_cases c : (L s)[0] = 48
  · have c' : (((L s)[0]).toNat : Int) = 48 := by rw [c]; rfl
    simp only [if_pos c']
    by_cases h1 : (s.size : Int) > 1
    · rw [if_neg (fun h => h.1.2.elim (fun e => by omega) (fun e => e (by rw [hhead, c])))]
      exact no _ (decide_eq_true h1)
    · have hc : canon (L s) := ⟨fun e => by rw [e] at hx; simp at hx, Or.inl (by omega)⟩
      have := yes _ (decide_eq_false h1)
      by_cases hd : (L s).all isDig = true
      · rw [if_pos ⟨hc, by omega, hd⟩]; rw [if_pos hd] at this; exact this
      · rw [if_neg (fun h => hd h.2.2)]; rw [if_neg hd] at this; exact this
  · have c' : ¬ (((L s)[0]).toNat : Int) = 48 := fun e => c (UInt8.toNat_inj.1 (by have h48 : (48 : UInt8).toNat = 48 := rfl; omega))
    simp only [if_neg c']
    have hc : canon (L s) := ⟨fun e => by rw [e] at hx; simp at hx, Or.inr (by rw [hhead]; simpa using c)⟩
    have := yes _ rfl
    by_cases hd : (L s).all isDig = true
    · rw [if_pos ⟨hc, by omega, hd⟩]; rw [if_pos hd] at this; exact this
    · rw [if_neg (fun h => hd h.2.2)]; rw [if_neg hd] at this; exact this

theorem l1Num_nat : ∀ n : Nat, n ≤ 1152921504606846976 → Ev (fun k => spec_l1Num.f k (n : Int)) (digS n) := by
  intro n
  induction n using Nat.strongRecOn with
  | ind n ih =>
    intro hn
    refine ev_succ ?_
    by_cases h : n < 10
    · simp only [spec_l1Num.f, if_neg (show ¬ (n : Int) < 0 by omega), if_pos (show (n : Int) < 10 by omega), if_pos (show (0 : Int) ≤ (n : Int) by omega), wsucc n (by omega), if_pos (show (n : Int) ≤ ((n + 1 : Nat) : Int) by omega), if_pos (show ((n + 1 : Nat) : Int) ≤ 10 by omega), Int.toNat_natCast, digits_extract n h]
      rw [digS_lt h]
      exact ev_now _
    · have hd : n % 10 < 10 := by omega
      have hs := digS_size (n / 10)
      simp only [spec_l1Num.f, if_neg (show ¬ (n : Int) < 0 by omega), if_neg (show ¬ (n : Int) < 10 by omega), tdivN, tmodN, wN (n / 10) (by omega), wsucc (n % 10) (by omega), if_pos (show (0 : Int) ≤ ((n % 10 : Nat) : Int) by omega), if_pos (show ((n % 10 : Nat) : Int) ≤ ((n % 10 + 1 : Nat) : Int) by omega), if_pos (show ((n % 10 + 1 : Nat) : Int) ≤ 10 by omega), Int.toNat_natCast]
      refine ev_bind (ih (n / 10) (by omega) (by omega)) ?_
      simp only [if_pos (show (digS (n / 10)).size + ((⟨#[48, 49, 50, 51, 52, 53, 54, 55, 56, 57]⟩ : ByteArray).extract (n % 10) (n % 10 + 1)).size ≤ 9223372036854775807 by rw [one_ext_size _ hd]; omega)]
      simp only [digits_extract _ hd]
      rw [digS_ge h]
      exact ev_now _
theorem l1Num_ev (n : Int) (h0 : -1152921504606846976 ≤ n) (h1 : n ≤ 1152921504606846976) : Ev (fun k => spec_l1Num.f k n) (numS n) := by
  by_cases h : n < 0
  · unfold numS
    rw [if_pos h]
    refine ev_succ ?_
    have hw : wrap64 (-n) = ((n.natAbs : Nat) : Int) := by rw [w64 (by omega) (by omega)]; omega
    have hs := digS_size n.natAbs
    simp only [spec_l1Num.f, if_pos h, hw]
    refine ev_bind (l1Num_nat n.natAbs (by omega)) ?_
    simp only [if_pos (show 1 + (digS n.natAbs).size ≤ 9223372036854775807 by omega)]
    exact ev_now _
  · obtain ⟨m, rfl⟩ := Int.eq_ofNat_of_zero_le (show 0 ≤ n by omega)
    rw [numS_nat]
    exact l1Num_nat m (by omega)

theorem l1In_eq (a b c : Int) : spec_l1In.f a b c = some (decide (b ≤ a) && decide (a ≤ c)) := by
  unfold spec_l1In.f
  by_cases h : b ≤ a
  · rw [if_pos h]; simp [h]
  · rw [if_neg h]; simp [h]

/-- What a string of digits t, of a whole string s with or without a sign, reads as. -/
def readOf (s : ByteArray) (neg : Bool) (v : Nat) : Int × Bool := if numS (if neg then -(v : Int) else (v : Int)) = s then ((if neg then -(v : Int) else (v : Int)), true) else (0, false)
theorem l1Read_l (s t : ByteArray) (neg : Bool) (ht : t.size ≤ 6) (hst : if neg = true then t.size < s.size else t.size = s.size) : ∀ (d i n : Nat), i + d = t.size → n < 10 ^ i → Ev (fun k => spec_l1Read.l0 k s t (n : Int) (i : Int)) (if ((L t).drop i).all isDig = true then readOf s neg (valF n ((L t).drop i)) else (0, false)) := by
  have hL := L_size t
  intro d
  induction d with
  | zero =>
    intro i n hi hn
    refine ev_succ ?_
    have hp : 10 ^ i ≤ 10 ^ 6 := Nat.pow_le_pow_right (by omega) (by omega)
    simp only [spec_l1Read.l0, if_neg (show ¬ (i : Int) < (t.size : Int) by omega), List.drop_of_length_le (show (L t).length ≤ i by omega), List.all_nil, if_true, valF, List.foldl_nil]
    unfold readOf
    cases neg
    · simp only [Bool.false_eq_true, if_false] at hst ⊢
      simp only [if_neg (show ¬ (t.size : Int) < (s.size : Int) by omega)]
      refine ev_bind (l1Num_ev n (by omega) (by omega)) ?_
      by_cases q : numS (n : Int) = s
      · simp only [if_pos ((toList_iff _ _).2 q), if_pos q]; exact ev_now _
      · simp only [if_neg (fun e => q ((toList_iff _ _).1 e)), if_neg q]; exact ev_now _
    · simp only [if_true] at hst ⊢
      simp only [if_pos (show (t.size : Int) < (s.size : Int) by omega), w64 (x := -(n : Int)) (by omega) (by omega)]
      refine ev_bind (l1Num_ev (-(n : Int)) (by omega) (by omega)) ?_
      by_cases q : numS (-(n : Int)) = s
      · simp only [if_pos ((toList_iff _ _).2 q), if_pos q]; exact ev_now _
      · simp only [if_neg (fun e => q ((toList_iff _ _).1 e)), if_neg q]; exact ev_now _
  | succ d ih =>
    intro i n hi hn
    refine ev_succ ?_
    have hx : i < (L t).length := by omega
    have hp : 10 ^ i ≤ 10 ^ 6 := Nat.pow_le_pow_right (by omega) (by omega)
    rw [List.drop_eq_getElem_cons hx, List.all_cons, valF_cons]
    simp only [spec_l1Read.l0, if_pos (show (i : Int) < (t.size : Int) by omega), if_pos (show (0 : Int) ≤ (i : Int) by omega), wsucc i (by omega), bt_L t i hx]
    by_cases c : isDig (L t)[i] = true
    · have c' := (isDig_iff _).1 c
      have c'' := c
      simp only [isDig, Bool.and_eq_true, decide_eq_true_eq] at c''
      simp only [if_neg c'.1, if_neg c'.2, dig_step n _ c'.1 c'.2 (by omega), c, Bool.true_and]
      exact ih (i + 1) _ (by omega) (by rw [Nat.pow_succ]; omega)
    · have c' : ¬ (¬ (((L t)[i].toNat : Int) < 48) ∧ ¬ (((L t)[i].toNat : Int) > 57)) := fun h => c ((isDig_iff _).2 h)
      have cf : isDig (L t)[i] = false := by simpa using c
      simp only [cf, Bool.false_and, Bool.false_eq_true, if_false]
      by_cases h1 : ((L t)[i].toNat : Int) < 48
      · simp only [if_pos h1]; exact ev_now _
      · have h2 : ((L t)[i].toNat : Int) > 57 := by omega
        simp only [if_neg h1, if_pos h2]; exact ev_now _
theorem l1Read_j1 (s t : ByteArray) (neg : Bool) (hst : if neg = true then t.size < s.size else t.size = s.size) : Ev (fun k => spec_l1Read.j1 k s t) (if 1 ≤ (L t).length ∧ (L t).length ≤ 6 ∧ (L t).all isDig = true then readOf s neg (valF 0 (L t)) else (0, false)) := by
  have hL := L_size t
  refine ev_succ ?_
  simp only [spec_l1Read.j1, l1In_eq, Option.bind_some]
  by_cases h : 1 ≤ t.size ∧ t.size ≤ 6
  · have e1 : decide ((1 : Int) ≤ (t.size : Int)) = true := decide_eq_true (by omega)
    have e2 : decide ((t.size : Int) ≤ 6) = true := decide_eq_true (by omega)
    simp only [e1, e2, Bool.and_self, if_true]
    have := l1Read_l s t neg h.2 hst t.size 0 0 (by omega) (by simp)
    simp only [List.drop_zero] at this
    by_cases hd : (L t).all isDig = true
    · rw [if_pos ⟨by omega, by omega, hd⟩]; rw [if_pos hd] at this; exact this
    · rw [if_neg (fun h => hd h.2.2)]; rw [if_neg hd] at this; exact this
  · have e : (decide ((1 : Int) ≤ (t.size : Int)) && decide ((t.size : Int) ≤ 6)) = false := by
      rw [Bool.and_eq_false_iff]
      by_cases h1 : 1 ≤ t.size
      · right; exact decide_eq_false (by omega)
      · left; exact decide_eq_false (by omega)
    simp only [e, Bool.false_eq_true, if_false]
    rw [if_neg (by omega)]
    exact ev_now _

/-- A string cut at a byte: the first part, and the others. -/
def splitL (b : UInt8) : List UInt8 → List UInt8 × List (List UInt8)
  | [] => ([], [])
  | c :: t => if c = b then ([], (splitL b t).1 :: (splitL b t).2) else (c :: (splitL b t).1, (splitL b t).2)
def mkS (l : List UInt8) : ByteArray := ⟨l.toArray⟩
theorem mkS_L (s : ByteArray) : mkS (L s) = s := rfl
theorem L_mkS (l : List UInt8) : L (mkS l) = l := rfl
theorem extract_mkS (s : ByteArray) (a b : Nat) : s.extract a b = mkS (((L s).drop a).take (b - a)) := by
  apply L_inj
  rw [L_mkS]
  exact Go.Lib.extract_data s a b
theorem byte_eq (c b : UInt8) : ((c.toNat : Int) = (b.toNat : Int)) ↔ c = b := by
  constructor
  · intro h
    exact UInt8.toNat_inj.1 (by omega)
  · intro h; rw [h]
/-- All parts, where a part has begun. -/
def partsS (b : UInt8) (pre l : List UInt8) : List ByteArray := mkS (pre ++ (splitL b l).1) :: (splitL b l).2.map mkS
theorem parts_hit (b : UInt8) (pre : List UInt8) (l : List UInt8) : partsS b pre (b :: l) = mkS pre :: partsS b [] l := by
  simp [partsS, splitL]
theorem parts_miss (b : UInt8) (pre : List UInt8) (c : UInt8) (l : List UInt8) (h : c ≠ b) : partsS b pre (c :: l) = partsS b (pre ++ [c]) l := by
  simp [partsS, splitL, h]
theorem parts_end (b : UInt8) (pre : List UInt8) : partsS b pre [] = [mkS pre] := by
  simp [partsS, splitL]

theorem numS_neg (v : Nat) (h : 0 < v) : numS (-(v : Int)) = (⟨#[45]⟩ : ByteArray) ++ digS v := by
  unfold numS
  rw [if_pos (by omega)]
  congr 2
  omega
/-- For digits: the reference's and the program's conditions are the same. -/
theorem cond_iff (t : List UInt8) (hd : t.all isDig = true) : (1 ≤ t.length ∧ t.length ≤ 6 ∧ dig (valF 0 t) = t) ↔ (canon t ∧ t.length ≤ 9 ∧ valF 0 t ≤ 999999) := by
  constructor
  · rintro ⟨h1, h6, he⟩
    have hc : canon t := by rw [← he]; exact dig_canon _
    have := valF_lt t hd
    have hp : 10 ^ t.length ≤ 10 ^ 6 := Nat.pow_le_pow_right (by omega) h6
    exact ⟨hc, by omega, by omega⟩
  · rintro ⟨hc, h9, hv⟩
    have he := dig_val t hd hc
    have h1 : 1 ≤ t.length := List.length_pos_iff.2 hc.1
    refine ⟨h1, ?_, he⟩
    rcases hc.2 with e | e
    · omega
    · have := valF_pos t hd hc.1 e
      rcases Nat.lt_or_ge 6 t.length with h | h
      · have hp : 10 ^ 6 ≤ 10 ^ (t.length - 1) := Nat.pow_le_pow_right (by omega) (by omega)
        omega
      · exact h
theorem big (T : List UInt8) (hc : ¬ (canon T ∧ T.length ≤ 9 ∧ valF 0 T ≤ 999999)) (hcc : canon T ∧ T.length ≤ 9) : valF 0 T > 999999 := by
  rcases Nat.lt_or_ge 999999 (valF 0 T) with q | q
  · exact q
  · exact absurd ⟨hcc.1, hcc.2, q⟩ hc
theorem digS_iff (v : Nat) (s : ByteArray) : digS v = s ↔ dig v = L s := by
  constructor
  · rintro rfl; rfl
  · intro h; exact L_inj (by rw [← h]; rfl)
theorem FnExactParseInt : FnExactParseInt.Claim := by
  intro s hs
  refine Ev.rounds ?_
  unfold laws_FnExactParseInt.f
  by_cases h : (s.size : Int) > 1048576
  · simp only [if_pos h]; exact ev_now _
  simp only [if_neg h]
  have hL := L_size s
  have both : ∃ r : Int × Bool, Ev (fun k => spec_l1Read.f k s) r ∧ Ev (fun k => impl_ParseInt.f k s) r := by
    unfold spec_l1Read.f impl_ParseInt.f
    by_cases hneg : 0 < s.size ∧ bt s 0 = 45
    · -- a sign
      simp only [if_pos (show (s.size : Int) > 0 by omega), if_pos (show (0 : Int) < (s.size : Int) by omega)]
      have hb : (bt s 0 == 45) = true := by rw [hneg.2]; rfl
      simp only [hb]
      have hx : 0 < (L s).length := by omega
      have h45 : (L s)[0] = 45 := by
        have := bt_L s 0 hx
        rw [show ((0 : Nat) : Int) = 0 from rfl, hneg.2] at this
        exact UInt8.toNat_inj.1 (by have h45 : (45 : UInt8).toNat = 45 := rfl; omega)
      have hsc : L s = 45 :: (L s).drop 1 := by
        have := List.drop_eq_getElem_cons hx
        rw [List.drop_zero, h45] at this
        exact this
      have ht : L (s.extract 1 s.size) = (L s).drop 1 := by
        rw [extract_mkS, L_mkS, List.take_of_length_le (by rw [List.length_drop]; omega)]
      have htz : (s.extract 1 s.size).size = s.size - 1 := by
        rw [← L_size, ht, List.length_drop, hL]
      have himpl := number_ev (s.extract 1 s.size) (by omega)
      rw [ht] at himpl
      by_cases h1 : s.size = 1
      · -- the sign alone
        have hnil : (L s).drop 1 = [] := List.drop_of_length_le (by omega)
        rw [hnil] at himpl hsc
        rw [if_neg (fun h => h.1.1 rfl)] at himpl
        simp only [if_neg (show ¬ (s.size : Int) > 1 by omega)]
        have hsp := l1Read_j1 s s false (by simp)
        rw [if_neg (fun h => by have h3 := h.2.2; rw [hsc] at h3; exact absurd h3 (by decide))] at hsp
        refine ⟨(0, false), ev_succ (by simp only [spec_l1Read.j0, Bool.false_eq_true, if_false]; exact hsp), ev_succ ?_⟩
        simp only [impl_ParseInt.j0, if_true, if_pos (show (1 : Int) ≤ (s.size : Int) by omega)]
        refine ev_bind himpl ?_
        simp only [Bool.false_eq_true, if_false]
        exact ev_now _
      · simp only [if_pos (show (s.size : Int) > 1 by omega)]
        have hsp := l1Read_j1 s (s.extract 1 s.size) true (by simp only [if_true]; omega)
        rw [ht] at hsp
        have key : (if 1 ≤ ((L s).drop 1).length ∧ ((L s).drop 1).length ≤ 6 ∧ ((L s).drop 1).all isDig = true then readOf s true (valF 0 ((L s).drop 1)) else (0, false)) = (if canon ((L s).drop 1) ∧ ((L s).drop 1).length ≤ 9 ∧ ((L s).drop 1).all isDig = true then (if valF 0 ((L s).drop 1) > 999999 ∨ valF 0 ((L s).drop 1) = 0 then (0, false) else (-(valF 0 ((L s).drop 1) : Int), true)) else ((0 : Int), false)) := by
          generalize hT : (L s).drop 1 = T at *
          by_cases hd : T.all isDig = true
          · have hi := cond_iff T hd
            unfold readOf
            simp only [if_true, hd, and_true]
            by_cases hv : valF 0 T = 0
            · rw [if_neg (c := numS (-(valF 0 T : Int)) = s) (by
                rw [hv]
                intro e
                have e2 := congrArg L e
                rw [show (-((0 : Nat) : Int)) = ((0 : Nat) : Int) from rfl, numS_nat, hsc] at e2
                have : L (digS 0) = [48] := by rw [digS_lt (by omega)]; rfl
                rw [this] at e2
                injection e2 with a b
                exact absurd a (by decide))]
              simp only [hv, or_true, if_true, ite_self]
            · have hn := numS_neg (valF 0 T) (by omega)
              have hq : numS (-(valF 0 T : Int)) = s ↔ dig (valF 0 T) = T := by
                rw [hn]
                constructor
                · intro e
                  have e2 := congrArg L e
                  rw [L_append, hsc] at e2
                  have e3 : (45 : UInt8) :: L (digS (valF 0 T)) = 45 :: T := e2
                  injection e3 with _ b
                · intro e
                  apply L_inj
                  rw [L_append, hsc]
                  show (45 : UInt8) :: L (digS (valF 0 T)) = 45 :: T
                  rw [show L (digS (valF 0 T)) = dig (valF 0 T) from rfl, e]
              by_cases hc : canon T ∧ T.length ≤ 9 ∧ valF 0 T ≤ 999999
              · obtain ⟨a, b, c⟩ := hi.2 hc
                rw [if_pos ⟨a, b⟩, if_pos (hq.2 c), if_pos ⟨hc.1, hc.2.1⟩, if_neg (by omega)]
              · by_cases hab : 1 ≤ T.length ∧ T.length ≤ 6
                · rw [if_pos hab, if_neg (fun e => hc (hi.1 ⟨hab.1, hab.2, hq.1 e⟩))]
                  by_cases hcc : canon T ∧ T.length ≤ 9
                  · rw [if_pos hcc, if_pos (Or.inl (big T hc hcc))]
                  · rw [if_neg hcc]
                · rw [if_neg hab]
                  by_cases hcc : canon T ∧ T.length ≤ 9
                  · rw [if_pos hcc, if_pos (Or.inl (big T hc hcc))]
                  · rw [if_neg hcc]
          · rw [if_neg (fun h => hd h.2.2), if_neg (fun h => hd h.2.2)]
        rw [key] at hsp
        refine ⟨_, ev_succ (by simp only [spec_l1Read.j0, if_true, if_pos (show (1 : Int) ≤ (s.size : Int) by omega)]; exact hsp), ev_succ ?_⟩
        simp only [impl_ParseInt.j0, if_true, if_pos (show (1 : Int) ≤ (s.size : Int) by omega)]
        refine ev_bind himpl ?_
        generalize (L s).drop 1 = T at *
        by_cases hc : canon T ∧ T.length ≤ 9 ∧ T.all isDig = true
        · have hlt := valF_lt T hc.2.2
          have hp : 10 ^ T.length ≤ 10 ^ 9 := Nat.pow_le_pow_right (by omega) hc.2.1
          simp only [if_pos hc, if_true]
          by_cases hv : valF 0 T > 999999
          · simp only [if_pos (show ((valF 0 T : Nat) : Int) > 999999 by omega), if_pos (show valF 0 T > 999999 ∨ valF 0 T = 0 from Or.inl hv)]
            exact ev_now _
          · simp only [if_neg (show ¬ ((valF 0 T : Nat) : Int) > 999999 by omega)]
            by_cases hz : valF 0 T = 0
            · simp only [if_pos (show ((valF 0 T : Nat) : Int) = 0 by omega), if_pos (show (-1 : Int) < 0 by omega), if_pos (show valF 0 T > 999999 ∨ valF 0 T = 0 from Or.inr hz)]
              exact ev_now _
            · simp only [if_neg (show ¬ ((valF 0 T : Nat) : Int) = 0 by omega), if_neg (show ¬ (valF 0 T > 999999 ∨ valF 0 T = 0) by omega), show (-1 : Int) * ((valF 0 T : Nat) : Int) = -((valF 0 T : Nat) : Int) by omega, w64 (x := -((valF 0 T : Nat) : Int)) (by omega) (by omega)]
              exact ev_now _
        · simp only [if_neg hc, Bool.false_eq_true, if_false]
          exact ev_now _
    · -- no sign
      have himpl := number_ev s (by omega)
      have hsp := l1Read_j1 s s false (by simp)
      have key : (if 1 ≤ (L s).length ∧ (L s).length ≤ 6 ∧ (L s).all isDig = true then readOf s false (valF 0 (L s)) else (0, false)) = (if canon (L s) ∧ (L s).length ≤ 9 ∧ (L s).all isDig = true then (if valF 0 (L s) > 999999 then (0, false) else ((valF 0 (L s) : Int), true)) else ((0 : Int), false)) := by
        have hq := digS_iff (valF 0 (L s)) s
        generalize hT : L s = T at *
        by_cases hd : T.all isDig = true
        · have hi := cond_iff T hd
          unfold readOf
          simp only [Bool.false_eq_true, if_false, hd, and_true, numS_nat]
          by_cases hc : canon T ∧ T.length ≤ 9 ∧ valF 0 T ≤ 999999
          · obtain ⟨a, b, c⟩ := hi.2 hc
            rw [if_pos ⟨a, b⟩, if_pos (hq.2 c), if_pos ⟨hc.1, hc.2.1⟩, if_neg (by omega)]
          · by_cases hab : 1 ≤ T.length ∧ T.length ≤ 6
            · rw [if_pos hab, if_neg (fun e => hc (hi.1 ⟨hab.1, hab.2, hq.1 e⟩))]
              by_cases hcc : canon T ∧ T.length ≤ 9
              · rw [if_pos hcc, if_pos (big T hc hcc)]
              · rw [if_neg hcc]
            · rw [if_neg hab]
              by_cases hcc : canon T ∧ T.length ≤ 9
              · rw [if_pos hcc, if_pos (big T hc hcc)]
              · rw [if_neg hcc]
        · rw [if_neg (fun h => hd h.2.2), if_neg (fun h => hd h.2.2)]
      rw [key] at hsp
      refine ⟨(if canon (L s) ∧ (L s).length ≤ 9 ∧ (L s).all isDig = true then (if valF 0 (L s) > 999999 then (0, false) else ((valF 0 (L s) : Int), true)) else ((0 : Int), false)), ?_, ?_⟩
      · have hj : Ev (fun k => spec_l1Read.j0 k s s false) (if canon (L s) ∧ (L s).length ≤ 9 ∧ (L s).all isDig = true then (if valF 0 (L s) > 999999 then (0, false) else ((valF 0 (L s) : Int), true)) else ((0 : Int), false)) := ev_succ (by simp only [spec_l1Read.j0, Bool.false_eq_true, if_false]; exact hsp)
        by_cases h1 : (s.size : Int) > 1
        · have hb : (bt s 0 == 45) = false := by rw [beq_eq_false_iff_ne]; exact fun e => hneg ⟨by omega, e⟩
          simp only [if_pos h1, if_pos (show (0 : Int) < (s.size : Int) by omega), hb]
          exact hj
        · simp only [if_neg h1]
          exact hj
      · have hj : Ev (fun k => impl_ParseInt.j0 k s s 1 false) (if canon (L s) ∧ (L s).length ≤ 9 ∧ (L s).all isDig = true then (if valF 0 (L s) > 999999 then (0, false) else ((valF 0 (L s) : Int), true)) else ((0 : Int), false)) := by
          refine ev_succ ?_
          simp only [impl_ParseInt.j0, Bool.false_eq_true, if_false]
          refine ev_bind himpl ?_
          generalize L s = T at *
          by_cases hc : canon T ∧ T.length ≤ 9 ∧ T.all isDig = true
          · have hlt := valF_lt T hc.2.2
            have hp : 10 ^ T.length ≤ 10 ^ 9 := Nat.pow_le_pow_right (by omega) hc.2.1
            simp only [if_pos hc, if_true]
            by_cases hv : valF 0 T > 999999
            · simp only [if_pos (show ((valF 0 T : Nat) : Int) > 999999 by omega), if_pos hv]
              exact ev_now _
            · simp only [if_neg (show ¬ ((valF 0 T : Nat) : Int) > 999999 by omega), if_neg hv, if_neg (show ¬ (1 : Int) < 0 by omega), Int.one_mul, w64 (x := ((valF 0 T : Nat) : Int)) (by omega) (by omega), ite_self]
              exact ev_now _
          · simp only [if_neg hc, Bool.false_eq_true, if_false]
            exact ev_now _
        by_cases h1 : (s.size : Int) > 0
        · have hb : (bt s 0 == 45) = false := by rw [beq_eq_false_iff_ne]; exact fun e => hneg ⟨by omega, e⟩
          simp only [if_pos h1, if_pos (show (0 : Int) < (s.size : Int) by omega), hb]
          exact hj
        · simp only [if_neg h1]
          exact hj
  obtain ⟨r, e1, e2⟩ := both
  have e3 : Ev (fun k => spec_ParseInt.f k s) r := by
    unfold spec_ParseInt.f
    exact ev_bind e1 (ev_now _)
  refine ev_bind e3 (ev_bind e2 ?_)
  simp only [if_true, bne_self_eq_false, Bool.false_eq_true, if_false]
  exact ev_now _

end Go.Proofs.Ytliongdcpemeiaa.Pure
