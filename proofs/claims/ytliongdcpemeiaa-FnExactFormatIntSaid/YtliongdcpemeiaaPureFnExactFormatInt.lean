/- The program's function and the reference's come to the same answer: the statement of numbers and lists behind the law FnExactFormatInt. Conditions: none. -/
import Derived.Test.YtliongdcpemeiaaArgFnExactFormatInt
import Derived.Test.YtliongdcpemeiaaBase
namespace Go.Proofs.Ytliongdcpemeiaa.Pure
open Go.RowKit Go.Proofs.Ytliongdcpemeiaa.OFnExactFormatInt Go.Proofs.Ytliongdcpemeiaa.Base Go.Proofs.YtliongdcpemeiaaW.PrintWords Go.Proofs.YtliongdcpemeiaaW.PrintLast Go.Proofs.YtliongdcpemeiaaW.PrintMore Go.Proofs.Ytliongdcpemeiaa.Open
set_option linter.unusedVariables false
set_option linter.unusedSimpArgs false

theorem tdivN (n : Nat) : Int.tdiv (n : Int) 10 = ((n / 10 : Nat) : Int) := by
  rw [Int.tdiv_eq_ediv_of_nonneg (by omega)]; omega
theorem tmodN (n : Nat) : Int.tmod (n : Int) 10 = ((n % 10 : Nat) : Int) := by
  rw [Int.tmod_eq_emod_of_nonneg (by omega)]; omega
theorem wN (n : Nat) (h : n ≤ 4611686018427387904) : wrap64 (n : Int) = (n : Int) := w64 (by omega) (by omega)
theorem one_ext_size (n : Nat) (h : n < 10) : ((⟨#[48, 49, 50, 51, 52, 53, 54, 55, 56, 57]⟩ : ByteArray).extract n (n + 1)).size = 1 := by
  rw [digits_extract n h]; rfl
/-- A number that may be negative, as it is written. -/
def numS (n : Int) : ByteArray := if n < 0 then (⟨#[45]⟩ : ByteArray) ++ digS n.natAbs else digS n.natAbs
theorem numS_nat (n : Nat) : numS (n : Int) = digS n := by
  unfold numS
  rw [if_neg (by omega)]
  rfl
theorem digS_size' (n : Nat) (h : n ≤ 1152921504606846976) : (digS n).size ≤ 1152921504606846977 := by
  have := digS_size n
  omega

theorem l1Num_nat : ∀ n : Nat, n ≤ 1152921504606846976 → Ev (fun k => spec_l1Num.f k (n : Int)) (digS n) := by
  intro n
  induction n using Nat.strongRecOn with
  | ind n ih =>
    intro hn
    refine ev_succ ?_
    by_cases h : n < 10
    · simp only [spec_l1Num.f, if_neg (show ¬ (n : Int) < 0 by omega), if_pos (show (n : Int) < 10 by omega), if_pos (show (0 : Int) ≤ (n : Int) by omega), wsucc n (by omega), if_pos (show (n : Int) ≤ ((n + 1 : Nat) : Int) by omega), if_pos (show ((n + 1 : Nat) : Int) ≤ 10 by omega), Int.toNat_natCast, digits_extract n h]
      rw [digS_lt h]
      exact ev_now _
    · have hd : n % 10 < 10 := by omega
      have hs := digS_size (n / 10)
      simp only [spec_l1Num.f, if_neg (show ¬ (n : Int) < 0 by omega), if_neg (show ¬ (n : Int) < 10 by omega), tdivN, tmodN, wN (n / 10) (by omega), wsucc (n % 10) (by omega), if_pos (show (0 : Int) ≤ ((n % 10 : Nat) : Int) by omega), if_pos (show ((n % 10 : Nat) : Int) ≤ ((n % 10 + 1 : Nat) : Int) by omega), if_pos (show ((n % 10 + 1 : Nat) : Int) ≤ 10 by omega), Int.toNat_natCast]
      refine ev_bind (ih (n / 10) (by omega) (by omega)) ?_
      simp only [if_pos (show (digS (n / 10)).size + ((⟨#[48, 49, 50, 51, 52, 53, 54, 55, 56, 57]⟩ : ByteArray).extract (n % 10) (n % 10 + 1)).size ≤ 9223372036854775807 by rw [one_ext_size _ hd]; omega)]
      simp only [digits_extract _ hd]
      rw [digS_ge h]
      exact ev_now _
theorem l1Num_ev (n : Int) (h0 : -1152921504606846976 ≤ n) (h1 : n ≤ 1152921504606846976) : Ev (fun k => spec_l1Num.f k n) (numS n) := by
  by_cases h : n < 0
  · unfold numS
    rw [if_pos h]
    refine ev_succ ?_
    have hw : wrap64 (-n) = ((n.natAbs : Nat) : Int) := by rw [w64 (by omega) (by omega)]; omega
    have hs := digS_size n.natAbs
    simp only [spec_l1Num.f, if_pos h, hw]
    refine ev_bind (l1Num_nat n.natAbs (by omega)) ?_
    simp only [if_pos (show 1 + (digS n.natAbs).size ≤ 9223372036854775807 by omega)]
    exact ev_now _
  · obtain ⟨m, rfl⟩ := Int.eq_ofNat_of_zero_le (show 0 ≤ n by omega)
    rw [numS_nat]
    exact l1Num_nat m (by omega)

theorem text_l : ∀ (n : Nat) (acc : ByteArray), acc.size + n ≤ 2305843009213693952 → Ev (fun k => impl_text.l0 k (n : Int) acc) (digS n ++ acc) := by
  intro n
  induction n using Nat.strongRecOn with
  | ind n ih =>
    intro acc ha
    refine ev_succ ?_
    have hb : (wrap64 (48 + Int.tmod (n : Int) 10)) % 256 = ((48 + n % 10 : Nat) : Int) := by
      rw [tmodN, w64 (by omega) (by omega)]
      omega
    have hs1 : (strOfNums [((48 + n % 10 : Nat) : Int)]).size = 1 := rfl
    simp only [impl_text.l0, Option.bind_some, hb, tdivN, wN (n / 10) (by omega)]
    simp only [if_pos (show (strOfNums [((48 + n % 10 : Nat) : Int)]).size + acc.size ≤ 9223372036854775807 by omega)]
    rw [show strOfNums [((48 + n % 10 : Nat) : Int)] = (⟨#[UInt8.ofNat (48 + n % 10)]⟩ : ByteArray) from rfl]
    by_cases h : n < 10
    · simp only [if_pos (show ((n / 10 : Nat) : Int) = 0 by omega)]
      rw [digS_lt h, Nat.mod_eq_of_lt h]
      exact ev_now _
    · simp only [if_neg (show ¬ ((n / 10 : Nat) : Int) = 0 by omega)]
      rw [digS_ge h, ByteArray.append_assoc]
      refine ih (n / 10) (by omega) _ ?_
      rw [ByteArray.size_append, show (⟨#[UInt8.ofNat (48 + n % 10)]⟩ : ByteArray).size = 1 from rfl]
      omega
theorem text_nat (n : Nat) (hn : n ≤ 1152921504606846976) : Ev (fun k => impl_text.f k (n : Int)) (digS n) := by
  refine ev_succ ?_
  simp only [impl_text.f, if_neg (show ¬ (n : Int) < 0 by omega)]
  have := text_l n (⟨#[]⟩ : ByteArray) (by rw [show (⟨#[]⟩ : ByteArray).size = 0 from rfl]; omega)
  rw [show digS n ++ (⟨#[]⟩ : ByteArray) = digS n from L_inj (by rw [L_append]; simp [L])] at this
  exact this
theorem text_ev (n : Int) (h0 : -1152921504606846976 ≤ n) (h1 : n ≤ 1152921504606846976) : Ev (fun k => impl_text.f k n) (numS n) := by
  by_cases h : n < 0
  · unfold numS
    rw [if_pos h]
    refine ev_succ ?_
    have hw : wrap64 (-n) = ((n.natAbs : Nat) : Int) := by rw [w64 (by omega) (by omega)]; omega
    have hs := digS_size n.natAbs
    simp only [impl_text.f, if_pos h, hw]
    refine ev_bind (text_nat n.natAbs (by omega)) ?_
    simp only [if_pos (show 1 + (digS n.natAbs).size ≤ 9223372036854775807 by omega)]
    exact ev_now _
  · obtain ⟨m, rfl⟩ := Int.eq_ofNat_of_zero_le (show 0 ≤ n by omega)
    rw [numS_nat]
    exact text_nat m (by omega)

theorem within_eq (a b c : Int) : impl_within.f a b c = some (decide (b ≤ a) && decide (a ≤ c)) := by
  unfold impl_within.f
  by_cases h : b ≤ a
  · rw [if_pos h]; simp [h]
  · rw [if_neg h]; simp [h]

theorem l1In_eq (a b c : Int) : spec_l1In.f a b c = some (decide (b ≤ a) && decide (a ≤ c)) := by
  unfold spec_l1In.f
  by_cases h : b ≤ a
  · rw [if_pos h]; simp [h]
  · rw [if_neg h]; simp [h]

theorem FnExactFormatInt : FnExactFormatInt.Claim := by
  intro n hn
  refine Ev.rounds ?_
  unfold laws_FnExactFormatInt.f spec_FormatInt.f impl_FormatInt.f
  simp only [within_eq, l1In_eq, Option.bind_some]
  cases hb : (decide (-999999 ≤ n) && decide (n ≤ 999999))
  · simp only [Bool.false_eq_true, if_false, Option.bind_some, if_true, bne_self_eq_false]
    exact ev_now _
  · simp only [Bool.and_eq_true, decide_eq_true_eq] at hb
    simp only [if_true]
    refine ev_bind (ev_bind (l1Num_ev n (by omega) (by omega)) (ev_now _)) (ev_bind (ev_bind (text_ev n (by omega) (by omega)) (ev_now _)) ?_)
    simp only [if_true, bne_self_eq_false, Bool.false_eq_true, if_false]
    exact ev_now _

end Go.Proofs.Ytliongdcpemeiaa.Pure
