/- The program's function and the reference's come to the same answer: the statement of numbers and lists behind the law FnExactChecksum. Conditions: none. -/
import Derived.Test.YtliongdcpemeiaaPFnExactChecksumx1
import Derived.Test.YtliongdcpemeiaaBase
namespace Go.Proofs.Ytliongdcpemeiaa.Pure
open Go.RowKit Go.Proofs.Ytliongdcpemeiaa.PFnExactChecksum Go.Proofs.Ytliongdcpemeiaa.Base Go.Proofs.YtliongdcpemeiaaW.PrintWords Go.Proofs.YtliongdcpemeiaaW.PrintLast Go.Proofs.YtliongdcpemeiaaW.PrintMore
set_option linter.unusedVariables false
set_option linter.unusedSimpArgs false

theorem sum_step (h : Int) (s : ByteArray) (i : Int) (h0 : 0 ≤ h) (h1 : h < 999979) : Int.tmod (wrap64 ((wrap64 ((wrap64 (41 * h)) + (wrap64 (bt s i)))) + 1)) 999979 = (41 * h + bt s i + 1) % 999979 := by
  have hb := bt_range s i
  rw [w64 (x := 41 * h) (by omega) (by omega), w64 (x := bt s i) (by omega) (by omega), w64 (x := 41 * h + bt s i) (by omega) (by omega), w64 (by omega) (by omega)]
  exact Int.tmod_eq_emod_of_nonneg (by omega)

theorem sum_l (s : ByteArray) (hn : s.size ≤ 4611686018427387904) : ∀ (d i : Nat) (h : Int), i + d = s.size → 0 ≤ h → h < 999979 → ∃ r : Int, 0 ≤ r ∧ r < 999979 ∧ Ev (fun k => spec_l1Sum.l0 k s h (i : Int)) r ∧ Ev (fun k => impl_Checksum.l0 k s h (i : Int)) (r, true) := by
  intro d
  induction d with
  | zero =>
    intro i h hi h0 h1
    refine ⟨h, h0, h1, ev_succ ?_, ev_succ ?_⟩
    · simp only [spec_l1Sum.l0, if_neg (show ¬ (i : Int) < (s.size : Int) by omega)]
      exact ev_now _
    · simp only [impl_Checksum.l0, if_neg (show ¬ (i : Int) < (s.size : Int) by omega)]
      exact ev_now _
  | succ d ih =>
    intro i h hi h0 h1
    obtain ⟨r, r0, r1, hs, hm⟩ := ih (i + 1) ((41 * h + bt s i + 1) % 999979) (by omega) (by omega) (by omega)
    refine ⟨r, r0, r1, ev_succ ?_, ev_succ ?_⟩
    · simp only [spec_l1Sum.l0, if_pos (show (i : Int) < (s.size : Int) by omega), if_pos (show (0 : Int) ≤ (i : Int) by omega), wsucc i (by omega), sum_step h s i h0 h1]
      exact hs
    · simp only [impl_Checksum.l0, if_pos (show (i : Int) < (s.size : Int) by omega), if_pos (show (0 : Int) ≤ (i : Int) by omega), wsucc i (by omega), sum_step h s i h0 h1]
      exact hm
theorem sum_ev (s : ByteArray) (hn : s.size ≤ 1048576) : ∃ r : Int, 0 ≤ r ∧ r < 999979 ∧ Ev (fun k => spec_l1Sum.f k s) r ∧ Ev (fun k => impl_Checksum.f k s) (if (s.size : Int) > 4000 then (0, false) else (r, true)) := by
  obtain ⟨r, r0, r1, hs, hm⟩ := sum_l s (by omega) s.size 0 7 (by omega) (by omega) (by omega)
  refine ⟨r, r0, r1, hs, ?_⟩
  unfold impl_Checksum.f
  by_cases c : (s.size : Int) > 4000
  · simp only [if_pos c]; exact ev_now _
  · simp only [if_neg c]; exact hm

theorem FnExactChecksum : laws_FnExactChecksum.Pure := by
  intro s hs
  refine Ev.rounds ?_
  unfold laws_FnExactChecksum.f
  by_cases h : (s.size : Int) > 1048576
  · simp only [if_pos h]; exact ev_now _
  · simp only [if_neg h]
    obtain ⟨r, r0, r1, e1, e2⟩ := sum_ev s (by omega)
    have e3 : Ev (fun k => spec_Checksum.f k s) (if (s.size : Int) > 4000 then (0, false) else (r, true)) := by
      unfold spec_Checksum.f
      by_cases c : (s.size : Int) > 4000
      · simp only [if_pos c]; exact ev_now _
      · simp only [if_neg c]; exact ev_bind e1 (ev_now _)
    refine ev_bind e3 (ev_bind e2 ?_)
    simp only [if_true, bne_self_eq_false, Bool.false_eq_true, if_false]
    exact ev_now _

end Go.Proofs.Ytliongdcpemeiaa.Pure
