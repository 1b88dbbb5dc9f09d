/- Functions of the program as plain Lean functions, with their contracts: written by this session's program ownprint.py. Conditions: none. -/
import Derived.Test.YthhmembnhnghiaaOFnExactLeftAfterx0
import Derived.Test.YthhmembnhnghiaaOFnExactLeftAfterx8
import Derived.Test.YthhmembnhnghiaaOFnExactLeftAfterx9
import Derived.Test.YthhmembnhnghiaaOFnExactLeftAfterx10
namespace Go.Proofs.Ythhmembnhnghiaa.OFnExactLeftAfter
open Go.RowKit Go.Proofs.YthhmembnhnghiaaW.PrintWords Go.Proofs.YthhmembnhnghiaaW.PrintLast Go.Proofs.YthhmembnhnghiaaW.PrintMore
attribute [local go_sem] max2_int min2_int max_two min_two max_three min_three max_four min_four   -- for this text's walks alone
set_option linter.unusedVariables false
set_option linter.unusedSimpArgs false

/-! ### sortedBy by impl_ascending_1 -/
set_option maxHeartbeats 8000000 in
set_option maxRecDepth 100000 in
theorem sb_calls_140 (A0 : Option Addr) (c0 : Nat) (l0 : List Int) (r : List Int) (w : World) (hr0 : Kd.C (Kd.int .i64) w A0 l0.length l0) (hc0 : l0.length ≤ c0) (p : Int → Int → Option Bool)
    (hcl : ∀ (a b : Int) (t : Bool) (w' : World), Below w.heap.size w w' → p a b = some t → Calls Try.prog 140 #[.int .i64 a, .int .i64 b] w' fun e w'' => e = .returned (.bool t) ∧ Below w'.heap.size w' w'')
    (hlen : l0.length < 17592186044416) (h : sbL p l0 [] = some r) : Calls Try.prog 129 #[.slice A0 l0.length c0, .func (.func 140) #[] #[]] w fun e w' => ∃ v0_ : Value, e = .returned (v0_) ∧ Kd.R (Kd.int .i64) 3 w' w.heap.size (fun _ => True) v0_ r ∧ Below w.heap.size w w' := by
 have HR0 := Aside0.mk hr0
 have HC0 := Aside0.mk hc0
 clear hr0 hc0
 have HB := Aside0.mk (Below.refl w.heap.size w)
 have HCL := Aside0.mk hcl
 clear hcl
 have HL := Aside0.mk hlen
 clear hlen
 have H' := Aside0.mk h
 clear h
 go_enter Try.func129, Try.ntmps129
 go_wp2
 go_loopg [5, 11] l0.length (fun kq v5 v11 w' => ∃ (j : Nat) (o : List Int) (x11 : Int), v11 = .int .i64 x11 ∧ Aside0 (x11 = j) ∧ Aside0 (j + kq = l0.length ∧ o.length = j) ∧ Aside0 (sbL p (l0.drop j) o = some r) ∧ Aside0 (Kd.R (Kd.int .i64) 3 w' w.heap.size (fun _ => True) v5 o) ∧ Aside0 (Below w.heap.size w w'))
 case atStart => exact ⟨0, [], 0, rfl, ⟨rfl⟩, ⟨by omega, rfl⟩, H', ⟨Kd.R_nil _ _ _ _ _⟩, ⟨bB⟩⟩
 case round =>
  clear H'
  obtain ⟨j, o, x11, rfl, HJ, HK, H', HO, HB⟩ := hrel
  cases gk with
  | zero =>
   have c0b : decide (x11 < (l0.length : Int)) = false := decide_eq_false (by have := HJ.out; have := HK.out; omega)
   have H := H'.out
   clear H'
   rw [List.drop_eq_nil_of_le (by have := HK.out; omega), sbL] at H
   obtain rfl := Option.some.inj H
   go_wp2
   go_ret
   exact ⟨_, rfl, by (with_reducible repeat (first | apply Kd.R_alloc | apply Kd.R_drewN | apply Kd.R_drew)); exact HO.out, bB⟩
  | succ k1 =>
   have c0b : decide (x11 < (l0.length : Int)) = true := decide_eq_true (by have := HJ.out; have := HK.out; omega)
   have p1 : 0 ≤ x11 := by have := HJ.out; omega
   have q1 : x11 < (l0.length : Int) := by have := HJ.out; have := HK.out; omega
   obtain ⟨ad1, e1, hx1⟩ := Kd.at_int HR0.out x11 p1 q1
   cases e1
   replace hx1 := (cB HB.out hx1 :)
   replace p1 := eq_true p1
   replace q1 := eq_true q1
   obtain ⟨Ao, co, eo⟩ := Kd.R_slice HO.out
   subst eo
   have H := H'.out
   clear H'
   rw [List.drop_eq_getElem_cons (by have := HK.out; omega), sbL] at H
   have hrd : l0[j]'(by have := HK.out; omega) = rd l0 x11 := by have h1 := HJ.out; have h2 := HK.out; subst h1; simp [rd]; rw [List.getElem?_eq_getElem (by omega)]; rfl
   rw [hrd] at H
   clear hrd
   obtain ⟨m, hm, H⟩ := Option.bind_eq_some_iff.mp H
   have HM := Aside0.mk hm
   have H' := Aside0.mk H
   clear H hm
   go_wp2
   go_loopg [8] o.length (fun kq v8 w' => ∃ (x8 : Int), v8 = .int .i64 x8 ∧ Aside0 (x8 = (kq : Nat)) ∧ Aside0 (kq ≤ o.length) ∧ Aside0 (sbK (p (rd l0 x11)) o kq = some m) ∧ Aside0 (Kd.R (Kd.int .i64) 3 w' w.heap.size (fun _ => True) (.slice Ao o.length co) o) ∧ Aside0 (Below w.heap.size w w'))
   case atStart => exact ⟨(o.length : Int), (by first | rfl | (simp; done)), ⟨rfl⟩, ⟨Nat.le_refl _⟩, HM, ⟨by (with_reducible repeat (first | apply Kd.R_alloc | apply Kd.R_drewN | apply Kd.R_drew)); exact HO.out⟩, ⟨bB⟩⟩
   case round =>
    clear HM HO
    obtain ⟨x8, rfl, HX, HQ, HM, HO, HB⟩ := hrel
    cases gk with
    | zero =>
     have c1 : decide (0 < x8) = false := decide_eq_false (by have := HX.out; omega)
     have H := HM.out
     clear HM
     simp only [sbK, Option.some.injEq] at H
     have HM1 := Aside0.mk (show (m : Int) = x8 by have := HX.out; omega)
     clear H
     obtain ⟨hx, hm_⟩ : x8 = (m : Int) ∧ m ≤ o.length := ⟨by have := HX.out; have := HM1.out; omega, by have h1 := HM1.out; have h2 := HX.out; have h3 := HQ.out; omega⟩
     have HX2 := Aside0.mk (And.intro hx hm_)
     clear hx hm_
     have LM := Aside0.mk (show o.length < 17592186044416 by have := HL.out; have := HK.out; omega)
     go_wp2_with (first | ((with_reducible refine gate_builtin (b := .append) (xs := #[.tmp 31, .tmp 32]) rfl ?_); at_builtin; refine Kd.R_append (Kd.int .i64) (w0 := w) w.heap.size rfl (.tmp 31) (.tmp 32) 37 3 (.int .i64 0) 8 rfl Try.underlying37 info3 rfl (by decide) (by omega) (.slice Ao o.length co) o 0 [.int .i64 0] (fun _ => True) (fun _ => False) rfl rfl ?aP (fun _ hk => hk.elim) ?aF ?aO ?aB ?aS ?aL ?_; (case aP => exact rfl); (case aB => exact bB); (case aF => exact (fun _ _ => trivial)); (case aO => exact (by (with_reducible repeat (first | apply Kd.R_alloc | apply Kd.R_drewN | apply Kd.R_drew)); exact HO.out)); (case aS => exact (below_size bB)); (case aL => have := LM.out; omega); intro v5 w8 ho hb hg hat; have n0_ := Aside0.mk (hb); have n1_ := Aside0.mk (ho); clear HB; clear HO; have HB := n0_; have HO := n1_; clear n0_ n1_; clear ho hb hg hat))
     obtain ⟨go, cp, eo, gb, gl, cl, HG⟩ := Kd.R_form HO.out (by rw [List.length_append]; simp)
     (first | subst eo | cases eo)
     have GB := Aside0.mk gb
     clear gb gl HG cl
     have hw1 : wrap64 (x8 + 1) = ((m + 1 : Nat) : Int) := by have h1 := HX2.out; have h4 := LM.out; unfold wrap64; omega
     have p4 : 0 ≤ wrap64 (x8 + 1) := by omega
     have q4 : wrap64 (x8 + 1) ≤ (((o ++ [0]).length : Nat) : Int) := by have h1 := HX2.out; rw [List.length_append, List.length_singleton]; omega
     have p5 : 0 ≤ x8 := by have h1 := HX2.out; omega
     have q5 : x8 ≤ (((o ++ [0]).length : Nat) : Int) := by have h1 := HX2.out; rw [List.length_append, List.length_singleton]; omega
     have q6 : x8 < (((o ++ [0]).length : Nat) : Int) := by have h1 := HX2.out; rw [List.length_append, List.length_singleton]; omega
     have ew1 : (wrap64 (x8 + 1)).toNat = m + 1 := by rw [hw1]; rfl
     have ex8 : x8.toNat = m := by rw [HX2.out.1]; rfl
     have EW := Aside0.mk (And.intro ew1 ex8)
     clear hw1 ew1 ex8
     have ln : (o ++ [0]).length = o.length + 1 := by simp
     have LN := Aside0.mk ln
     clear ln
     generalize hoo : o ++ [0] = oo at *
     have OO := Aside0.mk hoo
     clear hoo
     refine start_ (n := 8) (S := fun w' => True) (ds := [7]) #[false, false, false, false, false, false, false, false] (by kernel_rfl) rfl rfl trivial (fun hHeld => ?_); refine with_tabW sb_tab9 sb_bits9 (fun HT_ HW_ => ?_)
     have n0_ := Aside0.mk (Kd.R_drew HO.out)
     have n1_ := Aside0.mk (below_drew1 HB.out)
     clear HO HB
     have HO := n0_
     have HB := n1_
     clear n0_ n1_
     generalize w8.drew = w9 at HO HB ⊢
     refine pU 0 34 #[true, false, false, false, false, false, false, false] ?_
     refine pU 1 35 #[true, true, false, false, false, false, false, false] ?_
     refine pU 2 36 #[true, true, true, false, false, false, false, false] ?_
     refine pU 4 38 #[true, true, true, false, true, false, false, false] ?_
     refine pU 5 39 #[true, true, true, false, true, true, false, false] ?_
     refine pU 3 37 #[true, true, true, true, true, true, false, false] ?_
     refine pU 6 40 #[true, true, true, true, true, true, true, false] ?_
     refine last_ (i := 7) (N := some 41) #[true, true, true, true, true, true, true, true] rfl rfl (one_of HT_.out (by kernel_rfl)) (by decide) (fun K hK => ?_)
     obtain ⟨w10, hrun, ho, hg⟩ := R_shift (P := Try.prog) (ty := 3) (t' := 37) (0 : Int) Try.underlying37 (by rw [show (Try.prog.info? 3).map (·.size) = some 1 from by kernel_rfl]) HO.out (m + 1) m (o.length - m) (cp - (m + 1)) (cp - m) (by have := HX2.out; have := LN.out; omega) (by have := HX2.out; have := LN.out; omega) (by have := HX2.out; have := LN.out; omega)
       (if cp = m + 1 then some ⟨go, 0, none⟩ else some ⟨go, m + 1, none⟩) (if cp = m then some ⟨go, 0, none⟩ else some ⟨go, m, none⟩) (fun h_ => if_neg (by have h1 := (Kd.R_reads' HO.out).2.1; have := LN.out; omega)) (fun h_ => if_neg (by have h1 := (Kd.R_reads' HO.out).2.1; have := LN.out; omega))
     refine value_ (w1 := w10) (v := .int .i64 ((o.length - m : Nat) : Int)) (by rfl) rfl ?_ ?_
     ·refine sb_copy (s := .tmp 37) (x := .tmp 40) (t := 37) (t' := 37) rfl rfl rfl ?_
      simp only [EW.out.1, EW.out.2]
      exact hrun
     refine hK.out _ _ ?_
     clear hK K
     have n0_ := Aside0.mk ho
     have n1_ := Aside0.mk (HB.out.grown hg (below_size HB.out) (fun k_ e_ => by injection e_ with e_; subst e_; exact GB.out))
     clear HO HB ho hrun hg
     have HO := n0_
     have HB := n1_
     clear n0_ n1_
     have p7 := eq_true p5
     have q7 := eq_true q6
     have hl3 : (oo.take (m + 1) ++ (oo.drop m).take (o.length - m) ++ oo.drop (m + 1 + (o.length - m))).length = oo.length := by have := HX2.out; have := LN.out; simp only [List.length_append, List.length_take, List.length_drop]; omega
     obtain ⟨hx9, hf9⟩ := Kd.R_celln 0 HO.out x8 p5 q6
     have HP := Kd.R_putn HO.out x8 (rd l0 x11)
     have HQ9 := Aside0.mk HP
     clear HP p5 q5 q6 p4 q4
     refine done_ (done_of HT_.out (by kernel_rfl)) ?_
     generalize (if cp = (wrap64 (x8 + 1)).toNat then (some ⟨go, 0, none⟩ : Option Addr) else some ⟨go, (wrap64 (x8 + 1)).toNat, none⟩) = ad37
     generalize (if cp = x8.toNat then (some ⟨go, 0, none⟩ : Option Addr) else some ⟨go, x8.toNat, none⟩) = ad40
     go_wp2
     all_goals (go_roundg k1; (case measure => omega); (case rel => exact ⟨j + 1, o.take m ++ rd l0 x11 :: o.drop m, wrap64 (x11 + 1), (by first | rfl | (simp; done)), ⟨by have h1 := HJ.out; have h2 := HK.out; have h3 := HL.out; unfold wrap64; omega⟩, ⟨by have h2 := HK.out; omega, by have h2 := HK.out; have h4 := HX2.out; simp only [List.length_append, List.length_cons, List.length_take, List.length_drop]; omega⟩, H', ⟨by (with_reducible repeat (first | apply Kd.R_alloc | apply Kd.R_drewN | apply Kd.R_drew)); have h8 := HQ9.out; have e9 := sb_shift o m (rd l0 x11) HX2.out.2; rw [OO.out] at e9; rw [EW.out.2, e9] at h8; rw [EW.out.2]; exact h8⟩, ⟨by repeat (first | (with_reducible first | exact HB.out | apply below_alloc | apply pw_below_drewN | apply below_drew1 | refine below_set ?_ GB.out) | exact HB.out)⟩⟩))
    | succ k2 =>
     have c1 : decide (0 < x8) = true := decide_eq_true (by have := HX.out; omega)
     have hw : wrap64 (x8 - 1) = (k2 : Int) := by have h1 := HX.out; have h2 := HQ.out; have h3 := HK.out; have h4 := HL.out; unfold wrap64; omega
     have p2 : 0 ≤ wrap64 (x8 - 1) := by omega
     have q2 : wrap64 (x8 - 1) < (o.length : Int) := by have h2 := HQ.out; omega
     obtain ⟨ad2, e2, hx2⟩ := Kd.at_int (Kd.R_reads' HO.out).2.2 (wrap64 (x8 - 1)) p2 q2
     cases e2
     have H := HM.out
     clear HM
     rw [sbK, ← hw] at H
     have HW := Aside0.mk hw
     clear hw
     replace p2 := eq_true p2
     replace q2 := eq_true q2
     obtain ⟨b, hb, H⟩ := Option.bind_eq_some_iff.mp H
     have HP := Aside0.mk hb
     have HM := Aside0.mk H
     clear H hb
     cases b with
     | true =>
      go_wp2_with (go_at_call 140; refine (HCL.out (rd l0 x11) (rd o (wrap64 (x8 - 1))) true _ bB HP.out).mono ?_; rintro e w' ⟨rfl, hbz⟩; have n0_ := Aside0.mk (Kd.R_below (by (with_reducible repeat (first | apply Kd.R_alloc | apply Kd.R_drewN | apply Kd.R_drew)); exact HO.out) hbz); have n1_ := Aside0.mk (below_step bB hbz); clear HO HB; have HO := n0_; have HB := n1_; clear n0_ n1_ hbz)
      go_roundg k2
      case measure => omega
      case rel => exact ⟨wrap64 (x8 - 1), (by first | rfl | (simp; done)), ⟨HW.out⟩, ⟨by have := HQ.out; omega⟩, ⟨by have := HM.out; simpa using this⟩, ⟨by (with_reducible repeat (first | apply Kd.R_alloc | apply Kd.R_drewN | apply Kd.R_drew)); exact HO.out⟩, ⟨bB⟩⟩
     | false =>
      have H := HM.out
      clear HM
      simp only [Bool.false_eq_true, if_false, Option.some.injEq] at H
      have HM1 := Aside0.mk (show (m : Int) = x8 by have := HX.out; omega)
      clear H
      obtain ⟨hx, hm_⟩ : x8 = (m : Int) ∧ m ≤ o.length := ⟨by have := HX.out; have := HM1.out; omega, by have h1 := HM1.out; have h2 := HX.out; have h3 := HQ.out; omega⟩
      have HX2 := Aside0.mk (And.intro hx hm_)
      clear hx hm_
      have LM := Aside0.mk (show o.length < 17592186044416 by have := HL.out; have := HK.out; omega)
      go_wp2_with (first | (go_at_call 140; refine (HCL.out (rd l0 x11) (rd o (wrap64 (x8 - 1))) false _ bB HP.out).mono ?_; rintro e w' ⟨rfl, hbz⟩; have n0_ := Aside0.mk (Kd.R_below (by (with_reducible repeat (first | apply Kd.R_alloc | apply Kd.R_drewN | apply Kd.R_drew)); exact HO.out) hbz); have n1_ := Aside0.mk (below_step bB hbz); clear HO HB; have HO := n0_; have HB := n1_; clear n0_ n1_ hbz) | ((with_reducible refine gate_builtin (b := .append) (xs := #[.tmp 31, .tmp 32]) rfl ?_); at_builtin; refine Kd.R_append (Kd.int .i64) (w0 := w) w.heap.size rfl (.tmp 31) (.tmp 32) 37 3 (.int .i64 0) 8 rfl Try.underlying37 info3 rfl (by decide) (by omega) (.slice (some ad2) o.length co) o 0 [.int .i64 0] (fun _ => True) (fun _ => False) rfl rfl ?aP (fun _ hk => hk.elim) ?aF ?aO ?aB ?aS ?aL ?_; (case aP => exact rfl); (case aB => exact bB); (case aF => exact (fun _ _ => trivial)); (case aO => exact (by (with_reducible repeat (first | apply Kd.R_alloc | apply Kd.R_drewN | apply Kd.R_drew)); exact HO.out)); (case aS => exact (below_size bB)); (case aL => have := LM.out; omega); intro v5 w8 ho hb hg hat; have n0_ := Aside0.mk (hb); have n1_ := Aside0.mk (ho); clear HB; clear HO; have HB := n0_; have HO := n1_; clear n0_ n1_; clear ho hb hg hat))
      obtain ⟨go, cp, eo, gb, gl, cl, HG⟩ := Kd.R_form HO.out (by rw [List.length_append]; simp)
      (first | subst eo | cases eo)
      have GB := Aside0.mk gb
      clear gb gl HG cl
      have hw1 : wrap64 (x8 + 1) = ((m + 1 : Nat) : Int) := by have h1 := HX2.out; have h4 := LM.out; unfold wrap64; omega
      have p4 : 0 ≤ wrap64 (x8 + 1) := by omega
      have q4 : wrap64 (x8 + 1) ≤ (((o ++ [0]).length : Nat) : Int) := by have h1 := HX2.out; rw [List.length_append, List.length_singleton]; omega
      have p5 : 0 ≤ x8 := by have h1 := HX2.out; omega
      have q5 : x8 ≤ (((o ++ [0]).length : Nat) : Int) := by have h1 := HX2.out; rw [List.length_append, List.length_singleton]; omega
      have q6 : x8 < (((o ++ [0]).length : Nat) : Int) := by have h1 := HX2.out; rw [List.length_append, List.length_singleton]; omega
      have ew1 : (wrap64 (x8 + 1)).toNat = m + 1 := by rw [hw1]; rfl
      have ex8 : x8.toNat = m := by rw [HX2.out.1]; rfl
      have EW := Aside0.mk (And.intro ew1 ex8)
      clear hw1 ew1 ex8
      have ln : (o ++ [0]).length = o.length + 1 := by simp
      have LN := Aside0.mk ln
      clear ln
      generalize hoo : o ++ [0] = oo at *
      have OO := Aside0.mk hoo
      clear hoo
      refine start_ (n := 8) (S := fun w' => True) (ds := [7]) #[false, false, false, false, false, false, false, false] (by kernel_rfl) rfl rfl trivial (fun hHeld => ?_); refine with_tabW sb_tab9 sb_bits9 (fun HT_ HW_ => ?_)
      have n0_ := Aside0.mk (Kd.R_drew HO.out)
      have n1_ := Aside0.mk (below_drew1 HB.out)
      clear HO HB
      have HO := n0_
      have HB := n1_
      clear n0_ n1_
      generalize w8.drew = w9 at HO HB ⊢
      refine pU 0 34 #[true, false, false, false, false, false, false, false] ?_
      refine pU 1 35 #[true, true, false, false, false, false, false, false] ?_
      refine pU 2 36 #[true, true, true, false, false, false, false, false] ?_
      refine pU 4 38 #[true, true, true, false, true, false, false, false] ?_
      refine pU 5 39 #[true, true, true, false, true, true, false, false] ?_
      refine pU 3 37 #[true, true, true, true, true, true, false, false] ?_
      refine pU 6 40 #[true, true, true, true, true, true, true, false] ?_
      refine last_ (i := 7) (N := some 41) #[true, true, true, true, true, true, true, true] rfl rfl (one_of HT_.out (by kernel_rfl)) (by decide) (fun K hK => ?_)
      obtain ⟨w10, hrun, ho, hg⟩ := R_shift (P := Try.prog) (ty := 3) (t' := 37) (0 : Int) Try.underlying37 (by rw [show (Try.prog.info? 3).map (·.size) = some 1 from by kernel_rfl]) HO.out (m + 1) m (o.length - m) (cp - (m + 1)) (cp - m) (by have := HX2.out; have := LN.out; omega) (by have := HX2.out; have := LN.out; omega) (by have := HX2.out; have := LN.out; omega)
        (if cp = m + 1 then some ⟨go, 0, none⟩ else some ⟨go, m + 1, none⟩) (if cp = m then some ⟨go, 0, none⟩ else some ⟨go, m, none⟩) (fun h_ => if_neg (by have h1 := (Kd.R_reads' HO.out).2.1; have := LN.out; omega)) (fun h_ => if_neg (by have h1 := (Kd.R_reads' HO.out).2.1; have := LN.out; omega))
      refine value_ (w1 := w10) (v := .int .i64 ((o.length - m : Nat) : Int)) (by rfl) rfl ?_ ?_
      ·refine sb_copy (s := .tmp 37) (x := .tmp 40) (t := 37) (t' := 37) rfl rfl rfl ?_
       simp only [EW.out.1, EW.out.2]
       exact hrun
      refine hK.out _ _ ?_
      clear hK K
      have n0_ := Aside0.mk ho
      have n1_ := Aside0.mk (HB.out.grown hg (below_size HB.out) (fun k_ e_ => by injection e_ with e_; subst e_; exact GB.out))
      clear HO HB ho hrun hg
      have HO := n0_
      have HB := n1_
      clear n0_ n1_
      have p7 := eq_true p5
      have q7 := eq_true q6
      have hl3 : (oo.take (m + 1) ++ (oo.drop m).take (o.length - m) ++ oo.drop (m + 1 + (o.length - m))).length = oo.length := by have := HX2.out; have := LN.out; simp only [List.length_append, List.length_take, List.length_drop]; omega
      obtain ⟨hx9, hf9⟩ := Kd.R_celln 0 HO.out x8 p5 q6
      have HP := Kd.R_putn HO.out x8 (rd l0 x11)
      have HQ9 := Aside0.mk HP
      clear HP p5 q5 q6 p4 q4
      refine done_ (done_of HT_.out (by kernel_rfl)) ?_
      generalize (if cp = (wrap64 (x8 + 1)).toNat then (some ⟨go, 0, none⟩ : Option Addr) else some ⟨go, (wrap64 (x8 + 1)).toNat, none⟩) = ad37
      generalize (if cp = x8.toNat then (some ⟨go, 0, none⟩ : Option Addr) else some ⟨go, x8.toNat, none⟩) = ad40
      go_wp2
      all_goals (go_roundg k1; (case measure => omega); (case rel => exact ⟨j + 1, o.take m ++ rd l0 x11 :: o.drop m, wrap64 (x11 + 1), (by first | rfl | (simp; done)), ⟨by have h1 := HJ.out; have h2 := HK.out; have h3 := HL.out; unfold wrap64; omega⟩, ⟨by have h2 := HK.out; omega, by have h2 := HK.out; have h4 := HX2.out; simp only [List.length_append, List.length_cons, List.length_take, List.length_drop]; omega⟩, H', ⟨by (with_reducible repeat (first | apply Kd.R_alloc | apply Kd.R_drewN | apply Kd.R_drew)); have h8 := HQ9.out; have e9 := sb_shift o m (rd l0 x11) HX2.out.2; rw [OO.out] at e9; rw [EW.out.2, e9] at h8; rw [EW.out.2]; exact h8⟩, ⟨by repeat (first | (with_reducible first | exact HB.out | apply below_alloc | apply pw_below_drewN | apply below_drew1 | refine below_set ?_ GB.out) | exact HB.out)⟩⟩))

/-! ### impl_sortedBy_140: a function of its own -/
def impl_sortedBy_140.f (l0 : List (Int))  : Option (List Int) := if l0.length < 17592186044416 then sbL (fun a b => impl_ascending_1.f a b ) l0 ([] : List Int) else none
theorem impl_sortedBy_140.calls (A0 : Option Addr) (c0 : Nat) (l0 : List (Int))  (r : List Int) (w : World) (hr0 : Kd.C (Kd.int .i64) w A0 l0.length l0) (hc0 : l0.length ≤ c0) (h : impl_sortedBy_140.f l0  = some r) :
  Calls Try.prog 129 #[.slice A0 l0.length c0, .func (.func 140) #[] #[]] w fun e w' => ∃ v0_ : Value, e = .returned (v0_) ∧ Kd.R (Kd.int .i64) 3 w' w.heap.size (fun _ => True) v0_ r ∧ Below w.heap.size w w' := by
 unfold impl_sortedBy_140.f at h
 split at h
 · rename_i hl
   refine sb_calls_140 A0 c0 l0 r w hr0 hc0 _ (fun a b t w' hB hp => ?_) hl h
   exact (impl_ascending_1.calls a b  t w'  hp).mono fun e w'' h_ => ⟨h_.1, by obtain ⟨n_, rfl⟩ := h_.2; exact pw_below_drewN (Below.refl _ _) n_⟩
 · cases h

/-! ### impl_ascending: function 103 -/
def impl_ascending.f (l0 : List Int) : Option (List Int) := (impl_sortedBy_140.f l0).bind fun t378 => (some t378)
set_option maxHeartbeats 8000000 in
set_option maxRecDepth 100000 in
theorem impl_ascending.calls (A0 : Option Addr) (c0 : Nat) (l0 : List Int) (r : List Int) (w : World) (hr0 : Kd.C (Kd.int .i64) w A0 l0.length l0) (hc0 : l0.length ≤ c0) (h : impl_ascending.f l0 = some r) :
  Calls Try.prog 103 #[.slice A0 l0.length c0] w fun e w' => ∃ v0_ : Value, e = .returned (v0_) ∧ Kd.R (Kd.int .i64) 3 w' w.heap.size (fun _ => True) v0_ r ∧ Below w.heap.size w w' := by
 have HR0 := Aside0.mk hr0
 have HC0 := Aside0.mk hc0
 clear hr0 hc0
 have HB := Aside0.mk (Below.refl w.heap.size w)
 have H : ((impl_sortedBy_140.f l0).bind fun t378 => (some t378)) = some r := h
 clear h
 replace H := Option.bind_eq_some_iff.mp H
 obtain ⟨t378, A20, H⟩ := H
 replace H : (some t378) = some r := H
 have A2 := Aside0.mk A20
 clear A20
 obtain rfl := Option.some.inj H
 go_enter Try.func103, Try.ntmps103
 go_wp2_with (first | ((with_reducible refine gate_callee (f := 129) rfl ?_); refine goesL_ (some 4) rfl rfl Try.func129 (by kernel_rfl) rfl #[.slice A0 l0.length c0, .func (.func 140) #[] #[]] rfl aE ?_; (with_reducible refine (impl_sortedBy_140.calls _ _ l0 t378 _ ?side1 ?side2 A2.out).mono ?_); (case side1 => repeat (first | exact HR0.out | (with_reducible refine Kd.C_alloc ?_ _) | (with_reducible refine Kd.C_drewN ?_ _) | (with_reducible refine Kd.C_drew ?_))); (case side2 => exact HC0.out); rintro e w3 ⟨v379, rfl, ho0, hb⟩; refine ⟨_, rfl, ?_⟩; have n0_ := Aside0.mk (Kd.R_lower ho0 (below_size bB)); have n1_ := Aside0.mk (below_step bB hb); clear HB; have HO380 := n0_; have HB := n1_; clear n0_ n1_; (try clear hb); (try clear hb2); (try clear hk); (try clear hi); (try clear ho0)))
 go_ret
 exact ⟨_, by first | rfl | (simp [errW_none, errW_some] <;> rfl) | (simp [*, errW_none, errW_some] <;> rfl), by (with_reducible repeat (first | apply Kd.R_alloc | apply Kd.R_drewN | apply Kd.R_drew)); exact HO380.out, bB⟩

/-! ### impl_LeftAfter: function 52 -/
def impl_LeftAfter.j0 : Nat → List (S59) → Int → Bool → Option (List Int × Bool)
 | 0, _, _, _ => none
 | k + 1, x0, x1, x17 => if x17 = true then (some (([] : List Int), false)) else ((impl_lateRule.f k x0 x1).bind fun bt383 => ((impl_ascending.f bt383.1).bind fun t389 => (some (t389, true))))
def impl_LeftAfter.f (k : Nat) (l0 : List (S59)) (a1 : Int) : Option (List Int × Bool) := (impl_IsPlain.f k l0).bind fun t381 => (if t381 = true then ((impl_within.f a1 0 (l0.length : Int)).bind fun t382 => (impl_LeftAfter.j0 k l0 a1 (!t382))) else (impl_LeftAfter.j0 k l0 a1 true))
theorem impl_LeftAfter.mono_l : ∀ k, (∀ y0 y1 y2, LeO (impl_LeftAfter.j0 k y0 y1 y2) (impl_LeftAfter.j0 (k + 1) y0 y1 y2))
 | 0 => fun _ _ _ r h => by simp [impl_LeftAfter.j0] at h
 | k + 1 => by
  have ih0 := impl_LeftAfter.mono_l k
  ·intro y0 y1 y2
   unfold impl_LeftAfter.j0
   repeat' first
   | (with_reducible exact ih0 _ _ _)
   | (with_reducible exact impl_IsPlain.mono _ _)
   | (with_reducible exact impl_lateRule.mono _ _ _)
   | (with_reducible exact LeO.refl _)
   | (with_reducible exact LeO.none _)
   | (with_reducible refine LeO.ite ?_ ?_)
   | (with_reducible refine LeO.bind ?_ (fun _ => ?_))
   | exact ih0 _ _ _
   | exact impl_IsPlain.mono _ _
   | exact impl_lateRule.mono _ _ _
   | exact LeO.none _
   | refine LeO.ite ?_ ?_
   | refine LeO.bind ?_ (fun _ => ?_)
theorem impl_LeftAfter.mono : ∀ a0 a1 k, LeO (impl_LeftAfter.f k a0 a1) (impl_LeftAfter.f (k + 1) a0 a1) := by
 intro a0 a1 k
 have ih0 := impl_LeftAfter.mono_l k
 unfold impl_LeftAfter.f
 repeat' first
   | (with_reducible exact ih0 _ _ _)
   | (with_reducible exact impl_IsPlain.mono _ _)
   | (with_reducible exact impl_lateRule.mono _ _ _)
   | (with_reducible exact LeO.refl _)
   | (with_reducible exact LeO.none _)
   | (with_reducible refine LeO.ite ?_ ?_)
   | (with_reducible refine LeO.bind ?_ (fun _ => ?_))
   | exact ih0 _ _ _
   | exact impl_IsPlain.mono _ _
   | exact impl_lateRule.mono _ _ _
   | exact LeO.none _
   | refine LeO.ite ?_ ?_
   | refine LeO.bind ?_ (fun _ => ?_)
set_option maxHeartbeats 8000000 in
set_option maxRecDepth 100000 in
theorem impl_LeftAfter.calls (k : Nat) (A0 : Option Addr) (c0 : Nat) (l0 : List (S59)) (a1 : Int) (r1 : List Int) (r2 : Bool) (w : World) (hr0 : Kd.C k59 w A0 l0.length l0) (hc0 : l0.length ≤ c0) (h : impl_LeftAfter.f k l0 a1 = some (r1, r2)) :
  Calls Try.prog 52 #[.slice A0 l0.length c0, .int .i64 a1] w fun e w' => ∃ v0_ : Value, e = .returned (.tuple #[v0_, .bool r2]) ∧ Kd.R (Kd.int .i64) 3 w' w.heap.size (fun _ => True) v0_ r1 ∧ Below w.heap.size w w' := by
 have HR0 := Aside0.mk hr0
 have HC0 := Aside0.mk hc0
 clear hr0 hc0
 have HB := Aside0.mk (Below.refl w.heap.size w)
 have H : ((impl_IsPlain.f k l0).bind fun t381 => (if t381 = true then ((impl_within.f a1 0 (l0.length : Int)).bind fun t382 => (impl_LeftAfter.j0 k l0 a1 (!t382))) else (impl_LeftAfter.j0 k l0 a1 true))) = some (r1, r2) := h
 clear h
 have HC3 := Aside0.mk H
 clear H
 go_enter Try.func52, Try.ntmps52
 go_upto_region 1 with (fail)
 go_cut [17] (fun v17 wc => ∃ (kq : Nat) (x17_2 : Bool), v17 = .bool x17_2 ∧ Aside0 (impl_LeftAfter.j0 kq l0 a1 x17_2 = some (r1, r2)) ∧ Aside0 (kq ≤ k) ∧ Aside0 (Below w.heap.size w wc))
 case first =>
  have H := HC3.out
  clear HC3
  replace H := Option.bind_eq_some_iff.mp H
  obtain ⟨t381, A40, H⟩ := H
  replace H : (if t381 = true then ((impl_within.f a1 0 (l0.length : Int)).bind fun t382 => (impl_LeftAfter.j0 k l0 a1 (!t382))) else (impl_LeftAfter.j0 k l0 a1 true)) = some (r1, r2) := H
  have A4 := Aside0.mk A40
  clear A40
  by_cases c5 : t381 = true
  ·subst c5
   have H1 : ((impl_within.f a1 0 (l0.length : Int)).bind fun t382 => (impl_LeftAfter.j0 k l0 a1 (!t382))) = some (r1, r2) := by rw [if_pos rfl] at H; exact H
   clear H
   have H := H1
   clear H1
   replace H := Option.bind_eq_some_iff.mp H
   obtain ⟨t382, A60, H⟩ := H
   replace H : (impl_LeftAfter.j0 k l0 a1 (!t382)) = some (r1, r2) := H
   have A6 := Aside0.mk A60
   clear A60
   have H' := Aside0.mk H
   clear H
   go_wp2_with (first | ((with_reducible refine gate_callee (f := 59) rfl ?_); refine goesL_ (some 9) rfl rfl Try.func59 (by kernel_rfl) rfl #[.slice A0 l0.length c0] rfl aE ?_; (with_reducible refine (impl_IsPlain.calls k _ _ l0 true _ ?side1 ?side2 A4.out).mono ?_); (case side1 => repeat (first | exact (Kd.C_below HR0.out HB.out) | (with_reducible refine Kd.C_alloc ?_ _) | (with_reducible refine Kd.C_drewN ?_ _) | (with_reducible refine Kd.C_drew ?_))); (case side2 => exact HC0.out); rintro e w7 ⟨rfl, hb⟩; refine ⟨_, rfl, ?_⟩; have n0_ := Aside0.mk (below_step bB hb); clear HB; have HB := n0_; clear n0_; (try clear hb); (try clear hb2); (try clear hk); (try clear hi)) | (go_at_call 102; (with_reducible refine (impl_within.calls a1 0 (l0.length : Int) t382 _ A6.out).mono ?_); rintro e w' ⟨rfl, ⟨nd, rfl⟩⟩))
   go_meet
   case rel => exact ⟨_, (!t382), sD, H', ⟨by first | omega | exact Nat.le_refl _⟩, ⟨by repeat (first | (with_reducible first | exact HB.out | apply below_alloc | apply pw_below_drewN | apply below_drew1) | exact HB.out)⟩⟩
  ·replace c5 := Bool.eq_false_iff.mpr c5
   subst c5
   have H1 : (impl_LeftAfter.j0 k l0 a1 true) = some (r1, r2) := by rw [if_neg (show ¬ (false = true) by decide)] at H; exact H
   clear H
   have H := H1
   clear H1
   have H' := Aside0.mk H
   clear H
   go_wp2_with (first | ((with_reducible refine gate_callee (f := 59) rfl ?_); refine goesL_ (some 9) rfl rfl Try.func59 (by kernel_rfl) rfl #[.slice A0 l0.length c0] rfl aE ?_; (with_reducible refine (impl_IsPlain.calls k _ _ l0 false _ ?side1 ?side2 A4.out).mono ?_); (case side1 => repeat (first | exact (Kd.C_below HR0.out HB.out) | (with_reducible refine Kd.C_alloc ?_ _) | (with_reducible refine Kd.C_drewN ?_ _) | (with_reducible refine Kd.C_drew ?_))); (case side2 => exact HC0.out); rintro e w8 ⟨rfl, hb⟩; refine ⟨_, rfl, ?_⟩; have n0_ := Aside0.mk (below_step bB hb); clear HB; have HB := n0_; clear n0_; (try clear hb); (try clear hb2); (try clear hk); (try clear hi)))
   go_meet
   case rel => exact ⟨_, (true), sD, H', ⟨by first | omega | exact Nat.le_refl _⟩, ⟨by repeat (first | (with_reducible first | exact HB.out | apply below_alloc | apply pw_below_drewN | apply below_drew1) | exact HB.out)⟩⟩
 case rest =>
  clear HC3
  try clear p2
  try clear c5
  obtain ⟨kq, x17_2, rfl, HA, HJ2, HB⟩ := hcut
  cases kq with
  | zero => exact absurd HA.out (by simp [impl_LeftAfter.j0])
  | succ kj2 =>
   have H := HA.out
   clear HA
   simp only [impl_LeftAfter.j0] at H
   by_cases c9 : x17_2 = true
   ·subst c9
    have H1 : (some (([] : List Int), false)) = some (r1, r2) := by rw [if_pos rfl] at H; exact H
    clear H
    have H := H1
    clear H1
    simp only [Option.some.injEq, Prod.mk.injEq] at H
    obtain ⟨rfl, rfl⟩ := H
    go_wp2
    go_ret2
    exact ⟨_, by first | rfl | (simp [errW_none, errW_some] <;> rfl) | (simp [*, errW_none, errW_some] <;> rfl), by first | exact Kd.R_nil _ _ _ _ _ | exact Kd.N_nil _ _ _ _ _ | exact Kd.V_nil _ _ _ _ _ | exact Kd.Q_nil _ _ _ _ _ | exact Kd.S_nil _ _ _ _ _, bB⟩
   ·replace c9 := Bool.eq_false_iff.mpr c9
    subst c9
    have H1 : ((impl_lateRule.f kj2 l0 a1).bind fun bt383 => ((impl_ascending.f bt383.1).bind fun t389 => (some (t389, true)))) = some (r1, r2) := by rw [if_neg (show ¬ (false = true) by decide)] at H; exact H
    clear H
    have H := H1
    clear H1
    replace H := Option.bind_eq_some_iff.mp H
    obtain ⟨⟨t383, t384⟩, A100, H⟩ := H
    replace H : ((impl_ascending.f t383).bind fun t389 => (some (t389, true))) = some (r1, r2) := H
    have A10 := Aside0.mk A100
    clear A100
    replace H := Option.bind_eq_some_iff.mp H
    obtain ⟨t389, A110, H⟩ := H
    replace H : (some (t389, true)) = some (r1, r2) := H
    have A11 := Aside0.mk A110
    clear A110
    simp only [Option.some.injEq, Prod.mk.injEq] at H
    obtain ⟨rfl, rfl⟩ := H
    go_wp2_with (first | ((with_reducible refine gate_callee (f := 88) rfl ?_); refine goesL_ (some 21) rfl rfl Try.func88 (by kernel_rfl) rfl #[.slice A0 l0.length c0, .int .i64 a1] rfl aE ?_; (with_reducible refine (impl_lateRule.calls kj2 _ _ l0 a1 t383 t384 _ ?side1 ?side2 A10.out).mono ?_); (case side1 => repeat (first | exact (Kd.C_below HR0.out HB.out) | (with_reducible refine Kd.C_alloc ?_ _) | (with_reducible refine Kd.C_drewN ?_ _) | (with_reducible refine Kd.C_drew ?_))); (case side2 => exact HC0.out); rintro e w12 ⟨v385, v387, rfl, ho0, ho1, hb⟩; refine ⟨_, rfl, ?_⟩; have n0_ := Aside0.mk (Kd.R_lower ho0 (below_size bB)); have n1_ := Aside0.mk (Kd.R_lower ho1 (below_size bB)); have n2_ := Aside0.mk (below_step bB hb); clear HB; have HO386 := n0_; have HO388 := n1_; have HB := n2_; clear n0_ n1_ n2_; (try clear hb); (try clear hb2); (try clear hk); (try clear hi); (try clear ho0); (try clear ho1); obtain ⟨Ao13, co13, eo13⟩ := Kd.R_slice HO386.out; subst eo13) | ((with_reducible refine gate_callee (f := 103) rfl ?_); refine goesL_ (some 25) rfl rfl Try.func103 (by kernel_rfl) rfl #[.slice Ao13 t383.length co13] rfl aE ?_; (with_reducible refine (impl_ascending.calls _ _ t383 t389 _ ?side1 ?side2 A11.out).mono ?_); (case side1 => repeat (first | exact (Kd.R_reads' HO386.out).2.2 | (with_reducible refine Kd.C_alloc ?_ _) | (with_reducible refine Kd.C_drewN ?_ _) | (with_reducible refine Kd.C_drew ?_))); (case side2 => exact (Kd.R_reads' HO386.out).2.1); rintro e w14 ⟨v390, rfl, ho0, hb⟩; refine ⟨_, rfl, ?_⟩; have n0_ := Aside0.mk (Kd.R_elder' (by (with_reducible repeat (first | apply Kd.R_alloc | apply Kd.R_drewN | apply Kd.R_drew)); exact HO386.out) (Kd.R_base ho0) hb); have n1_ := Aside0.mk (Kd.R_below (by (with_reducible repeat (first | apply Kd.R_alloc | apply Kd.R_drewN | apply Kd.R_drew)); exact HO388.out) hb); have n2_ := Aside0.mk (Kd.R_lower (Kd.R_new' ho0 (Kd.R_lt (by (with_reducible repeat (first | apply Kd.R_alloc | apply Kd.R_drewN | apply Kd.R_drew)); exact HO386.out))) (below_size bB)); have n3_ := Aside0.mk (below_step bB hb); clear HO386; clear HO388; clear HB; have HO386 := n0_; have HO388 := n1_; have HO391 := n2_; have HB := n3_; clear n0_ n1_ n2_ n3_; (try clear hb); (try clear hb2); (try clear hk); (try clear hi); (try clear ho0)))
    go_ret2
    exact ⟨_, by first | rfl | (simp [errW_none, errW_some] <;> rfl) | (simp [*, errW_none, errW_some] <;> rfl), by (with_reducible repeat (first | apply Kd.R_alloc | apply Kd.R_drewN | apply Kd.R_drew)); exact Kd.R_mono HO391.out (fun _ hk => trivial), bB⟩

end Go.Proofs.Ythhmembnhnghiaa.OFnExactLeftAfter
