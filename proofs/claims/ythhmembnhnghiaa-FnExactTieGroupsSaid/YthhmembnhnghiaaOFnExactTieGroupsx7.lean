/- Functions of the program as plain Lean functions, with their contracts: written by this session's program ownprint.py. Conditions: none. -/
import Derived.Test.YthhmembnhnghiaaOFnExactTieGroupsx0
import Derived.Test.YthhmembnhnghiaaOFnExactTieGroupsx6
namespace Go.Proofs.Ythhmembnhnghiaa.OFnExactTieGroups
open Go.RowKit Go.Proofs.YthhmembnhnghiaaW.PrintWords Go.Proofs.YthhmembnhnghiaaW.PrintLast Go.Proofs.YthhmembnhnghiaaW.PrintMore
attribute [local go_sem] max2_int min2_int max_two min_two max_three min_three max_four min_four   -- for this text's walks alone
set_option linter.unusedVariables false
set_option linter.unusedSimpArgs false

/-! ### sortedBy by impl_ruledOrder_1 -/
set_option maxHeartbeats 8000000 in
set_option maxRecDepth 100000 in
theorem sb_calls_144 (q0 q1 : Value) (A0 : Option Addr) (c0 : Nat) (l0 : List Int) (r : List Int) (w : World) (hr0 : Kd.C (Kd.int .i64) w A0 l0.length l0) (hc0 : l0.length ≤ c0) (p : Int → Int → Option Bool)
    (hcl : ∀ (a b : Int) (t : Bool) (w' : World), Below w.heap.size w w' → p a b = some t → Calls Try.prog 144 #[.int .i64 a, .int .i64 b, q0, q1] w' fun e w'' => e = .returned (.bool t) ∧ Below w'.heap.size w' w'')
    (hlen : l0.length < 17592186044416) (h : sbL p l0 [] = some r) : Calls Try.prog 129 #[.slice A0 l0.length c0, .func (.func 144) #[] #[q0, q1]] w fun e w' => ∃ v0_ : Value, e = .returned (v0_) ∧ Kd.R (Kd.int .i64) 3 w' w.heap.size (fun _ => True) v0_ r ∧ Below w.heap.size w w' := by
 have HR0 := Aside0.mk hr0
 have HC0 := Aside0.mk hc0
 clear hr0 hc0
 have HB := Aside0.mk (Below.refl w.heap.size w)
 have HCL := Aside0.mk hcl
 clear hcl
 have HL := Aside0.mk hlen
 clear hlen
 have H' := Aside0.mk h
 clear h
 go_enter Try.func129, Try.ntmps129
 go_wp2
 go_loopg [5, 11] l0.length (fun kq v5 v11 w' => ∃ (j : Nat) (o : List Int) (x11 : Int), v11 = .int .i64 x11 ∧ Aside0 (x11 = j) ∧ Aside0 (j + kq = l0.length ∧ o.length = j) ∧ Aside0 (sbL p (l0.drop j) o = some r) ∧ Aside0 (Kd.R (Kd.int .i64) 3 w' w.heap.size (fun _ => True) v5 o) ∧ Aside0 (Below w.heap.size w w'))
 case atStart => exact ⟨0, [], 0, rfl, ⟨rfl⟩, ⟨by omega, rfl⟩, H', ⟨Kd.R_nil _ _ _ _ _⟩, ⟨bB⟩⟩
 case round =>
  clear H'
  obtain ⟨j, o, x11, rfl, HJ, HK, H', HO, HB⟩ := hrel
  cases gk with
  | zero =>
   have c0b : decide (x11 < (l0.length : Int)) = false := decide_eq_false (by have := HJ.out; have := HK.out; omega)
   have H := H'.out
   clear H'
   rw [List.drop_eq_nil_of_le (by have := HK.out; omega), sbL] at H
   obtain rfl := Option.some.inj H
   go_wp2
   go_ret
   exact ⟨_, rfl, by (with_reducible repeat (first | apply Kd.R_alloc | apply Kd.R_drewN | apply Kd.R_drew)); exact HO.out, bB⟩
  | succ k1 =>
   have c0b : decide (x11 < (l0.length : Int)) = true := decide_eq_true (by have := HJ.out; have := HK.out; omega)
   have p1 : 0 ≤ x11 := by have := HJ.out; omega
   have q1 : x11 < (l0.length : Int) := by have := HJ.out; have := HK.out; omega
   obtain ⟨ad1, e1, hx1⟩ := Kd.at_int HR0.out x11 p1 q1
   cases e1
   replace hx1 := (cB HB.out hx1 :)
   replace p1 := eq_true p1
   replace q1 := eq_true q1
   obtain ⟨Ao, co, eo⟩ := Kd.R_slice HO.out
   subst eo
   have H := H'.out
   clear H'
   rw [List.drop_eq_getElem_cons (by have := HK.out; omega), sbL] at H
   have hrd : l0[j]'(by have := HK.out; omega) = rd l0 x11 := by have h1 := HJ.out; have h2 := HK.out; subst h1; simp [rd]; rw [List.getElem?_eq_getElem (by omega)]; rfl
   rw [hrd] at H
   clear hrd
   obtain ⟨m, hm, H⟩ := Option.bind_eq_some_iff.mp H
   have HM := Aside0.mk hm
   have H' := Aside0.mk H
   clear H hm
   go_wp2
   go_loopg [8] o.length (fun kq v8 w' => ∃ (x8 : Int), v8 = .int .i64 x8 ∧ Aside0 (x8 = (kq : Nat)) ∧ Aside0 (kq ≤ o.length) ∧ Aside0 (sbK (p (rd l0 x11)) o kq = some m) ∧ Aside0 (Kd.R (Kd.int .i64) 3 w' w.heap.size (fun _ => True) (.slice Ao o.length co) o) ∧ Aside0 (Below w.heap.size w w'))
   case atStart => exact ⟨(o.length : Int), (by first | rfl | (simp; done)), ⟨rfl⟩, ⟨Nat.le_refl _⟩, HM, ⟨by (with_reducible repeat (first | apply Kd.R_alloc | apply Kd.R_drewN | apply Kd.R_drew)); exact HO.out⟩, ⟨bB⟩⟩
   case round =>
    clear HM HO
    obtain ⟨x8, rfl, HX, HQ, HM, HO, HB⟩ := hrel
    cases gk with
    | zero =>
     have c1 : decide (0 < x8) = false := decide_eq_false (by have := HX.out; omega)
     have H := HM.out
     clear HM
     simp only [sbK, Option.some.injEq] at H
     have HM1 := Aside0.mk (show (m : Int) = x8 by have := HX.out; omega)
     clear H
     obtain ⟨hx, hm_⟩ : x8 = (m : Int) ∧ m ≤ o.length := ⟨by have := HX.out; have := HM1.out; omega, by have h1 := HM1.out; have h2 := HX.out; have h3 := HQ.out; omega⟩
     have HX2 := Aside0.mk (And.intro hx hm_)
     clear hx hm_
     have LM := Aside0.mk (show o.length < 17592186044416 by have := HL.out; have := HK.out; omega)
     go_wp2_with (first | ((with_reducible refine gate_builtin (b := .append) (xs := #[.tmp 31, .tmp 32]) rfl ?_); at_builtin; refine Kd.R_append (Kd.int .i64) (w0 := w) w.heap.size rfl (.tmp 31) (.tmp 32) 37 3 (.int .i64 0) 8 rfl Try.underlying37 info3 rfl (by decide) (by omega) (.slice Ao o.length co) o 0 [.int .i64 0] (fun _ => True) (fun _ => False) rfl rfl ?aP (fun _ hk => hk.elim) ?aF ?aO ?aB ?aS ?aL ?_; (case aP => exact rfl); (case aB => exact bB); (case aF => exact (fun _ _ => trivial)); (case aO => exact (by (with_reducible repeat (first | apply Kd.R_alloc | apply Kd.R_drewN | apply Kd.R_drew)); exact HO.out)); (case aS => exact (below_size bB)); (case aL => have := LM.out; omega); intro v5 w8 ho hb hg hat; have n0_ := Aside0.mk (hb); have n1_ := Aside0.mk (ho); clear HB; clear HO; have HB := n0_; have HO := n1_; clear n0_ n1_; clear ho hb hg hat))
     obtain ⟨go, cp, eo, gb, gl, cl, HG⟩ := Kd.R_form HO.out (by rw [List.length_append]; simp)
     (first | subst eo | cases eo)
     have GB := Aside0.mk gb
     clear gb gl HG cl
     have hw1 : wrap64 (x8 + 1) = ((m + 1 : Nat) : Int) := by have h1 := HX2.out; have h4 := LM.out; unfold wrap64; omega
     have p4 : 0 ≤ wrap64 (x8 + 1) := by omega
     have q4 : wrap64 (x8 + 1) ≤ (((o ++ [0]).length : Nat) : Int) := by have h1 := HX2.out; rw [List.length_append, List.length_singleton]; omega
     have p5 : 0 ≤ x8 := by have h1 := HX2.out; omega
     have q5 : x8 ≤ (((o ++ [0]).length : Nat) : Int) := by have h1 := HX2.out; rw [List.length_append, List.length_singleton]; omega
     have q6 : x8 < (((o ++ [0]).length : Nat) : Int) := by have h1 := HX2.out; rw [List.length_append, List.length_singleton]; omega
     have ew1 : (wrap64 (x8 + 1)).toNat = m + 1 := by rw [hw1]; rfl
     have ex8 : x8.toNat = m := by rw [HX2.out.1]; rfl
     have EW := Aside0.mk (And.intro ew1 ex8)
     clear hw1 ew1 ex8
     have ln : (o ++ [0]).length = o.length + 1 := by simp
     have LN := Aside0.mk ln
     clear ln
     generalize hoo : o ++ [0] = oo at *
     have OO := Aside0.mk hoo
     clear hoo
     refine start_ (n := 8) (S := fun w' => True) (ds := [7]) #[false, false, false, false, false, false, false, false] (by kernel_rfl) rfl rfl trivial (fun hHeld => ?_); refine with_tabW sb_tab9 sb_bits9 (fun HT_ HW_ => ?_)
     have n0_ := Aside0.mk (Kd.R_drew HO.out)
     have n1_ := Aside0.mk (below_drew1 HB.out)
     clear HO HB
     have HO := n0_
     have HB := n1_
     clear n0_ n1_
     generalize w8.drew = w9 at HO HB ⊢
     refine pU 0 34 #[true, false, false, false, false, false, false, false] ?_
     refine pU 1 35 #[true, true, false, false, false, false, false, false] ?_
     refine pU 2 36 #[true, true, true, false, false, false, false, false] ?_
     refine pU 4 38 #[true, true, true, false, true, false, false, false] ?_
     refine pU 5 39 #[true, true, true, false, true, true, false, false] ?_
     refine pU 3 37 #[true, true, true, true, true, true, false, false] ?_
     refine pU 6 40 #[true, true, true, true, true, true, true, false] ?_
     refine last_ (i := 7) (N := some 41) #[true, true, true, true, true, true, true, true] rfl rfl (one_of HT_.out (by kernel_rfl)) (by decide) (fun K hK => ?_)
     obtain ⟨w10, hrun, ho, hg⟩ := R_shift (P := Try.prog) (ty := 3) (t' := 37) (0 : Int) Try.underlying37 (by rw [show (Try.prog.info? 3).map (·.size) = some 1 from by kernel_rfl]) HO.out (m + 1) m (o.length - m) (cp - (m + 1)) (cp - m) (by have := HX2.out; have := LN.out; omega) (by have := HX2.out; have := LN.out; omega) (by have := HX2.out; have := LN.out; omega)
       (if cp = m + 1 then some ⟨go, 0, none⟩ else some ⟨go, m + 1, none⟩) (if cp = m then some ⟨go, 0, none⟩ else some ⟨go, m, none⟩) (fun h_ => if_neg (by have h1 := (Kd.R_reads' HO.out).2.1; have := LN.out; omega)) (fun h_ => if_neg (by have h1 := (Kd.R_reads' HO.out).2.1; have := LN.out; omega))
     refine value_ (w1 := w10) (v := .int .i64 ((o.length - m : Nat) : Int)) (by rfl) rfl ?_ ?_
     ·refine sb_copy (s := .tmp 37) (x := .tmp 40) (t := 37) (t' := 37) rfl rfl rfl ?_
      simp only [EW.out.1, EW.out.2]
      exact hrun
     refine hK.out _ _ ?_
     clear hK K
     have n0_ := Aside0.mk ho
     have n1_ := Aside0.mk (HB.out.grown hg (below_size HB.out) (fun k_ e_ => by injection e_ with e_; subst e_; exact GB.out))
     clear HO HB ho hrun hg
     have HO := n0_
     have HB := n1_
     clear n0_ n1_
     have p7 := eq_true p5
     have q7 := eq_true q6
     have hl3 : (oo.take (m + 1) ++ (oo.drop m).take (o.length - m) ++ oo.drop (m + 1 + (o.length - m))).length = oo.length := by have := HX2.out; have := LN.out; simp only [List.length_append, List.length_take, List.length_drop]; omega
     obtain ⟨hx9, hf9⟩ := Kd.R_celln 0 HO.out x8 p5 q6
     have HP := Kd.R_putn HO.out x8 (rd l0 x11)
     have HQ9 := Aside0.mk HP
     clear HP p5 q5 q6 p4 q4
     refine done_ (done_of HT_.out (by kernel_rfl)) ?_
     generalize (if cp = (wrap64 (x8 + 1)).toNat then (some ⟨go, 0, none⟩ : Option Addr) else some ⟨go, (wrap64 (x8 + 1)).toNat, none⟩) = ad37
     generalize (if cp = x8.toNat then (some ⟨go, 0, none⟩ : Option Addr) else some ⟨go, x8.toNat, none⟩) = ad40
     go_wp2
     all_goals (go_roundg k1; (case measure => omega); (case rel => exact ⟨j + 1, o.take m ++ rd l0 x11 :: o.drop m, wrap64 (x11 + 1), (by first | rfl | (simp; done)), ⟨by have h1 := HJ.out; have h2 := HK.out; have h3 := HL.out; unfold wrap64; omega⟩, ⟨by have h2 := HK.out; omega, by have h2 := HK.out; have h4 := HX2.out; simp only [List.length_append, List.length_cons, List.length_take, List.length_drop]; omega⟩, H', ⟨by (with_reducible repeat (first | apply Kd.R_alloc | apply Kd.R_drewN | apply Kd.R_drew)); have h8 := HQ9.out; have e9 := sb_shift o m (rd l0 x11) HX2.out.2; rw [OO.out] at e9; rw [EW.out.2, e9] at h8; rw [EW.out.2]; exact h8⟩, ⟨by repeat (first | (with_reducible first | exact HB.out | apply below_alloc | apply pw_below_drewN | apply below_drew1 | refine below_set ?_ GB.out) | exact HB.out)⟩⟩))
    | succ k2 =>
     have c1 : decide (0 < x8) = true := decide_eq_true (by have := HX.out; omega)
     have hw : wrap64 (x8 - 1) = (k2 : Int) := by have h1 := HX.out; have h2 := HQ.out; have h3 := HK.out; have h4 := HL.out; unfold wrap64; omega
     have p2 : 0 ≤ wrap64 (x8 - 1) := by omega
     have q2 : wrap64 (x8 - 1) < (o.length : Int) := by have h2 := HQ.out; omega
     obtain ⟨ad2, e2, hx2⟩ := Kd.at_int (Kd.R_reads' HO.out).2.2 (wrap64 (x8 - 1)) p2 q2
     cases e2
     have H := HM.out
     clear HM
     rw [sbK, ← hw] at H
     have HW := Aside0.mk hw
     clear hw
     replace p2 := eq_true p2
     replace q2 := eq_true q2
     obtain ⟨b, hb, H⟩ := Option.bind_eq_some_iff.mp H
     have HP := Aside0.mk hb
     have HM := Aside0.mk H
     clear H hb
     cases b with
     | true =>
      go_wp2_with (go_at_call 144; refine (HCL.out (rd l0 x11) (rd o (wrap64 (x8 - 1))) true _ bB HP.out).mono ?_; rintro e w' ⟨rfl, hbz⟩; have n0_ := Aside0.mk (Kd.R_below (by (with_reducible repeat (first | apply Kd.R_alloc | apply Kd.R_drewN | apply Kd.R_drew)); exact HO.out) hbz); have n1_ := Aside0.mk (below_step bB hbz); clear HO HB; have HO := n0_; have HB := n1_; clear n0_ n1_ hbz)
      go_roundg k2
      case measure => omega
      case rel => exact ⟨wrap64 (x8 - 1), (by first | rfl | (simp; done)), ⟨HW.out⟩, ⟨by have := HQ.out; omega⟩, ⟨by have := HM.out; simpa using this⟩, ⟨by (with_reducible repeat (first | apply Kd.R_alloc | apply Kd.R_drewN | apply Kd.R_drew)); exact HO.out⟩, ⟨bB⟩⟩
     | false =>
      have H := HM.out
      clear HM
      simp only [Bool.false_eq_true, if_false, Option.some.injEq] at H
      have HM1 := Aside0.mk (show (m : Int) = x8 by have := HX.out; omega)
      clear H
      obtain ⟨hx, hm_⟩ : x8 = (m : Int) ∧ m ≤ o.length := ⟨by have := HX.out; have := HM1.out; omega, by have h1 := HM1.out; have h2 := HX.out; have h3 := HQ.out; omega⟩
      have HX2 := Aside0.mk (And.intro hx hm_)
      clear hx hm_
      have LM := Aside0.mk (show o.length < 17592186044416 by have := HL.out; have := HK.out; omega)
      go_wp2_with (first | (go_at_call 144; refine (HCL.out (rd l0 x11) (rd o (wrap64 (x8 - 1))) false _ bB HP.out).mono ?_; rintro e w' ⟨rfl, hbz⟩; have n0_ := Aside0.mk (Kd.R_below (by (with_reducible repeat (first | apply Kd.R_alloc | apply Kd.R_drewN | apply Kd.R_drew)); exact HO.out) hbz); have n1_ := Aside0.mk (below_step bB hbz); clear HO HB; have HO := n0_; have HB := n1_; clear n0_ n1_ hbz) | ((with_reducible refine gate_builtin (b := .append) (xs := #[.tmp 31, .tmp 32]) rfl ?_); at_builtin; refine Kd.R_append (Kd.int .i64) (w0 := w) w.heap.size rfl (.tmp 31) (.tmp 32) 37 3 (.int .i64 0) 8 rfl Try.underlying37 info3 rfl (by decide) (by omega) (.slice (some ad2) o.length co) o 0 [.int .i64 0] (fun _ => True) (fun _ => False) rfl rfl ?aP (fun _ hk => hk.elim) ?aF ?aO ?aB ?aS ?aL ?_; (case aP => exact rfl); (case aB => exact bB); (case aF => exact (fun _ _ => trivial)); (case aO => exact (by (with_reducible repeat (first | apply Kd.R_alloc | apply Kd.R_drewN | apply Kd.R_drew)); exact HO.out)); (case aS => exact (below_size bB)); (case aL => have := LM.out; omega); intro v5 w8 ho hb hg hat; have n0_ := Aside0.mk (hb); have n1_ := Aside0.mk (ho); clear HB; clear HO; have HB := n0_; have HO := n1_; clear n0_ n1_; clear ho hb hg hat))
      obtain ⟨go, cp, eo, gb, gl, cl, HG⟩ := Kd.R_form HO.out (by rw [List.length_append]; simp)
      (first | subst eo | cases eo)
      have GB := Aside0.mk gb
      clear gb gl HG cl
      have hw1 : wrap64 (x8 + 1) = ((m + 1 : Nat) : Int) := by have h1 := HX2.out; have h4 := LM.out; unfold wrap64; omega
      have p4 : 0 ≤ wrap64 (x8 + 1) := by omega
      have q4 : wrap64 (x8 + 1) ≤ (((o ++ [0]).length : Nat) : Int) := by have h1 := HX2.out; rw [List.length_append, List.length_singleton]; omega
      have p5 : 0 ≤ x8 := by have h1 := HX2.out; omega
      have q5 : x8 ≤ (((o ++ [0]).length : Nat) : Int) := by have h1 := HX2.out; rw [List.length_append, List.length_singleton]; omega
      have q6 : x8 < (((o ++ [0]).length : Nat) : Int) := by have h1 := HX2.out; rw [List.length_append, List.length_singleton]; omega
      have ew1 : (wrap64 (x8 + 1)).toNat = m + 1 := by rw [hw1]; rfl
      have ex8 : x8.toNat = m := by rw [HX2.out.1]; rfl
      have EW := Aside0.mk (And.intro ew1 ex8)
      clear hw1 ew1 ex8
      have ln : (o ++ [0]).length = o.length + 1 := by simp
      have LN := Aside0.mk ln
      clear ln
      generalize hoo : o ++ [0] = oo at *
      have OO := Aside0.mk hoo
      clear hoo
      refine start_ (n := 8) (S := fun w' => True) (ds := [7]) #[false, false, false, false, false, false, false, false] (by kernel_rfl) rfl rfl trivial (fun hHeld => ?_); refine with_tabW sb_tab9 sb_bits9 (fun HT_ HW_ => ?_)
      have n0_ := Aside0.mk (Kd.R_drew HO.out)
      have n1_ := Aside0.mk (below_drew1 HB.out)
      clear HO HB
      have HO := n0_
      have HB := n1_
      clear n0_ n1_
      generalize w8.drew = w9 at HO HB ⊢
      refine pU 0 34 #[true, false, false, false, false, false, false, false] ?_
      refine pU 1 35 #[true, true, false, false, false, false, false, false] ?_
      refine pU 2 36 #[true, true, true, false, false, false, false, false] ?_
      refine pU 4 38 #[true, true, true, false, true, false, false, false] ?_
      refine pU 5 39 #[true, true, true, false, true, true, false, false] ?_
      refine pU 3 37 #[true, true, true, true, true, true, false, false] ?_
      refine pU 6 40 #[true, true, true, true, true, true, true, false] ?_
      refine last_ (i := 7) (N := some 41) #[true, true, true, true, true, true, true, true] rfl rfl (one_of HT_.out (by kernel_rfl)) (by decide) (fun K hK => ?_)
      obtain ⟨w10, hrun, ho, hg⟩ := R_shift (P := Try.prog) (ty := 3) (t' := 37) (0 : Int) Try.underlying37 (by rw [show (Try.prog.info? 3).map (·.size) = some 1 from by kernel_rfl]) HO.out (m + 1) m (o.length - m) (cp - (m + 1)) (cp - m) (by have := HX2.out; have := LN.out; omega) (by have := HX2.out; have := LN.out; omega) (by have := HX2.out; have := LN.out; omega)
        (if cp = m + 1 then some ⟨go, 0, none⟩ else some ⟨go, m + 1, none⟩) (if cp = m then some ⟨go, 0, none⟩ else some ⟨go, m, none⟩) (fun h_ => if_neg (by have h1 := (Kd.R_reads' HO.out).2.1; have := LN.out; omega)) (fun h_ => if_neg (by have h1 := (Kd.R_reads' HO.out).2.1; have := LN.out; omega))
      refine value_ (w1 := w10) (v := .int .i64 ((o.length - m : Nat) : Int)) (by rfl) rfl ?_ ?_
      ·refine sb_copy (s := .tmp 37) (x := .tmp 40) (t := 37) (t' := 37) rfl rfl rfl ?_
       simp only [EW.out.1, EW.out.2]
       exact hrun
      refine hK.out _ _ ?_
      clear hK K
      have n0_ := Aside0.mk ho
      have n1_ := Aside0.mk (HB.out.grown hg (below_size HB.out) (fun k_ e_ => by injection e_ with e_; subst e_; exact GB.out))
      clear HO HB ho hrun hg
      have HO := n0_
      have HB := n1_
      clear n0_ n1_
      have p7 := eq_true p5
      have q7 := eq_true q6
      have hl3 : (oo.take (m + 1) ++ (oo.drop m).take (o.length - m) ++ oo.drop (m + 1 + (o.length - m))).length = oo.length := by have := HX2.out; have := LN.out; simp only [List.length_append, List.length_take, List.length_drop]; omega
      obtain ⟨hx9, hf9⟩ := Kd.R_celln 0 HO.out x8 p5 q6
      have HP := Kd.R_putn HO.out x8 (rd l0 x11)
      have HQ9 := Aside0.mk HP
      clear HP p5 q5 q6 p4 q4
      refine done_ (done_of HT_.out (by kernel_rfl)) ?_
      generalize (if cp = (wrap64 (x8 + 1)).toNat then (some ⟨go, 0, none⟩ : Option Addr) else some ⟨go, (wrap64 (x8 + 1)).toNat, none⟩) = ad37
      generalize (if cp = x8.toNat then (some ⟨go, 0, none⟩ : Option Addr) else some ⟨go, x8.toNat, none⟩) = ad40
      go_wp2
      all_goals (go_roundg k1; (case measure => omega); (case rel => exact ⟨j + 1, o.take m ++ rd l0 x11 :: o.drop m, wrap64 (x11 + 1), (by first | rfl | (simp; done)), ⟨by have h1 := HJ.out; have h2 := HK.out; have h3 := HL.out; unfold wrap64; omega⟩, ⟨by have h2 := HK.out; omega, by have h2 := HK.out; have h4 := HX2.out; simp only [List.length_append, List.length_cons, List.length_take, List.length_drop]; omega⟩, H', ⟨by (with_reducible repeat (first | apply Kd.R_alloc | apply Kd.R_drewN | apply Kd.R_drew)); have h8 := HQ9.out; have e9 := sb_shift o m (rd l0 x11) HX2.out.2; rw [OO.out] at e9; rw [EW.out.2, e9] at h8; rw [EW.out.2]; exact h8⟩, ⟨by repeat (first | (with_reducible first | exact HB.out | apply below_alloc | apply pw_below_drewN | apply below_drew1 | refine below_set ?_ GB.out) | exact HB.out)⟩⟩))

/-! ### impl_sortedBy_144: a function of its own -/
def impl_sortedBy_144.f (l0 : List (Int)) (l1 : List (S59)) (a2 : Int) : Option (List Int) := if l0.length < 17592186044416 then sbL (fun a b => impl_ruledOrder_1.f a b l1 a2) l0 ([] : List Int) else none
theorem impl_sortedBy_144.calls {g1 : Nat} {g2 : Nat} (A0 : Option Addr) (c0 : Nat) (l0 : List (Int)) (A1 : Option Addr) (c1 : Nat) (l1 : List (S59)) (a2 : Int) (r : List Int) (w : World) (hr0 : Kd.C (Kd.int .i64) w A0 l0.length l0) (hc0 : l0.length ≤ c0) (hr1 : Kd.C k59 w A1 l1.length l1) (hc1 : l1.length ≤ c1) (hb1 : w.heap[g1]? = some (.cells #[.slice A1 l1.length c1] 26 (0, 0))) (hb2 : w.heap[g2]? = some (.cells #[.int .i64 a2] 3 (0, 0))) (h : impl_sortedBy_144.f l0 l1 a2 = some r) :
  Calls Try.prog 129 #[.slice A0 l0.length c0, .func (.func 144) #[] #[.pointer (some ⟨g1, 0, none⟩), .pointer (some ⟨g2, 0, none⟩)]] w fun e w' => ∃ v0_ : Value, e = .returned (v0_) ∧ Kd.R (Kd.int .i64) 3 w' w.heap.size (fun _ => True) v0_ r ∧ Below w.heap.size w w' := by
 unfold impl_sortedBy_144.f at h
 split at h
 · rename_i hl
   refine sb_calls_144 _ _ A0 c0 l0 r w hr0 hc0 _ (fun a b t w' hB hp => ?_) hl h
   exact (impl_ruledOrder_1.calls a b _ _ l1 a2 t w' (Kd.C_below hr1 hB) hc1 (blk_below hb1 hB) (blk_below hb2 hB) hp)
 · cases h

/-! ### impl_ruledOrder: function 120 -/
def impl_ruledOrder.f (k : Nat) (l0 : List (S59)) (a1 : Int) : Option (List Int) := (impl_numbersTo.f k (l0.length : Int)).bind fun t245 => ((impl_sortedBy_144.f t245 l0 a1).bind fun t248 => (some t248))
theorem impl_ruledOrder.mono : ∀ a0 a1 k, LeO (impl_ruledOrder.f k a0 a1) (impl_ruledOrder.f (k + 1) a0 a1) := by
 intro a0 a1 k
 unfold impl_ruledOrder.f
 repeat' first
   | (with_reducible exact impl_numbersTo.mono _ _)
   | (with_reducible exact LeO.refl _)
   | (with_reducible exact LeO.none _)
   | (with_reducible refine LeO.ite ?_ ?_)
   | (with_reducible refine LeO.bind ?_ (fun _ => ?_))
   | exact impl_numbersTo.mono _ _
   | exact LeO.none _
   | refine LeO.ite ?_ ?_
   | refine LeO.bind ?_ (fun _ => ?_)
set_option maxHeartbeats 8000000 in
set_option maxRecDepth 100000 in
theorem impl_ruledOrder.calls (k : Nat) (A0 : Option Addr) (c0 : Nat) (l0 : List (S59)) (a1 : Int) (r : List Int) (w : World) (hr0 : Kd.C k59 w A0 l0.length l0) (hc0 : l0.length ≤ c0) (h : impl_ruledOrder.f k l0 a1 = some r) :
  Calls Try.prog 120 #[.slice A0 l0.length c0, .int .i64 a1] w fun e w' => ∃ v0_ : Value, e = .returned (v0_) ∧ Kd.R (Kd.int .i64) 3 w' w.heap.size (fun _ => True) v0_ r ∧ Below w.heap.size w w' := by
 have HR0 := Aside0.mk hr0
 have HC0 := Aside0.mk hc0
 clear hr0 hc0
 have HB := Aside0.mk (Below.refl w.heap.size w)
 have H : ((impl_numbersTo.f k (l0.length : Int)).bind fun t245 => ((impl_sortedBy_144.f t245 l0 a1).bind fun t248 => (some t248))) = some r := h
 clear h
 replace H := Option.bind_eq_some_iff.mp H
 obtain ⟨t245, A30, H⟩ := H
 replace H : ((impl_sortedBy_144.f t245 l0 a1).bind fun t248 => (some t248)) = some r := H
 have A3 := Aside0.mk A30
 clear A30
 replace H := Option.bind_eq_some_iff.mp H
 obtain ⟨t248, A40, H⟩ := H
 replace H : (some t248) = some r := H
 have A4 := Aside0.mk A40
 clear A40
 obtain rfl := Option.some.inj H
 go_enter Try.func120, Try.ntmps120
 go_wp2_with (first | ((with_reducible refine gate_dst (N := 2) rfl ?_); refine bE 2 #[.slice A0 l0.length c0] 26 ?_; intro gb243 hg w5 hbox hb; have n0_ := Aside0.mk (below_step bB hb); have n1_ := Aside0.mk (hbox); have n2_ := Aside0.mk ((by rw [hg]; exact (below_size bB) : w.heap.size ≤ gb243)); have n3_ := Aside0.mk ((by rw [hg]; exact (below_size bB) : w.heap.size ≤ gb243)); clear HB; have HB := n0_; have BK243 := n1_; have GW243 := n2_; have GE243 := n3_; clear n0_ n1_ n2_ n3_; clear hb hbox hg) | ((with_reducible refine gate_dst (N := 3) rfl ?_); refine bE 3 #[.int .i64 a1] 3 ?_; intro gb244 hg w6 hbox hb; have n0_ := Aside0.mk (blk_below (g := gb243) (o := .cells #[.slice A0 l0.length c0] 26 (0, 0)) kB hb); have n1_ := Aside0.mk (below_step bS hb); have n2_ := Aside0.mk (hbox); have n3_ := Aside0.mk ((by rw [hg]; exact (below_size bS) : w.heap.size ≤ gb244)); have n4_ := Aside0.mk ((by rw [hg]; exact (below_size bS) : w.heap.size ≤ gb244)); have n5_ := Aside0.mk ((by rw [hg]; exact Nat.ne_of_lt (blk_lt (g := gb243) (o := .cells #[.slice A0 l0.length c0] 26 (0, 0)) kB) : gb243 ≠ gb244)); have n6_ := Aside0.mk ((by rw [hg]; exact Nat.ne_of_gt (blk_lt (g := gb243) (o := .cells #[.slice A0 l0.length c0] 26 (0, 0)) kB) : gb244 ≠ gb243)); clear BK243; clear HB; have BK243 := n0_; have HB := n1_; have BK244 := n2_; have GW244 := n3_; have GE244 := n4_; have NB243_244 := n5_; have NB244_243 := n6_; clear n0_ n1_ n2_ n3_ n4_ n5_ n6_; clear hb hbox hg; have hnb7 := NB243_244.out; have hnc7 := NB244_243.out; have hcz8_0 : w6.cell? ⟨gb243, 0, none⟩ = some (.slice A0 l0.length c0) := (blk_cell BK243.out 0).trans rfl; have hfz8_0 := blk_frozen BK243.out 0) | ((with_reducible refine gate_callee (f := 62) rfl ?_); refine goesL_ (some 7) rfl rfl Try.func62 (by kernel_rfl) rfl #[.int .i64 (l0.length : Int)] rfl aE ?_; (with_reducible refine (impl_numbersTo.calls k (l0.length : Int) t245 _ A3.out).mono ?_); rintro e w9 ⟨v246, rfl, ho0, hb⟩; refine ⟨_, rfl, ?_⟩; have n0_ := Aside0.mk (Kd.R_lower (Kd.R_newB ho0 (g := gb244) (o := .cells #[.int .i64 a1] 3 (0, 0)) kB) (below_size bS)); have n1_ := Aside0.mk (blk_below (g := gb243) (o := .cells #[.slice A0 l0.length c0] 26 (0, 0)) kB hb); have n2_ := Aside0.mk (blk_below (g := gb244) (o := .cells #[.int .i64 a1] 3 (0, 0)) kB hb); have n3_ := Aside0.mk (below_step bS hb); clear BK243; clear BK244; clear HB; have HO247 := n0_; have BK243 := n1_; have BK244 := n2_; have HB := n3_; clear n0_ n1_ n2_ n3_; (try clear hb); (try clear hk); (try clear ho0); obtain ⟨Ao10, co10, eo10⟩ := Kd.R_slice HO247.out; subst eo10) | ((with_reducible refine gate_callee (f := 129) rfl ?_); refine goesL_ (some 9) rfl rfl Try.func129 (by kernel_rfl) rfl #[.slice Ao10 t245.length co10, .func (.func 144) #[] #[.pointer (some ⟨gb243, 0, none⟩), .pointer (some ⟨gb244, 0, none⟩)]] rfl aE ?_; (with_reducible refine (impl_sortedBy_144.calls _ _ t245 A0 c0 l0 a1 t248 _ ?side1 ?side2 ?side3 ?side4 ?side5 ?side6 A4.out).mono ?_); (case side1 => repeat (first | exact (Kd.R_reads' HO247.out).2.2 | (with_reducible refine Kd.C_alloc ?_ _) | (with_reducible refine Kd.C_drewN ?_ _) | (with_reducible refine Kd.C_drew ?_))); (case side2 => exact (Kd.R_reads' HO247.out).2.1); (case side3 => repeat (first | exact (Kd.C_below HR0.out HB.out) | (with_reducible refine Kd.C_alloc ?_ _) | (with_reducible refine Kd.C_drewN ?_ _) | (with_reducible refine Kd.C_drew ?_))); (case side4 => exact HC0.out); (case side5 => exact kB); (case side6 => exact kB); rintro e w11 ⟨v249, rfl, ho0, hb⟩; refine ⟨_, rfl, ?_⟩; have n0_ := Aside0.mk (Kd.R_elder' (by (with_reducible repeat (first | apply Kd.R_alloc | apply Kd.R_drewN | apply Kd.R_drew)); exact HO247.out) (Kd.R_base ho0) hb); have n1_ := Aside0.mk (Kd.R_lower (Kd.R_newB (Kd.R_new' ho0 (Kd.R_lt (by (with_reducible repeat (first | apply Kd.R_alloc | apply Kd.R_drewN | apply Kd.R_drew)); exact HO247.out))) (g := gb244) (o := .cells #[.int .i64 a1] 3 (0, 0)) kB) (below_size bS)); have n2_ := Aside0.mk (blk_below (g := gb243) (o := .cells #[.slice A0 l0.length c0] 26 (0, 0)) kB hb); have n3_ := Aside0.mk (blk_below (g := gb244) (o := .cells #[.int .i64 a1] 3 (0, 0)) kB hb); have n4_ := Aside0.mk (below_step bS hb); clear HO247; clear BK243; clear BK244; clear HB; have HO247 := n0_; have HO250 := n1_; have BK243 := n2_; have BK244 := n3_; have HB := n4_; clear n0_ n1_ n2_ n3_ n4_; (try clear hb); (try clear hk); (try clear ho0)))
 go_ret
 exact ⟨_, by first | rfl | (simp [errW_none, errW_some] <;> rfl) | (simp [*, errW_none, errW_some] <;> rfl), by (with_reducible repeat (first | apply Kd.R_alloc | apply Kd.R_drewN | apply Kd.R_drew)); exact Kd.R_mono HO250.out (fun _ hk => trivial), bS⟩

/-! ### impl_tieGroups: function 67 -/
def impl_tieGroups.l0 : Nat → List (S59) → Int → List (List Int) → List Int → List Int → Int → Int → Option ((List (List Int)))
 | 0, _, _, _, _, _, _, _ => none
 | k + 1, x0, x1, x5, x6, x12, x13, x14 => if x14 < x13 then (if 0 ≤ x14 then (if x14 < (x12.length : Int) then (if x14 = 0 then (if x5.length < 5864062014805 then ((some (x5 ++ [[]] : List (List Int))).bind fun y255 => (if 0 ≤ (wrap64 ((y255.length : Int) - 1)) then (if (wrap64 ((y255.length : Int) - 1)) < (y255.length : Int) then (if (rd_L3 y255 (wrap64 ((y255.length : Int) - 1))).length < 17592186044416 then (impl_tieGroups.l0 k x0 x1 (y255.set ((wrap64 ((y255.length : Int) - 1)) : Int).toNat ((rd_L3 y255 (wrap64 ((y255.length : Int) - 1))) ++ [rd x12 x14])) x6 x12 x13 (wrap64 (x14 + 1))) else (none)) else (none)) else (none))) else (none)) else (if 0 ≤ (wrap64 (x14 - 1)) then (if (wrap64 (x14 - 1)) < (x6.length : Int) then (if 0 ≤ (rd x6 (wrap64 (x14 - 1))) then (if (rd x6 (wrap64 (x14 - 1))) < (x0.length : Int) then (if 0 ≤ (rd x12 x14) then (if (rd x12 x14) < (x0.length : Int) then ((impl_difference.f ((rd_T59 x0 (rd x6 (wrap64 (x14 - 1)))).f0) ((rd_T59 x0 (rd x6 (wrap64 (x14 - 1)))).f1) ((rd_T59 x0 (rd x6 (wrap64 (x14 - 1)))).f2) ((rd_T59 x0 (rd x6 (wrap64 (x14 - 1)))).f3) ((rd_T59 x0 (rd x12 x14)).f0) ((rd_T59 x0 (rd x12 x14)).f1) ((rd_T59 x0 (rd x12 x14)).f2) ((rd_T59 x0 (rd x12 x14)).f3) x1).bind fun t266 => (if t266 = 0 then (if 0 ≤ (wrap64 ((x5.length : Int) - 1)) then (if (wrap64 ((x5.length : Int) - 1)) < (x5.length : Int) then (if (rd_L3 x5 (wrap64 ((x5.length : Int) - 1))).length < 17592186044416 then (impl_tieGroups.l0 k x0 x1 (x5.set ((wrap64 ((x5.length : Int) - 1)) : Int).toNat ((rd_L3 x5 (wrap64 ((x5.length : Int) - 1))) ++ [rd x12 x14])) x6 x12 x13 (wrap64 (x14 + 1))) else (none)) else (none)) else (none)) else (if x5.length < 5864062014805 then ((some (x5 ++ [[]] : List (List Int))).bind fun y272 => (if 0 ≤ (wrap64 ((y272.length : Int) - 1)) then (if (wrap64 ((y272.length : Int) - 1)) < (y272.length : Int) then (if (rd_L3 y272 (wrap64 ((y272.length : Int) - 1))).length < 17592186044416 then (impl_tieGroups.l0 k x0 x1 (y272.set ((wrap64 ((y272.length : Int) - 1)) : Int).toNat ((rd_L3 y272 (wrap64 ((y272.length : Int) - 1))) ++ [rd x12 x14])) x6 x12 x13 (wrap64 (x14 + 1))) else (none)) else (none)) else (none))) else (none)))) else (none)) else (none)) else (none)) else (none)) else (none)) else (none))) else (none)) else (none)) else (some x5)
def impl_tieGroups.f (k : Nat) (l0 : List (S59)) (a1 : Int) : Option ((List (List Int))) := (impl_ruledOrder.f k l0 a1).bind fun t251 => (impl_tieGroups.l0 k l0 a1 ([] : List (List Int)) t251 t251 (t251.length : Int) 0)
theorem impl_tieGroups.mono_l : ∀ k, (∀ y0 y1 y2 y3 y4 y5 y6, LeO (impl_tieGroups.l0 k y0 y1 y2 y3 y4 y5 y6) (impl_tieGroups.l0 (k + 1) y0 y1 y2 y3 y4 y5 y6))
 | 0 => fun _ _ _ _ _ _ _ r h => by simp [impl_tieGroups.l0] at h
 | k + 1 => by
  have ih0 := impl_tieGroups.mono_l k
  ·intro y0 y1 y2 y3 y4 y5 y6
   unfold impl_tieGroups.l0
   repeat' first
   | (with_reducible exact ih0 _ _ _ _ _ _ _)
   | (with_reducible exact impl_ruledOrder.mono _ _ _)
   | (with_reducible exact LeO.refl _)
   | (with_reducible exact LeO.none _)
   | (with_reducible refine LeO.ite ?_ ?_)
   | (with_reducible refine LeO.bind ?_ (fun _ => ?_))
   | exact ih0 _ _ _ _ _ _ _
   | exact impl_ruledOrder.mono _ _ _
   | exact LeO.none _
   | refine LeO.ite ?_ ?_
   | refine LeO.bind ?_ (fun _ => ?_)
theorem impl_tieGroups.mono : ∀ a0 a1 k, LeO (impl_tieGroups.f k a0 a1) (impl_tieGroups.f (k + 1) a0 a1) := by
 intro a0 a1 k
 have ih0 := impl_tieGroups.mono_l k
 unfold impl_tieGroups.f
 repeat' first
   | (with_reducible exact ih0 _ _ _ _ _ _ _)
   | (with_reducible exact impl_ruledOrder.mono _ _ _)
   | (with_reducible exact LeO.refl _)
   | (with_reducible exact LeO.none _)
   | (with_reducible refine LeO.ite ?_ ?_)
   | (with_reducible refine LeO.bind ?_ (fun _ => ?_))
   | exact ih0 _ _ _ _ _ _ _
   | exact impl_ruledOrder.mono _ _ _
   | exact LeO.none _
   | refine LeO.ite ?_ ?_
   | refine LeO.bind ?_ (fun _ => ?_)
def impl_tieGroups.T6 : Bool × List (List Nat × List Nat) := (true, [([], []), ([0], [0]), ([1], [1]), ([2], [2]), ([2], [2]), ([2], [2]), ([5, 2], [2, 5]), ([4, 6, 2], [2, 4, 6]), ([7, 2], [2, 7]), ([3, 8, 2], [2, 3, 8]), ([9, 2], [2, 9]), ([2], [2]), ([2], [2]), ([11, 12, 2], [2, 11, 12]), ([13, 2], [2, 13]), ([2], [2]), ([10, 14, 15, 2, 2], [2, 10, 14, 15]), ([16, 2], [2, 16]), ([2, 17], [2, 17])])
def impl_tieGroups.B6 : List Nat := [0, 1, 3, 7, 7, 7, 39, 119, 247, 511, 1023, 7, 7, 6151, 14343, 7, 65535, 131071, 262143]
theorem impl_tieGroups.tab6 : rtab .any (opsOf Try.f67 6) = impl_tieGroups.T6 := by kernel_rfl
theorem impl_tieGroups.bits6 : waitsOk impl_tieGroups.T6.2 impl_tieGroups.B6 = true := by kernel_rfl
set_option maxHeartbeats 8000000 in
set_option maxRecDepth 100000 in
theorem impl_tieGroups.calls (k : Nat) (A0 : Option Addr) (c0 : Nat) (l0 : List (S59)) (a1 : Int) (r : List (List Int)) (w : World) (hr0 : Kd.C k59 w A0 l0.length l0) (hc0 : l0.length ≤ c0) (h : impl_tieGroups.f k l0 a1 = some r) :
  Calls Try.prog 67 #[.slice A0 l0.length c0, .int .i64 a1] w fun e w' => ∃ v0_ : Value, e = .returned (v0_) ∧ Kd.S (Kd.slice 3 (Kd.int .i64)) 37 w' w.heap.size (fun _ => True) v0_ r ∧ Below w.heap.size w w' := by
 have hu59 := Try.underlying59
 have HR0 := Aside0.mk hr0
 have HC0 := Aside0.mk hc0
 clear hr0 hc0
 have HB := Aside0.mk (Below.refl w.heap.size w)
 have H : ((impl_ruledOrder.f k l0 a1).bind fun t251 => (impl_tieGroups.l0 k l0 a1 ([] : List (List Int)) t251 t251 (t251.length : Int) 0)) = some r := h
 clear h
 replace H := Option.bind_eq_some_iff.mp H
 obtain ⟨t251, A30, H⟩ := H
 replace H : (impl_tieGroups.l0 k l0 a1 ([] : List (List Int)) t251 t251 (t251.length : Int) 0) = some r := H
 have A3 := Aside0.mk A30
 clear A30
 have H' := Aside0.mk H
 clear H
 go_enter Try.func67, Try.ntmps67
 go_wp2_with (first | ((with_reducible refine gate_callee (f := 120) rfl ?_); refine goesL_ (some 11) rfl rfl Try.func120 (by kernel_rfl) rfl #[.slice A0 l0.length c0, .int .i64 a1] rfl aE ?_; (with_reducible refine (impl_ruledOrder.calls k _ _ l0 a1 t251 _ ?side1 ?side2 A3.out).mono ?_); (case side1 => repeat (first | exact HR0.out | (with_reducible refine Kd.C_alloc ?_ _) | (with_reducible refine Kd.C_drewN ?_ _) | (with_reducible refine Kd.C_drew ?_))); (case side2 => exact HC0.out); rintro e w4 ⟨v252, rfl, ho0, hb⟩; refine ⟨_, rfl, ?_⟩; have n0_ := Aside0.mk (Kd.R_lower ho0 (below_size bB)); have n1_ := Aside0.mk (below_step bB hb); clear HB; have HO253 := n0_; have HB := n1_; clear n0_ n1_; (try clear hb); (try clear hk); (try clear ho0); obtain ⟨Ao5, co5, eo5⟩ := Kd.R_slice HO253.out; subst eo5))
 go_loopg [5, 14] k (fun kq v5 v14 w' => ∃ (x5_1 : List (List Int)) (x14_1 : Int), v14 = .int .i64 x14_1 ∧ Aside0 (impl_tieGroups.l0 kq l0 a1 x5_1 t251 t251 (t251.length : Int) x14_1 = some r) ∧ Aside0 (kq ≤ k) ∧ Aside0 (Kd.S (Kd.slice 3 (Kd.int .i64)) 37 w' w.heap.size (fun k_ => some k_ ≠ ((.slice Ao5 t251.length co5) : Value).ownBlock ∧ some k_ ≠ ((.slice Ao5 t251.length co5) : Value).ownBlock) v5 x5_1) ∧ Aside0 (Kd.R (Kd.int .i64) 3 w' w.heap.size (fun _ => True) (.slice Ao5 t251.length co5) t251) ∧ Aside0 (Kd.R (Kd.int .i64) 3 w' w.heap.size (fun _ => True) (.slice Ao5 t251.length co5) t251) ∧ Aside0 (Below w.heap.size w w'))
 case atStart => exact ⟨(([] : List (List Int))), (0), sD, H', ⟨Nat.le_refl _⟩, ⟨by first | exact Kd.S_nil _ _ _ _ _ | exact Kd.N_nil _ _ _ _ _ | exact Kd.V_nil _ _ _ _ _ | exact Kd.Q_nil _ _ _ _ _ | exact Kd.R_nil _ _ _ _ _⟩, ⟨kR⟩, ⟨kR⟩, ⟨by repeat (first | (with_reducible first | exact HB.out | apply below_alloc | apply pw_below_drewN | apply below_drew1) | exact HB.out)⟩⟩
 case round =>
  clear H'
  try clear c1
  try clear p2
  obtain ⟨x5_1, x14_1, rfl, HA, HK1, HO_5, HO_6, HO_12, HB⟩ := hrel
  cases gk with
  | zero => exact absurd HA.out (by simp [impl_tieGroups.l0])
  | succ k1 =>
   have H := HA.out
   clear HA
   simp only [impl_tieGroups.l0] at H
   by_cases c6 : x14_1 < (t251.length : Int)
   ·rw [if_pos c6] at H
    have c6b0 : decide (x14_1 < (t251.length : Int)) = true := decide_eq_true c6
    clear c6
    by_cases c7 : 0 ≤ x14_1; rotate_left
    ·rw [if_neg c7] at H; exact absurd H (by simp)
    rw [if_pos c7] at H
    have c7b0 : decide (0 ≤ x14_1) = true := decide_eq_true c7
    clear c7
    by_cases c8 : x14_1 < (t251.length : Int); rotate_left
    ·rw [if_neg c8] at H; exact absurd H (by simp)
    rw [if_pos c8] at H
    have c8b0 : decide (x14_1 < (t251.length : Int)) = true := decide_eq_true c8
    clear c8
    by_cases c9 : x14_1 = 0
    ·rw [if_pos c9] at H
     have c9b0 : (x14_1 == 0) = true := beq_iff_eq.mpr c9
     have c9b1 : (x14_1 != 0) = false := bne_eq_false_iff_eq.mpr c9
     clear c9
     by_cases c10 : x5_1.length < 5864062014805; rotate_left
     ·rw [if_neg c10] at H; exact absurd H (by simp)
     rw [if_pos c10] at H
     have LMc10 := Aside0.mk c10
     clear c10
     obtain ⟨y255, hy255⟩ : ∃ y_ : List (List Int), y_ = (x5_1 ++ [[]]) := ⟨_, rfl⟩
     replace H : (if 0 ≤ (wrap64 ((y255.length : Int) - 1)) then (if (wrap64 ((y255.length : Int) - 1)) < (y255.length : Int) then (if (rd_L3 y255 (wrap64 ((y255.length : Int) - 1))).length < 17592186044416 then (impl_tieGroups.l0 k1 l0 a1 (y255.set ((wrap64 ((y255.length : Int) - 1)) : Int).toNat ((rd_L3 y255 (wrap64 ((y255.length : Int) - 1))) ++ [rd t251 x14_1])) t251 t251 (t251.length : Int) (wrap64 (x14_1 + 1))) else (none)) else (none)) else (none)) = some r := by first | (rw [hy255]; with_reducible exact H) | (have H2_ := (Option.bind_some _ _).symm.trans H; rw [hy255]; with_reducible exact H2_) | (have H2_ := (Option.bind_some _ _).symm.trans H; with_reducible exact H2_) | with_reducible exact H | (rw [hy255]; exact H) | exact H
     have Ny255 := Aside0.mk hy255
     clear hy255
     obtain ⟨ji11, hji11⟩ : ∃ j_ : Int, (wrap64 ((y255.length : Int) - 1)) = j_ := ⟨_, rfl⟩
     replace H : (if 0 ≤ (ji11) then (if (ji11) < (y255.length : Int) then (if (rd_L3 y255 (ji11)).length < 17592186044416 then (impl_tieGroups.l0 k1 l0 a1 (y255.set ((ji11) : Int).toNat ((rd_L3 y255 (ji11)) ++ [rd t251 x14_1])) t251 t251 (t251.length : Int) (wrap64 (x14_1 + 1))) else (none)) else (none)) else (none)) = some r := by first | (rw [hji11] at H; exact H) | (simp only [hji11] at H ⊢; exact H)
     have hji11w : (IntKind.i64.wrap ((y255.length : Int) - 1)) = ji11 := (i64_w _).trans hji11
     by_cases c12 : 0 ≤ (ji11); rotate_left
     ·rw [if_neg c12] at H; exact absurd H (by simp)
     rw [if_pos c12] at H
     have c12b0 : decide (0 ≤ (ji11)) = true := decide_eq_true c12
     clear c12
     by_cases c13 : (ji11) < (y255.length : Int); rotate_left
     ·rw [if_neg c13] at H; exact absurd H (by simp)
     rw [if_pos c13] at H
     have c13b0 : decide ((ji11) < (y255.length : Int)) = true := decide_eq_true c13
     clear c13
     by_cases c14 : (rd_L3 y255 (ji11)).length < 17592186044416; rotate_left
     ·rw [if_neg c14] at H; exact absurd H (by simp)
     rw [if_pos c14] at H
     have LMc14 := Aside0.mk c14
     clear c14
     obtain ⟨y259, hy259⟩ : ∃ y_ : List Int, y_ = ((rd_L3 y255 (ji11)) ++ [rd t251 x14_1]) := ⟨_, rfl⟩
     replace H : (impl_tieGroups.l0 k1 l0 a1 (y255.set ((ji11) : Int).toNat y259) t251 t251 (t251.length : Int) (wrap64 (x14_1 + 1))) = some r := by first | (rw [hy259]; with_reducible exact H) | (have H2_ := (Option.bind_some _ _).symm.trans H; rw [hy259]; with_reducible exact H2_) | (have H2_ := (Option.bind_some _ _).symm.trans H; with_reducible exact H2_) | with_reducible exact H | (rw [hy259]; exact H) | exact H
     have Ny259 := Aside0.mk hy259
     clear hy259
     obtain ⟨y262, hy262⟩ : ∃ y_ : List (List Int), y_ = (y255.set ((ji11) : Int).toNat y259) := ⟨_, rfl⟩
     replace H : (impl_tieGroups.l0 k1 l0 a1 y262 t251 t251 (t251.length : Int) (wrap64 (x14_1 + 1))) = some r := by first | (rw [hy262]; with_reducible exact H) | (have H2_ := (Option.bind_some _ _).symm.trans H; rw [hy262]; with_reducible exact H2_) | (have H2_ := (Option.bind_some _ _).symm.trans H; with_reducible exact H2_) | with_reducible exact H | (rw [hy262]; exact H) | exact H
     have Ny262 := Aside0.mk hy262
     clear hy262
     have H' := Aside0.mk H
     clear H
     have p254 : 0 ≤ (x14_1 : Int) := oD
     have q254 : x14_1 < (t251.length : Int) := oD
     obtain ⟨ad254, e254, hx254_0⟩ := Kd.at_int (Kd.R_reads' HO_12.out).2.2 x14_1 p254 q254
     cases e254
     replace p254 := eq_true p254
     replace q254 := eq_true q254
     try go_wp2
     have n0_ := Aside0.mk (Kd.S_drew HO_5.out)
     have n1_ := Aside0.mk (Kd.R_drew HO_6.out)
     have n2_ := Aside0.mk (Kd.R_drew HO_12.out)
     have n3_ := Aside0.mk (below_drew1 HB.out)
     clear HO_5
     clear HO_6
     clear HO_12
     clear HB
     have HO_5 := n0_
     have HO_6 := n1_
     have HO_12 := n2_
     have HB := n3_
     clear n0_ n1_ n2_ n3_
     refine start_ (n := 19) (S := fun w' => True) (ds := []) (bA 19 0) (by kernel_rfl) rfl rfl trivial (fun hHeld => ?_); refine with_tabW impl_tieGroups.tab6 impl_tieGroups.bits6 (fun HT_ HW_ => ?_)
     generalize wr.drew = w16 at HO_5 HO_6 HO_12 HB hHeld ⊢
     refine pU 0 19 (bA 19 1) ?_
     refine pU 1 20 (bA 19 3) ?_
     refine pU 2 21 (bA 19 7) ?_
     refine nU 3 22 (bA 19 15) ?_
     refine nU 4 23 (bA 19 31) ?_
     refine nU 5 24 (bA 19 63) ?_
     refine nU 6 25 (bA 19 127) ?_
     refine nU 7 26 (bA 19 255) ?_
     refine nU 8 27 (bA 19 511) ?_
     refine nU 9 28 (bA 19 1023) ?_
     refine nU 10 29 (bA 19 2047) ?_
     refine nU 11 30 (bA 19 4095) ?_
     refine nU 12 31 (bA 19 8191) ?_
     refine nU 13 32 (bA 19 16383) ?_
     refine nU 14 33 (bA 19 32767) ?_
     refine nU 15 34 (bA 19 65535) ?_
     refine nU 16 35 (bA 19 131071) ?_
     refine nU 17 36 (bA 19 262143) ?_
     refine pU 18 37 (bA 19 524287) ?_
     refine done_ (done_of HT_.out (by kernel_rfl)) ?_
     try go_wp2_with (first | ((with_reducible refine gate_builtin (b := .append) (xs := #[.tmp 38, .tmp 39]) rfl ?_); at_builtin; refine Kd.S_append (Kd.slice 3 (Kd.int .i64)) (w0 := w) w.heap.size rfl (.tmp 38) (.tmp 39) 30 37 (.slice none 0 0) 24 rfl Try.underlying30 info37 rfl (by decide) (by omega) u5 x5_1 [] [.slice none 0 0] (fun k_ => some k_ ≠ (.slice (some ad254) t251.length co5 : Value).ownBlock ∧ some k_ ≠ (.slice (some ad254) t251.length co5 : Value).ownBlock) (fun _ => False) rfl rfl ?aP (fun _ hk => hk.elim) ?aF ?aO ?aB ?aS ?aL ?_; (case aP => exact ⟨_, rfl, Kd.R_nil _ _ _ _ _⟩); (case aB => exact bB); (case aF => exact (fun k_ hk => ⟨Kd.fresh' (Kd.R_lt (by (with_reducible repeat (first | apply Kd.R_alloc | apply Kd.R_drewN | apply Kd.R_drew)); exact HO_6.out)) k_ hk, Kd.fresh' (Kd.R_lt (by (with_reducible repeat (first | apply Kd.R_alloc | apply Kd.R_drewN | apply Kd.R_drew)); exact HO_12.out)) k_ hk⟩)); (case aO => exact (by (with_reducible repeat (first | apply Kd.S_alloc | apply Kd.S_drewN | apply Kd.S_drew)); exact Kd.S_mono HO_5.out (fun k_ hk => ⟨⟨hk.1, hk.2⟩, fun e_ => e_⟩))); (case aS => exact (below_size bB)); (case aL => have := LMc10.out; omega); intro v256 w17 ho hb hg hat; rw [← Ny255.out] at ho; have n0_ := Aside0.mk (Kd.R_over' (by (with_reducible repeat (first | apply Kd.R_alloc | apply Kd.R_drewN | apply Kd.R_drew)); exact HO_6.out) (Kd.S_typed (by (with_reducible repeat (first | apply Kd.S_alloc | apply Kd.S_drewN | apply Kd.S_drew)); exact HO_5.out)) (by decide) hg); have n1_ := Aside0.mk (Kd.R_over' (by (with_reducible repeat (first | apply Kd.R_alloc | apply Kd.R_drewN | apply Kd.R_drew)); exact HO_12.out) (Kd.S_typed (by (with_reducible repeat (first | apply Kd.S_alloc | apply Kd.S_drewN | apply Kd.S_drew)); exact HO_5.out)) (by decide) hg); have n2_ := Aside0.mk (hb); have n3_ := Aside0.mk (ho); clear HO_6; clear HO_12; clear HB; clear HO_5; have HO_6 := n0_; have HO_12 := n1_; have HB := n2_; have HO257 := n3_; clear n0_ n1_ n2_ n3_; clear ho hb hg hat; obtain ⟨Ao18, co18, eo18⟩ := Kd.S_slice HO257.out; subst eo18; have p258 : 0 ≤ ((ji11) : Int) := oD; have q258 : (ji11) < (y255.length : Int) := oD; obtain ⟨ad258, A258_0, c258_0, e258, hx258_0, hl258_0, hi258_0⟩ := at_L3 (Kd.S_reads' HO257.out).2.2 (ji11) p258 q258; cases e258; obtain ⟨ce258, hce258, hMe258, hcc258⟩ := Kd.S_get HO257.out [] (ji11) p258 (by first | exact q258 | exact oD | (have e_ := (Kd.S_reads' HO257.out).1; omega)); obtain ⟨ve258_0, rfl, ge258_0⟩ := hMe258; have hv258_0 := hcc258 0 _ rfl; rw [Nat.add_zero, show ((Kd.slice 3 (Kd.int .i64))).sz = 1 from rfl, Nat.mul_one] at hv258_0; replace hv258_0 := Option.some.inj (hv258_0.symm.trans hx258_0); rw [hv258_0] at ge258_0; have HL258_0 := Aside0.mk (show Kd.R (Kd.int .i64) 3 _ _ _ _ (rd_L3 y255 (ji11)) from ge258_0); clear hv258_0 ge258_0; have HX258_0 := Aside0.mk hx258_0; clear hcc258 hce258; have HR258_0 := Aside0.mk hi258_0; have HC258_0 := Aside0.mk hl258_0; clear hi258_0 hl258_0; replace p258 := eq_true p258; replace q258 := eq_true q258; obtain ⟨go19, co19, eo19, gb19, gl19, cl19, HG19⟩ := Kd.S_form HO257.out (by have h_ : ((ji11) : Int) < ((y255.length : Int) : Int) := oD; have h2_ : 0 ≤ ((ji11) : Int) := (oD); omega); (first | cases eo19 | (injection eo19 with ea_ en_ ec_; (first | subst ea_ | (injection ea_ with ea_; subst ea_)); subst ec_; clear en_)); have GB19 := Aside0.mk gb19; have GG19 := Aside0.mk HG19; clear gb19 gl19 HG19; (first | simp only [add_plain] at hx258_0 | skip); obtain ⟨oki19, ce19, hcl19, hM19, hcc19, _, _, hH19⟩ := Kd.S_elem HO257.out [] ((ji11) : Int) (oD) (by have h_ : ((ji11) : Int) < ((y255.length : Int) : Int) := oD; first | exact h_ | (have e_ := (Kd.S_reads' HO257.out).1; omega) | simpa using h_); obtain ⟨ve19_0, rfl, ge19_0⟩ := hM19; have hv19 := hcc19 0 _ rfl; have hX19 := HX258_0.out; (try simp only [add_plain] at hX19); (try simp only [Nat.add_zero] at hv19); (try rw [show ((Kd.slice 3 (Kd.int .i64))).sz = 1 from rfl, Nat.mul_one] at hv19); replace hv19 := Option.some.inj (hv19.symm.trans hX19); subst hv19; clear hX19 hcc19 hcl19; have UU19 := Aside0.mk (show Kd.R (Kd.int .i64) 3 _ w.heap.size oki19 (.slice A258_0 (rd_L3 y255 (ji11)).length c258_0) (rd_L3 y255 (ji11)) from ge19_0); have HH19 := Aside0.mk hH19; have HN19 := Aside0.mk (Kd.S_reads' HO257.out).1; clear hH19 ge19_0) | ((with_reducible refine gate_builtin (b := .append) (xs := #[.tmp 50, .tmp 52]) rfl ?_); at_builtin; refine Kd.R_append (Kd.int .i64) (w0 := w) w.heap.size rfl (.tmp 50) (.tmp 52) 37 3 (.int .i64 0) 8 rfl Try.underlying37 info3 rfl (by decide) (by omega) (.slice A258_0 (rd_L3 y255 (ji11)).length c258_0) (rd_L3 y255 (ji11)) (rd t251 x14_1) [.int .i64 (rd t251 x14_1)] (fun k_ => oki19 k_ ∨ ((fun k_ => some k_ ≠ (.slice (some ad254) t251.length co5 : Value).ownBlock ∧ some k_ ≠ (.slice (some ad254) t251.length co5 : Value).ownBlock)) k_ ∧ w17.heap.size ≤ k_) (fun _ => False) rfl rfl ?aP (fun _ hk => hk.elim) ?aF ?aO ?aB ?aS ?aL ?_; (case aP => exact rfl); (case aB => exact bB); (case aF => exact (fun k_ hk => .inr ⟨⟨Kd.fresh' (Kd.R_lt (by (with_reducible repeat (first | apply Kd.R_alloc | apply Kd.R_drewN | apply Kd.R_drew)); exact HO_6.out)) k_ hk, Kd.fresh' (Kd.R_lt (by (with_reducible repeat (first | apply Kd.R_alloc | apply Kd.R_drewN | apply Kd.R_drew)); exact HO_12.out)) k_ hk⟩, hk⟩)); (case aO => exact (by (with_reducible repeat (first | apply Kd.R_alloc | apply Kd.R_drewN | apply Kd.R_drew)); exact Kd.R_mono UU19.out (fun _ hk => .inl hk))); (case aS => exact (below_size bB)); (case aL => have := LMc14.out; omega); intro v260 w20 ho hb hg hat; rw [← Ny259.out] at ho; have n0_ := Aside0.mk (Kd.R_grown2 (by (with_reducible repeat (first | apply Kd.R_alloc | apply Kd.R_drewN | apply Kd.R_drew)); exact HO_6.out) rfl hg (fun k_ e_ => (HL258_0.out.1 k_ e_).1.1)); have n1_ := Aside0.mk (Kd.R_grown2 (by (with_reducible repeat (first | apply Kd.R_alloc | apply Kd.R_drewN | apply Kd.R_drew)); exact HO_12.out) rfl hg (fun k_ e_ => (HL258_0.out.1 k_ e_).1.2)); have n2_ := Aside0.mk (hb); have n3_ := Aside0.mk (Kd.H_grown (Kd.H_widen (by repeat (first | exact HH19.out | refine Kd.H_alloc ?_ _ | refine Kd.H_drewN ?_ _ | refine Kd.H_drew ?_))) hg (fun k_ e_ => .inl (UU19.out.1 k_ e_))); have n4_ := Aside0.mk (ho); clear HO_6; clear HO_12; clear HB; clear HH19; clear HO257; clear UU19; clear HL258_0; have HO_6 := n0_; have HO_12 := n1_; have HB := n2_; have HH19 := n3_; have HO261 := n4_; clear n0_ n1_ n2_ n3_ n4_; clear ho hb hg hat; have p15 : 0 ≤ ((ji11) : Int) := oD; have q15 : ((ji11) : Int) < ((y255.length : Int) : Int) := oD; replace p15 := eq_true p15; replace q15 := eq_true q15; obtain ⟨Ao23, co23, eo23⟩ := Kd.R_slice HO261.out; subst eo23; obtain ⟨_, _, hraw21, _, _, hcc21, _⟩ := Kd.H_raw HH19.out (oD) (by have h_ : ((ji11) : Int) < ((y255.length : Int) : Int) := oD; first | exact h_ | (have e_ := (HN19.out); omega) | simpa using h_); obtain ⟨_, hfr21⟩ := Kd.H_at HH19.out (oD) (by have h_ : ((ji11) : Int) < ((y255.length : Int) : Int) := oD; first | exact h_ | (have e_ := (HN19.out); omega) | simpa using h_); have hx21_0 := hcc21 0 _ rfl; have hf21_0 := hfr21 0; (try simp only [Nat.add_zero] at hx21_0 hf21_0); (try rw [show ((Kd.slice 3 (Kd.int .i64))).sz = 1 from rfl, Nat.mul_one] at hx21_0); (try rw [show ((Kd.slice 3 (Kd.int .i64))).sz = 1 from rfl, Nat.mul_one] at hf21_0); have HP21 := Kd.S_seg0 HH19.out (oD) (by have h_ : ((ji11) : Int) < ((y255.length : Int) : Int) := oD; first | exact h_ | (have e_ := (HN19.out); omega) | simpa using h_) (seg := [.slice Ao23 y259.length co23]) (j := 0) (show 1 ≤ 1 from by decide) (x' := y259) (Kd.M_row HO261.out) (fun _ hk => hk); (try simp only [show ((Kd.slice 3 (Kd.int .i64))).sz = 1 from rfl, Nat.mul_one, Nat.add_zero] at HP21); clear hcc21 hfr21) | ((with_reducible refine gate_store (t := 37) (p := 54) rfl ?_); refine store_event (t := 37) (p := 54) (v := ?vo_w22) (w1 := (w20.setCell ⟨go19, ((ji11) : Int).toNat, none⟩ (.slice Ao23 y259.length co23))) ?hg ?ho ?hn ?hr ?_; (case ho => rfl); (case hg => rfl); (case hn => rfl); (case hr => first | (go_simp; done) | (go_simp; rfl)); intro w22 hw; have hg : w20.grownBy w22 (some go19) := (by rw [hw]; exact HP21.2); have hp_ : Kd.S (Kd.slice 3 (Kd.int .i64)) 37 w22 w.heap.size (fun k_ => some k_ ≠ (.slice (some ad254) t251.length co5 : Value).ownBlock ∧ some k_ ≠ (.slice (some ad254) t251.length co5 : Value).ownBlock) (.slice (some ⟨go19, 0, none⟩) y255.length co18) y262 := (by rw [hw, Ny262.out]; exact HP21.1); clear HP21; have n0_ := Aside0.mk (Kd.R_over' (v := (.slice (some ⟨go19, 0, none⟩) y255.length co18)) (by (with_reducible repeat (first | apply Kd.R_alloc | apply Kd.R_drewN | apply Kd.R_drew)); exact HO_6.out) (Kd.R_typed hraw21) (by decide) hg); have n1_ := Aside0.mk (Kd.R_over' (v := (.slice (some ⟨go19, 0, none⟩) y255.length co18)) (by (with_reducible repeat (first | apply Kd.R_alloc | apply Kd.R_drewN | apply Kd.R_drew)); exact HO_12.out) (Kd.R_typed hraw21) (by decide) hg); have n2_ := Aside0.mk ((by rw [hw]; exact below_set HB.out GB19.out : Below w.heap.size w w22)); have n3_ := Aside0.mk (hp_); clear HO_6; clear HO_12; clear HB; clear HO261; clear HH19; have HO_6 := n0_; have HO_12 := n1_; have HB := n2_; have HO257 := n3_; clear n0_ n1_ n2_ n3_; clear hg hw hp_ hraw21))
     go_roundg k1
     case measure => have := HK1.out; omega
     case rel => exact ⟨(y262), (wrap64 (x14_1 + 1)), sD, H', ⟨by have := HK1.out; omega⟩, ⟨kS⟩, ⟨kR⟩, ⟨kR⟩, ⟨by repeat (first | (with_reducible first | exact HB.out | apply below_alloc | apply pw_below_drewN | apply below_drew1) | exact HB.out)⟩⟩
    ·rw [if_neg c9] at H
     have c9b0 : (x14_1 == 0) = false := beq_eq_false_iff_ne.mpr c9
     have c9b1 : (x14_1 != 0) = true := bne_iff_ne.mpr c9
     obtain ⟨ji24, hji24⟩ : ∃ j_ : Int, (wrap64 (x14_1 - 1)) = j_ := ⟨_, rfl⟩
     replace H : (if 0 ≤ (ji24) then (if (ji24) < (t251.length : Int) then (if 0 ≤ (rd t251 (ji24)) then (if (rd t251 (ji24)) < (l0.length : Int) then (if 0 ≤ (rd t251 x14_1) then (if (rd t251 x14_1) < (l0.length : Int) then ((impl_difference.f ((rd_T59 l0 (rd t251 (ji24))).f0) ((rd_T59 l0 (rd t251 (ji24))).f1) ((rd_T59 l0 (rd t251 (ji24))).f2) ((rd_T59 l0 (rd t251 (ji24))).f3) ((rd_T59 l0 (rd t251 x14_1)).f0) ((rd_T59 l0 (rd t251 x14_1)).f1) ((rd_T59 l0 (rd t251 x14_1)).f2) ((rd_T59 l0 (rd t251 x14_1)).f3) a1).bind fun t266 => (if t266 = 0 then (if 0 ≤ (wrap64 ((x5_1.length : Int) - 1)) then (if (wrap64 ((x5_1.length : Int) - 1)) < (x5_1.length : Int) then (if (rd_L3 x5_1 (wrap64 ((x5_1.length : Int) - 1))).length < 17592186044416 then (impl_tieGroups.l0 k1 l0 a1 (x5_1.set ((wrap64 ((x5_1.length : Int) - 1)) : Int).toNat ((rd_L3 x5_1 (wrap64 ((x5_1.length : Int) - 1))) ++ [rd t251 x14_1])) t251 t251 (t251.length : Int) (wrap64 (x14_1 + 1))) else (none)) else (none)) else (none)) else (if x5_1.length < 5864062014805 then ((some (x5_1 ++ [[]] : List (List Int))).bind fun y272 => (if 0 ≤ (wrap64 ((y272.length : Int) - 1)) then (if (wrap64 ((y272.length : Int) - 1)) < (y272.length : Int) then (if (rd_L3 y272 (wrap64 ((y272.length : Int) - 1))).length < 17592186044416 then (impl_tieGroups.l0 k1 l0 a1 (y272.set ((wrap64 ((y272.length : Int) - 1)) : Int).toNat ((rd_L3 y272 (wrap64 ((y272.length : Int) - 1))) ++ [rd t251 x14_1])) t251 t251 (t251.length : Int) (wrap64 (x14_1 + 1))) else (none)) else (none)) else (none))) else (none)))) else (none)) else (none)) else (none)) else (none)) else (none)) else (none)) = some r := by first | (rw [hji24] at H; exact H) | (simp only [hji24] at H ⊢; exact H)
     have hji24w : (IntKind.i64.wrap (x14_1 - 1)) = ji24 := (i64_w _).trans hji24
     by_cases c25 : 0 ≤ (ji24); rotate_left
     ·rw [if_neg c25] at H; exact absurd H (by simp)
     rw [if_pos c25] at H
     have c25b0 : decide (0 ≤ (ji24)) = true := decide_eq_true c25
     clear c25
     by_cases c26 : (ji24) < (t251.length : Int); rotate_left
     ·rw [if_neg c26] at H; exact absurd H (by simp)
     rw [if_pos c26] at H
     have c26b0 : decide ((ji24) < (t251.length : Int)) = true := decide_eq_true c26
     clear c26
     by_cases c27 : 0 ≤ (rd t251 (ji24)); rotate_left
     ·rw [if_neg c27] at H; exact absurd H (by simp)
     rw [if_pos c27] at H
     have c27b0 : decide (0 ≤ (rd t251 (ji24))) = true := decide_eq_true c27
     clear c27
     by_cases c28 : (rd t251 (ji24)) < (l0.length : Int); rotate_left
     ·rw [if_neg c28] at H; exact absurd H (by simp)
     rw [if_pos c28] at H
     have c28b0 : decide ((rd t251 (ji24)) < (l0.length : Int)) = true := decide_eq_true c28
     clear c28
     by_cases c29 : 0 ≤ (rd t251 x14_1); rotate_left
     ·rw [if_neg c29] at H; exact absurd H (by simp)
     rw [if_pos c29] at H
     have c29b0 : decide (0 ≤ (rd t251 x14_1)) = true := decide_eq_true c29
     clear c29
     by_cases c30 : (rd t251 x14_1) < (l0.length : Int); rotate_left
     ·rw [if_neg c30] at H; exact absurd H (by simp)
     rw [if_pos c30] at H
     have c30b0 : decide ((rd t251 x14_1) < (l0.length : Int)) = true := decide_eq_true c30
     clear c30
     replace H := Option.bind_eq_some_iff.mp H
     obtain ⟨t266, A310, H⟩ := H
     replace H : (if t266 = 0 then (if 0 ≤ (wrap64 ((x5_1.length : Int) - 1)) then (if (wrap64 ((x5_1.length : Int) - 1)) < (x5_1.length : Int) then (if (rd_L3 x5_1 (wrap64 ((x5_1.length : Int) - 1))).length < 17592186044416 then (impl_tieGroups.l0 k1 l0 a1 (x5_1.set ((wrap64 ((x5_1.length : Int) - 1)) : Int).toNat ((rd_L3 x5_1 (wrap64 ((x5_1.length : Int) - 1))) ++ [rd t251 x14_1])) t251 t251 (t251.length : Int) (wrap64 (x14_1 + 1))) else (none)) else (none)) else (none)) else (if x5_1.length < 5864062014805 then ((some (x5_1 ++ [[]] : List (List Int))).bind fun y272 => (if 0 ≤ (wrap64 ((y272.length : Int) - 1)) then (if (wrap64 ((y272.length : Int) - 1)) < (y272.length : Int) then (if (rd_L3 y272 (wrap64 ((y272.length : Int) - 1))).length < 17592186044416 then (impl_tieGroups.l0 k1 l0 a1 (y272.set ((wrap64 ((y272.length : Int) - 1)) : Int).toNat ((rd_L3 y272 (wrap64 ((y272.length : Int) - 1))) ++ [rd t251 x14_1])) t251 t251 (t251.length : Int) (wrap64 (x14_1 + 1))) else (none)) else (none)) else (none))) else (none))) = some r := H
     have A31 := Aside0.mk A310
     clear A310
     by_cases c32 : t266 = 0
     ·rw [if_pos c32] at H
      have c32b0 : (t266 == 0) = true := beq_iff_eq.mpr c32
      have c32b1 : (t266 != 0) = false := bne_eq_false_iff_eq.mpr c32
      clear c32
      obtain ⟨ji33, hji33⟩ : ∃ j_ : Int, (wrap64 ((x5_1.length : Int) - 1)) = j_ := ⟨_, rfl⟩
      replace H : (if 0 ≤ (ji33) then (if (ji33) < (x5_1.length : Int) then (if (rd_L3 x5_1 (ji33)).length < 17592186044416 then (impl_tieGroups.l0 k1 l0 a1 (x5_1.set ((ji33) : Int).toNat ((rd_L3 x5_1 (ji33)) ++ [rd t251 x14_1])) t251 t251 (t251.length : Int) (wrap64 (x14_1 + 1))) else (none)) else (none)) else (none)) = some r := by first | (rw [hji33] at H; exact H) | (simp only [hji33] at H ⊢; exact H)
      (try rw [hji33] at A31)
      have hji33w : (IntKind.i64.wrap ((x5_1.length : Int) - 1)) = ji33 := (i64_w _).trans hji33
      by_cases c34 : 0 ≤ (ji33); rotate_left
      ·rw [if_neg c34] at H; exact absurd H (by simp)
      rw [if_pos c34] at H
      have c34b0 : decide (0 ≤ (ji33)) = true := decide_eq_true c34
      clear c34
      by_cases c35 : (ji33) < (x5_1.length : Int); rotate_left
      ·rw [if_neg c35] at H; exact absurd H (by simp)
      rw [if_pos c35] at H
      have c35b0 : decide ((ji33) < (x5_1.length : Int)) = true := decide_eq_true c35
      clear c35
      by_cases c36 : (rd_L3 x5_1 (ji33)).length < 17592186044416; rotate_left
      ·rw [if_neg c36] at H; exact absurd H (by simp)
      rw [if_pos c36] at H
      have LMc36 := Aside0.mk c36
      clear c36
      obtain ⟨y268, hy268⟩ : ∃ y_ : List Int, y_ = ((rd_L3 x5_1 (ji33)) ++ [rd t251 x14_1]) := ⟨_, rfl⟩
      replace H : (impl_tieGroups.l0 k1 l0 a1 (x5_1.set ((ji33) : Int).toNat y268) t251 t251 (t251.length : Int) (wrap64 (x14_1 + 1))) = some r := by first | (rw [hy268]; with_reducible exact H) | (have H2_ := (Option.bind_some _ _).symm.trans H; rw [hy268]; with_reducible exact H2_) | (have H2_ := (Option.bind_some _ _).symm.trans H; with_reducible exact H2_) | with_reducible exact H | (rw [hy268]; exact H) | exact H
      have Ny268 := Aside0.mk hy268
      clear hy268
      obtain ⟨y271, hy271⟩ : ∃ y_ : List (List Int), y_ = (x5_1.set ((ji33) : Int).toNat y268) := ⟨_, rfl⟩
      replace H : (impl_tieGroups.l0 k1 l0 a1 y271 t251 t251 (t251.length : Int) (wrap64 (x14_1 + 1))) = some r := by first | (rw [hy271]; with_reducible exact H) | (have H2_ := (Option.bind_some _ _).symm.trans H; rw [hy271]; with_reducible exact H2_) | (have H2_ := (Option.bind_some _ _).symm.trans H; with_reducible exact H2_) | with_reducible exact H | (rw [hy271]; exact H) | exact H
      have Ny271 := Aside0.mk hy271
      clear hy271
      have H' := Aside0.mk H
      clear H
      have p254 : 0 ≤ (x14_1 : Int) := oD
      have q254 : x14_1 < (t251.length : Int) := oD
      obtain ⟨ad254, e254, hx254_0⟩ := Kd.at_int (Kd.R_reads' HO_12.out).2.2 x14_1 p254 q254
      cases e254
      replace p254 := eq_true p254
      replace q254 := eq_true q254
      try go_wp2
      have n0_ := Aside0.mk (Kd.S_drew HO_5.out)
      have n1_ := Aside0.mk (Kd.R_drew HO_6.out)
      have n2_ := Aside0.mk (Kd.R_drew HO_12.out)
      have n3_ := Aside0.mk (below_drew1 HB.out)
      clear HO_5
      clear HO_6
      clear HO_12
      clear HB
      have HO_5 := n0_
      have HO_6 := n1_
      have HO_12 := n2_
      have HB := n3_
      clear n0_ n1_ n2_ n3_
      have p263 : 0 ≤ ((ji24) : Int) := oD
      have q263 : (ji24) < (t251.length : Int) := oD
      obtain ⟨ad263, e263, hx263_0⟩ := Kd.at_int (Kd.R_reads' HO_6.out).2.2 (ji24) p263 q263
      obtain rfl : ad254 = ad263 := (by injection e263)
      replace p263 := eq_true p263
      replace q263 := eq_true q263
      have p264 : 0 ≤ ((rd t251 (ji24)) : Int) := oD
      have q264 : (rd t251 (ji24)) < (l0.length : Int) := oD
      obtain ⟨ad264, e264, hx264_0, hx264_1, hx264_2, hx264_3⟩ := at_T59 HR0.out (rd t251 (ji24)) p264 q264
      have hw264_3 := hx264_3
      have hw264_2 := hx264_2
      have hw264_1 := hx264_1
      have hw264_0 := hx264_0
      cases e264
      replace hx264_0 := (cB HB.out hx264_0 :)
      replace hx264_1 := (cB HB.out hx264_1 :)
      replace hx264_2 := (cB HB.out hx264_2 :)
      replace hx264_3 := (cB HB.out hx264_3 :)
      replace p264 := eq_true p264
      replace q264 := eq_true q264
      have p265 : 0 ≤ ((rd t251 x14_1) : Int) := oD
      have q265 : (rd t251 x14_1) < (l0.length : Int) := oD
      obtain ⟨ad265, e265, hx265_0, hx265_1, hx265_2, hx265_3⟩ := at_T59 HR0.out (rd t251 x14_1) p265 q265
      have hw265_3 := hx265_3
      have hw265_2 := hx265_2
      have hw265_1 := hx265_1
      have hw265_0 := hx265_0
      obtain rfl : ad264 = ad265 := (by injection e265)
      replace hx265_0 := (cB HB.out hx265_0 :)
      replace hx265_1 := (cB HB.out hx265_1 :)
      replace hx265_2 := (cB HB.out hx265_2 :)
      replace hx265_3 := (cB HB.out hx265_3 :)
      replace p265 := eq_true p265
      replace q265 := eq_true q265
      refine start_ (n := 19) (S := fun w' => w'.cell? (ad254.add ((ji24)).toNat) = some (.int .i64 (rd t251 (ji24))) ∧ w'.cell? (ad264.add (((rd t251 (ji24))).toNat * 4)) = some (.int .i64 ((rd_T59 l0 (rd t251 (ji24))).f0)) ∧ w'.cell? ⟨(ad264.add (((rd t251 (ji24))).toNat * 4)).block, (ad264.add (((rd t251 (ji24))).toNat * 4)).off + 1, none⟩ = some (.int .i64 ((rd_T59 l0 (rd t251 (ji24))).f1)) ∧ w'.cell? ⟨(ad264.add (((rd t251 (ji24))).toNat * 4)).block, (ad264.add (((rd t251 (ji24))).toNat * 4)).off + 2, none⟩ = some (.int .i64 ((rd_T59 l0 (rd t251 (ji24))).f2)) ∧ w'.cell? ⟨(ad264.add (((rd t251 (ji24))).toNat * 4)).block, (ad264.add (((rd t251 (ji24))).toNat * 4)).off + 3, none⟩ = some (.int .i64 ((rd_T59 l0 (rd t251 (ji24))).f3)) ∧ w'.cell? (ad264.add (((rd t251 x14_1)).toNat * 4)) = some (.int .i64 ((rd_T59 l0 (rd t251 x14_1)).f0)) ∧ w'.cell? ⟨(ad264.add (((rd t251 x14_1)).toNat * 4)).block, (ad264.add (((rd t251 x14_1)).toNat * 4)).off + 1, none⟩ = some (.int .i64 ((rd_T59 l0 (rd t251 x14_1)).f1)) ∧ w'.cell? ⟨(ad264.add (((rd t251 x14_1)).toNat * 4)).block, (ad264.add (((rd t251 x14_1)).toNat * 4)).off + 2, none⟩ = some (.int .i64 ((rd_T59 l0 (rd t251 x14_1)).f2)) ∧ w'.cell? ⟨(ad264.add (((rd t251 x14_1)).toNat * 4)).block, (ad264.add (((rd t251 x14_1)).toNat * 4)).off + 3, none⟩ = some (.int .i64 ((rd_T59 l0 (rd t251 x14_1)).f3))) (ds := []) (bA 19 0) (by kernel_rfl) rfl rfl ⟨hx263_0, (cB HB.out hw264_0 :), (cB HB.out hw264_1 :), (cB HB.out hw264_2 :), (cB HB.out hw264_3 :), (cB HB.out hw265_0 :), (cB HB.out hw265_1 :), (cB HB.out hw265_2 :), (cB HB.out hw265_3 :)⟩ (fun hHeld => ?_); refine with_tabW impl_tieGroups.tab6 impl_tieGroups.bits6 (fun HT_ HW_ => ?_)
      generalize wr.drew = w38 at HO_5 HO_6 HO_12 HB hx263_0 hx264_0 hx264_1 hx264_2 hx264_3 hx265_0 hx265_1 hx265_2 hx265_3 hHeld ⊢
      refine pU 0 19 (bA 19 1) ?_
      refine pU 1 20 (bA 19 3) ?_
      refine pU 2 21 (bA 19 7) ?_
      refine pU 3 22 (bA 19 15) ?_
      refine pU 4 23 (bA 19 31) ?_
      refine pU 5 24 (bA 19 63) ?_
      refine pU 6 25 (bA 19 127) ?_
      refine pU 7 26 (bA 19 255) ?_
      refine pU 11 30 (bA 19 2303) ?_
      refine pU 12 31 (bA 19 6399) ?_
      refine pU 13 32 (bA 19 14591) ?_
      refine pU 15 34 (bA 19 47359) ?_
      refine tU 8 27 (bA 19 47615) ?_
      refine pU 9 28 (bA 19 48127) ?_
      refine tU 10 29 (bA 19 49151) ?_
      refine tU 14 33 (bA 19 65535) ?_
      refine one_ (i := 16) (N := some 35) (bA 19 131071) rfl rfl (one_of HT_.out (by kernel_rfl)) (by decide) (fun K hK => ?_)
      refine goes_ Try.func121 (by kernel_rfl) rfl #[.agg #[.int .i64 ((rd_T59 l0 (rd t251 (ji24))).f0), .int .i64 ((rd_T59 l0 (rd t251 (ji24))).f1), .int .i64 ((rd_T59 l0 (rd t251 (ji24))).f2), .int .i64 ((rd_T59 l0 (rd t251 (ji24))).f3)], .agg #[.int .i64 ((rd_T59 l0 (rd t251 x14_1)).f0), .int .i64 ((rd_T59 l0 (rd t251 x14_1)).f1), .int .i64 ((rd_T59 l0 (rd t251 x14_1)).f2), .int .i64 ((rd_T59 l0 (rd t251 x14_1)).f3)], .int .i64 a1] (by rfl) rfl rfl (by (try simp only [List.map_toArray, List.map_cons, List.map_nil]); first | done | (simp only [hji24]; rfl) | rfl | (simp only [List.length_drop, List.length_take]; rfl)) ?_
      with_reducible refine (impl_difference.calls ((rd_T59 l0 (rd t251 (ji24))).f0) ((rd_T59 l0 (rd t251 (ji24))).f1) ((rd_T59 l0 (rd t251 (ji24))).f2) ((rd_T59 l0 (rd t251 (ji24))).f3) ((rd_T59 l0 (rd t251 x14_1)).f0) ((rd_T59 l0 (rd t251 x14_1)).f1) ((rd_T59 l0 (rd t251 x14_1)).f2) ((rd_T59 l0 (rd t251 x14_1)).f3) a1 t266 _ A31.out).mono ?_
      rintro e w39 ⟨rfl, hb⟩
      have HS0_ := (hb.cell (World.block_lt_of_cell? _ _ (hHeld.1))).trans (hHeld.1)
      refine ⟨_, rfl, ?_⟩
      have n0_ := Aside0.mk (Kd.S_below (by (with_reducible repeat (first | apply Kd.S_alloc | apply Kd.S_drewN | apply Kd.S_drew)); exact HO_5.out) hb)
      have n1_ := Aside0.mk (Kd.R_below (by (with_reducible repeat (first | apply Kd.R_alloc | apply Kd.R_drewN | apply Kd.R_drew)); exact HO_6.out) hb)
      have n2_ := Aside0.mk (Kd.R_below (by (with_reducible repeat (first | apply Kd.R_alloc | apply Kd.R_drewN | apply Kd.R_drew)); exact HO_12.out) hb)
      have n3_ := Aside0.mk (below_step bB hb)
      clear HO_5
      clear HO_6
      clear HO_12
      clear HB
      have HO_5 := n0_
      have HO_6 := n1_
      have HO_12 := n2_
      have HB := n3_
      clear n0_ n1_ n2_ n3_
      (try clear hb)
      (try clear hk)
      refine hK.out _ _ ⟨HS0_, (cB HB.out hw264_0 :), (cB HB.out hw264_1 :), (cB HB.out hw264_2 :), (cB HB.out hw264_3 :), (cB HB.out hw265_0 :), (cB HB.out hw265_1 :), (cB HB.out hw265_2 :), (cB HB.out hw265_3 :)⟩ (fun hHeld => ?_)
      clear hK K
      refine norm_ (a' := ?_) ?_ ?_
      rotate_left
      ·show Act.put _ (some 35) _ = _
       simp only [Act.put, sA, sZ, sS, i64_w, i32_w]
       rfl
      refine pU 17 36 (bA 19 262143) ?_
      refine pU 18 37 (bA 19 524287) ?_
      refine done_ (done_of HT_.out (by kernel_rfl)) ?_
      obtain ⟨Ao40, co40, eo40⟩ := Kd.S_slice HO_5.out
      subst eo40
      have p267 : 0 ≤ ((ji33) : Int) := oD
      have q267 : (ji33) < (x5_1.length : Int) := oD
      obtain ⟨ad267, A267_0, c267_0, e267, hx267_0, hl267_0, hi267_0⟩ := at_L3 (Kd.S_reads' HO_5.out).2.2 (ji33) p267 q267
      cases e267
      obtain ⟨ce267, hce267, hMe267, hcc267⟩ := Kd.S_get HO_5.out [] (ji33) p267 (by first | exact q267 | exact oD | (have e_ := (Kd.S_reads' HO_5.out).1; omega))
      obtain ⟨ve267_0, rfl, ge267_0⟩ := hMe267
      have hv267_0 := hcc267 0 _ rfl
      rw [Nat.add_zero, show ((Kd.slice 3 (Kd.int .i64))).sz = 1 from rfl, Nat.mul_one] at hv267_0
      replace hv267_0 := Option.some.inj (hv267_0.symm.trans hx267_0)
      rw [hv267_0] at ge267_0
      have HL267_0 := Aside0.mk (show Kd.R (Kd.int .i64) 3 _ _ _ _ (rd_L3 x5_1 (ji33)) from ge267_0)
      clear hv267_0 ge267_0
      have HX267_0 := Aside0.mk hx267_0
      clear hcc267 hce267
      have HR267_0 := Aside0.mk hi267_0
      have HC267_0 := Aside0.mk hl267_0
      clear hi267_0 hl267_0
      replace p267 := eq_true p267
      replace q267 := eq_true q267
      obtain ⟨go41, co41, eo41, gb41, gl41, cl41, HG41⟩ := Kd.S_form HO_5.out (by have h_ : ((ji33) : Int) < ((x5_1.length : Int) : Int) := oD; have h2_ : 0 ≤ ((ji33) : Int) := (oD); omega)
      (first | cases eo41 | (injection eo41 with ea_ en_ ec_; (first | subst ea_ | (injection ea_ with ea_; subst ea_)); subst ec_; clear en_))
      have GB41 := Aside0.mk gb41
      have GG41 := Aside0.mk HG41
      clear gb41 gl41 HG41
      (first | simp only [add_plain] at hx267_0 | skip)
      obtain ⟨oki41, ce41, hcl41, hM41, hcc41, _, _, hH41⟩ := Kd.S_elem HO_5.out [] ((ji33) : Int) (oD) (by have h_ : ((ji33) : Int) < ((x5_1.length : Int) : Int) := oD; first | exact h_ | (have e_ := (Kd.S_reads' HO_5.out).1; omega) | simpa using h_)
      obtain ⟨ve41_0, rfl, ge41_0⟩ := hM41
      have hv41 := hcc41 0 _ rfl
      have hX41 := HX267_0.out
      (try simp only [add_plain] at hX41)
      (try simp only [Nat.add_zero] at hv41)
      (try rw [show ((Kd.slice 3 (Kd.int .i64))).sz = 1 from rfl, Nat.mul_one] at hv41)
      replace hv41 := Option.some.inj (hv41.symm.trans hX41)
      subst hv41
      clear hX41 hcc41 hcl41
      have UU41 := Aside0.mk (show Kd.R (Kd.int .i64) 3 _ w.heap.size oki41 (.slice A267_0 (rd_L3 x5_1 (ji33)).length c267_0) (rd_L3 x5_1 (ji33)) from ge41_0)
      have HH41 := Aside0.mk hH41
      have HN41 := Aside0.mk (Kd.S_reads' HO_5.out).1
      clear hH41 ge41_0
      try go_wp2_with (first | ((with_reducible refine gate_builtin (b := .append) (xs := #[.tmp 50, .tmp 52]) rfl ?_); at_builtin; refine Kd.R_append (Kd.int .i64) (w0 := w) w.heap.size rfl (.tmp 50) (.tmp 52) 37 3 (.int .i64 0) 8 rfl Try.underlying37 info3 rfl (by decide) (by omega) (.slice A267_0 (rd_L3 x5_1 (ji33)).length c267_0) (rd_L3 x5_1 (ji33)) (rd t251 x14_1) [.int .i64 (rd t251 x14_1)] (fun k_ => oki41 k_ ∨ ((fun k_ => some k_ ≠ (.slice (some ad254) t251.length co5 : Value).ownBlock ∧ some k_ ≠ (.slice (some ad254) t251.length co5 : Value).ownBlock)) k_ ∧ w39.heap.size ≤ k_) (fun _ => False) rfl rfl ?aP (fun _ hk => hk.elim) ?aF ?aO ?aB ?aS ?aL ?_; (case aP => exact rfl); (case aB => exact bB); (case aF => exact (fun k_ hk => .inr ⟨⟨Kd.fresh' (Kd.R_lt (by (with_reducible repeat (first | apply Kd.R_alloc | apply Kd.R_drewN | apply Kd.R_drew)); exact HO_6.out)) k_ hk, Kd.fresh' (Kd.R_lt (by (with_reducible repeat (first | apply Kd.R_alloc | apply Kd.R_drewN | apply Kd.R_drew)); exact HO_12.out)) k_ hk⟩, hk⟩)); (case aO => exact (by (with_reducible repeat (first | apply Kd.R_alloc | apply Kd.R_drewN | apply Kd.R_drew)); exact Kd.R_mono UU41.out (fun _ hk => .inl hk))); (case aS => exact (below_size bB)); (case aL => have := LMc36.out; omega); intro v269 w42 ho hb hg hat; rw [← Ny268.out] at ho; have n0_ := Aside0.mk (Kd.R_grown2 (by (with_reducible repeat (first | apply Kd.R_alloc | apply Kd.R_drewN | apply Kd.R_drew)); exact HO_6.out) rfl hg (fun k_ e_ => (HL267_0.out.1 k_ e_).1.1)); have n1_ := Aside0.mk (Kd.R_grown2 (by (with_reducible repeat (first | apply Kd.R_alloc | apply Kd.R_drewN | apply Kd.R_drew)); exact HO_12.out) rfl hg (fun k_ e_ => (HL267_0.out.1 k_ e_).1.2)); have n2_ := Aside0.mk (hb); have n3_ := Aside0.mk (Kd.H_grown (Kd.H_widen (by repeat (first | exact HH41.out | refine Kd.H_alloc ?_ _ | refine Kd.H_drewN ?_ _ | refine Kd.H_drew ?_))) hg (fun k_ e_ => .inl (UU41.out.1 k_ e_))); have n4_ := Aside0.mk (ho); clear HO_6; clear HO_12; clear HB; clear HH41; clear HO_5; clear UU41; clear HL267_0; have HO_6 := n0_; have HO_12 := n1_; have HB := n2_; have HH41 := n3_; have HO270 := n4_; clear n0_ n1_ n2_ n3_ n4_; clear ho hb hg hat; have p37 : 0 ≤ ((ji33) : Int) := oD; have q37 : ((ji33) : Int) < ((x5_1.length : Int) : Int) := oD; replace p37 := eq_true p37; replace q37 := eq_true q37; obtain ⟨Ao45, co45, eo45⟩ := Kd.R_slice HO270.out; subst eo45; obtain ⟨_, _, hraw43, _, _, hcc43, _⟩ := Kd.H_raw HH41.out (oD) (by have h_ : ((ji33) : Int) < ((x5_1.length : Int) : Int) := oD; first | exact h_ | (have e_ := (HN41.out); omega) | simpa using h_); obtain ⟨_, hfr43⟩ := Kd.H_at HH41.out (oD) (by have h_ : ((ji33) : Int) < ((x5_1.length : Int) : Int) := oD; first | exact h_ | (have e_ := (HN41.out); omega) | simpa using h_); have hx43_0 := hcc43 0 _ rfl; have hf43_0 := hfr43 0; (try simp only [Nat.add_zero] at hx43_0 hf43_0); (try rw [show ((Kd.slice 3 (Kd.int .i64))).sz = 1 from rfl, Nat.mul_one] at hx43_0); (try rw [show ((Kd.slice 3 (Kd.int .i64))).sz = 1 from rfl, Nat.mul_one] at hf43_0); have HP43 := Kd.S_seg0 HH41.out (oD) (by have h_ : ((ji33) : Int) < ((x5_1.length : Int) : Int) := oD; first | exact h_ | (have e_ := (HN41.out); omega) | simpa using h_) (seg := [.slice Ao45 y268.length co45]) (j := 0) (show 1 ≤ 1 from by decide) (x' := y268) (Kd.M_row HO270.out) (fun _ hk => hk); (try simp only [show ((Kd.slice 3 (Kd.int .i64))).sz = 1 from rfl, Nat.mul_one, Nat.add_zero] at HP43); clear hcc43 hfr43) | ((with_reducible refine gate_store (t := 37) (p := 54) rfl ?_); refine store_event (t := 37) (p := 54) (v := ?vo_w44) (w1 := (w42.setCell ⟨go41, ((ji33) : Int).toNat, none⟩ (.slice Ao45 y268.length co45))) ?hg ?ho ?hn ?hr ?_; (case ho => rfl); (case hg => rfl); (case hn => rfl); (case hr => first | (go_simp; done) | (go_simp; rfl)); intro w44 hw; have hg : w42.grownBy w44 (some go41) := (by rw [hw]; exact HP43.2); have hp_ : Kd.S (Kd.slice 3 (Kd.int .i64)) 37 w44 w.heap.size (fun k_ => some k_ ≠ (.slice (some ad254) t251.length co5 : Value).ownBlock ∧ some k_ ≠ (.slice (some ad254) t251.length co5 : Value).ownBlock) (.slice (some ⟨go41, 0, none⟩) x5_1.length co40) y271 := (by rw [hw, Ny271.out]; exact HP43.1); clear HP43; have n0_ := Aside0.mk (Kd.R_over' (v := (.slice (some ⟨go41, 0, none⟩) x5_1.length co40)) (by (with_reducible repeat (first | apply Kd.R_alloc | apply Kd.R_drewN | apply Kd.R_drew)); exact HO_6.out) (Kd.R_typed hraw43) (by decide) hg); have n1_ := Aside0.mk (Kd.R_over' (v := (.slice (some ⟨go41, 0, none⟩) x5_1.length co40)) (by (with_reducible repeat (first | apply Kd.R_alloc | apply Kd.R_drewN | apply Kd.R_drew)); exact HO_12.out) (Kd.R_typed hraw43) (by decide) hg); have n2_ := Aside0.mk ((by rw [hw]; exact below_set HB.out GB41.out : Below w.heap.size w w44)); have n3_ := Aside0.mk (hp_); clear HO_6; clear HO_12; clear HB; clear HO270; clear HH41; have HO_6 := n0_; have HO_12 := n1_; have HB := n2_; have HO_5 := n3_; clear n0_ n1_ n2_ n3_; clear hg hw hp_ hraw43))
      go_roundg k1
      case measure => have := HK1.out; omega
      case rel => exact ⟨(y271), (wrap64 (x14_1 + 1)), sD, H', ⟨by have := HK1.out; omega⟩, ⟨kS⟩, ⟨kR⟩, ⟨kR⟩, ⟨by repeat (first | (with_reducible first | exact HB.out | apply below_alloc | apply pw_below_drewN | apply below_drew1) | exact HB.out)⟩⟩
     ·rw [if_neg c32] at H
      have c32b0 : (t266 == 0) = false := beq_eq_false_iff_ne.mpr c32
      have c32b1 : (t266 != 0) = true := bne_iff_ne.mpr c32
      by_cases c46 : x5_1.length < 5864062014805; rotate_left
      ·rw [if_neg c46] at H; exact absurd H (by simp)
      rw [if_pos c46] at H
      have LMc46 := Aside0.mk c46
      clear c46
      obtain ⟨y272, hy272⟩ : ∃ y_ : List (List Int), y_ = (x5_1 ++ [[]]) := ⟨_, rfl⟩
      replace H : (if 0 ≤ (wrap64 ((y272.length : Int) - 1)) then (if (wrap64 ((y272.length : Int) - 1)) < (y272.length : Int) then (if (rd_L3 y272 (wrap64 ((y272.length : Int) - 1))).length < 17592186044416 then (impl_tieGroups.l0 k1 l0 a1 (y272.set ((wrap64 ((y272.length : Int) - 1)) : Int).toNat ((rd_L3 y272 (wrap64 ((y272.length : Int) - 1))) ++ [rd t251 x14_1])) t251 t251 (t251.length : Int) (wrap64 (x14_1 + 1))) else (none)) else (none)) else (none)) = some r := by first | (rw [hy272]; with_reducible exact H) | (have H2_ := (Option.bind_some _ _).symm.trans H; rw [hy272]; with_reducible exact H2_) | (have H2_ := (Option.bind_some _ _).symm.trans H; with_reducible exact H2_) | with_reducible exact H | (rw [hy272]; exact H) | exact H
      have Ny272 := Aside0.mk hy272
      clear hy272
      obtain ⟨ji47, hji47⟩ : ∃ j_ : Int, (wrap64 ((y272.length : Int) - 1)) = j_ := ⟨_, rfl⟩
      replace H : (if 0 ≤ (ji47) then (if (ji47) < (y272.length : Int) then (if (rd_L3 y272 (ji47)).length < 17592186044416 then (impl_tieGroups.l0 k1 l0 a1 (y272.set ((ji47) : Int).toNat ((rd_L3 y272 (ji47)) ++ [rd t251 x14_1])) t251 t251 (t251.length : Int) (wrap64 (x14_1 + 1))) else (none)) else (none)) else (none)) = some r := by first | (rw [hji47] at H; exact H) | (simp only [hji47] at H ⊢; exact H)
      (try rw [hji47] at A31)
      have hji47w : (IntKind.i64.wrap ((y272.length : Int) - 1)) = ji47 := (i64_w _).trans hji47
      by_cases c48 : 0 ≤ (ji47); rotate_left
      ·rw [if_neg c48] at H; exact absurd H (by simp)
      rw [if_pos c48] at H
      have c48b0 : decide (0 ≤ (ji47)) = true := decide_eq_true c48
      clear c48
      by_cases c49 : (ji47) < (y272.length : Int); rotate_left
      ·rw [if_neg c49] at H; exact absurd H (by simp)
      rw [if_pos c49] at H
      have c49b0 : decide ((ji47) < (y272.length : Int)) = true := decide_eq_true c49
      clear c49
      by_cases c50 : (rd_L3 y272 (ji47)).length < 17592186044416; rotate_left
      ·rw [if_neg c50] at H; exact absurd H (by simp)
      rw [if_pos c50] at H
      have LMc50 := Aside0.mk c50
      clear c50
      obtain ⟨y276, hy276⟩ : ∃ y_ : List Int, y_ = ((rd_L3 y272 (ji47)) ++ [rd t251 x14_1]) := ⟨_, rfl⟩
      replace H : (impl_tieGroups.l0 k1 l0 a1 (y272.set ((ji47) : Int).toNat y276) t251 t251 (t251.length : Int) (wrap64 (x14_1 + 1))) = some r := by first | (rw [hy276]; with_reducible exact H) | (have H2_ := (Option.bind_some _ _).symm.trans H; rw [hy276]; with_reducible exact H2_) | (have H2_ := (Option.bind_some _ _).symm.trans H; with_reducible exact H2_) | with_reducible exact H | (rw [hy276]; exact H) | exact H
      have Ny276 := Aside0.mk hy276
      clear hy276
      obtain ⟨y279, hy279⟩ : ∃ y_ : List (List Int), y_ = (y272.set ((ji47) : Int).toNat y276) := ⟨_, rfl⟩
      replace H : (impl_tieGroups.l0 k1 l0 a1 y279 t251 t251 (t251.length : Int) (wrap64 (x14_1 + 1))) = some r := by first | (rw [hy279]; with_reducible exact H) | (have H2_ := (Option.bind_some _ _).symm.trans H; rw [hy279]; with_reducible exact H2_) | (have H2_ := (Option.bind_some _ _).symm.trans H; with_reducible exact H2_) | with_reducible exact H | (rw [hy279]; exact H) | exact H
      have Ny279 := Aside0.mk hy279
      clear hy279
      have H' := Aside0.mk H
      clear H
      have p254 : 0 ≤ (x14_1 : Int) := oD
      have q254 : x14_1 < (t251.length : Int) := oD
      obtain ⟨ad254, e254, hx254_0⟩ := Kd.at_int (Kd.R_reads' HO_12.out).2.2 x14_1 p254 q254
      cases e254
      replace p254 := eq_true p254
      replace q254 := eq_true q254
      try go_wp2
      have n0_ := Aside0.mk (Kd.S_drew HO_5.out)
      have n1_ := Aside0.mk (Kd.R_drew HO_6.out)
      have n2_ := Aside0.mk (Kd.R_drew HO_12.out)
      have n3_ := Aside0.mk (below_drew1 HB.out)
      clear HO_5
      clear HO_6
      clear HO_12
      clear HB
      have HO_5 := n0_
      have HO_6 := n1_
      have HO_12 := n2_
      have HB := n3_
      clear n0_ n1_ n2_ n3_
      have p263 : 0 ≤ ((ji24) : Int) := oD
      have q263 : (ji24) < (t251.length : Int) := oD
      obtain ⟨ad263, e263, hx263_0⟩ := Kd.at_int (Kd.R_reads' HO_6.out).2.2 (ji24) p263 q263
      obtain rfl : ad254 = ad263 := (by injection e263)
      replace p263 := eq_true p263
      replace q263 := eq_true q263
      have p264 : 0 ≤ ((rd t251 (ji24)) : Int) := oD
      have q264 : (rd t251 (ji24)) < (l0.length : Int) := oD
      obtain ⟨ad264, e264, hx264_0, hx264_1, hx264_2, hx264_3⟩ := at_T59 HR0.out (rd t251 (ji24)) p264 q264
      have hw264_3 := hx264_3
      have hw264_2 := hx264_2
      have hw264_1 := hx264_1
      have hw264_0 := hx264_0
      cases e264
      replace hx264_0 := (cB HB.out hx264_0 :)
      replace hx264_1 := (cB HB.out hx264_1 :)
      replace hx264_2 := (cB HB.out hx264_2 :)
      replace hx264_3 := (cB HB.out hx264_3 :)
      replace p264 := eq_true p264
      replace q264 := eq_true q264
      have p265 : 0 ≤ ((rd t251 x14_1) : Int) := oD
      have q265 : (rd t251 x14_1) < (l0.length : Int) := oD
      obtain ⟨ad265, e265, hx265_0, hx265_1, hx265_2, hx265_3⟩ := at_T59 HR0.out (rd t251 x14_1) p265 q265
      have hw265_3 := hx265_3
      have hw265_2 := hx265_2
      have hw265_1 := hx265_1
      have hw265_0 := hx265_0
      obtain rfl : ad264 = ad265 := (by injection e265)
      replace hx265_0 := (cB HB.out hx265_0 :)
      replace hx265_1 := (cB HB.out hx265_1 :)
      replace hx265_2 := (cB HB.out hx265_2 :)
      replace hx265_3 := (cB HB.out hx265_3 :)
      replace p265 := eq_true p265
      replace q265 := eq_true q265
      refine start_ (n := 19) (S := fun w' => w'.cell? (ad254.add ((ji24)).toNat) = some (.int .i64 (rd t251 (ji24))) ∧ w'.cell? (ad264.add (((rd t251 (ji24))).toNat * 4)) = some (.int .i64 ((rd_T59 l0 (rd t251 (ji24))).f0)) ∧ w'.cell? ⟨(ad264.add (((rd t251 (ji24))).toNat * 4)).block, (ad264.add (((rd t251 (ji24))).toNat * 4)).off + 1, none⟩ = some (.int .i64 ((rd_T59 l0 (rd t251 (ji24))).f1)) ∧ w'.cell? ⟨(ad264.add (((rd t251 (ji24))).toNat * 4)).block, (ad264.add (((rd t251 (ji24))).toNat * 4)).off + 2, none⟩ = some (.int .i64 ((rd_T59 l0 (rd t251 (ji24))).f2)) ∧ w'.cell? ⟨(ad264.add (((rd t251 (ji24))).toNat * 4)).block, (ad264.add (((rd t251 (ji24))).toNat * 4)).off + 3, none⟩ = some (.int .i64 ((rd_T59 l0 (rd t251 (ji24))).f3)) ∧ w'.cell? (ad264.add (((rd t251 x14_1)).toNat * 4)) = some (.int .i64 ((rd_T59 l0 (rd t251 x14_1)).f0)) ∧ w'.cell? ⟨(ad264.add (((rd t251 x14_1)).toNat * 4)).block, (ad264.add (((rd t251 x14_1)).toNat * 4)).off + 1, none⟩ = some (.int .i64 ((rd_T59 l0 (rd t251 x14_1)).f1)) ∧ w'.cell? ⟨(ad264.add (((rd t251 x14_1)).toNat * 4)).block, (ad264.add (((rd t251 x14_1)).toNat * 4)).off + 2, none⟩ = some (.int .i64 ((rd_T59 l0 (rd t251 x14_1)).f2)) ∧ w'.cell? ⟨(ad264.add (((rd t251 x14_1)).toNat * 4)).block, (ad264.add (((rd t251 x14_1)).toNat * 4)).off + 3, none⟩ = some (.int .i64 ((rd_T59 l0 (rd t251 x14_1)).f3))) (ds := []) (bA 19 0) (by kernel_rfl) rfl rfl ⟨hx263_0, (cB HB.out hw264_0 :), (cB HB.out hw264_1 :), (cB HB.out hw264_2 :), (cB HB.out hw264_3 :), (cB HB.out hw265_0 :), (cB HB.out hw265_1 :), (cB HB.out hw265_2 :), (cB HB.out hw265_3 :)⟩ (fun hHeld => ?_); refine with_tabW impl_tieGroups.tab6 impl_tieGroups.bits6 (fun HT_ HW_ => ?_)
      generalize wr.drew = w52 at HO_5 HO_6 HO_12 HB hx263_0 hx264_0 hx264_1 hx264_2 hx264_3 hx265_0 hx265_1 hx265_2 hx265_3 hHeld ⊢
      refine pU 0 19 (bA 19 1) ?_
      refine pU 1 20 (bA 19 3) ?_
      refine pU 2 21 (bA 19 7) ?_
      refine pU 3 22 (bA 19 15) ?_
      refine pU 4 23 (bA 19 31) ?_
      refine pU 5 24 (bA 19 63) ?_
      refine pU 6 25 (bA 19 127) ?_
      refine pU 7 26 (bA 19 255) ?_
      refine pU 11 30 (bA 19 2303) ?_
      refine pU 12 31 (bA 19 6399) ?_
      refine pU 13 32 (bA 19 14591) ?_
      refine pU 15 34 (bA 19 47359) ?_
      refine tU 8 27 (bA 19 47615) ?_
      refine pU 9 28 (bA 19 48127) ?_
      refine tU 10 29 (bA 19 49151) ?_
      refine tU 14 33 (bA 19 65535) ?_
      refine one_ (i := 16) (N := some 35) (bA 19 131071) rfl rfl (one_of HT_.out (by kernel_rfl)) (by decide) (fun K hK => ?_)
      refine goes_ Try.func121 (by kernel_rfl) rfl #[.agg #[.int .i64 ((rd_T59 l0 (rd t251 (ji24))).f0), .int .i64 ((rd_T59 l0 (rd t251 (ji24))).f1), .int .i64 ((rd_T59 l0 (rd t251 (ji24))).f2), .int .i64 ((rd_T59 l0 (rd t251 (ji24))).f3)], .agg #[.int .i64 ((rd_T59 l0 (rd t251 x14_1)).f0), .int .i64 ((rd_T59 l0 (rd t251 x14_1)).f1), .int .i64 ((rd_T59 l0 (rd t251 x14_1)).f2), .int .i64 ((rd_T59 l0 (rd t251 x14_1)).f3)], .int .i64 a1] (by rfl) rfl rfl (by (try simp only [List.map_toArray, List.map_cons, List.map_nil]); first | done | (simp only [hji24]; rfl) | rfl | (simp only [List.length_drop, List.length_take]; rfl)) ?_
      with_reducible refine (impl_difference.calls ((rd_T59 l0 (rd t251 (ji24))).f0) ((rd_T59 l0 (rd t251 (ji24))).f1) ((rd_T59 l0 (rd t251 (ji24))).f2) ((rd_T59 l0 (rd t251 (ji24))).f3) ((rd_T59 l0 (rd t251 x14_1)).f0) ((rd_T59 l0 (rd t251 x14_1)).f1) ((rd_T59 l0 (rd t251 x14_1)).f2) ((rd_T59 l0 (rd t251 x14_1)).f3) a1 t266 _ A31.out).mono ?_
      rintro e w53 ⟨rfl, hb⟩
      have HS0_ := (hb.cell (World.block_lt_of_cell? _ _ (hHeld.1))).trans (hHeld.1)
      refine ⟨_, rfl, ?_⟩
      have n0_ := Aside0.mk (Kd.S_below (by (with_reducible repeat (first | apply Kd.S_alloc | apply Kd.S_drewN | apply Kd.S_drew)); exact HO_5.out) hb)
      have n1_ := Aside0.mk (Kd.R_below (by (with_reducible repeat (first | apply Kd.R_alloc | apply Kd.R_drewN | apply Kd.R_drew)); exact HO_6.out) hb)
      have n2_ := Aside0.mk (Kd.R_below (by (with_reducible repeat (first | apply Kd.R_alloc | apply Kd.R_drewN | apply Kd.R_drew)); exact HO_12.out) hb)
      have n3_ := Aside0.mk (below_step bB hb)
      clear HO_5
      clear HO_6
      clear HO_12
      clear HB
      have HO_5 := n0_
      have HO_6 := n1_
      have HO_12 := n2_
      have HB := n3_
      clear n0_ n1_ n2_ n3_
      (try clear hb)
      (try clear hk)
      refine hK.out _ _ ⟨HS0_, (cB HB.out hw264_0 :), (cB HB.out hw264_1 :), (cB HB.out hw264_2 :), (cB HB.out hw264_3 :), (cB HB.out hw265_0 :), (cB HB.out hw265_1 :), (cB HB.out hw265_2 :), (cB HB.out hw265_3 :)⟩ (fun hHeld => ?_)
      clear hK K
      refine norm_ (a' := ?_) ?_ ?_
      rotate_left
      ·show Act.put _ (some 35) _ = _
       simp only [Act.put, sA, sZ, sS, i64_w, i32_w]
       rfl
      refine pU 17 36 (bA 19 262143) ?_
      refine pU 18 37 (bA 19 524287) ?_
      refine done_ (done_of HT_.out (by kernel_rfl)) ?_
      try go_wp2_with (first | ((with_reducible refine gate_builtin (b := .append) (xs := #[.tmp 38, .tmp 39]) rfl ?_); at_builtin; refine Kd.S_append (Kd.slice 3 (Kd.int .i64)) (w0 := w) w.heap.size rfl (.tmp 38) (.tmp 39) 30 37 (.slice none 0 0) 24 rfl Try.underlying30 info37 rfl (by decide) (by omega) u5 x5_1 [] [.slice none 0 0] (fun k_ => some k_ ≠ (.slice (some ad254) t251.length co5 : Value).ownBlock ∧ some k_ ≠ (.slice (some ad254) t251.length co5 : Value).ownBlock) (fun _ => False) rfl rfl ?aP (fun _ hk => hk.elim) ?aF ?aO ?aB ?aS ?aL ?_; (case aP => exact ⟨_, rfl, Kd.R_nil _ _ _ _ _⟩); (case aB => exact bB); (case aF => exact (fun k_ hk => ⟨Kd.fresh' (Kd.R_lt (by (with_reducible repeat (first | apply Kd.R_alloc | apply Kd.R_drewN | apply Kd.R_drew)); exact HO_6.out)) k_ hk, Kd.fresh' (Kd.R_lt (by (with_reducible repeat (first | apply Kd.R_alloc | apply Kd.R_drewN | apply Kd.R_drew)); exact HO_12.out)) k_ hk⟩)); (case aO => exact (by (with_reducible repeat (first | apply Kd.S_alloc | apply Kd.S_drewN | apply Kd.S_drew)); exact Kd.S_mono HO_5.out (fun k_ hk => ⟨⟨hk.1, hk.2⟩, fun e_ => e_⟩))); (case aS => exact (below_size bB)); (case aL => have := LMc46.out; omega); intro v273 w54 ho hb hg hat; rw [← Ny272.out] at ho; have n0_ := Aside0.mk (Kd.R_over' (by (with_reducible repeat (first | apply Kd.R_alloc | apply Kd.R_drewN | apply Kd.R_drew)); exact HO_6.out) (Kd.S_typed (by (with_reducible repeat (first | apply Kd.S_alloc | apply Kd.S_drewN | apply Kd.S_drew)); exact HO_5.out)) (by decide) hg); have n1_ := Aside0.mk (Kd.R_over' (by (with_reducible repeat (first | apply Kd.R_alloc | apply Kd.R_drewN | apply Kd.R_drew)); exact HO_12.out) (Kd.S_typed (by (with_reducible repeat (first | apply Kd.S_alloc | apply Kd.S_drewN | apply Kd.S_drew)); exact HO_5.out)) (by decide) hg); have n2_ := Aside0.mk (hb); have n3_ := Aside0.mk (ho); clear HO_6; clear HO_12; clear HB; clear HO_5; have HO_6 := n0_; have HO_12 := n1_; have HB := n2_; have HO274 := n3_; clear n0_ n1_ n2_ n3_; clear ho hb hg hat; obtain ⟨Ao55, co55, eo55⟩ := Kd.S_slice HO274.out; subst eo55; have p275 : 0 ≤ ((ji47) : Int) := oD; have q275 : (ji47) < (y272.length : Int) := oD; obtain ⟨ad275, A275_0, c275_0, e275, hx275_0, hl275_0, hi275_0⟩ := at_L3 (Kd.S_reads' HO274.out).2.2 (ji47) p275 q275; cases e275; obtain ⟨ce275, hce275, hMe275, hcc275⟩ := Kd.S_get HO274.out [] (ji47) p275 (by first | exact q275 | exact oD | (have e_ := (Kd.S_reads' HO274.out).1; omega)); obtain ⟨ve275_0, rfl, ge275_0⟩ := hMe275; have hv275_0 := hcc275 0 _ rfl; rw [Nat.add_zero, show ((Kd.slice 3 (Kd.int .i64))).sz = 1 from rfl, Nat.mul_one] at hv275_0; replace hv275_0 := Option.some.inj (hv275_0.symm.trans hx275_0); rw [hv275_0] at ge275_0; have HL275_0 := Aside0.mk (show Kd.R (Kd.int .i64) 3 _ _ _ _ (rd_L3 y272 (ji47)) from ge275_0); clear hv275_0 ge275_0; have HX275_0 := Aside0.mk hx275_0; clear hcc275 hce275; have HR275_0 := Aside0.mk hi275_0; have HC275_0 := Aside0.mk hl275_0; clear hi275_0 hl275_0; replace p275 := eq_true p275; replace q275 := eq_true q275; obtain ⟨go56, co56, eo56, gb56, gl56, cl56, HG56⟩ := Kd.S_form HO274.out (by have h_ : ((ji47) : Int) < ((y272.length : Int) : Int) := oD; have h2_ : 0 ≤ ((ji47) : Int) := (oD); omega); (first | cases eo56 | (injection eo56 with ea_ en_ ec_; (first | subst ea_ | (injection ea_ with ea_; subst ea_)); subst ec_; clear en_)); have GB56 := Aside0.mk gb56; have GG56 := Aside0.mk HG56; clear gb56 gl56 HG56; (first | simp only [add_plain] at hx275_0 | skip); obtain ⟨oki56, ce56, hcl56, hM56, hcc56, _, _, hH56⟩ := Kd.S_elem HO274.out [] ((ji47) : Int) (oD) (by have h_ : ((ji47) : Int) < ((y272.length : Int) : Int) := oD; first | exact h_ | (have e_ := (Kd.S_reads' HO274.out).1; omega) | simpa using h_); obtain ⟨ve56_0, rfl, ge56_0⟩ := hM56; have hv56 := hcc56 0 _ rfl; have hX56 := HX275_0.out; (try simp only [add_plain] at hX56); (try simp only [Nat.add_zero] at hv56); (try rw [show ((Kd.slice 3 (Kd.int .i64))).sz = 1 from rfl, Nat.mul_one] at hv56); replace hv56 := Option.some.inj (hv56.symm.trans hX56); subst hv56; clear hX56 hcc56 hcl56; have UU56 := Aside0.mk (show Kd.R (Kd.int .i64) 3 _ w.heap.size oki56 (.slice A275_0 (rd_L3 y272 (ji47)).length c275_0) (rd_L3 y272 (ji47)) from ge56_0); have HH56 := Aside0.mk hH56; have HN56 := Aside0.mk (Kd.S_reads' HO274.out).1; clear hH56 ge56_0) | ((with_reducible refine gate_builtin (b := .append) (xs := #[.tmp 50, .tmp 52]) rfl ?_); at_builtin; refine Kd.R_append (Kd.int .i64) (w0 := w) w.heap.size rfl (.tmp 50) (.tmp 52) 37 3 (.int .i64 0) 8 rfl Try.underlying37 info3 rfl (by decide) (by omega) (.slice A275_0 (rd_L3 y272 (ji47)).length c275_0) (rd_L3 y272 (ji47)) (rd t251 x14_1) [.int .i64 (rd t251 x14_1)] (fun k_ => oki56 k_ ∨ ((fun k_ => some k_ ≠ (.slice (some ad254) t251.length co5 : Value).ownBlock ∧ some k_ ≠ (.slice (some ad254) t251.length co5 : Value).ownBlock)) k_ ∧ w54.heap.size ≤ k_) (fun _ => False) rfl rfl ?aP (fun _ hk => hk.elim) ?aF ?aO ?aB ?aS ?aL ?_; (case aP => exact rfl); (case aB => exact bB); (case aF => exact (fun k_ hk => .inr ⟨⟨Kd.fresh' (Kd.R_lt (by (with_reducible repeat (first | apply Kd.R_alloc | apply Kd.R_drewN | apply Kd.R_drew)); exact HO_6.out)) k_ hk, Kd.fresh' (Kd.R_lt (by (with_reducible repeat (first | apply Kd.R_alloc | apply Kd.R_drewN | apply Kd.R_drew)); exact HO_12.out)) k_ hk⟩, hk⟩)); (case aO => exact (by (with_reducible repeat (first | apply Kd.R_alloc | apply Kd.R_drewN | apply Kd.R_drew)); exact Kd.R_mono UU56.out (fun _ hk => .inl hk))); (case aS => exact (below_size bB)); (case aL => have := LMc50.out; omega); intro v277 w57 ho hb hg hat; rw [← Ny276.out] at ho; have n0_ := Aside0.mk (Kd.R_grown2 (by (with_reducible repeat (first | apply Kd.R_alloc | apply Kd.R_drewN | apply Kd.R_drew)); exact HO_6.out) rfl hg (fun k_ e_ => (HL275_0.out.1 k_ e_).1.1)); have n1_ := Aside0.mk (Kd.R_grown2 (by (with_reducible repeat (first | apply Kd.R_alloc | apply Kd.R_drewN | apply Kd.R_drew)); exact HO_12.out) rfl hg (fun k_ e_ => (HL275_0.out.1 k_ e_).1.2)); have n2_ := Aside0.mk (hb); have n3_ := Aside0.mk (Kd.H_grown (Kd.H_widen (by repeat (first | exact HH56.out | refine Kd.H_alloc ?_ _ | refine Kd.H_drewN ?_ _ | refine Kd.H_drew ?_))) hg (fun k_ e_ => .inl (UU56.out.1 k_ e_))); have n4_ := Aside0.mk (ho); clear HO_6; clear HO_12; clear HB; clear HH56; clear HO274; clear UU56; clear HL275_0; have HO_6 := n0_; have HO_12 := n1_; have HB := n2_; have HH56 := n3_; have HO278 := n4_; clear n0_ n1_ n2_ n3_ n4_; clear ho hb hg hat; have p51 : 0 ≤ ((ji47) : Int) := oD; have q51 : ((ji47) : Int) < ((y272.length : Int) : Int) := oD; replace p51 := eq_true p51; replace q51 := eq_true q51; obtain ⟨Ao60, co60, eo60⟩ := Kd.R_slice HO278.out; subst eo60; obtain ⟨_, _, hraw58, _, _, hcc58, _⟩ := Kd.H_raw HH56.out (oD) (by have h_ : ((ji47) : Int) < ((y272.length : Int) : Int) := oD; first | exact h_ | (have e_ := (HN56.out); omega) | simpa using h_); obtain ⟨_, hfr58⟩ := Kd.H_at HH56.out (oD) (by have h_ : ((ji47) : Int) < ((y272.length : Int) : Int) := oD; first | exact h_ | (have e_ := (HN56.out); omega) | simpa using h_); have hx58_0 := hcc58 0 _ rfl; have hf58_0 := hfr58 0; (try simp only [Nat.add_zero] at hx58_0 hf58_0); (try rw [show ((Kd.slice 3 (Kd.int .i64))).sz = 1 from rfl, Nat.mul_one] at hx58_0); (try rw [show ((Kd.slice 3 (Kd.int .i64))).sz = 1 from rfl, Nat.mul_one] at hf58_0); have HP58 := Kd.S_seg0 HH56.out (oD) (by have h_ : ((ji47) : Int) < ((y272.length : Int) : Int) := oD; first | exact h_ | (have e_ := (HN56.out); omega) | simpa using h_) (seg := [.slice Ao60 y276.length co60]) (j := 0) (show 1 ≤ 1 from by decide) (x' := y276) (Kd.M_row HO278.out) (fun _ hk => hk); (try simp only [show ((Kd.slice 3 (Kd.int .i64))).sz = 1 from rfl, Nat.mul_one, Nat.add_zero] at HP58); clear hcc58 hfr58) | ((with_reducible refine gate_store (t := 37) (p := 54) rfl ?_); refine store_event (t := 37) (p := 54) (v := ?vo_w59) (w1 := (w57.setCell ⟨go56, ((ji47) : Int).toNat, none⟩ (.slice Ao60 y276.length co60))) ?hg ?ho ?hn ?hr ?_; (case ho => rfl); (case hg => rfl); (case hn => rfl); (case hr => first | (go_simp; done) | (go_simp; rfl)); intro w59 hw; have hg : w57.grownBy w59 (some go56) := (by rw [hw]; exact HP58.2); have hp_ : Kd.S (Kd.slice 3 (Kd.int .i64)) 37 w59 w.heap.size (fun k_ => some k_ ≠ (.slice (some ad254) t251.length co5 : Value).ownBlock ∧ some k_ ≠ (.slice (some ad254) t251.length co5 : Value).ownBlock) (.slice (some ⟨go56, 0, none⟩) y272.length co55) y279 := (by rw [hw, Ny279.out]; exact HP58.1); clear HP58; have n0_ := Aside0.mk (Kd.R_over' (v := (.slice (some ⟨go56, 0, none⟩) y272.length co55)) (by (with_reducible repeat (first | apply Kd.R_alloc | apply Kd.R_drewN | apply Kd.R_drew)); exact HO_6.out) (Kd.R_typed hraw58) (by decide) hg); have n1_ := Aside0.mk (Kd.R_over' (v := (.slice (some ⟨go56, 0, none⟩) y272.length co55)) (by (with_reducible repeat (first | apply Kd.R_alloc | apply Kd.R_drewN | apply Kd.R_drew)); exact HO_12.out) (Kd.R_typed hraw58) (by decide) hg); have n2_ := Aside0.mk ((by rw [hw]; exact below_set HB.out GB56.out : Below w.heap.size w w59)); have n3_ := Aside0.mk (hp_); clear HO_6; clear HO_12; clear HB; clear HO278; clear HH56; have HO_6 := n0_; have HO_12 := n1_; have HB := n2_; have HO274 := n3_; clear n0_ n1_ n2_ n3_; clear hg hw hp_ hraw58))
      go_roundg k1
      case measure => have := HK1.out; omega
      case rel => exact ⟨(y279), (wrap64 (x14_1 + 1)), sD, H', ⟨by have := HK1.out; omega⟩, ⟨kS⟩, ⟨kR⟩, ⟨kR⟩, ⟨by repeat (first | (with_reducible first | exact HB.out | apply below_alloc | apply pw_below_drewN | apply below_drew1) | exact HB.out)⟩⟩
   ·rw [if_neg c6] at H
    have c6b0 : decide (x14_1 < (t251.length : Int)) = false := decide_eq_false c6
    clear c6
    obtain rfl := Option.some.inj H
    go_wp2
    go_ret
    exact ⟨_, by first | rfl | (simp [errW_none, errW_some] <;> rfl) | (simp [*, errW_none, errW_some] <;> rfl), by (with_reducible repeat (first | apply Kd.S_alloc | apply Kd.S_drewN | apply Kd.S_drew)); exact Kd.S_mono HO_5.out (fun _ hk => trivial), bB⟩

/-! ### impl_TieGroups: function 21 -/
def impl_TieGroups.f (k : Nat) (l0 : List (S59)) (a1 : Int) : Option ((List (List Int)) × Bool) := (impl_isRuled.f k l0 a1).bind fun t280 => (if t280 = true then ((impl_tieGroups.f k l0 a1).bind fun t281 => (some (t281, true))) else (some (([] : List (List Int)), false)))
theorem impl_TieGroups.mono : ∀ a0 a1 k, LeO (impl_TieGroups.f k a0 a1) (impl_TieGroups.f (k + 1) a0 a1) := by
 intro a0 a1 k
 unfold impl_TieGroups.f
 repeat' first
   | (with_reducible exact impl_isRuled.mono _ _ _)
   | (with_reducible exact impl_tieGroups.mono _ _ _)
   | (with_reducible exact LeO.refl _)
   | (with_reducible exact LeO.none _)
   | (with_reducible refine LeO.ite ?_ ?_)
   | (with_reducible refine LeO.bind ?_ (fun _ => ?_))
   | exact impl_isRuled.mono _ _ _
   | exact impl_tieGroups.mono _ _ _
   | exact LeO.none _
   | refine LeO.ite ?_ ?_
   | refine LeO.bind ?_ (fun _ => ?_)
set_option maxHeartbeats 8000000 in
set_option maxRecDepth 100000 in
theorem impl_TieGroups.calls (k : Nat) (A0 : Option Addr) (c0 : Nat) (l0 : List (S59)) (a1 : Int) (r1 : List (List Int)) (r2 : Bool) (w : World) (hr0 : Kd.C k59 w A0 l0.length l0) (hc0 : l0.length ≤ c0) (h : impl_TieGroups.f k l0 a1 = some (r1, r2)) :
  Calls Try.prog 21 #[.slice A0 l0.length c0, .int .i64 a1] w fun e w' => ∃ v0_ : Value, e = .returned (.tuple #[v0_, .bool r2]) ∧ Kd.S (Kd.slice 3 (Kd.int .i64)) 37 w' w.heap.size (fun _ => True) v0_ r1 ∧ Below w.heap.size w w' := by
 have HR0 := Aside0.mk hr0
 have HC0 := Aside0.mk hc0
 clear hr0 hc0
 have HB := Aside0.mk (Below.refl w.heap.size w)
 have H : ((impl_isRuled.f k l0 a1).bind fun t280 => (if t280 = true then ((impl_tieGroups.f k l0 a1).bind fun t281 => (some (t281, true))) else (some (([] : List (List Int)), false)))) = some (r1, r2) := h
 clear h
 replace H := Option.bind_eq_some_iff.mp H
 obtain ⟨t280, A30, H⟩ := H
 replace H : (if t280 = true then ((impl_tieGroups.f k l0 a1).bind fun t281 => (some (t281, true))) else (some (([] : List (List Int)), false))) = some (r1, r2) := H
 have A3 := Aside0.mk A30
 clear A30
 by_cases c4 : t280 = true
 ·subst c4
  have H1 : ((impl_tieGroups.f k l0 a1).bind fun t281 => (some (t281, true))) = some (r1, r2) := by rw [if_pos rfl] at H; exact H
  clear H
  have H := H1
  clear H1
  replace H := Option.bind_eq_some_iff.mp H
  obtain ⟨t281, A50, H⟩ := H
  replace H : (some (t281, true)) = some (r1, r2) := H
  have A5 := Aside0.mk A50
  clear A50
  simp only [Option.some.injEq, Prod.mk.injEq] at H
  obtain ⟨rfl, rfl⟩ := H
  go_enter Try.func21, Try.ntmps21
  go_wp2_with (first | ((with_reducible refine gate_callee (f := 66) rfl ?_); refine goesL_ (some 8) rfl rfl Try.func66 (by kernel_rfl) rfl #[.slice A0 l0.length c0, .int .i64 a1] rfl aE ?_; (with_reducible refine (impl_isRuled.calls k _ _ l0 a1 true _ ?side1 ?side2 A3.out).mono ?_); (case side1 => repeat (first | exact HR0.out | (with_reducible refine Kd.C_alloc ?_ _) | (with_reducible refine Kd.C_drewN ?_ _) | (with_reducible refine Kd.C_drew ?_))); (case side2 => exact HC0.out); rintro e w6 ⟨rfl, hb⟩; refine ⟨_, rfl, ?_⟩; have n0_ := Aside0.mk (below_step bB hb); clear HB; have HB := n0_; clear n0_; (try clear hb)) | ((with_reducible refine gate_callee (f := 67) rfl ?_); refine goesL_ (some 12) rfl rfl Try.func67 (by kernel_rfl) rfl #[.slice A0 l0.length c0, .int .i64 a1] rfl aE ?_; (with_reducible refine (impl_tieGroups.calls k _ _ l0 a1 t281 _ ?side1 ?side2 A5.out).mono ?_); (case side1 => repeat (first | exact (Kd.C_below HR0.out HB.out) | (with_reducible refine Kd.C_alloc ?_ _) | (with_reducible refine Kd.C_drewN ?_ _) | (with_reducible refine Kd.C_drew ?_))); (case side2 => exact HC0.out); rintro e w7 ⟨v282, rfl, ho0, hb⟩; refine ⟨_, rfl, ?_⟩; have n0_ := Aside0.mk (Kd.S_lower ho0 (below_size bB)); have n1_ := Aside0.mk (below_step bB hb); clear HB; have HO283 := n0_; have HB := n1_; clear n0_ n1_; (try clear hb); (try clear ho0)))
  go_ret2
  exact ⟨_, by first | rfl | (simp [errW_none, errW_some] <;> rfl) | (simp [*, errW_none, errW_some] <;> rfl), by (with_reducible repeat (first | apply Kd.S_alloc | apply Kd.S_drewN | apply Kd.S_drew)); exact HO283.out, bB⟩
 ·replace c4 := Bool.eq_false_iff.mpr c4
  subst c4
  have H1 : (some (([] : List (List Int)), false)) = some (r1, r2) := by rw [if_neg (show ¬ (false = true) by decide)] at H; exact H
  clear H
  have H := H1
  clear H1
  simp only [Option.some.injEq, Prod.mk.injEq] at H
  obtain ⟨rfl, rfl⟩ := H
  go_enter Try.func21, Try.ntmps21
  go_wp2_with (first | ((with_reducible refine gate_callee (f := 66) rfl ?_); refine goesL_ (some 8) rfl rfl Try.func66 (by kernel_rfl) rfl #[.slice A0 l0.length c0, .int .i64 a1] rfl aE ?_; (with_reducible refine (impl_isRuled.calls k _ _ l0 a1 false _ ?side1 ?side2 A3.out).mono ?_); (case side1 => repeat (first | exact HR0.out | (with_reducible refine Kd.C_alloc ?_ _) | (with_reducible refine Kd.C_drewN ?_ _) | (with_reducible refine Kd.C_drew ?_))); (case side2 => exact HC0.out); rintro e w8 ⟨rfl, hb⟩; refine ⟨_, rfl, ?_⟩; have n0_ := Aside0.mk (below_step bB hb); clear HB; have HB := n0_; clear n0_; (try clear hb)))
  go_ret2
  exact ⟨_, by first | rfl | (simp [errW_none, errW_some] <;> rfl) | (simp [*, errW_none, errW_some] <;> rfl), by first | exact Kd.S_nil _ _ _ _ _ | exact Kd.N_nil _ _ _ _ _ | exact Kd.V_nil _ _ _ _ _ | exact Kd.Q_nil _ _ _ _ _ | exact Kd.R_nil _ _ _ _ _, bB⟩

end Go.Proofs.Ythhmembnhnghiaa.OFnExactTieGroups
