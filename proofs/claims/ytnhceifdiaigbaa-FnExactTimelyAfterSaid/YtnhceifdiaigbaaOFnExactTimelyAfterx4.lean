/- Functions of the program as plain Lean functions, with their contracts: written by this session's program ownprint.py. Conditions: none. -/
import Derived.Test.YtnhceifdiaigbaaOFnExactTimelyAfterx0
import Derived.Test.YtnhceifdiaigbaaOFnExactTimelyAfterx3
namespace Go.Proofs.Ytnhceifdiaigbaa.OFnExactTimelyAfter
open Go.RowKit Go.Proofs.YtnhceifdiaigbaaW.PrintWords Go.Proofs.YtnhceifdiaigbaaW.PrintLast Go.Proofs.YtnhceifdiaigbaaW.PrintMore
attribute [local go_sem] max2_int min2_int max_two min_two max_three min_three max_four min_four   -- for this text's walks alone
set_option linter.unusedVariables false
set_option linter.unusedSimpArgs false

/-! ### impl_IsJobs: function 88 -/
def impl_IsJobs.l0 : Nat → List (S63) → Int → Int → Option (Bool)
 | 0, _, _, _ => none
 | k + 1, x8, x9, x10 => if x10 < x9 then (if 0 ≤ x10 then (if x10 < (x8.length : Int) then ((impl_within.f ((rd_T63 x8 x10).f0) 1 50).bind fun t218 => (if t218 = true then ((impl_within.f ((rd_T63 x8 x10).f1) 0 50).bind fun t219 => (if t219 = true then ((impl_isDate.f ((rd_T63 x8 x10).f2)).bind fun t220 => (if t220 = true then ((impl_isDate.f ((rd_T63 x8 x10).f3)).bind fun t221 => (if t221 = true then (impl_IsJobs.l0 k x8 x9 (wrap64 (x10 + 1))) else (some false))) else (some false))) else (some false))) else (some false))) else (none)) else (none)) else (some true)
def impl_IsJobs.f (k : Nat) (l0 : List (S63)) : Option (Bool) := if (l0.length : Int) > 8 then (some false) else (impl_IsJobs.l0 k l0 (l0.length : Int) 0)
theorem impl_IsJobs.mono_l : ∀ k, (∀ y0 y1 y2, LeO (impl_IsJobs.l0 k y0 y1 y2) (impl_IsJobs.l0 (k + 1) y0 y1 y2))
 | 0 => fun _ _ _ r h => by simp [impl_IsJobs.l0] at h
 | k + 1 => by
  have ih0 := impl_IsJobs.mono_l k
  ·intro y0 y1 y2
   unfold impl_IsJobs.l0
   repeat' first
   | (with_reducible exact ih0 _ _ _)
   | (with_reducible exact LeO.refl _)
   | (with_reducible exact LeO.none _)
   | (with_reducible refine LeO.ite ?_ ?_)
   | (with_reducible refine LeO.bind ?_ (fun _ => ?_))
   | exact ih0 _ _ _
   | exact LeO.none _
   | refine LeO.ite ?_ ?_
   | refine LeO.bind ?_ (fun _ => ?_)
theorem impl_IsJobs.mono : ∀ a0 k, LeO (impl_IsJobs.f k a0) (impl_IsJobs.f (k + 1) a0) := by
 intro a0 k
 have ih0 := impl_IsJobs.mono_l k
 unfold impl_IsJobs.f
 repeat' first
   | (with_reducible exact ih0 _ _ _)
   | (with_reducible exact LeO.refl _)
   | (with_reducible exact LeO.none _)
   | (with_reducible refine LeO.ite ?_ ?_)
   | (with_reducible refine LeO.bind ?_ (fun _ => ?_))
   | exact ih0 _ _ _
   | exact LeO.none _
   | refine LeO.ite ?_ ?_
   | refine LeO.bind ?_ (fun _ => ?_)
set_option maxHeartbeats 8000000 in
set_option maxRecDepth 100000 in
theorem impl_IsJobs.calls (k : Nat) (A0 : Option Addr) (c0 : Nat) (l0 : List (S63)) (r : Bool) (w : World) (hr0 : Kd.C k63 w A0 l0.length l0) (hc0 : l0.length ≤ c0) (h : impl_IsJobs.f k l0 = some r) :
  Calls Try.prog 88 #[.slice A0 l0.length c0] w fun e w' => e = .returned (.bool r) ∧ Below w.heap.size w w' := by
 have hu63 := Try.underlying63
 have HR0 := Aside0.mk hr0
 have HC0 := Aside0.mk hc0
 clear hr0 hc0
 have HB := Aside0.mk (Below.refl w.heap.size w)
 have H : (if (l0.length : Int) > 8 then (some false) else (impl_IsJobs.l0 k l0 (l0.length : Int) 0)) = some r := h
 clear h
 by_cases c2 : (l0.length : Int) > 8
 ·rw [if_pos c2] at H
  have c2b0 : decide (8 < (l0.length : Int)) = true := decide_eq_true c2
  have c2b1 : decide (8 < l0.length) = true := decide_eq_true (by omega)
  clear c2
  obtain rfl := Option.some.inj H
  go_enter Try.func88, Try.ntmps88
  go_wp2
  go_ret
  exact ⟨rE, bB⟩
 ·rw [if_neg c2] at H
  have c2b0 : decide (8 < (l0.length : Int)) = false := decide_eq_false c2
  have c2b1 : decide (8 < l0.length) = false := decide_eq_false (by omega)
  clear c2
  have H' := Aside0.mk H
  clear H
  go_enter Try.func88, Try.ntmps88
  go_wp2
  go_loopg [10] k (fun kq v10 w' => ∃ (x10_1 : Int), v10 = .int .i64 x10_1 ∧ Aside0 (impl_IsJobs.l0 kq l0 (l0.length : Int) x10_1 = some r) ∧ Aside0 (kq ≤ k) ∧ Aside0 (Below w.heap.size w w'))
  case atStart => exact ⟨(0), (by first | rfl | (simp; done) | (simp [*]; done)), H', ⟨Nat.le_refl _⟩, ⟨by repeat (first | (with_reducible first | exact HB.out | apply below_alloc | apply pw_below_drewN | apply below_drew1) | exact HB.out)⟩⟩
  case round =>
   clear H'
   try clear c2
   try clear c2b0
   try clear c2b1
   try clear p2
   obtain ⟨x10_1, rfl, HA, HK1, HB⟩ := hrel
   cases gk with
   | zero => exact absurd HA.out (by simp [impl_IsJobs.l0])
   | succ k1 =>
    have H := HA.out
    clear HA
    simp only [impl_IsJobs.l0] at H
    by_cases c3 : x10_1 < (l0.length : Int)
    ·rw [if_pos c3] at H
     have c3b0 : decide (x10_1 < (l0.length : Int)) = true := decide_eq_true c3
     clear c3
     by_cases c4 : 0 ≤ x10_1
     ·rw [if_pos c4] at H
      have c4b0 : decide (0 ≤ x10_1) = true := decide_eq_true c4
      clear c4
      by_cases c5 : x10_1 < (l0.length : Int)
      ·rw [if_pos c5] at H
       have c5b0 : decide (x10_1 < (l0.length : Int)) = true := decide_eq_true c5
       clear c5
       replace H := Option.bind_eq_some_iff.mp H
       obtain ⟨t218, A60, H⟩ := H
       replace H : (if t218 = true then ((impl_within.f ((rd_T63 l0 x10_1).f1) 0 50).bind fun t219 => (if t219 = true then ((impl_isDate.f ((rd_T63 l0 x10_1).f2)).bind fun t220 => (if t220 = true then ((impl_isDate.f ((rd_T63 l0 x10_1).f3)).bind fun t221 => (if t221 = true then (impl_IsJobs.l0 k1 l0 (l0.length : Int) (wrap64 (x10_1 + 1))) else (some false))) else (some false))) else (some false))) else (some false)) = some r := H
       have A6 := Aside0.mk A60
       clear A60
       by_cases c7 : t218 = true
       ·subst c7
        have H1 : ((impl_within.f ((rd_T63 l0 x10_1).f1) 0 50).bind fun t219 => (if t219 = true then ((impl_isDate.f ((rd_T63 l0 x10_1).f2)).bind fun t220 => (if t220 = true then ((impl_isDate.f ((rd_T63 l0 x10_1).f3)).bind fun t221 => (if t221 = true then (impl_IsJobs.l0 k1 l0 (l0.length : Int) (wrap64 (x10_1 + 1))) else (some false))) else (some false))) else (some false))) = some r := by rw [if_pos rfl] at H; exact H
        clear H
        have H := H1
        clear H1
        replace H := Option.bind_eq_some_iff.mp H
        obtain ⟨t219, A80, H⟩ := H
        replace H : (if t219 = true then ((impl_isDate.f ((rd_T63 l0 x10_1).f2)).bind fun t220 => (if t220 = true then ((impl_isDate.f ((rd_T63 l0 x10_1).f3)).bind fun t221 => (if t221 = true then (impl_IsJobs.l0 k1 l0 (l0.length : Int) (wrap64 (x10_1 + 1))) else (some false))) else (some false))) else (some false)) = some r := H
        have A8 := Aside0.mk A80
        clear A80
        by_cases c9 : t219 = true
        ·subst c9
         have H1 : ((impl_isDate.f ((rd_T63 l0 x10_1).f2)).bind fun t220 => (if t220 = true then ((impl_isDate.f ((rd_T63 l0 x10_1).f3)).bind fun t221 => (if t221 = true then (impl_IsJobs.l0 k1 l0 (l0.length : Int) (wrap64 (x10_1 + 1))) else (some false))) else (some false))) = some r := by rw [if_pos rfl] at H; exact H
         clear H
         have H := H1
         clear H1
         replace H := Option.bind_eq_some_iff.mp H
         obtain ⟨t220, A100, H⟩ := H
         replace H : (if t220 = true then ((impl_isDate.f ((rd_T63 l0 x10_1).f3)).bind fun t221 => (if t221 = true then (impl_IsJobs.l0 k1 l0 (l0.length : Int) (wrap64 (x10_1 + 1))) else (some false))) else (some false)) = some r := H
         have A10 := Aside0.mk A100
         clear A100
         by_cases c11 : t220 = true
         ·subst c11
          have H1 : ((impl_isDate.f ((rd_T63 l0 x10_1).f3)).bind fun t221 => (if t221 = true then (impl_IsJobs.l0 k1 l0 (l0.length : Int) (wrap64 (x10_1 + 1))) else (some false))) = some r := by rw [if_pos rfl] at H; exact H
          clear H
          have H := H1
          clear H1
          replace H := Option.bind_eq_some_iff.mp H
          obtain ⟨t221, A120, H⟩ := H
          replace H : (if t221 = true then (impl_IsJobs.l0 k1 l0 (l0.length : Int) (wrap64 (x10_1 + 1))) else (some false)) = some r := H
          have A12 := Aside0.mk A120
          clear A120
          by_cases c13 : t221 = true
          ·subst c13
           have H1 : (impl_IsJobs.l0 k1 l0 (l0.length : Int) (wrap64 (x10_1 + 1))) = some r := by rw [if_pos rfl] at H; exact H
           clear H
           have H := H1
           clear H1
           have H' := Aside0.mk H
           clear H
           have p216 : 0 ≤ (x10_1 : Int) := oD
           have q216 : x10_1 < (l0.length : Int) := oD
           obtain ⟨ad216, e216, hx216_0, hx216_1, hx216_2, hx216_3⟩ := at_T63 HR0.out x10_1 p216 q216
           cases e216
           replace hx216_0 := (cB HB.out hx216_0 :)
           replace hx216_1 := (cB HB.out hx216_1 :)
           replace hx216_2 := (cB HB.out hx216_2 :)
           replace hx216_3 := (cB HB.out hx216_3 :)
           replace p216 := eq_true p216
           replace q216 := eq_true q216
           go_wp2_with (first | ((with_reducible refine gate_dst (N := 4) rfl ?_); refine box_event ?hg (N := 4) ?hd (cs := #[.int .i64 0, .int .i64 0, .int .i64 0, .int .i64 0]) (t := 63) ?hr ?_; (case hd => rfl); (case hg => rfl); (case hr => first | (go_simp; done) | (go_simp; rfl)); intro gb217 hg w14 hbox hb; have n0_ := Aside0.mk (below_step bB hb); have n1_ := Aside0.mk (hbox); have n2_ := Aside0.mk ((by rw [hg]; exact (below_size bB) : w.heap.size ≤ gb217)); have n3_ := Aside0.mk ((by rw [hg]; exact (below_size bB) : w.heap.size ≤ gb217)); clear HB; have HB := n0_; have BK217 := n1_; have GW217 := n2_; have GE217 := n3_; clear n0_ n1_ n2_ n3_; clear hb hbox hg; have hcz15_0 : w14.cell? ⟨gb217, 0, none⟩ = some (.int .i64 0) := (blk_cell BK217.out 0).trans rfl; have hcz15_1 : w14.cell? ⟨gb217, 1, none⟩ = some (.int .i64 0) := (blk_cell BK217.out 1).trans rfl; have hcz15_2 : w14.cell? ⟨gb217, 2, none⟩ = some (.int .i64 0) := (blk_cell BK217.out 2).trans rfl; have hcz15_3 : w14.cell? ⟨gb217, 3, none⟩ = some (.int .i64 0) := (blk_cell BK217.out 3).trans rfl; have hfz15_0 := blk_frozen BK217.out 0; have hfz15_1 := blk_frozen BK217.out 1; have hfz15_2 := blk_frozen BK217.out 2; have hfz15_3 := blk_frozen BK217.out 3) | ((with_reducible refine gate_callee (f := 62) rfl ?_); refine goesL_ (some 16) rfl rfl Try.func62 (by kernel_rfl) rfl #[.int .i64 ((rd_T63 l0 x10_1).f0), .int .i64 1, .int .i64 50] rfl aE ?_; (with_reducible refine (impl_within.calls ((rd_T63 l0 x10_1).f0) 1 50 true _ A6.out).mono ?_); rintro e w' ⟨rfl, ⟨nd, rfl⟩⟩; refine ⟨_, rfl, ?_⟩) | (go_at_call 62; (with_reducible refine (impl_within.calls ((rd_T63 l0 x10_1).f1) 0 50 true _ A8.out).mono ?_); rintro e w' ⟨rfl, ⟨nd, rfl⟩⟩) | (go_at_call 133; (with_reducible refine (impl_isDate.calls ((rd_T63 l0 x10_1).f2) true _ A10.out).mono ?_); rintro e w' ⟨rfl, ⟨nd, rfl⟩⟩) | (go_at_call 133; (with_reducible refine (impl_isDate.calls ((rd_T63 l0 x10_1).f3) true _ A12.out).mono ?_); rintro e w' ⟨rfl, ⟨nd, rfl⟩⟩))
           go_roundg k1
           case measure => have := HK1.out; omega
           case rel => exact ⟨(wrap64 (x10_1 + 1)), (by first | rfl | (simp; done) | (simp [*]; done)), H', ⟨by have := HK1.out; omega⟩, ⟨by repeat (first | (with_reducible first | exact HB.out | apply below_alloc | apply pw_below_drewN | apply below_drew1 | refine below_set ?_ GE217.out) | exact HB.out)⟩⟩
          ·replace c13 := Bool.eq_false_iff.mpr c13
           subst c13
           have H1 : (some false) = some r := by rw [if_neg (show ¬ (false = true) by decide)] at H; exact H
           clear H
           have H := H1
           clear H1
           obtain rfl := Option.some.inj H
           have p216 : 0 ≤ (x10_1 : Int) := oD
           have q216 : x10_1 < (l0.length : Int) := oD
           obtain ⟨ad216, e216, hx216_0, hx216_1, hx216_2, hx216_3⟩ := at_T63 HR0.out x10_1 p216 q216
           cases e216
           replace hx216_0 := (cB HB.out hx216_0 :)
           replace hx216_1 := (cB HB.out hx216_1 :)
           replace hx216_2 := (cB HB.out hx216_2 :)
           replace hx216_3 := (cB HB.out hx216_3 :)
           replace p216 := eq_true p216
           replace q216 := eq_true q216
           go_wp2_with (first | ((with_reducible refine gate_dst (N := 4) rfl ?_); refine box_event ?hg (N := 4) ?hd (cs := #[.int .i64 0, .int .i64 0, .int .i64 0, .int .i64 0]) (t := 63) ?hr ?_; (case hd => rfl); (case hg => rfl); (case hr => first | (go_simp; done) | (go_simp; rfl)); intro gb217 hg w16 hbox hb; have n0_ := Aside0.mk (below_step bB hb); have n1_ := Aside0.mk (hbox); have n2_ := Aside0.mk ((by rw [hg]; exact (below_size bB) : w.heap.size ≤ gb217)); have n3_ := Aside0.mk ((by rw [hg]; exact (below_size bB) : w.heap.size ≤ gb217)); clear HB; have HB := n0_; have BK217 := n1_; have GW217 := n2_; have GE217 := n3_; clear n0_ n1_ n2_ n3_; clear hb hbox hg; have hcz17_0 : w16.cell? ⟨gb217, 0, none⟩ = some (.int .i64 0) := (blk_cell BK217.out 0).trans rfl; have hcz17_1 : w16.cell? ⟨gb217, 1, none⟩ = some (.int .i64 0) := (blk_cell BK217.out 1).trans rfl; have hcz17_2 : w16.cell? ⟨gb217, 2, none⟩ = some (.int .i64 0) := (blk_cell BK217.out 2).trans rfl; have hcz17_3 : w16.cell? ⟨gb217, 3, none⟩ = some (.int .i64 0) := (blk_cell BK217.out 3).trans rfl; have hfz17_0 := blk_frozen BK217.out 0; have hfz17_1 := blk_frozen BK217.out 1; have hfz17_2 := blk_frozen BK217.out 2; have hfz17_3 := blk_frozen BK217.out 3) | ((with_reducible refine gate_callee (f := 62) rfl ?_); refine goesL_ (some 16) rfl rfl Try.func62 (by kernel_rfl) rfl #[.int .i64 ((rd_T63 l0 x10_1).f0), .int .i64 1, .int .i64 50] rfl aE ?_; (with_reducible refine (impl_within.calls ((rd_T63 l0 x10_1).f0) 1 50 true _ A6.out).mono ?_); rintro e w' ⟨rfl, ⟨nd, rfl⟩⟩; refine ⟨_, rfl, ?_⟩) | (go_at_call 62; (with_reducible refine (impl_within.calls ((rd_T63 l0 x10_1).f1) 0 50 true _ A8.out).mono ?_); rintro e w' ⟨rfl, ⟨nd, rfl⟩⟩) | (go_at_call 133; (with_reducible refine (impl_isDate.calls ((rd_T63 l0 x10_1).f2) true _ A10.out).mono ?_); rintro e w' ⟨rfl, ⟨nd, rfl⟩⟩) | (go_at_call 133; (with_reducible refine (impl_isDate.calls ((rd_T63 l0 x10_1).f3) false _ A12.out).mono ?_); rintro e w' ⟨rfl, ⟨nd, rfl⟩⟩))
           go_ret
           exact ⟨rE, bS⟩
         ·replace c11 := Bool.eq_false_iff.mpr c11
          subst c11
          have H1 : (some false) = some r := by rw [if_neg (show ¬ (false = true) by decide)] at H; exact H
          clear H
          have H := H1
          clear H1
          obtain rfl := Option.some.inj H
          have p216 : 0 ≤ (x10_1 : Int) := oD
          have q216 : x10_1 < (l0.length : Int) := oD
          obtain ⟨ad216, e216, hx216_0, hx216_1, hx216_2, hx216_3⟩ := at_T63 HR0.out x10_1 p216 q216
          cases e216
          replace hx216_0 := (cB HB.out hx216_0 :)
          replace hx216_1 := (cB HB.out hx216_1 :)
          replace hx216_2 := (cB HB.out hx216_2 :)
          replace hx216_3 := (cB HB.out hx216_3 :)
          replace p216 := eq_true p216
          replace q216 := eq_true q216
          go_wp2_with (first | ((with_reducible refine gate_dst (N := 4) rfl ?_); refine box_event ?hg (N := 4) ?hd (cs := #[.int .i64 0, .int .i64 0, .int .i64 0, .int .i64 0]) (t := 63) ?hr ?_; (case hd => rfl); (case hg => rfl); (case hr => first | (go_simp; done) | (go_simp; rfl)); intro gb217 hg w18 hbox hb; have n0_ := Aside0.mk (below_step bB hb); have n1_ := Aside0.mk (hbox); have n2_ := Aside0.mk ((by rw [hg]; exact (below_size bB) : w.heap.size ≤ gb217)); have n3_ := Aside0.mk ((by rw [hg]; exact (below_size bB) : w.heap.size ≤ gb217)); clear HB; have HB := n0_; have BK217 := n1_; have GW217 := n2_; have GE217 := n3_; clear n0_ n1_ n2_ n3_; clear hb hbox hg; have hcz19_0 : w18.cell? ⟨gb217, 0, none⟩ = some (.int .i64 0) := (blk_cell BK217.out 0).trans rfl; have hcz19_1 : w18.cell? ⟨gb217, 1, none⟩ = some (.int .i64 0) := (blk_cell BK217.out 1).trans rfl; have hcz19_2 : w18.cell? ⟨gb217, 2, none⟩ = some (.int .i64 0) := (blk_cell BK217.out 2).trans rfl; have hcz19_3 : w18.cell? ⟨gb217, 3, none⟩ = some (.int .i64 0) := (blk_cell BK217.out 3).trans rfl; have hfz19_0 := blk_frozen BK217.out 0; have hfz19_1 := blk_frozen BK217.out 1; have hfz19_2 := blk_frozen BK217.out 2; have hfz19_3 := blk_frozen BK217.out 3) | ((with_reducible refine gate_callee (f := 62) rfl ?_); refine goesL_ (some 16) rfl rfl Try.func62 (by kernel_rfl) rfl #[.int .i64 ((rd_T63 l0 x10_1).f0), .int .i64 1, .int .i64 50] rfl aE ?_; (with_reducible refine (impl_within.calls ((rd_T63 l0 x10_1).f0) 1 50 true _ A6.out).mono ?_); rintro e w' ⟨rfl, ⟨nd, rfl⟩⟩; refine ⟨_, rfl, ?_⟩) | (go_at_call 62; (with_reducible refine (impl_within.calls ((rd_T63 l0 x10_1).f1) 0 50 true _ A8.out).mono ?_); rintro e w' ⟨rfl, ⟨nd, rfl⟩⟩) | (go_at_call 133; (with_reducible refine (impl_isDate.calls ((rd_T63 l0 x10_1).f2) false _ A10.out).mono ?_); rintro e w' ⟨rfl, ⟨nd, rfl⟩⟩))
          go_ret
          exact ⟨rE, bS⟩
        ·replace c9 := Bool.eq_false_iff.mpr c9
         subst c9
         have H1 : (some false) = some r := by rw [if_neg (show ¬ (false = true) by decide)] at H; exact H
         clear H
         have H := H1
         clear H1
         obtain rfl := Option.some.inj H
         have p216 : 0 ≤ (x10_1 : Int) := oD
         have q216 : x10_1 < (l0.length : Int) := oD
         obtain ⟨ad216, e216, hx216_0, hx216_1, hx216_2, hx216_3⟩ := at_T63 HR0.out x10_1 p216 q216
         cases e216
         replace hx216_0 := (cB HB.out hx216_0 :)
         replace hx216_1 := (cB HB.out hx216_1 :)
         replace hx216_2 := (cB HB.out hx216_2 :)
         replace hx216_3 := (cB HB.out hx216_3 :)
         replace p216 := eq_true p216
         replace q216 := eq_true q216
         go_wp2_with (first | ((with_reducible refine gate_dst (N := 4) rfl ?_); refine box_event ?hg (N := 4) ?hd (cs := #[.int .i64 0, .int .i64 0, .int .i64 0, .int .i64 0]) (t := 63) ?hr ?_; (case hd => rfl); (case hg => rfl); (case hr => first | (go_simp; done) | (go_simp; rfl)); intro gb217 hg w20 hbox hb; have n0_ := Aside0.mk (below_step bB hb); have n1_ := Aside0.mk (hbox); have n2_ := Aside0.mk ((by rw [hg]; exact (below_size bB) : w.heap.size ≤ gb217)); have n3_ := Aside0.mk ((by rw [hg]; exact (below_size bB) : w.heap.size ≤ gb217)); clear HB; have HB := n0_; have BK217 := n1_; have GW217 := n2_; have GE217 := n3_; clear n0_ n1_ n2_ n3_; clear hb hbox hg; have hcz21_0 : w20.cell? ⟨gb217, 0, none⟩ = some (.int .i64 0) := (blk_cell BK217.out 0).trans rfl; have hcz21_1 : w20.cell? ⟨gb217, 1, none⟩ = some (.int .i64 0) := (blk_cell BK217.out 1).trans rfl; have hcz21_2 : w20.cell? ⟨gb217, 2, none⟩ = some (.int .i64 0) := (blk_cell BK217.out 2).trans rfl; have hcz21_3 : w20.cell? ⟨gb217, 3, none⟩ = some (.int .i64 0) := (blk_cell BK217.out 3).trans rfl; have hfz21_0 := blk_frozen BK217.out 0; have hfz21_1 := blk_frozen BK217.out 1; have hfz21_2 := blk_frozen BK217.out 2; have hfz21_3 := blk_frozen BK217.out 3) | ((with_reducible refine gate_callee (f := 62) rfl ?_); refine goesL_ (some 16) rfl rfl Try.func62 (by kernel_rfl) rfl #[.int .i64 ((rd_T63 l0 x10_1).f0), .int .i64 1, .int .i64 50] rfl aE ?_; (with_reducible refine (impl_within.calls ((rd_T63 l0 x10_1).f0) 1 50 true _ A6.out).mono ?_); rintro e w' ⟨rfl, ⟨nd, rfl⟩⟩; refine ⟨_, rfl, ?_⟩) | (go_at_call 62; (with_reducible refine (impl_within.calls ((rd_T63 l0 x10_1).f1) 0 50 false _ A8.out).mono ?_); rintro e w' ⟨rfl, ⟨nd, rfl⟩⟩))
         go_ret
         exact ⟨rE, bS⟩
       ·replace c7 := Bool.eq_false_iff.mpr c7
        subst c7
        have H1 : (some false) = some r := by rw [if_neg (show ¬ (false = true) by decide)] at H; exact H
        clear H
        have H := H1
        clear H1
        obtain rfl := Option.some.inj H
        have p216 : 0 ≤ (x10_1 : Int) := oD
        have q216 : x10_1 < (l0.length : Int) := oD
        obtain ⟨ad216, e216, hx216_0, hx216_1, hx216_2, hx216_3⟩ := at_T63 HR0.out x10_1 p216 q216
        cases e216
        replace hx216_0 := (cB HB.out hx216_0 :)
        replace hx216_1 := (cB HB.out hx216_1 :)
        replace hx216_2 := (cB HB.out hx216_2 :)
        replace hx216_3 := (cB HB.out hx216_3 :)
        replace p216 := eq_true p216
        replace q216 := eq_true q216
        go_wp2_with (first | ((with_reducible refine gate_dst (N := 4) rfl ?_); refine box_event ?hg (N := 4) ?hd (cs := #[.int .i64 0, .int .i64 0, .int .i64 0, .int .i64 0]) (t := 63) ?hr ?_; (case hd => rfl); (case hg => rfl); (case hr => first | (go_simp; done) | (go_simp; rfl)); intro gb217 hg w22 hbox hb; have n0_ := Aside0.mk (below_step bB hb); have n1_ := Aside0.mk (hbox); have n2_ := Aside0.mk ((by rw [hg]; exact (below_size bB) : w.heap.size ≤ gb217)); have n3_ := Aside0.mk ((by rw [hg]; exact (below_size bB) : w.heap.size ≤ gb217)); clear HB; have HB := n0_; have BK217 := n1_; have GW217 := n2_; have GE217 := n3_; clear n0_ n1_ n2_ n3_; clear hb hbox hg; have hcz23_0 : w22.cell? ⟨gb217, 0, none⟩ = some (.int .i64 0) := (blk_cell BK217.out 0).trans rfl; have hcz23_1 : w22.cell? ⟨gb217, 1, none⟩ = some (.int .i64 0) := (blk_cell BK217.out 1).trans rfl; have hcz23_2 : w22.cell? ⟨gb217, 2, none⟩ = some (.int .i64 0) := (blk_cell BK217.out 2).trans rfl; have hcz23_3 : w22.cell? ⟨gb217, 3, none⟩ = some (.int .i64 0) := (blk_cell BK217.out 3).trans rfl; have hfz23_0 := blk_frozen BK217.out 0; have hfz23_1 := blk_frozen BK217.out 1; have hfz23_2 := blk_frozen BK217.out 2; have hfz23_3 := blk_frozen BK217.out 3) | ((with_reducible refine gate_callee (f := 62) rfl ?_); refine goesL_ (some 16) rfl rfl Try.func62 (by kernel_rfl) rfl #[.int .i64 ((rd_T63 l0 x10_1).f0), .int .i64 1, .int .i64 50] rfl aE ?_; (with_reducible refine (impl_within.calls ((rd_T63 l0 x10_1).f0) 1 50 false _ A6.out).mono ?_); rintro e w' ⟨rfl, ⟨nd, rfl⟩⟩; refine ⟨_, rfl, ?_⟩))
        go_ret
        exact ⟨rE, bS⟩
      ·rw [if_neg c5] at H
       exact absurd H (by simp)
     ·rw [if_neg c4] at H
      exact absurd H (by simp)
    ·rw [if_neg c3] at H
     have c3b0 : decide (x10_1 < (l0.length : Int)) = false := decide_eq_false c3
     clear c3
     obtain rfl := Option.some.inj H
     go_wp2
     go_ret
     exact ⟨rE, bB⟩

/-! ### impl_isPlain: function 114 -/
def impl_isPlain.l0 : Nat → List (S63) → Int → Int → Option (Bool)
 | 0, _, _, _ => none
 | k + 1, x5, x6, x7 => if x7 < x6 then (if 0 ≤ x7 then (if x7 < (x5.length : Int) then (if ((rd_T63 x5 x7).f2) = 0 then (impl_isPlain.l0 k x5 x6 (wrap64 (x7 + 1))) else (some false)) else (none)) else (none)) else (some true)
def impl_isPlain.f (k : Nat) (l0 : List (S63)) : Option (Bool) := impl_isPlain.l0 k l0 (l0.length : Int) 0
theorem impl_isPlain.mono_l : ∀ k, (∀ y0 y1 y2, LeO (impl_isPlain.l0 k y0 y1 y2) (impl_isPlain.l0 (k + 1) y0 y1 y2))
 | 0 => fun _ _ _ r h => by simp [impl_isPlain.l0] at h
 | k + 1 => by
  have ih0 := impl_isPlain.mono_l k
  ·intro y0 y1 y2
   unfold impl_isPlain.l0
   repeat' first
   | (with_reducible exact ih0 _ _ _)
   | (with_reducible exact LeO.refl _)
   | (with_reducible exact LeO.none _)
   | (with_reducible refine LeO.ite ?_ ?_)
   | (with_reducible refine LeO.bind ?_ (fun _ => ?_))
   | exact ih0 _ _ _
   | exact LeO.none _
   | refine LeO.ite ?_ ?_
   | refine LeO.bind ?_ (fun _ => ?_)
theorem impl_isPlain.mono : ∀ a0 k, LeO (impl_isPlain.f k a0) (impl_isPlain.f (k + 1) a0) := by
 intro a0 k
 have ih0 := impl_isPlain.mono_l k
 unfold impl_isPlain.f
 repeat' first
   | (with_reducible exact ih0 _ _ _)
   | (with_reducible exact LeO.refl _)
   | (with_reducible exact LeO.none _)
   | (with_reducible refine LeO.ite ?_ ?_)
   | (with_reducible refine LeO.bind ?_ (fun _ => ?_))
   | exact ih0 _ _ _
   | exact LeO.none _
   | refine LeO.ite ?_ ?_
   | refine LeO.bind ?_ (fun _ => ?_)
set_option maxHeartbeats 8000000 in
set_option maxRecDepth 100000 in
theorem impl_isPlain.calls (k : Nat) (A0 : Option Addr) (c0 : Nat) (l0 : List (S63)) (r : Bool) (w : World) (hr0 : Kd.C k63 w A0 l0.length l0) (hc0 : l0.length ≤ c0) (h : impl_isPlain.f k l0 = some r) :
  Calls Try.prog 114 #[.slice A0 l0.length c0] w fun e w' => e = .returned (.bool r) ∧ Below w.heap.size w w' := by
 have hu63 := Try.underlying63
 have HR0 := Aside0.mk hr0
 have HC0 := Aside0.mk hc0
 clear hr0 hc0
 have HB := Aside0.mk (Below.refl w.heap.size w)
 have H : (impl_isPlain.l0 k l0 (l0.length : Int) 0) = some r := h
 clear h
 have H' := Aside0.mk H
 clear H
 go_enter Try.func114, Try.ntmps114
 go_wp2
 go_loopg [7] k (fun kq v7 w' => ∃ (x7_1 : Int), v7 = .int .i64 x7_1 ∧ Aside0 (impl_isPlain.l0 kq l0 (l0.length : Int) x7_1 = some r) ∧ Aside0 (kq ≤ k) ∧ Aside0 (Below w.heap.size w w'))
 case atStart => exact ⟨(0), (by first | rfl | (simp; done) | (simp [*]; done)), H', ⟨Nat.le_refl _⟩, ⟨by repeat (first | (with_reducible first | exact HB.out | apply below_alloc | apply pw_below_drewN | apply below_drew1) | exact HB.out)⟩⟩
 case round =>
  clear H'
  try clear c1
  obtain ⟨x7_1, rfl, HA, HK1, HB⟩ := hrel
  cases gk with
  | zero => exact absurd HA.out (by simp [impl_isPlain.l0])
  | succ k1 =>
   have H := HA.out
   clear HA
   simp only [impl_isPlain.l0] at H
   by_cases c2 : x7_1 < (l0.length : Int)
   ·rw [if_pos c2] at H
    have c2b0 : decide (x7_1 < (l0.length : Int)) = true := decide_eq_true c2
    clear c2
    by_cases c3 : 0 ≤ x7_1
    ·rw [if_pos c3] at H
     have c3b0 : decide (0 ≤ x7_1) = true := decide_eq_true c3
     clear c3
     by_cases c4 : x7_1 < (l0.length : Int)
     ·rw [if_pos c4] at H
      have c4b0 : decide (x7_1 < (l0.length : Int)) = true := decide_eq_true c4
      clear c4
      by_cases c5 : ((rd_T63 l0 x7_1).f2) = 0
      ·rw [if_pos c5] at H
       have c5b0 : (((rd_T63 l0 x7_1).f2) == 0) = true := beq_iff_eq.mpr c5
       have c5b1 : (((rd_T63 l0 x7_1).f2) != 0) = false := bne_eq_false_iff_eq.mpr c5
       clear c5
       have H' := Aside0.mk H
       clear H
       have p222 : 0 ≤ (x7_1 : Int) := oD
       have q222 : x7_1 < (l0.length : Int) := oD
       obtain ⟨ad222, e222, hx222_0, hx222_1, hx222_2, hx222_3⟩ := at_T63 HR0.out x7_1 p222 q222
       cases e222
       replace hx222_0 := (cB HB.out hx222_0 :)
       replace hx222_1 := (cB HB.out hx222_1 :)
       replace hx222_2 := (cB HB.out hx222_2 :)
       replace hx222_3 := (cB HB.out hx222_3 :)
       replace p222 := eq_true p222
       replace q222 := eq_true q222
       go_wp2_with (first | ((with_reducible refine gate_dst (N := 4) rfl ?_); refine box_event ?hg (N := 4) ?hd (cs := #[.int .i64 0, .int .i64 0, .int .i64 0, .int .i64 0]) (t := 63) ?hr ?_; (case hd => rfl); (case hg => rfl); (case hr => first | (go_simp; done) | (go_simp; rfl)); intro gb223 hg w6 hbox hb; have n0_ := Aside0.mk (below_step bB hb); have n1_ := Aside0.mk (hbox); have n2_ := Aside0.mk ((by rw [hg]; exact (below_size bB) : w.heap.size ≤ gb223)); have n3_ := Aside0.mk ((by rw [hg]; exact (below_size bB) : w.heap.size ≤ gb223)); clear HB; have HB := n0_; have BK223 := n1_; have GW223 := n2_; have GE223 := n3_; clear n0_ n1_ n2_ n3_; clear hb hbox hg; have hcz7_0 : w6.cell? ⟨gb223, 0, none⟩ = some (.int .i64 0) := (blk_cell BK223.out 0).trans rfl; have hcz7_1 : w6.cell? ⟨gb223, 1, none⟩ = some (.int .i64 0) := (blk_cell BK223.out 1).trans rfl; have hcz7_2 : w6.cell? ⟨gb223, 2, none⟩ = some (.int .i64 0) := (blk_cell BK223.out 2).trans rfl; have hcz7_3 : w6.cell? ⟨gb223, 3, none⟩ = some (.int .i64 0) := (blk_cell BK223.out 3).trans rfl; have hfz7_0 := blk_frozen BK223.out 0; have hfz7_1 := blk_frozen BK223.out 1; have hfz7_2 := blk_frozen BK223.out 2; have hfz7_3 := blk_frozen BK223.out 3))
       go_roundg k1
       case measure => have := HK1.out; omega
       case rel => exact ⟨(wrap64 (x7_1 + 1)), (by first | rfl | (simp; done) | (simp [*]; done)), H', ⟨by have := HK1.out; omega⟩, ⟨by repeat (first | (with_reducible first | exact HB.out | apply below_alloc | apply pw_below_drewN | apply below_drew1 | refine below_set ?_ GE223.out) | exact HB.out)⟩⟩
      ·rw [if_neg c5] at H
       have c5b0 : (((rd_T63 l0 x7_1).f2) == 0) = false := beq_eq_false_iff_ne.mpr c5
       have c5b1 : (((rd_T63 l0 x7_1).f2) != 0) = true := bne_iff_ne.mpr c5
       obtain rfl := Option.some.inj H
       have p222 : 0 ≤ (x7_1 : Int) := oD
       have q222 : x7_1 < (l0.length : Int) := oD
       obtain ⟨ad222, e222, hx222_0, hx222_1, hx222_2, hx222_3⟩ := at_T63 HR0.out x7_1 p222 q222
       cases e222
       replace hx222_0 := (cB HB.out hx222_0 :)
       replace hx222_1 := (cB HB.out hx222_1 :)
       replace hx222_2 := (cB HB.out hx222_2 :)
       replace hx222_3 := (cB HB.out hx222_3 :)
       replace p222 := eq_true p222
       replace q222 := eq_true q222
       go_wp2_with (first | ((with_reducible refine gate_dst (N := 4) rfl ?_); refine box_event ?hg (N := 4) ?hd (cs := #[.int .i64 0, .int .i64 0, .int .i64 0, .int .i64 0]) (t := 63) ?hr ?_; (case hd => rfl); (case hg => rfl); (case hr => first | (go_simp; done) | (go_simp; rfl)); intro gb223 hg w8 hbox hb; have n0_ := Aside0.mk (below_step bB hb); have n1_ := Aside0.mk (hbox); have n2_ := Aside0.mk ((by rw [hg]; exact (below_size bB) : w.heap.size ≤ gb223)); have n3_ := Aside0.mk ((by rw [hg]; exact (below_size bB) : w.heap.size ≤ gb223)); clear HB; have HB := n0_; have BK223 := n1_; have GW223 := n2_; have GE223 := n3_; clear n0_ n1_ n2_ n3_; clear hb hbox hg; have hcz9_0 : w8.cell? ⟨gb223, 0, none⟩ = some (.int .i64 0) := (blk_cell BK223.out 0).trans rfl; have hcz9_1 : w8.cell? ⟨gb223, 1, none⟩ = some (.int .i64 0) := (blk_cell BK223.out 1).trans rfl; have hcz9_2 : w8.cell? ⟨gb223, 2, none⟩ = some (.int .i64 0) := (blk_cell BK223.out 2).trans rfl; have hcz9_3 : w8.cell? ⟨gb223, 3, none⟩ = some (.int .i64 0) := (blk_cell BK223.out 3).trans rfl; have hfz9_0 := blk_frozen BK223.out 0; have hfz9_1 := blk_frozen BK223.out 1; have hfz9_2 := blk_frozen BK223.out 2; have hfz9_3 := blk_frozen BK223.out 3))
       go_ret
       exact ⟨rE, bS⟩
     ·rw [if_neg c4] at H
      exact absurd H (by simp)
    ·rw [if_neg c3] at H
     exact absurd H (by simp)
   ·rw [if_neg c2] at H
    have c2b0 : decide (x7_1 < (l0.length : Int)) = false := decide_eq_false c2
    clear c2
    obtain rfl := Option.some.inj H
    go_wp2
    go_ret
    exact ⟨rE, bB⟩

/-! ### impl_IsPlain: function 61 -/
def impl_IsPlain.f (k : Nat) (l0 : List (S63)) : Option (Bool) := (impl_IsJobs.f k l0).bind fun t224 => (if t224 = true then ((impl_isPlain.f k l0).bind fun t225 => (some t225)) else (some false))
theorem impl_IsPlain.mono : ∀ a0 k, LeO (impl_IsPlain.f k a0) (impl_IsPlain.f (k + 1) a0) := by
 intro a0 k
 unfold impl_IsPlain.f
 repeat' first
   | (with_reducible exact impl_IsJobs.mono _ _)
   | (with_reducible exact impl_isPlain.mono _ _)
   | (with_reducible exact LeO.refl _)
   | (with_reducible exact LeO.none _)
   | (with_reducible refine LeO.ite ?_ ?_)
   | (with_reducible refine LeO.bind ?_ (fun _ => ?_))
   | exact impl_IsJobs.mono _ _
   | exact impl_isPlain.mono _ _
   | exact LeO.none _
   | refine LeO.ite ?_ ?_
   | refine LeO.bind ?_ (fun _ => ?_)
set_option maxHeartbeats 8000000 in
set_option maxRecDepth 100000 in
theorem impl_IsPlain.calls (k : Nat) (A0 : Option Addr) (c0 : Nat) (l0 : List (S63)) (r : Bool) (w : World) (hr0 : Kd.C k63 w A0 l0.length l0) (hc0 : l0.length ≤ c0) (h : impl_IsPlain.f k l0 = some r) :
  Calls Try.prog 61 #[.slice A0 l0.length c0] w fun e w' => e = .returned (.bool r) ∧ Below w.heap.size w w' := by
 have HR0 := Aside0.mk hr0
 have HC0 := Aside0.mk hc0
 clear hr0 hc0
 have HB := Aside0.mk (Below.refl w.heap.size w)
 have H : ((impl_IsJobs.f k l0).bind fun t224 => (if t224 = true then ((impl_isPlain.f k l0).bind fun t225 => (some t225)) else (some false))) = some r := h
 clear h
 replace H := Option.bind_eq_some_iff.mp H
 obtain ⟨t224, A20, H⟩ := H
 replace H : (if t224 = true then ((impl_isPlain.f k l0).bind fun t225 => (some t225)) else (some false)) = some r := H
 have A2 := Aside0.mk A20
 clear A20
 by_cases c3 : t224 = true
 ·subst c3
  have H1 : ((impl_isPlain.f k l0).bind fun t225 => (some t225)) = some r := by rw [if_pos rfl] at H; exact H
  clear H
  have H := H1
  clear H1
  replace H := Option.bind_eq_some_iff.mp H
  obtain ⟨t225, A40, H⟩ := H
  replace H : (some t225) = some r := H
  have A4 := Aside0.mk A40
  clear A40
  obtain rfl := Option.some.inj H
  go_enter Try.func61, Try.ntmps61
  go_wp2_with (first | ((with_reducible refine gate_callee (f := 88) rfl ?_); refine goesL_ (some 4) rfl rfl Try.func88 (by kernel_rfl) rfl #[.slice A0 l0.length c0] rfl aE ?_; (with_reducible refine (impl_IsJobs.calls k _ _ l0 true _ ?side1 ?side2 A2.out).mono ?_); (case side1 => repeat (first | exact HR0.out | (with_reducible refine Kd.C_alloc ?_ _) | (with_reducible refine Kd.C_drewN ?_ _) | (with_reducible refine Kd.C_drew ?_))); (case side2 => exact HC0.out); rintro e w5 ⟨rfl, hb⟩; refine ⟨_, rfl, ?_⟩; have n0_ := Aside0.mk (below_step bB hb); clear HB; have HB := n0_; clear n0_; (try clear hb); (try clear hb2); (try clear hk); (try clear hi)) | (go_at_call 114; (with_reducible refine (impl_isPlain.calls k _ _ l0 t225 _ ?side1 ?side2 A4.out).mono ?_); (case side1 => repeat (first | exact (Kd.C_below HR0.out HB.out) | (with_reducible refine Kd.C_alloc ?_ _) | (with_reducible refine Kd.C_drewN ?_ _) | (with_reducible refine Kd.C_drew ?_))); (case side2 => exact HC0.out); rintro e w6 ⟨rfl, hb⟩; have n0_ := Aside0.mk (below_step bB hb); clear HB; have HB := n0_; clear n0_; (try clear hb); (try clear hb2); (try clear hk); (try clear hi)))
  go_ret
  exact ⟨rE, bB⟩
 ·replace c3 := Bool.eq_false_iff.mpr c3
  subst c3
  have H1 : (some false) = some r := by rw [if_neg (show ¬ (false = true) by decide)] at H; exact H
  clear H
  have H := H1
  clear H1
  obtain rfl := Option.some.inj H
  go_enter Try.func61, Try.ntmps61
  go_wp2_with (first | ((with_reducible refine gate_callee (f := 88) rfl ?_); refine goesL_ (some 4) rfl rfl Try.func88 (by kernel_rfl) rfl #[.slice A0 l0.length c0] rfl aE ?_; (with_reducible refine (impl_IsJobs.calls k _ _ l0 false _ ?side1 ?side2 A2.out).mono ?_); (case side1 => repeat (first | exact HR0.out | (with_reducible refine Kd.C_alloc ?_ _) | (with_reducible refine Kd.C_drewN ?_ _) | (with_reducible refine Kd.C_drew ?_))); (case side2 => exact HC0.out); rintro e w7 ⟨rfl, hb⟩; refine ⟨_, rfl, ?_⟩; have n0_ := Aside0.mk (below_step bB hb); clear HB; have HB := n0_; clear n0_; (try clear hb); (try clear hb2); (try clear hk); (try clear hi)))
  go_ret
  exact ⟨rE, bB⟩

-- NOT PRINTED: function 115 (impl_sortedBy)

/-! ### impl_onTime_1: function 116 -/
def impl_onTime_1.f (a0 : Int) (a1 : Int) (l2 : List (S63)) : Option (Bool) := if 0 ≤ a0 then (if a0 < (l2.length : Int) then (if 0 ≤ a1 then (if a1 < (l2.length : Int) then (some (decide (((rd_T63 l2 a0).f3) < ((rd_T63 l2 a1).f3)))) else (none)) else (none)) else (none)) else (none)
set_option maxHeartbeats 8000000 in
set_option maxRecDepth 100000 in
theorem impl_onTime_1.calls {gb226 : Nat} (a0 : Int) (a1 : Int) (A2 : Option Addr) (c2 : Nat) (l2 : List (S63)) (r : Bool) (w : World) (hr2 : Kd.C k63 w A2 l2.length l2) (hc2 : l2.length ≤ c2) (hb226 : w.heap[gb226]? = some (.cells #[.slice A2 l2.length c2] 26 (0, 0))) (h : impl_onTime_1.f a0 a1 l2 = some r) :
  Calls Try.prog 116 #[.int .i64 a0, .int .i64 a1, .pointer (some ⟨gb226, 0, none⟩)] w fun e w' => e = .returned (.bool r) ∧ Drawn0 w w' := by
 have HR2 := Aside0.mk hr2
 have HC2 := Aside0.mk hc2
 clear hr2 hc2
 have BK226 := Aside0.mk hb226
 clear hb226
 have H : (if 0 ≤ a0 then (if a0 < (l2.length : Int) then (if 0 ≤ a1 then (if a1 < (l2.length : Int) then (some (decide (((rd_T63 l2 a0).f3) < ((rd_T63 l2 a1).f3)))) else (none)) else (none)) else (none)) else (none)) = some r := h
 clear h
 by_cases c4 : 0 ≤ a0
 ·rw [if_pos c4] at H
  have c4b0 : decide (0 ≤ a0) = true := decide_eq_true c4
  clear c4
  by_cases c5 : a0 < (l2.length : Int)
  ·rw [if_pos c5] at H
   have c5b0 : decide (a0 < (l2.length : Int)) = true := decide_eq_true c5
   clear c5
   by_cases c6 : 0 ≤ a1
   ·rw [if_pos c6] at H
    have c6b0 : decide (0 ≤ a1) = true := decide_eq_true c6
    clear c6
    by_cases c7 : a1 < (l2.length : Int)
    ·rw [if_pos c7] at H
     have c7b0 : decide (a1 < (l2.length : Int)) = true := decide_eq_true c7
     clear c7
     obtain rfl := Option.some.inj H
     have hcz8_0 : w.cell? ⟨gb226, 0, none⟩ = some (.slice A2 l2.length c2) := (blk_cell BK226.out 0).trans rfl
     have hfz8_0 := blk_frozen BK226.out 0
     have p227 : 0 ≤ (a0 : Int) := oD
     have q227 : a0 < (l2.length : Int) := oD
     obtain ⟨ad227, e227, hx227_0, hx227_1, hx227_2, hx227_3⟩ := at_T63 HR2.out a0 p227 q227
     cases e227
     replace p227 := eq_true p227
     replace q227 := eq_true q227
     have p228 : 0 ≤ (a1 : Int) := oD
     have q228 : a1 < (l2.length : Int) := oD
     obtain ⟨ad228, e228, hx228_0, hx228_1, hx228_2, hx228_3⟩ := at_T63 HR2.out a1 p228 q228
     obtain rfl : ad227 = ad228 := (by injection e228)
     replace p228 := eq_true p228
     replace q228 := eq_true q228
     go_enter Try.func116, Try.ntmps116
     go_wp2
     repeat (go_quiet (fail); try go_wp2)
     go_ret
     exact ⟨by first | rfl | (simp; done) | (simp [*]; done), by repeat (first | exact Drawn0.refl _ | apply Drawn0.step)⟩
    ·rw [if_neg c7] at H
     exact absurd H (by simp)
   ·rw [if_neg c6] at H
    exact absurd H (by simp)
  ·rw [if_neg c5] at H
   exact absurd H (by simp)
 ·rw [if_neg c4] at H
  exact absurd H (by simp)

/-! ### sortedBy: words -/
theorem encs_drop {α : Type} (enc : α → Value) (xs : List α) (i : Nat) : encs enc (xs.drop i) = (encs enc xs).drop i := by simp [encs, List.map_drop]
theorem encs_take {α : Type} (enc : α → Value) (xs : List α) (i : Nat) : encs enc (xs.take i) = (encs enc xs).take i := by simp [encs, List.map_take]
/-- copy(v[i:], v[j:]) of a row of one's own. -/
theorem R_shift {α : Type} {P : Program} {enc : α → Value} {h1 : ∀ x, (enc x).oneCell' = true} (d : α) {W : World} {base : Nat} {ok : Nat → Prop} {g n cap : Nat} {xs : List α} {e t t' ty : TypeId} (ht : P.underlying t = some (.slice e)) (hinfo : (P.info? e).map (·.size) = some 1)
    (HO : (Kd.scalar enc h1).R e W base ok (.slice (some ⟨g, 0, none⟩) n cap) xs) (i j k dc sc : Nat) (hi : i + k ≤ n) (hj : j + k ≤ n) (hk : k = min (n - j) (n - i)) (A B : Option Addr) (hA : 0 < k → A = some ⟨g, i, none⟩) (hB : 0 < k → B = some ⟨g, j, none⟩) :
    ∃ w1, (Builtin.copy_ #[t, t'] ty #[.slice A (n - i) dc, .slice B (n - j) sc]).run P W = .ok (.int .i64 (k : Int)) w1 ∧
      (Kd.scalar enc h1).R e w1 base ok (.slice (some ⟨g, 0, none⟩) n cap) (xs.take i ++ (xs.drop j).take k ++ xs.drop (i + k)) ∧ W.grownBy w1 (some g) := by
  obtain ⟨hn, hcapn, _⟩ := Kd.R_reads' HO
  rcases Nat.eq_zero_or_pos k with h0 | hp
  · refine ⟨W, ?_, ?_, World.grownBy.refl W _⟩
    · have hz := run_copy_none (P := P) W t t' ty e A B (n - i) dc (n - j) sc ht hinfo (by have h_ : Nat.min (n - j) (n - i) = min (n - j) (n - i) := rfl; omega)
      rw [hz, h0]; rfl
    · subst h0
      simpa using HO
  · have hown := Kd.own_of_R HO
    rcases hown.2 with ⟨he, hx0⟩ | ⟨g', cap', cur, hv, hb, hh, hnc, hcm, hcs, htake⟩
    · cases he
    · obtain ⟨rfl, rfl⟩ : g' = g ∧ cap' = cap := by injection hv with a b c; injection a with a; injection a with a; exact ⟨a.symm, c.symm⟩
      have htk : cur.toList.take xs.length = encs enc xs := by rw [← htake, Nat.mul_one]
      have hkl : (encs enc ((xs.drop j).take k)).length = k := by rw [encs_length, List.length_take, List.length_drop]; omega
      have hsrc : ∀ q u, (encs enc ((xs.drop j).take k))[q]? = some u → W.cell? ((⟨g', j, none⟩ : Addr).add q) = some u := by
        intro q u hu
        have hq : q < k := by
          rcases Nat.lt_or_ge q k with h | h
          · exact h
          · rw [List.getElem?_eq_none (by omega)] at hu; cases hu
        rw [show (⟨g', j, none⟩ : Addr).add q = ⟨g', j + q, none⟩ by unfold Addr.add; simp, cell_of_row W g' _ cur e (0, 0) hh]
        rw [encs_take, encs_drop, ← htk] at hu
        rw [List.getElem?_take_of_lt hq, List.getElem?_drop, List.getElem?_take_of_lt (by omega)] at hu
        simpa using hu
      have hr := run_copy_cells (P := P) W t t' ty e g' i (n - i) dc ⟨g', j, none⟩ (n - j) sc (encs enc ((xs.drop j).take k)) ht hinfo (by rw [hkl, hk]) hsrc
        (fun q hq => by rw [cell_of_row W g' _ cur e (0, 0) hh]; simp; omega) (fun q _ => blk_frozen hh _) (by intro u hu; simp only [encs, List.mem_map] at hu; obtain ⟨q, _, rfl⟩ := hu; exact h1 q)
      obtain ⟨cur', h3, h4, h5⟩ := setCells_row (encs enc ((xs.drop j).take k)) i W cur hh (by rw [hkl]; omega)
      obtain ⟨s1, s2, s3, s4⟩ := setCells_same g' (encs enc ((xs.drop j).take k)) i W
      refine ⟨_, by rw [hA hp, hB hp, hr, hkl]; exact rfl, Kd.R_of_own ?_ HO.1, ⟨s1, s2, s3, by rw [s4]; exact Nat.le_refl _, fun q _ hq => setCells_far _ _ q (fun he => hq (by rw [he]))⟩⟩
      have hln : (xs.take i ++ (xs.drop j).take k ++ xs.drop (i + k)).length = xs.length := by
        simp only [List.length_append, List.length_take, List.length_drop]
        omega
      rw [hln]
      refine ⟨by rw [encs_length, hln, Nat.mul_one], .inr ⟨g', cap', cur', by rw [hn], hb, h3, by omega, hcm, by rw [h4, hcs], ?_⟩⟩
      rw [h5, hkl, Nat.mul_one, encs_append, encs_append, encs_take, encs_drop, ← htk]
      have e1 : (cur.toList.take xs.length).take i = cur.toList.take i := by rw [List.take_take, Nat.min_eq_left (by omega)]
      have e2 : (cur.toList.take xs.length).drop (i + k) = (cur.toList.drop (i + k)).take (xs.length - (i + k)) := by rw [List.drop_take]
      have hcl : xs.length ≤ cur.toList.length := by have h_ : cur.toList.length = cur.size := Array.length_toList; omega
      rw [encs_take, encs_drop, ← htk, e1, e2]
      have l1 : (cur.toList.take i ++ ((cur.toList.take xs.length).drop j).take k).length = i + k := by
        simp only [List.length_append, List.length_take, List.length_drop]; omega
      rw [List.take_append, l1, List.take_of_length_le (by omega)]

/-- Where a number goes among numbers that are sorted by a test. -/
def sbK (p : Int → Option Bool) (o : List Int) : Nat → Option Nat
  | 0 => some 0
  | k + 1 => (p (rd o k)).bind fun b => if b = true then sbK p o k else some (k + 1)
/-- Numbers sorted by insertion. -/
def sbL (p : Int → Int → Option Bool) : List Int → List Int → Option (List Int)
  | [], o => some o
  | i :: t, o => (sbK (p i) o o.length).bind fun m => sbL p t (o.take m ++ i :: o.drop m)
theorem sbK_le {p : Int → Option Bool} {o : List Int} : ∀ (n : Nat) {m : Nat}, sbK p o n = some m → m ≤ n
  | 0, m, h => by simp only [sbK, Option.some.injEq] at h; omega
  | n + 1, m, h => by
    simp only [sbK] at h
    cases hp : p (rd o (n : Int)) with
    | none => rw [hp] at h; simp at h
    | some b =>
      rw [hp] at h
      cases b with
      | true => have := sbK_le n (show sbK p o n = some m by simpa using h); omega
      | false => simp at h; omega
theorem sb_shift' (a b : List Int) (i : Int) : ((((a ++ (b ++ [0])).take (a.length + 1) ++ ((a ++ (b ++ [0])).drop a.length).take b.length ++ (a ++ (b ++ [0])).drop (a.length + 1 + b.length))).set a.length i) = a ++ i :: b := by
  have e1 : (a ++ (b ++ [0])).take (a.length + 1) = a ++ [(b ++ [0]).head (by simp)] := by
    rw [List.take_append]
    simp
    cases b <;> simp [List.take_of_length_le]
  have e2 : ((a ++ (b ++ [0])).drop a.length).take b.length = b := by
    rw [List.drop_left]
    simp
  have e3 : (a ++ (b ++ [0])).drop (a.length + 1 + b.length) = [] := by
    apply List.drop_eq_nil_of_le
    simp; omega
  rw [e1, e2, e3]
  simp
theorem sb_shift (o : List Int) (m : Nat) (i : Int) (hm : m ≤ o.length) : (((o ++ [0]).take (m + 1) ++ ((o ++ [0]).drop m).take (o.length - m) ++ (o ++ [0]).drop (m + 1 + (o.length - m))).set m i) = o.take m ++ i :: o.drop m := by
  have h1 : (o.take m).length = m := by rw [List.length_take]; omega
  have h2 : (o.drop m).length = o.length - m := by rw [List.length_drop]
  have h := sb_shift' (o.take m) (o.drop m) i
  rw [h1, h2, ← List.append_assoc, List.take_append_drop] at h
  exact h
theorem sb_copy {P : Program} {oi : Oper} {a : Act} {w w1 : World} {v u u' : Value} {s x : Operand} {t t' : TypeId} (hop : oi.op = .call { callee := .builtin .copy, args := #[s, x], argTypes := #[t, t'] }) (hs : a.eval s = u) (hx : a.eval x = u') (hr : (Builtin.copy_ #[t, t'] oi.type #[u, u']).run P w = .ok v w1) : (execOp a.eval oi).run P w = .ok (.value v) w1 := by
  unfold execOp
  simp only [hop, resolve, invoke, builtin, Sem.run_bind, Sem.run_pure, Result.andThen_ok, List.map_toArray, List.map_cons, List.map_nil, hs, hx, hr]
def sb_T9 : Bool × List (List Nat × List Nat) := (true, [([], []), ([], []), ([1], [1]), ([0, 2], [0, 2]), ([], []), ([], []), ([4, 5], [4, 5]), ([3, 6], [3, 6])])
def sb_B9 : List Nat := [0, 0, 2, 7, 0, 0, 48, 127]
theorem sb_tab9 : rtab .any (opsOf Try.f115 9) = sb_T9 := by kernel_rfl
theorem sb_bits9 : waitsOk sb_T9.2 sb_B9 = true := by kernel_rfl

/-! ### sortedBy by impl_onTime_1 -/
set_option maxHeartbeats 8000000 in
set_option maxRecDepth 100000 in
theorem sb_calls_116 (q0 : Value) (A0 : Option Addr) (c0 : Nat) (l0 : List Int) (r : List Int) (w : World) (hr0 : Kd.C (Kd.int .i64) w A0 l0.length l0) (hc0 : l0.length ≤ c0) (p : Int → Int → Option Bool)
    (hcl : ∀ (a b : Int) (t : Bool) (w' : World), Below w.heap.size w w' → p a b = some t → Calls Try.prog 116 #[.int .i64 a, .int .i64 b, q0] w' fun e w'' => e = .returned (.bool t) ∧ Below w'.heap.size w' w'')
    (hlen : l0.length < 17592186044416) (h : sbL p l0 [] = some r) : Calls Try.prog 115 #[.slice A0 l0.length c0, .func (.func 116) #[] #[q0]] w fun e w' => ∃ v0_ : Value, e = .returned (v0_) ∧ Kd.R (Kd.int .i64) 3 w' w.heap.size (fun _ => True) v0_ r ∧ Below w.heap.size w w' := by
 have HR0 := Aside0.mk hr0
 have HC0 := Aside0.mk hc0
 clear hr0 hc0
 have HB := Aside0.mk (Below.refl w.heap.size w)
 have HCL := Aside0.mk hcl
 clear hcl
 have HL := Aside0.mk hlen
 clear hlen
 have H' := Aside0.mk h
 clear h
 go_enter Try.func115, Try.ntmps115
 go_wp2
 go_loopg [5, 11] l0.length (fun kq v5 v11 w' => ∃ (j : Nat) (o : List Int) (x11 : Int), v11 = .int .i64 x11 ∧ Aside0 (x11 = j) ∧ Aside0 (j + kq = l0.length ∧ o.length = j) ∧ Aside0 (sbL p (l0.drop j) o = some r) ∧ Aside0 (Kd.R (Kd.int .i64) 3 w' w.heap.size (fun _ => True) v5 o) ∧ Aside0 (Below w.heap.size w w'))
 case atStart => exact ⟨0, [], 0, rfl, ⟨rfl⟩, ⟨by omega, rfl⟩, H', ⟨Kd.R_nil _ _ _ _ _⟩, ⟨bB⟩⟩
 case round =>
  clear H'
  obtain ⟨j, o, x11, rfl, HJ, HK, H', HO, HB⟩ := hrel
  cases gk with
  | zero =>
   have c0b : decide (x11 < (l0.length : Int)) = false := decide_eq_false (by have := HJ.out; have := HK.out; omega)
   have H := H'.out
   clear H'
   rw [List.drop_eq_nil_of_le (by have := HK.out; omega), sbL] at H
   obtain rfl := Option.some.inj H
   go_wp2
   go_ret
   exact ⟨_, rfl, by (with_reducible repeat (first | apply Kd.R_alloc | apply Kd.R_drewN | apply Kd.R_drew)); exact HO.out, bB⟩
  | succ k1 =>
   have c0b : decide (x11 < (l0.length : Int)) = true := decide_eq_true (by have := HJ.out; have := HK.out; omega)
   have p1 : 0 ≤ x11 := by have := HJ.out; omega
   have q1 : x11 < (l0.length : Int) := by have := HJ.out; have := HK.out; omega
   obtain ⟨ad1, e1, hx1⟩ := Kd.at_int HR0.out x11 p1 q1
   cases e1
   replace hx1 := (cB HB.out hx1 :)
   replace p1 := eq_true p1
   replace q1 := eq_true q1
   obtain ⟨Ao, co, eo⟩ := Kd.R_slice HO.out
   subst eo
   have H := H'.out
   clear H'
   rw [List.drop_eq_getElem_cons (by have := HK.out; omega), sbL] at H
   have hrd : l0[j]'(by have := HK.out; omega) = rd l0 x11 := by have h1 := HJ.out; have h2 := HK.out; subst h1; simp [rd]; rw [List.getElem?_eq_getElem (by omega)]; rfl
   rw [hrd] at H
   clear hrd
   obtain ⟨m, hm, H⟩ := Option.bind_eq_some_iff.mp H
   have HM := Aside0.mk hm
   have H' := Aside0.mk H
   clear H hm
   go_wp2
   go_loopg [8] o.length (fun kq v8 w' => ∃ (x8 : Int), v8 = .int .i64 x8 ∧ Aside0 (x8 = (kq : Nat)) ∧ Aside0 (kq ≤ o.length) ∧ Aside0 (sbK (p (rd l0 x11)) o kq = some m) ∧ Aside0 (Kd.R (Kd.int .i64) 3 w' w.heap.size (fun _ => True) (.slice Ao o.length co) o) ∧ Aside0 (Below w.heap.size w w'))
   case atStart => exact ⟨(o.length : Int), (by first | rfl | (simp; done)), ⟨rfl⟩, ⟨Nat.le_refl _⟩, HM, ⟨by (with_reducible repeat (first | apply Kd.R_alloc | apply Kd.R_drewN | apply Kd.R_drew)); exact HO.out⟩, ⟨bB⟩⟩
   case round =>
    clear HM HO
    obtain ⟨x8, rfl, HX, HQ, HM, HO, HB⟩ := hrel
    cases gk with
    | zero =>
     have c1 : decide (0 < x8) = false := decide_eq_false (by have := HX.out; omega)
     have H := HM.out
     clear HM
     simp only [sbK, Option.some.injEq] at H
     have HM1 := Aside0.mk (show (m : Int) = x8 by have := HX.out; omega)
     clear H
     obtain ⟨hx, hm_⟩ : x8 = (m : Int) ∧ m ≤ o.length := ⟨by have := HX.out; have := HM1.out; omega, by have h1 := HM1.out; have h2 := HX.out; have h3 := HQ.out; omega⟩
     have HX2 := Aside0.mk (And.intro hx hm_)
     clear hx hm_
     have LM := Aside0.mk (show o.length < 17592186044416 by have := HL.out; have := HK.out; omega)
     go_wp2_with (first | ((with_reducible refine gate_builtin (b := .append) (xs := #[.tmp 31, .tmp 32]) rfl ?_); at_builtin; refine Kd.R_append (Kd.int .i64) (w0 := w) w.heap.size rfl (.tmp 31) (.tmp 32) 39 3 (.int .i64 0) 8 rfl Try.underlying39 info3 rfl (by decide) (by omega) (.slice Ao o.length co) o 0 [.int .i64 0] (fun _ => True) (fun _ => False) rfl rfl ?aP (fun _ hk => hk.elim) ?aF ?aO ?aB ?aS ?aL ?_; (case aP => exact rfl); (case aB => exact bB); (case aF => exact (fun _ _ => trivial)); (case aO => exact (by (with_reducible repeat (first | apply Kd.R_alloc | apply Kd.R_drewN | apply Kd.R_drew)); exact HO.out)); (case aS => exact (below_size bB)); (case aL => have := LM.out; omega); intro v5 w8 ho hb hg hat; have n0_ := Aside0.mk (hb); have n1_ := Aside0.mk (ho); clear HB; clear HO; have HB := n0_; have HO := n1_; clear n0_ n1_; clear ho hb hg hat))
     obtain ⟨go, cp, eo, gb, gl, cl, HG⟩ := Kd.R_form HO.out (by rw [List.length_append]; simp)
     (first | subst eo | cases eo)
     have GB := Aside0.mk gb
     clear gb gl HG cl
     have hw1 : wrap64 (x8 + 1) = ((m + 1 : Nat) : Int) := by have h1 := HX2.out; have h4 := LM.out; unfold wrap64; omega
     have p4 : 0 ≤ wrap64 (x8 + 1) := by omega
     have q4 : wrap64 (x8 + 1) ≤ (((o ++ [0]).length : Nat) : Int) := by have h1 := HX2.out; rw [List.length_append, List.length_singleton]; omega
     have p5 : 0 ≤ x8 := by have h1 := HX2.out; omega
     have q5 : x8 ≤ (((o ++ [0]).length : Nat) : Int) := by have h1 := HX2.out; rw [List.length_append, List.length_singleton]; omega
     have q6 : x8 < (((o ++ [0]).length : Nat) : Int) := by have h1 := HX2.out; rw [List.length_append, List.length_singleton]; omega
     have ew1 : (wrap64 (x8 + 1)).toNat = m + 1 := by rw [hw1]; rfl
     have ex8 : x8.toNat = m := by rw [HX2.out.1]; rfl
     have EW := Aside0.mk (And.intro ew1 ex8)
     clear hw1 ew1 ex8
     have ln : (o ++ [0]).length = o.length + 1 := by simp
     have LN := Aside0.mk ln
     clear ln
     generalize hoo : o ++ [0] = oo at *
     have OO := Aside0.mk hoo
     clear hoo
     refine start_ (n := 8) (S := fun w' => True) (ds := [7]) #[false, false, false, false, false, false, false, false] (by kernel_rfl) rfl rfl trivial (fun hHeld => ?_); refine with_tabW sb_tab9 sb_bits9 (fun HT_ HW_ => ?_)
     have n0_ := Aside0.mk (Kd.R_drew HO.out)
     have n1_ := Aside0.mk (below_drew1 HB.out)
     clear HO HB
     have HO := n0_
     have HB := n1_
     clear n0_ n1_
     generalize w8.drew = w9 at HO HB ⊢
     refine pU 0 34 #[true, false, false, false, false, false, false, false] ?_
     refine pU 1 35 #[true, true, false, false, false, false, false, false] ?_
     refine pU 2 36 #[true, true, true, false, false, false, false, false] ?_
     refine pU 4 38 #[true, true, true, false, true, false, false, false] ?_
     refine pU 5 39 #[true, true, true, false, true, true, false, false] ?_
     refine pU 3 37 #[true, true, true, true, true, true, false, false] ?_
     refine pU 6 40 #[true, true, true, true, true, true, true, false] ?_
     refine last_ (i := 7) (N := some 41) #[true, true, true, true, true, true, true, true] rfl rfl (one_of HT_.out (by kernel_rfl)) (by decide) (fun K hK => ?_)
     obtain ⟨w10, hrun, ho, hg⟩ := R_shift (P := Try.prog) (ty := 3) (t' := 39) (0 : Int) Try.underlying39 (by rw [show (Try.prog.info? 3).map (·.size) = some 1 from by kernel_rfl]) HO.out (m + 1) m (o.length - m) (cp - (m + 1)) (cp - m) (by have := HX2.out; have := LN.out; omega) (by have := HX2.out; have := LN.out; omega) (by have := HX2.out; have := LN.out; omega)
       (if cp = m + 1 then some ⟨go, 0, none⟩ else some ⟨go, m + 1, none⟩) (if cp = m then some ⟨go, 0, none⟩ else some ⟨go, m, none⟩) (fun h_ => if_neg (by have h1 := (Kd.R_reads' HO.out).2.1; have := LN.out; omega)) (fun h_ => if_neg (by have h1 := (Kd.R_reads' HO.out).2.1; have := LN.out; omega))
     refine value_ (w1 := w10) (v := .int .i64 ((o.length - m : Nat) : Int)) (by rfl) rfl ?_ ?_
     ·refine sb_copy (s := .tmp 37) (x := .tmp 40) (t := 39) (t' := 39) rfl rfl rfl ?_
      simp only [EW.out.1, EW.out.2]
      exact hrun
     refine hK.out _ _ ?_
     clear hK K
     have n0_ := Aside0.mk ho
     have n1_ := Aside0.mk (HB.out.grown hg (below_size HB.out) (fun k_ e_ => by injection e_ with e_; subst e_; exact GB.out))
     clear HO HB ho hrun hg
     have HO := n0_
     have HB := n1_
     clear n0_ n1_
     have p7 := eq_true p5
     have q7 := eq_true q6
     have hl3 : (oo.take (m + 1) ++ (oo.drop m).take (o.length - m) ++ oo.drop (m + 1 + (o.length - m))).length = oo.length := by have := HX2.out; have := LN.out; simp only [List.length_append, List.length_take, List.length_drop]; omega
     obtain ⟨hx9, hf9⟩ := Kd.R_celln 0 HO.out x8 p5 q6
     have HP := Kd.R_putn HO.out x8 (rd l0 x11)
     have HQ9 := Aside0.mk HP
     clear HP p5 q5 q6 p4 q4
     refine done_ (done_of HT_.out (by kernel_rfl)) ?_
     generalize (if cp = (wrap64 (x8 + 1)).toNat then (some ⟨go, 0, none⟩ : Option Addr) else some ⟨go, (wrap64 (x8 + 1)).toNat, none⟩) = ad37
     generalize (if cp = x8.toNat then (some ⟨go, 0, none⟩ : Option Addr) else some ⟨go, x8.toNat, none⟩) = ad40
     go_wp2
     all_goals (go_roundg k1; (case measure => omega); (case rel => exact ⟨j + 1, o.take m ++ rd l0 x11 :: o.drop m, wrap64 (x11 + 1), (by first | rfl | (simp; done)), ⟨by have h1 := HJ.out; have h2 := HK.out; have h3 := HL.out; unfold wrap64; omega⟩, ⟨by have h2 := HK.out; omega, by have h2 := HK.out; have h4 := HX2.out; simp only [List.length_append, List.length_cons, List.length_take, List.length_drop]; omega⟩, H', ⟨by (with_reducible repeat (first | apply Kd.R_alloc | apply Kd.R_drewN | apply Kd.R_drew)); have h8 := HQ9.out; have e9 := sb_shift o m (rd l0 x11) HX2.out.2; rw [OO.out] at e9; rw [EW.out.2, e9] at h8; rw [EW.out.2]; exact h8⟩, ⟨by repeat (first | (with_reducible first | exact HB.out | apply below_alloc | apply pw_below_drewN | apply below_drew1 | refine below_set ?_ GB.out) | exact HB.out)⟩⟩))
    | succ k2 =>
     have c1 : decide (0 < x8) = true := decide_eq_true (by have := HX.out; omega)
     have hw : wrap64 (x8 - 1) = (k2 : Int) := by have h1 := HX.out; have h2 := HQ.out; have h3 := HK.out; have h4 := HL.out; unfold wrap64; omega
     have p2 : 0 ≤ wrap64 (x8 - 1) := by omega
     have q2 : wrap64 (x8 - 1) < (o.length : Int) := by have h2 := HQ.out; omega
     obtain ⟨ad2, e2, hx2⟩ := Kd.at_int (Kd.R_reads' HO.out).2.2 (wrap64 (x8 - 1)) p2 q2
     cases e2
     have H := HM.out
     clear HM
     rw [sbK, ← hw] at H
     have HW := Aside0.mk hw
     clear hw
     replace p2 := eq_true p2
     replace q2 := eq_true q2
     obtain ⟨b, hb, H⟩ := Option.bind_eq_some_iff.mp H
     have HP := Aside0.mk hb
     have HM := Aside0.mk H
     clear H hb
     cases b with
     | true =>
      go_wp2_with (go_at_call 116; refine (HCL.out (rd l0 x11) (rd o (wrap64 (x8 - 1))) true _ bB HP.out).mono ?_; rintro e w' ⟨rfl, hbz⟩; have n0_ := Aside0.mk (Kd.R_below (by (with_reducible repeat (first | apply Kd.R_alloc | apply Kd.R_drewN | apply Kd.R_drew)); exact HO.out) hbz); have n1_ := Aside0.mk (below_step bB hbz); clear HO HB; have HO := n0_; have HB := n1_; clear n0_ n1_ hbz)
      go_roundg k2
      case measure => omega
      case rel => exact ⟨wrap64 (x8 - 1), (by first | rfl | (simp; done)), ⟨HW.out⟩, ⟨by have := HQ.out; omega⟩, ⟨by have := HM.out; simpa using this⟩, ⟨by (with_reducible repeat (first | apply Kd.R_alloc | apply Kd.R_drewN | apply Kd.R_drew)); exact HO.out⟩, ⟨bB⟩⟩
     | false =>
      have H := HM.out
      clear HM
      simp only [Bool.false_eq_true, if_false, Option.some.injEq] at H
      have HM1 := Aside0.mk (show (m : Int) = x8 by have := HX.out; omega)
      clear H
      obtain ⟨hx, hm_⟩ : x8 = (m : Int) ∧ m ≤ o.length := ⟨by have := HX.out; have := HM1.out; omega, by have h1 := HM1.out; have h2 := HX.out; have h3 := HQ.out; omega⟩
      have HX2 := Aside0.mk (And.intro hx hm_)
      clear hx hm_
      have LM := Aside0.mk (show o.length < 17592186044416 by have := HL.out; have := HK.out; omega)
      go_wp2_with (first | (go_at_call 116; refine (HCL.out (rd l0 x11) (rd o (wrap64 (x8 - 1))) false _ bB HP.out).mono ?_; rintro e w' ⟨rfl, hbz⟩; have n0_ := Aside0.mk (Kd.R_below (by (with_reducible repeat (first | apply Kd.R_alloc | apply Kd.R_drewN | apply Kd.R_drew)); exact HO.out) hbz); have n1_ := Aside0.mk (below_step bB hbz); clear HO HB; have HO := n0_; have HB := n1_; clear n0_ n1_ hbz) | ((with_reducible refine gate_builtin (b := .append) (xs := #[.tmp 31, .tmp 32]) rfl ?_); at_builtin; refine Kd.R_append (Kd.int .i64) (w0 := w) w.heap.size rfl (.tmp 31) (.tmp 32) 39 3 (.int .i64 0) 8 rfl Try.underlying39 info3 rfl (by decide) (by omega) (.slice (some ad2) o.length co) o 0 [.int .i64 0] (fun _ => True) (fun _ => False) rfl rfl ?aP (fun _ hk => hk.elim) ?aF ?aO ?aB ?aS ?aL ?_; (case aP => exact rfl); (case aB => exact bB); (case aF => exact (fun _ _ => trivial)); (case aO => exact (by (with_reducible repeat (first | apply Kd.R_alloc | apply Kd.R_drewN | apply Kd.R_drew)); exact HO.out)); (case aS => exact (below_size bB)); (case aL => have := LM.out; omega); intro v5 w8 ho hb hg hat; have n0_ := Aside0.mk (hb); have n1_ := Aside0.mk (ho); clear HB; clear HO; have HB := n0_; have HO := n1_; clear n0_ n1_; clear ho hb hg hat))
      obtain ⟨go, cp, eo, gb, gl, cl, HG⟩ := Kd.R_form HO.out (by rw [List.length_append]; simp)
      (first | subst eo | cases eo)
      have GB := Aside0.mk gb
      clear gb gl HG cl
      have hw1 : wrap64 (x8 + 1) = ((m + 1 : Nat) : Int) := by have h1 := HX2.out; have h4 := LM.out; unfold wrap64; omega
      have p4 : 0 ≤ wrap64 (x8 + 1) := by omega
      have q4 : wrap64 (x8 + 1) ≤ (((o ++ [0]).length : Nat) : Int) := by have h1 := HX2.out; rw [List.length_append, List.length_singleton]; omega
      have p5 : 0 ≤ x8 := by have h1 := HX2.out; omega
      have q5 : x8 ≤ (((o ++ [0]).length : Nat) : Int) := by have h1 := HX2.out; rw [List.length_append, List.length_singleton]; omega
      have q6 : x8 < (((o ++ [0]).length : Nat) : Int) := by have h1 := HX2.out; rw [List.length_append, List.length_singleton]; omega
      have ew1 : (wrap64 (x8 + 1)).toNat = m + 1 := by rw [hw1]; rfl
      have ex8 : x8.toNat = m := by rw [HX2.out.1]; rfl
      have EW := Aside0.mk (And.intro ew1 ex8)
      clear hw1 ew1 ex8
      have ln : (o ++ [0]).length = o.length + 1 := by simp
      have LN := Aside0.mk ln
      clear ln
      generalize hoo : o ++ [0] = oo at *
      have OO := Aside0.mk hoo
      clear hoo
      refine start_ (n := 8) (S := fun w' => True) (ds := [7]) #[false, false, false, false, false, false, false, false] (by kernel_rfl) rfl rfl trivial (fun hHeld => ?_); refine with_tabW sb_tab9 sb_bits9 (fun HT_ HW_ => ?_)
      have n0_ := Aside0.mk (Kd.R_drew HO.out)
      have n1_ := Aside0.mk (below_drew1 HB.out)
      clear HO HB
      have HO := n0_
      have HB := n1_
      clear n0_ n1_
      generalize w8.drew = w9 at HO HB ⊢
      refine pU 0 34 #[true, false, false, false, false, false, false, false] ?_
      refine pU 1 35 #[true, true, false, false, false, false, false, false] ?_
      refine pU 2 36 #[true, true, true, false, false, false, false, false] ?_
      refine pU 4 38 #[true, true, true, false, true, false, false, false] ?_
      refine pU 5 39 #[true, true, true, false, true, true, false, false] ?_
      refine pU 3 37 #[true, true, true, true, true, true, false, false] ?_
      refine pU 6 40 #[true, true, true, true, true, true, true, false] ?_
      refine last_ (i := 7) (N := some 41) #[true, true, true, true, true, true, true, true] rfl rfl (one_of HT_.out (by kernel_rfl)) (by decide) (fun K hK => ?_)
      obtain ⟨w10, hrun, ho, hg⟩ := R_shift (P := Try.prog) (ty := 3) (t' := 39) (0 : Int) Try.underlying39 (by rw [show (Try.prog.info? 3).map (·.size) = some 1 from by kernel_rfl]) HO.out (m + 1) m (o.length - m) (cp - (m + 1)) (cp - m) (by have := HX2.out; have := LN.out; omega) (by have := HX2.out; have := LN.out; omega) (by have := HX2.out; have := LN.out; omega)
        (if cp = m + 1 then some ⟨go, 0, none⟩ else some ⟨go, m + 1, none⟩) (if cp = m then some ⟨go, 0, none⟩ else some ⟨go, m, none⟩) (fun h_ => if_neg (by have h1 := (Kd.R_reads' HO.out).2.1; have := LN.out; omega)) (fun h_ => if_neg (by have h1 := (Kd.R_reads' HO.out).2.1; have := LN.out; omega))
      refine value_ (w1 := w10) (v := .int .i64 ((o.length - m : Nat) : Int)) (by rfl) rfl ?_ ?_
      ·refine sb_copy (s := .tmp 37) (x := .tmp 40) (t := 39) (t' := 39) rfl rfl rfl ?_
       simp only [EW.out.1, EW.out.2]
       exact hrun
      refine hK.out _ _ ?_
      clear hK K
      have n0_ := Aside0.mk ho
      have n1_ := Aside0.mk (HB.out.grown hg (below_size HB.out) (fun k_ e_ => by injection e_ with e_; subst e_; exact GB.out))
      clear HO HB ho hrun hg
      have HO := n0_
      have HB := n1_
      clear n0_ n1_
      have p7 := eq_true p5
      have q7 := eq_true q6
      have hl3 : (oo.take (m + 1) ++ (oo.drop m).take (o.length - m) ++ oo.drop (m + 1 + (o.length - m))).length = oo.length := by have := HX2.out; have := LN.out; simp only [List.length_append, List.length_take, List.length_drop]; omega
      obtain ⟨hx9, hf9⟩ := Kd.R_celln 0 HO.out x8 p5 q6
      have HP := Kd.R_putn HO.out x8 (rd l0 x11)
      have HQ9 := Aside0.mk HP
      clear HP p5 q5 q6 p4 q4
      refine done_ (done_of HT_.out (by kernel_rfl)) ?_
      generalize (if cp = (wrap64 (x8 + 1)).toNat then (some ⟨go, 0, none⟩ : Option Addr) else some ⟨go, (wrap64 (x8 + 1)).toNat, none⟩) = ad37
      generalize (if cp = x8.toNat then (some ⟨go, 0, none⟩ : Option Addr) else some ⟨go, x8.toNat, none⟩) = ad40
      go_wp2
      all_goals (go_roundg k1; (case measure => omega); (case rel => exact ⟨j + 1, o.take m ++ rd l0 x11 :: o.drop m, wrap64 (x11 + 1), (by first | rfl | (simp; done)), ⟨by have h1 := HJ.out; have h2 := HK.out; have h3 := HL.out; unfold wrap64; omega⟩, ⟨by have h2 := HK.out; omega, by have h2 := HK.out; have h4 := HX2.out; simp only [List.length_append, List.length_cons, List.length_take, List.length_drop]; omega⟩, H', ⟨by (with_reducible repeat (first | apply Kd.R_alloc | apply Kd.R_drewN | apply Kd.R_drew)); have h8 := HQ9.out; have e9 := sb_shift o m (rd l0 x11) HX2.out.2; rw [OO.out] at e9; rw [EW.out.2, e9] at h8; rw [EW.out.2]; exact h8⟩, ⟨by repeat (first | (with_reducible first | exact HB.out | apply below_alloc | apply pw_below_drewN | apply below_drew1 | refine below_set ?_ GB.out) | exact HB.out)⟩⟩))

/-! ### impl_sortedBy_116: a function of its own -/
def impl_sortedBy_116.f (l0 : List (Int)) (l1 : List (S63)) : Option (List Int) := if l0.length < 17592186044416 then sbL (fun a b => impl_onTime_1.f a b l1) l0 ([] : List Int) else none
theorem impl_sortedBy_116.calls {g1 : Nat} (A0 : Option Addr) (c0 : Nat) (l0 : List (Int)) (A1 : Option Addr) (c1 : Nat) (l1 : List (S63)) (r : List Int) (w : World) (hr0 : Kd.C (Kd.int .i64) w A0 l0.length l0) (hc0 : l0.length ≤ c0) (hr1 : Kd.C k63 w A1 l1.length l1) (hc1 : l1.length ≤ c1) (hb1 : w.heap[g1]? = some (.cells #[.slice A1 l1.length c1] 26 (0, 0))) (h : impl_sortedBy_116.f l0 l1 = some r) :
  Calls Try.prog 115 #[.slice A0 l0.length c0, .func (.func 116) #[] #[.pointer (some ⟨g1, 0, none⟩)]] w fun e w' => ∃ v0_ : Value, e = .returned (v0_) ∧ Kd.R (Kd.int .i64) 3 w' w.heap.size (fun _ => True) v0_ r ∧ Below w.heap.size w w' := by
 unfold impl_sortedBy_116.f at h
 split at h
 · rename_i hl
   refine sb_calls_116 _ A0 c0 l0 r w hr0 hc0 _ (fun a b t w' hB hp => ?_) hl h
   exact (impl_onTime_1.calls a b _ _ l1 t w' (Kd.C_below hr1 hB) hc1 (blk_below hb1 hB) hp).mono fun e w'' h_ => ⟨h_.1, by obtain ⟨n_, rfl⟩ := h_.2; exact pw_below_drewN (Below.refl _ _) n_⟩
 · cases h

end Go.Proofs.Ytnhceifdiaigbaa.OFnExactTimelyAfter
