/- Functions of the program as plain Lean functions, with their contracts: written by this session's program ownprint.py. Conditions: none. -/
import Derived.Test.YtafhfmggehaknaaOFnExactIsSeriesParallelx0
import Derived.Test.YtafhfmggehaknaaOFnExactIsSeriesParallelx8
namespace Go.Proofs.Ytafhfmggehaknaa.OFnExactIsSeriesParallel
open Go.RowKit Go.Proofs.YtafhfmggehaknaaW.PrintWords Go.Proofs.YtafhfmggehaknaaW.PrintLast Go.Proofs.YtafhfmggehaknaaW.PrintMore
attribute [local go_sem] max2_int min2_int max_two min_two max_three min_three max_four min_four   -- for this text's walks alone
set_option linter.unusedVariables false
set_option linter.unusedSimpArgs false

/-! ### impl_isSeriesParallel: function 80 -/
mutual
def impl_isSeriesParallel.l0 : Nat → Int → Int → List (List Bool) → Option (Bool)
 | 0, _, _, _ => none
 | k + 1, x4, x5, x225000 => if x5 < x4 then (impl_isSeriesParallel.l1 k x4 x5 0 x225000) else (some true)
def impl_isSeriesParallel.l1 : Nat → Int → Int → Int → List (List Bool) → Option (Bool)
 | 0, _, _, _, _ => none
 | k + 1, x4, x5, x6, x225000 => if x6 < x4 then (impl_isSeriesParallel.l2 k x4 x5 x6 0 x225000) else (impl_isSeriesParallel.l0 k x4 (wrap64 (x5 + 1)) x225000)
def impl_isSeriesParallel.l2 : Nat → Int → Int → Int → Int → List (List Bool) → Option (Bool)
 | 0, _, _, _, _, _ => none
 | k + 1, x4, x5, x6, x7, x225000 => if x7 < x4 then (impl_isSeriesParallel.l3 k x4 x5 x6 x7 0 x225000) else (impl_isSeriesParallel.l1 k x4 x5 (wrap64 (x6 + 1)) x225000)
def impl_isSeriesParallel.l3 : Nat → Int → Int → Int → Int → Int → List (List Bool) → Option (Bool)
 | 0, _, _, _, _, _, _ => none
 | k + 1, x4, x5, x6, x7, x8, x225000 => if x8 < x4 then (if 0 ≤ x5 then (if x5 < (x225000.length : Int) then (if 0 ≤ x7 then (if x7 < ((rd_L3 x225000 x5).length : Int) then (if rdOf false (rd_L3 x225000 x5) x7 = true then (if 0 ≤ x6 then (if x6 < (x225000.length : Int) then (if x7 < ((rd_L3 x225000 x6).length : Int) then (if rdOf false (rd_L3 x225000 x6) x7 = true then (if 0 ≤ x8 then (if x8 < ((rd_L3 x225000 x6).length : Int) then (if rdOf false (rd_L3 x225000 x6) x8 = true then ((impl_isSeriesParallel_1.f x5 x6 x225000).bind fun t231 => (if t231 = true then ((impl_isSeriesParallel_1.f x5 x8 x225000).bind fun t232 => (if t232 = true then ((impl_isSeriesParallel_1.f x7 x8 x225000).bind fun t233 => (if t233 = true then (some false) else (impl_isSeriesParallel.l3 k x4 x5 x6 x7 (wrap64 (x8 + 1)) x225000))) else (impl_isSeriesParallel.l3 k x4 x5 x6 x7 (wrap64 (x8 + 1)) x225000))) else (impl_isSeriesParallel.l3 k x4 x5 x6 x7 (wrap64 (x8 + 1)) x225000))) else (impl_isSeriesParallel.l3 k x4 x5 x6 x7 (wrap64 (x8 + 1)) x225000)) else (none)) else (none)) else (impl_isSeriesParallel.l3 k x4 x5 x6 x7 (wrap64 (x8 + 1)) x225000)) else (none)) else (none)) else (none)) else (impl_isSeriesParallel.l3 k x4 x5 x6 x7 (wrap64 (x8 + 1)) x225000)) else (none)) else (none)) else (none)) else (none)) else (impl_isSeriesParallel.l2 k x4 x5 x6 (wrap64 (x7 + 1)) x225000)
end
def impl_isSeriesParallel.f (k : Nat) (l0 : List (List Bool)) : Option (Bool) := impl_isSeriesParallel.l0 k (l0.length : Int) 0 l0
theorem impl_isSeriesParallel.mono_l : ∀ k, (∀ y0 y1 y2, LeO (impl_isSeriesParallel.l0 k y0 y1 y2) (impl_isSeriesParallel.l0 (k + 1) y0 y1 y2)) ∧ (∀ y0 y1 y2 y3, LeO (impl_isSeriesParallel.l1 k y0 y1 y2 y3) (impl_isSeriesParallel.l1 (k + 1) y0 y1 y2 y3)) ∧ (∀ y0 y1 y2 y3 y4, LeO (impl_isSeriesParallel.l2 k y0 y1 y2 y3 y4) (impl_isSeriesParallel.l2 (k + 1) y0 y1 y2 y3 y4)) ∧ (∀ y0 y1 y2 y3 y4 y5, LeO (impl_isSeriesParallel.l3 k y0 y1 y2 y3 y4 y5) (impl_isSeriesParallel.l3 (k + 1) y0 y1 y2 y3 y4 y5))
 | 0 => ⟨fun _ _ _ r h => by simp [impl_isSeriesParallel.l0] at h, fun _ _ _ _ r h => by simp [impl_isSeriesParallel.l1] at h, fun _ _ _ _ _ r h => by simp [impl_isSeriesParallel.l2] at h, fun _ _ _ _ _ _ r h => by simp [impl_isSeriesParallel.l3] at h⟩
 | k + 1 => by
  obtain ⟨ih0, ih1, ih2, ih3⟩ := impl_isSeriesParallel.mono_l k
  refine ⟨?_, ?_, ?_, ?_⟩
  ·intro y0 y1 y2
   unfold impl_isSeriesParallel.l0
   repeat' first
   | (with_reducible exact ih0 _ _ _)
   | (with_reducible exact ih1 _ _ _ _)
   | (with_reducible exact ih2 _ _ _ _ _)
   | (with_reducible exact ih3 _ _ _ _ _ _)
   | (with_reducible exact LeO.refl _)
   | (with_reducible exact LeO.none _)
   | (with_reducible refine LeO.ite ?_ ?_)
   | (with_reducible refine LeO.bind ?_ (fun _ => ?_))
   | exact ih0 _ _ _
   | exact ih1 _ _ _ _
   | exact ih2 _ _ _ _ _
   | exact ih3 _ _ _ _ _ _
   | exact LeO.none _
   | refine LeO.ite ?_ ?_
   | refine LeO.bind ?_ (fun _ => ?_)
  ·intro y0 y1 y2 y3
   unfold impl_isSeriesParallel.l1
   repeat' first
   | (with_reducible exact ih0 _ _ _)
   | (with_reducible exact ih1 _ _ _ _)
   | (with_reducible exact ih2 _ _ _ _ _)
   | (with_reducible exact ih3 _ _ _ _ _ _)
   | (with_reducible exact LeO.refl _)
   | (with_reducible exact LeO.none _)
   | (with_reducible refine LeO.ite ?_ ?_)
   | (with_reducible refine LeO.bind ?_ (fun _ => ?_))
   | exact ih0 _ _ _
   | exact ih1 _ _ _ _
   | exact ih2 _ _ _ _ _
   | exact ih3 _ _ _ _ _ _
   | exact LeO.none _
   | refine LeO.ite ?_ ?_
   | refine LeO.bind ?_ (fun _ => ?_)
  ·intro y0 y1 y2 y3 y4
   unfold impl_isSeriesParallel.l2
   repeat' first
   | (with_reducible exact ih0 _ _ _)
   | (with_reducible exact ih1 _ _ _ _)
   | (with_reducible exact ih2 _ _ _ _ _)
   | (with_reducible exact ih3 _ _ _ _ _ _)
   | (with_reducible exact LeO.refl _)
   | (with_reducible exact LeO.none _)
   | (with_reducible refine LeO.ite ?_ ?_)
   | (with_reducible refine LeO.bind ?_ (fun _ => ?_))
   | exact ih0 _ _ _
   | exact ih1 _ _ _ _
   | exact ih2 _ _ _ _ _
   | exact ih3 _ _ _ _ _ _
   | exact LeO.none _
   | refine LeO.ite ?_ ?_
   | refine LeO.bind ?_ (fun _ => ?_)
  ·intro y0 y1 y2 y3 y4 y5
   unfold impl_isSeriesParallel.l3
   repeat' first
   | (with_reducible exact ih0 _ _ _)
   | (with_reducible exact ih1 _ _ _ _)
   | (with_reducible exact ih2 _ _ _ _ _)
   | (with_reducible exact ih3 _ _ _ _ _ _)
   | (with_reducible exact LeO.refl _)
   | (with_reducible exact LeO.none _)
   | (with_reducible refine LeO.ite ?_ ?_)
   | (with_reducible refine LeO.bind ?_ (fun _ => ?_))
   | exact ih0 _ _ _
   | exact ih1 _ _ _ _
   | exact ih2 _ _ _ _ _
   | exact ih3 _ _ _ _ _ _
   | exact LeO.none _
   | refine LeO.ite ?_ ?_
   | refine LeO.bind ?_ (fun _ => ?_)
theorem impl_isSeriesParallel.mono : ∀ a0 k, LeO (impl_isSeriesParallel.f k a0) (impl_isSeriesParallel.f (k + 1) a0) := by
 intro a0 k
 obtain ⟨ih0, ih1, ih2, ih3⟩ := impl_isSeriesParallel.mono_l k
 unfold impl_isSeriesParallel.f
 repeat' first
   | (with_reducible exact ih0 _ _ _)
   | (with_reducible exact ih1 _ _ _ _)
   | (with_reducible exact ih2 _ _ _ _ _)
   | (with_reducible exact ih3 _ _ _ _ _ _)
   | (with_reducible exact LeO.refl _)
   | (with_reducible exact LeO.none _)
   | (with_reducible refine LeO.ite ?_ ?_)
   | (with_reducible refine LeO.bind ?_ (fun _ => ?_))
   | exact ih0 _ _ _
   | exact ih1 _ _ _ _
   | exact ih2 _ _ _ _ _
   | exact ih3 _ _ _ _ _ _
   | exact LeO.none _
   | refine LeO.ite ?_ ?_
   | refine LeO.bind ?_ (fun _ => ?_)
set_option maxHeartbeats 8000000 in
set_option maxRecDepth 100000 in
theorem impl_isSeriesParallel.calls (k : Nat) (A0 : Option Addr) (c0 : Nat) (l0 : List (List Bool)) (r : Bool) (w : World) (hr0 : Kd.C (Kd.slice 4 Kd.bool) w A0 l0.length l0) (hc0 : l0.length ≤ c0) (h : impl_isSeriesParallel.f k l0 = some r) :
  Calls Try.prog 80 #[.slice A0 l0.length c0] w fun e w' => e = .returned (.bool r) ∧ Below w.heap.size w w' := by
 have HR0 := Aside0.mk hr0
 have HC0 := Aside0.mk hc0
 clear hr0 hc0
 have HB := Aside0.mk (Below.refl w.heap.size w)
 have H : (impl_isSeriesParallel.l0 k (l0.length : Int) 0 l0) = some r := h
 clear h
 have H' := Aside0.mk H
 clear H
 go_enter Try.func80, Try.ntmps80
 go_wp2_with (first | ((with_reducible refine gate_dst (N := 1) rfl ?_); refine bE 1 #[.slice A0 l0.length c0] 67 ?_; intro gb224 hg w2 hbox hb; have n0_ := Aside0.mk (below_step bB hb); have n1_ := Aside0.mk (hbox); have n2_ := Aside0.mk ((by rw [hg]; exact (below_size bB) : w.heap.size ≤ gb224)); have n3_ := Aside0.mk ((by rw [hg]; exact (below_size bB) : w.heap.size ≤ gb224)); clear HB; have HB := n0_; have BK224 := n1_; have GW224 := n2_; have GE224 := n3_; clear n0_ n1_ n2_ n3_; clear hb hbox hg; have hcz3_0 : w2.cell? ⟨gb224, 0, none⟩ = some (.slice A0 l0.length c0) := (blk_cell BK224.out 0).trans rfl; have hfz3_0 := blk_frozen BK224.out 0))
 go_loopg [5] k (fun kq v5 w' => ∃ (x5_1 : Int), v5 = .int .i64 x5_1 ∧ Aside0 (impl_isSeriesParallel.l0 kq (l0.length : Int) x5_1 l0 = some r) ∧ Aside0 (kq ≤ k) ∧ Aside0 (w'.heap[gb224]? = some (.cells #[(.slice A0 l0.length c0)] 67 (0, 0))) ∧ Aside0 (Below w.heap.size w w'))
 case atStart => exact ⟨(0), sD, H', ⟨Nat.le_refl _⟩, ⟨kB⟩, ⟨by repeat (first | (with_reducible first | exact HB.out | apply below_alloc | apply pw_below_drewN | apply below_drew1 | refine below_set ?_ GE224.out) | exact HB.out)⟩⟩
 case round =>
  clear H'
  try clear p2
  try clear hcz3_0
  try clear hfz3_0
  obtain ⟨x5_1, rfl, HA, HK1, BK224, HB⟩ := hrel
  cases gk with
  | zero => exact absurd HA.out (by simp [impl_isSeriesParallel.l0])
  | succ k1 =>
   have H := HA.out
   clear HA
   simp only [impl_isSeriesParallel.l0] at H
   by_cases c4 : x5_1 < (l0.length : Int)
   ·rw [if_pos c4] at H
    have c4b0 : decide (x5_1 < (l0.length : Int)) = true := decide_eq_true c4
    clear c4
    have H' := Aside0.mk H
    clear H
    go_wp2
    go_loopg [6] k1 (fun kq v6 w' => ∃ (x6_2 : Int), v6 = .int .i64 x6_2 ∧ Aside0 (impl_isSeriesParallel.l1 kq (l0.length : Int) x5_1 x6_2 l0 = some r) ∧ Aside0 (kq ≤ k1) ∧ Aside0 (w'.heap[gb224]? = some (.cells #[(.slice A0 l0.length c0)] 67 (0, 0))) ∧ Aside0 (Below w.heap.size w w'))
    case atStart => exact ⟨(0), sD, H', ⟨Nat.le_refl _⟩, ⟨kB⟩, ⟨by repeat (first | (with_reducible first | exact HB.out | apply below_alloc | apply pw_below_drewN | apply below_drew1 | refine below_set ?_ GE224.out) | exact HB.out)⟩⟩
    case round =>
     clear H'
     try clear p2
     try clear c4
     try clear c4b0
     try clear hcz3_0
     try clear hfz3_0
     try clear p2
     obtain ⟨x6_2, rfl, HA, HK2, BK224, HB⟩ := hrel
     cases gk with
     | zero => exact absurd HA.out (by simp [impl_isSeriesParallel.l1])
     | succ k2 =>
      have H := HA.out
      clear HA
      simp only [impl_isSeriesParallel.l1] at H
      by_cases c5 : x6_2 < (l0.length : Int)
      ·rw [if_pos c5] at H
       have c5b0 : decide (x6_2 < (l0.length : Int)) = true := decide_eq_true c5
       clear c5
       have H' := Aside0.mk H
       clear H
       go_wp2
       go_loopg [7] k2 (fun kq v7 w' => ∃ (x7_3 : Int), v7 = .int .i64 x7_3 ∧ Aside0 (impl_isSeriesParallel.l2 kq (l0.length : Int) x5_1 x6_2 x7_3 l0 = some r) ∧ Aside0 (kq ≤ k2) ∧ Aside0 (w'.heap[gb224]? = some (.cells #[(.slice A0 l0.length c0)] 67 (0, 0))) ∧ Aside0 (Below w.heap.size w w'))
       case atStart => exact ⟨(0), sD, H', ⟨Nat.le_refl _⟩, ⟨kB⟩, ⟨by repeat (first | (with_reducible first | exact HB.out | apply below_alloc | apply pw_below_drewN | apply below_drew1 | refine below_set ?_ GE224.out) | exact HB.out)⟩⟩
       case round =>
        clear H'
        try clear p2
        try clear c4
        try clear c4b0
        try clear c5
        try clear c5b0
        try clear hcz3_0
        try clear hfz3_0
        try clear p2
        obtain ⟨x7_3, rfl, HA, HK3, BK224, HB⟩ := hrel
        cases gk with
        | zero => exact absurd HA.out (by simp [impl_isSeriesParallel.l2])
        | succ k3 =>
         have H := HA.out
         clear HA
         simp only [impl_isSeriesParallel.l2] at H
         by_cases c6 : x7_3 < (l0.length : Int)
         ·rw [if_pos c6] at H
          have c6b0 : decide (x7_3 < (l0.length : Int)) = true := decide_eq_true c6
          clear c6
          have H' := Aside0.mk H
          clear H
          go_wp2
          go_loopg [8] k3 (fun kq v8 w' => ∃ (x8_4 : Int), v8 = .int .i64 x8_4 ∧ Aside0 (impl_isSeriesParallel.l3 kq (l0.length : Int) x5_1 x6_2 x7_3 x8_4 l0 = some r) ∧ Aside0 (kq ≤ k3) ∧ Aside0 (w'.heap[gb224]? = some (.cells #[(.slice A0 l0.length c0)] 67 (0, 0))) ∧ Aside0 (Below w.heap.size w w'))
          case atStart => exact ⟨(0), sD, H', ⟨Nat.le_refl _⟩, ⟨kB⟩, ⟨by repeat (first | (with_reducible first | exact HB.out | apply below_alloc | apply pw_below_drewN | apply below_drew1 | refine below_set ?_ GE224.out) | exact HB.out)⟩⟩
          case round =>
           clear H'
           try clear p2
           try clear c4
           try clear c4b0
           try clear c5
           try clear c5b0
           try clear c6
           try clear c6b0
           try clear hcz3_0
           try clear hfz3_0
           try clear p2
           obtain ⟨x8_4, rfl, HA, HK4, BK224, HB⟩ := hrel
           cases gk with
           | zero => exact absurd HA.out (by simp [impl_isSeriesParallel.l3])
           | succ k4 =>
            have H := HA.out
            clear HA
            simp only [impl_isSeriesParallel.l3] at H
            by_cases c7 : x8_4 < (l0.length : Int)
            ·rw [if_pos c7] at H
             have c7b0 : decide (x8_4 < (l0.length : Int)) = true := decide_eq_true c7
             clear c7
             by_cases c8 : 0 ≤ x5_1; rotate_left
             ·rw [if_neg c8] at H; exact absurd H (by simp)
             rw [if_pos c8] at H
             have c8b0 : decide (0 ≤ x5_1) = true := decide_eq_true c8
             clear c8
             by_cases c9 : x5_1 < (l0.length : Int); rotate_left
             ·rw [if_neg c9] at H; exact absurd H (by simp)
             rw [if_pos c9] at H
             have c9b0 : decide (x5_1 < (l0.length : Int)) = true := decide_eq_true c9
             clear c9
             by_cases c10 : 0 ≤ x7_3; rotate_left
             ·rw [if_neg c10] at H; exact absurd H (by simp)
             rw [if_pos c10] at H
             have c10b0 : decide (0 ≤ x7_3) = true := decide_eq_true c10
             clear c10
             by_cases c11 : x7_3 < ((rd_L3 l0 x5_1).length : Int); rotate_left
             ·rw [if_neg c11] at H; exact absurd H (by simp)
             rw [if_pos c11] at H
             have c11b0 : decide (x7_3 < ((rd_L3 l0 x5_1).length : Int)) = true := decide_eq_true c11
             clear c11
             obtain ⟨bq12, hbq12⟩ : ∃ b_ : Bool, b_ = (rdOf false (rd_L3 l0 x5_1) x7_3) := ⟨_, rfl⟩
             replace H : (if bq12 = true then (if 0 ≤ x6_2 then (if x6_2 < (l0.length : Int) then (if x7_3 < ((rd_L3 l0 x6_2).length : Int) then (if rdOf false (rd_L3 l0 x6_2) x7_3 = true then (if 0 ≤ x8_4 then (if x8_4 < ((rd_L3 l0 x6_2).length : Int) then (if rdOf false (rd_L3 l0 x6_2) x8_4 = true then ((impl_isSeriesParallel_1.f x5_1 x6_2 l0).bind fun t231 => (if t231 = true then ((impl_isSeriesParallel_1.f x5_1 x8_4 l0).bind fun t232 => (if t232 = true then ((impl_isSeriesParallel_1.f x7_3 x8_4 l0).bind fun t233 => (if t233 = true then (some false) else (impl_isSeriesParallel.l3 k4 (l0.length : Int) x5_1 x6_2 x7_3 (wrap64 (x8_4 + 1)) l0))) else (impl_isSeriesParallel.l3 k4 (l0.length : Int) x5_1 x6_2 x7_3 (wrap64 (x8_4 + 1)) l0))) else (impl_isSeriesParallel.l3 k4 (l0.length : Int) x5_1 x6_2 x7_3 (wrap64 (x8_4 + 1)) l0))) else (impl_isSeriesParallel.l3 k4 (l0.length : Int) x5_1 x6_2 x7_3 (wrap64 (x8_4 + 1)) l0)) else (none)) else (none)) else (impl_isSeriesParallel.l3 k4 (l0.length : Int) x5_1 x6_2 x7_3 (wrap64 (x8_4 + 1)) l0)) else (none)) else (none)) else (none)) else (impl_isSeriesParallel.l3 k4 (l0.length : Int) x5_1 x6_2 x7_3 (wrap64 (x8_4 + 1)) l0)) = some r := by rw [← hbq12] at H; exact H
             have Nbq12 := Aside0.mk hbq12
             clear hbq12
             by_cases c13 : bq12 = true
             ·subst c13
              have H1 : (if 0 ≤ x6_2 then (if x6_2 < (l0.length : Int) then (if x7_3 < ((rd_L3 l0 x6_2).length : Int) then (if rdOf false (rd_L3 l0 x6_2) x7_3 = true then (if 0 ≤ x8_4 then (if x8_4 < ((rd_L3 l0 x6_2).length : Int) then (if rdOf false (rd_L3 l0 x6_2) x8_4 = true then ((impl_isSeriesParallel_1.f x5_1 x6_2 l0).bind fun t231 => (if t231 = true then ((impl_isSeriesParallel_1.f x5_1 x8_4 l0).bind fun t232 => (if t232 = true then ((impl_isSeriesParallel_1.f x7_3 x8_4 l0).bind fun t233 => (if t233 = true then (some false) else (impl_isSeriesParallel.l3 k4 (l0.length : Int) x5_1 x6_2 x7_3 (wrap64 (x8_4 + 1)) l0))) else (impl_isSeriesParallel.l3 k4 (l0.length : Int) x5_1 x6_2 x7_3 (wrap64 (x8_4 + 1)) l0))) else (impl_isSeriesParallel.l3 k4 (l0.length : Int) x5_1 x6_2 x7_3 (wrap64 (x8_4 + 1)) l0))) else (impl_isSeriesParallel.l3 k4 (l0.length : Int) x5_1 x6_2 x7_3 (wrap64 (x8_4 + 1)) l0)) else (none)) else (none)) else (impl_isSeriesParallel.l3 k4 (l0.length : Int) x5_1 x6_2 x7_3 (wrap64 (x8_4 + 1)) l0)) else (none)) else (none)) else (none)) = some r := by rw [if_pos rfl] at H; exact H
              clear H
              have H := H1
              clear H1
              by_cases c14 : 0 ≤ x6_2; rotate_left
              ·rw [if_neg c14] at H; exact absurd H (by simp)
              rw [if_pos c14] at H
              have c14b0 : decide (0 ≤ x6_2) = true := decide_eq_true c14
              clear c14
              by_cases c15 : x6_2 < (l0.length : Int); rotate_left
              ·rw [if_neg c15] at H; exact absurd H (by simp)
              rw [if_pos c15] at H
              have c15b0 : decide (x6_2 < (l0.length : Int)) = true := decide_eq_true c15
              clear c15
              by_cases c16 : x7_3 < ((rd_L3 l0 x6_2).length : Int); rotate_left
              ·rw [if_neg c16] at H; exact absurd H (by simp)
              rw [if_pos c16] at H
              have c16b0 : decide (x7_3 < ((rd_L3 l0 x6_2).length : Int)) = true := decide_eq_true c16
              clear c16
              obtain ⟨bq17, hbq17⟩ : ∃ b_ : Bool, b_ = (rdOf false (rd_L3 l0 x6_2) x7_3) := ⟨_, rfl⟩
              replace H : (if bq17 = true then (if 0 ≤ x8_4 then (if x8_4 < ((rd_L3 l0 x6_2).length : Int) then (if rdOf false (rd_L3 l0 x6_2) x8_4 = true then ((impl_isSeriesParallel_1.f x5_1 x6_2 l0).bind fun t231 => (if t231 = true then ((impl_isSeriesParallel_1.f x5_1 x8_4 l0).bind fun t232 => (if t232 = true then ((impl_isSeriesParallel_1.f x7_3 x8_4 l0).bind fun t233 => (if t233 = true then (some false) else (impl_isSeriesParallel.l3 k4 (l0.length : Int) x5_1 x6_2 x7_3 (wrap64 (x8_4 + 1)) l0))) else (impl_isSeriesParallel.l3 k4 (l0.length : Int) x5_1 x6_2 x7_3 (wrap64 (x8_4 + 1)) l0))) else (impl_isSeriesParallel.l3 k4 (l0.length : Int) x5_1 x6_2 x7_3 (wrap64 (x8_4 + 1)) l0))) else (impl_isSeriesParallel.l3 k4 (l0.length : Int) x5_1 x6_2 x7_3 (wrap64 (x8_4 + 1)) l0)) else (none)) else (none)) else (impl_isSeriesParallel.l3 k4 (l0.length : Int) x5_1 x6_2 x7_3 (wrap64 (x8_4 + 1)) l0)) = some r := by rw [← hbq17] at H; exact H
              have Nbq17 := Aside0.mk hbq17
              clear hbq17
              by_cases c18 : bq17 = true
              ·subst c18
               have H1 : (if 0 ≤ x8_4 then (if x8_4 < ((rd_L3 l0 x6_2).length : Int) then (if rdOf false (rd_L3 l0 x6_2) x8_4 = true then ((impl_isSeriesParallel_1.f x5_1 x6_2 l0).bind fun t231 => (if t231 = true then ((impl_isSeriesParallel_1.f x5_1 x8_4 l0).bind fun t232 => (if t232 = true then ((impl_isSeriesParallel_1.f x7_3 x8_4 l0).bind fun t233 => (if t233 = true then (some false) else (impl_isSeriesParallel.l3 k4 (l0.length : Int) x5_1 x6_2 x7_3 (wrap64 (x8_4 + 1)) l0))) else (impl_isSeriesParallel.l3 k4 (l0.length : Int) x5_1 x6_2 x7_3 (wrap64 (x8_4 + 1)) l0))) else (impl_isSeriesParallel.l3 k4 (l0.length : Int) x5_1 x6_2 x7_3 (wrap64 (x8_4 + 1)) l0))) else (impl_isSeriesParallel.l3 k4 (l0.length : Int) x5_1 x6_2 x7_3 (wrap64 (x8_4 + 1)) l0)) else (none)) else (none)) = some r := by rw [if_pos rfl] at H; exact H
               clear H
               have H := H1
               clear H1
               by_cases c19 : 0 ≤ x8_4; rotate_left
               ·rw [if_neg c19] at H; exact absurd H (by simp)
               rw [if_pos c19] at H
               have c19b0 : decide (0 ≤ x8_4) = true := decide_eq_true c19
               clear c19
               by_cases c20 : x8_4 < ((rd_L3 l0 x6_2).length : Int); rotate_left
               ·rw [if_neg c20] at H; exact absurd H (by simp)
               rw [if_pos c20] at H
               have c20b0 : decide (x8_4 < ((rd_L3 l0 x6_2).length : Int)) = true := decide_eq_true c20
               clear c20
               obtain ⟨bq21, hbq21⟩ : ∃ b_ : Bool, b_ = (rdOf false (rd_L3 l0 x6_2) x8_4) := ⟨_, rfl⟩
               replace H : (if bq21 = true then ((impl_isSeriesParallel_1.f x5_1 x6_2 l0).bind fun t231 => (if t231 = true then ((impl_isSeriesParallel_1.f x5_1 x8_4 l0).bind fun t232 => (if t232 = true then ((impl_isSeriesParallel_1.f x7_3 x8_4 l0).bind fun t233 => (if t233 = true then (some false) else (impl_isSeriesParallel.l3 k4 (l0.length : Int) x5_1 x6_2 x7_3 (wrap64 (x8_4 + 1)) l0))) else (impl_isSeriesParallel.l3 k4 (l0.length : Int) x5_1 x6_2 x7_3 (wrap64 (x8_4 + 1)) l0))) else (impl_isSeriesParallel.l3 k4 (l0.length : Int) x5_1 x6_2 x7_3 (wrap64 (x8_4 + 1)) l0))) else (impl_isSeriesParallel.l3 k4 (l0.length : Int) x5_1 x6_2 x7_3 (wrap64 (x8_4 + 1)) l0)) = some r := by rw [← hbq21] at H; exact H
               have Nbq21 := Aside0.mk hbq21
               clear hbq21
               by_cases c22 : bq21 = true
               ·subst c22
                have H1 : ((impl_isSeriesParallel_1.f x5_1 x6_2 l0).bind fun t231 => (if t231 = true then ((impl_isSeriesParallel_1.f x5_1 x8_4 l0).bind fun t232 => (if t232 = true then ((impl_isSeriesParallel_1.f x7_3 x8_4 l0).bind fun t233 => (if t233 = true then (some false) else (impl_isSeriesParallel.l3 k4 (l0.length : Int) x5_1 x6_2 x7_3 (wrap64 (x8_4 + 1)) l0))) else (impl_isSeriesParallel.l3 k4 (l0.length : Int) x5_1 x6_2 x7_3 (wrap64 (x8_4 + 1)) l0))) else (impl_isSeriesParallel.l3 k4 (l0.length : Int) x5_1 x6_2 x7_3 (wrap64 (x8_4 + 1)) l0))) = some r := by rw [if_pos rfl] at H; exact H
                clear H
                have H := H1
                clear H1
                replace H := Option.bind_eq_some_iff.mp H
                obtain ⟨t231, A230, H⟩ := H
                replace H : (if t231 = true then ((impl_isSeriesParallel_1.f x5_1 x8_4 l0).bind fun t232 => (if t232 = true then ((impl_isSeriesParallel_1.f x7_3 x8_4 l0).bind fun t233 => (if t233 = true then (some false) else (impl_isSeriesParallel.l3 k4 (l0.length : Int) x5_1 x6_2 x7_3 (wrap64 (x8_4 + 1)) l0))) else (impl_isSeriesParallel.l3 k4 (l0.length : Int) x5_1 x6_2 x7_3 (wrap64 (x8_4 + 1)) l0))) else (impl_isSeriesParallel.l3 k4 (l0.length : Int) x5_1 x6_2 x7_3 (wrap64 (x8_4 + 1)) l0)) = some r := H
                have A23 := Aside0.mk A230
                clear A230
                by_cases c24 : t231 = true
                ·subst c24
                 have H1 : ((impl_isSeriesParallel_1.f x5_1 x8_4 l0).bind fun t232 => (if t232 = true then ((impl_isSeriesParallel_1.f x7_3 x8_4 l0).bind fun t233 => (if t233 = true then (some false) else (impl_isSeriesParallel.l3 k4 (l0.length : Int) x5_1 x6_2 x7_3 (wrap64 (x8_4 + 1)) l0))) else (impl_isSeriesParallel.l3 k4 (l0.length : Int) x5_1 x6_2 x7_3 (wrap64 (x8_4 + 1)) l0))) = some r := by rw [if_pos rfl] at H; exact H
                 clear H
                 have H := H1
                 clear H1
                 replace H := Option.bind_eq_some_iff.mp H
                 obtain ⟨t232, A250, H⟩ := H
                 replace H : (if t232 = true then ((impl_isSeriesParallel_1.f x7_3 x8_4 l0).bind fun t233 => (if t233 = true then (some false) else (impl_isSeriesParallel.l3 k4 (l0.length : Int) x5_1 x6_2 x7_3 (wrap64 (x8_4 + 1)) l0))) else (impl_isSeriesParallel.l3 k4 (l0.length : Int) x5_1 x6_2 x7_3 (wrap64 (x8_4 + 1)) l0)) = some r := H
                 have A25 := Aside0.mk A250
                 clear A250
                 by_cases c26 : t232 = true
                 ·subst c26
                  have H1 : ((impl_isSeriesParallel_1.f x7_3 x8_4 l0).bind fun t233 => (if t233 = true then (some false) else (impl_isSeriesParallel.l3 k4 (l0.length : Int) x5_1 x6_2 x7_3 (wrap64 (x8_4 + 1)) l0))) = some r := by rw [if_pos rfl] at H; exact H
                  clear H
                  have H := H1
                  clear H1
                  replace H := Option.bind_eq_some_iff.mp H
                  obtain ⟨t233, A270, H⟩ := H
                  replace H : (if t233 = true then (some false) else (impl_isSeriesParallel.l3 k4 (l0.length : Int) x5_1 x6_2 x7_3 (wrap64 (x8_4 + 1)) l0)) = some r := H
                  have A27 := Aside0.mk A270
                  clear A270
                  by_cases c28 : t233 = true
                  ·subst c28
                   have H1 : (some false) = some r := by rw [if_pos rfl] at H; exact H
                   clear H
                   have H := H1
                   clear H1
                   obtain rfl := Option.some.inj H
                   have hcz29_0 : wr.cell? ⟨gb224, 0, none⟩ = some (.slice A0 l0.length c0) := (blk_cell BK224.out 0).trans rfl
                   have hfz29_0 := blk_frozen BK224.out 0
                   have p225 : 0 ≤ (x5_1 : Int) := oD
                   have q225 : x5_1 < (l0.length : Int) := oD
                   obtain ⟨ad225, A225_0, c225_0, e225, hx225_0, hl225_0, hi225_0⟩ := at_L3 HR0.out x5_1 p225 q225
                   cases e225
                   replace hx225_0 := (cB HB.out hx225_0 :)
                   have HR225_0 := Aside0.mk hi225_0
                   have HC225_0 := Aside0.mk hl225_0
                   clear hi225_0 hl225_0
                   replace p225 := eq_true p225
                   replace q225 := eq_true q225
                   have p226 : 0 ≤ (x7_3 : Int) := oD
                   have q226 : x7_3 < ((rd_L3 l0 x5_1).length : Int) := oD
                   obtain ⟨ad226, e226, hx226_0⟩ := Kd.at_bool HR225_0.out x7_3 p226 q226
                   (try rw [← Nbq12.out] at hx226_0)
                   (try rw [← Nbq17.out] at hx226_0)
                   (try rw [← Nbq21.out] at hx226_0)
                   cases e226
                   replace hx226_0 := (cB HB.out hx226_0 :)
                   replace p226 := eq_true p226
                   replace q226 := eq_true q226
                   have p227 : 0 ≤ (x6_2 : Int) := oD
                   have q227 : x6_2 < (l0.length : Int) := oD
                   obtain ⟨ad227, A227_0, c227_0, e227, hx227_0, hl227_0, hi227_0⟩ := at_L3 HR0.out x6_2 p227 q227
                   obtain rfl : ad225 = ad227 := (by injection e227)
                   replace hx227_0 := (cB HB.out hx227_0 :)
                   have HR227_0 := Aside0.mk hi227_0
                   have HC227_0 := Aside0.mk hl227_0
                   clear hi227_0 hl227_0
                   replace p227 := eq_true p227
                   replace q227 := eq_true q227
                   have p228 : 0 ≤ (x7_3 : Int) := oD
                   have q228 : x7_3 < ((rd_L3 l0 x6_2).length : Int) := oD
                   obtain ⟨ad228, e228, hx228_0⟩ := Kd.at_bool HR227_0.out x7_3 p228 q228
                   (try rw [← Nbq12.out] at hx228_0)
                   (try rw [← Nbq17.out] at hx228_0)
                   (try rw [← Nbq21.out] at hx228_0)
                   cases e228
                   replace hx228_0 := (cB HB.out hx228_0 :)
                   replace p228 := eq_true p228
                   replace q228 := eq_true q228
                   have p229 : 0 ≤ (x6_2 : Int) := oD
                   have q229 : x6_2 < (l0.length : Int) := oD
                   obtain ⟨ad229, A229_0, c229_0, e229, hx229_0, hl229_0, hi229_0⟩ := at_L3 HR0.out x6_2 p229 q229
                   obtain rfl : ad225 = ad229 := (by injection e229)
                   replace hx229_0 := (cB HB.out hx229_0 :)
                   have HR229_0 := Aside0.mk hi229_0
                   have HC229_0 := Aside0.mk hl229_0
                   clear hi229_0 hl229_0
                   replace p229 := eq_true p229
                   replace q229 := eq_true q229
                   have ea_ := Option.some.inj (hx227_0.symm.trans hx229_0)
                   injection ea_ with ea_ en_ ec_
                   subst ea_
                   subst ec_
                   clear en_
                   have p230 : 0 ≤ (x8_4 : Int) := oD
                   have q230 : x8_4 < ((rd_L3 l0 x6_2).length : Int) := oD
                   obtain ⟨ad230, e230, hx230_0⟩ := Kd.at_bool HR229_0.out x8_4 p230 q230
                   (try rw [← Nbq12.out] at hx230_0)
                   (try rw [← Nbq17.out] at hx230_0)
                   (try rw [← Nbq21.out] at hx230_0)
                   cases e230
                   replace hx230_0 := (cB HB.out hx230_0 :)
                   replace p230 := eq_true p230
                   replace q230 := eq_true q230
                   go_wp2_with (first | (go_at_call 98; (with_reducible refine (impl_isSeriesParallel_1.calls x5_1 x6_2 (some ad225) c0 l0 true _ ?side1 ?side2 ?side3 A23.out).mono ?_); (case side1 => repeat (first | exact (Kd.C_below HR0.out HB.out) | (with_reducible refine Kd.C_alloc ?_ _) | (with_reducible refine Kd.C_drewN ?_ _) | (with_reducible refine Kd.C_drew ?_))); (case side2 => exact HC0.out); (case side3 => exact (by (with_reducible repeat (first | refine blk_drewN ?_ _ | refine blk_drew ?_ | refine blk_alloc ?_ _)); exact BK224.out)); rintro e w' ⟨rfl, ⟨nd, rfl⟩⟩) | (go_at_call 98; (with_reducible refine (impl_isSeriesParallel_1.calls x5_1 x8_4 (some ad225) c0 l0 true _ ?side1 ?side2 ?side3 A25.out).mono ?_); (case side1 => repeat (first | exact (Kd.C_below HR0.out bS) | (with_reducible refine Kd.C_alloc ?_ _) | (with_reducible refine Kd.C_drewN ?_ _) | (with_reducible refine Kd.C_drew ?_))); (case side2 => exact HC0.out); (case side3 => exact (by (with_reducible repeat (first | refine blk_drewN ?_ _ | refine blk_drew ?_ | refine blk_alloc ?_ _)); exact BK224.out)); rintro e w' ⟨rfl, ⟨nd, rfl⟩⟩) | (go_at_call 98; (with_reducible refine (impl_isSeriesParallel_1.calls x7_3 x8_4 (some ad225) c0 l0 true _ ?side1 ?side2 ?side3 A27.out).mono ?_); (case side1 => repeat (first | exact (Kd.C_below HR0.out bS) | (with_reducible refine Kd.C_alloc ?_ _) | (with_reducible refine Kd.C_drewN ?_ _) | (with_reducible refine Kd.C_drew ?_))); (case side2 => exact HC0.out); (case side3 => exact (by (with_reducible repeat (first | refine blk_drewN ?_ _ | refine blk_drew ?_ | refine blk_alloc ?_ _)); exact BK224.out)); rintro e w' ⟨rfl, ⟨nd, rfl⟩⟩))
                   go_ret
                   exact ⟨rE, bS⟩
                  ·replace c28 := Bool.eq_false_iff.mpr c28
                   subst c28
                   have H1 : (impl_isSeriesParallel.l3 k4 (l0.length : Int) x5_1 x6_2 x7_3 (wrap64 (x8_4 + 1)) l0) = some r := by rw [if_neg (show ¬ (false = true) by decide)] at H; exact H
                   clear H
                   have H := H1
                   clear H1
                   have H' := Aside0.mk H
                   clear H
                   have hcz30_0 : wr.cell? ⟨gb224, 0, none⟩ = some (.slice A0 l0.length c0) := (blk_cell BK224.out 0).trans rfl
                   have hfz30_0 := blk_frozen BK224.out 0
                   have p225 : 0 ≤ (x5_1 : Int) := oD
                   have q225 : x5_1 < (l0.length : Int) := oD
                   obtain ⟨ad225, A225_0, c225_0, e225, hx225_0, hl225_0, hi225_0⟩ := at_L3 HR0.out x5_1 p225 q225
                   cases e225
                   replace hx225_0 := (cB HB.out hx225_0 :)
                   have HR225_0 := Aside0.mk hi225_0
                   have HC225_0 := Aside0.mk hl225_0
                   clear hi225_0 hl225_0
                   replace p225 := eq_true p225
                   replace q225 := eq_true q225
                   have p226 : 0 ≤ (x7_3 : Int) := oD
                   have q226 : x7_3 < ((rd_L3 l0 x5_1).length : Int) := oD
                   obtain ⟨ad226, e226, hx226_0⟩ := Kd.at_bool HR225_0.out x7_3 p226 q226
                   (try rw [← Nbq12.out] at hx226_0)
                   (try rw [← Nbq17.out] at hx226_0)
                   (try rw [← Nbq21.out] at hx226_0)
                   cases e226
                   replace hx226_0 := (cB HB.out hx226_0 :)
                   replace p226 := eq_true p226
                   replace q226 := eq_true q226
                   have p227 : 0 ≤ (x6_2 : Int) := oD
                   have q227 : x6_2 < (l0.length : Int) := oD
                   obtain ⟨ad227, A227_0, c227_0, e227, hx227_0, hl227_0, hi227_0⟩ := at_L3 HR0.out x6_2 p227 q227
                   obtain rfl : ad225 = ad227 := (by injection e227)
                   replace hx227_0 := (cB HB.out hx227_0 :)
                   have HR227_0 := Aside0.mk hi227_0
                   have HC227_0 := Aside0.mk hl227_0
                   clear hi227_0 hl227_0
                   replace p227 := eq_true p227
                   replace q227 := eq_true q227
                   have p228 : 0 ≤ (x7_3 : Int) := oD
                   have q228 : x7_3 < ((rd_L3 l0 x6_2).length : Int) := oD
                   obtain ⟨ad228, e228, hx228_0⟩ := Kd.at_bool HR227_0.out x7_3 p228 q228
                   (try rw [← Nbq12.out] at hx228_0)
                   (try rw [← Nbq17.out] at hx228_0)
                   (try rw [← Nbq21.out] at hx228_0)
                   cases e228
                   replace hx228_0 := (cB HB.out hx228_0 :)
                   replace p228 := eq_true p228
                   replace q228 := eq_true q228
                   have p229 : 0 ≤ (x6_2 : Int) := oD
                   have q229 : x6_2 < (l0.length : Int) := oD
                   obtain ⟨ad229, A229_0, c229_0, e229, hx229_0, hl229_0, hi229_0⟩ := at_L3 HR0.out x6_2 p229 q229
                   obtain rfl : ad225 = ad229 := (by injection e229)
                   replace hx229_0 := (cB HB.out hx229_0 :)
                   have HR229_0 := Aside0.mk hi229_0
                   have HC229_0 := Aside0.mk hl229_0
                   clear hi229_0 hl229_0
                   replace p229 := eq_true p229
                   replace q229 := eq_true q229
                   have ea_ := Option.some.inj (hx227_0.symm.trans hx229_0)
                   injection ea_ with ea_ en_ ec_
                   subst ea_
                   subst ec_
                   clear en_
                   have p230 : 0 ≤ (x8_4 : Int) := oD
                   have q230 : x8_4 < ((rd_L3 l0 x6_2).length : Int) := oD
                   obtain ⟨ad230, e230, hx230_0⟩ := Kd.at_bool HR229_0.out x8_4 p230 q230
                   (try rw [← Nbq12.out] at hx230_0)
                   (try rw [← Nbq17.out] at hx230_0)
                   (try rw [← Nbq21.out] at hx230_0)
                   cases e230
                   replace hx230_0 := (cB HB.out hx230_0 :)
                   replace p230 := eq_true p230
                   replace q230 := eq_true q230
                   go_wp2_with (first | (go_at_call 98; (with_reducible refine (impl_isSeriesParallel_1.calls x5_1 x6_2 (some ad225) c0 l0 true _ ?side1 ?side2 ?side3 A23.out).mono ?_); (case side1 => repeat (first | exact (Kd.C_below HR0.out HB.out) | (with_reducible refine Kd.C_alloc ?_ _) | (with_reducible refine Kd.C_drewN ?_ _) | (with_reducible refine Kd.C_drew ?_))); (case side2 => exact HC0.out); (case side3 => exact (by (with_reducible repeat (first | refine blk_drewN ?_ _ | refine blk_drew ?_ | refine blk_alloc ?_ _)); exact BK224.out)); rintro e w' ⟨rfl, ⟨nd, rfl⟩⟩) | (go_at_call 98; (with_reducible refine (impl_isSeriesParallel_1.calls x5_1 x8_4 (some ad225) c0 l0 true _ ?side1 ?side2 ?side3 A25.out).mono ?_); (case side1 => repeat (first | exact (Kd.C_below HR0.out bS) | (with_reducible refine Kd.C_alloc ?_ _) | (with_reducible refine Kd.C_drewN ?_ _) | (with_reducible refine Kd.C_drew ?_))); (case side2 => exact HC0.out); (case side3 => exact (by (with_reducible repeat (first | refine blk_drewN ?_ _ | refine blk_drew ?_ | refine blk_alloc ?_ _)); exact BK224.out)); rintro e w' ⟨rfl, ⟨nd, rfl⟩⟩) | (go_at_call 98; (with_reducible refine (impl_isSeriesParallel_1.calls x7_3 x8_4 (some ad225) c0 l0 false _ ?side1 ?side2 ?side3 A27.out).mono ?_); (case side1 => repeat (first | exact (Kd.C_below HR0.out bS) | (with_reducible refine Kd.C_alloc ?_ _) | (with_reducible refine Kd.C_drewN ?_ _) | (with_reducible refine Kd.C_drew ?_))); (case side2 => exact HC0.out); (case side3 => exact (by (with_reducible repeat (first | refine blk_drewN ?_ _ | refine blk_drew ?_ | refine blk_alloc ?_ _)); exact BK224.out)); rintro e w' ⟨rfl, ⟨nd, rfl⟩⟩))
                   go_roundg k4
                   case measure => have := HK1.out; have := HK2.out; have := HK3.out; have := HK4.out; omega
                   case rel => exact ⟨(wrap64 (x8_4 + 1)), sD, H', ⟨by have := HK1.out; have := HK2.out; have := HK3.out; have := HK4.out; omega⟩, ⟨kB⟩, ⟨by repeat (first | (with_reducible first | exact HB.out | apply below_alloc | apply pw_below_drewN | apply below_drew1 | refine below_set ?_ GE224.out) | exact HB.out)⟩⟩
                 ·replace c26 := Bool.eq_false_iff.mpr c26
                  subst c26
                  have H1 : (impl_isSeriesParallel.l3 k4 (l0.length : Int) x5_1 x6_2 x7_3 (wrap64 (x8_4 + 1)) l0) = some r := by rw [if_neg (show ¬ (false = true) by decide)] at H; exact H
                  clear H
                  have H := H1
                  clear H1
                  have H' := Aside0.mk H
                  clear H
                  have hcz31_0 : wr.cell? ⟨gb224, 0, none⟩ = some (.slice A0 l0.length c0) := (blk_cell BK224.out 0).trans rfl
                  have hfz31_0 := blk_frozen BK224.out 0
                  have p225 : 0 ≤ (x5_1 : Int) := oD
                  have q225 : x5_1 < (l0.length : Int) := oD
                  obtain ⟨ad225, A225_0, c225_0, e225, hx225_0, hl225_0, hi225_0⟩ := at_L3 HR0.out x5_1 p225 q225
                  cases e225
                  replace hx225_0 := (cB HB.out hx225_0 :)
                  have HR225_0 := Aside0.mk hi225_0
                  have HC225_0 := Aside0.mk hl225_0
                  clear hi225_0 hl225_0
                  replace p225 := eq_true p225
                  replace q225 := eq_true q225
                  have p226 : 0 ≤ (x7_3 : Int) := oD
                  have q226 : x7_3 < ((rd_L3 l0 x5_1).length : Int) := oD
                  obtain ⟨ad226, e226, hx226_0⟩ := Kd.at_bool HR225_0.out x7_3 p226 q226
                  (try rw [← Nbq12.out] at hx226_0)
                  (try rw [← Nbq17.out] at hx226_0)
                  (try rw [← Nbq21.out] at hx226_0)
                  cases e226
                  replace hx226_0 := (cB HB.out hx226_0 :)
                  replace p226 := eq_true p226
                  replace q226 := eq_true q226
                  have p227 : 0 ≤ (x6_2 : Int) := oD
                  have q227 : x6_2 < (l0.length : Int) := oD
                  obtain ⟨ad227, A227_0, c227_0, e227, hx227_0, hl227_0, hi227_0⟩ := at_L3 HR0.out x6_2 p227 q227
                  obtain rfl : ad225 = ad227 := (by injection e227)
                  replace hx227_0 := (cB HB.out hx227_0 :)
                  have HR227_0 := Aside0.mk hi227_0
                  have HC227_0 := Aside0.mk hl227_0
                  clear hi227_0 hl227_0
                  replace p227 := eq_true p227
                  replace q227 := eq_true q227
                  have p228 : 0 ≤ (x7_3 : Int) := oD
                  have q228 : x7_3 < ((rd_L3 l0 x6_2).length : Int) := oD
                  obtain ⟨ad228, e228, hx228_0⟩ := Kd.at_bool HR227_0.out x7_3 p228 q228
                  (try rw [← Nbq12.out] at hx228_0)
                  (try rw [← Nbq17.out] at hx228_0)
                  (try rw [← Nbq21.out] at hx228_0)
                  cases e228
                  replace hx228_0 := (cB HB.out hx228_0 :)
                  replace p228 := eq_true p228
                  replace q228 := eq_true q228
                  have p229 : 0 ≤ (x6_2 : Int) := oD
                  have q229 : x6_2 < (l0.length : Int) := oD
                  obtain ⟨ad229, A229_0, c229_0, e229, hx229_0, hl229_0, hi229_0⟩ := at_L3 HR0.out x6_2 p229 q229
                  obtain rfl : ad225 = ad229 := (by injection e229)
                  replace hx229_0 := (cB HB.out hx229_0 :)
                  have HR229_0 := Aside0.mk hi229_0
                  have HC229_0 := Aside0.mk hl229_0
                  clear hi229_0 hl229_0
                  replace p229 := eq_true p229
                  replace q229 := eq_true q229
                  have ea_ := Option.some.inj (hx227_0.symm.trans hx229_0)
                  injection ea_ with ea_ en_ ec_
                  subst ea_
                  subst ec_
                  clear en_
                  have p230 : 0 ≤ (x8_4 : Int) := oD
                  have q230 : x8_4 < ((rd_L3 l0 x6_2).length : Int) := oD
                  obtain ⟨ad230, e230, hx230_0⟩ := Kd.at_bool HR229_0.out x8_4 p230 q230
                  (try rw [← Nbq12.out] at hx230_0)
                  (try rw [← Nbq17.out] at hx230_0)
                  (try rw [← Nbq21.out] at hx230_0)
                  cases e230
                  replace hx230_0 := (cB HB.out hx230_0 :)
                  replace p230 := eq_true p230
                  replace q230 := eq_true q230
                  go_wp2_with (first | (go_at_call 98; (with_reducible refine (impl_isSeriesParallel_1.calls x5_1 x6_2 (some ad225) c0 l0 true _ ?side1 ?side2 ?side3 A23.out).mono ?_); (case side1 => repeat (first | exact (Kd.C_below HR0.out HB.out) | (with_reducible refine Kd.C_alloc ?_ _) | (with_reducible refine Kd.C_drewN ?_ _) | (with_reducible refine Kd.C_drew ?_))); (case side2 => exact HC0.out); (case side3 => exact (by (with_reducible repeat (first | refine blk_drewN ?_ _ | refine blk_drew ?_ | refine blk_alloc ?_ _)); exact BK224.out)); rintro e w' ⟨rfl, ⟨nd, rfl⟩⟩) | (go_at_call 98; (with_reducible refine (impl_isSeriesParallel_1.calls x5_1 x8_4 (some ad225) c0 l0 false _ ?side1 ?side2 ?side3 A25.out).mono ?_); (case side1 => repeat (first | exact (Kd.C_below HR0.out bS) | (with_reducible refine Kd.C_alloc ?_ _) | (with_reducible refine Kd.C_drewN ?_ _) | (with_reducible refine Kd.C_drew ?_))); (case side2 => exact HC0.out); (case side3 => exact (by (with_reducible repeat (first | refine blk_drewN ?_ _ | refine blk_drew ?_ | refine blk_alloc ?_ _)); exact BK224.out)); rintro e w' ⟨rfl, ⟨nd, rfl⟩⟩))
                  go_roundg k4
                  case measure => have := HK1.out; have := HK2.out; have := HK3.out; have := HK4.out; omega
                  case rel => exact ⟨(wrap64 (x8_4 + 1)), sD, H', ⟨by have := HK1.out; have := HK2.out; have := HK3.out; have := HK4.out; omega⟩, ⟨kB⟩, ⟨by repeat (first | (with_reducible first | exact HB.out | apply below_alloc | apply pw_below_drewN | apply below_drew1 | refine below_set ?_ GE224.out) | exact HB.out)⟩⟩
                ·replace c24 := Bool.eq_false_iff.mpr c24
                 subst c24
                 have H1 : (impl_isSeriesParallel.l3 k4 (l0.length : Int) x5_1 x6_2 x7_3 (wrap64 (x8_4 + 1)) l0) = some r := by rw [if_neg (show ¬ (false = true) by decide)] at H; exact H
                 clear H
                 have H := H1
                 clear H1
                 have H' := Aside0.mk H
                 clear H
                 have hcz32_0 : wr.cell? ⟨gb224, 0, none⟩ = some (.slice A0 l0.length c0) := (blk_cell BK224.out 0).trans rfl
                 have hfz32_0 := blk_frozen BK224.out 0
                 have p225 : 0 ≤ (x5_1 : Int) := oD
                 have q225 : x5_1 < (l0.length : Int) := oD
                 obtain ⟨ad225, A225_0, c225_0, e225, hx225_0, hl225_0, hi225_0⟩ := at_L3 HR0.out x5_1 p225 q225
                 cases e225
                 replace hx225_0 := (cB HB.out hx225_0 :)
                 have HR225_0 := Aside0.mk hi225_0
                 have HC225_0 := Aside0.mk hl225_0
                 clear hi225_0 hl225_0
                 replace p225 := eq_true p225
                 replace q225 := eq_true q225
                 have p226 : 0 ≤ (x7_3 : Int) := oD
                 have q226 : x7_3 < ((rd_L3 l0 x5_1).length : Int) := oD
                 obtain ⟨ad226, e226, hx226_0⟩ := Kd.at_bool HR225_0.out x7_3 p226 q226
                 (try rw [← Nbq12.out] at hx226_0)
                 (try rw [← Nbq17.out] at hx226_0)
                 (try rw [← Nbq21.out] at hx226_0)
                 cases e226
                 replace hx226_0 := (cB HB.out hx226_0 :)
                 replace p226 := eq_true p226
                 replace q226 := eq_true q226
                 have p227 : 0 ≤ (x6_2 : Int) := oD
                 have q227 : x6_2 < (l0.length : Int) := oD
                 obtain ⟨ad227, A227_0, c227_0, e227, hx227_0, hl227_0, hi227_0⟩ := at_L3 HR0.out x6_2 p227 q227
                 obtain rfl : ad225 = ad227 := (by injection e227)
                 replace hx227_0 := (cB HB.out hx227_0 :)
                 have HR227_0 := Aside0.mk hi227_0
                 have HC227_0 := Aside0.mk hl227_0
                 clear hi227_0 hl227_0
                 replace p227 := eq_true p227
                 replace q227 := eq_true q227
                 have p228 : 0 ≤ (x7_3 : Int) := oD
                 have q228 : x7_3 < ((rd_L3 l0 x6_2).length : Int) := oD
                 obtain ⟨ad228, e228, hx228_0⟩ := Kd.at_bool HR227_0.out x7_3 p228 q228
                 (try rw [← Nbq12.out] at hx228_0)
                 (try rw [← Nbq17.out] at hx228_0)
                 (try rw [← Nbq21.out] at hx228_0)
                 cases e228
                 replace hx228_0 := (cB HB.out hx228_0 :)
                 replace p228 := eq_true p228
                 replace q228 := eq_true q228
                 have p229 : 0 ≤ (x6_2 : Int) := oD
                 have q229 : x6_2 < (l0.length : Int) := oD
                 obtain ⟨ad229, A229_0, c229_0, e229, hx229_0, hl229_0, hi229_0⟩ := at_L3 HR0.out x6_2 p229 q229
                 obtain rfl : ad225 = ad229 := (by injection e229)
                 replace hx229_0 := (cB HB.out hx229_0 :)
                 have HR229_0 := Aside0.mk hi229_0
                 have HC229_0 := Aside0.mk hl229_0
                 clear hi229_0 hl229_0
                 replace p229 := eq_true p229
                 replace q229 := eq_true q229
                 have ea_ := Option.some.inj (hx227_0.symm.trans hx229_0)
                 injection ea_ with ea_ en_ ec_
                 subst ea_
                 subst ec_
                 clear en_
                 have p230 : 0 ≤ (x8_4 : Int) := oD
                 have q230 : x8_4 < ((rd_L3 l0 x6_2).length : Int) := oD
                 obtain ⟨ad230, e230, hx230_0⟩ := Kd.at_bool HR229_0.out x8_4 p230 q230
                 (try rw [← Nbq12.out] at hx230_0)
                 (try rw [← Nbq17.out] at hx230_0)
                 (try rw [← Nbq21.out] at hx230_0)
                 cases e230
                 replace hx230_0 := (cB HB.out hx230_0 :)
                 replace p230 := eq_true p230
                 replace q230 := eq_true q230
                 go_wp2_with (first | (go_at_call 98; (with_reducible refine (impl_isSeriesParallel_1.calls x5_1 x6_2 (some ad225) c0 l0 false _ ?side1 ?side2 ?side3 A23.out).mono ?_); (case side1 => repeat (first | exact (Kd.C_below HR0.out HB.out) | (with_reducible refine Kd.C_alloc ?_ _) | (with_reducible refine Kd.C_drewN ?_ _) | (with_reducible refine Kd.C_drew ?_))); (case side2 => exact HC0.out); (case side3 => exact (by (with_reducible repeat (first | refine blk_drewN ?_ _ | refine blk_drew ?_ | refine blk_alloc ?_ _)); exact BK224.out)); rintro e w' ⟨rfl, ⟨nd, rfl⟩⟩))
                 go_roundg k4
                 case measure => have := HK1.out; have := HK2.out; have := HK3.out; have := HK4.out; omega
                 case rel => exact ⟨(wrap64 (x8_4 + 1)), sD, H', ⟨by have := HK1.out; have := HK2.out; have := HK3.out; have := HK4.out; omega⟩, ⟨kB⟩, ⟨by repeat (first | (with_reducible first | exact HB.out | apply below_alloc | apply pw_below_drewN | apply below_drew1 | refine below_set ?_ GE224.out) | exact HB.out)⟩⟩
               ·replace c22 := Bool.eq_false_iff.mpr c22
                subst c22
                have H1 : (impl_isSeriesParallel.l3 k4 (l0.length : Int) x5_1 x6_2 x7_3 (wrap64 (x8_4 + 1)) l0) = some r := by rw [if_neg (show ¬ (false = true) by decide)] at H; exact H
                clear H
                have H := H1
                clear H1
                have H' := Aside0.mk H
                clear H
                have hcz33_0 : wr.cell? ⟨gb224, 0, none⟩ = some (.slice A0 l0.length c0) := (blk_cell BK224.out 0).trans rfl
                have hfz33_0 := blk_frozen BK224.out 0
                have p225 : 0 ≤ (x5_1 : Int) := oD
                have q225 : x5_1 < (l0.length : Int) := oD
                obtain ⟨ad225, A225_0, c225_0, e225, hx225_0, hl225_0, hi225_0⟩ := at_L3 HR0.out x5_1 p225 q225
                cases e225
                replace hx225_0 := (cB HB.out hx225_0 :)
                have HR225_0 := Aside0.mk hi225_0
                have HC225_0 := Aside0.mk hl225_0
                clear hi225_0 hl225_0
                replace p225 := eq_true p225
                replace q225 := eq_true q225
                have p226 : 0 ≤ (x7_3 : Int) := oD
                have q226 : x7_3 < ((rd_L3 l0 x5_1).length : Int) := oD
                obtain ⟨ad226, e226, hx226_0⟩ := Kd.at_bool HR225_0.out x7_3 p226 q226
                (try rw [← Nbq12.out] at hx226_0)
                (try rw [← Nbq17.out] at hx226_0)
                (try rw [← Nbq21.out] at hx226_0)
                cases e226
                replace hx226_0 := (cB HB.out hx226_0 :)
                replace p226 := eq_true p226
                replace q226 := eq_true q226
                have p227 : 0 ≤ (x6_2 : Int) := oD
                have q227 : x6_2 < (l0.length : Int) := oD
                obtain ⟨ad227, A227_0, c227_0, e227, hx227_0, hl227_0, hi227_0⟩ := at_L3 HR0.out x6_2 p227 q227
                obtain rfl : ad225 = ad227 := (by injection e227)
                replace hx227_0 := (cB HB.out hx227_0 :)
                have HR227_0 := Aside0.mk hi227_0
                have HC227_0 := Aside0.mk hl227_0
                clear hi227_0 hl227_0
                replace p227 := eq_true p227
                replace q227 := eq_true q227
                have p228 : 0 ≤ (x7_3 : Int) := oD
                have q228 : x7_3 < ((rd_L3 l0 x6_2).length : Int) := oD
                obtain ⟨ad228, e228, hx228_0⟩ := Kd.at_bool HR227_0.out x7_3 p228 q228
                (try rw [← Nbq12.out] at hx228_0)
                (try rw [← Nbq17.out] at hx228_0)
                (try rw [← Nbq21.out] at hx228_0)
                cases e228
                replace hx228_0 := (cB HB.out hx228_0 :)
                replace p228 := eq_true p228
                replace q228 := eq_true q228
                have p229 : 0 ≤ (x6_2 : Int) := oD
                have q229 : x6_2 < (l0.length : Int) := oD
                obtain ⟨ad229, A229_0, c229_0, e229, hx229_0, hl229_0, hi229_0⟩ := at_L3 HR0.out x6_2 p229 q229
                obtain rfl : ad225 = ad229 := (by injection e229)
                replace hx229_0 := (cB HB.out hx229_0 :)
                have HR229_0 := Aside0.mk hi229_0
                have HC229_0 := Aside0.mk hl229_0
                clear hi229_0 hl229_0
                replace p229 := eq_true p229
                replace q229 := eq_true q229
                have ea_ := Option.some.inj (hx227_0.symm.trans hx229_0)
                injection ea_ with ea_ en_ ec_
                subst ea_
                subst ec_
                clear en_
                have p230 : 0 ≤ (x8_4 : Int) := oD
                have q230 : x8_4 < ((rd_L3 l0 x6_2).length : Int) := oD
                obtain ⟨ad230, e230, hx230_0⟩ := Kd.at_bool HR229_0.out x8_4 p230 q230
                (try rw [← Nbq12.out] at hx230_0)
                (try rw [← Nbq17.out] at hx230_0)
                (try rw [← Nbq21.out] at hx230_0)
                cases e230
                replace hx230_0 := (cB HB.out hx230_0 :)
                replace p230 := eq_true p230
                replace q230 := eq_true q230
                go_wp2
                go_roundg k4
                case measure => have := HK1.out; have := HK2.out; have := HK3.out; have := HK4.out; omega
                case rel => exact ⟨(wrap64 (x8_4 + 1)), sD, H', ⟨by have := HK1.out; have := HK2.out; have := HK3.out; have := HK4.out; omega⟩, ⟨kB⟩, ⟨by repeat (first | (with_reducible first | exact HB.out | apply below_alloc | apply pw_below_drewN | apply below_drew1 | refine below_set ?_ GE224.out) | exact HB.out)⟩⟩
              ·replace c18 := Bool.eq_false_iff.mpr c18
               subst c18
               have H1 : (impl_isSeriesParallel.l3 k4 (l0.length : Int) x5_1 x6_2 x7_3 (wrap64 (x8_4 + 1)) l0) = some r := by rw [if_neg (show ¬ (false = true) by decide)] at H; exact H
               clear H
               have H := H1
               clear H1
               have H' := Aside0.mk H
               clear H
               have hcz34_0 : wr.cell? ⟨gb224, 0, none⟩ = some (.slice A0 l0.length c0) := (blk_cell BK224.out 0).trans rfl
               have hfz34_0 := blk_frozen BK224.out 0
               have p225 : 0 ≤ (x5_1 : Int) := oD
               have q225 : x5_1 < (l0.length : Int) := oD
               obtain ⟨ad225, A225_0, c225_0, e225, hx225_0, hl225_0, hi225_0⟩ := at_L3 HR0.out x5_1 p225 q225
               cases e225
               replace hx225_0 := (cB HB.out hx225_0 :)
               have HR225_0 := Aside0.mk hi225_0
               have HC225_0 := Aside0.mk hl225_0
               clear hi225_0 hl225_0
               replace p225 := eq_true p225
               replace q225 := eq_true q225
               have p226 : 0 ≤ (x7_3 : Int) := oD
               have q226 : x7_3 < ((rd_L3 l0 x5_1).length : Int) := oD
               obtain ⟨ad226, e226, hx226_0⟩ := Kd.at_bool HR225_0.out x7_3 p226 q226
               (try rw [← Nbq12.out] at hx226_0)
               (try rw [← Nbq17.out] at hx226_0)
               cases e226
               replace hx226_0 := (cB HB.out hx226_0 :)
               replace p226 := eq_true p226
               replace q226 := eq_true q226
               have p227 : 0 ≤ (x6_2 : Int) := oD
               have q227 : x6_2 < (l0.length : Int) := oD
               obtain ⟨ad227, A227_0, c227_0, e227, hx227_0, hl227_0, hi227_0⟩ := at_L3 HR0.out x6_2 p227 q227
               obtain rfl : ad225 = ad227 := (by injection e227)
               replace hx227_0 := (cB HB.out hx227_0 :)
               have HR227_0 := Aside0.mk hi227_0
               have HC227_0 := Aside0.mk hl227_0
               clear hi227_0 hl227_0
               replace p227 := eq_true p227
               replace q227 := eq_true q227
               have p228 : 0 ≤ (x7_3 : Int) := oD
               have q228 : x7_3 < ((rd_L3 l0 x6_2).length : Int) := oD
               obtain ⟨ad228, e228, hx228_0⟩ := Kd.at_bool HR227_0.out x7_3 p228 q228
               (try rw [← Nbq12.out] at hx228_0)
               (try rw [← Nbq17.out] at hx228_0)
               cases e228
               replace hx228_0 := (cB HB.out hx228_0 :)
               replace p228 := eq_true p228
               replace q228 := eq_true q228
               go_wp2
               go_roundg k4
               case measure => have := HK1.out; have := HK2.out; have := HK3.out; have := HK4.out; omega
               case rel => exact ⟨(wrap64 (x8_4 + 1)), sD, H', ⟨by have := HK1.out; have := HK2.out; have := HK3.out; have := HK4.out; omega⟩, ⟨kB⟩, ⟨by repeat (first | (with_reducible first | exact HB.out | apply below_alloc | apply pw_below_drewN | apply below_drew1 | refine below_set ?_ GE224.out) | exact HB.out)⟩⟩
             ·replace c13 := Bool.eq_false_iff.mpr c13
              subst c13
              have H1 : (impl_isSeriesParallel.l3 k4 (l0.length : Int) x5_1 x6_2 x7_3 (wrap64 (x8_4 + 1)) l0) = some r := by rw [if_neg (show ¬ (false = true) by decide)] at H; exact H
              clear H
              have H := H1
              clear H1
              have H' := Aside0.mk H
              clear H
              have hcz35_0 : wr.cell? ⟨gb224, 0, none⟩ = some (.slice A0 l0.length c0) := (blk_cell BK224.out 0).trans rfl
              have hfz35_0 := blk_frozen BK224.out 0
              have p225 : 0 ≤ (x5_1 : Int) := oD
              have q225 : x5_1 < (l0.length : Int) := oD
              obtain ⟨ad225, A225_0, c225_0, e225, hx225_0, hl225_0, hi225_0⟩ := at_L3 HR0.out x5_1 p225 q225
              cases e225
              replace hx225_0 := (cB HB.out hx225_0 :)
              have HR225_0 := Aside0.mk hi225_0
              have HC225_0 := Aside0.mk hl225_0
              clear hi225_0 hl225_0
              replace p225 := eq_true p225
              replace q225 := eq_true q225
              have p226 : 0 ≤ (x7_3 : Int) := oD
              have q226 : x7_3 < ((rd_L3 l0 x5_1).length : Int) := oD
              obtain ⟨ad226, e226, hx226_0⟩ := Kd.at_bool HR225_0.out x7_3 p226 q226
              (try rw [← Nbq12.out] at hx226_0)
              cases e226
              replace hx226_0 := (cB HB.out hx226_0 :)
              replace p226 := eq_true p226
              replace q226 := eq_true q226
              go_wp2
              go_roundg k4
              case measure => have := HK1.out; have := HK2.out; have := HK3.out; have := HK4.out; omega
              case rel => exact ⟨(wrap64 (x8_4 + 1)), sD, H', ⟨by have := HK1.out; have := HK2.out; have := HK3.out; have := HK4.out; omega⟩, ⟨kB⟩, ⟨by repeat (first | (with_reducible first | exact HB.out | apply below_alloc | apply pw_below_drewN | apply below_drew1 | refine below_set ?_ GE224.out) | exact HB.out)⟩⟩
            ·rw [if_neg c7] at H
             have c7b0 : decide (x8_4 < (l0.length : Int)) = false := decide_eq_false c7
             clear c7
             have H' := Aside0.mk H
             clear H
             go_wp2
             go_roundg k4
             case measure => have := HK1.out; have := HK2.out; have := HK3.out; have := HK4.out; omega
             case rel => exact ⟨(wrap64 (x7_3 + 1)), sD, H', ⟨by have := HK1.out; have := HK2.out; have := HK3.out; have := HK4.out; omega⟩, ⟨kB⟩, ⟨by repeat (first | (with_reducible first | exact HB.out | apply below_alloc | apply pw_below_drewN | apply below_drew1 | refine below_set ?_ GE224.out) | exact HB.out)⟩⟩
         ·rw [if_neg c6] at H
          have c6b0 : decide (x7_3 < (l0.length : Int)) = false := decide_eq_false c6
          clear c6
          have H' := Aside0.mk H
          clear H
          go_wp2
          go_roundg k3
          case measure => have := HK1.out; have := HK2.out; have := HK3.out; omega
          case rel => exact ⟨(wrap64 (x6_2 + 1)), sD, H', ⟨by have := HK1.out; have := HK2.out; have := HK3.out; omega⟩, ⟨kB⟩, ⟨by repeat (first | (with_reducible first | exact HB.out | apply below_alloc | apply pw_below_drewN | apply below_drew1 | refine below_set ?_ GE224.out) | exact HB.out)⟩⟩
      ·rw [if_neg c5] at H
       have c5b0 : decide (x6_2 < (l0.length : Int)) = false := decide_eq_false c5
       clear c5
       have H' := Aside0.mk H
       clear H
       go_wp2
       go_roundg k2
       case measure => have := HK1.out; have := HK2.out; omega
       case rel => exact ⟨(wrap64 (x5_1 + 1)), sD, H', ⟨by have := HK1.out; have := HK2.out; omega⟩, ⟨kB⟩, ⟨by repeat (first | (with_reducible first | exact HB.out | apply below_alloc | apply pw_below_drewN | apply below_drew1 | refine below_set ?_ GE224.out) | exact HB.out)⟩⟩
   ·rw [if_neg c4] at H
    have c4b0 : decide (x5_1 < (l0.length : Int)) = false := decide_eq_false c4
    clear c4
    obtain rfl := Option.some.inj H
    go_wp2
    go_ret
    exact ⟨rE, bS⟩

end Go.Proofs.Ytafhfmggehaknaa.OFnExactIsSeriesParallel
