/- Functions of the program as plain Lean functions, with their contracts: written by this session's program ownprint.py. Conditions: none. -/
import Derived.Test.YtecdigebnhlfhaaOFnExactTotalEndx0
import Derived.Test.YtecdigebnhlfhaaOFnExactTotalEndx3
namespace Go.Proofs.Ytecdigebnhlfhaa.OFnExactTotalEnd
open Go.RowKit Go.Proofs.YtecdigebnhlfhaaW.PrintWords Go.Proofs.YtecdigebnhlfhaaW.PrintLast Go.Proofs.YtecdigebnhlfhaaW.PrintMore
attribute [local go_sem] max2_int min2_int max_two min_two max_three min_three max_four min_four   -- for this text's walks alone
set_option linter.unusedVariables false
set_option linter.unusedSimpArgs false

/-! ### impl_listPlan: function 103 -/
mutual
def impl_listPlan.l0 : Nat → List Int → List Int → Int → Int → List (S79) → List (List Bool) → List (S91) → List Bool → Option ((List (S91)))
 | 0, _, _, _, _, _, _, _, _ => none
 | k + 1, x3, x12, x14, x15, x345000, x349000, x353000, x357000 => if x15 > 0 then (impl_listPlan.l1 k x3 x12 x14 x15 (x12.length : Int) 0 x345000 x349000 x353000 x357000) else (some x353000)
def impl_listPlan.l1 : Nat → List Int → List Int → Int → Int → Int → Int → List (S79) → List (List Bool) → List (S91) → List Bool → Option ((List (S91)))
 | 0, _, _, _, _, _, _, _, _, _, _ => none
 | k + 1, x3, x12, x14, x15, x39, x40, x345000, x349000, x353000, x357000 => if x40 < x39 then (if 0 ≤ x40 then (if x40 < (x12.length : Int) then (if (rd x12 x40) > x14 then (impl_listPlan.l1 k x3 x12 x14 x15 x39 (wrap64 (x40 + 1)) x345000 x349000 x353000 x357000) else (impl_listPlan.l2 k x3 x12 x14 x15 x40 x39 x40 x3 (x3.length : Int) 0 x345000 x349000 x353000 x357000)) else (none)) else (none)) else (impl_listPlan.l0 k x3 x12 (wrap64 (x14 + 1)) x15 x345000 x349000 x353000 x357000)
def impl_listPlan.l2 : Nat → List Int → List Int → Int → Int → Int → Int → Int → List Int → Int → Int → List (S79) → List (List Bool) → List (S91) → List Bool → Option ((List (S91)))
 | 0, _, _, _, _, _, _, _, _, _, _, _, _, _, _ => none
 | k + 1, x3, x12, x14, x15, x16, x39, x40, x49, x50, x51, x345000, x349000, x353000, x357000 => if x51 < x50 then (if 0 ≤ x51 then (if x51 < (x49.length : Int) then ((impl_listPlan_1.f k (rd x49 x51) x14 x357000 x345000 x349000 x353000).bind fun t362 => (if t362 = true then (if 0 ≤ (rd x49 x51) then (if (rd x49 x51) < (x353000.length : Int) then (if (rd x49 x51) < (x357000.length : Int) then (if (rd x49 x51) < (x345000.length : Int) then (if 0 ≤ x16 then (if x16 < (x12.length : Int) then (impl_listPlan.l1 k x3 (x12.set (x16 : Int).toNat (wrap64 (x14 + ((rd_T79 x345000 (rd x49 x51)).f0)))) x14 (wrap64 (x15 - 1)) x39 (wrap64 (x40 + 1)) x345000 x349000 (x353000.set ((rd x49 x51) : Int).toNat (⟨rd x49 x51, x16, x14⟩ : S91)) (x357000.set ((rd x49 x51) : Int).toNat true)) else (none)) else (none)) else (none)) else (none)) else (none)) else (none)) else (impl_listPlan.l2 k x3 x12 x14 x15 x16 x39 x40 x49 x50 (wrap64 (x51 + 1)) x345000 x349000 x353000 x357000))) else (none)) else (none)) else (impl_listPlan.l1 k x3 x12 x14 x15 x39 (wrap64 (x40 + 1)) x345000 x349000 x353000 x357000)
end
def impl_listPlan.f (k : Nat) (l0 : List (S79)) (a1 : Int) (l2 : List (S71)) (l3 : List Int) : Option ((List (S91))) := (impl_closure.f k (l0.length : Int) l2).bind fun t345 => (if 0 ≤ (l0.length : Int) then (if ((l0.length : Int) : Int).toNat ≤ 11728124029610 then (if ((l0.length : Int) : Int).toNat ≤ 281474976710656 then (if 0 ≤ a1 then (if (a1 : Int).toNat ≤ 35184372088832 then (impl_listPlan.l0 k l3 (List.replicate (a1 : Int).toNat 0) 0 (l0.length : Int) l0 t345 (List.replicate ((l0.length : Int) : Int).toNat z91) (List.replicate ((l0.length : Int) : Int).toNat false)) else (none)) else (none)) else (none)) else (none)) else (none))
theorem impl_listPlan.mono_l : ∀ k, (∀ y0 y1 y2 y3 y4 y5 y6 y7, LeO (impl_listPlan.l0 k y0 y1 y2 y3 y4 y5 y6 y7) (impl_listPlan.l0 (k + 1) y0 y1 y2 y3 y4 y5 y6 y7)) ∧ (∀ y0 y1 y2 y3 y4 y5 y6 y7 y8 y9, LeO (impl_listPlan.l1 k y0 y1 y2 y3 y4 y5 y6 y7 y8 y9) (impl_listPlan.l1 (k + 1) y0 y1 y2 y3 y4 y5 y6 y7 y8 y9)) ∧ (∀ y0 y1 y2 y3 y4 y5 y6 y7 y8 y9 y10 y11 y12 y13, LeO (impl_listPlan.l2 k y0 y1 y2 y3 y4 y5 y6 y7 y8 y9 y10 y11 y12 y13) (impl_listPlan.l2 (k + 1) y0 y1 y2 y3 y4 y5 y6 y7 y8 y9 y10 y11 y12 y13))
 | 0 => ⟨fun _ _ _ _ _ _ _ _ r h => by simp [impl_listPlan.l0] at h, fun _ _ _ _ _ _ _ _ _ _ r h => by simp [impl_listPlan.l1] at h, fun _ _ _ _ _ _ _ _ _ _ _ _ _ _ r h => by simp [impl_listPlan.l2] at h⟩
 | k + 1 => by
  obtain ⟨ih0, ih1, ih2⟩ := impl_listPlan.mono_l k; refine ⟨?_, ?_, ?_⟩
  ·intro y0 y1 y2 y3 y4 y5 y6 y7
   unfold impl_listPlan.l0
   repeat' first
   | (with_reducible exact ih0 _ _ _ _ _ _ _ _)
   | (with_reducible exact ih1 _ _ _ _ _ _ _ _ _ _)
   | (with_reducible exact ih2 _ _ _ _ _ _ _ _ _ _ _ _ _ _)
   | (with_reducible exact impl_closure.mono _ _ _)
   | (with_reducible exact impl_listPlan_1.mono _ _ _ _ _ _ _)
   | (with_reducible exact LeO.refl _)
   | (with_reducible exact LeO.none _)
   | (with_reducible refine LeO.ite ?_ ?_)
   | (with_reducible refine LeO.bind ?_ (fun _ => ?_))
   | exact ih0 _ _ _ _ _ _ _ _
   | exact ih1 _ _ _ _ _ _ _ _ _ _
   | exact ih2 _ _ _ _ _ _ _ _ _ _ _ _ _ _
   | exact impl_closure.mono _ _ _
   | exact impl_listPlan_1.mono _ _ _ _ _ _ _
   | exact LeO.none _
   | refine LeO.ite ?_ ?_
   | refine LeO.bind ?_ (fun _ => ?_)
  ·intro y0 y1 y2 y3 y4 y5 y6 y7 y8 y9
   unfold impl_listPlan.l1
   repeat' first
   | (with_reducible exact ih0 _ _ _ _ _ _ _ _)
   | (with_reducible exact ih1 _ _ _ _ _ _ _ _ _ _)
   | (with_reducible exact ih2 _ _ _ _ _ _ _ _ _ _ _ _ _ _)
   | (with_reducible exact impl_closure.mono _ _ _)
   | (with_reducible exact impl_listPlan_1.mono _ _ _ _ _ _ _)
   | (with_reducible exact LeO.refl _)
   | (with_reducible exact LeO.none _)
   | (with_reducible refine LeO.ite ?_ ?_)
   | (with_reducible refine LeO.bind ?_ (fun _ => ?_))
   | exact ih0 _ _ _ _ _ _ _ _
   | exact ih1 _ _ _ _ _ _ _ _ _ _
   | exact ih2 _ _ _ _ _ _ _ _ _ _ _ _ _ _
   | exact impl_closure.mono _ _ _
   | exact impl_listPlan_1.mono _ _ _ _ _ _ _
   | exact LeO.none _
   | refine LeO.ite ?_ ?_
   | refine LeO.bind ?_ (fun _ => ?_)
  ·intro y0 y1 y2 y3 y4 y5 y6 y7 y8 y9 y10 y11 y12 y13
   unfold impl_listPlan.l2
   repeat' first
   | (with_reducible exact ih0 _ _ _ _ _ _ _ _)
   | (with_reducible exact ih1 _ _ _ _ _ _ _ _ _ _)
   | (with_reducible exact ih2 _ _ _ _ _ _ _ _ _ _ _ _ _ _)
   | (with_reducible exact impl_closure.mono _ _ _)
   | (with_reducible exact impl_listPlan_1.mono _ _ _ _ _ _ _)
   | (with_reducible exact LeO.refl _)
   | (with_reducible exact LeO.none _)
   | (with_reducible refine LeO.ite ?_ ?_)
   | (with_reducible refine LeO.bind ?_ (fun _ => ?_))
   | exact ih0 _ _ _ _ _ _ _ _
   | exact ih1 _ _ _ _ _ _ _ _ _ _
   | exact ih2 _ _ _ _ _ _ _ _ _ _ _ _ _ _
   | exact impl_closure.mono _ _ _
   | exact impl_listPlan_1.mono _ _ _ _ _ _ _
   | exact LeO.none _
   | refine LeO.ite ?_ ?_
   | refine LeO.bind ?_ (fun _ => ?_)
theorem impl_listPlan.mono : ∀ a0 a1 a2 a3 k, LeO (impl_listPlan.f k a0 a1 a2 a3) (impl_listPlan.f (k + 1) a0 a1 a2 a3) := by
 intro a0 a1 a2 a3 k; obtain ⟨ih0, ih1, ih2⟩ := impl_listPlan.mono_l k; unfold impl_listPlan.f
 repeat' first
   | (with_reducible exact ih0 _ _ _ _ _ _ _ _)
   | (with_reducible exact ih1 _ _ _ _ _ _ _ _ _ _)
   | (with_reducible exact ih2 _ _ _ _ _ _ _ _ _ _ _ _ _ _)
   | (with_reducible exact impl_closure.mono _ _ _)
   | (with_reducible exact impl_listPlan_1.mono _ _ _ _ _ _ _)
   | (with_reducible exact LeO.refl _)
   | (with_reducible exact LeO.none _)
   | (with_reducible refine LeO.ite ?_ ?_)
   | (with_reducible refine LeO.bind ?_ (fun _ => ?_))
   | exact ih0 _ _ _ _ _ _ _ _
   | exact ih1 _ _ _ _ _ _ _ _ _ _
   | exact ih2 _ _ _ _ _ _ _ _ _ _ _ _ _ _
   | exact impl_closure.mono _ _ _
   | exact impl_listPlan_1.mono _ _ _ _ _ _ _
   | exact LeO.none _
   | refine LeO.ite ?_ ?_
   | refine LeO.bind ?_ (fun _ => ?_)
def LpAt (b0 g10 g11 : Nat) (AP : Option Addr) (nP cP : Nat) (AS : Option Addr) (nS cS : Nat) (AF : Option Addr) (nF cF : Nat) (W : World) (P : List S91) (S : List Bool) (F : List Int) : Prop :=
  W.heap[g10]? = some (.cells #[.slice AP nP cP] 52 (0, 0)) ∧ W.heap[g11]? = some (.cells #[.slice AS nS cS] 80 (0, 0)) ∧ Kd.R k91 91 W b0 (fun _ => True) (.slice AP nP cP) P ∧ Kd.R Kd.bool 4 W b0 (fun _ => True) (.slice AS nS cS) S ∧ Kd.R (Kd.int .i64) 3 W b0 (fun _ => True) (.slice AF nF cF) F
section
variable {b0 g10 g11 nP cP nS cS nF cF : Nat} {AP AS AF : Option Addr} {W W' : World} {P : List S91} {S : List Bool} {F : List Int}
theorem LpAt.below (h : LpAt b0 g10 g11 AP nP cP AS nS cS AF nF cF W P S F) (hb : Below W.heap.size W W') : LpAt b0 g10 g11 AP nP cP AS nS cS AF nF cF W' P S F := ⟨blk_below h.1 hb, blk_below h.2.1 hb, Kd.R_below h.2.2.1 hb, Kd.R_below h.2.2.2.1 hb, Kd.R_below h.2.2.2.2 hb⟩
/-- A number stored into the row of free times. -/
theorem LpAt.setF (h : LpAt b0 g10 g11 AP nP cP AS nS cS AF nF cF W P S F) (i : Int) (h0 : 0 ≤ i) (h1 : i < (nF : Int)) : ∃ g : Nat, AF = some ⟨g, 0, none⟩ ∧ b0 ≤ g ∧ W.cell? ⟨g, i.toNat, none⟩ = some (.int .i64 (rd F i)) ∧ W.frozen? ⟨g, i.toNat, none⟩ = false ∧ ∀ v : Int, LpAt b0 g10 g11 AP nP cP AS nS cS AF nF cF (W.setCell ⟨g, i.toNat, none⟩ (.int .i64 v)) P S (F.set i.toNat v) := by
  obtain ⟨k1, k2, k3, k4, k5⟩ := h
  obtain ⟨g, cp, e, gb, _, _, _⟩ := Kd.R_form k5 (by have := (Kd.R_reads' k5).1; omega)
  injection e with ea _ ec
  subst ea
  obtain ⟨c1, c2⟩ := Kd.R_celln 0 k5 i h0 h1
  refine ⟨g, rfl, gb, c1, c2, fun v => ?_⟩
  have hp := Kd.R_putg k5 i v
  exact ⟨blk_grown k1 hp.2 (Kd.R_ne k5 k1 (by decide)), blk_grown k2 hp.2 (Kd.R_ne k5 k2 (by decide)), Kd.R_over' (v := .slice (some ⟨g, 0, none⟩) nF cF) k3 (Kd.R_typed k5) (by decide) hp.2, Kd.R_over' (v := .slice (some ⟨g, 0, none⟩) nF cF) k4 (Kd.R_typed k5) (by decide) hp.2, hp.1⟩
theorem LpAt.setS (h : LpAt b0 g10 g11 AP nP cP AS nS cS AF nF cF W P S F) (i : Int) (h0 : 0 ≤ i) (h1 : i < (nS : Int)) : ∃ g : Nat, AS = some ⟨g, 0, none⟩ ∧ b0 ≤ g ∧ W.cell? ⟨g, i.toNat, none⟩ = some (.bool (rdOf false S i)) ∧ W.frozen? ⟨g, i.toNat, none⟩ = false ∧ ∀ v : Bool, LpAt b0 g10 g11 AP nP cP AS nS cS AF nF cF (W.setCell ⟨g, i.toNat, none⟩ (.bool v)) P (S.set i.toNat v) F := by
  obtain ⟨k1, k2, k3, k4, k5⟩ := h
  obtain ⟨g, cp, e, gb, _, _, _⟩ := Kd.R_form k4 (by have := (Kd.R_reads' k4).1; omega)
  injection e with ea _ ec
  subst ea
  obtain ⟨c1, c2⟩ := Kd.R_celln false k4 i h0 h1
  refine ⟨g, rfl, gb, c1, c2, fun v => ?_⟩
  have hp := Kd.R_putg k4 i v
  exact ⟨blk_grown k1 hp.2 (Kd.R_ne k4 k1 (by decide)), blk_grown k2 hp.2 (Kd.R_ne k4 k2 (by decide)), Kd.R_over' (v := .slice (some ⟨g, 0, none⟩) nS cS) k3 (Kd.R_typed k4) (by decide) hp.2, hp.1, Kd.R_over' (v := .slice (some ⟨g, 0, none⟩) nS cS) k5 (Kd.R_typed k4) (by decide) hp.2⟩
theorem LpAt.setP (h : LpAt b0 g10 g11 AP nP cP AS nS cS AF nF cF W P S F) (i : Int) (h0 : 0 ≤ i) (h1 : i < (nP : Int)) : ∃ g : Nat, AP = some ⟨g, 0, none⟩ ∧ b0 ≤ g ∧ (∃ u0 u1 u2, W.cell? ⟨g, i.toNat * 3, none⟩ = some u0 ∧ W.cell? ⟨g, i.toNat * 3 + 1, none⟩ = some u1 ∧ W.cell? ⟨g, i.toNat * 3 + 2, none⟩ = some u2) ∧ (W.frozen? ⟨g, i.toNat * 3, none⟩ = false ∧ W.frozen? ⟨g, i.toNat * 3 + 1, none⟩ = false ∧ W.frozen? ⟨g, i.toNat * 3 + 2, none⟩ = false) ∧
    ∀ a b c : Int, LpAt b0 g10 g11 AP nP cP AS nS cS AF nF cF (((W.setCell ⟨g, i.toNat * 3, none⟩ (.int .i64 a)).setCell ⟨g, i.toNat * 3 + 1, none⟩ (.int .i64 b)).setCell ⟨g, i.toNat * 3 + 2, none⟩ (.int .i64 c)) (P.set i.toNat ⟨a, b, c⟩) S F := by
  obtain ⟨k1, k2, k3, k4, k5⟩ := h
  obtain ⟨g, cp, e, gb, _, _, _⟩ := Kd.R_form k3 (by have := (Kd.R_reads' k3).1; omega)
  injection e with ea _ ec
  subst ea
  obtain ⟨ce, hcl, hM, hcc, hfr⟩ := Kd.R_elem k3 z91 i h0 h1
  obtain rfl := k91_openM hM
  refine ⟨g, rfl, gb, ⟨_, _, _, hcc 0 _ rfl, hcc 1 _ rfl, hcc 2 _ rfl⟩, ⟨hfr 0, hfr 1, hfr 2⟩, fun a b c => ?_⟩
  have hp := Kd.R_seg k3 i h0 h1 (seg := [.int .i64 a, .int .i64 b, .int .i64 c]) (j := 0) hcl hcc (show 3 ≤ 3 from by decide) (x' := (⟨a, b, c⟩ : S91)) (k91_mkM _ _ _ (⟨a, b, c⟩ : S91)) (fun _ hk => hk)
  exact ⟨blk_grown k1 hp.2 (Kd.R_ne k3 k1 (by decide)), blk_grown k2 hp.2 (Kd.R_ne k3 k2 (by decide)), hp.1, Kd.R_over' (v := .slice (some ⟨g, 0, none⟩) nP cP) k4 (Kd.R_typed k3) (by decide) hp.2, Kd.R_over' (v := .slice (some ⟨g, 0, none⟩) nP cP) k5 (Kd.R_typed k3) (by decide) hp.2⟩
end
def impl_listPlan.T6 : Bool × List (List Nat × List Nat) := (true, [([], []), ([0], [0]), ([], []), ([1, 2, 0, 1, 2], [1])])
def impl_listPlan.B6 : List Nat := [0, 1, 0, 7]
theorem impl_listPlan.tab6 : rtab .any (opsOf Try.f103 6) = impl_listPlan.T6 := by kernel_rfl
theorem impl_listPlan.bits6 : waitsOk impl_listPlan.T6.2 impl_listPlan.B6 = true := by kernel_rfl
set_option maxHeartbeats 8000000 in
set_option maxRecDepth 100000 in
theorem impl_listPlan.calls (k : Nat) (A0 : Option Addr) (c0 : Nat) (l0 : List (S79)) (a1 : Int) (A2 : Option Addr) (c2 : Nat) (l2 : List (S71)) (A3 : Option Addr) (c3 : Nat) (l3 : List Int) (r : List (S91)) (w : World) (hr0 : Kd.C k79 w A0 l0.length l0) (hc0 : l0.length ≤ c0) (hr2 : Kd.C k71 w A2 l2.length l2) (hc2 : l2.length ≤ c2) (hr3 : Kd.C (Kd.int .i64) w A3 l3.length l3) (hc3 : l3.length ≤ c3) (h : impl_listPlan.f k l0 a1 l2 l3 = some r) :
  Calls Try.prog 103 #[.slice A0 l0.length c0, .int .i64 a1, .slice A2 l2.length c2, .slice A3 l3.length c3] w fun e w' => ∃ v0_ : Value, e = .returned (v0_) ∧ Kd.R k91 91 w' w.heap.size (fun _ => True) v0_ r ∧ Below w.heap.size w w' := by
 have HR0 := aM hr0
 have HC0 := aM hc0
 have HR2 := aM hr2
 have HC2 := aM hc2
 have HR3 := aM hr3
 clear hr0 hc0 hr2 hc2 hr3 hc3
 have HB := aM (Below.refl w.heap.size w)
 obtain ⟨tb, htb, h⟩ := oB h
 have HTB := aM htb
 clear htb
 by_cases e1 : 0 ≤ (l0.length : Int)
 case neg => rw [if_neg e1] at h; exact absurd h (by simp)
 rw [if_pos e1] at h
 by_cases e2 : ((l0.length : Int) : Int).toNat ≤ 11728124029610
 case neg => rw [if_neg e2] at h; exact absurd h (by simp)
 rw [if_pos e2] at h
 by_cases e3 : ((l0.length : Int) : Int).toNat ≤ 281474976710656
 case neg => rw [if_neg e3] at h; exact absurd h (by simp)
 rw [if_pos e3] at h
 by_cases e4 : 0 ≤ a1
 case neg => rw [if_neg e4] at h; exact absurd h (by simp)
 rw [if_pos e4] at h
 by_cases e5 : (a1 : Int).toNat ≤ 35184372088832
 case neg => rw [if_neg e5] at h; exact absurd h (by simp)
 rw [if_pos e5] at h
 obtain ⟨F0, hF0⟩ : ∃ y_ : List Int, y_ = List.replicate (a1 : Int).toNat 0 := ⟨_, rfl⟩
 obtain ⟨P0, hP0⟩ : ∃ y_ : List S91, y_ = List.replicate ((l0.length : Int) : Int).toNat z91 := ⟨_, rfl⟩
 obtain ⟨S0, hS0⟩ : ∃ y_ : List Bool, y_ = List.replicate ((l0.length : Int) : Int).toNat false := ⟨_, rfl⟩
 rw [← hF0, ← hP0, ← hS0] at h
 have HF0 := aM hF0
 have HP0 := aM hP0
 have HS0 := aM hS0
 have H' := aM h
 have d1 := decide_eq_true e1
 have d2 := decide_eq_true e2
 have d3 := decide_eq_true e3
 have d4 := decide_eq_true e4
 have d5 := decide_eq_true e5
 clear h hF0 hP0 hS0 e1 e2 e3 e4 e5
 go_enter Try.func103, Try.ntmps103
 go_upto_region 6 with (first | ((with_reducible refine gate_dst (N := 4) rfl ?_); refine bE 4 #[.slice A0 l0.length c0] 37 ?_; intro g4 hg w4 hbox hb; replace HB := aM (below_step HB.out hb); have B4 := aM hbox; have hx4 : w4.cell? ⟨g4, 0, none⟩ = some (.slice A0 l0.length c0) := (blk_cell B4.out 0).trans rfl; clear hb hbox hg) | (go_at_call 63; (refine (impl_closure.calls k (l0.length : Int) A2 c2 l2 tb _ (Kd.C_below HR2.out HB.out) HC2.out HTB.out).mono ?_); rintro e wt ⟨vt, rfl, ht, hb⟩; (obtain ⟨AT, cT, eT⟩ := Kd.S_slice ht); subst eT; have HST := aM ht; replace HB := aM (below_step HB.out hb); replace B4 := aM (blk_below B4.out hb); clear ht hb hx4) | ((with_reducible refine gate_dst (N := 9) rfl ?_); refine bE 9 #[.slice none 0 0] 67 ?_; intro g9 hg w9 hbox hb; have G9 := aM (show w.heap.size ≤ g9 by rw [hg]; exact HB.out.size); have d4_9 := aM (show g4 ≠ g9 by rw [hg]; exact Nat.ne_of_lt (blk_lt B4.out)); replace HB := aM (below_step HB.out hb); replace B4 := aM (blk_below B4.out hb); have HST9 := aM (Kd.S_below HST.out hb); clear hb hg HST; have hx9 : w9.cell? ⟨g9, 0, none⟩ = some (.slice none 0 0) := (blk_cell hbox 0).trans rfl; have hf9 : w9.frozen? ⟨g9, 0, none⟩ = false := blk_frozen hbox 0; have HTC := aM (Kd.S_reads' (Kd.S_set HST9.out hbox (by decide) 0 (.slice AT tb.length cT))); have HBW := aM (below_set (j := 0) (v := .slice AT tb.length cT) HB.out G9.out); have BW4 := aM (blk_far B4.out (p := ⟨g9, 0, none⟩) d4_9.out (.slice AT tb.length cT)); have BW9 := aM (blk_put hbox 0 (.slice AT tb.length cT) rfl); have HZ := aM (Below.refl (w9.setCell ⟨g9, 0, none⟩ (.slice AT tb.length cT)).heap.size (w9.setCell ⟨g9, 0, none⟩ (.slice AT tb.length cT))); have hx4 : (w9.setCell ⟨g9, 0, none⟩ (.slice AT tb.length cT)).cell? ⟨g4, 0, none⟩ = some (.slice A0 l0.length c0) := (blk_cell BW4.out 0).trans rfl; clear hbox HST9 B4 HB) | ((with_reducible refine gate_dst (N := 25) rfl ?_); refine Kd.R_make k91 _ 91 rfl (N := 25) rfl 52 _ _ rfl (l0.length : Int) rfl rfl Try.underlying52 (.agg #[(.int .i64 0), (.int .i64 0), (.int .i64 0)]) 24 info91 rfl (by decide) (by omega) z91 (ok := fun _ => True) (okp := fun _ => True) (k91_mkM _ _ _ z91 ) (fun _ hk => hk) trivial (oD) (Nat.le_trans (Nat.mul_le_mul_right _ (oD : (l0.length : Int).toNat ≤ 11728124029610)) (by omega)) (Below.refl _ _) (Nat.le_refl _) ?_; intro vP w25 ho hb hg_ hnew_; clear hg_ hnew_; rw [← HP0.out] at ho; (obtain ⟨AP, cP, eP⟩ := Kd.R_slice ho); subst eP; have HP := aM ho; replace HZ := aM hb; clear ho hb hx4) | ((with_reducible refine gate_dst (N := 10) rfl ?_); refine bE 10 #[.slice none 0 0] 52 ?_; intro g10 hg w10 hbox hb; have G10 := aM (show (w9.setCell ⟨g9, 0, none⟩ (.slice AT tb.length cT)).heap.size ≤ g10 by rw [hg]; exact HZ.out.size); replace HZ := aM (below_step HZ.out hb); have HP1 := aM (Kd.R_below HP.out hb); clear hb hg HP; have hx10 : w10.cell? ⟨g10, 0, none⟩ = some (.slice none 0 0) := (blk_cell hbox 0).trans rfl; have hf10 : w10.frozen? ⟨g10, 0, none⟩ = false := blk_frozen hbox 0; have HP := aM (Kd.R_set HP1.out hbox (by decide) 0 (.slice AP P0.length cP)); have B10 := aM (blk_put hbox 0 (.slice AP P0.length cP) rfl); replace HZ := aM (below_set (j := 0) (v := .slice AP P0.length cP) HZ.out G10.out); have hx4 : (w10.setCell ⟨g10, 0, none⟩ (.slice AP P0.length cP)).cell? ⟨g4, 0, none⟩ = some (.slice A0 l0.length c0) := (blk_cell (blk_below BW4.out HZ.out) 0).trans rfl; clear hbox HP1) | ((with_reducible refine gate_dst (N := 28) rfl ?_); refine Kd.R_make Kd.bool _ 4 rfl (N := 28) rfl 80 _ _ rfl (l0.length : Int) rfl rfl Try.underlying80 (.bool false) 1 info4 rfl (by decide) (by omega) false (ok := fun _ => True) (okp := fun _ => True) rfl (fun _ hk => hk) trivial (oD) (Nat.le_trans (Nat.mul_le_mul_right _ (oD : (l0.length : Int).toNat ≤ 281474976710656)) (by omega)) (Below.refl _ _) (Nat.le_refl _) ?_; intro vS w28 ho hb hg_ hnew_; clear hg_ hnew_; rw [← HS0.out] at ho; (obtain ⟨AS, cS, eS⟩ := Kd.R_slice ho); subst eS; have HS := aM (Kd.R_lower ho HZ.out.size); replace HP := aM (Kd.R_below HP.out hb); replace B10 := aM (blk_below B10.out hb); replace HZ := aM (below_step HZ.out hb); clear ho hb hx4 hx10 hf10) | ((with_reducible refine gate_dst (N := 11) rfl ?_); refine bE 11 #[.slice none 0 0] 80 ?_; intro g11 hg w11 hbox hb; have G11 := aM (show (w9.setCell ⟨g9, 0, none⟩ (.slice AT tb.length cT)).heap.size ≤ g11 by rw [hg]; exact HZ.out.size); replace HZ := aM (below_step HZ.out hb); have HP1 := aM (Kd.R_below HP.out hb); have HS1 := aM (Kd.R_below HS.out hb); replace B10 := aM (blk_below B10.out hb); clear hb hg HP HS; have hx11 : w11.cell? ⟨g11, 0, none⟩ = some (.slice none 0 0) := (blk_cell hbox 0).trans rfl; have hf11 : w11.frozen? ⟨g11, 0, none⟩ = false := blk_frozen hbox 0; have HP := aM (Kd.R_set HP1.out hbox (by decide) 0 (.slice AS S0.length cS)); have HS := aM (Kd.R_set HS1.out hbox (by decide) 0 (.slice AS S0.length cS)); replace B10 := aM (blk_far B10.out (p := ⟨g11, 0, none⟩) (blk_ne B10.out hbox (by decide)) (.slice AS S0.length cS)); have B11 := aM (blk_put hbox 0 (.slice AS S0.length cS) rfl); replace HZ := aM (below_set (j := 0) (v := .slice AS S0.length cS) HZ.out G11.out); clear hbox HP1 HS1) | ((with_reducible refine gate_dst (N := 30) rfl ?_); refine Kd.R_make (Kd.int .i64) _ 3 rfl (N := 30) rfl 34 _ _ rfl a1 rfl rfl Try.underlying34 (.int .i64 0) 8 info3 rfl (by decide) (by omega) 0 (ok := fun _ => True) (okp := fun _ => True) rfl (fun _ hk => hk) trivial (oD) (Nat.le_trans (Nat.mul_le_mul_right _ (oD : a1.toNat ≤ 35184372088832)) (by omega)) (Below.refl _ _) (Nat.le_refl _) ?_; intro vF w30 ho hb hg_ hnew_; clear hg_ hnew_; rw [← HF0.out] at ho; (obtain ⟨AF, cF, eF⟩ := Kd.R_slice ho); subst eF; have HL := aM (show LpAt (w9.setCell ⟨g9, 0, none⟩ (.slice AT tb.length cT)).heap.size g10 g11 AP P0.length cP AS S0.length cS AF F0.length cF w30 P0 S0 F0 from ⟨blk_below B10.out hb, blk_below B11.out hb, Kd.R_below HP.out hb, Kd.R_below HS.out hb, Kd.R_lower ho HZ.out.size⟩); replace HZ := aM (below_step HZ.out hb); have hx4 : w30.cell? ⟨g4, 0, none⟩ = some (.slice A0 l0.length c0) := (blk_cell (blk_below BW4.out HZ.out) 0).trans rfl; clear ho hb HP HS B10 B11 hx11 hf11))
 clear d1 d2 d3 d4 d5 HF0 HP0 HS0
 refine start_ (n := 4) (S := fun w' => w'.cell? ⟨g4, 0, none⟩ = some (.slice A0 l0.length c0)) (ds := []) (bA 4 0) (by kernel_rfl) rfl rfl hx4 (fun hHeld => ?_)
 refine with_tabW impl_listPlan.tab6 impl_listPlan.bits6 (fun HT_ HW_ => ?_)
 replace HL := aM (LpAt.below HL.out (below_drew1 (Below.refl _ _)))
 replace HZ := aM (below_drew1 HZ.out)
 clear hx4
 generalize w30.drew = w31 at HL HZ hHeld ⊢
 refine tU 0 32 (bA 4 1) ?_
 refine pU 1 33 (bA 4 3) ?_
 refine pU 2 14 (bA 4 7) ?_
 refine pU 3 15 (bA 4 15) ?_
 refine done_ (done_of HT_.out (by kernel_rfl)) ?_
 clear hHeld
 generalize P0.length = nP at HL
 generalize S0.length = nS at HL
 generalize F0.length = nF at HL
 go_wp2
 go_loopg [14, 15] k (fun kq v14 v15 w' => ∃ (F : List Int) (P : List S91) (S : List Bool) (t lf : Int), v14 = .int .i64 t ∧ v15 = .int .i64 lf ∧ Aside0 (impl_listPlan.l0 kq l3 F t lf l0 tb P S = some r) ∧ Aside0 (kq ≤ k) ∧ Aside0 (LpAt (w9.setCell ⟨g9, 0, none⟩ (.slice AT tb.length cT)).heap.size g10 g11 AP nP cP AS nS cS AF nF cF w' P S F) ∧ Aside0 (Below (w9.setCell ⟨g9, 0, none⟩ (.slice AT tb.length cT)).heap.size (w9.setCell ⟨g9, 0, none⟩ (.slice AT tb.length cT)) w'))
 case atStart => exact ⟨F0, P0, S0, 0, (l0.length : Int), rfl, (by first | rfl | (simp; done)), H', ⟨Nat.le_refl _⟩, HL, HZ⟩
 case round =>
  clear H' HL HZ
  obtain ⟨F, P, S, t, lf, rfl, rfl, HA, HK1, HL, HZ⟩ := hrel
  cases gk with
  | zero => exact absurd HA.out (by simp [impl_listPlan.l0])
  | succ k1 =>
   have H := HA.out
   clear HA
   simp only [impl_listPlan.l0] at H
   by_cases c1 : lf > 0
   · rw [if_pos c1, ← (Kd.R_reads' HL.out.2.2.2.2).1] at H
     have c1b : decide (lf > 0) = true := decide_eq_true c1
     have H' := aM H
     clear H c1
     go_wp2
     go_loopg [15, 40] k1 (fun kq v15 v40 w' => ∃ (F : List Int) (P : List S91) (S : List Bool) (lf q : Int), v15 = .int .i64 lf ∧ v40 = .int .i64 q ∧ Aside0 (impl_listPlan.l1 kq l3 F t lf (nF : Int) q l0 tb P S = some r) ∧ Aside0 (kq ≤ k1) ∧ Aside0 (LpAt (w9.setCell ⟨g9, 0, none⟩ (.slice AT tb.length cT)).heap.size g10 g11 AP nP cP AS nS cS AF nF cF w' P S F) ∧ Aside0 (Below (w9.setCell ⟨g9, 0, none⟩ (.slice AT tb.length cT)).heap.size (w9.setCell ⟨g9, 0, none⟩ (.slice AT tb.length cT)) w'))
     case atStart => exact ⟨F, P, S, lf, 0, rfl, rfl, H', ⟨Nat.le_refl _⟩, HL, HZ⟩
     case round =>
      clear H' HL HZ c1b
      obtain ⟨F, P, S, lf, q, rfl, rfl, HA, HK2, HL, HZ⟩ := hrel
      cases gk with
      | zero => exact absurd HA.out (by simp [impl_listPlan.l1])
      | succ k2 =>
       have H := HA.out
       clear HA
       simp only [impl_listPlan.l1] at H
       by_cases c2 : q < (nF : Int)
       · rw [if_pos c2] at H
         have c2b : decide (q < (nF : Int)) = true := decide_eq_true c2
         by_cases c3 : 0 ≤ q
         case neg => rw [if_neg c3] at H; exact absurd H (by simp)
         rw [if_pos c3, if_pos (by rw [← (Kd.R_reads' HL.out.2.2.2.2).1]; exact c2)] at H
         obtain ⟨gF, hAF, _, hxF, hfF, hsF⟩ := LpAt.setF HL.out q c3 c2
         subst hAF
         have HSF := aM hsF
         clear hsF
         have p3 := eq_true c3
         have q3 := eq_true c2
         have PC := aM (And.intro c3 c2)
         clear c2 c3
         by_cases c4 : rd F q > t
         · rw [if_pos c4] at H
           have c4b : decide (rd F q > t) = true := decide_eq_true c4
           have H' := aM H
           clear H c4
           go_wp2
           go_roundg k2
           case measure => have := HK1.out; have := HK2.out; omega
           case rel => exact ⟨_, _, _, _, _, rfl, rfl, H', ⟨by have := HK2.out; omega⟩, HL, HZ⟩
         · rw [if_neg c4] at H
           have c4b : decide (rd F q > t) = false := decide_eq_false c4
           have H' := aM H
           clear H c4
           go_wp2
           go_loopg [15, 51] k2 (fun kq v15 v51 w' => ∃ (j : Int), v15 = .int .i64 lf ∧ v51 = .int .i64 j ∧ Aside0 (impl_listPlan.l2 kq l3 F t lf q (nF : Int) q l3 (l3.length : Int) j l0 tb P S = some r) ∧ Aside0 (kq ≤ k2) ∧ Aside0 (LpAt (w9.setCell ⟨g9, 0, none⟩ (.slice AT tb.length cT)).heap.size g10 g11 AP nP cP AS nS cS (some ⟨gF, 0, none⟩) nF cF w' P S F) ∧ Aside0 (Below (w9.setCell ⟨g9, 0, none⟩ (.slice AT tb.length cT)).heap.size (w9.setCell ⟨g9, 0, none⟩ (.slice AT tb.length cT)) w'))
           case atStart => exact ⟨0, rfl, rfl, H', ⟨Nat.le_refl _⟩, HL, HZ⟩
           case round =>
            clear H' HL HZ c4b hxF hfF HSF c2b
            obtain ⟨j, rfl, rfl, HA, HK3, HL, HZ⟩ := hrel
            cases gk with
            | zero => exact absurd HA.out (by simp [impl_listPlan.l2])
            | succ k3 =>
             have H := HA.out
             clear HA
             simp only [impl_listPlan.l2] at H
             by_cases c5 : j < (l3.length : Int)
             · rw [if_pos c5] at H
               have c5b : decide (j < (l3.length : Int)) = true := decide_eq_true c5
               by_cases c6 : 0 ≤ j
               case neg => rw [if_neg c6] at H; exact absurd H (by simp)
               rw [if_pos c6, if_pos c5] at H
               obtain ⟨ad3, e3, hx3⟩ := Kd.at_int HR3.out j c6 c5
               cases e3
               replace hx3 := (cB (below_step HBW.out HZ.out) hx3 :)
               have p6 := eq_true c6
               have q6 := eq_true c5
               clear c5 c6
               obtain ⟨bq, hrd, H⟩ := oB H
               have HRD := aM hrd
               clear hrd
               cases bq with
               | false =>
                 simp only [Bool.false_eq_true, if_false] at H
                 have H' := aM H
                 clear H
                 go_wp2_with (first | (go_at_call 140; (refine (impl_listPlan_1.calls k3 (rd l3 j) t AS cS S _ c0 l0 AT cT tb AP cP P false _ (Kd.R_reads' HL.out.2.2.2.1).2.2 (by have e_ := (Kd.R_reads' HL.out.2.2.2.1).1; have h_ := (Kd.R_reads' HL.out.2.2.2.1).2.1; omega) (Kd.C_below HR0.out (below_step HBW.out HZ.out)) HC0.out (Kd.C_below HTC.out.2.2 HZ.out) HTC.out.2.1 (Kd.R_reads' HL.out.2.2.1).2.2 (by have e_ := (Kd.R_reads' HL.out.2.2.1).1; have h_ := (Kd.R_reads' HL.out.2.2.1).2.1; omega) (by rw [← (Kd.R_reads' HL.out.2.2.2.1).1]; exact HL.out.2.1) (blk_below BW4.out HZ.out) (blk_below BW9.out HZ.out) (by rw [← (Kd.R_reads' HL.out.2.2.1).1]; exact HL.out.1) HRD.out).mono ?_); rintro e w1 ⟨rfl, hd⟩; have hb : Below wr.heap.size wr w1 := (by obtain ⟨n_, rfl⟩ := hd.out; exact pw_below_drewN (Below.refl _ _) n_); replace HL := aM (LpAt.below HL.out hb); replace HZ := aM (below_step HZ.out hb); clear hd hb))
                 go_roundg k3
                 case measure => have := HK3.out; omega
                 case rel => exact ⟨_, rfl, rfl, H', ⟨by have := HK3.out; omega⟩, HL, HZ⟩
               | true =>
                 simp only [if_true] at H
                 by_cases c7 : 0 ≤ rd l3 j
                 case neg => rw [if_neg c7] at H; exact absurd H (by simp)
                 rw [if_pos c7] at H
                 by_cases c8 : rd l3 j < (P.length : Int)
                 case neg => rw [if_neg c8] at H; exact absurd H (by simp)
                 rw [if_pos c8] at H
                 by_cases c9 : rd l3 j < (S.length : Int)
                 case neg => rw [if_neg c9] at H; exact absurd H (by simp)
                 rw [if_pos c9] at H
                 by_cases c10 : rd l3 j < (l0.length : Int)
                 case neg => rw [if_neg c10] at H; exact absurd H (by simp)
                 rw [if_pos c10, if_pos PC.out.1, if_pos (by rw [← (Kd.R_reads' HL.out.2.2.2.2).1]; exact PC.out.2)] at H
                 have H' := aM H
                 clear H
                 have c8' : rd l3 j < (nP : Int) := by rw [(Kd.R_reads' HL.out.2.2.1).1]; exact c8
                 have c9' : rd l3 j < (nS : Int) := by rw [(Kd.R_reads' HL.out.2.2.2.1).1]; exact c9
                 obtain ⟨ad0, e0, hy0, hy1, hy2, hy3⟩ := at_T79 HR0.out (rd l3 j) c7 c10
                 cases e0
                 have HY := aM hy0
                 clear hy0 hy1 hy2 hy3
                 have p7 := eq_true c7
                 have q8 := eq_true c8'
                 have q9 := eq_true c9'
                 have q10 := eq_true c10
                 have XC := aM (And.intro c7 (And.intro c8' c9'))
                 clear c7 c8 c9 c10 c8' c9'
                 go_wp2_with (first | (go_at_call 140; (refine (impl_listPlan_1.calls k3 (rd l3 j) t AS cS S _ c0 l0 AT cT tb AP cP P true _ (Kd.R_reads' HL.out.2.2.2.1).2.2 (by have e_ := (Kd.R_reads' HL.out.2.2.2.1).1; have h_ := (Kd.R_reads' HL.out.2.2.2.1).2.1; omega) (Kd.C_below HR0.out (below_step HBW.out HZ.out)) HC0.out (Kd.C_below HTC.out.2.2 HZ.out) HTC.out.2.1 (Kd.R_reads' HL.out.2.2.1).2.2 (by have e_ := (Kd.R_reads' HL.out.2.2.1).1; have h_ := (Kd.R_reads' HL.out.2.2.1).2.1; omega) (by rw [← (Kd.R_reads' HL.out.2.2.2.1).1]; exact HL.out.2.1) (blk_below BW4.out HZ.out) (blk_below BW9.out HZ.out) (by rw [← (Kd.R_reads' HL.out.2.2.1).1]; exact HL.out.1) HRD.out).mono ?_); rintro e w1 ⟨rfl, hd⟩; have hb : Below wr.heap.size wr w1 := (by obtain ⟨n_, rfl⟩ := hd.out; exact pw_below_drewN (Below.refl _ _) n_); replace HL := aM (LpAt.below HL.out hb); replace HZ := aM (below_step HZ.out hb); clear hd hb; have hx10 : w1.cell? ⟨g10, 0, none⟩ = some (.slice AP nP cP) := (blk_cell HL.out.1 0).trans rfl; (obtain ⟨gP, hAP, hgP, ⟨u0, u1, u2, hu0, hu1, hu2⟩, ⟨hf0, hf1, hf2⟩, hsP⟩ := LpAt.setP HL.out (rd l3 j) XC.out.1 XC.out.2.1); subst hAP; have HSP := aM hsP; have GP := aM hgP; clear hsP hgP) | ((with_reducible refine gate_store (t := 91) (p := 65) rfl ?_); refine store_event (t := 91) (p := 65) (v := ?vo_w2) (w1 := (((w1.setCell ⟨gP, (rd l3 j).toNat * 3, none⟩ (.int .i64 (rd l3 j))).setCell ⟨gP, (rd l3 j).toNat * 3 + 1, none⟩ (.int .i64 q)).setCell ⟨gP, (rd l3 j).toNat * 3 + 2, none⟩ (.int .i64 t))) ?hg ?ho ?hn ?hr ?_; (case ho => rfl); (case hg => rfl); (case hn => rfl); (case hr => first | (go_simp; done) | (go_simp; rfl)); intro w2 hw; replace HL := aM (show LpAt (w9.setCell ⟨g9, 0, none⟩ (.slice AT tb.length cT)).heap.size g10 g11 (some ⟨gP, 0, none⟩) nP cP AS nS cS (some ⟨gF, 0, none⟩) nF cF w2 _ S F from (by rw [hw]; exact HSP.out (rd l3 j) q t)); replace HZ := aM (show Below (w9.setCell ⟨g9, 0, none⟩ (.slice AT tb.length cT)).heap.size (w9.setCell ⟨g9, 0, none⟩ (.slice AT tb.length cT)) w2 from (by rw [hw]; exact below_set (below_set (below_set HZ.out GP.out) GP.out) GP.out)); clear hw; clear HSP GP hu0 hu1 hu2 hf0 hf1 hf2 hx10; have hx11 := (blk_cell HL.out.2.1 0).trans (show _ = some (Value.slice AS nS cS) from rfl); (obtain ⟨gS, hAS, hgS, hxS, hfS, hsS⟩ := LpAt.setS HL.out (rd l3 j) XC.out.1 XC.out.2.2); subst hAS; have HSS := aM hsS; have GS := aM hgS; clear hsS hgS) | ((with_reducible refine gate_store (t := 4) (p := 68) rfl ?_); refine store_event (t := 4) (p := 68) (v := ?vo_w3) (w1 := (w2.setCell ⟨gS, (rd l3 j).toNat, none⟩ (.bool true))) ?hg ?ho ?hn ?hr ?_; (case ho => rfl); (case hg => rfl); (case hn => rfl); (case hr => first | (go_simp; done) | (go_simp; rfl)); intro w3 hw; replace HL := aM (show LpAt (w9.setCell ⟨g9, 0, none⟩ (.slice AT tb.length cT)).heap.size g10 g11 (some ⟨gP, 0, none⟩) nP cP (some ⟨gS, 0, none⟩) nS cS (some ⟨gF, 0, none⟩) nF cF w3 _ _ F from (by rw [hw]; exact HSS.out true)); replace HZ := aM (show Below (w9.setCell ⟨g9, 0, none⟩ (.slice AT tb.length cT)).heap.size (w9.setCell ⟨g9, 0, none⟩ (.slice AT tb.length cT)) w3 from (by rw [hw]; exact below_set HZ.out GS.out)); clear hw HSS GS hxS hfS hx11; have hx4 := (blk_cell (blk_below BW4.out HZ.out) 0).trans (show _ = some (Value.slice (some ad0) l0.length c0) from rfl); have hy0 := (cB (below_step HBW.out HZ.out) HY.out :); (obtain ⟨gF2, hAF, hgF, hxF, hfF, hsF⟩ := LpAt.setF HL.out q PC.out.1 PC.out.2); injection hAF with hAF; injection hAF with hAF; subst hAF; have HSF := aM hsF; have GF := aM hgF; clear hsF hgF) | ((with_reducible refine gate_store (t := 3) (p := 78) rfl ?_); refine store_event (t := 3) (p := 78) (v := ?vo_w4) (w1 := (w3.setCell ⟨gF, q.toNat, none⟩ (.int .i64 (wrap64 (t + (rd_T79 l0 (rd l3 j)).f0))))) ?hg ?ho ?hn ?hr ?_; (case ho => rfl); (case hg => rfl); (case hn => rfl); (case hr => first | (go_simp; done) | (go_simp; rfl)); intro w4 hw; replace HL := aM (show LpAt (w9.setCell ⟨g9, 0, none⟩ (.slice AT tb.length cT)).heap.size g10 g11 (some ⟨gP, 0, none⟩) nP cP (some ⟨gS, 0, none⟩) nS cS (some ⟨gF, 0, none⟩) nF cF w4 _ _ _ from (by rw [hw]; exact HSF.out (wrap64 (t + (rd_T79 l0 (rd l3 j)).f0)))); replace HZ := aM (show Below (w9.setCell ⟨g9, 0, none⟩ (.slice AT tb.length cT)).heap.size (w9.setCell ⟨g9, 0, none⟩ (.slice AT tb.length cT)) w4 from (by rw [hw]; exact below_set HZ.out GF.out)); clear hw HSF GF hxF hfF hx4 hy0))
                 go_roundg k3
                 case measure => have := HK1.out; have := HK2.out; have := HK3.out; omega
                 case rel => exact ⟨_, _, _, _, _, rfl, rfl, H', ⟨by have := HK2.out; have := HK3.out; omega⟩, HL, HZ⟩
             · rw [if_neg c5] at H
               have c5b : decide (j < (l3.length : Int)) = false := decide_eq_false c5
               have H' := aM H
               clear H
               go_wp2
               go_roundg k3
               case measure => have := HK1.out; have := HK2.out; have := HK3.out; omega
               case rel => exact ⟨_, _, _, _, _, rfl, rfl, H', ⟨by have := HK2.out; have := HK3.out; omega⟩, HL, HZ⟩
       · rw [if_neg c2] at H
         have c2b : decide (q < (nF : Int)) = false := decide_eq_false c2
         have H' := aM H
         clear H c2
         go_wp2
         go_roundg k2
         case measure => have := HK1.out; have := HK2.out; omega
         case rel => exact ⟨_, _, _, _, _, rfl, rfl, H', ⟨by have := HK1.out; have := HK2.out; omega⟩, HL, HZ⟩
   · rw [if_neg c1] at H
     have c1b : decide (lf > 0) = false := decide_eq_false c1
     obtain rfl := Option.some.inj H
     have hx10 : wr.cell? ⟨g10, 0, none⟩ = some (.slice AP nP cP) := (blk_cell HL.out.1 0).trans rfl
     go_wp2
     go_ret
     exact ⟨_, rfl, Kd.R_lower HL.out.2.2.1 HBW.out.size, below_step HBW.out HZ.out⟩

-- NOT PRINTED: function 113 (impl_sortedBy)

/-! ### impl_numbersTo: function 141 -/
def impl_numbersTo.l0 : Nat → Int → List Int → Int → Option (List Int)
 | 0, _, _, _ => none
 | k + 1, x0, x3, x4 => if x4 < x0 then (if x3.length < 17592186044416 then (impl_numbersTo.l0 k x0 (x3 ++ [x4]) (wrap64 (x4 + 1))) else (none)) else (some x3)
def impl_numbersTo.f (k : Nat) (a0 : Int) : Option (List Int) := impl_numbersTo.l0 k a0 ([] : List Int) 0
theorem impl_numbersTo.mono_l : ∀ k, (∀ y0 y1 y2, LeO (impl_numbersTo.l0 k y0 y1 y2) (impl_numbersTo.l0 (k + 1) y0 y1 y2))
 | 0 => fun _ _ _ r h => by simp [impl_numbersTo.l0] at h
 | k + 1 => by
  have ih0 := impl_numbersTo.mono_l k
  ·intro y0 y1 y2
   unfold impl_numbersTo.l0
   repeat' first
   | (with_reducible exact ih0 _ _ _)
   | (with_reducible exact LeO.refl _)
   | (with_reducible exact LeO.none _)
   | (with_reducible refine LeO.ite ?_ ?_)
   | (with_reducible refine LeO.bind ?_ (fun _ => ?_))
   | exact ih0 _ _ _
   | exact LeO.none _
   | refine LeO.ite ?_ ?_
   | refine LeO.bind ?_ (fun _ => ?_)
theorem impl_numbersTo.mono : ∀ a0 k, LeO (impl_numbersTo.f k a0) (impl_numbersTo.f (k + 1) a0) := by
 intro a0 k; have ih0 := impl_numbersTo.mono_l k; unfold impl_numbersTo.f
 repeat' first
   | (with_reducible exact ih0 _ _ _)
   | (with_reducible exact LeO.refl _)
   | (with_reducible exact LeO.none _)
   | (with_reducible refine LeO.ite ?_ ?_)
   | (with_reducible refine LeO.bind ?_ (fun _ => ?_))
   | exact ih0 _ _ _
   | exact LeO.none _
   | refine LeO.ite ?_ ?_
   | refine LeO.bind ?_ (fun _ => ?_)
set_option maxHeartbeats 8000000 in
set_option maxRecDepth 100000 in
theorem impl_numbersTo.calls (k : Nat) (a0 : Int) (r : List Int) (w : World) (h : impl_numbersTo.f k a0 = some r) :
  Calls Try.prog 141 #[.int .i64 a0] w fun e w' => ∃ v0_ : Value, e = .returned (v0_) ∧ Kd.R (Kd.int .i64) 3 w' w.heap.size (fun _ => True) v0_ r ∧ Below w.heap.size w w' := by
 have HB := aM (Below.refl w.heap.size w); have H : (impl_numbersTo.l0 k a0 ([] : List Int) 0) = some r := h; clear h; have H' := aM H; clear H; go_enter Try.func141, Try.ntmps141; go_wp2; go_loopg [3, 4] k (fun kq v3 v4 w' => ∃ (x3_1 : List Int) (x4_1 : Int), v4 = .int .i64 x4_1 ∧ Aside0 (impl_numbersTo.l0 kq a0 x3_1 x4_1 = some r) ∧ Aside0 (kq ≤ k) ∧ Aside0 (Kd.R (Kd.int .i64) 3 w' w.heap.size (fun _ => True) v3 x3_1) ∧ Aside0 (Below w.heap.size w w'))
 case atStart => exact ⟨(([] : List Int)), (0), sD, H', ⟨Nat.le_refl _⟩, ⟨by first | exact Kd.R_nil _ _ _ _ _ | exact Kd.N_nil _ _ _ _ _ | exact Kd.V_nil _ _ _ _ _ | exact Kd.Q_nil _ _ _ _ _ | exact Kd.S_nil _ _ _ _ _⟩, ⟨by repeat (first | (with_reducible first | exact HB.out | apply below_alloc | apply pw_below_drewN | apply below_drew1) | exact HB.out)⟩⟩
 case round =>
  clear H'; obtain ⟨x3_1, x4_1, rfl, HA, HK1, HO_3, HB⟩ := hrel
  cases gk with
  | zero => exact absurd HA.out (by simp [impl_numbersTo.l0])
  | succ k1 =>
   have H := HA.out; clear HA; simp only [impl_numbersTo.l0] at H; by_cases c2 : x4_1 < a0
   ·rw [if_pos c2] at H
    have c2b0 : decide (x4_1 < a0) = true := decide_eq_true c2; clear c2; by_cases c3 : x3_1.length < 17592186044416; rotate_left
    ·rw [if_neg c3] at H; exact absurd H (by simp)
    rw [if_pos c3] at H; have LMc3 := aM c3; clear c3; obtain ⟨y367, hy367⟩ : ∃ y_ : List Int, y_ = (x3_1 ++ [x4_1]) := ⟨_, rfl⟩; (replace H : (impl_numbersTo.l0 k1 a0 y367 (wrap64 (x4_1 + 1))) = some r := by first | (rw [hy367]; with_reducible exact H) | (have H2_ := (Option.bind_some _ _).symm.trans H; rw [hy367]; with_reducible exact H2_) | (have H2_ := (Option.bind_some _ _).symm.trans H; with_reducible exact H2_) | with_reducible exact H | (rw [hy367]; exact H) | exact H); have Ny367 := aM hy367; clear hy367; have H' := aM H; clear H; (go_wp2_with (first | ((with_reducible refine gate_builtin (b := .append) (xs := #[.tmp 10, .tmp 12]) rfl ?_); at_builtin; refine Kd.R_append (Kd.int .i64) (w0 := w) w.heap.size rfl (.tmp 10) (.tmp 12) 34 3 (.int .i64 0) 8 rfl Try.underlying34 info3 rfl (by decide) (by omega) u3 x3_1 x4_1 [.int .i64 x4_1] (fun _ => True) (fun _ => False) rfl rfl ?aP (fun _ hk => hk.elim) ?aF ?aO ?aB ?aS ?aL ?_; (case aP => exact rfl); (case aB => exact bB); (case aF => exact (fun _ _ => trivial)); (case aO => exact (by (with_reducible repeat (first | apply Kd.R_alloc | apply Kd.R_drewN | apply Kd.R_drew)); exact HO_3.out)); (case aS => exact (below_size bB)); (case aL => have := LMc3.out; omega); intro v368 w4 ho hb hg hat; rw [← Ny367.out] at ho; have n0_ := aM (hb); have n1_ := aM (ho); clear HB; clear HO_3; have HB := n0_; have HO369 := n1_; clear n0_ n1_; clear ho hb hg hat))); go_roundg k1
    case measure => have := HK1.out; omega
    case rel => exact ⟨(y367), (wrap64 (x4_1 + 1)), sD, H', ⟨by have := HK1.out; omega⟩, ⟨kR⟩, ⟨by repeat (first | (with_reducible first | exact HB.out | apply below_alloc | apply pw_below_drewN | apply below_drew1) | exact HB.out)⟩⟩
   ·rw [if_neg c2] at H
    have c2b0 : decide (x4_1 < a0) = false := decide_eq_false c2; clear c2; obtain rfl := Option.some.inj H; go_wp2; go_ret; (exact ⟨_, by first | rfl | (simp [errW_none, errW_some] <;> rfl) | (simp [*, errW_none, errW_some] <;> rfl), by (with_reducible repeat (first | apply Kd.R_alloc | apply Kd.R_drewN | apply Kd.R_drew)); exact HO_3.out, bB⟩)

/-! ### impl_difference: function 143 -/
def impl_difference.f (a0_0 : Int) (a0_1 : Int) (a0_2 : Int) (a0_3 : Int) (a1_0 : Int) (a1_1 : Int) (a1_2 : Int) (a1_3 : Int) (a2 : Int) : Option (Int) := if a2 = 1 then (some (wrap64 (a0_2 - a1_2))) else (if a2 = 2 then (some (wrap64 (a0_0 - a1_0))) else (if a2 = 3 then (some (wrap64 ((wrap64 (a0_0 * a1_1)) - (wrap64 (a1_0 * a0_1))))) else (some (wrap64 (a0_3 - a1_3)))))
set_option maxHeartbeats 8000000 in
set_option maxRecDepth 100000 in
theorem impl_difference.calls (a0_0 : Int) (a0_1 : Int) (a0_2 : Int) (a0_3 : Int) (a1_0 : Int) (a1_1 : Int) (a1_2 : Int) (a1_3 : Int) (a2 : Int) (r : Int) (w : World) (h : impl_difference.f a0_0 a0_1 a0_2 a0_3 a1_0 a1_1 a1_2 a1_3 a2 = some r) :
  Calls Try.prog 143 #[.agg #[.int .i64 a0_0, .int .i64 a0_1, .int .i64 a0_2, .int .i64 a0_3], .agg #[.int .i64 a1_0, .int .i64 a1_1, .int .i64 a1_2, .int .i64 a1_3], .int .i64 a2] w fun e w' => e = .returned (.int .i64 r) ∧ Below w.heap.size w w' := by
 have hu79 := Try.underlying79; have HB := aM (Below.refl w.heap.size w); have H : (if a2 = 1 then (some (wrap64 (a0_2 - a1_2))) else (if a2 = 2 then (some (wrap64 (a0_0 - a1_0))) else (if a2 = 3 then (some (wrap64 ((wrap64 (a0_0 * a1_1)) - (wrap64 (a1_0 * a0_1))))) else (some (wrap64 (a0_3 - a1_3)))))) = some r := h; clear h; by_cases c4 : a2 = 1
 ·rw [if_pos c4] at H
  have c4b0 : (a2 == 1) = true := beq_iff_eq.mpr c4; have c4b1 : (a2 != 1) = false := bne_eq_false_iff_eq.mpr c4; clear c4; obtain rfl := Option.some.inj H; go_enter Try.func143, Try.ntmps143; (go_wp2_with (first | ((with_reducible refine gate_dst (N := 3) rfl ?_); refine bE 3 #[.int .i64 a0_0, .int .i64 a0_1, .int .i64 a0_2, .int .i64 a0_3] 79 ?_; intro gb370 hg w5 hbox hb; have n0_ := aM (below_step bB hb); have n1_ := aM (hbox); have n2_ := aM ((by rw [hg]; exact (below_size bB) : w.heap.size ≤ gb370)); have n3_ := aM ((by rw [hg]; exact (below_size bB) : w.heap.size ≤ gb370)); clear HB; have HB := n0_; have BK370 := n1_; have GW370 := n2_; have GE370 := n3_; clear n0_ n1_ n2_ n3_; clear hb hbox hg) | ((with_reducible refine gate_dst (N := 4) rfl ?_); refine bE 4 #[.int .i64 a1_0, .int .i64 a1_1, .int .i64 a1_2, .int .i64 a1_3] 79 ?_; intro gb371 hg w6 hbox hb; have n0_ := aM (blk_below (g := gb370) (o := .cells #[.int .i64 a0_0, .int .i64 a0_1, .int .i64 a0_2, .int .i64 a0_3] 79 (0, 0)) kB hb); have n1_ := aM (below_step bS hb); have n2_ := aM (hbox); have n3_ := aM ((by rw [hg]; exact (below_size bS) : w.heap.size ≤ gb371)); have n4_ := aM ((by rw [hg]; exact (below_size bS) : w.heap.size ≤ gb371)); have n5_ := aM ((by rw [hg]; exact Nat.ne_of_lt (blk_lt (g := gb370) (o := .cells #[.int .i64 a0_0, .int .i64 a0_1, .int .i64 a0_2, .int .i64 a0_3] 79 (0, 0)) kB) : gb370 ≠ gb371)); have n6_ := aM ((by rw [hg]; exact Nat.ne_of_gt (blk_lt (g := gb370) (o := .cells #[.int .i64 a0_0, .int .i64 a0_1, .int .i64 a0_2, .int .i64 a0_3] 79 (0, 0)) kB) : gb371 ≠ gb370)); clear BK370; clear HB; have BK370 := n0_; have HB := n1_; have BK371 := n2_; have GW371 := n3_; have GE371 := n4_; have NB370_371 := n5_; have NB371_370 := n6_; clear n0_ n1_ n2_ n3_ n4_ n5_ n6_; clear hb hbox hg; have hnb7 := NB370_371.out; have hnc7 := NB371_370.out; have hcz8_0 := (blk_cell BK370.out 0).trans (show _ = some ((.int .i64 a0_0) : Value) from rfl); have hcz8_1 := (blk_cell BK370.out 1).trans (show _ = some ((.int .i64 a0_1) : Value) from rfl); have hcz8_2 := (blk_cell BK370.out 2).trans (show _ = some ((.int .i64 a0_2) : Value) from rfl); have hcz8_3 := (blk_cell BK370.out 3).trans (show _ = some ((.int .i64 a0_3) : Value) from rfl); have hfz8_0 := blk_frozen BK370.out 0; have hfz8_1 := blk_frozen BK370.out 1; have hfz8_2 := blk_frozen BK370.out 2; have hfz8_3 := blk_frozen BK370.out 3; have hcz9_0 := (blk_cell BK371.out 0).trans (show _ = some ((.int .i64 a1_0) : Value) from rfl); have hcz9_1 := (blk_cell BK371.out 1).trans (show _ = some ((.int .i64 a1_1) : Value) from rfl); have hcz9_2 := (blk_cell BK371.out 2).trans (show _ = some ((.int .i64 a1_2) : Value) from rfl); have hcz9_3 := (blk_cell BK371.out 3).trans (show _ = some ((.int .i64 a1_3) : Value) from rfl); have hfz9_0 := blk_frozen BK371.out 0; have hfz9_1 := blk_frozen BK371.out 1; have hfz9_2 := blk_frozen BK371.out 2; have hfz9_3 := blk_frozen BK371.out 3))); go_ret; exact ⟨rE, bS⟩
 ·rw [if_neg c4] at H
  have c4b0 : (a2 == 1) = false := beq_eq_false_iff_ne.mpr c4; have c4b1 : (a2 != 1) = true := bne_iff_ne.mpr c4; by_cases c10 : a2 = 2
  ·rw [if_pos c10] at H
   have c10b0 : (a2 == 2) = true := beq_iff_eq.mpr c10; have c10b1 : (a2 != 2) = false := bne_eq_false_iff_eq.mpr c10; clear c10; obtain rfl := Option.some.inj H; go_enter Try.func143, Try.ntmps143; (go_wp2_with (first | ((with_reducible refine gate_dst (N := 3) rfl ?_); refine bE 3 #[.int .i64 a0_0, .int .i64 a0_1, .int .i64 a0_2, .int .i64 a0_3] 79 ?_; intro gb370 hg w11 hbox hb; have n0_ := aM (below_step bB hb); have n1_ := aM (hbox); have n2_ := aM ((by rw [hg]; exact (below_size bB) : w.heap.size ≤ gb370)); have n3_ := aM ((by rw [hg]; exact (below_size bB) : w.heap.size ≤ gb370)); clear HB; have HB := n0_; have BK370 := n1_; have GW370 := n2_; have GE370 := n3_; clear n0_ n1_ n2_ n3_; clear hb hbox hg) | ((with_reducible refine gate_dst (N := 4) rfl ?_); refine bE 4 #[.int .i64 a1_0, .int .i64 a1_1, .int .i64 a1_2, .int .i64 a1_3] 79 ?_; intro gb371 hg w12 hbox hb; have n0_ := aM (blk_below (g := gb370) (o := .cells #[.int .i64 a0_0, .int .i64 a0_1, .int .i64 a0_2, .int .i64 a0_3] 79 (0, 0)) kB hb); have n1_ := aM (below_step bS hb); have n2_ := aM (hbox); have n3_ := aM ((by rw [hg]; exact (below_size bS) : w.heap.size ≤ gb371)); have n4_ := aM ((by rw [hg]; exact (below_size bS) : w.heap.size ≤ gb371)); have n5_ := aM ((by rw [hg]; exact Nat.ne_of_lt (blk_lt (g := gb370) (o := .cells #[.int .i64 a0_0, .int .i64 a0_1, .int .i64 a0_2, .int .i64 a0_3] 79 (0, 0)) kB) : gb370 ≠ gb371)); have n6_ := aM ((by rw [hg]; exact Nat.ne_of_gt (blk_lt (g := gb370) (o := .cells #[.int .i64 a0_0, .int .i64 a0_1, .int .i64 a0_2, .int .i64 a0_3] 79 (0, 0)) kB) : gb371 ≠ gb370)); clear BK370; clear HB; have BK370 := n0_; have HB := n1_; have BK371 := n2_; have GW371 := n3_; have GE371 := n4_; have NB370_371 := n5_; have NB371_370 := n6_; clear n0_ n1_ n2_ n3_ n4_ n5_ n6_; clear hb hbox hg; have hnb13 := NB370_371.out; have hnc13 := NB371_370.out; have hcz14_0 := (blk_cell BK370.out 0).trans (show _ = some ((.int .i64 a0_0) : Value) from rfl); have hcz14_1 := (blk_cell BK370.out 1).trans (show _ = some ((.int .i64 a0_1) : Value) from rfl); have hcz14_2 := (blk_cell BK370.out 2).trans (show _ = some ((.int .i64 a0_2) : Value) from rfl); have hcz14_3 := (blk_cell BK370.out 3).trans (show _ = some ((.int .i64 a0_3) : Value) from rfl); have hfz14_0 := blk_frozen BK370.out 0; have hfz14_1 := blk_frozen BK370.out 1; have hfz14_2 := blk_frozen BK370.out 2; have hfz14_3 := blk_frozen BK370.out 3; have hcz15_0 := (blk_cell BK371.out 0).trans (show _ = some ((.int .i64 a1_0) : Value) from rfl); have hcz15_1 := (blk_cell BK371.out 1).trans (show _ = some ((.int .i64 a1_1) : Value) from rfl); have hcz15_2 := (blk_cell BK371.out 2).trans (show _ = some ((.int .i64 a1_2) : Value) from rfl); have hcz15_3 := (blk_cell BK371.out 3).trans (show _ = some ((.int .i64 a1_3) : Value) from rfl); have hfz15_0 := blk_frozen BK371.out 0; have hfz15_1 := blk_frozen BK371.out 1; have hfz15_2 := blk_frozen BK371.out 2; have hfz15_3 := blk_frozen BK371.out 3))); go_ret; exact ⟨rE, bS⟩
  ·rw [if_neg c10] at H
   have c10b0 : (a2 == 2) = false := beq_eq_false_iff_ne.mpr c10; have c10b1 : (a2 != 2) = true := bne_iff_ne.mpr c10; by_cases c16 : a2 = 3
   ·rw [if_pos c16] at H
    have c16b0 : (a2 == 3) = true := beq_iff_eq.mpr c16; have c16b1 : (a2 != 3) = false := bne_eq_false_iff_eq.mpr c16; clear c16; obtain rfl := Option.some.inj H; go_enter Try.func143, Try.ntmps143; (go_wp2_with (first | ((with_reducible refine gate_dst (N := 3) rfl ?_); refine bE 3 #[.int .i64 a0_0, .int .i64 a0_1, .int .i64 a0_2, .int .i64 a0_3] 79 ?_; intro gb370 hg w17 hbox hb; have n0_ := aM (below_step bB hb); have n1_ := aM (hbox); have n2_ := aM ((by rw [hg]; exact (below_size bB) : w.heap.size ≤ gb370)); have n3_ := aM ((by rw [hg]; exact (below_size bB) : w.heap.size ≤ gb370)); clear HB; have HB := n0_; have BK370 := n1_; have GW370 := n2_; have GE370 := n3_; clear n0_ n1_ n2_ n3_; clear hb hbox hg) | ((with_reducible refine gate_dst (N := 4) rfl ?_); refine bE 4 #[.int .i64 a1_0, .int .i64 a1_1, .int .i64 a1_2, .int .i64 a1_3] 79 ?_; intro gb371 hg w18 hbox hb; have n0_ := aM (blk_below (g := gb370) (o := .cells #[.int .i64 a0_0, .int .i64 a0_1, .int .i64 a0_2, .int .i64 a0_3] 79 (0, 0)) kB hb); have n1_ := aM (below_step bS hb); have n2_ := aM (hbox); have n3_ := aM ((by rw [hg]; exact (below_size bS) : w.heap.size ≤ gb371)); have n4_ := aM ((by rw [hg]; exact (below_size bS) : w.heap.size ≤ gb371)); have n5_ := aM ((by rw [hg]; exact Nat.ne_of_lt (blk_lt (g := gb370) (o := .cells #[.int .i64 a0_0, .int .i64 a0_1, .int .i64 a0_2, .int .i64 a0_3] 79 (0, 0)) kB) : gb370 ≠ gb371)); have n6_ := aM ((by rw [hg]; exact Nat.ne_of_gt (blk_lt (g := gb370) (o := .cells #[.int .i64 a0_0, .int .i64 a0_1, .int .i64 a0_2, .int .i64 a0_3] 79 (0, 0)) kB) : gb371 ≠ gb370)); clear BK370; clear HB; have BK370 := n0_; have HB := n1_; have BK371 := n2_; have GW371 := n3_; have GE371 := n4_; have NB370_371 := n5_; have NB371_370 := n6_; clear n0_ n1_ n2_ n3_ n4_ n5_ n6_; clear hb hbox hg; have hnb19 := NB370_371.out; have hnc19 := NB371_370.out; have hcz20_0 := (blk_cell BK370.out 0).trans (show _ = some ((.int .i64 a0_0) : Value) from rfl); have hcz20_1 := (blk_cell BK370.out 1).trans (show _ = some ((.int .i64 a0_1) : Value) from rfl); have hcz20_2 := (blk_cell BK370.out 2).trans (show _ = some ((.int .i64 a0_2) : Value) from rfl); have hcz20_3 := (blk_cell BK370.out 3).trans (show _ = some ((.int .i64 a0_3) : Value) from rfl); have hfz20_0 := blk_frozen BK370.out 0; have hfz20_1 := blk_frozen BK370.out 1; have hfz20_2 := blk_frozen BK370.out 2; have hfz20_3 := blk_frozen BK370.out 3; have hcz21_0 := (blk_cell BK371.out 0).trans (show _ = some ((.int .i64 a1_0) : Value) from rfl); have hcz21_1 := (blk_cell BK371.out 1).trans (show _ = some ((.int .i64 a1_1) : Value) from rfl); have hcz21_2 := (blk_cell BK371.out 2).trans (show _ = some ((.int .i64 a1_2) : Value) from rfl); have hcz21_3 := (blk_cell BK371.out 3).trans (show _ = some ((.int .i64 a1_3) : Value) from rfl); have hfz21_0 := blk_frozen BK371.out 0; have hfz21_1 := blk_frozen BK371.out 1; have hfz21_2 := blk_frozen BK371.out 2; have hfz21_3 := blk_frozen BK371.out 3))); go_ret; exact ⟨rE, bS⟩
   ·rw [if_neg c16] at H
    have c16b0 : (a2 == 3) = false := beq_eq_false_iff_ne.mpr c16; have c16b1 : (a2 != 3) = true := bne_iff_ne.mpr c16; obtain rfl := Option.some.inj H; go_enter Try.func143, Try.ntmps143; (go_wp2_with (first | ((with_reducible refine gate_dst (N := 3) rfl ?_); refine bE 3 #[.int .i64 a0_0, .int .i64 a0_1, .int .i64 a0_2, .int .i64 a0_3] 79 ?_; intro gb370 hg w22 hbox hb; have n0_ := aM (below_step bB hb); have n1_ := aM (hbox); have n2_ := aM ((by rw [hg]; exact (below_size bB) : w.heap.size ≤ gb370)); have n3_ := aM ((by rw [hg]; exact (below_size bB) : w.heap.size ≤ gb370)); clear HB; have HB := n0_; have BK370 := n1_; have GW370 := n2_; have GE370 := n3_; clear n0_ n1_ n2_ n3_; clear hb hbox hg) | ((with_reducible refine gate_dst (N := 4) rfl ?_); refine bE 4 #[.int .i64 a1_0, .int .i64 a1_1, .int .i64 a1_2, .int .i64 a1_3] 79 ?_; intro gb371 hg w23 hbox hb; have n0_ := aM (blk_below (g := gb370) (o := .cells #[.int .i64 a0_0, .int .i64 a0_1, .int .i64 a0_2, .int .i64 a0_3] 79 (0, 0)) kB hb); have n1_ := aM (below_step bS hb); have n2_ := aM (hbox); have n3_ := aM ((by rw [hg]; exact (below_size bS) : w.heap.size ≤ gb371)); have n4_ := aM ((by rw [hg]; exact (below_size bS) : w.heap.size ≤ gb371)); have n5_ := aM ((by rw [hg]; exact Nat.ne_of_lt (blk_lt (g := gb370) (o := .cells #[.int .i64 a0_0, .int .i64 a0_1, .int .i64 a0_2, .int .i64 a0_3] 79 (0, 0)) kB) : gb370 ≠ gb371)); have n6_ := aM ((by rw [hg]; exact Nat.ne_of_gt (blk_lt (g := gb370) (o := .cells #[.int .i64 a0_0, .int .i64 a0_1, .int .i64 a0_2, .int .i64 a0_3] 79 (0, 0)) kB) : gb371 ≠ gb370)); clear BK370; clear HB; have BK370 := n0_; have HB := n1_; have BK371 := n2_; have GW371 := n3_; have GE371 := n4_; have NB370_371 := n5_; have NB371_370 := n6_; clear n0_ n1_ n2_ n3_ n4_ n5_ n6_; clear hb hbox hg; have hnb24 := NB370_371.out; have hnc24 := NB371_370.out; have hcz25_0 := (blk_cell BK370.out 0).trans (show _ = some ((.int .i64 a0_0) : Value) from rfl); have hcz25_1 := (blk_cell BK370.out 1).trans (show _ = some ((.int .i64 a0_1) : Value) from rfl); have hcz25_2 := (blk_cell BK370.out 2).trans (show _ = some ((.int .i64 a0_2) : Value) from rfl); have hcz25_3 := (blk_cell BK370.out 3).trans (show _ = some ((.int .i64 a0_3) : Value) from rfl); have hfz25_0 := blk_frozen BK370.out 0; have hfz25_1 := blk_frozen BK370.out 1; have hfz25_2 := blk_frozen BK370.out 2; have hfz25_3 := blk_frozen BK370.out 3; have hcz26_0 := (blk_cell BK371.out 0).trans (show _ = some ((.int .i64 a1_0) : Value) from rfl); have hcz26_1 := (blk_cell BK371.out 1).trans (show _ = some ((.int .i64 a1_1) : Value) from rfl); have hcz26_2 := (blk_cell BK371.out 2).trans (show _ = some ((.int .i64 a1_2) : Value) from rfl); have hcz26_3 := (blk_cell BK371.out 3).trans (show _ = some ((.int .i64 a1_3) : Value) from rfl); have hfz26_0 := blk_frozen BK371.out 0; have hfz26_1 := blk_frozen BK371.out 1; have hfz26_2 := blk_frozen BK371.out 2; have hfz26_3 := blk_frozen BK371.out 3))); go_ret; exact ⟨rE, bS⟩

/-! ### impl_ruledOrder_1: function 142 -/
def impl_ruledOrder_1.f (a0 : Int) (a1 : Int) (l2 : List (S79)) (a3 : Int) : Option (Bool) := if 0 ≤ a0 then (if a0 < (l2.length : Int) then (if 0 ≤ a1 then (if a1 < (l2.length : Int) then ((impl_difference.f ((rd_T79 l2 a0).f0) ((rd_T79 l2 a0).f1) ((rd_T79 l2 a0).f2) ((rd_T79 l2 a0).f3) ((rd_T79 l2 a1).f0) ((rd_T79 l2 a1).f1) ((rd_T79 l2 a1).f2) ((rd_T79 l2 a1).f3) a3).bind fun t376 => (some (decide (t376 < 0)))) else (none)) else (none)) else (none)) else (none)
def impl_ruledOrder_1.T1 : Bool × List (List Nat × List Nat) := (true, [([], []), ([], []), ([0, 1], [0, 1]), ([2], [2]), ([], []), ([], []), ([4, 5], [4, 5]), ([6], [6]), ([], []), ([3, 7, 8], [3, 7, 8]), ([9], [9]), ([10, 9, 0, 1, 2, 3, 4, 5, 6, 7, 8, 9, 10], [10])])
def impl_ruledOrder_1.B1 : List Nat := [0, 0, 3, 7, 0, 0, 48, 112, 0, 511, 1023, 2047]
theorem impl_ruledOrder_1.tab1 : rtab .any (opsOf Try.f142 1) = impl_ruledOrder_1.T1 := by kernel_rfl
theorem impl_ruledOrder_1.bits1 : waitsOk impl_ruledOrder_1.T1.2 impl_ruledOrder_1.B1 = true := by kernel_rfl
set_option maxHeartbeats 8000000 in
set_option maxRecDepth 100000 in
theorem impl_ruledOrder_1.calls {gb372 : Nat} {gb373 : Nat} (a0 : Int) (a1 : Int) (A2 : Option Addr) (c2 : Nat) (l2 : List (S79)) (a3 : Int) (r : Bool) (w : World) (hr2 : Kd.C k79 w A2 l2.length l2) (hc2 : l2.length ≤ c2) (hb372 : w.heap[gb372]? = some (.cells #[.slice A2 l2.length c2] 37 (0, 0))) (hb373 : w.heap[gb373]? = some (.cells #[.int .i64 a3] 3 (0, 0))) (h : impl_ruledOrder_1.f a0 a1 l2 a3 = some r) :
  Calls Try.prog 142 #[.int .i64 a0, .int .i64 a1, .pointer (some ⟨gb372, 0, none⟩), .pointer (some ⟨gb373, 0, none⟩)] w fun e w' => e = .returned (.bool r) ∧ Below w.heap.size w w' := by
 have hu79 := Try.underlying79; have HR2 := aM hr2; have HC2 := aM hc2; clear hr2 hc2; have BK372 := aM hb372; clear hb372; have BK373 := aM hb373; clear hb373; have NB372_373 := aM (blk_ne BK372.out BK373.out (by decide)); have NB373_372 := aM (blk_ne BK373.out BK372.out (by decide)); have HB := aM (Below.refl w.heap.size w); have H : (if 0 ≤ a0 then (if a0 < (l2.length : Int) then (if 0 ≤ a1 then (if a1 < (l2.length : Int) then ((impl_difference.f ((rd_T79 l2 a0).f0) ((rd_T79 l2 a0).f1) ((rd_T79 l2 a0).f2) ((rd_T79 l2 a0).f3) ((rd_T79 l2 a1).f0) ((rd_T79 l2 a1).f1) ((rd_T79 l2 a1).f2) ((rd_T79 l2 a1).f3) a3).bind fun t376 => (some (decide (t376 < 0)))) else (none)) else (none)) else (none)) else (none)) = some r := h; clear h; by_cases c5 : 0 ≤ a0; rotate_left
 ·rw [if_neg c5] at H; exact absurd H (by simp)
 rw [if_pos c5] at H; have c5b0 : decide (0 ≤ a0) = true := decide_eq_true c5; clear c5; by_cases c6 : a0 < (l2.length : Int); rotate_left
 ·rw [if_neg c6] at H; exact absurd H (by simp)
 rw [if_pos c6] at H; have c6b0 : decide (a0 < (l2.length : Int)) = true := decide_eq_true c6; clear c6; by_cases c7 : 0 ≤ a1; rotate_left
 ·rw [if_neg c7] at H; exact absurd H (by simp)
 rw [if_pos c7] at H; have c7b0 : decide (0 ≤ a1) = true := decide_eq_true c7; clear c7; by_cases c8 : a1 < (l2.length : Int); rotate_left
 ·rw [if_neg c8] at H; exact absurd H (by simp)
 rw [if_pos c8] at H; have c8b0 : decide (a1 < (l2.length : Int)) = true := decide_eq_true c8; clear c8; replace H := oB H; obtain ⟨t376, A90, H⟩ := H; replace H : (some (decide (t376 < 0))) = some r := H; have A9 := aM A90; clear A90; obtain rfl := Option.some.inj H; go_enter Try.func142, Try.ntmps142; (try go_wp2); have n0_ := aM (blk_drew BK372.out); have n1_ := aM (blk_drew BK373.out); have n2_ := aM (below_drew1 HB.out); clear BK372; clear BK373; clear HB; have BK372 := n0_; have BK373 := n1_; have HB := n2_; clear n0_ n1_ n2_; have p374 : 0 ≤ (a0 : Int) := oD; have q374 : a0 < (l2.length : Int) := oD; obtain ⟨ad374, e374, hx374_0, hx374_1, hx374_2, hx374_3⟩ := at_T79 HR2.out a0 p374 q374; have hw374_3 := hx374_3; have hw374_2 := hx374_2; have hw374_1 := hx374_1; have hw374_0 := hx374_0; cases e374; replace hx374_0 := (cB HB.out hx374_0 :); replace hx374_1 := (cB HB.out hx374_1 :); replace hx374_2 := (cB HB.out hx374_2 :); replace hx374_3 := (cB HB.out hx374_3 :); replace p374 := eq_true p374; replace q374 := eq_true q374; have p375 : 0 ≤ (a1 : Int) := oD; have q375 : a1 < (l2.length : Int) := oD; obtain ⟨ad375, e375, hx375_0, hx375_1, hx375_2, hx375_3⟩ := at_T79 HR2.out a1 p375 q375; have hw375_3 := hx375_3; have hw375_2 := hx375_2; have hw375_1 := hx375_1; have hw375_0 := hx375_0; obtain rfl : ad374 = ad375 := (by injection e375); replace hx375_0 := (cB HB.out hx375_0 :); replace hx375_1 := (cB HB.out hx375_1 :); replace hx375_2 := (cB HB.out hx375_2 :); replace hx375_3 := (cB HB.out hx375_3 :); replace p375 := eq_true p375; replace q375 := eq_true q375; refine start_ (n := 12) (S := fun w' => w'.cell? ⟨gb372, 0, none⟩ = some (.slice (some ad374) l2.length c2) ∧ w'.cell? ⟨gb373, 0, none⟩ = some (.int .i64 a3) ∧ w'.cell? (ad374.add ((a0).toNat * 4)) = some (.int .i64 ((rd_T79 l2 a0).f0)) ∧ w'.cell? ⟨(ad374.add ((a0).toNat * 4)).block, (ad374.add ((a0).toNat * 4)).off + 1, none⟩ = some (.int .i64 ((rd_T79 l2 a0).f1)) ∧ w'.cell? ⟨(ad374.add ((a0).toNat * 4)).block, (ad374.add ((a0).toNat * 4)).off + 2, none⟩ = some (.int .i64 ((rd_T79 l2 a0).f2)) ∧ w'.cell? ⟨(ad374.add ((a0).toNat * 4)).block, (ad374.add ((a0).toNat * 4)).off + 3, none⟩ = some (.int .i64 ((rd_T79 l2 a0).f3)) ∧ w'.cell? (ad374.add ((a1).toNat * 4)) = some (.int .i64 ((rd_T79 l2 a1).f0)) ∧ w'.cell? ⟨(ad374.add ((a1).toNat * 4)).block, (ad374.add ((a1).toNat * 4)).off + 1, none⟩ = some (.int .i64 ((rd_T79 l2 a1).f1)) ∧ w'.cell? ⟨(ad374.add ((a1).toNat * 4)).block, (ad374.add ((a1).toNat * 4)).off + 2, none⟩ = some (.int .i64 ((rd_T79 l2 a1).f2)) ∧ w'.cell? ⟨(ad374.add ((a1).toNat * 4)).block, (ad374.add ((a1).toNat * 4)).off + 3, none⟩ = some (.int .i64 ((rd_T79 l2 a1).f3))) (ds := []) (bA 12 0) (by kernel_rfl) rfl rfl ⟨(blk_cell BK372.out 0).trans rfl, (blk_cell BK373.out 0).trans rfl, (cB HB.out hw374_0 :), (cB HB.out hw374_1 :), (cB HB.out hw374_2 :), (cB HB.out hw374_3 :), (cB HB.out hw375_0 :), (cB HB.out hw375_1 :), (cB HB.out hw375_2 :), (cB HB.out hw375_3 :)⟩ (fun hHeld => ?_); refine with_tabW impl_ruledOrder_1.tab1 impl_ruledOrder_1.bits1 (fun HT_ HW_ => ?_); generalize w.drew = w10 at BK372 BK373 HB hx374_0 hx374_1 hx374_2 hx374_3 hx375_0 hx375_1 hx375_2 hx375_3 hHeld ⊢; refine pU 1 8 (bA 12 2) ?_; refine pU 5 12 (bA 12 34) ?_; refine tU 0 7 (bA 12 35) ?_; refine pU 2 9 (bA 12 39) ?_; refine tU 3 10 (bA 12 47) ?_; refine tU 4 11 (bA 12 63) ?_; refine pU 6 13 (bA 12 127) ?_; refine tU 7 14 (bA 12 255) ?_; refine tU 8 15 (bA 12 511) ?_; refine one_ (i := 9) (N := some 16) (bA 12 1023) rfl rfl (one_of HT_.out (by kernel_rfl)) (by decide) (fun K hK => ?_); refine goes_ Try.func143 (by kernel_rfl) rfl #[.agg #[.int .i64 ((rd_T79 l2 a0).f0), .int .i64 ((rd_T79 l2 a0).f1), .int .i64 ((rd_T79 l2 a0).f2), .int .i64 ((rd_T79 l2 a0).f3)], .agg #[.int .i64 ((rd_T79 l2 a1).f0), .int .i64 ((rd_T79 l2 a1).f1), .int .i64 ((rd_T79 l2 a1).f2), .int .i64 ((rd_T79 l2 a1).f3)], .int .i64 a3] (by rfl) rfl rfl aE ?_; (with_reducible refine (impl_difference.calls ((rd_T79 l2 a0).f0) ((rd_T79 l2 a0).f1) ((rd_T79 l2 a0).f2) ((rd_T79 l2 a0).f3) ((rd_T79 l2 a1).f0) ((rd_T79 l2 a1).f1) ((rd_T79 l2 a1).f2) ((rd_T79 l2 a1).f3) a3 t376 _ A9.out).mono ?_); rintro e w11 ⟨rfl, hb⟩; refine ⟨_, rfl, ?_⟩; have n0_ := aM (blk_below (g := gb372) (o := .cells #[.slice (some ad374) l2.length c2] 37 (0, 0)) kB hb); have n1_ := aM (blk_below (g := gb373) (o := .cells #[.int .i64 a3] 3 (0, 0)) kB hb); have n2_ := aM (below_step bS hb); clear BK372; clear BK373; clear HB; have BK372 := n0_; have BK373 := n1_; have HB := n2_; clear n0_ n1_ n2_; (try clear hb); refine hK.out _ _ ⟨(blk_cell BK372.out 0).trans rfl, (blk_cell BK373.out 0).trans rfl, (cB HB.out hw374_0 :), (cB HB.out hw374_1 :), (cB HB.out hw374_2 :), (cB HB.out hw374_3 :), (cB HB.out hw375_0 :), (cB HB.out hw375_1 :), (cB HB.out hw375_2 :), (cB HB.out hw375_3 :)⟩ (fun hHeld => ?_); clear hK K; refine norm_ (a' := ?_) ?_ ?_; rotate_left
 ·show Act.put _ (some 16) _ = _
  simp only [Act.put, sA, sZ, sS, i64_w, i32_w]; rfl
 refine pU 10 17 (bA 12 2047) ?_; refine pU 11 6 (bA 12 4095) ?_; refine done_ (done_of HT_.out (by kernel_rfl)) ?_; (try go_wp2); go_ret; exact ⟨rE, bS⟩

/-! ### sortedBy: words -/
theorem encs_drop {α : Type} (enc : α → Value) (xs : List α) (i : Nat) : encs enc (xs.drop i) = (encs enc xs).drop i := by simp [encs, List.map_drop]
theorem encs_take {α : Type} (enc : α → Value) (xs : List α) (i : Nat) : encs enc (xs.take i) = (encs enc xs).take i := by simp [encs, List.map_take]
/-- copy(v[i:], v[j:]) of a row of one's own. -/
theorem R_shift {α : Type} {P : Program} {enc : α → Value} {h1 : ∀ x, (enc x).oneCell' = true} (d : α) {W : World} {base : Nat} {ok : Nat → Prop} {g n cap : Nat} {xs : List α} {e t t' ty : TypeId} (ht : P.underlying t = some (.slice e)) (hinfo : (P.info? e).map (·.size) = some 1)
    (HO : (Kd.scalar enc h1).R e W base ok (.slice (some ⟨g, 0, none⟩) n cap) xs) (i j k dc sc : Nat) (hi : i + k ≤ n) (hj : j + k ≤ n) (hk : k = min (n - j) (n - i)) (A B : Option Addr) (hA : 0 < k → A = some ⟨g, i, none⟩) (hB : 0 < k → B = some ⟨g, j, none⟩) :
    ∃ w1, (Builtin.copy_ #[t, t'] ty #[.slice A (n - i) dc, .slice B (n - j) sc]).run P W = .ok (.int .i64 (k : Int)) w1 ∧
      (Kd.scalar enc h1).R e w1 base ok (.slice (some ⟨g, 0, none⟩) n cap) (xs.take i ++ (xs.drop j).take k ++ xs.drop (i + k)) ∧ W.grownBy w1 (some g) := by
  obtain ⟨hn, hcapn, _⟩ := Kd.R_reads' HO
  rcases Nat.eq_zero_or_pos k with h0 | hp
  · refine ⟨W, ?_, ?_, World.grownBy.refl W _⟩
    · have hz := run_copy_none (P := P) W t t' ty e A B (n - i) dc (n - j) sc ht hinfo (by have h_ : Nat.min (n - j) (n - i) = min (n - j) (n - i) := rfl; omega)
      rw [hz, h0]; rfl
    · subst h0
      simpa using HO
  · have hown := Kd.own_of_R HO
    rcases hown.2 with ⟨he, hx0⟩ | ⟨g', cap', cur, hv, hb, hh, hnc, hcm, hcs, htake⟩
    · cases he
    · obtain ⟨rfl, rfl⟩ : g' = g ∧ cap' = cap := by injection hv with a b c; injection a with a; injection a with a; exact ⟨a.symm, c.symm⟩
      have htk : cur.toList.take xs.length = encs enc xs := by rw [← htake, Nat.mul_one]
      have hkl : (encs enc ((xs.drop j).take k)).length = k := by rw [encs_length, List.length_take, List.length_drop]; omega
      have hsrc : ∀ q u, (encs enc ((xs.drop j).take k))[q]? = some u → W.cell? ((⟨g', j, none⟩ : Addr).add q) = some u := by
        intro q u hu
        have hq : q < k := by
          rcases Nat.lt_or_ge q k with h | h
          · exact h
          · rw [List.getElem?_eq_none (by omega)] at hu; cases hu
        rw [show (⟨g', j, none⟩ : Addr).add q = ⟨g', j + q, none⟩ by unfold Addr.add; simp, cell_of_row W g' _ cur e (0, 0) hh]
        rw [encs_take, encs_drop, ← htk] at hu
        rw [List.getElem?_take_of_lt hq, List.getElem?_drop, List.getElem?_take_of_lt (by omega)] at hu
        simpa using hu
      have hr := run_copy_cells (P := P) W t t' ty e g' i (n - i) dc ⟨g', j, none⟩ (n - j) sc (encs enc ((xs.drop j).take k)) ht hinfo (by rw [hkl, hk]) hsrc
        (fun q hq => by rw [cell_of_row W g' _ cur e (0, 0) hh]; simp; omega) (fun q _ => blk_frozen hh _) (by intro u hu; simp only [encs, List.mem_map] at hu; obtain ⟨q, _, rfl⟩ := hu; exact h1 q)
      obtain ⟨cur', h3, h4, h5⟩ := setCells_row (encs enc ((xs.drop j).take k)) i W cur hh (by rw [hkl]; omega)
      obtain ⟨s1, s2, s3, s4⟩ := setCells_same g' (encs enc ((xs.drop j).take k)) i W
      refine ⟨_, by rw [hA hp, hB hp, hr, hkl]; exact rfl, Kd.R_of_own ?_ HO.1, ⟨s1, s2, s3, by rw [s4]; exact Nat.le_refl _, fun q _ hq => setCells_far _ _ q (fun he => hq (by rw [he]))⟩⟩
      have hln : (xs.take i ++ (xs.drop j).take k ++ xs.drop (i + k)).length = xs.length := by
        simp only [List.length_append, List.length_take, List.length_drop]
        omega
      rw [hln]
      refine ⟨by rw [encs_length, hln, Nat.mul_one], .inr ⟨g', cap', cur', by rw [hn], hb, h3, by omega, hcm, by rw [h4, hcs], ?_⟩⟩
      rw [h5, hkl, Nat.mul_one, encs_append, encs_append, encs_take, encs_drop, ← htk]
      have e1 : (cur.toList.take xs.length).take i = cur.toList.take i := by rw [List.take_take, Nat.min_eq_left (by omega)]
      have e2 : (cur.toList.take xs.length).drop (i + k) = (cur.toList.drop (i + k)).take (xs.length - (i + k)) := by rw [List.drop_take]
      have hcl : xs.length ≤ cur.toList.length := by have h_ : cur.toList.length = cur.size := Array.length_toList; omega
      rw [encs_take, encs_drop, ← htk, e1, e2]
      have l1 : (cur.toList.take i ++ ((cur.toList.take xs.length).drop j).take k).length = i + k := by
        simp only [List.length_append, List.length_take, List.length_drop]; omega
      rw [List.take_append, l1, List.take_of_length_le (by omega)]

/-- Where a number goes among numbers that are sorted by a test. -/
def sbK (p : Int → Option Bool) (o : List Int) : Nat → Option Nat
  | 0 => some 0
  | k + 1 => (p (rd o k)).bind fun b => if b = true then sbK p o k else some (k + 1)
/-- Numbers sorted by insertion. -/
def sbL (p : Int → Int → Option Bool) : List Int → List Int → Option (List Int)
  | [], o => some o
  | i :: t, o => (sbK (p i) o o.length).bind fun m => sbL p t (o.take m ++ i :: o.drop m)
theorem sbK_le {p : Int → Option Bool} {o : List Int} : ∀ (n : Nat) {m : Nat}, sbK p o n = some m → m ≤ n
  | 0, m, h => by simp only [sbK, Option.some.injEq] at h; omega
  | n + 1, m, h => by
    simp only [sbK] at h
    cases hp : p (rd o (n : Int)) with
    | none => rw [hp] at h; simp at h
    | some b =>
      rw [hp] at h
      cases b with
      | true => have := sbK_le n (show sbK p o n = some m by simpa using h); omega
      | false => simp at h; omega
theorem sb_shift' (a b : List Int) (i : Int) : ((((a ++ (b ++ [0])).take (a.length + 1) ++ ((a ++ (b ++ [0])).drop a.length).take b.length ++ (a ++ (b ++ [0])).drop (a.length + 1 + b.length))).set a.length i) = a ++ i :: b := by
  have e1 : (a ++ (b ++ [0])).take (a.length + 1) = a ++ [(b ++ [0]).head (by simp)] := by
    rw [List.take_append]
    simp
    cases b <;> simp [List.take_of_length_le]
  have e2 : ((a ++ (b ++ [0])).drop a.length).take b.length = b := by
    rw [List.drop_left]
    simp
  have e3 : (a ++ (b ++ [0])).drop (a.length + 1 + b.length) = [] := by
    apply List.drop_eq_nil_of_le
    simp; omega
  rw [e1, e2, e3]
  simp
theorem sb_shift (o : List Int) (m : Nat) (i : Int) (hm : m ≤ o.length) : (((o ++ [0]).take (m + 1) ++ ((o ++ [0]).drop m).take (o.length - m) ++ (o ++ [0]).drop (m + 1 + (o.length - m))).set m i) = o.take m ++ i :: o.drop m := by
  have h1 : (o.take m).length = m := by rw [List.length_take]; omega
  have h2 : (o.drop m).length = o.length - m := by rw [List.length_drop]
  have h := sb_shift' (o.take m) (o.drop m) i
  rw [h1, h2, ← List.append_assoc, List.take_append_drop] at h
  exact h
theorem sb_copy {P : Program} {oi : Oper} {a : Act} {w w1 : World} {v u u' : Value} {s x : Operand} {t t' : TypeId} (hop : oi.op = .call { callee := .builtin .copy, args := #[s, x], argTypes := #[t, t'] }) (hs : a.eval s = u) (hx : a.eval x = u') (hr : (Builtin.copy_ #[t, t'] oi.type #[u, u']).run P w = .ok v w1) : (execOp a.eval oi).run P w = .ok (.value v) w1 := by
  unfold execOp
  simp only [hop, resolve, invoke, builtin, Sem.run_bind, Sem.run_pure, Result.andThen_ok, List.map_toArray, List.map_cons, List.map_nil, hs, hx, hr]
def sb_T9 : Bool × List (List Nat × List Nat) := (true, [([], []), ([], []), ([1], [1]), ([0, 2], [0, 2]), ([], []), ([], []), ([4, 5], [4, 5]), ([3, 6], [3, 6])])
def sb_B9 : List Nat := [0, 0, 2, 7, 0, 0, 48, 127]
theorem sb_tab9 : rtab .any (opsOf Try.f113 9) = sb_T9 := by kernel_rfl
theorem sb_bits9 : waitsOk sb_T9.2 sb_B9 = true := by kernel_rfl

/-! ### sortedBy by impl_ruledOrder_1 -/
set_option maxHeartbeats 8000000 in
set_option maxRecDepth 100000 in
theorem sb_calls_142 (q0 q1 : Value) (A0 : Option Addr) (c0 : Nat) (l0 : List Int) (r : List Int) (w : World) (hr0 : Kd.C (Kd.int .i64) w A0 l0.length l0) (hc0 : l0.length ≤ c0) (p : Int → Int → Option Bool)
    (hcl : ∀ (a b : Int) (t : Bool) (w' : World), Below w.heap.size w w' → p a b = some t → Calls Try.prog 142 #[.int .i64 a, .int .i64 b, q0, q1] w' fun e w'' => e = .returned (.bool t) ∧ Below w'.heap.size w' w'')
    (hlen : l0.length < 17592186044416) (h : sbL p l0 [] = some r) : Calls Try.prog 113 #[.slice A0 l0.length c0, .func (.func 142) #[] #[q0, q1]] w fun e w' => ∃ v0_ : Value, e = .returned (v0_) ∧ Kd.R (Kd.int .i64) 3 w' w.heap.size (fun _ => True) v0_ r ∧ Below w.heap.size w w' := by
 have HR0 := Aside0.mk hr0
 have HC0 := Aside0.mk hc0
 clear hr0 hc0
 have HB := Aside0.mk (Below.refl w.heap.size w)
 have HCL := Aside0.mk hcl
 clear hcl
 have HL := Aside0.mk hlen
 clear hlen
 have H' := Aside0.mk h
 clear h
 go_enter Try.func113, Try.ntmps113
 go_wp2
 go_loopg [5, 11] l0.length (fun kq v5 v11 w' => ∃ (j : Nat) (o : List Int) (x11 : Int), v11 = .int .i64 x11 ∧ Aside0 (x11 = j) ∧ Aside0 (j + kq = l0.length ∧ o.length = j) ∧ Aside0 (sbL p (l0.drop j) o = some r) ∧ Aside0 (Kd.R (Kd.int .i64) 3 w' w.heap.size (fun _ => True) v5 o) ∧ Aside0 (Below w.heap.size w w'))
 case atStart => exact ⟨0, [], 0, rfl, ⟨rfl⟩, ⟨by omega, rfl⟩, H', ⟨Kd.R_nil _ _ _ _ _⟩, ⟨bB⟩⟩
 case round =>
  clear H'
  obtain ⟨j, o, x11, rfl, HJ, HK, H', HO, HB⟩ := hrel
  cases gk with
  | zero =>
   have c0b : decide (x11 < (l0.length : Int)) = false := decide_eq_false (by have := HJ.out; have := HK.out; omega)
   have H := H'.out
   clear H'
   rw [List.drop_eq_nil_of_le (by have := HK.out; omega), sbL] at H
   obtain rfl := Option.some.inj H
   go_wp2
   go_ret
   exact ⟨_, rfl, by (with_reducible repeat (first | apply Kd.R_alloc | apply Kd.R_drewN | apply Kd.R_drew)); exact HO.out, bB⟩
  | succ k1 =>
   have c0b : decide (x11 < (l0.length : Int)) = true := decide_eq_true (by have := HJ.out; have := HK.out; omega)
   have p1 : 0 ≤ x11 := by have := HJ.out; omega
   have q1 : x11 < (l0.length : Int) := by have := HJ.out; have := HK.out; omega
   obtain ⟨ad1, e1, hx1⟩ := Kd.at_int HR0.out x11 p1 q1
   cases e1
   replace hx1 := (cB HB.out hx1 :)
   replace p1 := eq_true p1
   replace q1 := eq_true q1
   obtain ⟨Ao, co, eo⟩ := Kd.R_slice HO.out
   subst eo
   have H := H'.out
   clear H'
   rw [List.drop_eq_getElem_cons (by have := HK.out; omega), sbL] at H
   have hrd : l0[j]'(by have := HK.out; omega) = rd l0 x11 := by have h1 := HJ.out; have h2 := HK.out; subst h1; simp [rd]; rw [List.getElem?_eq_getElem (by omega)]; rfl
   rw [hrd] at H
   clear hrd
   obtain ⟨m, hm, H⟩ := Option.bind_eq_some_iff.mp H
   have HM := Aside0.mk hm
   have H' := Aside0.mk H
   clear H hm
   go_wp2
   go_loopg [8] o.length (fun kq v8 w' => ∃ (x8 : Int), v8 = .int .i64 x8 ∧ Aside0 (x8 = (kq : Nat)) ∧ Aside0 (kq ≤ o.length) ∧ Aside0 (sbK (p (rd l0 x11)) o kq = some m) ∧ Aside0 (Kd.R (Kd.int .i64) 3 w' w.heap.size (fun _ => True) (.slice Ao o.length co) o) ∧ Aside0 (Below w.heap.size w w'))
   case atStart => exact ⟨(o.length : Int), (by first | rfl | (simp; done)), ⟨rfl⟩, ⟨Nat.le_refl _⟩, HM, ⟨by (with_reducible repeat (first | apply Kd.R_alloc | apply Kd.R_drewN | apply Kd.R_drew)); exact HO.out⟩, ⟨bB⟩⟩
   case round =>
    clear HM HO
    obtain ⟨x8, rfl, HX, HQ, HM, HO, HB⟩ := hrel
    cases gk with
    | zero =>
     have c1 : decide (0 < x8) = false := decide_eq_false (by have := HX.out; omega)
     have H := HM.out
     clear HM
     simp only [sbK, Option.some.injEq] at H
     have HM1 := Aside0.mk (show (m : Int) = x8 by have := HX.out; omega)
     clear H
     obtain ⟨hx, hm_⟩ : x8 = (m : Int) ∧ m ≤ o.length := ⟨by have := HX.out; have := HM1.out; omega, by have h1 := HM1.out; have h2 := HX.out; have h3 := HQ.out; omega⟩
     have HX2 := Aside0.mk (And.intro hx hm_)
     clear hx hm_
     have LM := Aside0.mk (show o.length < 17592186044416 by have := HL.out; have := HK.out; omega)
     go_wp2_with (first | ((with_reducible refine gate_builtin (b := .append) (xs := #[.tmp 31, .tmp 32]) rfl ?_); at_builtin; refine Kd.R_append (Kd.int .i64) (w0 := w) w.heap.size rfl (.tmp 31) (.tmp 32) 34 3 (.int .i64 0) 8 rfl Try.underlying34 info3 rfl (by decide) (by omega) (.slice Ao o.length co) o 0 [.int .i64 0] (fun _ => True) (fun _ => False) rfl rfl ?aP (fun _ hk => hk.elim) ?aF ?aO ?aB ?aS ?aL ?_; (case aP => exact rfl); (case aB => exact bB); (case aF => exact (fun _ _ => trivial)); (case aO => exact (by (with_reducible repeat (first | apply Kd.R_alloc | apply Kd.R_drewN | apply Kd.R_drew)); exact HO.out)); (case aS => exact (below_size bB)); (case aL => have := LM.out; omega); intro v5 w8 ho hb hg hat; have n0_ := Aside0.mk (hb); have n1_ := Aside0.mk (ho); clear HB; clear HO; have HB := n0_; have HO := n1_; clear n0_ n1_; clear ho hb hg hat))
     obtain ⟨go, cp, eo, gb, gl, cl, HG⟩ := Kd.R_form HO.out (by rw [List.length_append]; simp)
     (first | subst eo | cases eo)
     have GB := Aside0.mk gb
     clear gb gl HG cl
     have hw1 : wrap64 (x8 + 1) = ((m + 1 : Nat) : Int) := by have h1 := HX2.out; have h4 := LM.out; unfold wrap64; omega
     have p4 : 0 ≤ wrap64 (x8 + 1) := by omega
     have q4 : wrap64 (x8 + 1) ≤ (((o ++ [0]).length : Nat) : Int) := by have h1 := HX2.out; rw [List.length_append, List.length_singleton]; omega
     have p5 : 0 ≤ x8 := by have h1 := HX2.out; omega
     have q5 : x8 ≤ (((o ++ [0]).length : Nat) : Int) := by have h1 := HX2.out; rw [List.length_append, List.length_singleton]; omega
     have q6 : x8 < (((o ++ [0]).length : Nat) : Int) := by have h1 := HX2.out; rw [List.length_append, List.length_singleton]; omega
     have ew1 : (wrap64 (x8 + 1)).toNat = m + 1 := by rw [hw1]; rfl
     have ex8 : x8.toNat = m := by rw [HX2.out.1]; rfl
     have EW := Aside0.mk (And.intro ew1 ex8)
     clear hw1 ew1 ex8
     have ln : (o ++ [0]).length = o.length + 1 := by simp
     have LN := Aside0.mk ln
     clear ln
     generalize hoo : o ++ [0] = oo at *
     have OO := Aside0.mk hoo
     clear hoo
     refine start_ (n := 8) (S := fun w' => True) (ds := [7]) #[false, false, false, false, false, false, false, false] (by kernel_rfl) rfl rfl trivial (fun hHeld => ?_); refine with_tabW sb_tab9 sb_bits9 (fun HT_ HW_ => ?_)
     have n0_ := Aside0.mk (Kd.R_drew HO.out)
     have n1_ := Aside0.mk (below_drew1 HB.out)
     clear HO HB
     have HO := n0_
     have HB := n1_
     clear n0_ n1_
     generalize w8.drew = w9 at HO HB ⊢
     refine pU 0 34 #[true, false, false, false, false, false, false, false] ?_
     refine pU 1 35 #[true, true, false, false, false, false, false, false] ?_
     refine pU 2 36 #[true, true, true, false, false, false, false, false] ?_
     refine pU 4 38 #[true, true, true, false, true, false, false, false] ?_
     refine pU 5 39 #[true, true, true, false, true, true, false, false] ?_
     refine pU 3 37 #[true, true, true, true, true, true, false, false] ?_
     refine pU 6 40 #[true, true, true, true, true, true, true, false] ?_
     refine last_ (i := 7) (N := some 41) #[true, true, true, true, true, true, true, true] rfl rfl (one_of HT_.out (by kernel_rfl)) (by decide) (fun K hK => ?_)
     obtain ⟨w10, hrun, ho, hg⟩ := R_shift (P := Try.prog) (ty := 3) (t' := 34) (0 : Int) Try.underlying34 (by rw [show (Try.prog.info? 3).map (·.size) = some 1 from by kernel_rfl]) HO.out (m + 1) m (o.length - m) (cp - (m + 1)) (cp - m) (by have := HX2.out; have := LN.out; omega) (by have := HX2.out; have := LN.out; omega) (by have := HX2.out; have := LN.out; omega)
       (if cp = m + 1 then some ⟨go, 0, none⟩ else some ⟨go, m + 1, none⟩) (if cp = m then some ⟨go, 0, none⟩ else some ⟨go, m, none⟩) (fun h_ => if_neg (by have h1 := (Kd.R_reads' HO.out).2.1; have := LN.out; omega)) (fun h_ => if_neg (by have h1 := (Kd.R_reads' HO.out).2.1; have := LN.out; omega))
     refine value_ (w1 := w10) (v := .int .i64 ((o.length - m : Nat) : Int)) (by rfl) rfl ?_ ?_
     ·refine sb_copy (s := .tmp 37) (x := .tmp 40) (t := 34) (t' := 34) rfl rfl rfl ?_
      simp only [EW.out.1, EW.out.2]
      exact hrun
     refine hK.out _ _ ?_
     clear hK K
     have n0_ := Aside0.mk ho
     have n1_ := Aside0.mk (HB.out.grown hg (below_size HB.out) (fun k_ e_ => by injection e_ with e_; subst e_; exact GB.out))
     clear HO HB ho hrun hg
     have HO := n0_
     have HB := n1_
     clear n0_ n1_
     have p7 := eq_true p5
     have q7 := eq_true q6
     have hl3 : (oo.take (m + 1) ++ (oo.drop m).take (o.length - m) ++ oo.drop (m + 1 + (o.length - m))).length = oo.length := by have := HX2.out; have := LN.out; simp only [List.length_append, List.length_take, List.length_drop]; omega
     obtain ⟨hx9, hf9⟩ := Kd.R_celln 0 HO.out x8 p5 q6
     have HP := Kd.R_putn HO.out x8 (rd l0 x11)
     have HQ9 := Aside0.mk HP
     clear HP p5 q5 q6 p4 q4
     refine done_ (done_of HT_.out (by kernel_rfl)) ?_
     generalize (if cp = (wrap64 (x8 + 1)).toNat then (some ⟨go, 0, none⟩ : Option Addr) else some ⟨go, (wrap64 (x8 + 1)).toNat, none⟩) = ad37
     generalize (if cp = x8.toNat then (some ⟨go, 0, none⟩ : Option Addr) else some ⟨go, x8.toNat, none⟩) = ad40
     go_wp2
     all_goals (go_roundg k1; (case measure => omega); (case rel => exact ⟨j + 1, o.take m ++ rd l0 x11 :: o.drop m, wrap64 (x11 + 1), (by first | rfl | (simp; done)), ⟨by have h1 := HJ.out; have h2 := HK.out; have h3 := HL.out; unfold wrap64; omega⟩, ⟨by have h2 := HK.out; omega, by have h2 := HK.out; have h4 := HX2.out; simp only [List.length_append, List.length_cons, List.length_take, List.length_drop]; omega⟩, H', ⟨by (with_reducible repeat (first | apply Kd.R_alloc | apply Kd.R_drewN | apply Kd.R_drew)); have h8 := HQ9.out; have e9 := sb_shift o m (rd l0 x11) HX2.out.2; rw [OO.out] at e9; rw [EW.out.2, e9] at h8; rw [EW.out.2]; exact h8⟩, ⟨by repeat (first | (with_reducible first | exact HB.out | apply below_alloc | apply pw_below_drewN | apply below_drew1 | refine below_set ?_ GB.out) | exact HB.out)⟩⟩))
    | succ k2 =>
     have c1 : decide (0 < x8) = true := decide_eq_true (by have := HX.out; omega)
     have hw : wrap64 (x8 - 1) = (k2 : Int) := by have h1 := HX.out; have h2 := HQ.out; have h3 := HK.out; have h4 := HL.out; unfold wrap64; omega
     have p2 : 0 ≤ wrap64 (x8 - 1) := by omega
     have q2 : wrap64 (x8 - 1) < (o.length : Int) := by have h2 := HQ.out; omega
     obtain ⟨ad2, e2, hx2⟩ := Kd.at_int (Kd.R_reads' HO.out).2.2 (wrap64 (x8 - 1)) p2 q2
     cases e2
     have H := HM.out
     clear HM
     rw [sbK, ← hw] at H
     have HW := Aside0.mk hw
     clear hw
     replace p2 := eq_true p2
     replace q2 := eq_true q2
     obtain ⟨b, hb, H⟩ := Option.bind_eq_some_iff.mp H
     have HP := Aside0.mk hb
     have HM := Aside0.mk H
     clear H hb
     cases b with
     | true =>
      go_wp2_with (go_at_call 142; refine (HCL.out (rd l0 x11) (rd o (wrap64 (x8 - 1))) true _ bB HP.out).mono ?_; rintro e w' ⟨rfl, hbz⟩; have n0_ := Aside0.mk (Kd.R_below (by (with_reducible repeat (first | apply Kd.R_alloc | apply Kd.R_drewN | apply Kd.R_drew)); exact HO.out) hbz); have n1_ := Aside0.mk (below_step bB hbz); clear HO HB; have HO := n0_; have HB := n1_; clear n0_ n1_ hbz)
      go_roundg k2
      case measure => omega
      case rel => exact ⟨wrap64 (x8 - 1), (by first | rfl | (simp; done)), ⟨HW.out⟩, ⟨by have := HQ.out; omega⟩, ⟨by have := HM.out; simpa using this⟩, ⟨by (with_reducible repeat (first | apply Kd.R_alloc | apply Kd.R_drewN | apply Kd.R_drew)); exact HO.out⟩, ⟨bB⟩⟩
     | false =>
      have H := HM.out
      clear HM
      simp only [Bool.false_eq_true, if_false, Option.some.injEq] at H
      have HM1 := Aside0.mk (show (m : Int) = x8 by have := HX.out; omega)
      clear H
      obtain ⟨hx, hm_⟩ : x8 = (m : Int) ∧ m ≤ o.length := ⟨by have := HX.out; have := HM1.out; omega, by have h1 := HM1.out; have h2 := HX.out; have h3 := HQ.out; omega⟩
      have HX2 := Aside0.mk (And.intro hx hm_)
      clear hx hm_
      have LM := Aside0.mk (show o.length < 17592186044416 by have := HL.out; have := HK.out; omega)
      go_wp2_with (first | (go_at_call 142; refine (HCL.out (rd l0 x11) (rd o (wrap64 (x8 - 1))) false _ bB HP.out).mono ?_; rintro e w' ⟨rfl, hbz⟩; have n0_ := Aside0.mk (Kd.R_below (by (with_reducible repeat (first | apply Kd.R_alloc | apply Kd.R_drewN | apply Kd.R_drew)); exact HO.out) hbz); have n1_ := Aside0.mk (below_step bB hbz); clear HO HB; have HO := n0_; have HB := n1_; clear n0_ n1_ hbz) | ((with_reducible refine gate_builtin (b := .append) (xs := #[.tmp 31, .tmp 32]) rfl ?_); at_builtin; refine Kd.R_append (Kd.int .i64) (w0 := w) w.heap.size rfl (.tmp 31) (.tmp 32) 34 3 (.int .i64 0) 8 rfl Try.underlying34 info3 rfl (by decide) (by omega) (.slice (some ad2) o.length co) o 0 [.int .i64 0] (fun _ => True) (fun _ => False) rfl rfl ?aP (fun _ hk => hk.elim) ?aF ?aO ?aB ?aS ?aL ?_; (case aP => exact rfl); (case aB => exact bB); (case aF => exact (fun _ _ => trivial)); (case aO => exact (by (with_reducible repeat (first | apply Kd.R_alloc | apply Kd.R_drewN | apply Kd.R_drew)); exact HO.out)); (case aS => exact (below_size bB)); (case aL => have := LM.out; omega); intro v5 w8 ho hb hg hat; have n0_ := Aside0.mk (hb); have n1_ := Aside0.mk (ho); clear HB; clear HO; have HB := n0_; have HO := n1_; clear n0_ n1_; clear ho hb hg hat))
      obtain ⟨go, cp, eo, gb, gl, cl, HG⟩ := Kd.R_form HO.out (by rw [List.length_append]; simp)
      (first | subst eo | cases eo)
      have GB := Aside0.mk gb
      clear gb gl HG cl
      have hw1 : wrap64 (x8 + 1) = ((m + 1 : Nat) : Int) := by have h1 := HX2.out; have h4 := LM.out; unfold wrap64; omega
      have p4 : 0 ≤ wrap64 (x8 + 1) := by omega
      have q4 : wrap64 (x8 + 1) ≤ (((o ++ [0]).length : Nat) : Int) := by have h1 := HX2.out; rw [List.length_append, List.length_singleton]; omega
      have p5 : 0 ≤ x8 := by have h1 := HX2.out; omega
      have q5 : x8 ≤ (((o ++ [0]).length : Nat) : Int) := by have h1 := HX2.out; rw [List.length_append, List.length_singleton]; omega
      have q6 : x8 < (((o ++ [0]).length : Nat) : Int) := by have h1 := HX2.out; rw [List.length_append, List.length_singleton]; omega
      have ew1 : (wrap64 (x8 + 1)).toNat = m + 1 := by rw [hw1]; rfl
      have ex8 : x8.toNat = m := by rw [HX2.out.1]; rfl
      have EW := Aside0.mk (And.intro ew1 ex8)
      clear hw1 ew1 ex8
      have ln : (o ++ [0]).length = o.length + 1 := by simp
      have LN := Aside0.mk ln
      clear ln
      generalize hoo : o ++ [0] = oo at *
      have OO := Aside0.mk hoo
      clear hoo
      refine start_ (n := 8) (S := fun w' => True) (ds := [7]) #[false, false, false, false, false, false, false, false] (by kernel_rfl) rfl rfl trivial (fun hHeld => ?_); refine with_tabW sb_tab9 sb_bits9 (fun HT_ HW_ => ?_)
      have n0_ := Aside0.mk (Kd.R_drew HO.out)
      have n1_ := Aside0.mk (below_drew1 HB.out)
      clear HO HB
      have HO := n0_
      have HB := n1_
      clear n0_ n1_
      generalize w8.drew = w9 at HO HB ⊢
      refine pU 0 34 #[true, false, false, false, false, false, false, false] ?_
      refine pU 1 35 #[true, true, false, false, false, false, false, false] ?_
      refine pU 2 36 #[true, true, true, false, false, false, false, false] ?_
      refine pU 4 38 #[true, true, true, false, true, false, false, false] ?_
      refine pU 5 39 #[true, true, true, false, true, true, false, false] ?_
      refine pU 3 37 #[true, true, true, true, true, true, false, false] ?_
      refine pU 6 40 #[true, true, true, true, true, true, true, false] ?_
      refine last_ (i := 7) (N := some 41) #[true, true, true, true, true, true, true, true] rfl rfl (one_of HT_.out (by kernel_rfl)) (by decide) (fun K hK => ?_)
      obtain ⟨w10, hrun, ho, hg⟩ := R_shift (P := Try.prog) (ty := 3) (t' := 34) (0 : Int) Try.underlying34 (by rw [show (Try.prog.info? 3).map (·.size) = some 1 from by kernel_rfl]) HO.out (m + 1) m (o.length - m) (cp - (m + 1)) (cp - m) (by have := HX2.out; have := LN.out; omega) (by have := HX2.out; have := LN.out; omega) (by have := HX2.out; have := LN.out; omega)
        (if cp = m + 1 then some ⟨go, 0, none⟩ else some ⟨go, m + 1, none⟩) (if cp = m then some ⟨go, 0, none⟩ else some ⟨go, m, none⟩) (fun h_ => if_neg (by have h1 := (Kd.R_reads' HO.out).2.1; have := LN.out; omega)) (fun h_ => if_neg (by have h1 := (Kd.R_reads' HO.out).2.1; have := LN.out; omega))
      refine value_ (w1 := w10) (v := .int .i64 ((o.length - m : Nat) : Int)) (by rfl) rfl ?_ ?_
      ·refine sb_copy (s := .tmp 37) (x := .tmp 40) (t := 34) (t' := 34) rfl rfl rfl ?_
       simp only [EW.out.1, EW.out.2]
       exact hrun
      refine hK.out _ _ ?_
      clear hK K
      have n0_ := Aside0.mk ho
      have n1_ := Aside0.mk (HB.out.grown hg (below_size HB.out) (fun k_ e_ => by injection e_ with e_; subst e_; exact GB.out))
      clear HO HB ho hrun hg
      have HO := n0_
      have HB := n1_
      clear n0_ n1_
      have p7 := eq_true p5
      have q7 := eq_true q6
      have hl3 : (oo.take (m + 1) ++ (oo.drop m).take (o.length - m) ++ oo.drop (m + 1 + (o.length - m))).length = oo.length := by have := HX2.out; have := LN.out; simp only [List.length_append, List.length_take, List.length_drop]; omega
      obtain ⟨hx9, hf9⟩ := Kd.R_celln 0 HO.out x8 p5 q6
      have HP := Kd.R_putn HO.out x8 (rd l0 x11)
      have HQ9 := Aside0.mk HP
      clear HP p5 q5 q6 p4 q4
      refine done_ (done_of HT_.out (by kernel_rfl)) ?_
      generalize (if cp = (wrap64 (x8 + 1)).toNat then (some ⟨go, 0, none⟩ : Option Addr) else some ⟨go, (wrap64 (x8 + 1)).toNat, none⟩) = ad37
      generalize (if cp = x8.toNat then (some ⟨go, 0, none⟩ : Option Addr) else some ⟨go, x8.toNat, none⟩) = ad40
      go_wp2
      all_goals (go_roundg k1; (case measure => omega); (case rel => exact ⟨j + 1, o.take m ++ rd l0 x11 :: o.drop m, wrap64 (x11 + 1), (by first | rfl | (simp; done)), ⟨by have h1 := HJ.out; have h2 := HK.out; have h3 := HL.out; unfold wrap64; omega⟩, ⟨by have h2 := HK.out; omega, by have h2 := HK.out; have h4 := HX2.out; simp only [List.length_append, List.length_cons, List.length_take, List.length_drop]; omega⟩, H', ⟨by (with_reducible repeat (first | apply Kd.R_alloc | apply Kd.R_drewN | apply Kd.R_drew)); have h8 := HQ9.out; have e9 := sb_shift o m (rd l0 x11) HX2.out.2; rw [OO.out] at e9; rw [EW.out.2, e9] at h8; rw [EW.out.2]; exact h8⟩, ⟨by repeat (first | (with_reducible first | exact HB.out | apply below_alloc | apply pw_below_drewN | apply below_drew1 | refine below_set ?_ GB.out) | exact HB.out)⟩⟩))

/-! ### impl_sortedBy_142: a function of its own -/
def impl_sortedBy_142.f (l0 : List (Int)) (l1 : List (S79)) (a2 : Int) : Option (List Int) := if l0.length < 17592186044416 then sbL (fun a b => impl_ruledOrder_1.f a b l1 a2) l0 ([] : List Int) else none
theorem impl_sortedBy_142.calls {g1 : Nat} {g2 : Nat} (A0 : Option Addr) (c0 : Nat) (l0 : List (Int)) (A1 : Option Addr) (c1 : Nat) (l1 : List (S79)) (a2 : Int) (r : List Int) (w : World) (hr0 : Kd.C (Kd.int .i64) w A0 l0.length l0) (hc0 : l0.length ≤ c0) (hr1 : Kd.C k79 w A1 l1.length l1) (hc1 : l1.length ≤ c1) (hb1 : w.heap[g1]? = some (.cells #[.slice A1 l1.length c1] 37 (0, 0))) (hb2 : w.heap[g2]? = some (.cells #[.int .i64 a2] 3 (0, 0))) (h : impl_sortedBy_142.f l0 l1 a2 = some r) :
  Calls Try.prog 113 #[.slice A0 l0.length c0, .func (.func 142) #[] #[.pointer (some ⟨g1, 0, none⟩), .pointer (some ⟨g2, 0, none⟩)]] w fun e w' => ∃ v0_ : Value, e = .returned (v0_) ∧ Kd.R (Kd.int .i64) 3 w' w.heap.size (fun _ => True) v0_ r ∧ Below w.heap.size w w' := by
 unfold impl_sortedBy_142.f at h
 split at h
 · rename_i hl
   refine sb_calls_142 _ _ A0 c0 l0 r w hr0 hc0 _ (fun a b t w' hB hp => ?_) hl h
   exact (impl_ruledOrder_1.calls a b _ _ l1 a2 t w' (Kd.C_below hr1 hB) hc1 (blk_below hb1 hB) (blk_below hb2 hB) hp)
 · cases h

/-! ### impl_ruledOrder: function 104 -/
def impl_ruledOrder.f (k : Nat) (l0 : List (S79)) (a1 : Int) : Option (List Int) := (impl_numbersTo.f k (l0.length : Int)).bind fun t379 => ((impl_sortedBy_142.f t379 l0 a1).bind fun t382 => (some t382))
theorem impl_ruledOrder.mono : ∀ a0 a1 k, LeO (impl_ruledOrder.f k a0 a1) (impl_ruledOrder.f (k + 1) a0 a1) := by
 intro a0 a1 k; unfold impl_ruledOrder.f
 repeat' first
   | (with_reducible exact impl_numbersTo.mono _ _)
   | (with_reducible exact LeO.refl _)
   | (with_reducible exact LeO.none _)
   | (with_reducible refine LeO.ite ?_ ?_)
   | (with_reducible refine LeO.bind ?_ (fun _ => ?_))
   | exact impl_numbersTo.mono _ _
   | exact LeO.none _
   | refine LeO.ite ?_ ?_
   | refine LeO.bind ?_ (fun _ => ?_)
set_option maxHeartbeats 8000000 in
set_option maxRecDepth 100000 in
theorem impl_ruledOrder.calls (k : Nat) (A0 : Option Addr) (c0 : Nat) (l0 : List (S79)) (a1 : Int) (r : List Int) (w : World) (hr0 : Kd.C k79 w A0 l0.length l0) (hc0 : l0.length ≤ c0) (h : impl_ruledOrder.f k l0 a1 = some r) :
  Calls Try.prog 104 #[.slice A0 l0.length c0, .int .i64 a1] w fun e w' => ∃ v0_ : Value, e = .returned (v0_) ∧ Kd.R (Kd.int .i64) 3 w' w.heap.size (fun _ => True) v0_ r ∧ Below w.heap.size w w' := by
 have HR0 := aM hr0; have HC0 := aM hc0; clear hr0 hc0; have HB := aM (Below.refl w.heap.size w); have H : ((impl_numbersTo.f k (l0.length : Int)).bind fun t379 => ((impl_sortedBy_142.f t379 l0 a1).bind fun t382 => (some t382))) = some r := h; clear h; replace H := oB H; obtain ⟨t379, A30, H⟩ := H; replace H : ((impl_sortedBy_142.f t379 l0 a1).bind fun t382 => (some t382)) = some r := H; have A3 := aM A30; clear A30; replace H := oB H; obtain ⟨t382, A40, H⟩ := H; replace H : (some t382) = some r := H; have A4 := aM A40; clear A40; obtain rfl := Option.some.inj H; go_enter Try.func104, Try.ntmps104; (go_wp2_with (first | ((with_reducible refine gate_dst (N := 2) rfl ?_); refine bE 2 #[.slice A0 l0.length c0] 37 ?_; intro gb377 hg w5 hbox hb; have n0_ := aM (below_step bB hb); have n1_ := aM (hbox); have n2_ := aM ((by rw [hg]; exact (below_size bB) : w.heap.size ≤ gb377)); have n3_ := aM ((by rw [hg]; exact (below_size bB) : w.heap.size ≤ gb377)); clear HB; have HB := n0_; have BK377 := n1_; have GW377 := n2_; have GE377 := n3_; clear n0_ n1_ n2_ n3_; clear hb hbox hg) | ((with_reducible refine gate_dst (N := 3) rfl ?_); refine bE 3 #[.int .i64 a1] 3 ?_; intro gb378 hg w6 hbox hb; have n0_ := aM (blk_below (g := gb377) (o := .cells #[.slice A0 l0.length c0] 37 (0, 0)) kB hb); have n1_ := aM (below_step bS hb); have n2_ := aM (hbox); have n3_ := aM ((by rw [hg]; exact (below_size bS) : w.heap.size ≤ gb378)); have n4_ := aM ((by rw [hg]; exact (below_size bS) : w.heap.size ≤ gb378)); have n5_ := aM ((by rw [hg]; exact Nat.ne_of_lt (blk_lt (g := gb377) (o := .cells #[.slice A0 l0.length c0] 37 (0, 0)) kB) : gb377 ≠ gb378)); have n6_ := aM ((by rw [hg]; exact Nat.ne_of_gt (blk_lt (g := gb377) (o := .cells #[.slice A0 l0.length c0] 37 (0, 0)) kB) : gb378 ≠ gb377)); clear BK377; clear HB; have BK377 := n0_; have HB := n1_; have BK378 := n2_; have GW378 := n3_; have GE378 := n4_; have NB377_378 := n5_; have NB378_377 := n6_; clear n0_ n1_ n2_ n3_ n4_ n5_ n6_; clear hb hbox hg; have hnb7 := NB377_378.out; have hnc7 := NB378_377.out; have hcz8_0 := (blk_cell BK377.out 0).trans (show _ = some ((.slice A0 l0.length c0) : Value) from rfl); have hfz8_0 := blk_frozen BK377.out 0) | ((with_reducible refine gate_callee (f := 141) rfl ?_); refine goesL_ (some 7) rfl rfl Try.func141 (by kernel_rfl) rfl #[.int .i64 (l0.length : Int)] rfl aE ?_; (with_reducible refine (impl_numbersTo.calls k (l0.length : Int) t379 _ A3.out).mono ?_); rintro e w9 ⟨v380, rfl, ho0, hb⟩; refine ⟨_, rfl, ?_⟩; have n0_ := aM (Kd.R_lower (Kd.R_newB ho0 (g := gb378) (o := .cells #[.int .i64 a1] 3 (0, 0)) kB) (below_size bS)); have n1_ := aM (blk_below (g := gb377) (o := .cells #[.slice A0 l0.length c0] 37 (0, 0)) kB hb); have n2_ := aM (blk_below (g := gb378) (o := .cells #[.int .i64 a1] 3 (0, 0)) kB hb); have n3_ := aM (below_step bS hb); clear BK377; clear BK378; clear HB; have HO381 := n0_; have BK377 := n1_; have BK378 := n2_; have HB := n3_; clear n0_ n1_ n2_ n3_; (try clear hb); (try clear hk); (try clear ho0); obtain ⟨Ao10, co10, eo10⟩ := Kd.R_slice HO381.out; subst eo10) | ((with_reducible refine gate_callee (f := 113) rfl ?_); refine goesL_ (some 9) rfl rfl Try.func113 (by kernel_rfl) rfl #[.slice Ao10 t379.length co10, .func (.func 142) #[] #[.pointer (some ⟨gb377, 0, none⟩), .pointer (some ⟨gb378, 0, none⟩)]] rfl aE ?_; (with_reducible refine (impl_sortedBy_142.calls _ _ t379 A0 c0 l0 a1 t382 _ ?side1 ?side2 ?side3 ?side4 ?side5 ?side6 A4.out).mono ?_); (case side1 => exact cK ((Kd.R_reads' HO381.out).2.2)); (case side2 => exact (Kd.R_reads' HO381.out).2.1); (case side3 => exact cK ((Kd.C_below HR0.out HB.out))); (case side4 => exact HC0.out); (case side5 => exact kB); (case side6 => exact kB); rintro e w11 ⟨v383, rfl, ho0, hb⟩; refine ⟨_, rfl, ?_⟩; have n0_ := aM (Kd.R_elder' (by (with_reducible repeat (first | apply Kd.R_alloc | apply Kd.R_drewN | apply Kd.R_drew)); exact HO381.out) (Kd.R_base ho0) hb); have n1_ := aM (Kd.R_lower (Kd.R_newB (Kd.R_new' ho0 (Kd.R_lt (by (with_reducible repeat (first | apply Kd.R_alloc | apply Kd.R_drewN | apply Kd.R_drew)); exact HO381.out))) (g := gb378) (o := .cells #[.int .i64 a1] 3 (0, 0)) kB) (below_size bS)); have n2_ := aM (blk_below (g := gb377) (o := .cells #[.slice A0 l0.length c0] 37 (0, 0)) kB hb); have n3_ := aM (blk_below (g := gb378) (o := .cells #[.int .i64 a1] 3 (0, 0)) kB hb); have n4_ := aM (below_step bS hb); clear HO381; clear BK377; clear BK378; clear HB; have HO381 := n0_; have HO384 := n1_; have BK377 := n2_; have BK378 := n3_; have HB := n4_; clear n0_ n1_ n2_ n3_ n4_; (try clear hb); (try clear hk); (try clear ho0)))); go_ret; (exact ⟨_, by first | rfl | (simp [errW_none, errW_some] <;> rfl) | (simp [*, errW_none, errW_some] <;> rfl), by (with_reducible repeat (first | apply Kd.R_alloc | apply Kd.R_drewN | apply Kd.R_drew)); exact Kd.R_mono HO384.out (fun _ hk => trivial), bS⟩)

/-! ### impl_TotalEnd: function 55 -/
def impl_TotalEnd.l0 : Nat → List (S79) → Int → List (S91) → Int → Int → Option (Int × Bool)
 | 0, _, _, _, _, _ => none
 | k + 1, x0, x6, x17, x18, x19 => if x19 < x18 then (if 0 ≤ x19 then (if x19 < (x17.length : Int) then (if 0 ≤ ((rd_T91 x17 x19).f0) then (if ((rd_T91 x17 x19).f0) < (x0.length : Int) then (impl_TotalEnd.l0 k x0 (wrap64 (x6 + (wrap64 (((rd_T91 x17 x19).f2) + ((rd_T79 x0 ((rd_T91 x17 x19).f0)).f0))))) x17 x18 (wrap64 (x19 + 1))) else (none)) else (none)) else (none)) else (none)) else (some (x6, true))
def impl_TotalEnd.f (k : Nat) (l0 : List (S79)) (a1 : Int) : Option (Int × Bool) := (impl_isParallel.f k l0 a1 ([] : List (S71))).bind fun t385 => (if t385 = true then ((impl_ruledOrder.f k l0 2).bind fun t386 => ((impl_listPlan.f k l0 a1 ([] : List (S71)) t386).bind fun t389 => (impl_TotalEnd.l0 k l0 0 t389 (t389.length : Int) 0))) else (some (0, false)))
theorem impl_TotalEnd.mono_l : ∀ k, (∀ y0 y1 y2 y3 y4, LeO (impl_TotalEnd.l0 k y0 y1 y2 y3 y4) (impl_TotalEnd.l0 (k + 1) y0 y1 y2 y3 y4))
 | 0 => fun _ _ _ _ _ r h => by simp [impl_TotalEnd.l0] at h
 | k + 1 => by
  have ih0 := impl_TotalEnd.mono_l k
  ·intro y0 y1 y2 y3 y4
   unfold impl_TotalEnd.l0
   repeat' first
   | (with_reducible exact ih0 _ _ _ _ _)
   | (with_reducible exact impl_isParallel.mono _ _ _ _)
   | (with_reducible exact impl_listPlan.mono _ _ _ _ _)
   | (with_reducible exact impl_ruledOrder.mono _ _ _)
   | (with_reducible exact LeO.refl _)
   | (with_reducible exact LeO.none _)
   | (with_reducible refine LeO.ite ?_ ?_)
   | (with_reducible refine LeO.bind ?_ (fun _ => ?_))
   | exact ih0 _ _ _ _ _
   | exact impl_isParallel.mono _ _ _ _
   | exact impl_listPlan.mono _ _ _ _ _
   | exact impl_ruledOrder.mono _ _ _
   | exact LeO.none _
   | refine LeO.ite ?_ ?_
   | refine LeO.bind ?_ (fun _ => ?_)
theorem impl_TotalEnd.mono : ∀ a0 a1 k, LeO (impl_TotalEnd.f k a0 a1) (impl_TotalEnd.f (k + 1) a0 a1) := by
 intro a0 a1 k; have ih0 := impl_TotalEnd.mono_l k; unfold impl_TotalEnd.f
 repeat' first
   | (with_reducible exact ih0 _ _ _ _ _)
   | (with_reducible exact impl_isParallel.mono _ _ _ _)
   | (with_reducible exact impl_listPlan.mono _ _ _ _ _)
   | (with_reducible exact impl_ruledOrder.mono _ _ _)
   | (with_reducible exact LeO.refl _)
   | (with_reducible exact LeO.none _)
   | (with_reducible refine LeO.ite ?_ ?_)
   | (with_reducible refine LeO.bind ?_ (fun _ => ?_))
   | exact ih0 _ _ _ _ _
   | exact impl_isParallel.mono _ _ _ _
   | exact impl_listPlan.mono _ _ _ _ _
   | exact impl_ruledOrder.mono _ _ _
   | exact LeO.none _
   | refine LeO.ite ?_ ?_
   | refine LeO.bind ?_ (fun _ => ?_)
set_option maxHeartbeats 8000000 in
set_option maxRecDepth 100000 in
theorem impl_TotalEnd.calls (k : Nat) (A0 : Option Addr) (c0 : Nat) (l0 : List (S79)) (a1 : Int) (r1 : Int) (r2 : Bool) (w : World) (hr0 : Kd.C k79 w A0 l0.length l0) (hc0 : l0.length ≤ c0) (h : impl_TotalEnd.f k l0 a1 = some (r1, r2)) :
  Calls Try.prog 55 #[.slice A0 l0.length c0, .int .i64 a1] w fun e w' => e = .returned (.tuple #[.int .i64 r1, .bool r2]) ∧ Below w.heap.size w w' := by
 have hu91 := Try.underlying91; have HR0 := aM hr0; have HC0 := aM hc0; clear hr0 hc0; have HB := aM (Below.refl w.heap.size w); have H : ((impl_isParallel.f k l0 a1 ([] : List (S71))).bind fun t385 => (if t385 = true then ((impl_ruledOrder.f k l0 2).bind fun t386 => ((impl_listPlan.f k l0 a1 ([] : List (S71)) t386).bind fun t389 => (impl_TotalEnd.l0 k l0 0 t389 (t389.length : Int) 0))) else (some (0, false)))) = some (r1, r2) := h; clear h; replace H := oB H; obtain ⟨t385, A30, H⟩ := H; replace H : (if t385 = true then ((impl_ruledOrder.f k l0 2).bind fun t386 => ((impl_listPlan.f k l0 a1 ([] : List (S71)) t386).bind fun t389 => (impl_TotalEnd.l0 k l0 0 t389 (t389.length : Int) 0))) else (some (0, false))) = some (r1, r2) := H; have A3 := aM A30; clear A30; by_cases c4 : t385 = true
 ·subst c4
  (have H1 : ((impl_ruledOrder.f k l0 2).bind fun t386 => ((impl_listPlan.f k l0 a1 ([] : List (S71)) t386).bind fun t389 => (impl_TotalEnd.l0 k l0 0 t389 (t389.length : Int) 0))) = some (r1, r2) := by rw [if_pos rfl] at H; exact H); replace H := H1; clear H1; replace H := oB H; obtain ⟨t386, A50, H⟩ := H; replace H : ((impl_listPlan.f k l0 a1 ([] : List (S71)) t386).bind fun t389 => (impl_TotalEnd.l0 k l0 0 t389 (t389.length : Int) 0)) = some (r1, r2) := H; have A5 := aM A50; clear A50; replace H := oB H; obtain ⟨t389, A60, H⟩ := H; replace H : (impl_TotalEnd.l0 k l0 0 t389 (t389.length : Int) 0) = some (r1, r2) := H; have A6 := aM A60; clear A60; have H' := aM H; clear H; go_enter Try.func55, Try.ntmps55; (go_wp2_with (first | (go_at_call 77; (refine (impl_isParallel.calls k _ _ l0 a1 _ _ ([] : List (S71)) true _ ?side1 ?side2 ?side3 ?side4 A3.out).mono ?_); (case side1 => exact cK HR0.out); (case side2 => exact HC0.out); (case side3 => exact Kd.C_nil _ _); (case side4 => exact Nat.le_refl _); rintro e w7 ⟨rfl, hb⟩; have n0_ := aM (below_step bB hb); clear HB; have HB := n0_; clear n0_; (try clear hb); (try clear hk)) | (go_at_call 104; (with_reducible refine (impl_ruledOrder.calls k _ _ l0 2 t386 _ ?side1 ?side2 A5.out).mono ?_); (case side1 => exact cK ((Kd.C_below HR0.out HB.out))); (case side2 => exact HC0.out); rintro e w8 ⟨v387, rfl, ho0, hb⟩; have n0_ := aM (Kd.R_lower ho0 (below_size bB)); have n1_ := aM (below_step bB hb); clear HB; have HO388 := n0_; have HB := n1_; clear n0_ n1_; (try clear hb); (try clear hk); (try clear ho0); obtain ⟨Ao9, co9, eo9⟩ := Kd.R_slice HO388.out; subst eo9) | (go_at_call 103; (refine (impl_listPlan.calls k _ _ l0 a1 _ _ ([] : List (S71)) _ _ t386 t389 _ ?side1 ?side2 ?side3 ?side4 ?side5 ?side6 A6.out).mono ?_); (case side1 => exact cK ((Kd.C_below HR0.out HB.out))); (case side2 => exact HC0.out); (case side3 => exact Kd.C_nil _ _); (case side4 => exact Nat.le_refl _); (case side5 => exact cK ((Kd.R_reads' HO388.out).2.2)); (case side6 => exact (Kd.R_reads' HO388.out).2.1); rintro e w10 ⟨v390, rfl, ho0, hb⟩; have n0_ := aM (rB HO388 hb); have n1_ := aM (Kd.R_lower ho0 (below_size bB)); have n2_ := aM (below_step bB hb); clear HO388; clear HB; have HO388 := n0_; have HO391 := n1_; have HB := n2_; clear n0_ n1_ n2_; (try clear hb); (try clear hk); (try clear ho0); obtain ⟨Ao11, co11, eo11⟩ := Kd.R_slice HO391.out; subst eo11))); (repeat (go_quiet (first | (go_at_call 77; (refine (impl_isParallel.calls k _ _ l0 a1 _ _ ([] : List (S71)) true _ ?side1 ?side2 ?side3 ?side4 A3.out).mono ?_); (case side1 => exact cK HR0.out); (case side2 => exact HC0.out); (case side3 => exact Kd.C_nil _ _); (case side4 => exact Nat.le_refl _); rintro e w7 ⟨rfl, hb⟩; have n0_ := aM (below_step bB hb); clear HB; have HB := n0_; clear n0_; (try clear hb); (try clear hk)) | (go_at_call 104; (with_reducible refine (impl_ruledOrder.calls k _ _ l0 2 t386 _ ?side1 ?side2 A5.out).mono ?_); (case side1 => exact cK ((Kd.C_below HR0.out HB.out))); (case side2 => exact HC0.out); rintro e w8 ⟨v387, rfl, ho0, hb⟩; have n0_ := aM (Kd.R_lower ho0 (below_size bB)); have n1_ := aM (below_step bB hb); clear HB; have HO388 := n0_; have HB := n1_; clear n0_ n1_; (try clear hb); (try clear hk); (try clear ho0); obtain ⟨Ao9, co9, eo9⟩ := Kd.R_slice HO388.out; subst eo9) | (go_at_call 103; (refine (impl_listPlan.calls k _ _ l0 a1 _ _ ([] : List (S71)) _ _ t386 t389 _ ?side1 ?side2 ?side3 ?side4 ?side5 ?side6 A6.out).mono ?_); (case side1 => exact cK ((Kd.C_below HR0.out HB.out))); (case side2 => exact HC0.out); (case side3 => exact Kd.C_nil _ _); (case side4 => exact Nat.le_refl _); (case side5 => exact cK ((Kd.R_reads' HO388.out).2.2)); (case side6 => exact (Kd.R_reads' HO388.out).2.1); rintro e w10 ⟨v390, rfl, ho0, hb⟩; have n0_ := aM (rB HO388 hb); have n1_ := aM (Kd.R_lower ho0 (below_size bB)); have n2_ := aM (below_step bB hb); clear HO388; clear HB; have HO388 := n0_; have HO391 := n1_; have HB := n2_; clear n0_ n1_ n2_; (try clear hb); (try clear hk); (try clear ho0); obtain ⟨Ao11, co11, eo11⟩ := Kd.R_slice HO391.out; subst eo11)); try go_wp2_with (first | (go_at_call 77; (refine (impl_isParallel.calls k _ _ l0 a1 _ _ ([] : List (S71)) true _ ?side1 ?side2 ?side3 ?side4 A3.out).mono ?_); (case side1 => exact cK HR0.out); (case side2 => exact HC0.out); (case side3 => exact Kd.C_nil _ _); (case side4 => exact Nat.le_refl _); rintro e w7 ⟨rfl, hb⟩; have n0_ := aM (below_step bB hb); clear HB; have HB := n0_; clear n0_; (try clear hb); (try clear hk)) | (go_at_call 104; (with_reducible refine (impl_ruledOrder.calls k _ _ l0 2 t386 _ ?side1 ?side2 A5.out).mono ?_); (case side1 => exact cK ((Kd.C_below HR0.out HB.out))); (case side2 => exact HC0.out); rintro e w8 ⟨v387, rfl, ho0, hb⟩; have n0_ := aM (Kd.R_lower ho0 (below_size bB)); have n1_ := aM (below_step bB hb); clear HB; have HO388 := n0_; have HB := n1_; clear n0_ n1_; (try clear hb); (try clear hk); (try clear ho0); obtain ⟨Ao9, co9, eo9⟩ := Kd.R_slice HO388.out; subst eo9) | (go_at_call 103; (refine (impl_listPlan.calls k _ _ l0 a1 _ _ ([] : List (S71)) _ _ t386 t389 _ ?side1 ?side2 ?side3 ?side4 ?side5 ?side6 A6.out).mono ?_); (case side1 => exact cK ((Kd.C_below HR0.out HB.out))); (case side2 => exact HC0.out); (case side3 => exact Kd.C_nil _ _); (case side4 => exact Nat.le_refl _); (case side5 => exact cK ((Kd.R_reads' HO388.out).2.2)); (case side6 => exact (Kd.R_reads' HO388.out).2.1); rintro e w10 ⟨v390, rfl, ho0, hb⟩; have n0_ := aM (rB HO388 hb); have n1_ := aM (Kd.R_lower ho0 (below_size bB)); have n2_ := aM (below_step bB hb); clear HO388; clear HB; have HO388 := n0_; have HO391 := n1_; have HB := n2_; clear n0_ n1_ n2_; (try clear hb); (try clear hk); (try clear ho0); obtain ⟨Ao11, co11, eo11⟩ := Kd.R_slice HO391.out; subst eo11)))); go_loopg [6, 19] k (fun kq v6 v19 w' => ∃ (x6_1 : Int) (x19_1 : Int), v6 = .int .i64 x6_1 ∧ v19 = .int .i64 x19_1 ∧ Aside0 (impl_TotalEnd.l0 kq l0 x6_1 t389 (t389.length : Int) x19_1 = some (r1, r2)) ∧ Aside0 (kq ≤ k) ∧ Aside0 (Kd.R k91 91 w' w.heap.size (fun _ => True) (.slice Ao11 t389.length co11) t389) ∧ Aside0 (Below w.heap.size w w'))
  case atStart => exact ⟨(0), (0), sD, sD, H', ⟨Nat.le_refl _⟩, ⟨kR⟩, ⟨by repeat (first | (with_reducible first | exact HB.out | apply below_alloc | apply pw_below_drewN | apply below_drew1) | exact HB.out)⟩⟩
  case round =>
   clear H'; (try clear c4); obtain ⟨x6_1, x19_1, rfl, rfl, HA, HK1, HO_17, HB⟩ := hrel
   cases gk with
   | zero => exact absurd HA.out (by simp [impl_TotalEnd.l0])
   | succ k1 =>
    have H := HA.out; clear HA; simp only [impl_TotalEnd.l0] at H; by_cases c12 : x19_1 < (t389.length : Int)
    ·rw [if_pos c12] at H
     have c12b0 : decide (x19_1 < (t389.length : Int)) = true := decide_eq_true c12; clear c12; by_cases c13 : 0 ≤ x19_1; rotate_left
     ·rw [if_neg c13] at H; exact absurd H (by simp)
     rw [if_pos c13] at H; have c13b0 : decide (0 ≤ x19_1) = true := decide_eq_true c13; clear c13; by_cases c14 : x19_1 < (t389.length : Int); rotate_left
     ·rw [if_neg c14] at H; exact absurd H (by simp)
     rw [if_pos c14] at H; have c14b0 : decide (x19_1 < (t389.length : Int)) = true := decide_eq_true c14; clear c14; by_cases c15 : 0 ≤ ((rd_T91 t389 x19_1).f0); rotate_left
     ·rw [if_neg c15] at H; exact absurd H (by simp)
     rw [if_pos c15] at H; have c15b0 : decide (0 ≤ ((rd_T91 t389 x19_1).f0)) = true := decide_eq_true c15; clear c15; by_cases c16 : ((rd_T91 t389 x19_1).f0) < (l0.length : Int); rotate_left
     ·rw [if_neg c16] at H; exact absurd H (by simp)
     rw [if_pos c16] at H; have c16b0 : decide (((rd_T91 t389 x19_1).f0) < (l0.length : Int)) = true := decide_eq_true c16; clear c16; have H' := aM H; clear H; have p392 : 0 ≤ (x19_1 : Int) := oD; have q392 : x19_1 < (t389.length : Int) := oD; obtain ⟨ad392, e392, hx392_0, hx392_1, hx392_2⟩ := at_T91 (Kd.R_reads' HO_17.out).2.2 x19_1 p392 q392; cases e392; replace p392 := eq_true p392; replace q392 := eq_true q392; (go_wp2_with (first | ((with_reducible refine gate_dst (N := 8) rfl ?_); refine bE 8 #[.int .i64 0, .int .i64 0, .int .i64 0] 91 ?_; intro gb393 hg w17 hbox hb; have n0_ := aM (Kd.R_below (Kd.R_elderB (by (with_reducible repeat (first | apply Kd.R_alloc | apply Kd.R_drewN | apply Kd.R_drew)); exact HO_17.out) gb393 (Nat.le_of_eq hg.symm)) hb); have n1_ := aM (below_step bB hb); have n2_ := aM (hbox); have n3_ := aM ((by rw [hg]; exact (below_size bB) : w.heap.size ≤ gb393)); have n4_ := aM ((by rw [hg]; exact (below_size bB) : w.heap.size ≤ gb393)); clear HO_17; clear HB; have HO_17 := n0_; have HB := n1_; have BK393 := n2_; have GW393 := n3_; have GE393 := n4_; clear n0_ n1_ n2_ n3_ n4_; clear hb hbox hg; have hcz18_0 := (blk_cell BK393.out 0).trans (show _ = some ((.int .i64 0) : Value) from rfl); have hcz18_1 := (blk_cell BK393.out 1).trans (show _ = some ((.int .i64 0) : Value) from rfl); have hcz18_2 := (blk_cell BK393.out 2).trans (show _ = some ((.int .i64 0) : Value) from rfl); have hfz18_0 := blk_frozen BK393.out 0; have hfz18_1 := blk_frozen BK393.out 1; have hfz18_2 := blk_frozen BK393.out 2; have p394 : 0 ≤ (((rd_T91 t389 x19_1).f0) : Int) := oD; have q394 : ((rd_T91 t389 x19_1).f0) < (l0.length : Int) := oD; obtain ⟨ad394, e394, hx394_0, hx394_1, hx394_2, hx394_3⟩ := at_T79 HR0.out ((rd_T91 t389 x19_1).f0) p394 q394; cases e394; have hn394_0 : ad394.block ≠ gb393 := Nat.ne_of_lt (Nat.lt_of_lt_of_le (by have := World.block_lt_of_cell? _ _ hx394_0; first | rwa [add_block] at this | exact this) GW393.out); have hn394_1 : ad394.block ≠ gb393 := Nat.ne_of_lt (Nat.lt_of_lt_of_le (by have := World.block_lt_of_cell? _ _ hx394_0; first | rwa [add_block] at this | exact this) GW393.out); have hn394_2 : ad394.block ≠ gb393 := Nat.ne_of_lt (Nat.lt_of_lt_of_le (by have := World.block_lt_of_cell? _ _ hx394_0; first | rwa [add_block] at this | exact this) GW393.out); replace hx394_0 := (cB HB.out hx394_0 :); replace hx394_1 := (cB HB.out hx394_1 :); replace hx394_2 := (cB HB.out hx394_2 :); replace hx394_3 := (cB HB.out hx394_3 :); replace hx394_0 := (cell_far (p := ⟨gb393, 0, none⟩) (nC hn394_0) (.int .i64 ((rd_T91 t389 x19_1).f0))).trans hx394_0; replace hx394_1 := (cell_far (p := ⟨gb393, 0, none⟩) (nC hn394_0) (.int .i64 ((rd_T91 t389 x19_1).f0))).trans hx394_1; replace hx394_2 := (cell_far (p := ⟨gb393, 0, none⟩) (nC hn394_0) (.int .i64 ((rd_T91 t389 x19_1).f0))).trans hx394_2; replace hx394_3 := (cell_far (p := ⟨gb393, 0, none⟩) (nC hn394_0) (.int .i64 ((rd_T91 t389 x19_1).f0))).trans hx394_3; replace hx394_0 := (cell_far (p := ⟨gb393, 1, none⟩) (nC hn394_1) (.int .i64 ((rd_T91 t389 x19_1).f1))).trans hx394_0; replace hx394_1 := (cell_far (p := ⟨gb393, 1, none⟩) (nC hn394_1) (.int .i64 ((rd_T91 t389 x19_1).f1))).trans hx394_1; replace hx394_2 := (cell_far (p := ⟨gb393, 1, none⟩) (nC hn394_1) (.int .i64 ((rd_T91 t389 x19_1).f1))).trans hx394_2; replace hx394_3 := (cell_far (p := ⟨gb393, 1, none⟩) (nC hn394_1) (.int .i64 ((rd_T91 t389 x19_1).f1))).trans hx394_3; replace hx394_0 := (cell_far (p := ⟨gb393, 2, none⟩) (nC hn394_2) (.int .i64 ((rd_T91 t389 x19_1).f2))).trans hx394_0; replace hx394_1 := (cell_far (p := ⟨gb393, 2, none⟩) (nC hn394_2) (.int .i64 ((rd_T91 t389 x19_1).f2))).trans hx394_1; replace hx394_2 := (cell_far (p := ⟨gb393, 2, none⟩) (nC hn394_2) (.int .i64 ((rd_T91 t389 x19_1).f2))).trans hx394_2; replace hx394_3 := (cell_far (p := ⟨gb393, 2, none⟩) (nC hn394_2) (.int .i64 ((rd_T91 t389 x19_1).f2))).trans hx394_3; (try have hy394_0 := fun (n_ : Nat) => (show (((((w17.drewN n_).setCell ⟨gb393, 0, none⟩ (.int .i64 ((rd_T91 t389 x19_1).f0))).setCell ⟨gb393, 1, none⟩ (.int .i64 ((rd_T91 t389 x19_1).f1))).setCell ⟨gb393, 2, none⟩ (.int .i64 ((rd_T91 t389 x19_1).f2)))).cell? _ = some _ from hx394_0)); (try have hy394_1 := fun (n_ : Nat) => (show (((((w17.drewN n_).setCell ⟨gb393, 0, none⟩ (.int .i64 ((rd_T91 t389 x19_1).f0))).setCell ⟨gb393, 1, none⟩ (.int .i64 ((rd_T91 t389 x19_1).f1))).setCell ⟨gb393, 2, none⟩ (.int .i64 ((rd_T91 t389 x19_1).f2)))).cell? _ = some _ from hx394_1)); (try have hy394_2 := fun (n_ : Nat) => (show (((((w17.drewN n_).setCell ⟨gb393, 0, none⟩ (.int .i64 ((rd_T91 t389 x19_1).f0))).setCell ⟨gb393, 1, none⟩ (.int .i64 ((rd_T91 t389 x19_1).f1))).setCell ⟨gb393, 2, none⟩ (.int .i64 ((rd_T91 t389 x19_1).f2)))).cell? _ = some _ from hx394_2)); (try have hy394_3 := fun (n_ : Nat) => (show (((((w17.drewN n_).setCell ⟨gb393, 0, none⟩ (.int .i64 ((rd_T91 t389 x19_1).f0))).setCell ⟨gb393, 1, none⟩ (.int .i64 ((rd_T91 t389 x19_1).f1))).setCell ⟨gb393, 2, none⟩ (.int .i64 ((rd_T91 t389 x19_1).f2)))).cell? _ = some _ from hx394_3)); clear hn394_0; clear hn394_1; clear hn394_2; replace p394 := eq_true p394; replace q394 := eq_true q394))); (repeat (go_quiet (first | ((with_reducible refine gate_dst (N := 8) rfl ?_); refine bE 8 #[.int .i64 0, .int .i64 0, .int .i64 0] 91 ?_; intro gb393 hg w17 hbox hb; have n0_ := aM (Kd.R_below (Kd.R_elderB (by (with_reducible repeat (first | apply Kd.R_alloc | apply Kd.R_drewN | apply Kd.R_drew)); exact HO_17.out) gb393 (Nat.le_of_eq hg.symm)) hb); have n1_ := aM (below_step bB hb); have n2_ := aM (hbox); have n3_ := aM ((by rw [hg]; exact (below_size bB) : w.heap.size ≤ gb393)); have n4_ := aM ((by rw [hg]; exact (below_size bB) : w.heap.size ≤ gb393)); clear HO_17; clear HB; have HO_17 := n0_; have HB := n1_; have BK393 := n2_; have GW393 := n3_; have GE393 := n4_; clear n0_ n1_ n2_ n3_ n4_; clear hb hbox hg; have hcz18_0 := (blk_cell BK393.out 0).trans (show _ = some ((.int .i64 0) : Value) from rfl); have hcz18_1 := (blk_cell BK393.out 1).trans (show _ = some ((.int .i64 0) : Value) from rfl); have hcz18_2 := (blk_cell BK393.out 2).trans (show _ = some ((.int .i64 0) : Value) from rfl); have hfz18_0 := blk_frozen BK393.out 0; have hfz18_1 := blk_frozen BK393.out 1; have hfz18_2 := blk_frozen BK393.out 2; have p394 : 0 ≤ (((rd_T91 t389 x19_1).f0) : Int) := oD; have q394 : ((rd_T91 t389 x19_1).f0) < (l0.length : Int) := oD; obtain ⟨ad394, e394, hx394_0, hx394_1, hx394_2, hx394_3⟩ := at_T79 HR0.out ((rd_T91 t389 x19_1).f0) p394 q394; cases e394; have hn394_0 : ad394.block ≠ gb393 := Nat.ne_of_lt (Nat.lt_of_lt_of_le (by have := World.block_lt_of_cell? _ _ hx394_0; first | rwa [add_block] at this | exact this) GW393.out); have hn394_1 : ad394.block ≠ gb393 := Nat.ne_of_lt (Nat.lt_of_lt_of_le (by have := World.block_lt_of_cell? _ _ hx394_0; first | rwa [add_block] at this | exact this) GW393.out); have hn394_2 : ad394.block ≠ gb393 := Nat.ne_of_lt (Nat.lt_of_lt_of_le (by have := World.block_lt_of_cell? _ _ hx394_0; first | rwa [add_block] at this | exact this) GW393.out); replace hx394_0 := (cB HB.out hx394_0 :); replace hx394_1 := (cB HB.out hx394_1 :); replace hx394_2 := (cB HB.out hx394_2 :); replace hx394_3 := (cB HB.out hx394_3 :); replace hx394_0 := (cell_far (p := ⟨gb393, 0, none⟩) (nC hn394_0) (.int .i64 ((rd_T91 t389 x19_1).f0))).trans hx394_0; replace hx394_1 := (cell_far (p := ⟨gb393, 0, none⟩) (nC hn394_0) (.int .i64 ((rd_T91 t389 x19_1).f0))).trans hx394_1; replace hx394_2 := (cell_far (p := ⟨gb393, 0, none⟩) (nC hn394_0) (.int .i64 ((rd_T91 t389 x19_1).f0))).trans hx394_2; replace hx394_3 := (cell_far (p := ⟨gb393, 0, none⟩) (nC hn394_0) (.int .i64 ((rd_T91 t389 x19_1).f0))).trans hx394_3; replace hx394_0 := (cell_far (p := ⟨gb393, 1, none⟩) (nC hn394_1) (.int .i64 ((rd_T91 t389 x19_1).f1))).trans hx394_0; replace hx394_1 := (cell_far (p := ⟨gb393, 1, none⟩) (nC hn394_1) (.int .i64 ((rd_T91 t389 x19_1).f1))).trans hx394_1; replace hx394_2 := (cell_far (p := ⟨gb393, 1, none⟩) (nC hn394_1) (.int .i64 ((rd_T91 t389 x19_1).f1))).trans hx394_2; replace hx394_3 := (cell_far (p := ⟨gb393, 1, none⟩) (nC hn394_1) (.int .i64 ((rd_T91 t389 x19_1).f1))).trans hx394_3; replace hx394_0 := (cell_far (p := ⟨gb393, 2, none⟩) (nC hn394_2) (.int .i64 ((rd_T91 t389 x19_1).f2))).trans hx394_0; replace hx394_1 := (cell_far (p := ⟨gb393, 2, none⟩) (nC hn394_2) (.int .i64 ((rd_T91 t389 x19_1).f2))).trans hx394_1; replace hx394_2 := (cell_far (p := ⟨gb393, 2, none⟩) (nC hn394_2) (.int .i64 ((rd_T91 t389 x19_1).f2))).trans hx394_2; replace hx394_3 := (cell_far (p := ⟨gb393, 2, none⟩) (nC hn394_2) (.int .i64 ((rd_T91 t389 x19_1).f2))).trans hx394_3; (try have hy394_0 := fun (n_ : Nat) => (show (((((w17.drewN n_).setCell ⟨gb393, 0, none⟩ (.int .i64 ((rd_T91 t389 x19_1).f0))).setCell ⟨gb393, 1, none⟩ (.int .i64 ((rd_T91 t389 x19_1).f1))).setCell ⟨gb393, 2, none⟩ (.int .i64 ((rd_T91 t389 x19_1).f2)))).cell? _ = some _ from hx394_0)); (try have hy394_1 := fun (n_ : Nat) => (show (((((w17.drewN n_).setCell ⟨gb393, 0, none⟩ (.int .i64 ((rd_T91 t389 x19_1).f0))).setCell ⟨gb393, 1, none⟩ (.int .i64 ((rd_T91 t389 x19_1).f1))).setCell ⟨gb393, 2, none⟩ (.int .i64 ((rd_T91 t389 x19_1).f2)))).cell? _ = some _ from hx394_1)); (try have hy394_2 := fun (n_ : Nat) => (show (((((w17.drewN n_).setCell ⟨gb393, 0, none⟩ (.int .i64 ((rd_T91 t389 x19_1).f0))).setCell ⟨gb393, 1, none⟩ (.int .i64 ((rd_T91 t389 x19_1).f1))).setCell ⟨gb393, 2, none⟩ (.int .i64 ((rd_T91 t389 x19_1).f2)))).cell? _ = some _ from hx394_2)); (try have hy394_3 := fun (n_ : Nat) => (show (((((w17.drewN n_).setCell ⟨gb393, 0, none⟩ (.int .i64 ((rd_T91 t389 x19_1).f0))).setCell ⟨gb393, 1, none⟩ (.int .i64 ((rd_T91 t389 x19_1).f1))).setCell ⟨gb393, 2, none⟩ (.int .i64 ((rd_T91 t389 x19_1).f2)))).cell? _ = some _ from hx394_3)); clear hn394_0; clear hn394_1; clear hn394_2; replace p394 := eq_true p394; replace q394 := eq_true q394)); try go_wp2_with (first | ((with_reducible refine gate_dst (N := 8) rfl ?_); refine bE 8 #[.int .i64 0, .int .i64 0, .int .i64 0] 91 ?_; intro gb393 hg w17 hbox hb; have n0_ := aM (Kd.R_below (Kd.R_elderB (by (with_reducible repeat (first | apply Kd.R_alloc | apply Kd.R_drewN | apply Kd.R_drew)); exact HO_17.out) gb393 (Nat.le_of_eq hg.symm)) hb); have n1_ := aM (below_step bB hb); have n2_ := aM (hbox); have n3_ := aM ((by rw [hg]; exact (below_size bB) : w.heap.size ≤ gb393)); have n4_ := aM ((by rw [hg]; exact (below_size bB) : w.heap.size ≤ gb393)); clear HO_17; clear HB; have HO_17 := n0_; have HB := n1_; have BK393 := n2_; have GW393 := n3_; have GE393 := n4_; clear n0_ n1_ n2_ n3_ n4_; clear hb hbox hg; have hcz18_0 := (blk_cell BK393.out 0).trans (show _ = some ((.int .i64 0) : Value) from rfl); have hcz18_1 := (blk_cell BK393.out 1).trans (show _ = some ((.int .i64 0) : Value) from rfl); have hcz18_2 := (blk_cell BK393.out 2).trans (show _ = some ((.int .i64 0) : Value) from rfl); have hfz18_0 := blk_frozen BK393.out 0; have hfz18_1 := blk_frozen BK393.out 1; have hfz18_2 := blk_frozen BK393.out 2; have p394 : 0 ≤ (((rd_T91 t389 x19_1).f0) : Int) := oD; have q394 : ((rd_T91 t389 x19_1).f0) < (l0.length : Int) := oD; obtain ⟨ad394, e394, hx394_0, hx394_1, hx394_2, hx394_3⟩ := at_T79 HR0.out ((rd_T91 t389 x19_1).f0) p394 q394; cases e394; have hn394_0 : ad394.block ≠ gb393 := Nat.ne_of_lt (Nat.lt_of_lt_of_le (by have := World.block_lt_of_cell? _ _ hx394_0; first | rwa [add_block] at this | exact this) GW393.out); have hn394_1 : ad394.block ≠ gb393 := Nat.ne_of_lt (Nat.lt_of_lt_of_le (by have := World.block_lt_of_cell? _ _ hx394_0; first | rwa [add_block] at this | exact this) GW393.out); have hn394_2 : ad394.block ≠ gb393 := Nat.ne_of_lt (Nat.lt_of_lt_of_le (by have := World.block_lt_of_cell? _ _ hx394_0; first | rwa [add_block] at this | exact this) GW393.out); replace hx394_0 := (cB HB.out hx394_0 :); replace hx394_1 := (cB HB.out hx394_1 :); replace hx394_2 := (cB HB.out hx394_2 :); replace hx394_3 := (cB HB.out hx394_3 :); replace hx394_0 := (cell_far (p := ⟨gb393, 0, none⟩) (nC hn394_0) (.int .i64 ((rd_T91 t389 x19_1).f0))).trans hx394_0; replace hx394_1 := (cell_far (p := ⟨gb393, 0, none⟩) (nC hn394_0) (.int .i64 ((rd_T91 t389 x19_1).f0))).trans hx394_1; replace hx394_2 := (cell_far (p := ⟨gb393, 0, none⟩) (nC hn394_0) (.int .i64 ((rd_T91 t389 x19_1).f0))).trans hx394_2; replace hx394_3 := (cell_far (p := ⟨gb393, 0, none⟩) (nC hn394_0) (.int .i64 ((rd_T91 t389 x19_1).f0))).trans hx394_3; replace hx394_0 := (cell_far (p := ⟨gb393, 1, none⟩) (nC hn394_1) (.int .i64 ((rd_T91 t389 x19_1).f1))).trans hx394_0; replace hx394_1 := (cell_far (p := ⟨gb393, 1, none⟩) (nC hn394_1) (.int .i64 ((rd_T91 t389 x19_1).f1))).trans hx394_1; replace hx394_2 := (cell_far (p := ⟨gb393, 1, none⟩) (nC hn394_1) (.int .i64 ((rd_T91 t389 x19_1).f1))).trans hx394_2; replace hx394_3 := (cell_far (p := ⟨gb393, 1, none⟩) (nC hn394_1) (.int .i64 ((rd_T91 t389 x19_1).f1))).trans hx394_3; replace hx394_0 := (cell_far (p := ⟨gb393, 2, none⟩) (nC hn394_2) (.int .i64 ((rd_T91 t389 x19_1).f2))).trans hx394_0; replace hx394_1 := (cell_far (p := ⟨gb393, 2, none⟩) (nC hn394_2) (.int .i64 ((rd_T91 t389 x19_1).f2))).trans hx394_1; replace hx394_2 := (cell_far (p := ⟨gb393, 2, none⟩) (nC hn394_2) (.int .i64 ((rd_T91 t389 x19_1).f2))).trans hx394_2; replace hx394_3 := (cell_far (p := ⟨gb393, 2, none⟩) (nC hn394_2) (.int .i64 ((rd_T91 t389 x19_1).f2))).trans hx394_3; (try have hy394_0 := fun (n_ : Nat) => (show (((((w17.drewN n_).setCell ⟨gb393, 0, none⟩ (.int .i64 ((rd_T91 t389 x19_1).f0))).setCell ⟨gb393, 1, none⟩ (.int .i64 ((rd_T91 t389 x19_1).f1))).setCell ⟨gb393, 2, none⟩ (.int .i64 ((rd_T91 t389 x19_1).f2)))).cell? _ = some _ from hx394_0)); (try have hy394_1 := fun (n_ : Nat) => (show (((((w17.drewN n_).setCell ⟨gb393, 0, none⟩ (.int .i64 ((rd_T91 t389 x19_1).f0))).setCell ⟨gb393, 1, none⟩ (.int .i64 ((rd_T91 t389 x19_1).f1))).setCell ⟨gb393, 2, none⟩ (.int .i64 ((rd_T91 t389 x19_1).f2)))).cell? _ = some _ from hx394_1)); (try have hy394_2 := fun (n_ : Nat) => (show (((((w17.drewN n_).setCell ⟨gb393, 0, none⟩ (.int .i64 ((rd_T91 t389 x19_1).f0))).setCell ⟨gb393, 1, none⟩ (.int .i64 ((rd_T91 t389 x19_1).f1))).setCell ⟨gb393, 2, none⟩ (.int .i64 ((rd_T91 t389 x19_1).f2)))).cell? _ = some _ from hx394_2)); (try have hy394_3 := fun (n_ : Nat) => (show (((((w17.drewN n_).setCell ⟨gb393, 0, none⟩ (.int .i64 ((rd_T91 t389 x19_1).f0))).setCell ⟨gb393, 1, none⟩ (.int .i64 ((rd_T91 t389 x19_1).f1))).setCell ⟨gb393, 2, none⟩ (.int .i64 ((rd_T91 t389 x19_1).f2)))).cell? _ = some _ from hx394_3)); clear hn394_0; clear hn394_1; clear hn394_2; replace p394 := eq_true p394; replace q394 := eq_true q394)))); go_roundg k1
     case measure => have := HK1.out; omega
     case rel => exact ⟨(wrap64 (x6_1 + (wrap64 (((rd_T91 t389 x19_1).f2) + ((rd_T79 l0 ((rd_T91 t389 x19_1).f0)).f0))))), (wrap64 (x19_1 + 1)), sD, sD, H', ⟨by have := HK1.out; omega⟩, ⟨by (with_reducible repeat (first | apply Kd.R_alloc | apply Kd.R_drewN | apply Kd.R_drew)); exact Kd.R_mono (Kd.R_far (p := ⟨gb393, 2, none⟩) (Kd.R_far (p := ⟨gb393, 1, none⟩) (Kd.R_far (p := ⟨gb393, 0, none⟩) (Kd.R_mono HO_17.out (fun k_ hk => (⟨hk, hk.2⟩ : _ ∧ k_ ≠ gb393))) (fun _ hk => hk.2) (.int .i64 ((rd_T91 t389 x19_1).f0))) (fun _ hk => hk.2) (.int .i64 ((rd_T91 t389 x19_1).f1))) (fun _ hk => hk.2) (.int .i64 ((rd_T91 t389 x19_1).f2))) (fun _ hk => trivial)⟩, ⟨by repeat (first | (with_reducible first | exact HB.out | apply below_alloc | apply pw_below_drewN | apply below_drew1 | refine below_set ?_ GE393.out) | exact HB.out)⟩⟩
    ·rw [if_neg c12] at H
     have c12b0 : decide (x19_1 < (t389.length : Int)) = false := decide_eq_false c12; clear c12; simp only [Option.some.injEq, Prod.mk.injEq] at H; obtain ⟨rfl, rfl⟩ := H; go_wp2; (repeat (go_quiet (fail); try go_wp2)); go_ret2; exact ⟨rE, bB⟩
 ·replace c4 := Bool.eq_false_iff.mpr c4
  subst c4; (have H1 : (some (0, false)) = some (r1, r2) := by rw [if_neg (show ¬ (false = true) by decide)] at H; exact H); replace H := H1; clear H1; simp only [Option.some.injEq, Prod.mk.injEq] at H; obtain ⟨rfl, rfl⟩ := H; go_enter Try.func55, Try.ntmps55; (go_wp2_with (first | (go_at_call 77; (refine (impl_isParallel.calls k _ _ l0 a1 _ _ ([] : List (S71)) false _ ?side1 ?side2 ?side3 ?side4 A3.out).mono ?_); (case side1 => exact cK HR0.out); (case side2 => exact HC0.out); (case side3 => exact Kd.C_nil _ _); (case side4 => exact Nat.le_refl _); rintro e w19 ⟨rfl, hb⟩; have n0_ := aM (below_step bB hb); clear HB; have HB := n0_; clear n0_; (try clear hb); (try clear hk)))); (repeat (go_quiet (first | (go_at_call 77; (refine (impl_isParallel.calls k _ _ l0 a1 _ _ ([] : List (S71)) false _ ?side1 ?side2 ?side3 ?side4 A3.out).mono ?_); (case side1 => exact cK HR0.out); (case side2 => exact HC0.out); (case side3 => exact Kd.C_nil _ _); (case side4 => exact Nat.le_refl _); rintro e w19 ⟨rfl, hb⟩; have n0_ := aM (below_step bB hb); clear HB; have HB := n0_; clear n0_; (try clear hb); (try clear hk))); try go_wp2_with (first | (go_at_call 77; (refine (impl_isParallel.calls k _ _ l0 a1 _ _ ([] : List (S71)) false _ ?side1 ?side2 ?side3 ?side4 A3.out).mono ?_); (case side1 => exact cK HR0.out); (case side2 => exact HC0.out); (case side3 => exact Kd.C_nil _ _); (case side4 => exact Nat.le_refl _); rintro e w19 ⟨rfl, hb⟩; have n0_ := aM (below_step bB hb); clear HB; have HB := n0_; clear n0_; (try clear hb); (try clear hk))))); go_ret2; exact ⟨rE, bB⟩

end Go.Proofs.Ytecdigebnhlfhaa.OFnExactTotalEnd
