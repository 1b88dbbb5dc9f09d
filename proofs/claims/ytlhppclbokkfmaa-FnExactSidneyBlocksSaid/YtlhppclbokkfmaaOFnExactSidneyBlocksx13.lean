/- Functions of the program as plain Lean functions, with their contracts: written by this session's program ownprint.py. Conditions: none. -/
import Derived.Test.YtlhppclbokkfmaaOFnExactSidneyBlocksx0
import Derived.Test.YtlhppclbokkfmaaOFnExactSidneyBlocksx1
import Derived.Test.YtlhppclbokkfmaaOFnExactSidneyBlocksx7
import Derived.Test.YtlhppclbokkfmaaOFnExactSidneyBlocksx11
import Derived.Test.YtlhppclbokkfmaaOFnExactSidneyBlocksx12
namespace Go.Proofs.Ytlhppclbokkfmaa.OFnExactSidneyBlocks
open Go.RowKit Go.Proofs.YtlhppclbokkfmaaW.PrintWords Go.Proofs.YtlhppclbokkfmaaW.PrintLast Go.Proofs.YtlhppclbokkfmaaW.PrintMore
attribute [local go_sem] max2_int min2_int max_two min_two max_three min_three max_four min_four   -- for this text's walks alone
set_option linter.unusedVariables false
set_option linter.unusedSimpArgs false

/-! ### laws_markIntA2S: function 16 -/
mutual
def laws_markIntA2S.l0 : Nat → List (S53) → Int → Int → Option (Int × (List (S53)))
 | 0, _, _, _ => none
 | k + 1, x0, x1, x5 => if x5 < (x0.length : Int) then (laws_markIntA2S.l1 k x0 x1 x5 0) else (some (x1, x0))
def laws_markIntA2S.l1 : Nat → List (S53) → Int → Int → Int → Option (Int × (List (S53)))
 | 0, _, _, _, _ => none
 | k + 1, x0, x1, x5, x6 => if x6 < 2 then (if 0 ≤ x5 then (if x5 < (x0.length : Int) then (if x6 = 0 then (laws_markIntA2S.l1 k (x0.set (x5 : Int).toNat (⟨x1, (rd_T53 x0 x5).f1⟩ : S53)) (wrap64 (x1 + 1)) x5 (wrap64 (x6 + 1))) else (if x6 = 1 then (laws_markIntA2S.l1 k (x0.set (x5 : Int).toNat (⟨(rd_T53 x0 x5).f0, x1⟩ : S53)) (wrap64 (x1 + 1)) x5 (wrap64 (x6 + 1))) else (none))) else (none)) else (none)) else (laws_markIntA2S.l0 k x0 x1 (wrap64 (x5 + 1)))
end
def laws_markIntA2S.f (k : Nat) (l0 : List (S53)) (a1 : Int) : Option (Int × (List (S53))) := laws_markIntA2S.l0 k l0 a1 0
theorem laws_markIntA2S.mono_l : ∀ k, (∀ y0 y1 y2, LeO (laws_markIntA2S.l0 k y0 y1 y2) (laws_markIntA2S.l0 (k + 1) y0 y1 y2)) ∧ (∀ y0 y1 y2 y3, LeO (laws_markIntA2S.l1 k y0 y1 y2 y3) (laws_markIntA2S.l1 (k + 1) y0 y1 y2 y3))
 | 0 => ⟨fun _ _ _ r h => by simp [laws_markIntA2S.l0] at h, fun _ _ _ _ r h => by simp [laws_markIntA2S.l1] at h⟩
 | k + 1 => by
  obtain ⟨ih0, ih1⟩ := laws_markIntA2S.mono_l k
  refine ⟨?_, ?_⟩
  ·intro y0 y1 y2
   unfold laws_markIntA2S.l0
   repeat' first
   | (with_reducible exact ih0 _ _ _)
   | (with_reducible exact ih1 _ _ _ _)
   | (with_reducible exact LeO.refl _)
   | (with_reducible exact LeO.none _)
   | (with_reducible refine LeO.ite ?_ ?_)
   | (with_reducible refine LeO.bind ?_ (fun _ => ?_))
   | exact ih0 _ _ _
   | exact ih1 _ _ _ _
   | exact LeO.none _
   | refine LeO.ite ?_ ?_
   | refine LeO.bind ?_ (fun _ => ?_)
  ·intro y0 y1 y2 y3
   unfold laws_markIntA2S.l1
   repeat' first
   | (with_reducible exact ih0 _ _ _)
   | (with_reducible exact ih1 _ _ _ _)
   | (with_reducible exact LeO.refl _)
   | (with_reducible exact LeO.none _)
   | (with_reducible refine LeO.ite ?_ ?_)
   | (with_reducible refine LeO.bind ?_ (fun _ => ?_))
   | exact ih0 _ _ _
   | exact ih1 _ _ _ _
   | exact LeO.none _
   | refine LeO.ite ?_ ?_
   | refine LeO.bind ?_ (fun _ => ?_)
theorem laws_markIntA2S.mono : ∀ a0 a1 k, LeO (laws_markIntA2S.f k a0 a1) (laws_markIntA2S.f (k + 1) a0 a1) := by
 intro a0 a1 k
 obtain ⟨ih0, ih1⟩ := laws_markIntA2S.mono_l k
 unfold laws_markIntA2S.f
 repeat' first
   | (with_reducible exact ih0 _ _ _)
   | (with_reducible exact ih1 _ _ _ _)
   | (with_reducible exact LeO.refl _)
   | (with_reducible exact LeO.none _)
   | (with_reducible refine LeO.ite ?_ ?_)
   | (with_reducible refine LeO.bind ?_ (fun _ => ?_))
   | exact ih0 _ _ _
   | exact ih1 _ _ _ _
   | exact LeO.none _
   | refine LeO.ite ?_ ?_
   | refine LeO.bind ?_ (fun _ => ?_)
set_option maxHeartbeats 8000000 in
set_option maxRecDepth 100000 in
theorem laws_markIntA2S.calls (k : Nat) (P0_ : Nat → Prop) (u9000_ : Value) (l0 : List (S53)) (a1 : Int) (r1 : Int) (r2 : List (S53)) (w0 w : World) (hB : Below w0.heap.size w0 w) (ho0 : Kd.R k53 53 w w0.heap.size P0_ u9000_ l0) (h : laws_markIntA2S.f k l0 a1 = some (r1, r2)) :
  Calls Try.prog 16 #[u9000_, .int .i64 a1] w fun e w' => e = .returned (.int .i64 r1) ∧ Kd.R k53 53 w' w0.heap.size (fun k_ => (P0_ k_ ∨ w.heap.size ≤ k_)) u9000_ r2 ∧ Below w0.heap.size w0 w' ∧ Kept w w' (fun k_ => P0_ k_) := by
 have hu53 := Try.underlying53
 have HO0 := Aside0.mk (show Kd.R k53 53 w w0.heap.size (fun k_ => (P0_ k_ ∨ w.heap.size ≤ k_)) u9000_ l0 from Kd.R_mono ho0 (fun k_ hk => (.inl hk)))
 have HK := Aside0.mk (Kept.refl w (fun k_ => P0_ k_))
 have HW0 := Aside0.mk hB.size
 have HB := Aside0.mk hB
 clear hB
 have H : (laws_markIntA2S.l0 k l0 a1 0) = some (r1, r2) := h
 clear h
 have H' := Aside0.mk H
 clear H
 go_enter Try.func16, Try.ntmps16
 go_wp2
 go_loopg [1, 5] k (fun kq v1 v5 w' => ∃ (x0_1 : List (S53)) (x1_1 : Int) (x5_1 : Int), v1 = .int .i64 x1_1 ∧ v5 = .int .i64 x5_1 ∧ Aside0 (laws_markIntA2S.l0 kq x0_1 x1_1 x5_1 = some (r1, r2)) ∧ Aside0 (kq ≤ k) ∧ Aside0 (Kd.R k53 53 w' w0.heap.size (fun k_ => (P0_ k_ ∨ w.heap.size ≤ k_)) u9000_ x0_1) ∧ Aside0 (Kept w w' (fun k_ => P0_ k_)) ∧ Aside0 (Below w0.heap.size w0 w'))
 case atStart => exact ⟨(l0), (a1), (0), sD, sD, H', ⟨Nat.le_refl _⟩, ⟨kR⟩, ⟨by repeat (first | (with_reducible first | exact HK.out | apply Kept.alloc | apply Kept.drewN | apply Kept.drew) | exact HK.out)⟩, ⟨by repeat (first | (with_reducible first | exact HB.out | apply below_alloc | apply pw_below_drewN | apply below_drew1) | exact HB.out)⟩⟩
 case round =>
  clear H'
  try clear c1
  try clear p2
  obtain ⟨x0_1, x1_1, x5_1, rfl, rfl, HA, HK1, HO_0, HK, HB⟩ := hrel
  cases gk with
  | zero => exact absurd HA.out (by simp [laws_markIntA2S.l0])
  | succ k1 =>
   have H := HA.out
   clear HA
   simp only [laws_markIntA2S.l0] at H
   by_cases c3 : x5_1 < (x0_1.length : Int)
   ·rw [if_pos c3] at H
    have c3b0 : decide (x5_1 < (x0_1.length : Int)) = true := decide_eq_true c3
    clear c3
    have H' := Aside0.mk H
    clear H
    obtain ⟨Ao4, co4, eo4⟩ := Kd.R_slice HO_0.out
    subst eo4
    go_wp2
    go_loopg [1, 6] k1 (fun kq v1 v6 w' => ∃ (x0_2 : List (S53)) (x1_2 : Int) (x6_2 : Int), v1 = .int .i64 x1_2 ∧ v6 = .int .i64 x6_2 ∧ Aside0 (laws_markIntA2S.l1 kq x0_2 x1_2 x5_1 x6_2 = some (r1, r2)) ∧ Aside0 (kq ≤ k1) ∧ Aside0 (Kd.R k53 53 w' w0.heap.size (fun k_ => (P0_ k_ ∨ w.heap.size ≤ k_)) (.slice Ao4 x0_1.length co4) x0_2) ∧ Aside0 (Kept w w' (fun k_ => P0_ k_)) ∧ Aside0 (Below w0.heap.size w0 w'))
    case atStart => exact ⟨(x0_1), (x1_1), (0), sD, sD, H', ⟨Nat.le_refl _⟩, ⟨kR⟩, ⟨by repeat (first | (with_reducible first | exact HK.out | apply Kept.alloc | apply Kept.drewN | apply Kept.drew) | exact HK.out)⟩, ⟨by repeat (first | (with_reducible first | exact HB.out | apply below_alloc | apply pw_below_drewN | apply below_drew1) | exact HB.out)⟩⟩
    case round =>
     clear H'
     try clear c1
     try clear p2
     try clear c3
     try clear c3b0
     try clear p2
     obtain ⟨x0_2, x1_2, x6_2, rfl, rfl, HA, HK2, HO_0, HK, HB⟩ := hrel
     have hl0_2 := (Kd.R_reads' HO_0.out).1
     rw [hl0_2] at HO_0
     (try simp only [hl0_2])
     cases gk with
     | zero => exact absurd HA.out (by simp [laws_markIntA2S.l1])
     | succ k2 =>
      have H := HA.out
      clear HA
      simp only [laws_markIntA2S.l1] at H
      by_cases c5 : x6_2 < 2
      ·rw [if_pos c5] at H
       have c5b0 : decide (x6_2 < 2) = true := decide_eq_true c5
       clear c5
       by_cases c6 : 0 ≤ x5_1; rotate_left
       ·rw [if_neg c6] at H; exact absurd H (by simp)
       rw [if_pos c6] at H
       have c6b0 : decide (0 ≤ x5_1) = true := decide_eq_true c6
       clear c6
       by_cases c7 : x5_1 < (x0_2.length : Int); rotate_left
       ·rw [if_neg c7] at H; exact absurd H (by simp)
       rw [if_pos c7] at H
       have c7b0 : decide (x5_1 < (x0_2.length : Int)) = true := decide_eq_true c7
       clear c7
       by_cases c9 : x6_2 = 0
       ·rw [if_pos c9] at H
        subst c9
        obtain ⟨y350, hy350⟩ : ∃ y_ : List (S53), y_ = (x0_2.set (x5_1 : Int).toNat (⟨x1_2, (rd_T53 x0_2 x5_1).f1⟩ : S53)) := ⟨_, rfl⟩
        replace H : (laws_markIntA2S.l1 k2 y350 (wrap64 (x1_2 + 1)) x5_1 (wrap64 (0 + 1))) = some (r1, r2) := by first | (rw [hy350]; with_reducible exact H) | (have H2_ := (Option.bind_some _ _).symm.trans H; rw [hy350]; with_reducible exact H2_) | (have H2_ := (Option.bind_some _ _).symm.trans H; with_reducible exact H2_) | with_reducible exact H | (rw [hy350]; exact H) | exact H
        have Ny350 := Aside0.mk hy350
        clear hy350
        have H' := Aside0.mk H
        clear H
        have p8 : 0 ≤ (x5_1 : Int) := oD
        have q8 : (x5_1 : Int) < ((x0_2.length : Int) : Int) := oD
        obtain ⟨go8, co8, eo8, gb8, gl8, cl8, HG8⟩ := Kd.R_form HO_0.out (by omega)
        (first | cases eo8 | (injection eo8 with ea_ en_ ec_; (first | subst ea_ | (injection ea_ with ea_; subst ea_)); subst ec_; clear en_))
        have GB8 := Aside0.mk gb8
        have GG8 := Aside0.mk HG8
        clear gb8 gl8 HG8
        have HMgo8 := Aside0.mk (show (P0_ go8 ∨ w.heap.size ≤ go8) from (HO_0.out.1 _ rfl))
        obtain ⟨ce8, hcl8, hM8, hcc8, hfr8⟩ := Kd.R_elem HO_0.out z53 (x5_1 : Int) p8 q8
        obtain rfl := k53_openM hM8
        have hx8_0 : wr.cell? ⟨go8, (x5_1 : Int).toNat * 2, none⟩ = some (.int .i64 ((rd_T53 x0_2 x5_1).f0)) := hcc8 0 _ rfl
        have hx8_1 : wr.cell? ⟨go8, (x5_1 : Int).toNat * 2 + 1, none⟩ = some (.int .i64 ((rd_T53 x0_2 x5_1).f1)) := hcc8 1 _ rfl
        have hf8_0 : wr.frozen? ⟨go8, (x5_1 : Int).toNat * 2, none⟩ = false := hfr8 0
        have hf8_1 : wr.frozen? ⟨go8, (x5_1 : Int).toNat * 2 + 1, none⟩ = false := hfr8 1
        (try clear hcl8); (try clear hcc8); (try clear hfr8); (try clear hM8)
        replace p8 := eq_true p8
        replace q8 := eq_true q8
        have HX10 := Aside0.mk (show Kd.R k53 53 wr w0.heap.size (fun k_ => (P0_ k_ ∨ w.heap.size ≤ k_)) (.slice (some ⟨go8, 0, none⟩) x0_2.length co4) x0_2 from (by (with_reducible repeat (first | apply Kd.R_alloc | apply Kd.R_drewN | apply Kd.R_drew)); exact HO_0.out))
        obtain ⟨ce10, hcl10, hM10, hcc10, hfr10⟩ := Kd.R_elem HX10.out z53 (x5_1 : Int) (oD) (by have h_ : (x5_1 : Int) < ((x0_2.length : Int) : Int) := oD; first | exact h_ | (have e_ := (Kd.R_reads' HO_0.out).1; omega) | simpa using h_)
        obtain rfl := k53_openM hM10
        have HP10 := Kd.R_seg HX10.out (x5_1 : Int) (oD) (by have h_ : (x5_1 : Int) < ((x0_2.length : Int) : Int) := oD; first | exact h_ | (have e_ := (Kd.R_reads' HO_0.out).1; omega) | simpa using h_) (seg := [.int .i64 x1_2]) (j := 0) hcl10 hcc10 (show 1 ≤ 2 from by decide) (x' := (⟨x1_2, (rd_T53 x0_2 x5_1).f1⟩ : S53)) (k53_mkM _ _ _ (⟨x1_2, (rd_T53 x0_2 x5_1).f1⟩ : S53) ) (fun _ hk => hk)
        have hx10_0 := hcc10 0 _ rfl
        (try simp only [show (k53).sz = 2 from rfl, Nat.mul_one, Nat.add_zero] at hx10_0)
        have hf10_0 := hfr10 0
        (try simp only [show (k53).sz = 2 from rfl, Nat.mul_one, Nat.add_zero] at hf10_0)
        (try clear hcl10); (try clear hcc10); (try clear hfr10); (try clear hM10)
        go_wp2_with (first | ((with_reducible refine gate_store (t := 3) (p := 22) rfl ?_); refine store_event (t := 3) (p := 22) (v := ?vo_w11) (w1 := (wr.setCell ⟨go8, (x5_1 : Int).toNat * 2, none⟩ (.int .i64 x1_2))) ?hg ?ho ?hn ?hr ?_; (case ho => rfl); (case hg => rfl); (case hn => rfl); (case hr => first | (go_simp; done) | (go_simp; rfl)); intro w11 hw; have hg : wr.grownBy w11 (some go8) := (by rw [hw]; exact HP10.2); have hp_ : Kd.R k53 53 w11 w0.heap.size (fun k_ => (P0_ k_ ∨ w.heap.size ≤ k_)) (.slice (some ⟨go8, 0, none⟩) x0_2.length co4) y350 := (by rw [hw, Ny350.out]; exact HP10.1); clear HP10; have n0_ := Aside0.mk (hp_); have n1_ := Aside0.mk ((by rw [hw]; exact below_set (HB.out) GB8.out : Below w0.heap.size w0 w11)); have n2_ := Aside0.mk (Kept.of_grown (S := (fun k_ => P0_ k_)) hg (by repeat (first | (with_reducible first | exact HK.out | apply Kept.alloc | apply Kept.drewN | apply Kept.drew) | exact HK.out)) (fun k_ e_ => (HO_0.out.1 k_ e_))); clear HO_0; clear HB; clear HK; have HO_0 := n0_; have HB := n1_; have HK := n2_; clear n0_ n1_ n2_; clear hg hw hp_))
        (try simp only [← hl0_2])
        go_roundg k2
        case measure => have := HK1.out; have := HK2.out; omega
        case rel => exact ⟨(y350), (wrap64 (x1_2 + 1)), (wrap64 (0 + 1)), (by first | rfl | (simp; done) | (simp; unfold wrap64; omega) | (simp [*]; done)), (by first | rfl | (simp; done) | (simp; unfold wrap64; omega) | (simp [*]; done)), H', ⟨by have := HK1.out; have := HK2.out; omega⟩, ⟨by (try simp only [hl0_2]); (with_reducible repeat (first | apply Kd.R_alloc | apply Kd.R_drewN | apply Kd.R_drew)); exact HO_0.out⟩, ⟨by repeat (first | (with_reducible first | exact HK.out | apply Kept.alloc | apply Kept.drewN | apply Kept.drew) | exact HK.out)⟩, ⟨by repeat (first | (with_reducible first | exact HB.out | apply below_alloc | apply pw_below_drewN | apply below_drew1) | exact HB.out)⟩⟩
       ·rw [if_neg c9] at H
        have c9b0 : (x6_2 == 0) = false := beq_eq_false_iff_ne.mpr c9
        have c9b1 : (x6_2 != 0) = true := bne_iff_ne.mpr c9
        by_cases c12 : x6_2 = 1
        ·rw [if_pos c12] at H
         subst c12
         obtain ⟨y351, hy351⟩ : ∃ y_ : List (S53), y_ = (x0_2.set (x5_1 : Int).toNat (⟨(rd_T53 x0_2 x5_1).f0, x1_2⟩ : S53)) := ⟨_, rfl⟩
         replace H : (laws_markIntA2S.l1 k2 y351 (wrap64 (x1_2 + 1)) x5_1 (wrap64 (1 + 1))) = some (r1, r2) := by first | (rw [hy351]; with_reducible exact H) | (have H2_ := (Option.bind_some _ _).symm.trans H; rw [hy351]; with_reducible exact H2_) | (have H2_ := (Option.bind_some _ _).symm.trans H; with_reducible exact H2_) | with_reducible exact H | (rw [hy351]; exact H) | exact H
         have Ny351 := Aside0.mk hy351
         clear hy351
         have H' := Aside0.mk H
         clear H
         have p8 : 0 ≤ (x5_1 : Int) := oD
         have q8 : (x5_1 : Int) < ((x0_2.length : Int) : Int) := oD
         obtain ⟨go8, co8, eo8, gb8, gl8, cl8, HG8⟩ := Kd.R_form HO_0.out (by omega)
         (first | cases eo8 | (injection eo8 with ea_ en_ ec_; (first | subst ea_ | (injection ea_ with ea_; subst ea_)); subst ec_; clear en_))
         have GB8 := Aside0.mk gb8
         have GG8 := Aside0.mk HG8
         clear gb8 gl8 HG8
         have HMgo8 := Aside0.mk (show (P0_ go8 ∨ w.heap.size ≤ go8) from (HO_0.out.1 _ rfl))
         obtain ⟨ce8, hcl8, hM8, hcc8, hfr8⟩ := Kd.R_elem HO_0.out z53 (x5_1 : Int) p8 q8
         obtain rfl := k53_openM hM8
         have hx8_0 : wr.cell? ⟨go8, (x5_1 : Int).toNat * 2, none⟩ = some (.int .i64 ((rd_T53 x0_2 x5_1).f0)) := hcc8 0 _ rfl
         have hx8_1 : wr.cell? ⟨go8, (x5_1 : Int).toNat * 2 + 1, none⟩ = some (.int .i64 ((rd_T53 x0_2 x5_1).f1)) := hcc8 1 _ rfl
         have hf8_0 : wr.frozen? ⟨go8, (x5_1 : Int).toNat * 2, none⟩ = false := hfr8 0
         have hf8_1 : wr.frozen? ⟨go8, (x5_1 : Int).toNat * 2 + 1, none⟩ = false := hfr8 1
         (try clear hcl8); (try clear hcc8); (try clear hfr8); (try clear hM8)
         replace p8 := eq_true p8
         replace q8 := eq_true q8
         have HX13 := Aside0.mk (show Kd.R k53 53 wr w0.heap.size (fun k_ => (P0_ k_ ∨ w.heap.size ≤ k_)) (.slice (some ⟨go8, 0, none⟩) x0_2.length co4) x0_2 from (by (with_reducible repeat (first | apply Kd.R_alloc | apply Kd.R_drewN | apply Kd.R_drew)); exact HO_0.out))
         obtain ⟨ce13, hcl13, hM13, hcc13, hfr13⟩ := Kd.R_elem HX13.out z53 (x5_1 : Int) (oD) (by have h_ : (x5_1 : Int) < ((x0_2.length : Int) : Int) := oD; first | exact h_ | (have e_ := (Kd.R_reads' HO_0.out).1; omega) | simpa using h_)
         obtain rfl := k53_openM hM13
         have HP13 := Kd.R_seg HX13.out (x5_1 : Int) (oD) (by have h_ : (x5_1 : Int) < ((x0_2.length : Int) : Int) := oD; first | exact h_ | (have e_ := (Kd.R_reads' HO_0.out).1; omega) | simpa using h_) (seg := [.int .i64 x1_2]) (j := 1) hcl13 hcc13 (show 2 ≤ 2 from by decide) (x' := (⟨(rd_T53 x0_2 x5_1).f0, x1_2⟩ : S53)) (k53_mkM _ _ _ (⟨(rd_T53 x0_2 x5_1).f0, x1_2⟩ : S53) ) (fun _ hk => hk)
         have hx13_1 := hcc13 1 _ rfl
         (try simp only [show (k53).sz = 2 from rfl, Nat.mul_one, Nat.add_zero] at hx13_1)
         have hf13_1 := hfr13 1
         (try simp only [show (k53).sz = 2 from rfl, Nat.mul_one, Nat.add_zero] at hf13_1)
         (try clear hcl13); (try clear hcc13); (try clear hfr13); (try clear hM13)
         go_wp2_with (first | ((with_reducible refine gate_store (t := 3) (p := 22) rfl ?_); refine store_event (t := 3) (p := 22) (v := ?vo_w14) (w1 := (wr.setCell ⟨go8, (x5_1 : Int).toNat * 2 + 1, none⟩ (.int .i64 x1_2))) ?hg ?ho ?hn ?hr ?_; (case ho => rfl); (case hg => rfl); (case hn => rfl); (case hr => first | (go_simp; done) | (go_simp; rfl)); intro w14 hw; have hg : wr.grownBy w14 (some go8) := (by rw [hw]; exact HP13.2); have hp_ : Kd.R k53 53 w14 w0.heap.size (fun k_ => (P0_ k_ ∨ w.heap.size ≤ k_)) (.slice (some ⟨go8, 0, none⟩) x0_2.length co4) y351 := (by rw [hw, Ny351.out]; exact HP13.1); clear HP13; have n0_ := Aside0.mk (hp_); have n1_ := Aside0.mk ((by rw [hw]; exact below_set (HB.out) GB8.out : Below w0.heap.size w0 w14)); have n2_ := Aside0.mk (Kept.of_grown (S := (fun k_ => P0_ k_)) hg (by repeat (first | (with_reducible first | exact HK.out | apply Kept.alloc | apply Kept.drewN | apply Kept.drew) | exact HK.out)) (fun k_ e_ => (HO_0.out.1 k_ e_))); clear HO_0; clear HB; clear HK; have HO_0 := n0_; have HB := n1_; have HK := n2_; clear n0_ n1_ n2_; clear hg hw hp_))
         (try simp only [← hl0_2])
         go_roundg k2
         case measure => have := HK1.out; have := HK2.out; omega
         case rel => exact ⟨(y351), (wrap64 (x1_2 + 1)), (wrap64 (1 + 1)), (by first | rfl | (simp; done) | (simp; unfold wrap64; omega) | (simp [*]; done)), (by first | rfl | (simp; done) | (simp; unfold wrap64; omega) | (simp [*]; done)), H', ⟨by have := HK1.out; have := HK2.out; omega⟩, ⟨by (try simp only [hl0_2]); (with_reducible repeat (first | apply Kd.R_alloc | apply Kd.R_drewN | apply Kd.R_drew)); exact HO_0.out⟩, ⟨by repeat (first | (with_reducible first | exact HK.out | apply Kept.alloc | apply Kept.drewN | apply Kept.drew) | exact HK.out)⟩, ⟨by repeat (first | (with_reducible first | exact HB.out | apply below_alloc | apply pw_below_drewN | apply below_drew1) | exact HB.out)⟩⟩
        ·rw [if_neg c12] at H
         have c12b0 : (x6_2 == 1) = false := beq_eq_false_iff_ne.mpr c12
         have c12b1 : (x6_2 != 1) = true := bne_iff_ne.mpr c12
         exact absurd H (by simp)
      ·rw [if_neg c5] at H
       have c5b0 : decide (x6_2 < 2) = false := decide_eq_false c5
       clear c5
       have H' := Aside0.mk H
       clear H
       go_wp2
       (try simp only [← hl0_2])
       go_roundg k2
       case measure => have := HK1.out; have := HK2.out; omega
       case rel => exact ⟨(x0_2), (x1_2), (wrap64 (x5_1 + 1)), sD, sD, H', ⟨by have := HK1.out; have := HK2.out; omega⟩, ⟨by (try simp only [hl0_2]); (with_reducible repeat (first | apply Kd.R_alloc | apply Kd.R_drewN | apply Kd.R_drew)); exact HO_0.out⟩, ⟨by repeat (first | (with_reducible first | exact HK.out | apply Kept.alloc | apply Kept.drewN | apply Kept.drew) | exact HK.out)⟩, ⟨by repeat (first | (with_reducible first | exact HB.out | apply below_alloc | apply pw_below_drewN | apply below_drew1) | exact HB.out)⟩⟩
   ·rw [if_neg c3] at H
    have c3b0 : decide (x5_1 < (x0_1.length : Int)) = false := decide_eq_false c3
    clear c3
    simp only [Option.some.injEq, Prod.mk.injEq] at H
    obtain ⟨rfl, rfl⟩ := H
    obtain ⟨Ao15, co15, eo15⟩ := Kd.R_slice HO_0.out
    subst eo15
    go_wp2
    go_ret
    exact ⟨rE, by (with_reducible repeat (first | apply Kd.R_alloc | apply Kd.R_drewN | apply Kd.R_drew)); exact HO_0.out, by repeat (first | (with_reducible first | exact HB.out | apply below_alloc | apply pw_below_drewN | apply below_drew1) | exact HB.out), by repeat (first | (with_reducible first | exact HK.out | apply Kept.alloc | apply Kept.drewN | apply Kept.drew) | exact HK.out)⟩

/-! ### laws_markIntS: function 22 -/
def laws_markIntS.l0 : Nat → List Int → Int → Int → Option (Int × List Int)
 | 0, _, _, _ => none
 | k + 1, x0, x1, x5 => if x5 < (x0.length : Int) then (if 0 ≤ x5 then (laws_markIntS.l0 k (x0.set (x5 : Int).toNat x1) (wrap64 (x1 + 1)) (wrap64 (x5 + 1))) else (none)) else (some (x1, x0))
def laws_markIntS.f (k : Nat) (l0 : List Int) (a1 : Int) : Option (Int × List Int) := laws_markIntS.l0 k l0 a1 0
theorem laws_markIntS.mono_l : ∀ k, (∀ y0 y1 y2, LeO (laws_markIntS.l0 k y0 y1 y2) (laws_markIntS.l0 (k + 1) y0 y1 y2))
 | 0 => fun _ _ _ r h => by simp [laws_markIntS.l0] at h
 | k + 1 => by
  have ih0 := laws_markIntS.mono_l k
  ·intro y0 y1 y2
   unfold laws_markIntS.l0
   repeat' first
   | (with_reducible exact ih0 _ _ _)
   | (with_reducible exact LeO.refl _)
   | (with_reducible exact LeO.none _)
   | (with_reducible refine LeO.ite ?_ ?_)
   | (with_reducible refine LeO.bind ?_ (fun _ => ?_))
   | exact ih0 _ _ _
   | exact LeO.none _
   | refine LeO.ite ?_ ?_
   | refine LeO.bind ?_ (fun _ => ?_)
theorem laws_markIntS.mono : ∀ a0 a1 k, LeO (laws_markIntS.f k a0 a1) (laws_markIntS.f (k + 1) a0 a1) := by
 intro a0 a1 k
 have ih0 := laws_markIntS.mono_l k
 unfold laws_markIntS.f
 repeat' first
   | (with_reducible exact ih0 _ _ _)
   | (with_reducible exact LeO.refl _)
   | (with_reducible exact LeO.none _)
   | (with_reducible refine LeO.ite ?_ ?_)
   | (with_reducible refine LeO.bind ?_ (fun _ => ?_))
   | exact ih0 _ _ _
   | exact LeO.none _
   | refine LeO.ite ?_ ?_
   | refine LeO.bind ?_ (fun _ => ?_)
set_option maxHeartbeats 8000000 in
set_option maxRecDepth 100000 in
theorem laws_markIntS.calls (k : Nat) (P0_ : Nat → Prop) (u9000_ : Value) (l0 : List Int) (a1 : Int) (r1 : Int) (r2 : List Int) (w0 w : World) (hB : Below w0.heap.size w0 w) (ho0 : Kd.R (Kd.int .i64) 3 w w0.heap.size P0_ u9000_ l0) (h : laws_markIntS.f k l0 a1 = some (r1, r2)) :
  Calls Try.prog 22 #[u9000_, .int .i64 a1] w fun e w' => e = .returned (.int .i64 r1) ∧ Kd.R (Kd.int .i64) 3 w' w0.heap.size (fun k_ => (P0_ k_ ∨ w.heap.size ≤ k_)) u9000_ r2 ∧ Below w0.heap.size w0 w' ∧ Kept w w' (fun k_ => P0_ k_) := by
 have HO0 := Aside0.mk (show Kd.R (Kd.int .i64) 3 w w0.heap.size (fun k_ => (P0_ k_ ∨ w.heap.size ≤ k_)) u9000_ l0 from Kd.R_mono ho0 (fun k_ hk => (.inl hk)))
 have HK := Aside0.mk (Kept.refl w (fun k_ => P0_ k_))
 have HW0 := Aside0.mk hB.size
 have HB := Aside0.mk hB
 clear hB
 have H : (laws_markIntS.l0 k l0 a1 0) = some (r1, r2) := h
 clear h
 have H' := Aside0.mk H
 clear H
 go_enter Try.func22, Try.ntmps22
 go_wp2
 go_loopg [1, 5] k (fun kq v1 v5 w' => ∃ (x0_1 : List Int) (x1_1 : Int) (x5_1 : Int), v1 = .int .i64 x1_1 ∧ v5 = .int .i64 x5_1 ∧ Aside0 (laws_markIntS.l0 kq x0_1 x1_1 x5_1 = some (r1, r2)) ∧ Aside0 (kq ≤ k) ∧ Aside0 (Kd.R (Kd.int .i64) 3 w' w0.heap.size (fun k_ => (P0_ k_ ∨ w.heap.size ≤ k_)) u9000_ x0_1) ∧ Aside0 (Kept w w' (fun k_ => P0_ k_)) ∧ Aside0 (Below w0.heap.size w0 w'))
 case atStart => exact ⟨(l0), (a1), (0), sD, sD, H', ⟨Nat.le_refl _⟩, ⟨kR⟩, ⟨by repeat (first | (with_reducible first | exact HK.out | apply Kept.alloc | apply Kept.drewN | apply Kept.drew) | exact HK.out)⟩, ⟨by repeat (first | (with_reducible first | exact HB.out | apply below_alloc | apply pw_below_drewN | apply below_drew1) | exact HB.out)⟩⟩
 case round =>
  clear H'
  try clear c2
  try clear p2
  obtain ⟨x0_1, x1_1, x5_1, rfl, rfl, HA, HK1, HO_0, HK, HB⟩ := hrel
  cases gk with
  | zero => exact absurd HA.out (by simp [laws_markIntS.l0])
  | succ k1 =>
   have H := HA.out
   clear HA
   simp only [laws_markIntS.l0] at H
   by_cases c3 : x5_1 < (x0_1.length : Int)
   ·rw [if_pos c3] at H
    have c3b0 : decide (x5_1 < (x0_1.length : Int)) = true := decide_eq_true c3
    clear c3
    by_cases c4 : 0 ≤ x5_1; rotate_left
    ·rw [if_neg c4] at H; exact absurd H (by simp)
    rw [if_pos c4] at H
    have c4b0 : decide (0 ≤ x5_1) = true := decide_eq_true c4
    clear c4
    obtain ⟨y352, hy352⟩ : ∃ y_ : List Int, y_ = (x0_1.set (x5_1 : Int).toNat x1_1) := ⟨_, rfl⟩
    replace H : (laws_markIntS.l0 k1 y352 (wrap64 (x1_1 + 1)) (wrap64 (x5_1 + 1))) = some (r1, r2) := by first | (rw [hy352]; with_reducible exact H) | (have H2_ := (Option.bind_some _ _).symm.trans H; rw [hy352]; with_reducible exact H2_) | (have H2_ := (Option.bind_some _ _).symm.trans H; with_reducible exact H2_) | with_reducible exact H | (rw [hy352]; exact H) | exact H
    have Ny352 := Aside0.mk hy352
    clear hy352
    have H' := Aside0.mk H
    clear H
    obtain ⟨Ao6, co6, eo6⟩ := Kd.R_slice HO_0.out
    subst eo6
    have p5 : 0 ≤ (x5_1 : Int) := oD
    have q5 : (x5_1 : Int) < ((x0_1.length : Int) : Int) := oD
    obtain ⟨go5, co5, eo5, gb5, gl5, cl5, HG5⟩ := Kd.R_form HO_0.out (by omega)
    (first | cases eo5 | (injection eo5 with ea_ en_ ec_; (first | subst ea_ | (injection ea_ with ea_; subst ea_)); subst ec_; clear en_))
    have GB5 := Aside0.mk gb5
    have GG5 := Aside0.mk HG5
    clear gb5 gl5 HG5
    have HMgo5 := Aside0.mk (show (P0_ go5 ∨ w.heap.size ≤ go5) from (HO_0.out.1 _ rfl))
    obtain ⟨hx5_0, hf5_0⟩ := Kd.R_celln 0 HO_0.out (x5_1 : Int) p5 q5
    replace p5 := eq_true p5
    replace q5 := eq_true q5
    have HP7 := Kd.R_putg HO_0.out (x5_1 : Int) x1_1
    go_wp2_with (first | ((with_reducible refine gate_store (t := 3) (p := 15) rfl ?_); refine store_event (t := 3) (p := 15) (v := ?vo_w8) (w1 := (wr.setCell ⟨go5, (x5_1 : Int).toNat, none⟩ (.int .i64 x1_1))) ?hg ?ho ?hn ?hr ?_; (case ho => rfl); (case hg => rfl); (case hn => rfl); (case hr => first | (go_simp; done) | (go_simp; rfl)); intro w8 hw; have hg : wr.grownBy w8 (some go5) := (by rw [hw]; exact HP7.2); have hp_ : Kd.R (Kd.int .i64) 3 w8 w0.heap.size (fun k_ => (P0_ k_ ∨ w.heap.size ≤ k_)) (.slice (some ⟨go5, 0, none⟩) x0_1.length co6) y352 := (by rw [hw, Ny352.out]; exact HP7.1); clear HP7; have n0_ := Aside0.mk (hp_); have n1_ := Aside0.mk ((by rw [hw]; exact below_set (HB.out) GB5.out : Below w0.heap.size w0 w8)); have n2_ := Aside0.mk (Kept.of_grown (S := (fun k_ => P0_ k_)) hg (by repeat (first | (with_reducible first | exact HK.out | apply Kept.alloc | apply Kept.drewN | apply Kept.drew) | exact HK.out)) (fun k_ e_ => (HO_0.out.1 k_ e_))); clear HO_0; clear HB; clear HK; have HO_0 := n0_; have HB := n1_; have HK := n2_; clear n0_ n1_ n2_; clear hg hw hp_))
    go_roundg k1
    case measure => have := HK1.out; omega
    case rel => exact ⟨(y352), (wrap64 (x1_1 + 1)), (wrap64 (x5_1 + 1)), sD, sD, H', ⟨by have := HK1.out; omega⟩, ⟨kR⟩, ⟨by repeat (first | (with_reducible first | exact HK.out | apply Kept.alloc | apply Kept.drewN | apply Kept.drew) | exact HK.out)⟩, ⟨by repeat (first | (with_reducible first | exact HB.out | apply below_alloc | apply pw_below_drewN | apply below_drew1) | exact HB.out)⟩⟩
   ·rw [if_neg c3] at H
    have c3b0 : decide (x5_1 < (x0_1.length : Int)) = false := decide_eq_false c3
    clear c3
    simp only [Option.some.injEq, Prod.mk.injEq] at H
    obtain ⟨rfl, rfl⟩ := H
    obtain ⟨Ao9, co9, eo9⟩ := Kd.R_slice HO_0.out
    subst eo9
    go_wp2
    go_ret
    exact ⟨rE, by (with_reducible repeat (first | apply Kd.R_alloc | apply Kd.R_drewN | apply Kd.R_drew)); exact HO_0.out, by repeat (first | (with_reducible first | exact HB.out | apply below_alloc | apply pw_below_drewN | apply below_drew1) | exact HB.out), by repeat (first | (with_reducible first | exact HK.out | apply Kept.alloc | apply Kept.drewN | apply Kept.drew) | exact HK.out)⟩

/-! ### laws_markIntSS: function 17 -/
def laws_markIntSS.l0 : Nat → List (List Int) → Int → Int → Option (Int × List (List Int))
 | 0, _, _, _ => none
 | k + 1, x0, x1, x5 => if x5 < (x0.length : Int) then (if 0 ≤ x5 then ((laws_markIntS.f k (rd_L6 x0 x5) x1).bind fun t => laws_markIntSS.l0 k (x0.set (x5 : Int).toNat t.2) t.1 (wrap64 (x5 + 1))) else none) else some (x1, x0)
def laws_markIntSS.f (k : Nat) (l0 : List (List Int)) (a1 : Int) : Option (Int × List (List Int)) := laws_markIntSS.l0 k l0 a1 0
theorem laws_markIntSS.mono_l : ∀ k y0 y1 y2, LeO (laws_markIntSS.l0 k y0 y1 y2) (laws_markIntSS.l0 (k + 1) y0 y1 y2)
 | 0 => fun _ _ _ r h => by simp [laws_markIntSS.l0] at h
 | k + 1 => fun y0 y1 y2 => by
  unfold laws_markIntSS.l0
  exact LeO.ite (LeO.ite (LeO.bind (laws_markIntS.mono _ _ k) (fun _ => laws_markIntSS.mono_l k _ _ _)) (LeO.refl _)) (LeO.refl _)
theorem laws_markIntSS.mono : ∀ a0 a1 k, LeO (laws_markIntSS.f k a0 a1) (laws_markIntSS.f (k + 1) a0 a1) := fun a0 a1 k => laws_markIntSS.mono_l k a0 a1 0
set_option maxHeartbeats 8000000 in
set_option maxRecDepth 100000 in
theorem laws_markIntSS.calls (k : Nat) (P0_ : Nat → Prop) (u9000_ : Value) (l0 : List (List Int)) (a1 : Int) (r1 : Int) (r2 : List (List Int)) (w0 w : World) (hB : Below w0.heap.size w0 w) (hP : ∀ q, w.heap.size ≤ q → P0_ q) (ho0 : Kd.S (Kd.slice 3 (Kd.int .i64)) 38 w w0.heap.size P0_ u9000_ l0) (h : laws_markIntSS.f k l0 a1 = some (r1, r2)) :
  Calls Try.prog 17 #[u9000_, .int .i64 a1] w fun e w' => e = .returned (.int .i64 r1) ∧ Kd.S (Kd.slice 3 (Kd.int .i64)) 38 w' w0.heap.size P0_ u9000_ r2 ∧ Below w0.heap.size w0 w' ∧ Kept w w' P0_ := by
 obtain ⟨A0, c0, e0⟩ := Kd.S_slice ho0
 generalize l0.length = n0 at e0
 subst e0
 have HO0 := Aside0.mk ho0
 have HK0 := Aside0.mk (Kept.refl w P0_)
 have HB0 := Aside0.mk hB
 have HP := Aside0.mk hP
 have H' := Aside0.mk (show laws_markIntSS.l0 k l0 a1 0 = some (r1, r2) from h)
 clear hB hP ho0 h
 go_enter Try.func17, Try.ntmps17
 go_wp2
 go_loopg [1, 5] k (fun kq v1 v5 w' => ∃ (x : List (List Int)) (x1 x5 : Int), v1 = .int .i64 x1 ∧ v5 = .int .i64 x5 ∧ Aside0 (laws_markIntSS.l0 kq x x1 x5 = some (r1, r2)) ∧ Aside0 (kq ≤ k) ∧ Aside0 (Kd.S (Kd.slice 3 (Kd.int .i64)) 38 w' w0.heap.size P0_ (.slice A0 n0 c0) x) ∧ Aside0 (Kept w w' P0_) ∧ Aside0 (Below w0.heap.size w0 w'))
 case atStart => exact ⟨l0, a1, 0, rfl, rfl, H', ⟨Nat.le_refl _⟩, HO0, HK0, HB0⟩
 case round =>
  clear H' HO0 HK0 HB0
  obtain ⟨x, x1, x5, rfl, rfl, HA, HK1, HO, HK, HB⟩ := hrel
  cases gk with
  | zero => exact absurd HA.out (by simp [laws_markIntSS.l0])
  | succ k1 =>
   have H := HA.out
   clear HA
   have HN := Aside0.mk (Kd.S_reads' HO.out).1
   rw [laws_markIntSS.l0] at H
   by_cases c3 : x5 < (x.length : Int)
   · rw [if_pos c3] at H
     have c3b : decide (x5 < (n0 : Int)) = true := decide_eq_true (by have := HN.out; omega)
     by_cases c4 : 0 ≤ x5
     · rw [if_pos c4] at H
       obtain ⟨⟨t1, t2⟩, ht, H⟩ := Option.bind_eq_some_iff.mp H
       have HT := Aside0.mk ht
       have H' := Aside0.mk H
       clear H ht
       obtain ⟨ad, A1, c1, e1, hx1, hl1, hi1⟩ := at_L6 (Kd.S_reads' HO.out).2.2 x5 c4 c3
       obtain ⟨g, cp, eg, gb, gl, cl, HG⟩ := Kd.S_form HO.out (by omega)
       injection eg with ea en ec
       subst ea
       injection e1 with e1
       subst e1
       have c3n : x5 < (n0 : Int) := by have := HN.out; omega
       obtain ⟨oki, ce, hcl, hM, hcc, hfz, hoki, hH⟩ := Kd.S_elem HO.out [] x5 c4 c3n
       obtain ⟨ve, rfl, ge⟩ := hM
       have hv := hcc 0 _ rfl
       (first | simp only [add_plain] at hx1 | skip)
       have hx1' := hx1
       (try simp only [add_plain] at hx1')
       (try simp only [Nat.add_zero] at hv)
       (try rw [show ((Kd.slice 3 (Kd.int .i64))).sz = 1 from rfl, Nat.mul_one] at hv)
       replace hv := Option.some.inj (hv.symm.trans hx1')
       subst hv
       have UU := Aside0.mk (show Kd.R (Kd.int .i64) 3 _ w0.heap.size oki (.slice A1 (rd_L6 x x5).length c1) (rd_L6 x x5) from ge)
       have HH := Aside0.mk hH
       have HQ := Aside0.mk hoki
       clear hcl hcc hfz hoki hH ge gb gl cl HG hx1' en ec
       have p5 := eq_true c4
       have q5 := eq_true c3n
       clear c3 c4 c3n
       go_wp2_with (first | (go_at_call 22; (refine (laws_markIntS.calls k1 oki _ (rd_L6 x x5) x1 t1 t2 w0 _ HB.out UU.out HT.out).mono ?_); rintro e w2 ⟨rfl, ho, hb, hk⟩; have n0_ := Aside0.mk (Kd.H_back (Kd.H_step (Kd.H_widen HH.out) (fun q hq hn hlt => hk.2 q hlt (fun h_ => hn (.inl h_)))) (Kd.M_row ho) (fun q hq => hq.elim .inl (fun h_ => .inr ⟨HP.out q (Nat.le_trans HK.out.1 h_), h_⟩))); have n1_ := Aside0.mk (Kept.then_ HK.out hk (fun q hq => .inl (HQ.out q hq).1)); have n2_ := Aside0.mk hb; clear HO HK HB HH UU; have HO := n0_; have HK := n1_; have HB := n2_; clear n0_ n1_ n2_ ho hb hk))
       go_roundg k1
       case measure => have := HK1.out; omega
       case rel => exact ⟨_, _, _, rfl, rfl, H', ⟨by have := HK1.out; omega⟩, HO, HK, HB⟩
     · rw [if_neg c4] at H; exact absurd H (by simp)
   · rw [if_neg c3] at H
     have c3b : decide (x5 < (n0 : Int)) = false := decide_eq_false (by have := HN.out; omega)
     have H2 := Option.some.inj H
     injection H2 with h1 h2
     subst h1 h2
     go_wp2
     go_ret
     exact ⟨rfl, HO.out, HB.out, HK.out⟩

/-! ### laws_heldIntS: function 23 -/
def laws_heldIntS.l0 : Nat → List Int → Int → Int → Option (Int)
 | 0, _, _, _ => none
 | k + 1, x0, x1, x5 => if x5 < (x0.length : Int) then (if 0 ≤ x5 then (if (rd x0 x5) = x1 then (laws_heldIntS.l0 k x0 (wrap64 (x1 + 1)) (wrap64 (x5 + 1))) else (some (-1))) else (none)) else (some x1)
def laws_heldIntS.f (k : Nat) (l0 : List Int) (a1 : Int) : Option (Int) := laws_heldIntS.l0 k l0 a1 0
theorem laws_heldIntS.mono_l : ∀ k, (∀ y0 y1 y2, LeO (laws_heldIntS.l0 k y0 y1 y2) (laws_heldIntS.l0 (k + 1) y0 y1 y2))
 | 0 => fun _ _ _ r h => by simp [laws_heldIntS.l0] at h
 | k + 1 => by
  have ih0 := laws_heldIntS.mono_l k
  ·intro y0 y1 y2
   unfold laws_heldIntS.l0
   repeat' first
   | (with_reducible exact ih0 _ _ _)
   | (with_reducible exact LeO.refl _)
   | (with_reducible exact LeO.none _)
   | (with_reducible refine LeO.ite ?_ ?_)
   | (with_reducible refine LeO.bind ?_ (fun _ => ?_))
   | exact ih0 _ _ _
   | exact LeO.none _
   | refine LeO.ite ?_ ?_
   | refine LeO.bind ?_ (fun _ => ?_)
theorem laws_heldIntS.mono : ∀ a0 a1 k, LeO (laws_heldIntS.f k a0 a1) (laws_heldIntS.f (k + 1) a0 a1) := by
 intro a0 a1 k
 have ih0 := laws_heldIntS.mono_l k
 unfold laws_heldIntS.f
 repeat' first
   | (with_reducible exact ih0 _ _ _)
   | (with_reducible exact LeO.refl _)
   | (with_reducible exact LeO.none _)
   | (with_reducible refine LeO.ite ?_ ?_)
   | (with_reducible refine LeO.bind ?_ (fun _ => ?_))
   | exact ih0 _ _ _
   | exact LeO.none _
   | refine LeO.ite ?_ ?_
   | refine LeO.bind ?_ (fun _ => ?_)
set_option maxHeartbeats 8000000 in
set_option maxRecDepth 100000 in
theorem laws_heldIntS.calls (k : Nat) (A0 : Option Addr) (c0 : Nat) (l0 : List Int) (a1 : Int) (r : Int) (w : World) (hr0 : Kd.C (Kd.int .i64) w A0 l0.length l0) (hc0 : l0.length ≤ c0) (h : laws_heldIntS.f k l0 a1 = some r) :
  Calls Try.prog 23 #[.slice A0 l0.length c0, .int .i64 a1] w fun e w' => e = .returned (.int .i64 r) ∧ Drawn0 w w' := by
 have HR0 := Aside0.mk hr0
 have HC0 := Aside0.mk hc0
 clear hr0 hc0
 have H : (laws_heldIntS.l0 k l0 a1 0) = some r := h
 clear h
 have H' := Aside0.mk H
 clear H
 go_enter Try.func23, Try.ntmps23
 go_wp2
 go_loopg [1, 5] k (fun kq v1 v5 w' => ∃ (x1_1 : Int) (x5_1 : Int), v1 = .int .i64 x1_1 ∧ v5 = .int .i64 x5_1 ∧ Aside0 (laws_heldIntS.l0 kq l0 x1_1 x5_1 = some r) ∧ Aside0 (kq ≤ k) ∧ Drawn0 w w')
 case atStart => exact ⟨(a1), (0), sD, sD, H', ⟨Nat.le_refl _⟩, by repeat (first | exact Drawn0.refl _ | apply Drawn0.step)⟩
 case round =>
  clear H'
  try clear c2
  try clear p2
  obtain ⟨x1_1, x5_1, rfl, rfl, HA, HK1, ⟨m1, rfl⟩⟩ := hrel
  cases gk with
  | zero => exact absurd HA.out (by simp [laws_heldIntS.l0])
  | succ k1 =>
   have H := HA.out
   clear HA
   simp only [laws_heldIntS.l0] at H
   by_cases c3 : x5_1 < (l0.length : Int)
   ·rw [if_pos c3] at H
    have c3b0 : decide (x5_1 < (l0.length : Int)) = true := decide_eq_true c3
    clear c3
    by_cases c4 : 0 ≤ x5_1; rotate_left
    ·rw [if_neg c4] at H; exact absurd H (by simp)
    rw [if_pos c4] at H
    have c4b0 : decide (0 ≤ x5_1) = true := decide_eq_true c4
    clear c4
    by_cases c5 : (rd l0 x5_1) = x1_1
    ·rw [if_pos c5] at H
     have c5b0 : ((rd l0 x5_1) == x1_1) = true := beq_iff_eq.mpr c5
     have c5b1 : ((rd l0 x5_1) != x1_1) = false := bne_eq_false_iff_eq.mpr c5
     clear c5
     have H' := Aside0.mk H
     clear H
     have p353 : 0 ≤ (x5_1 : Int) := oD
     have q353 : x5_1 < (l0.length : Int) := oD
     obtain ⟨ad353, e353, hx353_0⟩ := Kd.at_int HR0.out x5_1 p353 q353
     cases e353
     replace p353 := eq_true p353
     replace q353 := eq_true q353
     go_wp2
     go_roundg k1
     case measure => have := HK1.out; omega
     case rel => exact ⟨(wrap64 (x1_1 + 1)), (wrap64 (x5_1 + 1)), sD, sD, H', ⟨by have := HK1.out; omega⟩, by repeat (first | exact Drawn0.refl _ | apply Drawn0.step)⟩
    ·rw [if_neg c5] at H
     have c5b0 : ((rd l0 x5_1) == x1_1) = false := beq_eq_false_iff_ne.mpr c5
     have c5b1 : ((rd l0 x5_1) != x1_1) = true := bne_iff_ne.mpr c5
     obtain rfl := Option.some.inj H
     have p353 : 0 ≤ (x5_1 : Int) := oD
     have q353 : x5_1 < (l0.length : Int) := oD
     obtain ⟨ad353, e353, hx353_0⟩ := Kd.at_int HR0.out x5_1 p353 q353
     cases e353
     replace p353 := eq_true p353
     replace q353 := eq_true q353
     go_wp2
     go_ret
     exact ⟨by first | rfl | (simp; done) | (simp [*]; done), by repeat (first | exact Drawn0.refl _ | apply Drawn0.step)⟩
   ·rw [if_neg c3] at H
    have c3b0 : decide (x5_1 < (l0.length : Int)) = false := decide_eq_false c3
    clear c3
    obtain rfl := Option.some.inj H
    go_wp2
    go_ret
    exact ⟨by first | rfl | (simp; done) | (simp [*]; done), by repeat (first | exact Drawn0.refl _ | apply Drawn0.step)⟩

/-! ### laws_heldIntSS: function 18 -/
def laws_heldIntSS.l0 : Nat → List (List Int) → Int → Int → Option (Int)
 | 0, _, _, _ => none
 | k + 1, x0, x1, x5 => if x5 < (x0.length : Int) then (if 0 ≤ x5 then ((laws_heldIntS.f k (rd_L6 x0 x5) x1).bind fun t355 => (if t355 < 0 then (some (-1)) else (laws_heldIntSS.l0 k x0 t355 (wrap64 (x5 + 1))))) else (none)) else (some x1)
def laws_heldIntSS.f (k : Nat) (l0 : List (List Int)) (a1 : Int) : Option (Int) := laws_heldIntSS.l0 k l0 a1 0
theorem laws_heldIntSS.mono_l : ∀ k, (∀ y0 y1 y2, LeO (laws_heldIntSS.l0 k y0 y1 y2) (laws_heldIntSS.l0 (k + 1) y0 y1 y2))
 | 0 => fun _ _ _ r h => by simp [laws_heldIntSS.l0] at h
 | k + 1 => by
  have ih0 := laws_heldIntSS.mono_l k
  ·intro y0 y1 y2
   unfold laws_heldIntSS.l0
   repeat' first
   | (with_reducible exact ih0 _ _ _)
   | (with_reducible exact laws_heldIntS.mono _ _ _)
   | (with_reducible exact LeO.refl _)
   | (with_reducible exact LeO.none _)
   | (with_reducible refine LeO.ite ?_ ?_)
   | (with_reducible refine LeO.bind ?_ (fun _ => ?_))
   | exact ih0 _ _ _
   | exact laws_heldIntS.mono _ _ _
   | exact LeO.none _
   | refine LeO.ite ?_ ?_
   | refine LeO.bind ?_ (fun _ => ?_)
theorem laws_heldIntSS.mono : ∀ a0 a1 k, LeO (laws_heldIntSS.f k a0 a1) (laws_heldIntSS.f (k + 1) a0 a1) := by
 intro a0 a1 k
 have ih0 := laws_heldIntSS.mono_l k
 unfold laws_heldIntSS.f
 repeat' first
   | (with_reducible exact ih0 _ _ _)
   | (with_reducible exact laws_heldIntS.mono _ _ _)
   | (with_reducible exact LeO.refl _)
   | (with_reducible exact LeO.none _)
   | (with_reducible refine LeO.ite ?_ ?_)
   | (with_reducible refine LeO.bind ?_ (fun _ => ?_))
   | exact ih0 _ _ _
   | exact laws_heldIntS.mono _ _ _
   | exact LeO.none _
   | refine LeO.ite ?_ ?_
   | refine LeO.bind ?_ (fun _ => ?_)
set_option maxHeartbeats 8000000 in
set_option maxRecDepth 100000 in
theorem laws_heldIntSS.calls (k : Nat) (A0 : Option Addr) (c0 : Nat) (l0 : List (List Int)) (a1 : Int) (r : Int) (w : World) (hr0 : Kd.C (Kd.slice 3 (Kd.int .i64)) w A0 l0.length l0) (hc0 : l0.length ≤ c0) (h : laws_heldIntSS.f k l0 a1 = some r) :
  Calls Try.prog 18 #[.slice A0 l0.length c0, .int .i64 a1] w fun e w' => e = .returned (.int .i64 r) ∧ Drawn0 w w' := by
 have HR0 := Aside0.mk hr0
 have HC0 := Aside0.mk hc0
 clear hr0 hc0
 have H : (laws_heldIntSS.l0 k l0 a1 0) = some r := h
 clear h
 have H' := Aside0.mk H
 clear H
 go_enter Try.func18, Try.ntmps18
 go_wp2
 go_loopg [1, 5] k (fun kq v1 v5 w' => ∃ (x1_1 : Int) (x5_1 : Int), v1 = .int .i64 x1_1 ∧ v5 = .int .i64 x5_1 ∧ Aside0 (laws_heldIntSS.l0 kq l0 x1_1 x5_1 = some r) ∧ Aside0 (kq ≤ k) ∧ Drawn0 w w')
 case atStart => exact ⟨(a1), (0), sD, sD, H', ⟨Nat.le_refl _⟩, by repeat (first | exact Drawn0.refl _ | apply Drawn0.step)⟩
 case round =>
  clear H'
  try clear c1
  try clear p2
  obtain ⟨x1_1, x5_1, rfl, rfl, HA, HK1, ⟨m1, rfl⟩⟩ := hrel
  cases gk with
  | zero => exact absurd HA.out (by simp [laws_heldIntSS.l0])
  | succ k1 =>
   have H := HA.out
   clear HA
   simp only [laws_heldIntSS.l0] at H
   by_cases c3 : x5_1 < (l0.length : Int)
   ·rw [if_pos c3] at H
    have c3b0 : decide (x5_1 < (l0.length : Int)) = true := decide_eq_true c3
    clear c3
    by_cases c4 : 0 ≤ x5_1; rotate_left
    ·rw [if_neg c4] at H; exact absurd H (by simp)
    rw [if_pos c4] at H
    have c4b0 : decide (0 ≤ x5_1) = true := decide_eq_true c4
    clear c4
    replace H := Option.bind_eq_some_iff.mp H
    obtain ⟨t355, A50, H⟩ := H
    replace H : (if t355 < 0 then (some (-1)) else (laws_heldIntSS.l0 k1 l0 t355 (wrap64 (x5_1 + 1)))) = some r := H
    have A5 := Aside0.mk A50
    clear A50
    by_cases c6 : t355 < 0
    ·rw [if_pos c6] at H
     have c6b0 : decide (t355 < 0) = true := decide_eq_true c6
     clear c6
     obtain rfl := Option.some.inj H
     have p354 : 0 ≤ (x5_1 : Int) := oD
     have q354 : x5_1 < (l0.length : Int) := oD
     obtain ⟨ad354, A354_0, c354_0, e354, hx354_0, hl354_0, hi354_0⟩ := at_L6 HR0.out x5_1 p354 q354
     cases e354
     have HR354_0 := Aside0.mk hi354_0
     have HC354_0 := Aside0.mk hl354_0
     clear hi354_0 hl354_0
     replace p354 := eq_true p354
     replace q354 := eq_true q354
     go_wp2_with (first | ((with_reducible refine gate_callee (f := 23) rfl ?_); refine goesL_ (some 17) rfl rfl Try.func23 (by kernel_rfl) rfl #[.slice A354_0 (rd_L6 l0 x5_1).length c354_0, .int .i64 x1_1] rfl aE ?_; (with_reducible refine (laws_heldIntS.calls k1 _ _ (rd_L6 l0 x5_1) x1_1 t355 _ ?side1 ?side2 A5.out).mono ?_); (case side1 => exact cK HR354_0.out); (case side2 => exact HC354_0.out); rintro e w' ⟨rfl, ⟨nd, rfl⟩⟩; refine ⟨_, rfl, ?_⟩))
     go_ret
     exact ⟨by first | rfl | (simp; done) | (simp [*]; done), by repeat (first | exact Drawn0.refl _ | apply Drawn0.step)⟩
    ·rw [if_neg c6] at H
     have c6b0 : decide (t355 < 0) = false := decide_eq_false c6
     clear c6
     have H' := Aside0.mk H
     clear H
     have p354 : 0 ≤ (x5_1 : Int) := oD
     have q354 : x5_1 < (l0.length : Int) := oD
     obtain ⟨ad354, A354_0, c354_0, e354, hx354_0, hl354_0, hi354_0⟩ := at_L6 HR0.out x5_1 p354 q354
     cases e354
     have HR354_0 := Aside0.mk hi354_0
     have HC354_0 := Aside0.mk hl354_0
     clear hi354_0 hl354_0
     replace p354 := eq_true p354
     replace q354 := eq_true q354
     go_wp2_with (first | ((with_reducible refine gate_callee (f := 23) rfl ?_); refine goesL_ (some 17) rfl rfl Try.func23 (by kernel_rfl) rfl #[.slice A354_0 (rd_L6 l0 x5_1).length c354_0, .int .i64 x1_1] rfl aE ?_; (with_reducible refine (laws_heldIntS.calls k1 _ _ (rd_L6 l0 x5_1) x1_1 t355 _ ?side1 ?side2 A5.out).mono ?_); (case side1 => exact cK HR354_0.out); (case side2 => exact HC354_0.out); rintro e w' ⟨rfl, ⟨nd, rfl⟩⟩; refine ⟨_, rfl, ?_⟩))
     go_roundg k1
     case measure => have := HK1.out; omega
     case rel => exact ⟨(t355), (wrap64 (x5_1 + 1)), sD, sD, H', ⟨by have := HK1.out; omega⟩, by repeat (first | exact Drawn0.refl _ | apply Drawn0.step)⟩
   ·rw [if_neg c3] at H
    have c3b0 : decide (x5_1 < (l0.length : Int)) = false := decide_eq_false c3
    clear c3
    obtain rfl := Option.some.inj H
    go_wp2
    go_ret
    exact ⟨by first | rfl | (simp; done) | (simp [*]; done), by repeat (first | exact Drawn0.refl _ | apply Drawn0.step)⟩

/-! ### laws_FnExactSidneyBlocks: function 3 -/
def laws_FnExactSidneyBlocks.f (k : Nat) (l0 : List (S52)) (l1 : List (S53)) : Option (Bool) := (laws_szJobS.f l0 1048576).bind fun t => if t < 0 then some true else (laws_szIntA2S.f l1 t).bind fun u => if u < 0 then some true else
  (laws_toJobS.f k l0).bind fun x => (laws_toIntA2S.f k l1).bind fun y => (spec_SidneyBlocks.f k x y).bind fun s => (impl_SidneyBlocks.f k x y).bind fun g => (laws_eqIntSS.f k g.1 s.1).bind fun e1 => (laws_eqJobS.f k x x).bind fun e2 => (laws_eqIntA2S.f k y y).bind fun e3 => (laws_markJobS.f k x 1).bind fun m1 => (laws_markIntA2S.f k y m1.1).bind fun m3 => (laws_markIntSS.f k g.1 1).bind fun m2 => (laws_heldIntSS.f k m2.2 1).bind fun q =>
  if e1 = true ∧ g.2 = s.2 ∧ e2 = true ∧ e3 = true ∧ ¬ m3.1 < 0 ∧ ¬ q < 0 ∧ q = m2.1 then some true else none
theorem laws_FnExactSidneyBlocks.mono : ∀ a0 a1 k, LeO (laws_FnExactSidneyBlocks.f k a0 a1) (laws_FnExactSidneyBlocks.f (k + 1) a0 a1) := fun a0 a1 k =>
  LeO.bind (LeO.refl _) (fun _ => LeO.ite (LeO.refl _) (LeO.bind (LeO.refl _) (fun _ => LeO.ite (LeO.refl _) (LeO.bind (laws_toJobS.mono a0 k) (fun _ => LeO.bind (laws_toIntA2S.mono a1 k) (fun _ => LeO.bind (spec_SidneyBlocks.mono _ _ k) (fun _ => LeO.bind (impl_SidneyBlocks.mono _ _ k) (fun _ => LeO.bind (laws_eqIntSS.mono _ _ k) (fun _ => LeO.bind (laws_eqJobS.mono _ _ k) (fun _ => LeO.bind (laws_eqIntA2S.mono _ _ k) (fun _ => LeO.bind (laws_markJobS.mono _ _ k) (fun _ => LeO.bind (laws_markIntA2S.mono _ _ k) (fun _ => LeO.bind (laws_markIntSS.mono _ _ k) (fun _ => LeO.bind (laws_heldIntSS.mono _ _ k) (fun _ => LeO.refl _)))))))))))))))
set_option maxHeartbeats 8000000 in
set_option maxRecDepth 100000 in
theorem laws_FnExactSidneyBlocks.calls (k : Nat) (A0 : Option Addr) (c0 : Nat) (l0 : List (S52)) (A1 : Option Addr) (c1 : Nat) (l1 : List (S53)) (r : Bool) (w : World) (hr0 : Kd.C k52 w A0 l0.length l0) (hc0 : l0.length ≤ c0) (hr1 : Kd.C k53 w A1 l1.length l1) (hc1 : l1.length ≤ c1) (h : laws_FnExactSidneyBlocks.f k l0 l1 = some r) :
  Calls Try.prog 3 #[.slice A0 l0.length c0, .slice A1 l1.length c1] w fun e w' => e = .returned (.bool r) ∧ Below w.heap.size w w' := by
 have HR0 := Aside0.mk hr0
 have HC0 := Aside0.mk hc0
 have HR1 := Aside0.mk hr1
 have HC1 := Aside0.mk hc1
 clear hr0 hc0 hr1 hc1
 have HB := Aside0.mk (Below.refl w.heap.size w)
 obtain ⟨t, hsz, h⟩ := Option.bind_eq_some_iff.mp h
 have HSZ := Aside0.mk hsz
 clear hsz
 by_cases c4 : t < 0
 · rw [if_pos c4] at h
   have c4b : decide (t < 0) = true := decide_eq_true c4
   obtain rfl := Option.some.inj h
   go_enter Try.func3, Try.ntmps3
   go_wp2_with (first | (go_at_call 6; (refine (laws_szJobS.calls A0 c0 l0 1048576 t _ HR0.out HC0.out HSZ.out).mono ?_); rintro e wz ⟨rfl, hd⟩; have hb : Below w.heap.size w wz := (by obtain ⟨n_, rfl⟩ := hd.out; exact pw_below_drewN (Below.refl _ _) n_); have q_ := Aside0.mk (below_step HB.out hb); clear HB; have HB := q_; clear q_; clear hd hb))
   go_ret
   exact ⟨rfl, HB.out⟩
 · rw [if_neg c4] at h
   have c4b : decide (t < 0) = false := decide_eq_false c4
   obtain ⟨u, hsz1, h⟩ := Option.bind_eq_some_iff.mp h
   have HSZ1 := Aside0.mk hsz1
   clear hsz1
   by_cases c5 : u < 0
   · rw [if_pos c5] at h
     have c5b : decide (u < 0) = true := decide_eq_true c5
     obtain rfl := Option.some.inj h
     go_enter Try.func3, Try.ntmps3
     go_wp2_with (first | (go_at_call 6; (refine (laws_szJobS.calls A0 c0 l0 1048576 t _ HR0.out HC0.out HSZ.out).mono ?_); rintro e wz ⟨rfl, hd⟩; have hb : Below w.heap.size w wz := (by obtain ⟨n_, rfl⟩ := hd.out; exact pw_below_drewN (Below.refl _ _) n_); have q_ := Aside0.mk (below_step HB.out hb); clear HB; have HB := q_; clear q_; clear hd hb) | (go_at_call 7; (refine (laws_szIntA2S.calls A1 c1 l1 t u _ (Kd.C_below HR1.out HB.out) HC1.out HSZ1.out).mono ?_); rintro e wz1 ⟨rfl, hd⟩; have hb : Below wz.heap.size wz wz1 := (by obtain ⟨n_, rfl⟩ := hd.out; exact pw_below_drewN (Below.refl _ _) n_); have q_ := Aside0.mk (below_step HB.out hb); clear HB; have HB := q_; clear q_; clear hd hb))
     go_ret
     exact ⟨rfl, HB.out⟩
   · rw [if_neg c5] at h
     have c5b : decide (u < 0) = false := decide_eq_false c5
     obtain ⟨x, hto, h⟩ := Option.bind_eq_some_iff.mp h
     obtain ⟨y, hto1, h⟩ := Option.bind_eq_some_iff.mp h
     obtain ⟨⟨s1, s2⟩, hsp, h⟩ := Option.bind_eq_some_iff.mp h
     obtain ⟨⟨g1, g2⟩, him, h⟩ := Option.bind_eq_some_iff.mp h
     obtain ⟨e1, he1, h⟩ := Option.bind_eq_some_iff.mp h
     obtain ⟨e2, he2, h⟩ := Option.bind_eq_some_iff.mp h
     obtain ⟨e3, he3, h⟩ := Option.bind_eq_some_iff.mp h
     obtain ⟨⟨m1, m2⟩, hmj, h⟩ := Option.bind_eq_some_iff.mp h
     obtain ⟨⟨m3, m4⟩, hma, h⟩ := Option.bind_eq_some_iff.mp h
     obtain ⟨⟨mm, gg⟩, hmi, h⟩ := Option.bind_eq_some_iff.mp h
     obtain ⟨q, hhe, h⟩ := Option.bind_eq_some_iff.mp h
     dsimp only at he1 hma hmi hhe h
     by_cases hc : e1 = true ∧ g2 = s2 ∧ e2 = true ∧ e3 = true ∧ ¬ m3 < 0 ∧ ¬ q < 0 ∧ q = mm
     case neg => rw [if_neg hc] at h; exact absurd h (by simp)
     rw [if_pos hc] at h
     obtain rfl := Option.some.inj h
     clear h
     obtain ⟨rfl, rfl, rfl, rfl, hm1, hq, rfl⟩ := hc
     have HTO := Aside0.mk hto
     have HTO1 := Aside0.mk hto1
     have HSP := Aside0.mk hsp
     have HIM := Aside0.mk him
     have HE1 := Aside0.mk he1
     have HE2 := Aside0.mk he2
     have HE3 := Aside0.mk he3
     have HMJ := Aside0.mk hmj
     have HMA := Aside0.mk hma
     have HMI := Aside0.mk hmi
     have HHE := Aside0.mk hhe
     have b1 : decide (m3 < 0) = false := decide_eq_false hm1
     have b2 : decide (q < 0) = false := decide_eq_false hq
     have b3 : (g2 != g2) = false := bne_self_eq_false _
     have b4 : (q != q) = false := bne_self_eq_false _
     clear hto hto1 hsp him he1 he2 he3 hmj hma hmi hhe hm1 hq c4 c5
     go_enter Try.func3, Try.ntmps3
     go_upto_region 9 with (first | (go_at_call 6; (refine (laws_szJobS.calls A0 c0 l0 1048576 t _ HR0.out HC0.out HSZ.out).mono ?_); rintro e wz ⟨rfl, hd⟩; have hb : Below w.heap.size w wz := (by obtain ⟨n_, rfl⟩ := hd.out; exact pw_below_drewN (Below.refl _ _) n_); have q_ := Aside0.mk (below_step HB.out hb); clear HB; have HB := q_; clear q_; clear hd hb) | (go_at_call 7; (refine (laws_szIntA2S.calls A1 c1 l1 t u _ (Kd.C_below HR1.out HB.out) HC1.out HSZ1.out).mono ?_); rintro e wz1 ⟨rfl, hd⟩; have hb : Below wz.heap.size wz wz1 := (by obtain ⟨n_, rfl⟩ := hd.out; exact pw_below_drewN (Below.refl _ _) n_); have q_ := Aside0.mk (below_step HB.out hb); clear HB; have HB := q_; clear q_; clear hd hb) | (go_at_call 9; (refine (laws_toJobS.calls k A0 c0 l0 x _ (Kd.C_below HR0.out HB.out) HC0.out HTO.out).mono ?_); rintro e w1 ⟨v1, rfl, hx, hb⟩; (obtain ⟨AP, cP, e1⟩ := Kd.R_slice hx); subst e1; have HP := Aside0.mk hx; have q_ := Aside0.mk (below_step HB.out hb); clear HB; have HB := q_; clear q_; clear hx hb) | (go_at_call 10; (refine (laws_toIntA2S.calls k A1 c1 l1 y _ (Kd.C_below HR1.out HB.out) HC1.out HTO1.out).mono ?_); rintro e w2 ⟨v2, rfl, hx, hb⟩; (obtain ⟨AQ, cQ, e1⟩ := Kd.R_slice hx); subst e1; have HQ := Aside0.mk (Kd.R_reads' hx); have q_ := Aside0.mk (Kd.R_below HP.out hb); clear HP; have HP := q_; clear q_; have q_ := Aside0.mk (below_step HB.out hb); clear HB; have HB := q_; clear q_; clear hx hb) | (go_at_call 8; (refine (spec_SidneyBlocks.calls k AP cP x AQ cQ y s1 g2 _ (Kd.R_reads' HP.out).2.2 (Kd.R_reads' HP.out).2.1 HQ.out.2.2 HQ.out.2.1 HSP.out).mono ?_); rintro e wa ⟨vs, rfl, hs, hb⟩; (obtain ⟨AS, cS, e1⟩ := Kd.S_slice hs); subst e1; have HSC := Aside0.mk (Kd.S_reads' hs); have q_ := Aside0.mk (below_step HB.out hb); clear HB; have HB := q_; clear q_; have HWA := Aside0.mk HB.out; clear hs hb HP HQ))
     go_upto_region 10 with (first | (go_at_call 9; (refine (laws_toJobS.calls k A0 c0 l0 x _ (Kd.C_below HR0.out HB.out) HC0.out HTO.out).mono ?_); rintro e wb ⟨vx, rfl, hx, hb⟩; (obtain ⟨AX, cX, e1⟩ := Kd.R_slice hx); subst e1; have HX := Aside0.mk (Kd.R_tight rfl hx); have HXL := Aside0.mk (Kd.R_lt hx); have HXC := Aside0.mk (Kd.R_reads' hx).2.1; have HA := Aside0.mk hb; have q_ := Aside0.mk (below_step HB.out hb); clear HB; have HB := q_; clear q_; clear hx hb))
     go_upto_region 11 with (first | (go_at_call 10; (refine (laws_toIntA2S.calls k A1 c1 l1 y _ (Kd.C_below HR1.out HB.out) HC1.out HTO1.out).mono ?_); rintro e wc ⟨vy, rfl, hx, hb⟩; (obtain ⟨AY, cY, e1⟩ := Kd.R_slice hx); subst e1; have HY := Aside0.mk (Kd.R_lower (Kd.R_tight rfl hx) HA.out.size); have HYL := Aside0.mk (Kd.R_lt hx); have HYB := Aside0.mk (Kd.R_base hx); have HYC := Aside0.mk (Kd.R_reads' hx).2.1; have HXY := Aside0.mk hb.size; have q_ := Aside0.mk (Kd.R_below HX.out hb); clear HX; have HX := q_; clear q_; have q_ := Aside0.mk (below_step HA.out hb); clear HA; have HA := q_; clear q_; have q_ := Aside0.mk (below_step HB.out hb); clear HB; have HB := q_; clear q_; clear hx hb))
     go_upto_region 12 with (first | (go_at_call 11; (refine (impl_SidneyBlocks.calls k AX cX x AY cY y g1 g2 _ (Kd.R_reads' HX.out).2.2 HXC.out (Kd.R_reads' HY.out).2.2 HYC.out HIM.out).mono ?_); rintro e wd ⟨vg, rfl, hg, hb⟩; (obtain ⟨AG, cG, e1⟩ := Kd.S_slice hg); subst e1; have HG := Aside0.mk (Kd.S_mono (ok' := fun q_ => wc.heap.size ≤ q_) (Kd.S_bound hg) (fun q_ hq_ => hq_.2.1)); have HGC := Aside0.mk (Kd.S_reads' hg).2.1; have HWB := Aside0.mk hb.size; have HNB := Aside0.mk HA.out.size; have q_ := Aside0.mk (Kd.R_below HX.out hb); clear HX; have HX := q_; clear q_; have q_ := Aside0.mk (Kd.R_below HY.out hb); clear HY; have HY := q_; clear q_; have q_ := Aside0.mk (below_step HA.out hb); clear HA; have HA := q_; clear q_; have q_ := Aside0.mk (below_step HWA.out HA.out); clear HB; have HB := q_; clear q_; clear hg hb))
     go_upto_region 14 with (first | (go_at_call 12; (refine (laws_eqIntSS.calls k AG cG g1 AS cS s1 true _ (Kd.S_reads' HG.out).2.2 HGC.out (Kd.C_below HSC.out.2.2 HA.out) HSC.out.2.1 HE1.out).mono ?_); rintro e we ⟨rfl, hd⟩; have hb : Below wd.heap.size wd we := (by obtain ⟨n_, rfl⟩ := hd.out; exact pw_below_drewN (Below.refl _ _) n_); have q_ := Aside0.mk (Kd.R_below HX.out hb); clear HX; have HX := q_; clear q_; have q_ := Aside0.mk (Kd.R_below HY.out hb); clear HY; have HY := q_; clear q_; have q_ := Aside0.mk (Kd.S_below HG.out hb); clear HG; have HG := q_; clear q_; have q_ := Aside0.mk (below_step HA.out hb); clear HA; have HA := q_; clear q_; have q_ := Aside0.mk (below_step HB.out hb); clear HB; have HB := q_; clear q_; have q_ := Aside0.mk (Nat.le_trans HWB.out hb.size); clear HWB; have HWB := q_; clear q_; clear hd hb))
     go_upto_region 16 with (first | (go_at_call 9; (refine (laws_toJobS.calls k A0 c0 l0 x _ (Kd.C_below HR0.out HB.out) HC0.out HTO.out).mono ?_); rintro e wf ⟨vf, rfl, hx, hb⟩; (obtain ⟨AZ, cZ, e1⟩ := Kd.R_slice hx); subst e1; have HZ := Aside0.mk (Kd.R_reads' hx); have q_ := Aside0.mk (Kd.R_below HX.out hb); clear HX; have HX := q_; clear q_; have q_ := Aside0.mk (Kd.R_below HY.out hb); clear HY; have HY := q_; clear q_; have q_ := Aside0.mk (Kd.S_below HG.out hb); clear HG; have HG := q_; clear q_; have q_ := Aside0.mk (below_step HA.out hb); clear HA; have HA := q_; clear q_; have q_ := Aside0.mk (below_step HB.out hb); clear HB; have HB := q_; clear q_; have q_ := Aside0.mk (Nat.le_trans HWB.out hb.size); clear HWB; have HWB := q_; clear q_; clear hx hb) | (go_at_call 13; (refine (laws_eqJobS.calls k AX cX x AZ cZ x true _ (Kd.R_reads' HX.out).2.2 HXC.out HZ.out.2.2 HZ.out.2.1 HE2.out).mono ?_); rintro e wg ⟨rfl, hb⟩; have q_ := Aside0.mk (Kd.R_below HX.out hb); clear HX; have HX := q_; clear q_; have q_ := Aside0.mk (Kd.R_below HY.out hb); clear HY; have HY := q_; clear q_; have q_ := Aside0.mk (Kd.S_below HG.out hb); clear HG; have HG := q_; clear q_; have q_ := Aside0.mk (below_step HA.out hb); clear HA; have HA := q_; clear q_; have q_ := Aside0.mk (below_step HB.out hb); clear HB; have HB := q_; clear q_; have q_ := Aside0.mk (Nat.le_trans HWB.out hb.size); clear HWB; have HWB := q_; clear q_; clear hb HZ))
     go_upto_region 18 with (first | (go_at_call 10; (refine (laws_toIntA2S.calls k A1 c1 l1 y _ (Kd.C_below HR1.out HB.out) HC1.out HTO1.out).mono ?_); rintro e wh ⟨vh, rfl, hx, hb⟩; (obtain ⟨AZ1, cZ1, e1⟩ := Kd.R_slice hx); subst e1; have HZ := Aside0.mk (Kd.R_reads' hx); have q_ := Aside0.mk (Kd.R_below HX.out hb); clear HX; have HX := q_; clear q_; have q_ := Aside0.mk (Kd.R_below HY.out hb); clear HY; have HY := q_; clear q_; have q_ := Aside0.mk (Kd.S_below HG.out hb); clear HG; have HG := q_; clear q_; have q_ := Aside0.mk (below_step HA.out hb); clear HA; have HA := q_; clear q_; have q_ := Aside0.mk (below_step HB.out hb); clear HB; have HB := q_; clear q_; have q_ := Aside0.mk (Nat.le_trans HWB.out hb.size); clear HWB; have HWB := q_; clear q_; clear hx hb) | (go_at_call 14; (refine (laws_eqIntA2S.calls k AY cY y AZ1 cZ1 y true _ (Kd.R_reads' HY.out).2.2 HYC.out HZ.out.2.2 HZ.out.2.1 HE3.out).mono ?_); rintro e wi ⟨rfl, hb⟩; have q_ := Aside0.mk (Kd.R_below HX.out hb); clear HX; have HX := q_; clear q_; have q_ := Aside0.mk (Kd.R_below HY.out hb); clear HY; have HY := q_; clear q_; have q_ := Aside0.mk (Kd.S_below HG.out hb); clear HG; have HG := q_; clear q_; have q_ := Aside0.mk (below_step HA.out hb); clear HA; have HA := q_; clear q_; have q_ := Aside0.mk (below_step HB.out hb); clear HB; have HB := q_; clear q_; have q_ := Aside0.mk (Nat.le_trans HWB.out hb.size); clear HWB; have HWB := q_; clear q_; clear hb HZ))
     go_upto_region 20 with (first | (go_at_call 15; (refine (laws_markJobS.calls k (fun q_ => some q_ = (Value.slice AX x.length cX).ownBlock) _ x 1 m1 m2 wa _ HA.out HX.out HMJ.out).mono ?_); rintro e wj ⟨rfl, ho, hb, hk⟩; have q_ := Aside0.mk (Kd.S_step HG.out (fun q_ hq_ hlt => hk.2 q_ hlt (fun e_ => Nat.not_le.2 (Nat.lt_of_lt_of_le (HXL.out q_ e_.symm) HXY.out) hq_))); clear HG; have HG := q_; clear q_; have q_ := Aside0.mk (Kd.R_step HY.out (fun q_ hq_ hlt => hk.2 q_ hlt (fun e_ => Nat.not_le.2 (HXL.out q_ e_.symm) (HYB.out q_ hq_.symm)))); clear HY; have HY := q_; clear q_; clear HA HB HX; have HA := Aside0.mk hb; have HB := Aside0.mk (below_step HWA.out hb); have q_ := Aside0.mk (Nat.le_trans HWB.out hk.1); clear HWB; have HWB := q_; clear q_; clear ho hb hk))
     go_upto_region 21 with (first | (go_at_call 16; (refine (laws_markIntA2S.calls k (fun q_ => some q_ = (Value.slice AY y.length cY).ownBlock) _ y m1 m3 m4 wa _ HA.out HY.out HMA.out).mono ?_); rintro e wk ⟨rfl, ho, hb, hk⟩; have q_ := Aside0.mk (Kd.S_step HG.out (fun q_ hq_ hlt => hk.2 q_ hlt (fun e_ => Nat.not_le.2 (HYL.out q_ e_.symm) hq_))); clear HG; have HG := q_; clear q_; clear HA HB HY; have HA := Aside0.mk hb; have HB := Aside0.mk (below_step HWA.out hb); have q_ := Aside0.mk (Nat.le_trans HWB.out hk.1); clear HWB; have HWB := q_; clear q_; clear ho hb hk))
     go_upto_region 23 with (first | (go_at_call 12; (refine (laws_eqIntSS.calls k AG cG g1 AS cS s1 true _ (Kd.S_reads' HG.out).2.2 HGC.out (Kd.C_below HSC.out.2.2 HA.out) HSC.out.2.1 HE1.out).mono ?_); rintro e wl ⟨rfl, hd⟩; have hb : Below wk.heap.size wk wl := (by obtain ⟨n_, rfl⟩ := hd.out; exact pw_below_drewN (Below.refl _ _) n_); have q_ := Aside0.mk (Kd.S_below HG.out hb); clear HG; have HG := q_; clear q_; have q_ := Aside0.mk (below_step HA.out hb); clear HA; have HA := q_; clear q_; have q_ := Aside0.mk (below_step HB.out hb); clear HB; have HB := q_; clear q_; have q_ := Aside0.mk (Nat.le_trans HWB.out hb.size); clear HWB; have HWB := q_; clear q_; clear hd hb))
     go_upto_region 25 with (first | (go_at_call 17; (refine (laws_markIntSS.calls k (fun q_ => wc.heap.size ≤ q_) _ g1 1 q gg wa _ HA.out (fun q_ hq_ => Nat.le_trans HWB.out hq_) (Kd.S_lower HG.out HNB.out) HMI.out).mono ?_); rintro e wm ⟨rfl, hs, hb, hk⟩; clear HG HA HB; have HG := Aside0.mk hs; have HGL := Aside0.mk (Kd.S_reads' hs).1; have HA := Aside0.mk hb; have HB := Aside0.mk (below_step HWA.out hb); clear hs hb hk))
     go_upto_region 31 with (first | (go_at_call 18; have hc_ := laws_heldIntSS.calls k AG cG gg 1 q _ (Kd.S_reads' HG.out).2.2 (by rw [← HGL.out]; exact HGC.out) HHE.out; rw [← HGL.out] at hc_; (refine hc_.mono ?_); clear hc_; rintro e wn ⟨rfl, hd⟩; have hb : Below wm.heap.size wm wn := (by obtain ⟨n_, rfl⟩ := hd.out; exact pw_below_drewN (Below.refl _ _) n_); have q_ := Aside0.mk (Kd.S_below HG.out hb); clear HG; have HG := q_; clear q_; have q_ := Aside0.mk (below_step HA.out hb); clear HA; have HA := q_; clear q_; have q_ := Aside0.mk (below_step HB.out hb); clear HB; have HB := q_; clear q_; clear hd hb))
     go_upto_region 32 with (first | (go_at_call 9; (refine (laws_toJobS.calls k A0 c0 l0 x _ (Kd.C_below HR0.out HB.out) HC0.out HTO.out).mono ?_); rintro e wo ⟨vo, rfl, hx, hb⟩; (obtain ⟨AU, cU, e1⟩ := Kd.R_slice hx); subst e1; have HU := Aside0.mk hx; have q_ := Aside0.mk (Kd.S_below HG.out hb); clear HG; have HG := q_; clear q_; have q_ := Aside0.mk (below_step HA.out hb); clear HA; have HA := q_; clear q_; have q_ := Aside0.mk (below_step HB.out hb); clear HB; have HB := q_; clear q_; clear hx hb) | (go_at_call 10; (refine (laws_toIntA2S.calls k A1 c1 l1 y _ (Kd.C_below HR1.out HB.out) HC1.out HTO1.out).mono ?_); rintro e wp ⟨vp, rfl, hx, hb⟩; (obtain ⟨AV, cV, e1⟩ := Kd.R_slice hx); subst e1; have HV := Aside0.mk (Kd.R_reads' hx); have q_ := Aside0.mk (Kd.R_below HU.out hb); clear HU; have HU := q_; clear q_; have q_ := Aside0.mk (Kd.S_below HG.out hb); clear HG; have HG := q_; clear q_; have q_ := Aside0.mk (below_step HA.out hb); clear HA; have HA := q_; clear q_; have q_ := Aside0.mk (below_step HB.out hb); clear HB; have HB := q_; clear q_; clear hx hb) | (go_at_call 11; (refine (impl_SidneyBlocks.calls k AU cU x AV cV y g1 g2 _ (Kd.R_reads' HU.out).2.2 (Kd.R_reads' HU.out).2.1 HV.out.2.2 HV.out.2.1 HIM.out).mono ?_); rintro e wq ⟨vh, rfl, hh, hb⟩; (obtain ⟨AH, cH, e1⟩ := Kd.S_slice hh); subst e1; have HH := Aside0.mk (Kd.S_reads' hh); have q_ := Aside0.mk (Kd.S_below HG.out hb); clear HG; have HG := q_; clear q_; have q_ := Aside0.mk (below_step HA.out hb); clear HA; have HA := q_; clear q_; have q_ := Aside0.mk (below_step HB.out hb); clear HB; have HB := q_; clear q_; clear hh hb HU HV))
     go_upto_region 34 with (first | (go_at_call 12; (refine (laws_eqIntSS.calls k AH cH g1 AS cS s1 true _ HH.out.2.2 HH.out.2.1 (Kd.C_below HSC.out.2.2 HA.out) HSC.out.2.1 HE1.out).mono ?_); rintro e wr ⟨rfl, hd⟩; have hb : Below wq.heap.size wq wr := (by obtain ⟨n_, rfl⟩ := hd.out; exact pw_below_drewN (Below.refl _ _) n_); have q_ := Aside0.mk (Kd.S_below HG.out hb); clear HG; have HG := q_; clear q_; have q_ := Aside0.mk (below_step HA.out hb); clear HA; have HA := q_; clear q_; have q_ := Aside0.mk (below_step HB.out hb); clear HB; have HB := q_; clear q_; clear hd hb HH))
     go_wp2_with (first | (go_at_call 18; have hc_ := laws_heldIntSS.calls k AG cG gg 1 q _ (Kd.S_reads' HG.out).2.2 (by rw [← HGL.out]; exact HGC.out) HHE.out; rw [← HGL.out] at hc_; (refine hc_.mono ?_); clear hc_; rintro e ws ⟨rfl, hd⟩; have hb : Below wr.heap.size wr ws := (by obtain ⟨n_, rfl⟩ := hd.out; exact pw_below_drewN (Below.refl _ _) n_); have q_ := Aside0.mk (below_step HA.out hb); clear HA; have HA := q_; clear q_; clear hd hb))
     go_ret
     exact ⟨rfl, below_step HWA.out HA.out⟩

end Go.Proofs.Ytlhppclbokkfmaa.OFnExactSidneyBlocks
