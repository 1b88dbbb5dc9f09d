/- Functions of the program as plain Lean functions, with their contracts: written by this session's program ownprint.py. Conditions: none. -/
import Derived.Test.YtlhppclbokkfmaaOFnExactBestExtensionx0
import Derived.Test.YtlhppclbokkfmaaOFnExactBestExtensionx1
import Derived.Test.YtlhppclbokkfmaaOFnExactBestExtensionx3
import Derived.Test.YtlhppclbokkfmaaOFnExactBestExtensionx4
namespace Go.Proofs.Ytlhppclbokkfmaa.OFnExactBestExtension
open Go.RowKit Go.Proofs.YtlhppclbokkfmaaW.PrintWords Go.Proofs.YtlhppclbokkfmaaW.PrintLast Go.Proofs.YtlhppclbokkfmaaW.PrintMore
attribute [local go_sem] max2_int min2_int max_two min_two max_three min_three max_four min_four   -- for this text's walks alone
set_option linter.unusedVariables false
set_option linter.unusedSimpArgs false

/-! ### laws_FnExactBestExtension: function 5 -/
def laws_FnExactBestExtension.f (k : Nat) (l0 : List (S52)) (l1 : List (S53)) (a2 : Int) : Option (Bool) := (laws_szJobS.f l0 1048576).bind fun t0 => if t0 < 0 then some true else (laws_szIntA2S.f l1 t0).bind fun t1 => if t1 < 0 then some true else
  (laws_toJobS.f k l0).bind fun x => (laws_toIntA2S.f k l1).bind fun y => (spec_BestExtension.f k x y a2).bind fun s => (impl_BestExtension.f k x y a2).bind fun g => (laws_eqIntS.f k g.1 s.1).bind fun e1 => (laws_eqJobS.f k x x).bind fun e2 => (laws_eqIntA2S.f k y y).bind fun e3 => (laws_markJobS.f k x 1).bind fun m => (laws_markIntA2S.f k y m.1).bind fun n => (laws_markIntS.f k g.1 1).bind fun p => (laws_heldIntS.f k p.2 1).bind fun q =>
  if e1 = true ∧ g.2 = s.2 ∧ e2 = true ∧ e3 = true ∧ ¬ n.1 < 0 ∧ ¬ q < 0 ∧ q = p.1 then some true else none
theorem laws_FnExactBestExtension.mono : ∀ a0 a1 a2 k, LeO (laws_FnExactBestExtension.f k a0 a1 a2) (laws_FnExactBestExtension.f (k + 1) a0 a1 a2) := fun a0 a1 a2 k =>
  LeO.bind (LeO.refl _) (fun _ => LeO.ite (LeO.refl _) (LeO.bind (LeO.refl _) (fun _ => LeO.ite (LeO.refl _) (LeO.bind (laws_toJobS.mono a0 k) (fun _ => LeO.bind (laws_toIntA2S.mono a1 k) (fun _ => LeO.bind (spec_BestExtension.mono _ _ _ k) (fun _ => LeO.bind (impl_BestExtension.mono _ _ _ k) (fun _ => LeO.bind (laws_eqIntS.mono _ _ k) (fun _ => LeO.bind (laws_eqJobS.mono _ _ k) (fun _ => LeO.bind (laws_eqIntA2S.mono _ _ k) (fun _ => LeO.bind (laws_markJobS.mono _ _ k) (fun _ => LeO.bind (laws_markIntA2S.mono _ _ k) (fun _ => LeO.bind (laws_markIntS.mono _ _ k) (fun _ => LeO.bind (laws_heldIntS.mono _ _ k) (fun _ => LeO.refl _)))))))))))))))
set_option maxHeartbeats 8000000 in
set_option maxRecDepth 100000 in
theorem laws_FnExactBestExtension.calls (k : Nat) (A0 : Option Addr) (c0 : Nat) (l0 : List (S52)) (A1 : Option Addr) (c1 : Nat) (l1 : List (S53)) (a2 : Int) (r : Bool) (w : World) (hr0 : Kd.C k52 w A0 l0.length l0) (hc0 : l0.length ≤ c0) (hr1 : Kd.C k53 w A1 l1.length l1) (hc1 : l1.length ≤ c1) (h : laws_FnExactBestExtension.f k l0 l1 a2 = some r) :
  Calls Try.prog 5 #[.slice A0 l0.length c0, .slice A1 l1.length c1, .int .i64 a2] w fun e w' => e = .returned (.bool r) ∧ Below w.heap.size w w' := by
 have HR0 := aM hr0
 have HC0 := aM hc0
 have HR1 := aM hr1
 have HC1 := aM hc1
 clear hr0 hc0 hr1 hc1
 have HB := aM (Below.refl w.heap.size w)
 obtain ⟨t0, hz0, h⟩ := oB h
 have HZ0 := aM hz0
 clear hz0
 by_cases c4 : t0 < 0
 · rw [if_pos c4] at h
   have c4b : decide (t0 < 0) = true := decide_eq_true c4
   obtain rfl := Option.some.inj h
   go_enter Try.func5, Try.ntmps5
   go_wp2_with (first | (go_at_call 6; (refine (laws_szJobS.calls A0 c0 l0 1048576 t0 _ HR0.out HC0.out HZ0.out).mono ?_); rintro e wz ⟨rfl, hd⟩; have hb : Below w.heap.size w wz := (by obtain ⟨n_, rfl⟩ := hd.out; exact pw_below_drewN (Below.refl _ _) n_); replace HB := aM (below_step HB.out hb); clear hd hb))
   go_ret
   exact ⟨rfl, HB.out⟩
 rw [if_neg c4] at h
 have c4b : decide (t0 < 0) = false := decide_eq_false c4
 clear c4
 obtain ⟨t1, hz1, h⟩ := oB h
 have HZ1 := aM hz1
 clear hz1
 by_cases c5 : t1 < 0
 · rw [if_pos c5] at h
   have c5b : decide (t1 < 0) = true := decide_eq_true c5
   obtain rfl := Option.some.inj h
   go_enter Try.func5, Try.ntmps5
   go_wp2_with (first | (go_at_call 6; (refine (laws_szJobS.calls A0 c0 l0 1048576 t0 _ HR0.out HC0.out HZ0.out).mono ?_); rintro e wz ⟨rfl, hd⟩; have hb : Below w.heap.size w wz := (by obtain ⟨n_, rfl⟩ := hd.out; exact pw_below_drewN (Below.refl _ _) n_); replace HB := aM (below_step HB.out hb); clear hd hb) | (go_at_call 7; (refine (laws_szIntA2S.calls A1 c1 l1 t0 t1 _ (Kd.C_below HR1.out HB.out) HC1.out HZ1.out).mono ?_); rintro e wy ⟨rfl, hd⟩; have hb : Below wz.heap.size wz wy := (by obtain ⟨n_, rfl⟩ := hd.out; exact pw_below_drewN (Below.refl _ _) n_); replace HB := aM (below_step HB.out hb); clear hd hb))
   go_ret
   exact ⟨rfl, HB.out⟩
 rw [if_neg c5] at h
 have c5b : decide (t1 < 0) = false := decide_eq_false c5
 clear c5
 obtain ⟨x, htj, h⟩ := oB h
 obtain ⟨y, hte, h⟩ := oB h
 obtain ⟨⟨s1, s2⟩, hsp, h⟩ := oB h
 obtain ⟨⟨g1, g2⟩, him, h⟩ := oB h
 obtain ⟨e1, he1, h⟩ := oB h
 obtain ⟨e2, he2, h⟩ := oB h
 obtain ⟨e3, he3, h⟩ := oB h
 obtain ⟨⟨m1, m2⟩, hm1, h⟩ := oB h
 obtain ⟨⟨n1, n2⟩, hm2, h⟩ := oB h
 obtain ⟨⟨mm, gg⟩, hm3, h⟩ := oB h
 obtain ⟨q, hhe, h⟩ := oB h
 dsimp only at he1 hm2 hm3 hhe h
 by_cases hc : e1 = true ∧ g2 = s2 ∧ e2 = true ∧ e3 = true ∧ ¬ n1 < 0 ∧ ¬ q < 0 ∧ q = mm
 case neg => rw [if_neg hc] at h; exact absurd h (by simp)
 rw [if_pos hc] at h
 obtain rfl := Option.some.inj h
 clear h
 obtain ⟨rfl, rfl, rfl, rfl, hn1, hq, rfl⟩ := hc
 have HTJ := aM htj
 have HTE := aM hte
 have HSP := aM hsp
 have HIM := aM him
 have HE1 := aM he1
 have HE2 := aM he2
 have HE3 := aM he3
 have HM1 := aM hm1
 have HM2 := aM hm2
 have HM3 := aM hm3
 have HHE := aM hhe
 have b1 : decide (n1 < 0) = false := decide_eq_false hn1
 have b2 : decide (q < 0) = false := decide_eq_false hq
 have b3 : (g2 != g2) = false := bne_self_eq_false _
 have b4 : (q != q) = false := bne_self_eq_false _
 clear htj hte hsp him he1 he2 he3 hm1 hm2 hm3 hhe hn1 hq
 go_enter Try.func5, Try.ntmps5
 go_upto_region 9 with (first | (go_at_call 6; (refine (laws_szJobS.calls A0 c0 l0 1048576 t0 _ HR0.out HC0.out HZ0.out).mono ?_); rintro e wz ⟨rfl, hd⟩; have hb : Below w.heap.size w wz := (by obtain ⟨n_, rfl⟩ := hd.out; exact pw_below_drewN (Below.refl _ _) n_); replace HB := aM (below_step HB.out hb); clear hd hb) | (go_at_call 7; (refine (laws_szIntA2S.calls A1 c1 l1 t0 t1 _ (Kd.C_below HR1.out HB.out) HC1.out HZ1.out).mono ?_); rintro e wy ⟨rfl, hd⟩; have hb : Below wz.heap.size wz wy := (by obtain ⟨n_, rfl⟩ := hd.out; exact pw_below_drewN (Below.refl _ _) n_); replace HB := aM (below_step HB.out hb); clear hd hb) | (go_at_call 9; (refine (laws_toJobS.calls k A0 c0 l0 x _ (Kd.C_below HR0.out HB.out) HC0.out HTJ.out).mono ?_); rintro e w1 ⟨v1, rfl, hx, hb⟩; (obtain ⟨AP, cP, e1⟩ := Kd.R_slice hx); subst e1; have HP := aM hx; replace HB := aM (below_step HB.out hb); clear hx hb) | (go_at_call 10; (refine (laws_toIntA2S.calls k A1 c1 l1 y _ (Kd.C_below HR1.out HB.out) HC1.out HTE.out).mono ?_); rintro e w2 ⟨v2, rfl, hx, hb⟩; (obtain ⟨AQ, cQ, e1⟩ := Kd.R_slice hx); subst e1; have HQ := aM hx; replace HP := aM (Kd.R_below HP.out hb); replace HB := aM (below_step HB.out hb); clear hx hb) | (go_at_call 24; (refine (spec_BestExtension.calls k AP cP x AQ cQ y a2 s1 g2 _ (Kd.R_reads' HP.out).2.2 (Kd.R_reads' HP.out).2.1 (Kd.R_reads' HQ.out).2.2 (Kd.R_reads' HQ.out).2.1 HSP.out).mono ?_); rintro e wa ⟨vs, rfl, hs, hb⟩; (obtain ⟨AS, cS, e1⟩ := Kd.V_slice hs); subst e1; have HSC := aM (Kd.V_reads' hs); replace HB := aM (below_step HB.out hb); have HWA := aM HB.out; clear hs hb HP HQ))
 go_upto_region 10 with (first | (go_at_call 9; (refine (laws_toJobS.calls k A0 c0 l0 x _ (Kd.C_below HR0.out HB.out) HC0.out HTJ.out).mono ?_); rintro e wb ⟨vx, rfl, hx, hb⟩; (obtain ⟨AX, cX, e1⟩ := Kd.R_slice hx); subst e1; have HX := aM (Kd.R_tight rfl hx); have HXL := aM (Kd.R_lt hx); have HXC := aM (Kd.R_reads' hx).2.1; have HA := aM hb; replace HB := aM (below_step HB.out hb); clear hx hb))
 go_upto_region 11 with (first | (go_at_call 10; (refine (laws_toIntA2S.calls k A1 c1 l1 y _ (Kd.C_below HR1.out HB.out) HC1.out HTE.out).mono ?_); rintro e wc ⟨vy, rfl, hx, hb⟩; (obtain ⟨AY, cY, e1⟩ := Kd.R_slice hx); subst e1; have HY := aM (Kd.R_tight rfl hx); have HYL := aM (Kd.R_lt hx); have HYB := aM (Kd.R_base hx); have HYC := aM (Kd.R_reads' hx).2.1; have HNB := aM HA.out.size; have HBC := aM hb.size; replace HX := aM (Kd.R_below HX.out hb); replace HA := aM (below_step HA.out hb); replace HB := aM (below_step HB.out hb); clear hx hb))
 go_upto_region 12 with (first | (go_at_call 25; (refine (impl_BestExtension.calls k AX cX x AY cY y a2 g1 g2 _ (Kd.R_reads' HX.out).2.2 HXC.out (Kd.R_reads' HY.out).2.2 HYC.out HIM.out).mono ?_); rintro e wd ⟨vg, rfl, hg, hb⟩; (obtain ⟨AG, cG, e1⟩ := Kd.R_slice hg); subst e1; have HG := aM (Kd.R_mono (ok' := fun q_ => wc.heap.size ≤ q_) (Kd.R_bound hg) (fun q_ hq_ => hq_.2.1)); have HGC := aM (Kd.R_reads' hg).2.1; replace HX := aM (Kd.R_below HX.out hb); replace HY := aM (Kd.R_below HY.out hb); replace HA := aM (below_step HA.out hb); replace HB := aM (below_step HB.out hb); clear hg hb))
 go_upto_region 14 with (first | (go_at_call 21; (refine (laws_eqIntS.calls k AG cG g1 AS cS s1 true _ (Kd.R_reads' HG.out).2.2 HGC.out (Kd.C_below HSC.out.2.2 HA.out) HSC.out.2.1 HE1.out).mono ?_); rintro e we ⟨rfl, hd⟩; have hb : Below wd.heap.size wd we := (by obtain ⟨n_, rfl⟩ := hd.out; exact pw_below_drewN (Below.refl _ _) n_); replace HX := aM (Kd.R_below HX.out hb); replace HY := aM (Kd.R_below HY.out hb); replace HG := aM (Kd.R_below HG.out hb); replace HA := aM (below_step HA.out hb); replace HB := aM (below_step HB.out hb); clear hd hb))
 go_upto_region 16 with (first | (go_at_call 9; (refine (laws_toJobS.calls k A0 c0 l0 x _ (Kd.C_below HR0.out HB.out) HC0.out HTJ.out).mono ?_); rintro e w3 ⟨v3, rfl, hx, hb⟩; (obtain ⟨AU, cU, e1⟩ := Kd.R_slice hx); subst e1; have HU := aM hx; replace HX := aM (Kd.R_below HX.out hb); replace HY := aM (Kd.R_below HY.out hb); replace HG := aM (Kd.R_below HG.out hb); replace HA := aM (below_step HA.out hb); replace HB := aM (below_step HB.out hb); clear hx hb) | (go_at_call 13; (refine (laws_eqJobS.calls k AX cX x AU cU x true _ (Kd.R_reads' HX.out).2.2 HXC.out (Kd.R_reads' HU.out).2.2 (Kd.R_reads' HU.out).2.1 HE2.out).mono ?_); rintro e w4 ⟨rfl, hb⟩; replace HX := aM (Kd.R_below HX.out hb); replace HY := aM (Kd.R_below HY.out hb); replace HG := aM (Kd.R_below HG.out hb); replace HA := aM (below_step HA.out hb); replace HB := aM (below_step HB.out hb); clear hb HU))
 go_upto_region 18 with (first | (go_at_call 10; (refine (laws_toIntA2S.calls k A1 c1 l1 y _ (Kd.C_below HR1.out HB.out) HC1.out HTE.out).mono ?_); rintro e w5 ⟨v5, rfl, hx, hb⟩; (obtain ⟨AV, cV, e1⟩ := Kd.R_slice hx); subst e1; have HV := aM hx; replace HX := aM (Kd.R_below HX.out hb); replace HY := aM (Kd.R_below HY.out hb); replace HG := aM (Kd.R_below HG.out hb); replace HA := aM (below_step HA.out hb); replace HB := aM (below_step HB.out hb); clear hx hb) | (go_at_call 14; (refine (laws_eqIntA2S.calls k AY cY y AV cV y true _ (Kd.R_reads' HY.out).2.2 HYC.out (Kd.R_reads' HV.out).2.2 (Kd.R_reads' HV.out).2.1 HE3.out).mono ?_); rintro e w6 ⟨rfl, hb⟩; replace HX := aM (Kd.R_below HX.out hb); replace HY := aM (Kd.R_below HY.out hb); replace HG := aM (Kd.R_below HG.out hb); replace HA := aM (below_step HA.out hb); replace HB := aM (below_step HB.out hb); clear hb HV))
 go_upto_region 20 with (first | (go_at_call 15; (refine (laws_markJobS.calls k (fun q_ => some q_ = (Value.slice AX x.length cX).ownBlock) _ x 1 m1 m2 wa _ HA.out HX.out HM1.out).mono ?_); rintro e wf ⟨rfl, ho, hb, hk⟩; replace HG := aM (Kd.R_step HG.out (fun q_ hq_ hlt => hk.2 q_ hlt (fun e_ => Nat.not_le.2 (HXL.out q_ e_.symm) (Nat.le_trans HBC.out hq_)))); replace HY := aM (Kd.R_step HY.out (fun q_ hq_ hlt => hk.2 q_ hlt (fun e_ => Nat.not_le.2 (HXL.out q_ e_.symm) (HYB.out q_ hq_.symm)))); clear HA HB HX; have HA := aM hb; have HB := aM (below_step HWA.out hb); clear ho hb hk))
 go_upto_region 21 with (first | (go_at_call 16; (refine (laws_markIntA2S.calls k (fun q_ => some q_ = (Value.slice AY y.length cY).ownBlock) _ y m1 n1 n2 wa _ HA.out (Kd.R_lower HY.out HNB.out) HM2.out).mono ?_); rintro e wg ⟨rfl, ho, hb, hk⟩; replace HG := aM (Kd.R_step HG.out (fun q_ hq_ hlt => hk.2 q_ hlt (fun e_ => Nat.not_le.2 (HYL.out q_ e_.symm) hq_))); clear HA HB HY; have HA := aM hb; have HB := aM (below_step HWA.out hb); clear ho hb hk))
 go_upto_region 23 with (first | (go_at_call 21; (refine (laws_eqIntS.calls k AG cG g1 AS cS s1 true _ (Kd.R_reads' HG.out).2.2 HGC.out (Kd.C_below HSC.out.2.2 HA.out) HSC.out.2.1 HE1.out).mono ?_); rintro e wi ⟨rfl, hd⟩; have hb : Below wg.heap.size wg wi := (by obtain ⟨n_, rfl⟩ := hd.out; exact pw_below_drewN (Below.refl _ _) n_); replace HG := aM (Kd.R_below HG.out hb); replace HA := aM (below_step HA.out hb); replace HB := aM (below_step HB.out hb); clear hd hb))
 go_upto_region 25 with (first | (go_at_call 22; (refine (laws_markIntS.calls k (fun q_ => some q_ = (Value.slice AG g1.length cG).ownBlock) _ g1 1 q gg wa _ HA.out (Kd.R_lower (Kd.R_tight rfl HG.out) (Nat.le_trans HNB.out HBC.out)) HM3.out).mono ?_); rintro e wj ⟨rfl, hs, hb, hk⟩; clear HG HA HB; have HG := aM hs; have HGL := aM (Kd.R_reads' hs).1; have HA := aM hb; have HB := aM (below_step HWA.out hb); clear hs hb hk))
 go_upto_region 31 with (first | (go_at_call 23; have hc_ := laws_heldIntS.calls k AG cG gg 1 q _ (Kd.R_reads' HG.out).2.2 (by rw [← HGL.out]; exact HGC.out) HHE.out; rw [← HGL.out] at hc_; (refine hc_.mono ?_); clear hc_; rintro e wl ⟨rfl, hd⟩; have hb : Below wj.heap.size wj wl := (by obtain ⟨n_, rfl⟩ := hd.out; exact pw_below_drewN (Below.refl _ _) n_); replace HG := aM (Kd.R_below HG.out hb); replace HA := aM (below_step HA.out hb); replace HB := aM (below_step HB.out hb); clear hd hb))
 go_upto_region 32 with (first | (go_at_call 9; (refine (laws_toJobS.calls k A0 c0 l0 x _ (Kd.C_below HR0.out HB.out) HC0.out HTJ.out).mono ?_); rintro e w7 ⟨v7, rfl, hx, hb⟩; (obtain ⟨AM, cM, e1⟩ := Kd.R_slice hx); subst e1; have HMm := aM hx; replace HG := aM (Kd.R_below HG.out hb); replace HA := aM (below_step HA.out hb); replace HB := aM (below_step HB.out hb); clear hx hb) | (go_at_call 10; (refine (laws_toIntA2S.calls k A1 c1 l1 y _ (Kd.C_below HR1.out HB.out) HC1.out HTE.out).mono ?_); rintro e w8 ⟨v8, rfl, hx, hb⟩; (obtain ⟨AN, cN, e1⟩ := Kd.R_slice hx); subst e1; have HNn := aM hx; replace HG := aM (Kd.R_below HG.out hb); replace HMm := aM (Kd.R_below HMm.out hb); replace HA := aM (below_step HA.out hb); replace HB := aM (below_step HB.out hb); clear hx hb) | (go_at_call 25; (refine (impl_BestExtension.calls k AM cM x AN cN y a2 g1 g2 _ (Kd.R_reads' HMm.out).2.2 (Kd.R_reads' HMm.out).2.1 (Kd.R_reads' HNn.out).2.2 (Kd.R_reads' HNn.out).2.1 HIM.out).mono ?_); rintro e wn ⟨vh, rfl, hh, hb⟩; (obtain ⟨AH, cH, e1⟩ := Kd.R_slice hh); subst e1; have HH := aM (Kd.R_reads' hh); replace HG := aM (Kd.R_below HG.out hb); replace HA := aM (below_step HA.out hb); replace HB := aM (below_step HB.out hb); clear hh hb HMm HNn))
 go_upto_region 34 with (first | (go_at_call 21; (refine (laws_eqIntS.calls k AH cH g1 AS cS s1 true _ HH.out.2.2 HH.out.2.1 (Kd.C_below HSC.out.2.2 HA.out) HSC.out.2.1 HE1.out).mono ?_); rintro e wo ⟨rfl, hd⟩; have hb : Below wn.heap.size wn wo := (by obtain ⟨n_, rfl⟩ := hd.out; exact pw_below_drewN (Below.refl _ _) n_); replace HG := aM (Kd.R_below HG.out hb); replace HA := aM (below_step HA.out hb); replace HB := aM (below_step HB.out hb); clear hd hb HH))
 go_wp2_with (first | (go_at_call 23; have hc_ := laws_heldIntS.calls k AG cG gg 1 q _ (Kd.R_reads' HG.out).2.2 (by rw [← HGL.out]; exact HGC.out) HHE.out; rw [← HGL.out] at hc_; (refine hc_.mono ?_); clear hc_; rintro e wp ⟨rfl, hd⟩; have hb : Below wo.heap.size wo wp := (by obtain ⟨n_, rfl⟩ := hd.out; exact pw_below_drewN (Below.refl _ _) n_); replace HA := aM (below_step HA.out hb); replace HB := aM (below_step HB.out hb); clear hd hb))
 go_ret
 exact ⟨rfl, below_step HWA.out HA.out⟩

end Go.Proofs.Ytlhppclbokkfmaa.OFnExactBestExtension
