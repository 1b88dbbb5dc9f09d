/- Functions of the program as plain Lean functions, with their contracts: written by this session's program ownprint.py. Conditions: none. -/
import Derived.Test.YthhmembnhnghiaaOFnExactTieGroupsx0
import Derived.Test.YthhmembnhnghiaaOFnExactTieGroupsx1
import Derived.Test.YthhmembnhnghiaaOFnExactTieGroupsx5
import Derived.Test.YthhmembnhnghiaaOFnExactTieGroupsx7
import Derived.Test.YthhmembnhnghiaaOFnExactTieGroupsx8
namespace Go.Proofs.Ythhmembnhnghiaa.OFnExactTieGroups
open Go.RowKit Go.Proofs.YthhmembnhnghiaaW.PrintWords Go.Proofs.YthhmembnhnghiaaW.PrintLast Go.Proofs.YthhmembnhnghiaaW.PrintMore
attribute [local go_sem] max2_int min2_int max_two min_two max_three min_three max_four min_four   -- for this text's walks alone
set_option linter.unusedVariables false
set_option linter.unusedSimpArgs false

/-! ### laws_FnExactTieGroups: function 4 -/
def laws_FnExactTieGroups.f (k : Nat) (l0 : List (S63)) (a1 : Int) : Option (Bool) := (laws_szJobS.f l0 1048576).bind fun t => if t < 0 then some true else
  (laws_toJobS.f k l0).bind fun x => (spec_TieGroups.f k x a1).bind fun s => (impl_TieGroups.f k x a1).bind fun g => (laws_eqIntSS.f k g.1 s.1).bind fun e1 => (laws_eqJobS.f k x x).bind fun e2 => (laws_markJobS.f k x 1).bind fun m1 => (laws_markIntSS.f k g.1 1).bind fun m2 => (laws_heldIntSS.f k m2.2 1).bind fun q =>
  if e1 = true ∧ g.2 = s.2 ∧ e2 = true ∧ ¬ m1.1 < 0 ∧ ¬ q < 0 ∧ q = m2.1 then some true else none
theorem laws_FnExactTieGroups.mono : ∀ a0 a1 k, LeO (laws_FnExactTieGroups.f k a0 a1) (laws_FnExactTieGroups.f (k + 1) a0 a1) := fun a0 a1 k =>
  LeO.bind (LeO.refl _) (fun _ => LeO.ite (LeO.refl _) (LeO.bind (laws_toJobS.mono a0 k) (fun _ => LeO.bind (spec_TieGroups.mono _ _ k) (fun _ => LeO.bind (impl_TieGroups.mono _ _ k) (fun _ => LeO.bind (laws_eqIntSS.mono _ _ k) (fun _ => LeO.bind (laws_eqJobS.mono _ _ k) (fun _ => LeO.bind (laws_markJobS.mono _ _ k) (fun _ => LeO.bind (laws_markIntSS.mono _ _ k) (fun _ => LeO.bind (laws_heldIntSS.mono _ _ k) (fun _ => LeO.refl _))))))))))
set_option maxHeartbeats 8000000 in
set_option maxRecDepth 100000 in
theorem laws_FnExactTieGroups.calls (k : Nat) (A0 : Option Addr) (c0 : Nat) (l0 : List (S63)) (a1 : Int) (r : Bool) (w : World) (hr0 : Kd.C k63 w A0 l0.length l0) (hc0 : l0.length ≤ c0) (h : laws_FnExactTieGroups.f k l0 a1 = some r) :
  Calls Try.prog 4 #[.slice A0 l0.length c0, .int .i64 a1] w fun e w' => e = .returned (.bool r) ∧ Below w.heap.size w w' := by
 have HR0 := Aside0.mk hr0
 have HC0 := Aside0.mk hc0
 clear hr0 hc0
 have HB := Aside0.mk (Below.refl w.heap.size w)
 obtain ⟨t, hsz, h⟩ := Option.bind_eq_some_iff.mp h
 have HSZ := Aside0.mk hsz
 clear hsz
 by_cases c4 : t < 0
 · rw [if_pos c4] at h
   have c4b : decide (t < 0) = true := decide_eq_true c4
   obtain rfl := Option.some.inj h
   go_enter Try.func4, Try.ntmps4
   go_wp2_with (first | (go_at_call 15; (refine (laws_szJobS.calls A0 c0 l0 1048576 t _ HR0.out HC0.out HSZ.out).mono ?_); rintro e wz ⟨rfl, hd⟩; have hb : Below w.heap.size w wz := (by obtain ⟨n_, rfl⟩ := hd.out; exact pw_below_drewN (Below.refl _ _) n_); have q_ := Aside0.mk (below_step HB.out hb); clear HB; have HB := q_; clear q_; clear hd hb))
   go_ret
   exact ⟨rfl, HB.out⟩
 · rw [if_neg c4] at h
   have c4b : decide (t < 0) = false := decide_eq_false c4
   obtain ⟨x, hto, h⟩ := Option.bind_eq_some_iff.mp h
   obtain ⟨⟨s1, s2⟩, hsp, h⟩ := Option.bind_eq_some_iff.mp h
   obtain ⟨⟨g1, g2⟩, him, h⟩ := Option.bind_eq_some_iff.mp h
   obtain ⟨e1, he1, h⟩ := Option.bind_eq_some_iff.mp h
   obtain ⟨e2, he2, h⟩ := Option.bind_eq_some_iff.mp h
   obtain ⟨⟨m1, m2⟩, hmj, h⟩ := Option.bind_eq_some_iff.mp h
   obtain ⟨⟨mm, gg⟩, hmi, h⟩ := Option.bind_eq_some_iff.mp h
   obtain ⟨q, hhe, h⟩ := Option.bind_eq_some_iff.mp h
   dsimp only at he1 hmi hhe h
   by_cases hc : e1 = true ∧ g2 = s2 ∧ e2 = true ∧ ¬ m1 < 0 ∧ ¬ q < 0 ∧ q = mm
   case neg => rw [if_neg hc] at h; exact absurd h (by simp)
   rw [if_pos hc] at h
   obtain rfl := Option.some.inj h
   clear h
   obtain ⟨rfl, rfl, rfl, hm1, hq, rfl⟩ := hc
   have HTO := Aside0.mk hto
   have HSP := Aside0.mk hsp
   have HIM := Aside0.mk him
   have HE1 := Aside0.mk he1
   have HE2 := Aside0.mk he2
   have HMJ := Aside0.mk hmj
   have HMI := Aside0.mk hmi
   have HHE := Aside0.mk hhe
   have b1 : decide (m1 < 0) = false := decide_eq_false hm1
   have b2 : decide (q < 0) = false := decide_eq_false hq
   have b3 : (g2 != g2) = false := bne_self_eq_false _
   have b4 : (q != q) = false := bne_self_eq_false _
   clear hto hsp him he1 he2 hmj hmi hhe hm1 hq c4
   go_enter Try.func4, Try.ntmps4
   go_upto_region 6 with (first | (go_at_call 15; (refine (laws_szJobS.calls A0 c0 l0 1048576 t _ HR0.out HC0.out HSZ.out).mono ?_); rintro e wz ⟨rfl, hd⟩; have hb : Below w.heap.size w wz := (by obtain ⟨n_, rfl⟩ := hd.out; exact pw_below_drewN (Below.refl _ _) n_); have q_ := Aside0.mk (below_step HB.out hb); clear HB; have HB := q_; clear q_; clear hd hb) | (go_at_call 17; (refine (laws_toJobS.calls k A0 c0 l0 x _ (Kd.C_below HR0.out HB.out) HC0.out HTO.out).mono ?_); rintro e w1 ⟨v1, rfl, hx, hb⟩; (obtain ⟨A1, c1, e1⟩ := Kd.R_slice hx); subst e1; have HX := Aside0.mk (Kd.R_reads' hx); have q_ := Aside0.mk (below_step HB.out hb); clear HB; have HB := q_; clear q_; clear hx hb) | (go_at_call 20; (refine (spec_TieGroups.calls k A1 c1 x a1 s1 g2 _ HX.out.2.2 HX.out.2.1 HSP.out).mono ?_); rintro e wa ⟨vs, rfl, hs, hb⟩; (obtain ⟨AS, cS, e1⟩ := Kd.S_slice hs); subst e1; have HSC := Aside0.mk (Kd.S_reads' hs); have q_ := Aside0.mk (below_step HB.out hb); clear HB; have HB := q_; clear q_; have HWA := Aside0.mk HB.out; clear hs hb HX))
   go_upto_region 7 with (first | (go_at_call 17; (refine (laws_toJobS.calls k A0 c0 l0 x _ (Kd.C_below HR0.out HB.out) HC0.out HTO.out).mono ?_); rintro e wb ⟨vx, rfl, hx, hb⟩; (obtain ⟨AX, cX, e1⟩ := Kd.R_slice hx); subst e1; have HX := Aside0.mk (Kd.R_tight rfl hx); have HXL := Aside0.mk (Kd.R_lt hx); have HXC := Aside0.mk (Kd.R_reads' hx).2.1; have HA := Aside0.mk hb; have q_ := Aside0.mk (below_step HB.out hb); clear HB; have HB := q_; clear q_; clear hx hb))
   go_upto_region 8 with (first | (go_at_call 21; (refine (impl_TieGroups.calls k AX cX x a1 g1 g2 _ (Kd.R_reads' HX.out).2.2 HXC.out HIM.out).mono ?_); rintro e wc ⟨vg, rfl, hg, hb⟩; (obtain ⟨AG, cG, e1⟩ := Kd.S_slice hg); subst e1; have HG := Aside0.mk (Kd.S_mono (ok' := fun q_ => wb.heap.size ≤ q_) (Kd.S_bound hg) (fun q_ hq_ => hq_.2.1)); have HGC := Aside0.mk (Kd.S_reads' hg).2.1; have HBC_ := Aside0.mk hb; have HNB := Aside0.mk HA.out.size; have q_ := Aside0.mk (Kd.R_below HX.out hb); clear HX; have HX := q_; clear q_; have q_ := Aside0.mk (below_step HA.out hb); clear HA; have HA := q_; clear q_; have q_ := Aside0.mk (below_step HWA.out HA.out); clear HB; have HB := q_; clear q_; clear hg hb; have HWB := Aside0.mk (show wb.heap.size ≤ wc.heap.size from HBC_.out.size); clear HBC_))
   go_upto_region 10 with (first | (go_at_call 22; (refine (laws_eqIntSS.calls k AG cG g1 AS cS s1 true _ (Kd.S_reads' HG.out).2.2 HGC.out (Kd.C_below HSC.out.2.2 HA.out) HSC.out.2.1 HE1.out).mono ?_); rintro e wd ⟨rfl, hd⟩; have hb : Below wc.heap.size wc wd := (by obtain ⟨n_, rfl⟩ := hd.out; exact pw_below_drewN (Below.refl _ _) n_); have q_ := Aside0.mk (Kd.R_below HX.out hb); clear HX; have HX := q_; clear q_; have q_ := Aside0.mk (Kd.S_below HG.out hb); clear HG; have HG := q_; clear q_; have q_ := Aside0.mk (below_step HA.out hb); clear HA; have HA := q_; clear q_; have q_ := Aside0.mk (below_step HB.out hb); clear HB; have HB := q_; clear q_; have q_ := Aside0.mk (Nat.le_trans HWB.out hb.size); clear HWB; have HWB := q_; clear q_; clear hd hb))
   go_upto_region 12 with (first | (go_at_call 17; (refine (laws_toJobS.calls k A0 c0 l0 x _ (Kd.C_below HR0.out HB.out) HC0.out HTO.out).mono ?_); rintro e we ⟨vy, rfl, hy, hb⟩; (obtain ⟨AY, cY, e1⟩ := Kd.R_slice hy); subst e1; have HY := Aside0.mk (Kd.R_reads' hy); have q_ := Aside0.mk (Kd.R_below HX.out hb); clear HX; have HX := q_; clear q_; have q_ := Aside0.mk (Kd.S_below HG.out hb); clear HG; have HG := q_; clear q_; have q_ := Aside0.mk (below_step HA.out hb); clear HA; have HA := q_; clear q_; have q_ := Aside0.mk (below_step HB.out hb); clear HB; have HB := q_; clear q_; have q_ := Aside0.mk (Nat.le_trans HWB.out hb.size); clear HWB; have HWB := q_; clear q_; clear hy hb) | (go_at_call 19; (refine (laws_eqJobS.calls k AX cX x AY cY x true _ (Kd.R_reads' HX.out).2.2 HXC.out HY.out.2.2 HY.out.2.1 HE2.out).mono ?_); rintro e wf ⟨rfl, hb⟩; have q_ := Aside0.mk (Kd.R_below HX.out hb); clear HX; have HX := q_; clear q_; have q_ := Aside0.mk (Kd.S_below HG.out hb); clear HG; have HG := q_; clear q_; have q_ := Aside0.mk (below_step HA.out hb); clear HA; have HA := q_; clear q_; have q_ := Aside0.mk (below_step HB.out hb); clear HB; have HB := q_; clear q_; have q_ := Aside0.mk (Nat.le_trans HWB.out hb.size); clear HWB; have HWB := q_; clear q_; clear hb HY))
   go_upto_region 14 with (first | (go_at_call 23; (refine (laws_markJobS.calls k (fun q_ => some q_ = (Value.slice AX x.length cX).ownBlock) _ x 1 m1 m2 wa _ HA.out HX.out HMJ.out).mono ?_); rintro e wg ⟨rfl, ho, hb, hk⟩; have q_ := Aside0.mk (Kd.S_step HG.out (fun q_ hq_ hlt => hk.2 q_ hlt (fun e_ => Nat.not_le.2 (HXL.out q_ e_.symm) hq_))); clear HG; have HG := q_; clear q_; clear HA HB HX; have HA := Aside0.mk hb; have HB := Aside0.mk (below_step HWA.out hb); have q_ := Aside0.mk (Nat.le_trans HWB.out hk.1); clear HWB; have HWB := q_; clear q_; clear ho hb hk))
   go_upto_region 16 with (first | (go_at_call 22; (refine (laws_eqIntSS.calls k AG cG g1 AS cS s1 true _ (Kd.S_reads' HG.out).2.2 HGC.out (Kd.C_below HSC.out.2.2 HA.out) HSC.out.2.1 HE1.out).mono ?_); rintro e wi ⟨rfl, hd⟩; have hb : Below wg.heap.size wg wi := (by obtain ⟨n_, rfl⟩ := hd.out; exact pw_below_drewN (Below.refl _ _) n_); have q_ := Aside0.mk (Kd.S_below HG.out hb); clear HG; have HG := q_; clear q_; have q_ := Aside0.mk (below_step HA.out hb); clear HA; have HA := q_; clear q_; have q_ := Aside0.mk (below_step HB.out hb); clear HB; have HB := q_; clear q_; have q_ := Aside0.mk (Nat.le_trans HWB.out hb.size); clear HWB; have HWB := q_; clear q_; clear hd hb))
   go_upto_region 18 with (first | (go_at_call 24; (refine (laws_markIntSS.calls k (fun q_ => wb.heap.size ≤ q_) _ g1 1 q gg wa _ HA.out (fun q_ hq_ => Nat.le_trans HWB.out hq_) (Kd.S_lower HG.out HNB.out) HMI.out).mono ?_); rintro e wj ⟨rfl, hs, hb, hk⟩; clear HG HA HB; have HG := Aside0.mk hs; have HGL := Aside0.mk (Kd.S_reads' hs).1; have HA := Aside0.mk hb; have HB := Aside0.mk (below_step HWA.out hb); clear hs hb hk))
   go_upto_region 24 with (first | (go_at_call 25; have hc_ := laws_heldIntSS.calls k AG cG gg 1 q _ (Kd.S_reads' HG.out).2.2 (by rw [← HGL.out]; exact HGC.out) HHE.out; rw [← HGL.out] at hc_; (refine hc_.mono ?_); clear hc_; rintro e wl ⟨rfl, hd⟩; have hb : Below wj.heap.size wj wl := (by obtain ⟨n_, rfl⟩ := hd.out; exact pw_below_drewN (Below.refl _ _) n_); have q_ := Aside0.mk (Kd.S_below HG.out hb); clear HG; have HG := q_; clear q_; have q_ := Aside0.mk (below_step HA.out hb); clear HA; have HA := q_; clear q_; have q_ := Aside0.mk (below_step HB.out hb); clear HB; have HB := q_; clear q_; clear hd hb))
   go_upto_region 25 with (first | (go_at_call 17; (refine (laws_toJobS.calls k A0 c0 l0 x _ (Kd.C_below HR0.out HB.out) HC0.out HTO.out).mono ?_); rintro e wm ⟨vz, rfl, hz, hb⟩; (obtain ⟨AZ, cZ, e1⟩ := Kd.R_slice hz); subst e1; have HZ := Aside0.mk (Kd.R_reads' hz); have q_ := Aside0.mk (Kd.S_below HG.out hb); clear HG; have HG := q_; clear q_; have q_ := Aside0.mk (below_step HA.out hb); clear HA; have HA := q_; clear q_; have q_ := Aside0.mk (below_step HB.out hb); clear HB; have HB := q_; clear q_; clear hz hb) | (go_at_call 21; (refine (impl_TieGroups.calls k AZ cZ x a1 g1 g2 _ HZ.out.2.2 HZ.out.2.1 HIM.out).mono ?_); rintro e wn ⟨vh, rfl, hh, hb⟩; (obtain ⟨AH, cH, e1⟩ := Kd.S_slice hh); subst e1; have HH := Aside0.mk (Kd.S_reads' hh); have q_ := Aside0.mk (Kd.S_below HG.out hb); clear HG; have HG := q_; clear q_; have q_ := Aside0.mk (below_step HA.out hb); clear HA; have HA := q_; clear q_; have q_ := Aside0.mk (below_step HB.out hb); clear HB; have HB := q_; clear q_; clear hh hb HZ))
   go_upto_region 27 with (first | (go_at_call 22; (refine (laws_eqIntSS.calls k AH cH g1 AS cS s1 true _ HH.out.2.2 HH.out.2.1 (Kd.C_below HSC.out.2.2 HA.out) HSC.out.2.1 HE1.out).mono ?_); rintro e wo ⟨rfl, hd⟩; have hb : Below wn.heap.size wn wo := (by obtain ⟨n_, rfl⟩ := hd.out; exact pw_below_drewN (Below.refl _ _) n_); have q_ := Aside0.mk (Kd.S_below HG.out hb); clear HG; have HG := q_; clear q_; have q_ := Aside0.mk (below_step HA.out hb); clear HA; have HA := q_; clear q_; have q_ := Aside0.mk (below_step HB.out hb); clear HB; have HB := q_; clear q_; clear hd hb HH))
   go_wp2_with (first | (go_at_call 25; have hc_ := laws_heldIntSS.calls k AG cG gg 1 q _ (Kd.S_reads' HG.out).2.2 (by rw [← HGL.out]; exact HGC.out) HHE.out; rw [← HGL.out] at hc_; (refine hc_.mono ?_); clear hc_; rintro e wp ⟨rfl, hd⟩; have hb : Below wo.heap.size wo wp := (by obtain ⟨n_, rfl⟩ := hd.out; exact pw_below_drewN (Below.refl _ _) n_); have q_ := Aside0.mk (below_step HA.out hb); clear HA; have HA := q_; clear q_; clear hd hb))
   go_ret
   exact ⟨rfl, below_step HWA.out HA.out⟩

end Go.Proofs.Ythhmembnhnghiaa.OFnExactTieGroups
