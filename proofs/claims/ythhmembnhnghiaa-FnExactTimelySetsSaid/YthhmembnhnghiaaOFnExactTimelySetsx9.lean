/- Functions of the program as plain Lean functions, with their contracts: written by this session's program ownprint.py. Conditions: none. -/
import Derived.Test.YthhmembnhnghiaaOFnExactTimelySetsx0
import Derived.Test.YthhmembnhnghiaaOFnExactTimelySetsx1
import Derived.Test.YthhmembnhnghiaaOFnExactTimelySetsx2
import Derived.Test.YthhmembnhnghiaaOFnExactTimelySetsx6
import Derived.Test.YthhmembnhnghiaaOFnExactTimelySetsx7
import Derived.Test.YthhmembnhnghiaaOFnExactTimelySetsx8
namespace Go.Proofs.Ythhmembnhnghiaa.OFnExactTimelySets
open Go.RowKit Go.Proofs.YthhmembnhnghiaaW.PrintWords Go.Proofs.YthhmembnhnghiaaW.PrintLast Go.Proofs.YthhmembnhnghiaaW.PrintMore
attribute [local go_sem] max2_int min2_int max_two min_two max_three min_three max_four min_four   -- for this text's walks alone
set_option linter.unusedVariables false
set_option linter.unusedSimpArgs false

/-! ### orderedSets: words -/
def osB (l : List (List Int)) (p : Int) : List Int := l.getD (p.toNat - 1) []
def osN (n : Nat) : List Int := (List.range n).map fun i : Nat => (i : Int) + 1
def osP (k : Nat) (l : List (List Int)) (i j : Int) : Option Bool := if ((osB l j).length : Int) > ((osB l i).length : Int) then some true else if ((osB l j).length : Int) = ((osB l i).length : Int) then (impl_compareLists.f k (osB l j) (osB l i)).bind fun c => some (decide (c > 0)) else some false
def impl_orderedSets.f (k : Nat) (l0 : List (List Int)) : Option (List (List Int)) := if l0.length < 1000000 then (sbL (osP k l0) (osN l0.length) []).bind fun ps => some (ps.map (osB l0)) else none
theorem sbK_mono {p q : Int → Option Bool} (hpq : ∀ j b, p j = some b → q j = some b) (o : List Int) : ∀ (n m : Nat), sbK p o n = some m → sbK q o n = some m
  | 0, m, h => by simpa [sbK] using h
  | n + 1, m, h => by
    simp only [sbK] at h ⊢
    obtain ⟨b, hb, h⟩ := Option.bind_eq_some_iff.mp h
    rw [hpq _ _ hb]
    cases b with
    | true => simpa using sbK_mono hpq o n m (by simpa using h)
    | false => simpa using h
theorem sbL_mono {p q : Int → Int → Option Bool} (hpq : ∀ i j b, p i j = some b → q i j = some b) : ∀ (l o r : List Int), sbL p l o = some r → sbL q l o = some r
  | [], o, r, h => by simpa [sbL] using h
  | i :: t, o, r, h => by
    simp only [sbL] at h ⊢
    obtain ⟨m, hm, h⟩ := Option.bind_eq_some_iff.mp h
    rw [sbK_mono (hpq i) o _ m hm]
    exact sbL_mono hpq t _ r h
theorem sbL_perm {p : Int → Int → Option Bool} : ∀ (l o r : List Int), sbL p l o = some r → r.Perm (o ++ l)
  | [], o, r, h => by simp only [sbL, Option.some.injEq] at h; subst h; simp
  | i :: t, o, r, h => by
    simp only [sbL] at h
    obtain ⟨m, hm, h⟩ := Option.bind_eq_some_iff.mp h
    refine (sbL_perm t _ r h).trans ?_
    have e : (o.take m ++ i :: o.drop m).Perm (o ++ [i]) := by
      refine List.perm_middle.trans ?_
      rw [List.take_append_drop]
      exact (List.perm_append_singleton i o).symm
    have := e.append_right t
    simpa using this
theorem osP_mono (k : Nat) (l : List (List Int)) (i j : Int) (b : Bool) (h : osP k l i j = some b) : osP (k + 1) l i j = some b := by
  unfold osP at h ⊢
  split at h
  · rename_i h1; rw [if_pos h1]; exact h
  · rename_i h1
    rw [if_neg h1]
    split at h
    · rename_i h2
      rw [if_pos h2]
      obtain ⟨c, hc, h⟩ := Option.bind_eq_some_iff.mp h
      rw [impl_compareLists.mono _ _ k c hc]
      exact h
    · rename_i h2; rw [if_neg h2]; exact h
theorem impl_orderedSets.mono : ∀ a0 k, LeO (impl_orderedSets.f k a0) (impl_orderedSets.f (k + 1) a0) := by
  intro a0 k r h
  unfold impl_orderedSets.f at h ⊢
  split at h
  · rename_i h1
    rw [if_pos h1]
    obtain ⟨ps, hp, h⟩ := Option.bind_eq_some_iff.mp h
    rw [sbL_mono (osP_mono k a0) _ _ _ hp]
    exact h
  · cases h
theorem osN_nodup (n : Nat) : (osN n).Nodup := by
  unfold osN
  rw [List.nodup_iff_pairwise_ne, List.pairwise_map]
  exact List.Pairwise.imp (fun h => by omega) (List.nodup_iff_pairwise_ne.mp List.nodup_range)
theorem osN_mem {n : Nat} {p : Int} (h : p ∈ osN n) : 1 ≤ p ∧ p ≤ n := by
  unfold osN at h
  obtain ⟨i, hi, rfl⟩ := List.mem_map.mp h
  have := List.mem_range.mp hi
  omega
theorem osN_drop (n j : Nat) (h : j < n) : (osN n).drop j = ((j : Int) + 1) :: (osN n).drop (j + 1) := by
  have hl : j < (osN n).length := by simpa [osN] using h
  rw [List.drop_eq_getElem_cons hl]
  simp [osN]
def osE (T : Int → Option Addr × Nat × Nat) (x : Int) : Value := .slice (T x).1 (T x).2.1 (T x).2.2
abbrev osK (T : Int → Option Addr × Nat × Nat) : Kd Int := Kd.scalar (osE T) (fun _ => rfl)
theorem os_one {d : Kd Int} {w : World} {b0 e e' n c0 : Nat} {f : Nat → Nat} {ok : Nat → Prop} {A0 : Option Addr} {l0 : List (List Int)} (h : (Kd.tag f (Kd.slice e' d)).R e w b0 ok (.slice A0 n c0) l0.zipIdx) (i : Nat) (hi : i < l0.length) :
    ∃ t : Option Addr × Nat × Nat, (∃ ad, A0 = some ad ∧ w.cell? (ad.add i) = some (.slice t.1 t.2.1 t.2.2)) ∧ d.R e' w b0 (fun k => (ok k ∧ some k ≠ (Value.slice A0 n c0).ownBlock) ∧ f k = i) (.slice t.1 t.2.1 t.2.2) (l0.getD i []) := by
  obtain ⟨g, cap, he, _⟩ := Kd.R_form h (by rw [List.length_zipIdx]; omega)
  injection he with ha hn hc
  subst ha
  obtain ⟨cs, hl, hM, hcc⟩ := Kd.R_getA h (([] : List Int), 0) (i : Int) (by omega) (by rw [List.length_zipIdx] at hn; omega)
  have hz : l0.zipIdx.getD (i : Int).toNat (([] : List Int), 0) = (l0.getD i [], i) := by
    rw [Int.toNat_natCast, List.getD_eq_getElem?_getD, List.getElem?_zipIdx, List.getElem?_eq_getElem hi, List.getD_eq_getElem?_getD, List.getElem?_eq_getElem hi]
    simp
  rw [hz] at hM
  obtain ⟨v, rfl, hR⟩ := hM
  obtain ⟨A, c, rfl⟩ := Kd.R_slice hR
  exact ⟨(A, (l0.getD i []).length, c), ⟨_, rfl, by have := hcc 0 _ rfl; rw [Int.toNat_natCast] at this; simpa [Kd.tag, Kd.slice] using this⟩, hR⟩
theorem os_open {d : Kd Int} {w : World} {b0 e e' c0 : Nat} {A0 : Option Addr} {l0 : List (List Int)} (hb0 : b0 ≤ w.heap.size) (h : Kd.S (Kd.slice e' d) e w b0 (fun _ => True) (.slice A0 l0.length c0) l0) :
    ∃ T : Int → Option Addr × Nat × Nat, T 0 = (none, 0, 0) ∧ (∀ i : Int, 0 ≤ i → i < (l0.length : Int) → ∃ ad, A0 = some ad ∧ w.cell? (ad.add i.toNat) = some (.slice (T (i + 1)).1 (T (i + 1)).2.1 (T (i + 1)).2.2)) ∧
      (∀ p : Int, 1 ≤ p → p ≤ (l0.length : Int) → (T p).2.1 = (osB l0 p).length ∧ (osB l0 p).length ≤ (T p).2.2 ∧ d.C w (T p).1 (osB l0 p).length (osB l0 p)) ∧
      ∀ (w' : World) (v : Value) (ps : List Int), Below w.heap.size w w' → (osK T).R e w' w.heap.size (fun _ => True) v ps → ps.Nodup → (∀ p ∈ ps, 1 ≤ p ∧ p ≤ (l0.length : Int)) → Kd.S (Kd.slice e' d) e w' b0 (fun _ => True) v (ps.map (osB l0)) := by
  obtain ⟨f, h⟩ := h
  have h1 : ∀ i : Nat, ∃ t : Option Addr × Nat × Nat, i < l0.length → (∃ ad, A0 = some ad ∧ w.cell? (ad.add i) = some (.slice t.1 t.2.1 t.2.2)) ∧ d.R e' w b0 (fun k => (True ∧ some k ≠ (Value.slice A0 l0.length c0).ownBlock) ∧ f k = i) (.slice t.1 t.2.1 t.2.2) (l0.getD i []) := fun i => by
    by_cases hi : i < l0.length
    · obtain ⟨t, ht⟩ := os_one h i hi
      exact ⟨t, fun _ => ht⟩
    · exact ⟨(none, 0, 0), fun h => absurd h hi⟩
  obtain ⟨t, ht⟩ := Classical.axiomOfChoice h1
  obtain ⟨T, hT⟩ : ∃ T : Int → Option Addr × Nat × Nat, ∀ p, T p = if p ≤ 0 then (none, 0, 0) else t (p.toNat - 1) := ⟨_, fun _ => rfl⟩
  have hT1 : ∀ p : Int, 1 ≤ p → T p = t (p.toNat - 1) := fun p hp => by rw [hT, if_neg (by omega)]
  refine ⟨T, by rw [hT]; rfl, fun i h0 hi => ?_, fun p h0 hp => ?_, fun w' v ps hb hR hnd hmem => ?_⟩
  · rw [hT1 _ (by omega), show (i + 1).toNat - 1 = i.toNat by omega]
    exact (ht i.toNat (by omega)).1
  · rw [hT1 _ h0]
    obtain ⟨_, h2⟩ := ht (p.toNat - 1) (by omega)
    obtain ⟨A, c, he, hl, hC⟩ := Kd.R_reads h2
    injection he with ha hn hc
    rw [ha, hn, hc]
    exact ⟨rfl, hl, hC⟩
  · have how := Kd.own_of_R hR
    refine ⟨fun k => ps.idxOf ((f k : Int) + 1), fun _ _ => trivial, encs (osE T) ps, ?_, ?_, fun j x hx => ?_⟩
    · rw [List.length_zipIdx, List.length_map]
      exact own_weaken how hb0
    · rw [encs_length, List.length_zipIdx, List.length_map]; exact (Nat.mul_one _).symm
    · rw [List.getElem?_zipIdx] at hx
      obtain ⟨row, hrow, rfl⟩ := Option.map_eq_some_iff.mp hx
      rw [List.getElem?_map] at hrow
      obtain ⟨p, hp, rfl⟩ := Option.map_eq_some_iff.mp hrow
      have hj : j < ps.length := (List.getElem?_eq_some_iff.mp hp).1
      obtain ⟨p0, p1⟩ := hmem p (List.mem_of_getElem? hp)
      have hcell : ((encs (osE T) ps).drop (j * 1)).take 1 = [osE T p] := by
        rw [Nat.mul_one, List.take_one, List.head?_drop]
        unfold encs
        rw [List.getElem?_map, hp]
        rfl
      have hM := (ht (p.toNat - 1) (by omega)).2
      refine ⟨osE T p, hcell, ?_⟩
      unfold osE
      rw [hT1 _ p0]
      refine Kd.R_mono (Kd.R_below (Kd.R_bound hM) hb) (fun k hk => ⟨⟨trivial, fun he => ?_⟩, ?_⟩)
      · have := own_base how k he.symm
        have := hk.2.2.1
        omega
      · have e1 : (f k : Int) + 1 = p := by have := hk.1.2; omega
        have e2 : ps[j]'hj = p := by have := List.getElem?_eq_getElem hj; rw [hp] at this; injection this with this; exact this.symm
        show ps.idxOf ((f k : Int) + 1) = 0 + j
        rw [e1, ← e2, hnd.idxOf_getElem]
        omega
def os_T9 : Bool × List (List Nat × List Nat) := (true, [([], []), ([], []), ([1], [1]), ([0, 2], [0, 2]), ([], []), ([], []), ([4, 5], [4, 5]), ([3, 6], [3, 6])])
def os_B9 : List Nat := [0, 0, 2, 7, 0, 0, 48, 127]
theorem os_tab9 : rtab .any (opsOf Try.f108 9) = os_T9 := by kernel_rfl
theorem os_bits9 : waitsOk os_T9.2 os_B9 = true := by kernel_rfl
set_option maxHeartbeats 8000000 in
set_option maxRecDepth 100000 in
theorem impl_orderedSets.calls (k : Nat) (A0 : Option Addr) (c0 : Nat) (l0 : List (List Int)) (r : List (List Int)) (w : World) {b0 : Nat} (hb0 : b0 ≤ w.heap.size) (hr0 : Kd.S (Kd.slice 3 (Kd.int .i64)) 37 w b0 (fun _ => True) (.slice A0 l0.length c0) l0) (h : impl_orderedSets.f k l0 = some r) :
  Calls Try.prog 108 #[.slice A0 l0.length c0] w fun e w' => ∃ v0_ : Value, e = .returned (v0_) ∧ Kd.S (Kd.slice 3 (Kd.int .i64)) 37 w' b0 (fun _ => True) v0_ r ∧ Below w.heap.size w w' := by
 obtain ⟨T, hT0, hTc, hTr, hTS⟩ := os_open hb0 hr0
 have HC0 := Aside0.mk (Kd.S_reads' hr0).2.1
 have TZ := Aside0.mk hT0
 have TC := Aside0.mk hTc
 have TR := Aside0.mk hTr
 have TS := Aside0.mk hTS
 clear hT0 hTc hTr hTS hr0 hb0
 have HB := Aside0.mk (Below.refl w.heap.size w)
 unfold impl_orderedSets.f at h
 by_cases hlen : l0.length < 1000000
 case neg => rw [if_neg hlen] at h; cases h
 rw [if_pos hlen] at h
 have HL := Aside0.mk hlen
 obtain ⟨ps, hps, hr⟩ := Option.bind_eq_some_iff.mp h
 have HP0 := Aside0.mk (sbL_perm _ _ _ hps)
 have HR := Aside0.mk (Option.some.inj hr)
 have H' := Aside0.mk hps
 clear h hlen hps hr
 go_enter Try.func108, Try.ntmps108
 go_wp2
 go_loopg [3, 9] l0.length (fun kq v3 v9 w' => ∃ (j : Nat) (o : List Int) (x9 : Int), v9 = .int .i64 x9 ∧ Aside0 (x9 = j) ∧ Aside0 (j + kq = l0.length ∧ o.length = j) ∧ Aside0 (sbL (osP k l0) ((osN l0.length).drop j) o = some ps) ∧ Aside0 (∀ q ∈ o, 1 ≤ q ∧ q ≤ (l0.length : Int)) ∧ Aside0 ((osK T).R 37 w' w.heap.size (fun _ => True) v3 o) ∧ Aside0 (Below w.heap.size w w'))
 case atStart => exact ⟨0, [], 0, rfl, ⟨rfl⟩, ⟨by omega, rfl⟩, H', ⟨fun q hq => by cases hq⟩, ⟨Kd.R_nil _ _ _ _ _⟩, ⟨bB⟩⟩
 case round =>
  clear H'
  obtain ⟨j, o, x9, rfl, HJ, HK, H', HM0, HO, HB⟩ := hrel
  cases gk with
  | zero =>
   have c0b : decide (x9 < (l0.length : Int)) = false := decide_eq_false (by have := HJ.out; have := HK.out; omega)
   have H := H'.out
   clear H'
   rw [List.drop_eq_nil_of_le (by have := HK.out; simp [osN]; omega), sbL] at H
   obtain rfl := Option.some.inj H
   go_wp2
   go_ret
   exact ⟨_, rfl, by rw [← HR.out]; exact TS.out _ _ _ HB.out HO.out (HP0.out.nodup_iff.mpr (by simpa using osN_nodup _)) HM0.out, bB⟩
  | succ k1 =>
   have c0b : decide (x9 < (l0.length : Int)) = true := decide_eq_true (by have := HJ.out; have := HK.out; omega)
   have p1 : 0 ≤ x9 := by have := HJ.out; omega
   have q1 : x9 < (l0.length : Int) := by have := HJ.out; have := HK.out; omega
   obtain ⟨ad1, e1, hx1⟩ := TC.out x9 p1 q1
   cases e1
   replace hx1 := (cB HB.out hx1 :)
   obtain ⟨r1, r2, r3⟩ := TR.out (x9 + 1) (by omega) (by omega)
   rw [r1] at hx1
   have ES : Aside0 (osE T (x9 + 1) = .slice (T (x9 + 1)).1 (osB l0 (x9 + 1)).length (T (x9 + 1)).2.2) := ⟨by unfold osE; rw [r1]⟩; have RS := Aside0.mk (And.intro r2 r3)
   clear r1 r2 r3
   generalize (T (x9 + 1)).1 = SA at hx1 RS ES
   generalize (T (x9 + 1)).2.2 = sc at hx1 RS ES
   have RNG := Aside0.mk (show 1 ≤ x9 + 1 ∧ x9 + 1 ≤ (l0.length : Int) by omega)
   replace p1 := eq_true p1
   replace q1 := eq_true q1
   obtain ⟨Ao, co, eo⟩ := Kd.R_slice HO.out
   subst eo
   have H := H'.out
   clear H'
   rw [osN_drop _ _ (by have := HK.out; omega), ← HJ.out, sbL] at H
   obtain ⟨m, hm, H⟩ := Option.bind_eq_some_iff.mp H
   have HM := Aside0.mk hm
   have H' := Aside0.mk H
   clear H hm
   go_wp2
   go_loopg [6] o.length (fun kq v6 w' => ∃ (x6 : Int), v6 = .int .i64 x6 ∧ Aside0 (x6 = (kq : Nat)) ∧ Aside0 (kq ≤ o.length) ∧ Aside0 (sbK (osP k l0 (x9 + 1)) o kq = some m) ∧ Aside0 ((osK T).R 37 w' w.heap.size (fun _ => True) (.slice Ao o.length co) o) ∧ Aside0 (Below w.heap.size w w'))
   case atStart => exact ⟨(o.length : Int), (by first | rfl | (simp; done)), ⟨rfl⟩, ⟨Nat.le_refl _⟩, HM, ⟨(by (with_reducible repeat (first | apply Kd.R_alloc | apply Kd.R_drewN | apply Kd.R_drew)); exact HO.out)⟩, ⟨bB⟩⟩
   case round =>
    clear HM HO hx1
    obtain ⟨x6, rfl, HX, HQ, HM, HO, HB⟩ := hrel
    cases gk with
    | zero =>
     have c1 : decide (0 < x6) = false := decide_eq_false (by have := HX.out; omega)
     have H := HM.out
     clear HM
     simp only [sbK, Option.some.injEq] at H
     have HM1 := Aside0.mk (show (m : Int) = x6 by have := HX.out; omega)
     clear H
     obtain ⟨hx, hm_⟩ : x6 = (m : Int) ∧ m ≤ o.length := ⟨by have := HX.out; have := HM1.out; omega, by have h1 := HM1.out; have h2 := HX.out; have h3 := HQ.out; omega⟩
     have HX2 := Aside0.mk (And.intro hx hm_)
     clear hx hm_
     have LM := Aside0.mk (show o.length < 1000000 by have := HL.out; have := HK.out; omega)
     go_wp2_with (first | ((with_reducible refine gate_builtin (b := .append) (xs := #[.tmp 51, .tmp 52]) rfl ?_); at_builtin; refine Kd.R_append (osK T) (w0 := w) w.heap.size rfl (.tmp 51) (.tmp 52) 30 37 (.slice none 0 0) 24 rfl Try.underlying30 info37 rfl Nat.one_pos (by omega) (.slice Ao o.length co) o 0 [.slice none 0 0] (fun _ => True) (fun _ => False) rfl rfl ?aP (fun _ hk => hk.elim) ?aF ?aO ?aB ?aS ?aL ?_; (case aP => exact (by show _ = [osE T 0]; unfold osE; rw [TZ.out])); (case aB => exact bB); (case aF => exact (fun _ _ => trivial)); (case aO => exact (by (with_reducible repeat (first | apply Kd.R_alloc | apply Kd.R_drewN | apply Kd.R_drew)); exact HO.out)); (case aS => exact (below_size bB)); (case aL => have := LM.out; omega); intro v5 w8 ho hb hg hat; have n0_ := Aside0.mk (hb); have n1_ := Aside0.mk (ho); clear HB; clear HO; have HB := n0_; have HO := n1_; clear n0_ n1_; clear ho hb hg hat))
     obtain ⟨go, cp, eo, gb, gl, cl, HG⟩ := Kd.R_form HO.out (by rw [List.length_append]; simp)
     (first | subst eo | cases eo)
     have GB := Aside0.mk gb
     clear gb gl HG cl
     have hw1 : wrap64 (x6 + 1) = ((m + 1 : Nat) : Int) := by have h1 := HX2.out; have h4 := LM.out; unfold wrap64; omega
     have p4 : 0 ≤ wrap64 (x6 + 1) := by omega
     have q4 : wrap64 (x6 + 1) ≤ (((o ++ [0]).length : Nat) : Int) := by have h1 := HX2.out; rw [List.length_append, List.length_singleton]; omega
     have p5 : 0 ≤ x6 := by have h1 := HX2.out; omega
     have q5 : x6 ≤ (((o ++ [0]).length : Nat) : Int) := by have h1 := HX2.out; rw [List.length_append, List.length_singleton]; omega
     have q6 : x6 < (((o ++ [0]).length : Nat) : Int) := by have h1 := HX2.out; rw [List.length_append, List.length_singleton]; omega
     have ew1 : (wrap64 (x6 + 1)).toNat = m + 1 := by rw [hw1]; rfl
     have ex8 : x6.toNat = m := by rw [HX2.out.1]; rfl
     have EW := Aside0.mk (And.intro ew1 ex8)
     clear hw1 ew1 ex8
     have ln : (o ++ [0]).length = o.length + 1 := by simp
     have LN := Aside0.mk ln
     clear ln
     generalize hoo : o ++ [0] = oo at *
     have OO := Aside0.mk hoo
     clear hoo
     refine start_ (n := 8) (S := fun w' => True) (ds := [7]) #[false, false, false, false, false, false, false, false] (by kernel_rfl) rfl rfl trivial (fun hHeld => ?_); refine with_tabW os_tab9 os_bits9 (fun HT_ HW_ => ?_)
     have n0_ := Aside0.mk (Kd.R_drew HO.out)
     have n1_ := Aside0.mk (below_drew1 HB.out)
     clear HO HB
     have HO := n0_
     have HB := n1_
     clear n0_ n1_
     generalize w8.drew = w9 at HO HB ⊢
     refine pU 0 54 #[true, false, false, false, false, false, false, false] ?_
     refine pU 1 55 #[true, true, false, false, false, false, false, false] ?_
     refine pU 2 56 #[true, true, true, false, false, false, false, false] ?_
     refine pU 4 58 #[true, true, true, false, true, false, false, false] ?_
     refine pU 5 59 #[true, true, true, false, true, true, false, false] ?_
     refine pU 3 57 #[true, true, true, true, true, true, false, false] ?_
     refine pU 6 60 #[true, true, true, true, true, true, true, false] ?_
     refine last_ (i := 7) (N := some 61) #[true, true, true, true, true, true, true, true] rfl rfl (one_of HT_.out (by kernel_rfl)) (by decide) (fun K hK => ?_)
     obtain ⟨w10, hrun, ho, hg⟩ := R_shift (P := Try.prog) (ty := 3) (t' := 30) (0 : Int) Try.underlying30 (by rw [show (Try.prog.info? 37).map (·.size) = some 1 from by kernel_rfl]) HO.out (m + 1) m (o.length - m) (cp - (m + 1)) (cp - m) (by have := HX2.out; have := LN.out; omega) (by have := HX2.out; have := LN.out; omega) (by have := HX2.out; have := LN.out; omega)
       (if cp = m + 1 then some ⟨go, 0, none⟩ else some ⟨go, m + 1, none⟩) (if cp = m then some ⟨go, 0, none⟩ else some ⟨go, m, none⟩) (fun h_ => if_neg (by have h1 := (Kd.R_reads' HO.out).2.1; have := LN.out; omega)) (fun h_ => if_neg (by have h1 := (Kd.R_reads' HO.out).2.1; have := LN.out; omega))
     refine value_ (w1 := w10) (v := .int .i64 ((o.length - m : Nat) : Int)) (by rfl) rfl ?_ ?_
     ·refine sb_copy (s := .tmp 57) (x := .tmp 60) (t := 30) (t' := 30) rfl rfl rfl ?_
      simp only [EW.out.1, EW.out.2]
      exact hrun
     refine hK.out _ _ ?_
     clear hK K
     have n0_ := Aside0.mk ho
     have n1_ := Aside0.mk (HB.out.grown hg (below_size HB.out) (fun k_ e_ => by injection e_ with e_; subst e_; exact GB.out))
     clear HO HB ho hrun hg
     have HO := n0_
     have HB := n1_
     clear n0_ n1_
     have p7 := eq_true p5
     have q7 := eq_true q6
     have hl3 : (oo.take (m + 1) ++ (oo.drop m).take (o.length - m) ++ oo.drop (m + 1 + (o.length - m))).length = oo.length := by have := HX2.out; have := LN.out; simp only [List.length_append, List.length_take, List.length_drop]; omega
     obtain ⟨hx9, hf9⟩ := Kd.R_celln 0 HO.out x6 p5 q6
     have HP := Kd.R_putn HO.out x6 (x9 + 1)
     rw [show osE T (x9 + 1) = .slice SA (osB l0 (x9 + 1)).length sc from ES.out] at HP
     have HQ9 := Aside0.mk HP
     clear HP p5 q5 q6 p4 q4
     refine done_ (done_of HT_.out (by kernel_rfl)) ?_
     generalize (if cp = (wrap64 (x6 + 1)).toNat then (some ⟨go, 0, none⟩ : Option Addr) else some ⟨go, (wrap64 (x6 + 1)).toNat, none⟩) = ad37
     generalize (if cp = x6.toNat then (some ⟨go, 0, none⟩ : Option Addr) else some ⟨go, x6.toNat, none⟩) = ad40
     go_wp2
     all_goals (go_roundg k1; (case measure => omega); (case rel => exact ⟨j + 1, o.take m ++ (x9 + 1) :: o.drop m, wrap64 (x9 + 1), (by first | rfl | (simp; done)), ⟨by have h1 := HJ.out; have h2 := HK.out; have h3 := HL.out; unfold wrap64; omega⟩, ⟨by have h2 := HK.out; omega, by have h2 := HK.out; have h4 := HX2.out; simp only [List.length_append, List.length_cons, List.length_take, List.length_drop]; omega⟩, H', ⟨fun q hq => (List.mem_append.mp hq).elim (fun h_ => HM0.out q (List.mem_of_mem_take h_)) (fun h_ => (List.mem_cons.mp h_).elim (fun e_ => by rw [e_]; exact RNG.out) (fun h_ => HM0.out q (List.mem_of_mem_drop h_)))⟩, ⟨by (with_reducible repeat (first | apply Kd.R_alloc | apply Kd.R_drewN | apply Kd.R_drew)); have h8 := HQ9.out; have e9 := sb_shift o m (x9 + 1) HX2.out.2; rw [OO.out] at e9; rw [EW.out.2, e9] at h8; rw [EW.out.2]; exact h8⟩, ⟨by repeat (first | (with_reducible first | exact HB.out | apply below_alloc | apply pw_below_drewN | apply below_drew1 | refine below_set ?_ GB.out) | exact HB.out)⟩⟩))
    | succ k2 =>
     have c1 : decide (0 < x6) = true := decide_eq_true (by have := HX.out; omega)
     have hw : wrap64 (x6 - 1) = (k2 : Int) := by have h1 := HX.out; have h2 := HQ.out; have h3 := HK.out; have h4 := HL.out; unfold wrap64; omega
     have p2 : 0 ≤ wrap64 (x6 - 1) := by omega
     have q2 : wrap64 (x6 - 1) < (o.length : Int) := by have h2 := HQ.out; omega
     obtain ⟨ad2, e2, hx2⟩ := ReadsOf.at_ (d := (0 : Int)) (Kd.reads_of_C (h1 := fun _ => rfl) (Kd.R_reads' HO.out).2.2) (wrap64 (x6 - 1)) p2 q2
     cases e2
     have H := HM.out
     clear HM
     rw [sbK, ← hw] at H
     have HW := Aside0.mk hw
     clear hw
     have hy : rd o (wrap64 (x6 - 1)) ∈ o := by have h2 := HQ.out; rw [HW.out]; unfold rd; rw [List.getD_eq_getElem?_getD, List.getElem?_eq_getElem (by rw [Int.toNat_natCast]; omega)]; exact List.getElem_mem _
     change _ = some (Value.slice (T (rd o (wrap64 (x6 - 1)))).1 (T (rd o (wrap64 (x6 - 1)))).2.1 (T (rd o (wrap64 (x6 - 1)))).2.2) at hx2
     generalize rd o (wrap64 (x6 - 1)) = y at hx2 H hy
     obtain ⟨y0, y1⟩ := HM0.out y hy
     obtain ⟨r1, r2, r3⟩ := TR.out y y0 y1
     rw [r1] at hx2
     have RY := Aside0.mk (And.intro r2 r3)
     clear r1 r2 r3 y0 y1 hy
     generalize (T y).1 = OA at hx2 RY
     generalize (T y).2.2 = oc at hx2 RY
     replace p2 := eq_true p2
     replace q2 := eq_true q2
     obtain ⟨b, hb, H⟩ := Option.bind_eq_some_iff.mp H
     have HM := Aside0.mk H
     clear H
     unfold osP at hb
     by_cases g1 : ((osB l0 y).length : Int) > ((osB l0 (x9 + 1)).length : Int)
     · rw [if_pos g1] at hb
       obtain rfl := Option.some.inj hb
       have g1a : decide ((osB l0 (x9 + 1)).length < (osB l0 y).length) = true := decide_eq_true (by omega)
       have g1b : decide (((osB l0 (x9 + 1)).length : Int) < ((osB l0 y).length : Int)) = true := decide_eq_true (by omega)
       clear hb g1
       go_wp2
       go_roundg k2
       case measure => omega
       case rel => exact ⟨wrap64 (x6 - 1), (by first | rfl | (simp; done)), ⟨HW.out⟩, ⟨by have := HQ.out; omega⟩, ⟨by have := HM.out; simpa using this⟩, ⟨(by (with_reducible repeat (first | apply Kd.R_alloc | apply Kd.R_drewN | apply Kd.R_drew)); exact HO.out)⟩, ⟨bB⟩⟩
     · rw [if_neg g1] at hb
       have g1a : decide ((osB l0 (x9 + 1)).length < (osB l0 y).length) = false := decide_eq_false (by omega)
       have g1b : decide (((osB l0 (x9 + 1)).length : Int) < ((osB l0 y).length : Int)) = false := decide_eq_false (by omega)
       clear g1
       by_cases g2 : ((osB l0 y).length : Int) = ((osB l0 (x9 + 1)).length : Int)
       · rw [if_pos g2] at hb
         have g2a : (((osB l0 y).length : Int) == ((osB l0 (x9 + 1)).length : Int)) = true := beq_iff_eq.mpr g2
         have g2b : ((osB l0 y).length == (osB l0 (x9 + 1)).length) = true := beq_iff_eq.mpr (by omega)
         clear g2
         obtain ⟨cv, hcv, hb⟩ := Option.bind_eq_some_iff.mp hb
         have HCV := Aside0.mk hcv
         clear hcv
         cases b with
         | true =>
          have c3 : decide (0 < cv) = true := Option.some.inj hb
          clear hb
          go_wp2_with (first | (go_at_call 142; refine (impl_compareLists.calls k OA oc (osB l0 y) SA sc (osB l0 (x9 + 1)) cv _ (Kd.C_below RY.out.2 bB) RY.out.1 (Kd.C_below RS.out.2 bB) RS.out.1 HCV.out).mono ?_; rintro e w' ⟨rfl, hdz⟩; (obtain ⟨nd, rfl⟩ := hdz); have n0_ := Aside0.mk (Kd.R_below HO.out (pw_below_drewN (Below.refl _ _) nd)); have n1_ := Aside0.mk (pw_below_drewN bB nd); clear HO HB; have HO := n0_; have HB := n1_; clear n0_ n1_) | fail)
          go_roundg k2
          case measure => omega
          case rel => exact ⟨wrap64 (x6 - 1), (by first | rfl | (simp; done)), ⟨HW.out⟩, ⟨by have := HQ.out; omega⟩, ⟨by have := HM.out; simpa using this⟩, ⟨(by (with_reducible repeat (first | apply Kd.R_alloc | apply Kd.R_drewN | apply Kd.R_drew)); exact HO.out)⟩, ⟨bB⟩⟩
         | false =>
          have c3 : decide (0 < cv) = false := Option.some.inj hb
          clear hb
          have H := HM.out
          clear HM
          simp only [Bool.false_eq_true, if_false, Option.some.injEq] at H
          have HM1 := Aside0.mk (show (m : Int) = x6 by have := HX.out; omega)
          clear H
          obtain ⟨hx, hm_⟩ : x6 = (m : Int) ∧ m ≤ o.length := ⟨by have := HX.out; have := HM1.out; omega, by have h1 := HM1.out; have h2 := HX.out; have h3 := HQ.out; omega⟩
          have HX2 := Aside0.mk (And.intro hx hm_)
          clear hx hm_
          have LM := Aside0.mk (show o.length < 1000000 by have := HL.out; have := HK.out; omega)
          go_wp2_with (first | (go_at_call 142; refine (impl_compareLists.calls k OA oc (osB l0 y) SA sc (osB l0 (x9 + 1)) cv _ (Kd.C_below RY.out.2 bB) RY.out.1 (Kd.C_below RS.out.2 bB) RS.out.1 HCV.out).mono ?_; rintro e w' ⟨rfl, hdz⟩; (obtain ⟨nd, rfl⟩ := hdz); have n0_ := Aside0.mk (Kd.R_below HO.out (pw_below_drewN (Below.refl _ _) nd)); have n1_ := Aside0.mk (pw_below_drewN bB nd); clear HO HB; have HO := n0_; have HB := n1_; clear n0_ n1_) | ((with_reducible refine gate_builtin (b := .append) (xs := #[.tmp 51, .tmp 52]) rfl ?_); at_builtin; refine Kd.R_append (osK T) (w0 := w) w.heap.size rfl (.tmp 51) (.tmp 52) 30 37 (.slice none 0 0) 24 rfl Try.underlying30 info37 rfl Nat.one_pos (by omega) (.slice (some ad2) o.length co) o 0 [.slice none 0 0] (fun _ => True) (fun _ => False) rfl rfl ?aP (fun _ hk => hk.elim) ?aF ?aO ?aB ?aS ?aL ?_; (case aP => exact (by show _ = [osE T 0]; unfold osE; rw [TZ.out])); (case aB => exact bB); (case aF => exact (fun _ _ => trivial)); (case aO => exact (by (with_reducible repeat (first | apply Kd.R_alloc | apply Kd.R_drewN | apply Kd.R_drew)); exact HO.out)); (case aS => exact (below_size bB)); (case aL => have := LM.out; omega); intro v5 w8 ho hb hg hat; have n0_ := Aside0.mk (hb); have n1_ := Aside0.mk (ho); clear HB; clear HO; have HB := n0_; have HO := n1_; clear n0_ n1_; clear ho hb hg hat))
          obtain ⟨go, cp, eo, gb, gl, cl, HG⟩ := Kd.R_form HO.out (by rw [List.length_append]; simp)
          (first | subst eo | cases eo)
          have GB := Aside0.mk gb
          clear gb gl HG cl
          have hw1 : wrap64 (x6 + 1) = ((m + 1 : Nat) : Int) := by have h1 := HX2.out; have h4 := LM.out; unfold wrap64; omega
          have p4 : 0 ≤ wrap64 (x6 + 1) := by omega
          have q4 : wrap64 (x6 + 1) ≤ (((o ++ [0]).length : Nat) : Int) := by have h1 := HX2.out; rw [List.length_append, List.length_singleton]; omega
          have p5 : 0 ≤ x6 := by have h1 := HX2.out; omega
          have q5 : x6 ≤ (((o ++ [0]).length : Nat) : Int) := by have h1 := HX2.out; rw [List.length_append, List.length_singleton]; omega
          have q6 : x6 < (((o ++ [0]).length : Nat) : Int) := by have h1 := HX2.out; rw [List.length_append, List.length_singleton]; omega
          have ew1 : (wrap64 (x6 + 1)).toNat = m + 1 := by rw [hw1]; rfl
          have ex8 : x6.toNat = m := by rw [HX2.out.1]; rfl
          have EW := Aside0.mk (And.intro ew1 ex8)
          clear hw1 ew1 ex8
          have ln : (o ++ [0]).length = o.length + 1 := by simp
          have LN := Aside0.mk ln
          clear ln
          generalize hoo : o ++ [0] = oo at *
          have OO := Aside0.mk hoo
          clear hoo
          refine start_ (n := 8) (S := fun w' => True) (ds := [7]) #[false, false, false, false, false, false, false, false] (by kernel_rfl) rfl rfl trivial (fun hHeld => ?_); refine with_tabW os_tab9 os_bits9 (fun HT_ HW_ => ?_)
          have n0_ := Aside0.mk (Kd.R_drew HO.out)
          have n1_ := Aside0.mk (below_drew1 HB.out)
          clear HO HB
          have HO := n0_
          have HB := n1_
          clear n0_ n1_
          generalize w8.drew = w9 at HO HB ⊢
          refine pU 0 54 #[true, false, false, false, false, false, false, false] ?_
          refine pU 1 55 #[true, true, false, false, false, false, false, false] ?_
          refine pU 2 56 #[true, true, true, false, false, false, false, false] ?_
          refine pU 4 58 #[true, true, true, false, true, false, false, false] ?_
          refine pU 5 59 #[true, true, true, false, true, true, false, false] ?_
          refine pU 3 57 #[true, true, true, true, true, true, false, false] ?_
          refine pU 6 60 #[true, true, true, true, true, true, true, false] ?_
          refine last_ (i := 7) (N := some 61) #[true, true, true, true, true, true, true, true] rfl rfl (one_of HT_.out (by kernel_rfl)) (by decide) (fun K hK => ?_)
          obtain ⟨w10, hrun, ho, hg⟩ := R_shift (P := Try.prog) (ty := 3) (t' := 30) (0 : Int) Try.underlying30 (by rw [show (Try.prog.info? 37).map (·.size) = some 1 from by kernel_rfl]) HO.out (m + 1) m (o.length - m) (cp - (m + 1)) (cp - m) (by have := HX2.out; have := LN.out; omega) (by have := HX2.out; have := LN.out; omega) (by have := HX2.out; have := LN.out; omega)
            (if cp = m + 1 then some ⟨go, 0, none⟩ else some ⟨go, m + 1, none⟩) (if cp = m then some ⟨go, 0, none⟩ else some ⟨go, m, none⟩) (fun h_ => if_neg (by have h1 := (Kd.R_reads' HO.out).2.1; have := LN.out; omega)) (fun h_ => if_neg (by have h1 := (Kd.R_reads' HO.out).2.1; have := LN.out; omega))
          refine value_ (w1 := w10) (v := .int .i64 ((o.length - m : Nat) : Int)) (by rfl) rfl ?_ ?_
          ·refine sb_copy (s := .tmp 57) (x := .tmp 60) (t := 30) (t' := 30) rfl rfl rfl ?_
           simp only [EW.out.1, EW.out.2]
           exact hrun
          refine hK.out _ _ ?_
          clear hK K
          have n0_ := Aside0.mk ho
          have n1_ := Aside0.mk (HB.out.grown hg (below_size HB.out) (fun k_ e_ => by injection e_ with e_; subst e_; exact GB.out))
          clear HO HB ho hrun hg
          have HO := n0_
          have HB := n1_
          clear n0_ n1_
          have p7 := eq_true p5
          have q7 := eq_true q6
          have hl3 : (oo.take (m + 1) ++ (oo.drop m).take (o.length - m) ++ oo.drop (m + 1 + (o.length - m))).length = oo.length := by have := HX2.out; have := LN.out; simp only [List.length_append, List.length_take, List.length_drop]; omega
          obtain ⟨hx9, hf9⟩ := Kd.R_celln 0 HO.out x6 p5 q6
          have HP := Kd.R_putn HO.out x6 (x9 + 1)
          rw [show osE T (x9 + 1) = .slice SA (osB l0 (x9 + 1)).length sc from ES.out] at HP
          have HQ9 := Aside0.mk HP
          clear HP p5 q5 q6 p4 q4
          refine done_ (done_of HT_.out (by kernel_rfl)) ?_
          generalize (if cp = (wrap64 (x6 + 1)).toNat then (some ⟨go, 0, none⟩ : Option Addr) else some ⟨go, (wrap64 (x6 + 1)).toNat, none⟩) = ad37
          generalize (if cp = x6.toNat then (some ⟨go, 0, none⟩ : Option Addr) else some ⟨go, x6.toNat, none⟩) = ad40
          go_wp2
          all_goals (go_roundg k1; (case measure => omega); (case rel => exact ⟨j + 1, o.take m ++ (x9 + 1) :: o.drop m, wrap64 (x9 + 1), (by first | rfl | (simp; done)), ⟨by have h1 := HJ.out; have h2 := HK.out; have h3 := HL.out; unfold wrap64; omega⟩, ⟨by have h2 := HK.out; omega, by have h2 := HK.out; have h4 := HX2.out; simp only [List.length_append, List.length_cons, List.length_take, List.length_drop]; omega⟩, H', ⟨fun q hq => (List.mem_append.mp hq).elim (fun h_ => HM0.out q (List.mem_of_mem_take h_)) (fun h_ => (List.mem_cons.mp h_).elim (fun e_ => by rw [e_]; exact RNG.out) (fun h_ => HM0.out q (List.mem_of_mem_drop h_)))⟩, ⟨by (with_reducible repeat (first | apply Kd.R_alloc | apply Kd.R_drewN | apply Kd.R_drew)); have h8 := HQ9.out; have e9 := sb_shift o m (x9 + 1) HX2.out.2; rw [OO.out] at e9; rw [EW.out.2, e9] at h8; rw [EW.out.2]; exact h8⟩, ⟨by repeat (first | (with_reducible first | exact HB.out | apply below_alloc | apply pw_below_drewN | apply below_drew1 | refine below_set ?_ GB.out) | exact HB.out)⟩⟩))
       · rw [if_neg g2] at hb
         obtain rfl := Option.some.inj hb
         have g2a : (((osB l0 y).length : Int) == ((osB l0 (x9 + 1)).length : Int)) = false := beq_eq_false_iff_ne.mpr g2
         have g2b : ((osB l0 y).length == (osB l0 (x9 + 1)).length) = false := beq_eq_false_iff_ne.mpr (by omega)
         clear g2 hb
         have H := HM.out
         clear HM
         simp only [Bool.false_eq_true, if_false, Option.some.injEq] at H
         have HM1 := Aside0.mk (show (m : Int) = x6 by have := HX.out; omega)
         clear H
         obtain ⟨hx, hm_⟩ : x6 = (m : Int) ∧ m ≤ o.length := ⟨by have := HX.out; have := HM1.out; omega, by have h1 := HM1.out; have h2 := HX.out; have h3 := HQ.out; omega⟩
         have HX2 := Aside0.mk (And.intro hx hm_)
         clear hx hm_
         have LM := Aside0.mk (show o.length < 1000000 by have := HL.out; have := HK.out; omega)
         go_wp2_with (first | ((with_reducible refine gate_builtin (b := .append) (xs := #[.tmp 51, .tmp 52]) rfl ?_); at_builtin; refine Kd.R_append (osK T) (w0 := w) w.heap.size rfl (.tmp 51) (.tmp 52) 30 37 (.slice none 0 0) 24 rfl Try.underlying30 info37 rfl Nat.one_pos (by omega) (.slice (some ad2) o.length co) o 0 [.slice none 0 0] (fun _ => True) (fun _ => False) rfl rfl ?aP (fun _ hk => hk.elim) ?aF ?aO ?aB ?aS ?aL ?_; (case aP => exact (by show _ = [osE T 0]; unfold osE; rw [TZ.out])); (case aB => exact bB); (case aF => exact (fun _ _ => trivial)); (case aO => exact (by (with_reducible repeat (first | apply Kd.R_alloc | apply Kd.R_drewN | apply Kd.R_drew)); exact HO.out)); (case aS => exact (below_size bB)); (case aL => have := LM.out; omega); intro v5 w8 ho hb hg hat; have n0_ := Aside0.mk (hb); have n1_ := Aside0.mk (ho); clear HB; clear HO; have HB := n0_; have HO := n1_; clear n0_ n1_; clear ho hb hg hat))
         obtain ⟨go, cp, eo, gb, gl, cl, HG⟩ := Kd.R_form HO.out (by rw [List.length_append]; simp)
         (first | subst eo | cases eo)
         have GB := Aside0.mk gb
         clear gb gl HG cl
         have hw1 : wrap64 (x6 + 1) = ((m + 1 : Nat) : Int) := by have h1 := HX2.out; have h4 := LM.out; unfold wrap64; omega
         have p4 : 0 ≤ wrap64 (x6 + 1) := by omega
         have q4 : wrap64 (x6 + 1) ≤ (((o ++ [0]).length : Nat) : Int) := by have h1 := HX2.out; rw [List.length_append, List.length_singleton]; omega
         have p5 : 0 ≤ x6 := by have h1 := HX2.out; omega
         have q5 : x6 ≤ (((o ++ [0]).length : Nat) : Int) := by have h1 := HX2.out; rw [List.length_append, List.length_singleton]; omega
         have q6 : x6 < (((o ++ [0]).length : Nat) : Int) := by have h1 := HX2.out; rw [List.length_append, List.length_singleton]; omega
         have ew1 : (wrap64 (x6 + 1)).toNat = m + 1 := by rw [hw1]; rfl
         have ex8 : x6.toNat = m := by rw [HX2.out.1]; rfl
         have EW := Aside0.mk (And.intro ew1 ex8)
         clear hw1 ew1 ex8
         have ln : (o ++ [0]).length = o.length + 1 := by simp
         have LN := Aside0.mk ln
         clear ln
         generalize hoo : o ++ [0] = oo at *
         have OO := Aside0.mk hoo
         clear hoo
         refine start_ (n := 8) (S := fun w' => True) (ds := [7]) #[false, false, false, false, false, false, false, false] (by kernel_rfl) rfl rfl trivial (fun hHeld => ?_); refine with_tabW os_tab9 os_bits9 (fun HT_ HW_ => ?_)
         have n0_ := Aside0.mk (Kd.R_drew HO.out)
         have n1_ := Aside0.mk (below_drew1 HB.out)
         clear HO HB
         have HO := n0_
         have HB := n1_
         clear n0_ n1_
         generalize w8.drew = w9 at HO HB ⊢
         refine pU 0 54 #[true, false, false, false, false, false, false, false] ?_
         refine pU 1 55 #[true, true, false, false, false, false, false, false] ?_
         refine pU 2 56 #[true, true, true, false, false, false, false, false] ?_
         refine pU 4 58 #[true, true, true, false, true, false, false, false] ?_
         refine pU 5 59 #[true, true, true, false, true, true, false, false] ?_
         refine pU 3 57 #[true, true, true, true, true, true, false, false] ?_
         refine pU 6 60 #[true, true, true, true, true, true, true, false] ?_
         refine last_ (i := 7) (N := some 61) #[true, true, true, true, true, true, true, true] rfl rfl (one_of HT_.out (by kernel_rfl)) (by decide) (fun K hK => ?_)
         obtain ⟨w10, hrun, ho, hg⟩ := R_shift (P := Try.prog) (ty := 3) (t' := 30) (0 : Int) Try.underlying30 (by rw [show (Try.prog.info? 37).map (·.size) = some 1 from by kernel_rfl]) HO.out (m + 1) m (o.length - m) (cp - (m + 1)) (cp - m) (by have := HX2.out; have := LN.out; omega) (by have := HX2.out; have := LN.out; omega) (by have := HX2.out; have := LN.out; omega)
           (if cp = m + 1 then some ⟨go, 0, none⟩ else some ⟨go, m + 1, none⟩) (if cp = m then some ⟨go, 0, none⟩ else some ⟨go, m, none⟩) (fun h_ => if_neg (by have h1 := (Kd.R_reads' HO.out).2.1; have := LN.out; omega)) (fun h_ => if_neg (by have h1 := (Kd.R_reads' HO.out).2.1; have := LN.out; omega))
         refine value_ (w1 := w10) (v := .int .i64 ((o.length - m : Nat) : Int)) (by rfl) rfl ?_ ?_
         ·refine sb_copy (s := .tmp 57) (x := .tmp 60) (t := 30) (t' := 30) rfl rfl rfl ?_
          simp only [EW.out.1, EW.out.2]
          exact hrun
         refine hK.out _ _ ?_
         clear hK K
         have n0_ := Aside0.mk ho
         have n1_ := Aside0.mk (HB.out.grown hg (below_size HB.out) (fun k_ e_ => by injection e_ with e_; subst e_; exact GB.out))
         clear HO HB ho hrun hg
         have HO := n0_
         have HB := n1_
         clear n0_ n1_
         have p7 := eq_true p5
         have q7 := eq_true q6
         have hl3 : (oo.take (m + 1) ++ (oo.drop m).take (o.length - m) ++ oo.drop (m + 1 + (o.length - m))).length = oo.length := by have := HX2.out; have := LN.out; simp only [List.length_append, List.length_take, List.length_drop]; omega
         obtain ⟨hx9, hf9⟩ := Kd.R_celln 0 HO.out x6 p5 q6
         have HP := Kd.R_putn HO.out x6 (x9 + 1)
         rw [show osE T (x9 + 1) = .slice SA (osB l0 (x9 + 1)).length sc from ES.out] at HP
         have HQ9 := Aside0.mk HP
         clear HP p5 q5 q6 p4 q4
         refine done_ (done_of HT_.out (by kernel_rfl)) ?_
         generalize (if cp = (wrap64 (x6 + 1)).toNat then (some ⟨go, 0, none⟩ : Option Addr) else some ⟨go, (wrap64 (x6 + 1)).toNat, none⟩) = ad37
         generalize (if cp = x6.toNat then (some ⟨go, 0, none⟩ : Option Addr) else some ⟨go, x6.toNat, none⟩) = ad40
         go_wp2
         all_goals (go_roundg k1; (case measure => omega); (case rel => exact ⟨j + 1, o.take m ++ (x9 + 1) :: o.drop m, wrap64 (x9 + 1), (by first | rfl | (simp; done)), ⟨by have h1 := HJ.out; have h2 := HK.out; have h3 := HL.out; unfold wrap64; omega⟩, ⟨by have h2 := HK.out; omega, by have h2 := HK.out; have h4 := HX2.out; simp only [List.length_append, List.length_cons, List.length_take, List.length_drop]; omega⟩, H', ⟨fun q hq => (List.mem_append.mp hq).elim (fun h_ => HM0.out q (List.mem_of_mem_take h_)) (fun h_ => (List.mem_cons.mp h_).elim (fun e_ => by rw [e_]; exact RNG.out) (fun h_ => HM0.out q (List.mem_of_mem_drop h_)))⟩, ⟨by (with_reducible repeat (first | apply Kd.R_alloc | apply Kd.R_drewN | apply Kd.R_drew)); have h8 := HQ9.out; have e9 := sb_shift o m (x9 + 1) HX2.out.2; rw [OO.out] at e9; rw [EW.out.2, e9] at h8; rw [EW.out.2]; exact h8⟩, ⟨by repeat (first | (with_reducible first | exact HB.out | apply below_alloc | apply pw_below_drewN | apply below_drew1 | refine below_set ?_ GB.out) | exact HB.out)⟩⟩))

/-! ### impl_TimelySets: function 54 -/
def impl_TimelySets.l0 : Nat → List (S59) → List (List Int) → Int → Option ((List (List Int)) × Bool)
 | 0, _, _, _ => none
 | k + 1, x0, x4, x5 => if x5 < (shl .i64 1 (x0.length : Int)) then ((impl_listOf.f k x5).bind fun t312 => ((impl_onTime.f k x0 t312).bind fun t315 => (if t315 = true then (if x4.length < 5864062014805 then (impl_TimelySets.l0 k x0 (x4 ++ [t312]) (wrap64 (x5 + 1))) else (none)) else (impl_TimelySets.l0 k x0 x4 (wrap64 (x5 + 1)))))) else ((impl_orderedSets.f k x4).bind fun t309 => (some (t309, true)))
def impl_TimelySets.f (k : Nat) (l0 : List (S59)) : Option ((List (List Int)) × Bool) := (impl_IsPlain.f k l0).bind fun t308 => (if t308 = true then (impl_TimelySets.l0 k l0 ([] : List (List Int)) 0) else (some (([] : List (List Int)), false)))
theorem impl_TimelySets.mono_l : ∀ k, (∀ y0 y1 y2, LeO (impl_TimelySets.l0 k y0 y1 y2) (impl_TimelySets.l0 (k + 1) y0 y1 y2))
 | 0 => fun _ _ _ r h => by simp [impl_TimelySets.l0] at h
 | k + 1 => by
  have ih0 := impl_TimelySets.mono_l k
  ·intro y0 y1 y2
   unfold impl_TimelySets.l0
   repeat' first
   | (with_reducible exact ih0 _ _ _)
   | (with_reducible exact impl_IsPlain.mono _ _)
   | (with_reducible exact impl_listOf.mono _ _)
   | (with_reducible exact impl_onTime.mono _ _ _)
   | (with_reducible exact impl_orderedSets.mono _ _)
   | (with_reducible exact LeO.refl _)
   | (with_reducible exact LeO.none _)
   | (with_reducible refine LeO.ite ?_ ?_)
   | (with_reducible refine LeO.bind ?_ (fun _ => ?_))
   | exact ih0 _ _ _
   | exact impl_IsPlain.mono _ _
   | exact impl_listOf.mono _ _
   | exact impl_onTime.mono _ _ _
   | exact impl_orderedSets.mono _ _
   | exact LeO.none _
   | refine LeO.ite ?_ ?_
   | refine LeO.bind ?_ (fun _ => ?_)
theorem impl_TimelySets.mono : ∀ a0 k, LeO (impl_TimelySets.f k a0) (impl_TimelySets.f (k + 1) a0) := by
 intro a0 k
 have ih0 := impl_TimelySets.mono_l k
 unfold impl_TimelySets.f
 repeat' first
   | (with_reducible exact ih0 _ _ _)
   | (with_reducible exact impl_IsPlain.mono _ _)
   | (with_reducible exact impl_listOf.mono _ _)
   | (with_reducible exact impl_onTime.mono _ _ _)
   | (with_reducible exact impl_orderedSets.mono _ _)
   | (with_reducible exact LeO.refl _)
   | (with_reducible exact LeO.none _)
   | (with_reducible refine LeO.ite ?_ ?_)
   | (with_reducible refine LeO.bind ?_ (fun _ => ?_))
   | exact ih0 _ _ _
   | exact impl_IsPlain.mono _ _
   | exact impl_listOf.mono _ _
   | exact impl_onTime.mono _ _ _
   | exact impl_orderedSets.mono _ _
   | exact LeO.none _
   | refine LeO.ite ?_ ?_
   | refine LeO.bind ?_ (fun _ => ?_)
set_option maxHeartbeats 8000000 in
set_option maxRecDepth 100000 in
theorem impl_TimelySets.calls (k : Nat) (A0 : Option Addr) (c0 : Nat) (l0 : List (S59)) (r1 : List (List Int)) (r2 : Bool) (w : World) (hr0 : Kd.C k59 w A0 l0.length l0) (hc0 : l0.length ≤ c0) (h : impl_TimelySets.f k l0 = some (r1, r2)) :
  Calls Try.prog 54 #[.slice A0 l0.length c0] w fun e w' => ∃ v0_ : Value, e = .returned (.tuple #[v0_, .bool r2]) ∧ Kd.S (Kd.slice 3 (Kd.int .i64)) 37 w' w.heap.size (fun _ => True) v0_ r1 ∧ Below w.heap.size w w' := by
 have HR0 := Aside0.mk hr0
 have HC0 := Aside0.mk hc0
 clear hr0 hc0
 have HB := Aside0.mk (Below.refl w.heap.size w)
 have H : ((impl_IsPlain.f k l0).bind fun t308 => (if t308 = true then (impl_TimelySets.l0 k l0 ([] : List (List Int)) 0) else (some (([] : List (List Int)), false)))) = some (r1, r2) := h
 clear h
 replace H := Option.bind_eq_some_iff.mp H
 obtain ⟨t308, A20, H⟩ := H
 replace H : (if t308 = true then (impl_TimelySets.l0 k l0 ([] : List (List Int)) 0) else (some (([] : List (List Int)), false))) = some (r1, r2) := H
 have A2 := Aside0.mk A20
 clear A20
 by_cases c3 : t308 = true
 ·subst c3
  have H1 : (impl_TimelySets.l0 k l0 ([] : List (List Int)) 0) = some (r1, r2) := by rw [if_pos rfl] at H; exact H
  clear H
  have H := H1
  clear H1
  have H' := Aside0.mk H
  clear H
  go_enter Try.func54, Try.ntmps54
  go_wp2_with (first | ((with_reducible refine gate_callee (f := 59) rfl ?_); refine goesL_ (some 8) rfl rfl Try.func59 (by kernel_rfl) rfl #[.slice A0 l0.length c0] rfl aE ?_; (with_reducible refine (impl_IsPlain.calls k _ _ l0 true _ ?side1 ?side2 A2.out).mono ?_); (case side1 => exact cK HR0.out); (case side2 => exact HC0.out); rintro e w4 ⟨rfl, hb⟩; refine ⟨_, rfl, ?_⟩; have n0_ := Aside0.mk (below_step bB hb); clear HB; have HB := n0_; clear n0_; (try clear hb); (try clear hk)))
  go_loopg [4, 5] k (fun kq v4 v5 w' => ∃ (x4_1 : List (List Int)) (x5_1 : Int), v5 = .int .i64 x5_1 ∧ Aside0 (impl_TimelySets.l0 kq l0 x4_1 x5_1 = some (r1, r2)) ∧ Aside0 (kq ≤ k) ∧ Aside0 (Kd.S (Kd.slice 3 (Kd.int .i64)) 37 w' w.heap.size (fun _ => True) v4 x4_1) ∧ Aside0 (Below w.heap.size w w'))
  case atStart => exact ⟨(([] : List (List Int))), (0), sD, H', ⟨Nat.le_refl _⟩, ⟨by first | exact Kd.S_nil _ _ _ _ _ | exact Kd.N_nil _ _ _ _ _ | exact Kd.V_nil _ _ _ _ _ | exact Kd.Q_nil _ _ _ _ _ | exact Kd.R_nil _ _ _ _ _⟩, ⟨by repeat (first | (with_reducible first | exact HB.out | apply below_alloc | apply pw_below_drewN | apply below_drew1) | exact HB.out)⟩⟩
  case round =>
   clear H'
   try clear p2
   try clear c3
   obtain ⟨x4_1, x5_1, rfl, HA, HK1, HO_4, HB⟩ := hrel
   cases gk with
   | zero => exact absurd HA.out (by simp [impl_TimelySets.l0])
   | succ k1 =>
    have H := HA.out
    clear HA
    simp only [impl_TimelySets.l0] at H
    obtain ⟨ji5, hji5⟩ : ∃ j_ : Int, (shl .i64 1 (l0.length : Int)) = j_ := ⟨_, rfl⟩
    replace H : (if x5_1 < (ji5) then ((impl_listOf.f k1 x5_1).bind fun t312 => ((impl_onTime.f k1 l0 t312).bind fun t315 => (if t315 = true then (if x4_1.length < 5864062014805 then (impl_TimelySets.l0 k1 l0 (x4_1 ++ [t312]) (wrap64 (x5_1 + 1))) else (none)) else (impl_TimelySets.l0 k1 l0 x4_1 (wrap64 (x5_1 + 1)))))) else ((impl_orderedSets.f k1 x4_1).bind fun t309 => (some (t309, true)))) = some (r1, r2) := by first | (rw [hji5] at H; exact H) | (simp only [hji5] at H ⊢; exact H)
    have hji5_ : (IntKind.i64.wrap (1 * 2 ^ min (l0.length : Int).toNat 64)) = ji5 := hji5
    have hji5z : (l0.length : Int) ≤ 64 → (IntKind.i64.wrap (1 * 2 ^ (l0.length : Int).toNat)) = ji5 := shl_small hji5
    have hji5p : (IntKind.i64.wrap (1 * 2 ^ min l0.length 64)) = ji5 := hji5_
    have hji5q : (l0.length : Int) ≤ 64 → (IntKind.i64.wrap (1 * 2 ^ l0.length)) = ji5 := hji5z
    have hji5r : (IntKind.i64.wrap (2 ^ min l0.length 64)) = ji5 := by have h_ := hji5p; rw [Int.one_mul] at h_; exact h_
    have hji5s : (l0.length : Int) ≤ 64 → (IntKind.i64.wrap (2 ^ l0.length)) = ji5 := fun hle_ => by have h_ := hji5q hle_; rw [Int.one_mul] at h_; exact h_
    have hji5u : (IntKind.i64.wrap (2 ^ min (l0.length : Int).toNat 64)) = ji5 := by have h_ := hji5_; rw [Int.one_mul] at h_; exact h_
    have hji5v : (l0.length : Int) ≤ 64 → (IntKind.i64.wrap (2 ^ (l0.length : Int).toNat)) = ji5 := fun hle_ => by have h_ := hji5z hle_; rw [Int.one_mul] at h_; exact h_
    have hji5y : (wrap64 (1 * 2 ^ min (l0.length : Int).toNat 64)) = ji5 := (i64_w _).symm.trans hji5_
    have hji5x : (l0.length : Int) ≤ 64 → (wrap64 (1 * 2 ^ (l0.length : Int).toNat)) = ji5 := fun h_ => (i64_w _).symm.trans (hji5z h_)
    by_cases c6 : x5_1 < (ji5)
    ·rw [if_pos c6] at H
     have c6b0 : decide (x5_1 < (ji5)) = true := decide_eq_true c6
     clear c6
     replace H := Option.bind_eq_some_iff.mp H
     obtain ⟨t312, A70, H⟩ := H
     replace H : ((impl_onTime.f k1 l0 t312).bind fun t315 => (if t315 = true then (if x4_1.length < 5864062014805 then (impl_TimelySets.l0 k1 l0 (x4_1 ++ [t312]) (wrap64 (x5_1 + 1))) else (none)) else (impl_TimelySets.l0 k1 l0 x4_1 (wrap64 (x5_1 + 1))))) = some (r1, r2) := H
     have A7 := Aside0.mk A70
     clear A70
     replace H := Option.bind_eq_some_iff.mp H
     obtain ⟨t315, A80, H⟩ := H
     replace H : (if t315 = true then (if x4_1.length < 5864062014805 then (impl_TimelySets.l0 k1 l0 (x4_1 ++ [t312]) (wrap64 (x5_1 + 1))) else (none)) else (impl_TimelySets.l0 k1 l0 x4_1 (wrap64 (x5_1 + 1)))) = some (r1, r2) := H
     have A8 := Aside0.mk A80
     clear A80
     by_cases c9 : t315 = true
     ·subst c9
      have H1 : (if x4_1.length < 5864062014805 then (impl_TimelySets.l0 k1 l0 (x4_1 ++ [t312]) (wrap64 (x5_1 + 1))) else (none)) = some (r1, r2) := by rw [if_pos rfl] at H; exact H
      clear H
      have H := H1
      clear H1
      by_cases c10 : x4_1.length < 5864062014805; rotate_left
      ·rw [if_neg c10] at H; exact absurd H (by simp)
      rw [if_pos c10] at H
      have LMc10 := Aside0.mk c10
      clear c10
      obtain ⟨y316, hy316⟩ : ∃ y_ : List (List Int), y_ = (x4_1 ++ [t312]) := ⟨_, rfl⟩
      replace H : (impl_TimelySets.l0 k1 l0 y316 (wrap64 (x5_1 + 1))) = some (r1, r2) := by first | (rw [hy316]; with_reducible exact H) | (have H2_ := (Option.bind_some _ _).symm.trans H; rw [hy316]; with_reducible exact H2_) | (have H2_ := (Option.bind_some _ _).symm.trans H; with_reducible exact H2_) | with_reducible exact H | (rw [hy316]; exact H) | exact H
      have Ny316 := Aside0.mk hy316
      clear hy316
      have H' := Aside0.mk H
      clear H
      go_wp2_with (first | ((with_reducible refine gate_callee (f := 95) rfl ?_); refine goesL_ (some 18) rfl rfl Try.func95 (by kernel_rfl) rfl #[.int .i64 x5_1] rfl aE ?_; (with_reducible refine (impl_listOf.calls k1 x5_1 t312 _ A7.out).mono ?_); rintro e w11 ⟨v313, rfl, ho0, hb⟩; refine ⟨_, rfl, ?_⟩; have n0_ := Aside0.mk (Kd.S_elder' (by (with_reducible repeat (first | apply Kd.S_alloc | apply Kd.S_drewN | apply Kd.S_drew)); exact HO_4.out) (Kd.R_base ho0) hb); have n1_ := Aside0.mk (Kd.R_lower ho0 (below_size bB)); have n2_ := Aside0.mk (below_step bB hb); clear HO_4; clear HB; have HO_4 := n0_; have HO314 := n1_; have HB := n2_; clear n0_ n1_ n2_; (try clear hb); (try clear hk); (try clear ho0); obtain ⟨Ao12, co12, eo12⟩ := Kd.R_slice HO314.out; subst eo12) | ((with_reducible refine gate_callee (f := 107) rfl ?_); refine goesL_ (some 21) rfl rfl Try.func107 (by kernel_rfl) rfl #[.slice A0 l0.length c0, .slice Ao12 t312.length co12] rfl aE ?_; (with_reducible refine (impl_onTime.calls k1 _ _ l0 _ _ t312 true _ ?side1 ?side2 ?side3 ?side4 A8.out).mono ?_); (case side1 => exact cK ((Kd.C_below HR0.out HB.out))); (case side2 => exact HC0.out); (case side3 => exact cK ((Kd.R_reads' HO314.out).2.2)); (case side4 => exact (Kd.R_reads' HO314.out).2.1); rintro e w13 ⟨rfl, hb⟩; refine ⟨_, rfl, ?_⟩; have n0_ := Aside0.mk (sB HO_4 hb); have n1_ := Aside0.mk (rB HO314 hb); have n2_ := Aside0.mk (below_step bB hb); clear HO_4; clear HO314; clear HB; have HO_4 := n0_; have HO314 := n1_; have HB := n2_; clear n0_ n1_ n2_; (try clear hb); (try clear hk)) | ((with_reducible refine gate_builtin (b := .append) (xs := #[.tmp 22, .tmp 24]) rfl ?_); at_builtin; refine Kd.S_append (Kd.slice 3 (Kd.int .i64)) (w0 := w) w.heap.size rfl (.tmp 22) (.tmp 24) 30 37 (.slice none 0 0) 24 rfl Try.underlying30 info37 rfl (by decide) (by omega) u4 x4_1 t312 [.slice Ao12 t312.length co12] (fun _ => True) (fun k_ => some k_ = (.slice Ao12 t312.length co12 : Value).ownBlock) rfl rfl ?aP (fun k_ hk_ => ((Kd.R_mono (ok' := fun k_ => ((fun _ => True)) k_ ∧ some k_ ≠ (u4 : Value).ownBlock) (Kd.R_apart' (HO314.out) (Kd.S_typed HO_4.out) (by decide)) (fun k_ hk => ⟨trivial, hk.2⟩))).1 k_ hk_.symm) ?aF ?aO ?aB ?aS ?aL ?_; (case aP => exact Kd.M_row (Kd.R_mono (Kd.R_tight rfl (Kd.R_mono (ok' := fun k_ => ((fun _ => True)) k_ ∧ some k_ ≠ (u4 : Value).ownBlock) (Kd.R_apart' (HO314.out) (Kd.S_typed HO_4.out) (by decide)) (fun k_ hk => ⟨trivial, hk.2⟩))) (fun _ h_ => h_))); (case aB => exact bB); (case aF => exact (fun _ _ => trivial)); (case aO => exact (by (with_reducible repeat (first | apply Kd.S_alloc | apply Kd.S_drewN | apply Kd.S_drew)); exact Kd.S_mono HO_4.out (fun k_ hk => ⟨trivial, fun e_ => hk.2 e_⟩))); (case aS => exact (below_size bB)); (case aL => have := LMc10.out; omega); intro v317 w14 ho hb hg hat; rw [← Ny316.out] at ho; have n0_ := Aside0.mk (hb); have n1_ := Aside0.mk (ho); clear HB; clear HO_4; clear HO314; have HB := n0_; have HO318 := n1_; clear n0_ n1_; clear ho hb hg hat))
      go_roundg k1
      case measure => have := HK1.out; omega
      case rel => exact ⟨(y316), (wrap64 (x5_1 + 1)), sD, H', ⟨by have := HK1.out; omega⟩, ⟨kS⟩, ⟨by repeat (first | (with_reducible first | exact HB.out | apply below_alloc | apply pw_below_drewN | apply below_drew1) | exact HB.out)⟩⟩
     ·replace c9 := Bool.eq_false_iff.mpr c9
      subst c9
      have H1 : (impl_TimelySets.l0 k1 l0 x4_1 (wrap64 (x5_1 + 1))) = some (r1, r2) := by rw [if_neg (show ¬ (false = true) by decide)] at H; exact H
      clear H
      have H := H1
      clear H1
      have H' := Aside0.mk H
      clear H
      go_wp2_with (first | ((with_reducible refine gate_callee (f := 95) rfl ?_); refine goesL_ (some 18) rfl rfl Try.func95 (by kernel_rfl) rfl #[.int .i64 x5_1] rfl aE ?_; (with_reducible refine (impl_listOf.calls k1 x5_1 t312 _ A7.out).mono ?_); rintro e w15 ⟨v313, rfl, ho0, hb⟩; refine ⟨_, rfl, ?_⟩; have n0_ := Aside0.mk (Kd.S_elder' (by (with_reducible repeat (first | apply Kd.S_alloc | apply Kd.S_drewN | apply Kd.S_drew)); exact HO_4.out) (Kd.R_base ho0) hb); have n1_ := Aside0.mk (Kd.R_lower ho0 (below_size bB)); have n2_ := Aside0.mk (below_step bB hb); clear HO_4; clear HB; have HO_4 := n0_; have HO314 := n1_; have HB := n2_; clear n0_ n1_ n2_; (try clear hb); (try clear hk); (try clear ho0); obtain ⟨Ao16, co16, eo16⟩ := Kd.R_slice HO314.out; subst eo16) | ((with_reducible refine gate_callee (f := 107) rfl ?_); refine goesL_ (some 21) rfl rfl Try.func107 (by kernel_rfl) rfl #[.slice A0 l0.length c0, .slice Ao16 t312.length co16] rfl aE ?_; (with_reducible refine (impl_onTime.calls k1 _ _ l0 _ _ t312 false _ ?side1 ?side2 ?side3 ?side4 A8.out).mono ?_); (case side1 => exact cK ((Kd.C_below HR0.out HB.out))); (case side2 => exact HC0.out); (case side3 => exact cK ((Kd.R_reads' HO314.out).2.2)); (case side4 => exact (Kd.R_reads' HO314.out).2.1); rintro e w17 ⟨rfl, hb⟩; refine ⟨_, rfl, ?_⟩; have n0_ := Aside0.mk (sB HO_4 hb); have n1_ := Aside0.mk (rB HO314 hb); have n2_ := Aside0.mk (below_step bB hb); clear HO_4; clear HO314; clear HB; have HO_4 := n0_; have HO314 := n1_; have HB := n2_; clear n0_ n1_ n2_; (try clear hb); (try clear hk)))
      go_roundg k1
      case measure => have := HK1.out; omega
      case rel => exact ⟨(x4_1), (wrap64 (x5_1 + 1)), sD, H', ⟨by have := HK1.out; omega⟩, ⟨by (with_reducible repeat (first | apply Kd.S_alloc | apply Kd.S_drewN | apply Kd.S_drew)); exact Kd.S_mono HO_4.out (fun _ hk => trivial)⟩, ⟨by repeat (first | (with_reducible first | exact HB.out | apply below_alloc | apply pw_below_drewN | apply below_drew1) | exact HB.out)⟩⟩
    ·rw [if_neg c6] at H
     have c6b0 : decide (x5_1 < (ji5)) = false := decide_eq_false c6
     clear c6
     replace H := Option.bind_eq_some_iff.mp H
     obtain ⟨t309, A180, H⟩ := H
     replace H : (some (t309, true)) = some (r1, r2) := H
     have A18 := Aside0.mk A180
     clear A180
     simp only [Option.some.injEq, Prod.mk.injEq] at H
     obtain ⟨rfl, rfl⟩ := H
     obtain ⟨Ao19, co19, eo19⟩ := Kd.S_slice HO_4.out
     subst eo19
     go_wp2_with (first | ((with_reducible refine gate_callee (f := 108) rfl ?_); refine goesL_ (some 27) rfl rfl Try.func108 (by kernel_rfl) rfl #[.slice Ao19 x4_1.length co19] rfl aE ?_; (with_reducible refine (impl_orderedSets.calls (b0 := w.heap.size) k1 _ _ x4_1 t309 _ ?side1 ?side2 A18.out).mono ?_); (case side2 => exact Kd.S_mono (by (with_reducible repeat (first | apply Kd.S_alloc | apply Kd.S_drewN | apply Kd.S_drew)); exact HO_4.out) (fun _ _ => trivial)); (case side1 => exact below_size bB); rintro e w20 ⟨v310, rfl, ho0, hb⟩; refine ⟨_, rfl, ?_⟩; have n1_ := Aside0.mk ho0; have n2_ := Aside0.mk (below_step bB hb); clear HO_4; clear HB; have HO311 := n1_; have HB := n2_; clear n1_ n2_; (try clear hb); (try clear hk); (try clear ho0)))
     go_ret2
     exact ⟨_, by first | rfl | (simp [errW_none, errW_some] <;> rfl) | (simp only [← hji5]; first | rfl | (simp [errW_none, errW_some] <;> rfl)) | (simp [*, errW_none, errW_some] <;> rfl), by (with_reducible repeat (first | apply Kd.S_alloc | apply Kd.S_drewN | apply Kd.S_drew)); exact Kd.S_mono HO311.out (fun _ hk => trivial), bB⟩
 ·replace c3 := Bool.eq_false_iff.mpr c3
  subst c3
  have H1 : (some (([] : List (List Int)), false)) = some (r1, r2) := by rw [if_neg (show ¬ (false = true) by decide)] at H; exact H
  clear H
  have H := H1
  clear H1
  simp only [Option.some.injEq, Prod.mk.injEq] at H
  obtain ⟨rfl, rfl⟩ := H
  go_enter Try.func54, Try.ntmps54
  go_wp2_with (first | ((with_reducible refine gate_callee (f := 59) rfl ?_); refine goesL_ (some 8) rfl rfl Try.func59 (by kernel_rfl) rfl #[.slice A0 l0.length c0] rfl aE ?_; (with_reducible refine (impl_IsPlain.calls k _ _ l0 false _ ?side1 ?side2 A2.out).mono ?_); (case side1 => exact cK HR0.out); (case side2 => exact HC0.out); rintro e w21 ⟨rfl, hb⟩; refine ⟨_, rfl, ?_⟩; have n0_ := Aside0.mk (below_step bB hb); clear HB; have HB := n0_; clear n0_; (try clear hb); (try clear hk)))
  go_ret2
  exact ⟨_, by first | rfl | (simp [errW_none, errW_some] <;> rfl) | (simp [*, errW_none, errW_some] <;> rfl), by first | exact Kd.S_nil _ _ _ _ _ | exact Kd.N_nil _ _ _ _ _ | exact Kd.V_nil _ _ _ _ _ | exact Kd.Q_nil _ _ _ _ _ | exact Kd.R_nil _ _ _ _ _, bB⟩

/-! ### laws_FnExactTimelySets: function 14 -/
def laws_FnExactTimelySets.f (k : Nat) (l0 : List (S63)) : Option (Bool) := (laws_szJobS.f l0 1048576).bind fun t => if t < 0 then some true else
  (laws_toJobS.f k l0).bind fun x => (spec_TimelySets.f k x).bind fun s => (impl_TimelySets.f k x).bind fun g => (laws_eqIntSS.f k g.1 s.1).bind fun e1 => (laws_eqJobS.f k x x).bind fun e2 => (laws_markJobS.f k x 1).bind fun m1 => (laws_markIntSS.f k g.1 1).bind fun m2 => (laws_heldIntSS.f k m2.2 1).bind fun q =>
  if e1 = true ∧ g.2 = s.2 ∧ e2 = true ∧ ¬ m1.1 < 0 ∧ ¬ q < 0 ∧ q = m2.1 then some true else none
theorem laws_FnExactTimelySets.mono : ∀ a0 k, LeO (laws_FnExactTimelySets.f k a0) (laws_FnExactTimelySets.f (k + 1) a0) := fun a0 k =>
  LeO.bind (LeO.refl _) (fun _ => LeO.ite (LeO.refl _) (LeO.bind (laws_toJobS.mono a0 k) (fun _ => LeO.bind (spec_TimelySets.mono _ k) (fun _ => LeO.bind (impl_TimelySets.mono _ k) (fun _ => LeO.bind (laws_eqIntSS.mono _ _ k) (fun _ => LeO.bind (laws_eqJobS.mono _ _ k) (fun _ => LeO.bind (laws_markJobS.mono _ _ k) (fun _ => LeO.bind (laws_markIntSS.mono _ _ k) (fun _ => LeO.bind (laws_heldIntSS.mono _ _ k) (fun _ => LeO.refl _))))))))))
set_option maxHeartbeats 8000000 in
set_option maxRecDepth 100000 in
theorem laws_FnExactTimelySets.calls (k : Nat) (A0 : Option Addr) (c0 : Nat) (l0 : List (S63)) (r : Bool) (w : World) (hr0 : Kd.C k63 w A0 l0.length l0) (hc0 : l0.length ≤ c0) (h : laws_FnExactTimelySets.f k l0 = some r) :
  Calls Try.prog 14 #[.slice A0 l0.length c0] w fun e w' => e = .returned (.bool r) ∧ Below w.heap.size w w' := by
 have HR0 := Aside0.mk hr0
 have HC0 := Aside0.mk hc0
 clear hr0 hc0
 have HB := Aside0.mk (Below.refl w.heap.size w)
 obtain ⟨t, hsz, h⟩ := Option.bind_eq_some_iff.mp h
 have HSZ := Aside0.mk hsz
 clear hsz
 by_cases c4 : t < 0
 · rw [if_pos c4] at h
   have c4b : decide (t < 0) = true := decide_eq_true c4
   obtain rfl := Option.some.inj h
   go_enter Try.func14, Try.ntmps14
   go_wp2_with (first | (go_at_call 15; (refine (laws_szJobS.calls A0 c0 l0 1048576 t _ HR0.out HC0.out HSZ.out).mono ?_); rintro e wz ⟨rfl, hd⟩; have hb : Below w.heap.size w wz := (by obtain ⟨n_, rfl⟩ := hd.out; exact pw_below_drewN (Below.refl _ _) n_); have q_ := Aside0.mk (below_step HB.out hb); clear HB; have HB := q_; clear q_; clear hd hb))
   go_ret
   exact ⟨rfl, HB.out⟩
 · rw [if_neg c4] at h
   have c4b : decide (t < 0) = false := decide_eq_false c4
   obtain ⟨x, hto, h⟩ := Option.bind_eq_some_iff.mp h
   obtain ⟨⟨s1, s2⟩, hsp, h⟩ := Option.bind_eq_some_iff.mp h
   obtain ⟨⟨g1, g2⟩, him, h⟩ := Option.bind_eq_some_iff.mp h
   obtain ⟨e1, he1, h⟩ := Option.bind_eq_some_iff.mp h
   obtain ⟨e2, he2, h⟩ := Option.bind_eq_some_iff.mp h
   obtain ⟨⟨m1, m2⟩, hmj, h⟩ := Option.bind_eq_some_iff.mp h
   obtain ⟨⟨mm, gg⟩, hmi, h⟩ := Option.bind_eq_some_iff.mp h
   obtain ⟨q, hhe, h⟩ := Option.bind_eq_some_iff.mp h
   dsimp only at he1 hmi hhe h
   by_cases hc : e1 = true ∧ g2 = s2 ∧ e2 = true ∧ ¬ m1 < 0 ∧ ¬ q < 0 ∧ q = mm
   case neg => rw [if_neg hc] at h; exact absurd h (by simp)
   rw [if_pos hc] at h
   obtain rfl := Option.some.inj h
   clear h
   obtain ⟨rfl, rfl, rfl, hm1, hq, rfl⟩ := hc
   have HTO := Aside0.mk hto
   have HSP := Aside0.mk hsp
   have HIM := Aside0.mk him
   have HE1 := Aside0.mk he1
   have HE2 := Aside0.mk he2
   have HMJ := Aside0.mk hmj
   have HMI := Aside0.mk hmi
   have HHE := Aside0.mk hhe
   have b1 : decide (m1 < 0) = false := decide_eq_false hm1
   have b2 : decide (q < 0) = false := decide_eq_false hq
   have b3 : (g2 != g2) = false := bne_self_eq_false _
   have b4 : (q != q) = false := bne_self_eq_false _
   clear hto hsp him he1 he2 hmj hmi hhe hm1 hq c4
   go_enter Try.func14, Try.ntmps14
   go_upto_region 6 with (first | (go_at_call 15; (refine (laws_szJobS.calls A0 c0 l0 1048576 t _ HR0.out HC0.out HSZ.out).mono ?_); rintro e wz ⟨rfl, hd⟩; have hb : Below w.heap.size w wz := (by obtain ⟨n_, rfl⟩ := hd.out; exact pw_below_drewN (Below.refl _ _) n_); have q_ := Aside0.mk (below_step HB.out hb); clear HB; have HB := q_; clear q_; clear hd hb) | (go_at_call 17; (refine (laws_toJobS.calls k A0 c0 l0 x _ (Kd.C_below HR0.out HB.out) HC0.out HTO.out).mono ?_); rintro e w1 ⟨v1, rfl, hx, hb⟩; (obtain ⟨A1, c1, e1⟩ := Kd.R_slice hx); subst e1; have HX := Aside0.mk (Kd.R_reads' hx); have q_ := Aside0.mk (below_step HB.out hb); clear HB; have HB := q_; clear q_; clear hx hb) | (go_at_call 53; (refine (spec_TimelySets.calls k A1 c1 x s1 g2 _ HX.out.2.2 HX.out.2.1 HSP.out).mono ?_); rintro e wa ⟨vs, rfl, hs, hb⟩; (obtain ⟨AS, cS, e1⟩ := Kd.N_slice hs); subst e1; have HSC := Aside0.mk (Kd.N_reads' hs); have q_ := Aside0.mk (below_step HB.out hb); clear HB; have HB := q_; clear q_; have HWA := Aside0.mk HB.out; clear hs hb HX))
   go_upto_region 7 with (first | (go_at_call 17; (refine (laws_toJobS.calls k A0 c0 l0 x _ (Kd.C_below HR0.out HB.out) HC0.out HTO.out).mono ?_); rintro e wb ⟨vx, rfl, hx, hb⟩; (obtain ⟨AX, cX, e1⟩ := Kd.R_slice hx); subst e1; have HX := Aside0.mk (Kd.R_tight rfl hx); have HXL := Aside0.mk (Kd.R_lt hx); have HXC := Aside0.mk (Kd.R_reads' hx).2.1; have HA := Aside0.mk hb; have q_ := Aside0.mk (below_step HB.out hb); clear HB; have HB := q_; clear q_; clear hx hb))
   go_upto_region 8 with (first | (go_at_call 54; (refine (impl_TimelySets.calls k AX cX x g1 g2 _ (Kd.R_reads' HX.out).2.2 HXC.out HIM.out).mono ?_); rintro e wc ⟨vg, rfl, hg, hb⟩; (obtain ⟨AG, cG, e1⟩ := Kd.S_slice hg); subst e1; have HG := Aside0.mk (Kd.S_mono (ok' := fun q_ => wb.heap.size ≤ q_) (Kd.S_bound hg) (fun q_ hq_ => hq_.2.1)); have HGC := Aside0.mk (Kd.S_reads' hg).2.1; have HBC_ := Aside0.mk hb; have HNB := Aside0.mk HA.out.size; have q_ := Aside0.mk (Kd.R_below HX.out hb); clear HX; have HX := q_; clear q_; have q_ := Aside0.mk (below_step HA.out hb); clear HA; have HA := q_; clear q_; have q_ := Aside0.mk (below_step HWA.out HA.out); clear HB; have HB := q_; clear q_; clear hg hb; have HWB := Aside0.mk (show wb.heap.size ≤ wc.heap.size from HBC_.out.size); clear HBC_))
   go_upto_region 10 with (first | (go_at_call 22; (refine (laws_eqIntSS.calls k AG cG g1 AS cS s1 true _ (Kd.S_reads' HG.out).2.2 HGC.out (Kd.C_below HSC.out.2.2 HA.out) HSC.out.2.1 HE1.out).mono ?_); rintro e wd ⟨rfl, hd⟩; have hb : Below wc.heap.size wc wd := (by obtain ⟨n_, rfl⟩ := hd.out; exact pw_below_drewN (Below.refl _ _) n_); have q_ := Aside0.mk (Kd.R_below HX.out hb); clear HX; have HX := q_; clear q_; have q_ := Aside0.mk (Kd.S_below HG.out hb); clear HG; have HG := q_; clear q_; have q_ := Aside0.mk (below_step HA.out hb); clear HA; have HA := q_; clear q_; have q_ := Aside0.mk (below_step HB.out hb); clear HB; have HB := q_; clear q_; have q_ := Aside0.mk (Nat.le_trans HWB.out hb.size); clear HWB; have HWB := q_; clear q_; clear hd hb))
   go_upto_region 12 with (first | (go_at_call 17; (refine (laws_toJobS.calls k A0 c0 l0 x _ (Kd.C_below HR0.out HB.out) HC0.out HTO.out).mono ?_); rintro e we ⟨vy, rfl, hy, hb⟩; (obtain ⟨AY, cY, e1⟩ := Kd.R_slice hy); subst e1; have HY := Aside0.mk (Kd.R_reads' hy); have q_ := Aside0.mk (Kd.R_below HX.out hb); clear HX; have HX := q_; clear q_; have q_ := Aside0.mk (Kd.S_below HG.out hb); clear HG; have HG := q_; clear q_; have q_ := Aside0.mk (below_step HA.out hb); clear HA; have HA := q_; clear q_; have q_ := Aside0.mk (below_step HB.out hb); clear HB; have HB := q_; clear q_; have q_ := Aside0.mk (Nat.le_trans HWB.out hb.size); clear HWB; have HWB := q_; clear q_; clear hy hb) | (go_at_call 19; (refine (laws_eqJobS.calls k AX cX x AY cY x true _ (Kd.R_reads' HX.out).2.2 HXC.out HY.out.2.2 HY.out.2.1 HE2.out).mono ?_); rintro e wf ⟨rfl, hb⟩; have q_ := Aside0.mk (Kd.R_below HX.out hb); clear HX; have HX := q_; clear q_; have q_ := Aside0.mk (Kd.S_below HG.out hb); clear HG; have HG := q_; clear q_; have q_ := Aside0.mk (below_step HA.out hb); clear HA; have HA := q_; clear q_; have q_ := Aside0.mk (below_step HB.out hb); clear HB; have HB := q_; clear q_; have q_ := Aside0.mk (Nat.le_trans HWB.out hb.size); clear HWB; have HWB := q_; clear q_; clear hb HY))
   go_upto_region 14 with (first | (go_at_call 23; (refine (laws_markJobS.calls k (fun q_ => some q_ = (Value.slice AX x.length cX).ownBlock) _ x 1 m1 m2 wa _ HA.out HX.out HMJ.out).mono ?_); rintro e wg ⟨rfl, ho, hb, hk⟩; have q_ := Aside0.mk (Kd.S_step HG.out (fun q_ hq_ hlt => hk.2 q_ hlt (fun e_ => Nat.not_le.2 (HXL.out q_ e_.symm) hq_))); clear HG; have HG := q_; clear q_; clear HA HB HX; have HA := Aside0.mk hb; have HB := Aside0.mk (below_step HWA.out hb); have q_ := Aside0.mk (Nat.le_trans HWB.out hk.1); clear HWB; have HWB := q_; clear q_; clear ho hb hk))
   go_upto_region 16 with (first | (go_at_call 22; (refine (laws_eqIntSS.calls k AG cG g1 AS cS s1 true _ (Kd.S_reads' HG.out).2.2 HGC.out (Kd.C_below HSC.out.2.2 HA.out) HSC.out.2.1 HE1.out).mono ?_); rintro e wi ⟨rfl, hd⟩; have hb : Below wg.heap.size wg wi := (by obtain ⟨n_, rfl⟩ := hd.out; exact pw_below_drewN (Below.refl _ _) n_); have q_ := Aside0.mk (Kd.S_below HG.out hb); clear HG; have HG := q_; clear q_; have q_ := Aside0.mk (below_step HA.out hb); clear HA; have HA := q_; clear q_; have q_ := Aside0.mk (below_step HB.out hb); clear HB; have HB := q_; clear q_; have q_ := Aside0.mk (Nat.le_trans HWB.out hb.size); clear HWB; have HWB := q_; clear q_; clear hd hb))
   go_upto_region 18 with (first | (go_at_call 24; (refine (laws_markIntSS.calls k (fun q_ => wb.heap.size ≤ q_) _ g1 1 q gg wa _ HA.out (fun q_ hq_ => Nat.le_trans HWB.out hq_) (Kd.S_lower HG.out HNB.out) HMI.out).mono ?_); rintro e wj ⟨rfl, hs, hb, hk⟩; clear HG HA HB; have HG := Aside0.mk hs; have HGL := Aside0.mk (Kd.S_reads' hs).1; have HA := Aside0.mk hb; have HB := Aside0.mk (below_step HWA.out hb); clear hs hb hk))
   go_upto_region 24 with (first | (go_at_call 25; have hc_ := laws_heldIntSS.calls k AG cG gg 1 q _ (Kd.S_reads' HG.out).2.2 (by rw [← HGL.out]; exact HGC.out) HHE.out; rw [← HGL.out] at hc_; (refine hc_.mono ?_); clear hc_; rintro e wl ⟨rfl, hd⟩; have hb : Below wj.heap.size wj wl := (by obtain ⟨n_, rfl⟩ := hd.out; exact pw_below_drewN (Below.refl _ _) n_); have q_ := Aside0.mk (Kd.S_below HG.out hb); clear HG; have HG := q_; clear q_; have q_ := Aside0.mk (below_step HA.out hb); clear HA; have HA := q_; clear q_; have q_ := Aside0.mk (below_step HB.out hb); clear HB; have HB := q_; clear q_; clear hd hb))
   go_upto_region 25 with (first | (go_at_call 17; (refine (laws_toJobS.calls k A0 c0 l0 x _ (Kd.C_below HR0.out HB.out) HC0.out HTO.out).mono ?_); rintro e wm ⟨vz, rfl, hz, hb⟩; (obtain ⟨AZ, cZ, e1⟩ := Kd.R_slice hz); subst e1; have HZ := Aside0.mk (Kd.R_reads' hz); have q_ := Aside0.mk (Kd.S_below HG.out hb); clear HG; have HG := q_; clear q_; have q_ := Aside0.mk (below_step HA.out hb); clear HA; have HA := q_; clear q_; have q_ := Aside0.mk (below_step HB.out hb); clear HB; have HB := q_; clear q_; clear hz hb) | (go_at_call 54; (refine (impl_TimelySets.calls k AZ cZ x g1 g2 _ HZ.out.2.2 HZ.out.2.1 HIM.out).mono ?_); rintro e wn ⟨vh, rfl, hh, hb⟩; (obtain ⟨AH, cH, e1⟩ := Kd.S_slice hh); subst e1; have HH := Aside0.mk (Kd.S_reads' hh); have q_ := Aside0.mk (Kd.S_below HG.out hb); clear HG; have HG := q_; clear q_; have q_ := Aside0.mk (below_step HA.out hb); clear HA; have HA := q_; clear q_; have q_ := Aside0.mk (below_step HB.out hb); clear HB; have HB := q_; clear q_; clear hh hb HZ))
   go_upto_region 27 with (first | (go_at_call 22; (refine (laws_eqIntSS.calls k AH cH g1 AS cS s1 true _ HH.out.2.2 HH.out.2.1 (Kd.C_below HSC.out.2.2 HA.out) HSC.out.2.1 HE1.out).mono ?_); rintro e wo ⟨rfl, hd⟩; have hb : Below wn.heap.size wn wo := (by obtain ⟨n_, rfl⟩ := hd.out; exact pw_below_drewN (Below.refl _ _) n_); have q_ := Aside0.mk (Kd.S_below HG.out hb); clear HG; have HG := q_; clear q_; have q_ := Aside0.mk (below_step HA.out hb); clear HA; have HA := q_; clear q_; have q_ := Aside0.mk (below_step HB.out hb); clear HB; have HB := q_; clear q_; clear hd hb HH))
   go_wp2_with (first | (go_at_call 25; have hc_ := laws_heldIntSS.calls k AG cG gg 1 q _ (Kd.S_reads' HG.out).2.2 (by rw [← HGL.out]; exact HGC.out) HHE.out; rw [← HGL.out] at hc_; (refine hc_.mono ?_); clear hc_; rintro e wp ⟨rfl, hd⟩; have hb : Below wo.heap.size wo wp := (by obtain ⟨n_, rfl⟩ := hd.out; exact pw_below_drewN (Below.refl _ _) n_); have q_ := Aside0.mk (below_step HA.out hb); clear HA; have HA := q_; clear q_; clear hd hb))
   go_ret
   exact ⟨rfl, below_step HWA.out HA.out⟩

end Go.Proofs.Ythhmembnhnghiaa.OFnExactTimelySets
