/- Functions of the program as plain Lean functions, with their contracts: written by this session's program ownprint.py. Conditions: none. -/
import Derived.Test.YtecdigebnhlfhaaOFnExactInitialSetsx0
import Derived.Test.YtecdigebnhlfhaaOFnExactInitialSetsx9
import Derived.Test.YtecdigebnhlfhaaOFnExactInitialSetsx10
import Derived.Test.YtecdigebnhlfhaaOFnExactInitialSetsx11
namespace Go.Proofs.Ytecdigebnhlfhaa.OFnExactInitialSets
open Go.RowKit Go.Proofs.YtecdigebnhlfhaaW.PrintWords Go.Proofs.YtecdigebnhlfhaaW.PrintLast Go.Proofs.YtecdigebnhlfhaaW.PrintMore
attribute [local go_sem] max2_int min2_int max_two min_two max_three min_three max_four min_four   -- for this text's walks alone
set_option linter.unusedVariables false
set_option linter.unusedSimpArgs false

/-! ### sortedBy: words -/
theorem encs_drop {α : Type} (enc : α → Value) (xs : List α) (i : Nat) : encs enc (xs.drop i) = (encs enc xs).drop i := by simp [encs, List.map_drop]
theorem encs_take {α : Type} (enc : α → Value) (xs : List α) (i : Nat) : encs enc (xs.take i) = (encs enc xs).take i := by simp [encs, List.map_take]
/-- copy(v[i:], v[j:]) of a row of one's own. -/
theorem R_shift {α : Type} {P : Program} {enc : α → Value} {h1 : ∀ x, (enc x).oneCell' = true} (d : α) {W : World} {base : Nat} {ok : Nat → Prop} {g n cap : Nat} {xs : List α} {e t t' ty : TypeId} (ht : P.underlying t = some (.slice e)) (hinfo : (P.info? e).map (·.size) = some 1)
    (HO : (Kd.scalar enc h1).R e W base ok (.slice (some ⟨g, 0, none⟩) n cap) xs) (i j k dc sc : Nat) (hi : i + k ≤ n) (hj : j + k ≤ n) (hk : k = min (n - j) (n - i)) (A B : Option Addr) (hA : 0 < k → A = some ⟨g, i, none⟩) (hB : 0 < k → B = some ⟨g, j, none⟩) :
    ∃ w1, (Builtin.copy_ #[t, t'] ty #[.slice A (n - i) dc, .slice B (n - j) sc]).run P W = .ok (.int .i64 (k : Int)) w1 ∧
      (Kd.scalar enc h1).R e w1 base ok (.slice (some ⟨g, 0, none⟩) n cap) (xs.take i ++ (xs.drop j).take k ++ xs.drop (i + k)) ∧ W.grownBy w1 (some g) := by
  obtain ⟨hn, hcapn, _⟩ := Kd.R_reads' HO
  rcases Nat.eq_zero_or_pos k with h0 | hp
  · refine ⟨W, ?_, ?_, World.grownBy.refl W _⟩
    · have hz := run_copy_none (P := P) W t t' ty e A B (n - i) dc (n - j) sc ht hinfo (by have h_ : Nat.min (n - j) (n - i) = min (n - j) (n - i) := rfl; omega)
      rw [hz, h0]; rfl
    · subst h0
      simpa using HO
  · have hown := Kd.own_of_R HO
    rcases hown.2 with ⟨he, hx0⟩ | ⟨g', cap', cur, hv, hb, hh, hnc, hcm, hcs, htake⟩
    · cases he
    · obtain ⟨rfl, rfl⟩ : g' = g ∧ cap' = cap := by injection hv with a b c; injection a with a; injection a with a; exact ⟨a.symm, c.symm⟩
      have htk : cur.toList.take xs.length = encs enc xs := by rw [← htake, Nat.mul_one]
      have hkl : (encs enc ((xs.drop j).take k)).length = k := by rw [encs_length, List.length_take, List.length_drop]; omega
      have hsrc : ∀ q u, (encs enc ((xs.drop j).take k))[q]? = some u → W.cell? ((⟨g', j, none⟩ : Addr).add q) = some u := by
        intro q u hu
        have hq : q < k := by
          rcases Nat.lt_or_ge q k with h | h
          · exact h
          · rw [List.getElem?_eq_none (by omega)] at hu; cases hu
        rw [show (⟨g', j, none⟩ : Addr).add q = ⟨g', j + q, none⟩ by unfold Addr.add; simp, cell_of_row W g' _ cur e (0, 0) hh]
        rw [encs_take, encs_drop, ← htk] at hu
        rw [List.getElem?_take_of_lt hq, List.getElem?_drop, List.getElem?_take_of_lt (by omega)] at hu
        simpa using hu
      have hr := run_copy_cells (P := P) W t t' ty e g' i (n - i) dc ⟨g', j, none⟩ (n - j) sc (encs enc ((xs.drop j).take k)) ht hinfo (by rw [hkl, hk]) hsrc
        (fun q hq => by rw [cell_of_row W g' _ cur e (0, 0) hh]; simp; omega) (fun q _ => blk_frozen hh _) (by intro u hu; simp only [encs, List.mem_map] at hu; obtain ⟨q, _, rfl⟩ := hu; exact h1 q)
      obtain ⟨cur', h3, h4, h5⟩ := setCells_row (encs enc ((xs.drop j).take k)) i W cur hh (by rw [hkl]; omega)
      obtain ⟨s1, s2, s3, s4⟩ := setCells_same g' (encs enc ((xs.drop j).take k)) i W
      refine ⟨_, by rw [hA hp, hB hp, hr, hkl]; exact rfl, Kd.R_of_own ?_ HO.1, ⟨s1, s2, s3, by rw [s4]; exact Nat.le_refl _, fun q _ hq => setCells_far _ _ q (fun he => hq (by rw [he]))⟩⟩
      have hln : (xs.take i ++ (xs.drop j).take k ++ xs.drop (i + k)).length = xs.length := by
        simp only [List.length_append, List.length_take, List.length_drop]
        omega
      rw [hln]
      refine ⟨by rw [encs_length, hln, Nat.mul_one], .inr ⟨g', cap', cur', by rw [hn], hb, h3, by omega, hcm, by rw [h4, hcs], ?_⟩⟩
      rw [h5, hkl, Nat.mul_one, encs_append, encs_append, encs_take, encs_drop, ← htk]
      have e1 : (cur.toList.take xs.length).take i = cur.toList.take i := by rw [List.take_take, Nat.min_eq_left (by omega)]
      have e2 : (cur.toList.take xs.length).drop (i + k) = (cur.toList.drop (i + k)).take (xs.length - (i + k)) := by rw [List.drop_take]
      have hcl : xs.length ≤ cur.toList.length := by have h_ : cur.toList.length = cur.size := Array.length_toList; omega
      rw [encs_take, encs_drop, ← htk, e1, e2]
      have l1 : (cur.toList.take i ++ ((cur.toList.take xs.length).drop j).take k).length = i + k := by
        simp only [List.length_append, List.length_take, List.length_drop]; omega
      rw [List.take_append, l1, List.take_of_length_le (by omega)]

/-- Where a number goes among numbers that are sorted by a test. -/
def sbK (p : Int → Option Bool) (o : List Int) : Nat → Option Nat
  | 0 => some 0
  | k + 1 => (p (rd o k)).bind fun b => if b = true then sbK p o k else some (k + 1)
/-- Numbers sorted by insertion. -/
def sbL (p : Int → Int → Option Bool) : List Int → List Int → Option (List Int)
  | [], o => some o
  | i :: t, o => (sbK (p i) o o.length).bind fun m => sbL p t (o.take m ++ i :: o.drop m)
theorem sbK_le {p : Int → Option Bool} {o : List Int} : ∀ (n : Nat) {m : Nat}, sbK p o n = some m → m ≤ n
  | 0, m, h => by simp only [sbK, Option.some.injEq] at h; omega
  | n + 1, m, h => by
    simp only [sbK] at h
    cases hp : p (rd o (n : Int)) with
    | none => rw [hp] at h; simp at h
    | some b =>
      rw [hp] at h
      cases b with
      | true => have := sbK_le n (show sbK p o n = some m by simpa using h); omega
      | false => simp at h; omega
theorem sb_shift' (a b : List Int) (i : Int) : ((((a ++ (b ++ [0])).take (a.length + 1) ++ ((a ++ (b ++ [0])).drop a.length).take b.length ++ (a ++ (b ++ [0])).drop (a.length + 1 + b.length))).set a.length i) = a ++ i :: b := by
  have e1 : (a ++ (b ++ [0])).take (a.length + 1) = a ++ [(b ++ [0]).head (by simp)] := by
    rw [List.take_append]
    simp
    cases b <;> simp [List.take_of_length_le]
  have e2 : ((a ++ (b ++ [0])).drop a.length).take b.length = b := by
    rw [List.drop_left]
    simp
  have e3 : (a ++ (b ++ [0])).drop (a.length + 1 + b.length) = [] := by
    apply List.drop_eq_nil_of_le
    simp; omega
  rw [e1, e2, e3]
  simp
theorem sb_shift (o : List Int) (m : Nat) (i : Int) (hm : m ≤ o.length) : (((o ++ [0]).take (m + 1) ++ ((o ++ [0]).drop m).take (o.length - m) ++ (o ++ [0]).drop (m + 1 + (o.length - m))).set m i) = o.take m ++ i :: o.drop m := by
  have h1 : (o.take m).length = m := by rw [List.length_take]; omega
  have h2 : (o.drop m).length = o.length - m := by rw [List.length_drop]
  have h := sb_shift' (o.take m) (o.drop m) i
  rw [h1, h2, ← List.append_assoc, List.take_append_drop] at h
  exact h
theorem sb_copy {P : Program} {oi : Oper} {a : Act} {w w1 : World} {v u u' : Value} {s x : Operand} {t t' : TypeId} (hop : oi.op = .call { callee := .builtin .copy, args := #[s, x], argTypes := #[t, t'] }) (hs : a.eval s = u) (hx : a.eval x = u') (hr : (Builtin.copy_ #[t, t'] oi.type #[u, u']).run P w = .ok v w1) : (execOp a.eval oi).run P w = .ok (.value v) w1 := by
  unfold execOp
  simp only [hop, resolve, invoke, builtin, Sem.run_bind, Sem.run_pure, Result.andThen_ok, List.map_toArray, List.map_cons, List.map_nil, hs, hx, hr]
/-! ### orderedSets: words -/
def osB (l : List (List Int)) (p : Int) : List Int := l.getD (p.toNat - 1) []
def osN (n : Nat) : List Int := (List.range n).map fun i : Nat => (i : Int) + 1
def osP (k : Nat) (l : List (List Int)) (i j : Int) : Option Bool := if ((osB l j).length : Int) > ((osB l i).length : Int) then some true else if ((osB l j).length : Int) = ((osB l i).length : Int) then (impl_compareLists.f k (osB l j) (osB l i)).bind fun c => some (decide (c > 0)) else some false
def impl_orderedSets.f (k : Nat) (l0 : List (List Int)) : Option (List (List Int)) := if l0.length < 1000000 then (sbL (osP k l0) (osN l0.length) []).bind fun ps => some (ps.map (osB l0)) else none
theorem sbK_mono {p q : Int → Option Bool} (hpq : ∀ j b, p j = some b → q j = some b) (o : List Int) : ∀ (n m : Nat), sbK p o n = some m → sbK q o n = some m
  | 0, m, h => by simpa [sbK] using h
  | n + 1, m, h => by
    simp only [sbK] at h ⊢
    obtain ⟨b, hb, h⟩ := Option.bind_eq_some_iff.mp h
    rw [hpq _ _ hb]
    cases b with
    | true => simpa using sbK_mono hpq o n m (by simpa using h)
    | false => simpa using h
theorem sbL_mono {p q : Int → Int → Option Bool} (hpq : ∀ i j b, p i j = some b → q i j = some b) : ∀ (l o r : List Int), sbL p l o = some r → sbL q l o = some r
  | [], o, r, h => by simpa [sbL] using h
  | i :: t, o, r, h => by
    simp only [sbL] at h ⊢
    obtain ⟨m, hm, h⟩ := Option.bind_eq_some_iff.mp h
    rw [sbK_mono (hpq i) o _ m hm]
    exact sbL_mono hpq t _ r h
theorem sbL_perm {p : Int → Int → Option Bool} : ∀ (l o r : List Int), sbL p l o = some r → r.Perm (o ++ l)
  | [], o, r, h => by simp only [sbL, Option.some.injEq] at h; subst h; simp
  | i :: t, o, r, h => by
    simp only [sbL] at h
    obtain ⟨m, hm, h⟩ := Option.bind_eq_some_iff.mp h
    refine (sbL_perm t _ r h).trans ?_
    have e : (o.take m ++ i :: o.drop m).Perm (o ++ [i]) := by
      refine List.perm_middle.trans ?_
      rw [List.take_append_drop]
      exact (List.perm_append_singleton i o).symm
    have := e.append_right t
    simpa using this
theorem osP_mono (k : Nat) (l : List (List Int)) (i j : Int) (b : Bool) (h : osP k l i j = some b) : osP (k + 1) l i j = some b := by
  unfold osP at h ⊢
  split at h
  · rename_i h1; rw [if_pos h1]; exact h
  · rename_i h1
    rw [if_neg h1]
    split at h
    · rename_i h2
      rw [if_pos h2]
      obtain ⟨c, hc, h⟩ := Option.bind_eq_some_iff.mp h
      rw [impl_compareLists.mono _ _ k c hc]
      exact h
    · rename_i h2; rw [if_neg h2]; exact h
theorem impl_orderedSets.mono : ∀ a0 k, LeO (impl_orderedSets.f k a0) (impl_orderedSets.f (k + 1) a0) := by
  intro a0 k r h
  unfold impl_orderedSets.f at h ⊢
  split at h
  · rename_i h1
    rw [if_pos h1]
    obtain ⟨ps, hp, h⟩ := Option.bind_eq_some_iff.mp h
    rw [sbL_mono (osP_mono k a0) _ _ _ hp]
    exact h
  · cases h
theorem osN_nodup (n : Nat) : (osN n).Nodup := by
  unfold osN
  rw [List.nodup_iff_pairwise_ne, List.pairwise_map]
  exact List.Pairwise.imp (fun h => by omega) (List.nodup_iff_pairwise_ne.mp List.nodup_range)
theorem osN_mem {n : Nat} {p : Int} (h : p ∈ osN n) : 1 ≤ p ∧ p ≤ n := by
  unfold osN at h
  obtain ⟨i, hi, rfl⟩ := List.mem_map.mp h
  have := List.mem_range.mp hi
  omega
theorem osN_drop (n j : Nat) (h : j < n) : (osN n).drop j = ((j : Int) + 1) :: (osN n).drop (j + 1) := by
  have hl : j < (osN n).length := by simpa [osN] using h
  rw [List.drop_eq_getElem_cons hl]
  simp [osN]
def osE (T : Int → Option Addr × Nat × Nat) (x : Int) : Value := .slice (T x).1 (T x).2.1 (T x).2.2
abbrev osK (T : Int → Option Addr × Nat × Nat) : Kd Int := Kd.scalar (osE T) (fun _ => rfl)
theorem os_one {d : Kd Int} {w : World} {b0 e e' n c0 : Nat} {f : Nat → Nat} {ok : Nat → Prop} {A0 : Option Addr} {l0 : List (List Int)} (h : (Kd.tag f (Kd.slice e' d)).R e w b0 ok (.slice A0 n c0) l0.zipIdx) (i : Nat) (hi : i < l0.length) :
    ∃ t : Option Addr × Nat × Nat, (∃ ad, A0 = some ad ∧ w.cell? (ad.add i) = some (.slice t.1 t.2.1 t.2.2)) ∧ d.R e' w b0 (fun k => (ok k ∧ some k ≠ (Value.slice A0 n c0).ownBlock) ∧ f k = i) (.slice t.1 t.2.1 t.2.2) (l0.getD i []) := by
  obtain ⟨g, cap, he, _⟩ := Kd.R_form h (by rw [List.length_zipIdx]; omega)
  injection he with ha hn hc
  subst ha
  obtain ⟨cs, hl, hM, hcc⟩ := Kd.R_getA h (([] : List Int), 0) (i : Int) (by omega) (by rw [List.length_zipIdx] at hn; omega)
  have hz : l0.zipIdx.getD (i : Int).toNat (([] : List Int), 0) = (l0.getD i [], i) := by
    rw [Int.toNat_natCast, List.getD_eq_getElem?_getD, List.getElem?_zipIdx, List.getElem?_eq_getElem hi, List.getD_eq_getElem?_getD, List.getElem?_eq_getElem hi]
    simp
  rw [hz] at hM
  obtain ⟨v, rfl, hR⟩ := hM
  obtain ⟨A, c, rfl⟩ := Kd.R_slice hR
  exact ⟨(A, (l0.getD i []).length, c), ⟨_, rfl, by have := hcc 0 _ rfl; rw [Int.toNat_natCast] at this; simpa [Kd.tag, Kd.slice] using this⟩, hR⟩
theorem os_open {d : Kd Int} {w : World} {b0 e e' c0 : Nat} {A0 : Option Addr} {l0 : List (List Int)} (hb0 : b0 ≤ w.heap.size) (h : Kd.S (Kd.slice e' d) e w b0 (fun _ => True) (.slice A0 l0.length c0) l0) :
    ∃ T : Int → Option Addr × Nat × Nat, T 0 = (none, 0, 0) ∧ (∀ i : Int, 0 ≤ i → i < (l0.length : Int) → ∃ ad, A0 = some ad ∧ w.cell? (ad.add i.toNat) = some (.slice (T (i + 1)).1 (T (i + 1)).2.1 (T (i + 1)).2.2)) ∧
      (∀ p : Int, 1 ≤ p → p ≤ (l0.length : Int) → (T p).2.1 = (osB l0 p).length ∧ (osB l0 p).length ≤ (T p).2.2 ∧ d.C w (T p).1 (osB l0 p).length (osB l0 p)) ∧
      ∀ (w' : World) (v : Value) (ps : List Int), Below w.heap.size w w' → (osK T).R e w' w.heap.size (fun _ => True) v ps → ps.Nodup → (∀ p ∈ ps, 1 ≤ p ∧ p ≤ (l0.length : Int)) → Kd.S (Kd.slice e' d) e w' b0 (fun _ => True) v (ps.map (osB l0)) := by
  obtain ⟨f, h⟩ := h
  have h1 : ∀ i : Nat, ∃ t : Option Addr × Nat × Nat, i < l0.length → (∃ ad, A0 = some ad ∧ w.cell? (ad.add i) = some (.slice t.1 t.2.1 t.2.2)) ∧ d.R e' w b0 (fun k => (True ∧ some k ≠ (Value.slice A0 l0.length c0).ownBlock) ∧ f k = i) (.slice t.1 t.2.1 t.2.2) (l0.getD i []) := fun i => by
    by_cases hi : i < l0.length
    · obtain ⟨t, ht⟩ := os_one h i hi
      exact ⟨t, fun _ => ht⟩
    · exact ⟨(none, 0, 0), fun h => absurd h hi⟩
  obtain ⟨t, ht⟩ := Classical.axiomOfChoice h1
  obtain ⟨T, hT⟩ : ∃ T : Int → Option Addr × Nat × Nat, ∀ p, T p = if p ≤ 0 then (none, 0, 0) else t (p.toNat - 1) := ⟨_, fun _ => rfl⟩
  have hT1 : ∀ p : Int, 1 ≤ p → T p = t (p.toNat - 1) := fun p hp => by rw [hT, if_neg (by omega)]
  refine ⟨T, by rw [hT]; rfl, fun i h0 hi => ?_, fun p h0 hp => ?_, fun w' v ps hb hR hnd hmem => ?_⟩
  · rw [hT1 _ (by omega), show (i + 1).toNat - 1 = i.toNat by omega]
    exact (ht i.toNat (by omega)).1
  · rw [hT1 _ h0]
    obtain ⟨_, h2⟩ := ht (p.toNat - 1) (by omega)
    obtain ⟨A, c, he, hl, hC⟩ := Kd.R_reads h2
    injection he with ha hn hc
    rw [ha, hn, hc]
    exact ⟨rfl, hl, hC⟩
  · have how := Kd.own_of_R hR
    refine ⟨fun k => ps.idxOf ((f k : Int) + 1), fun _ _ => trivial, encs (osE T) ps, ?_, ?_, fun j x hx => ?_⟩
    · rw [List.length_zipIdx, List.length_map]
      exact own_weaken how hb0
    · rw [encs_length, List.length_zipIdx, List.length_map]; exact (Nat.mul_one _).symm
    · rw [List.getElem?_zipIdx] at hx
      obtain ⟨row, hrow, rfl⟩ := Option.map_eq_some_iff.mp hx
      rw [List.getElem?_map] at hrow
      obtain ⟨p, hp, rfl⟩ := Option.map_eq_some_iff.mp hrow
      have hj : j < ps.length := (List.getElem?_eq_some_iff.mp hp).1
      obtain ⟨p0, p1⟩ := hmem p (List.mem_of_getElem? hp)
      have hcell : ((encs (osE T) ps).drop (j * 1)).take 1 = [osE T p] := by
        rw [Nat.mul_one, List.take_one, List.head?_drop]
        unfold encs
        rw [List.getElem?_map, hp]
        rfl
      have hM := (ht (p.toNat - 1) (by omega)).2
      refine ⟨osE T p, hcell, ?_⟩
      unfold osE
      rw [hT1 _ p0]
      refine Kd.R_mono (Kd.R_below (Kd.R_bound hM) hb) (fun k hk => ⟨⟨trivial, fun he => ?_⟩, ?_⟩)
      · have := own_base how k he.symm
        have := hk.2.2.1
        omega
      · have e1 : (f k : Int) + 1 = p := by have := hk.1.2; omega
        have e2 : ps[j]'hj = p := by have := List.getElem?_eq_getElem hj; rw [hp] at this; injection this with this; exact this.symm
        show ps.idxOf ((f k : Int) + 1) = 0 + j
        rw [e1, ← e2, hnd.idxOf_getElem]
        omega
def os_T9 : Bool × List (List Nat × List Nat) := (true, [([], []), ([], []), ([1], [1]), ([0, 2], [0, 2]), ([], []), ([], []), ([4, 5], [4, 5]), ([3, 6], [3, 6])])
def os_B9 : List Nat := [0, 0, 2, 7, 0, 0, 48, 127]
theorem os_tab9 : rtab .any (opsOf Try.f66 9) = os_T9 := by kernel_rfl
theorem os_bits9 : waitsOk os_T9.2 os_B9 = true := by kernel_rfl
set_option maxHeartbeats 8000000 in
set_option maxRecDepth 100000 in
theorem impl_orderedSets.calls (k : Nat) (A0 : Option Addr) (c0 : Nat) (l0 : List (List Int)) (r : List (List Int)) (w : World) {b0 : Nat} (hb0 : b0 ≤ w.heap.size) (hr0 : Kd.S (Kd.slice 3 (Kd.int .i64)) 34 w b0 (fun _ => True) (.slice A0 l0.length c0) l0) (h : impl_orderedSets.f k l0 = some r) :
  Calls Try.prog 66 #[.slice A0 l0.length c0] w fun e w' => ∃ v0_ : Value, e = .returned (v0_) ∧ Kd.S (Kd.slice 3 (Kd.int .i64)) 34 w' b0 (fun _ => True) v0_ r ∧ Below w.heap.size w w' := by
 obtain ⟨T, hT0, hTc, hTr, hTS⟩ := os_open hb0 hr0
 have HC0 := Aside0.mk (Kd.S_reads' hr0).2.1
 have TZ := Aside0.mk hT0
 have TC := Aside0.mk hTc
 have TR := Aside0.mk hTr
 have TS := Aside0.mk hTS
 clear hT0 hTc hTr hTS hr0 hb0
 have HB := Aside0.mk (Below.refl w.heap.size w)
 unfold impl_orderedSets.f at h
 by_cases hlen : l0.length < 1000000
 case neg => rw [if_neg hlen] at h; cases h
 rw [if_pos hlen] at h
 have HL := Aside0.mk hlen
 obtain ⟨ps, hps, hr⟩ := Option.bind_eq_some_iff.mp h
 have HP0 := Aside0.mk (sbL_perm _ _ _ hps)
 have HR := Aside0.mk (Option.some.inj hr)
 have H' := Aside0.mk hps
 clear h hlen hps hr
 go_enter Try.func66, Try.ntmps66
 go_wp2
 go_loopg [3, 9] l0.length (fun kq v3 v9 w' => ∃ (j : Nat) (o : List Int) (x9 : Int), v9 = .int .i64 x9 ∧ Aside0 (x9 = j) ∧ Aside0 (j + kq = l0.length ∧ o.length = j) ∧ Aside0 (sbL (osP k l0) ((osN l0.length).drop j) o = some ps) ∧ Aside0 (∀ q ∈ o, 1 ≤ q ∧ q ≤ (l0.length : Int)) ∧ Aside0 ((osK T).R 34 w' w.heap.size (fun _ => True) v3 o) ∧ Aside0 (Below w.heap.size w w'))
 case atStart => exact ⟨0, [], 0, rfl, ⟨rfl⟩, ⟨by omega, rfl⟩, H', ⟨fun q hq => by cases hq⟩, ⟨Kd.R_nil _ _ _ _ _⟩, ⟨bB⟩⟩
 case round =>
  clear H'
  obtain ⟨j, o, x9, rfl, HJ, HK, H', HM0, HO, HB⟩ := hrel
  cases gk with
  | zero =>
   have c0b : decide (x9 < (l0.length : Int)) = false := decide_eq_false (by have := HJ.out; have := HK.out; omega)
   have H := H'.out
   clear H'
   rw [List.drop_eq_nil_of_le (by have := HK.out; simp [osN]; omega), sbL] at H
   obtain rfl := Option.some.inj H
   go_wp2
   go_ret
   exact ⟨_, rfl, by rw [← HR.out]; exact TS.out _ _ _ HB.out HO.out (HP0.out.nodup_iff.mpr (by simpa using osN_nodup _)) HM0.out, bB⟩
  | succ k1 =>
   have c0b : decide (x9 < (l0.length : Int)) = true := decide_eq_true (by have := HJ.out; have := HK.out; omega)
   have p1 : 0 ≤ x9 := by have := HJ.out; omega
   have q1 : x9 < (l0.length : Int) := by have := HJ.out; have := HK.out; omega
   obtain ⟨ad1, e1, hx1⟩ := TC.out x9 p1 q1
   cases e1
   replace hx1 := (cB HB.out hx1 :)
   obtain ⟨r1, r2, r3⟩ := TR.out (x9 + 1) (by omega) (by omega)
   rw [r1] at hx1
   have ES : Aside0 (osE T (x9 + 1) = .slice (T (x9 + 1)).1 (osB l0 (x9 + 1)).length (T (x9 + 1)).2.2) := ⟨by unfold osE; rw [r1]⟩; have RS := Aside0.mk (And.intro r2 r3)
   clear r1 r2 r3
   generalize (T (x9 + 1)).1 = SA at hx1 RS ES
   generalize (T (x9 + 1)).2.2 = sc at hx1 RS ES
   have RNG := Aside0.mk (show 1 ≤ x9 + 1 ∧ x9 + 1 ≤ (l0.length : Int) by omega)
   replace p1 := eq_true p1
   replace q1 := eq_true q1
   obtain ⟨Ao, co, eo⟩ := Kd.R_slice HO.out
   subst eo
   have H := H'.out
   clear H'
   rw [osN_drop _ _ (by have := HK.out; omega), ← HJ.out, sbL] at H
   obtain ⟨m, hm, H⟩ := Option.bind_eq_some_iff.mp H
   have HM := Aside0.mk hm
   have H' := Aside0.mk H
   clear H hm
   go_wp2
   go_loopg [6] o.length (fun kq v6 w' => ∃ (x6 : Int), v6 = .int .i64 x6 ∧ Aside0 (x6 = (kq : Nat)) ∧ Aside0 (kq ≤ o.length) ∧ Aside0 (sbK (osP k l0 (x9 + 1)) o kq = some m) ∧ Aside0 ((osK T).R 34 w' w.heap.size (fun _ => True) (.slice Ao o.length co) o) ∧ Aside0 (Below w.heap.size w w'))
   case atStart => exact ⟨(o.length : Int), (by first | rfl | (simp; done)), ⟨rfl⟩, ⟨Nat.le_refl _⟩, HM, ⟨(by (with_reducible repeat (first | apply Kd.R_alloc | apply Kd.R_drewN | apply Kd.R_drew)); exact HO.out)⟩, ⟨bB⟩⟩
   case round =>
    clear HM HO hx1
    obtain ⟨x6, rfl, HX, HQ, HM, HO, HB⟩ := hrel
    cases gk with
    | zero =>
     have c1 : decide (0 < x6) = false := decide_eq_false (by have := HX.out; omega)
     have H := HM.out
     clear HM
     simp only [sbK, Option.some.injEq] at H
     have HM1 := Aside0.mk (show (m : Int) = x6 by have := HX.out; omega)
     clear H
     obtain ⟨hx, hm_⟩ : x6 = (m : Int) ∧ m ≤ o.length := ⟨by have := HX.out; have := HM1.out; omega, by have h1 := HM1.out; have h2 := HX.out; have h3 := HQ.out; omega⟩
     have HX2 := Aside0.mk (And.intro hx hm_)
     clear hx hm_
     have LM := Aside0.mk (show o.length < 1000000 by have := HL.out; have := HK.out; omega)
     go_wp2_with (first | ((with_reducible refine gate_builtin (b := .append) (xs := #[.tmp 51, .tmp 52]) rfl ?_); at_builtin; refine Kd.R_append (osK T) (w0 := w) w.heap.size rfl (.tmp 51) (.tmp 52) 24 34 (.slice none 0 0) 24 rfl Try.underlying24 info34 rfl Nat.one_pos (by omega) (.slice Ao o.length co) o 0 [.slice none 0 0] (fun _ => True) (fun _ => False) rfl rfl ?aP (fun _ hk => hk.elim) ?aF ?aO ?aB ?aS ?aL ?_; (case aP => exact (by show _ = [osE T 0]; unfold osE; rw [TZ.out])); (case aB => exact bB); (case aF => exact (fun _ _ => trivial)); (case aO => exact (by (with_reducible repeat (first | apply Kd.R_alloc | apply Kd.R_drewN | apply Kd.R_drew)); exact HO.out)); (case aS => exact (below_size bB)); (case aL => have := LM.out; omega); intro v5 w8 ho hb hg hat; have n0_ := Aside0.mk (hb); have n1_ := Aside0.mk (ho); clear HB; clear HO; have HB := n0_; have HO := n1_; clear n0_ n1_; clear ho hb hg hat))
     obtain ⟨go, cp, eo, gb, gl, cl, HG⟩ := Kd.R_form HO.out (by rw [List.length_append]; simp)
     (first | subst eo | cases eo)
     have GB := Aside0.mk gb
     clear gb gl HG cl
     have hw1 : wrap64 (x6 + 1) = ((m + 1 : Nat) : Int) := by have h1 := HX2.out; have h4 := LM.out; unfold wrap64; omega
     have p4 : 0 ≤ wrap64 (x6 + 1) := by omega
     have q4 : wrap64 (x6 + 1) ≤ (((o ++ [0]).length : Nat) : Int) := by have h1 := HX2.out; rw [List.length_append, List.length_singleton]; omega
     have p5 : 0 ≤ x6 := by have h1 := HX2.out; omega
     have q5 : x6 ≤ (((o ++ [0]).length : Nat) : Int) := by have h1 := HX2.out; rw [List.length_append, List.length_singleton]; omega
     have q6 : x6 < (((o ++ [0]).length : Nat) : Int) := by have h1 := HX2.out; rw [List.length_append, List.length_singleton]; omega
     have ew1 : (wrap64 (x6 + 1)).toNat = m + 1 := by rw [hw1]; rfl
     have ex8 : x6.toNat = m := by rw [HX2.out.1]; rfl
     have EW := Aside0.mk (And.intro ew1 ex8)
     clear hw1 ew1 ex8
     have ln : (o ++ [0]).length = o.length + 1 := by simp
     have LN := Aside0.mk ln
     clear ln
     generalize hoo : o ++ [0] = oo at *
     have OO := Aside0.mk hoo
     clear hoo
     refine start_ (n := 8) (S := fun w' => True) (ds := [7]) #[false, false, false, false, false, false, false, false] (by kernel_rfl) rfl rfl trivial (fun hHeld => ?_); refine with_tabW os_tab9 os_bits9 (fun HT_ HW_ => ?_)
     have n0_ := Aside0.mk (Kd.R_drew HO.out)
     have n1_ := Aside0.mk (below_drew1 HB.out)
     clear HO HB
     have HO := n0_
     have HB := n1_
     clear n0_ n1_
     generalize w8.drew = w9 at HO HB ⊢
     refine pU 0 54 #[true, false, false, false, false, false, false, false] ?_
     refine pU 1 55 #[true, true, false, false, false, false, false, false] ?_
     refine pU 2 56 #[true, true, true, false, false, false, false, false] ?_
     refine pU 4 58 #[true, true, true, false, true, false, false, false] ?_
     refine pU 5 59 #[true, true, true, false, true, true, false, false] ?_
     refine pU 3 57 #[true, true, true, true, true, true, false, false] ?_
     refine pU 6 60 #[true, true, true, true, true, true, true, false] ?_
     refine last_ (i := 7) (N := some 61) #[true, true, true, true, true, true, true, true] rfl rfl (one_of HT_.out (by kernel_rfl)) (by decide) (fun K hK => ?_)
     obtain ⟨w10, hrun, ho, hg⟩ := R_shift (P := Try.prog) (ty := 3) (t' := 24) (0 : Int) Try.underlying24 (by rw [show (Try.prog.info? 34).map (·.size) = some 1 from by kernel_rfl]) HO.out (m + 1) m (o.length - m) (cp - (m + 1)) (cp - m) (by have := HX2.out; have := LN.out; omega) (by have := HX2.out; have := LN.out; omega) (by have := HX2.out; have := LN.out; omega)
       (if cp = m + 1 then some ⟨go, 0, none⟩ else some ⟨go, m + 1, none⟩) (if cp = m then some ⟨go, 0, none⟩ else some ⟨go, m, none⟩) (fun h_ => if_neg (by have h1 := (Kd.R_reads' HO.out).2.1; have := LN.out; omega)) (fun h_ => if_neg (by have h1 := (Kd.R_reads' HO.out).2.1; have := LN.out; omega))
     refine value_ (w1 := w10) (v := .int .i64 ((o.length - m : Nat) : Int)) (by rfl) rfl ?_ ?_
     ·refine sb_copy (s := .tmp 57) (x := .tmp 60) (t := 24) (t' := 24) rfl rfl rfl ?_
      simp only [EW.out.1, EW.out.2]
      exact hrun
     refine hK.out _ _ ?_
     clear hK K
     have n0_ := Aside0.mk ho
     have n1_ := Aside0.mk (HB.out.grown hg (below_size HB.out) (fun k_ e_ => by injection e_ with e_; subst e_; exact GB.out))
     clear HO HB ho hrun hg
     have HO := n0_
     have HB := n1_
     clear n0_ n1_
     have p7 := eq_true p5
     have q7 := eq_true q6
     have hl3 : (oo.take (m + 1) ++ (oo.drop m).take (o.length - m) ++ oo.drop (m + 1 + (o.length - m))).length = oo.length := by have := HX2.out; have := LN.out; simp only [List.length_append, List.length_take, List.length_drop]; omega
     obtain ⟨hx9, hf9⟩ := Kd.R_celln 0 HO.out x6 p5 q6
     have HP := Kd.R_putn HO.out x6 (x9 + 1)
     rw [show osE T (x9 + 1) = .slice SA (osB l0 (x9 + 1)).length sc from ES.out] at HP
     have HQ9 := Aside0.mk HP
     clear HP p5 q5 q6 p4 q4
     refine done_ (done_of HT_.out (by kernel_rfl)) ?_
     generalize (if cp = (wrap64 (x6 + 1)).toNat then (some ⟨go, 0, none⟩ : Option Addr) else some ⟨go, (wrap64 (x6 + 1)).toNat, none⟩) = ad37
     generalize (if cp = x6.toNat then (some ⟨go, 0, none⟩ : Option Addr) else some ⟨go, x6.toNat, none⟩) = ad40
     go_wp2
     all_goals (go_roundg k1; (case measure => omega); (case rel => exact ⟨j + 1, o.take m ++ (x9 + 1) :: o.drop m, wrap64 (x9 + 1), (by first | rfl | (simp; done)), ⟨by have h1 := HJ.out; have h2 := HK.out; have h3 := HL.out; unfold wrap64; omega⟩, ⟨by have h2 := HK.out; omega, by have h2 := HK.out; have h4 := HX2.out; simp only [List.length_append, List.length_cons, List.length_take, List.length_drop]; omega⟩, H', ⟨fun q hq => (List.mem_append.mp hq).elim (fun h_ => HM0.out q (List.mem_of_mem_take h_)) (fun h_ => (List.mem_cons.mp h_).elim (fun e_ => by rw [e_]; exact RNG.out) (fun h_ => HM0.out q (List.mem_of_mem_drop h_)))⟩, ⟨by (with_reducible repeat (first | apply Kd.R_alloc | apply Kd.R_drewN | apply Kd.R_drew)); have h8 := HQ9.out; have e9 := sb_shift o m (x9 + 1) HX2.out.2; rw [OO.out] at e9; rw [EW.out.2, e9] at h8; rw [EW.out.2]; exact h8⟩, ⟨by repeat (first | (with_reducible first | exact HB.out | apply below_alloc | apply pw_below_drewN | apply below_drew1 | refine below_set ?_ GB.out) | exact HB.out)⟩⟩))
    | succ k2 =>
     have c1 : decide (0 < x6) = true := decide_eq_true (by have := HX.out; omega)
     have hw : wrap64 (x6 - 1) = (k2 : Int) := by have h1 := HX.out; have h2 := HQ.out; have h3 := HK.out; have h4 := HL.out; unfold wrap64; omega
     have p2 : 0 ≤ wrap64 (x6 - 1) := by omega
     have q2 : wrap64 (x6 - 1) < (o.length : Int) := by have h2 := HQ.out; omega
     obtain ⟨ad2, e2, hx2⟩ := ReadsOf.at_ (d := (0 : Int)) (Kd.reads_of_C (h1 := fun _ => rfl) (Kd.R_reads' HO.out).2.2) (wrap64 (x6 - 1)) p2 q2
     cases e2
     have H := HM.out
     clear HM
     rw [sbK, ← hw] at H
     have HW := Aside0.mk hw
     clear hw
     have hy : rd o (wrap64 (x6 - 1)) ∈ o := by have h2 := HQ.out; rw [HW.out]; unfold rd; rw [List.getD_eq_getElem?_getD, List.getElem?_eq_getElem (by rw [Int.toNat_natCast]; omega)]; exact List.getElem_mem _
     change _ = some (Value.slice (T (rd o (wrap64 (x6 - 1)))).1 (T (rd o (wrap64 (x6 - 1)))).2.1 (T (rd o (wrap64 (x6 - 1)))).2.2) at hx2
     generalize rd o (wrap64 (x6 - 1)) = y at hx2 H hy
     obtain ⟨y0, y1⟩ := HM0.out y hy
     obtain ⟨r1, r2, r3⟩ := TR.out y y0 y1
     rw [r1] at hx2
     have RY := Aside0.mk (And.intro r2 r3)
     clear r1 r2 r3 y0 y1 hy
     generalize (T y).1 = OA at hx2 RY
     generalize (T y).2.2 = oc at hx2 RY
     replace p2 := eq_true p2
     replace q2 := eq_true q2
     obtain ⟨b, hb, H⟩ := Option.bind_eq_some_iff.mp H
     have HM := Aside0.mk H
     clear H
     unfold osP at hb
     by_cases g1 : ((osB l0 y).length : Int) > ((osB l0 (x9 + 1)).length : Int)
     · rw [if_pos g1] at hb
       obtain rfl := Option.some.inj hb
       have g1a : decide ((osB l0 (x9 + 1)).length < (osB l0 y).length) = true := decide_eq_true (by omega)
       have g1b : decide (((osB l0 (x9 + 1)).length : Int) < ((osB l0 y).length : Int)) = true := decide_eq_true (by omega)
       clear hb g1
       go_wp2
       go_roundg k2
       case measure => omega
       case rel => exact ⟨wrap64 (x6 - 1), (by first | rfl | (simp; done)), ⟨HW.out⟩, ⟨by have := HQ.out; omega⟩, ⟨by have := HM.out; simpa using this⟩, ⟨(by (with_reducible repeat (first | apply Kd.R_alloc | apply Kd.R_drewN | apply Kd.R_drew)); exact HO.out)⟩, ⟨bB⟩⟩
     · rw [if_neg g1] at hb
       have g1a : decide ((osB l0 (x9 + 1)).length < (osB l0 y).length) = false := decide_eq_false (by omega)
       have g1b : decide (((osB l0 (x9 + 1)).length : Int) < ((osB l0 y).length : Int)) = false := decide_eq_false (by omega)
       clear g1
       by_cases g2 : ((osB l0 y).length : Int) = ((osB l0 (x9 + 1)).length : Int)
       · rw [if_pos g2] at hb
         have g2a : (((osB l0 y).length : Int) == ((osB l0 (x9 + 1)).length : Int)) = true := beq_iff_eq.mpr g2
         have g2b : ((osB l0 y).length == (osB l0 (x9 + 1)).length) = true := beq_iff_eq.mpr (by omega)
         clear g2
         obtain ⟨cv, hcv, hb⟩ := Option.bind_eq_some_iff.mp hb
         have HCV := Aside0.mk hcv
         clear hcv
         cases b with
         | true =>
          have c3 : decide (0 < cv) = true := Option.some.inj hb
          clear hb
          go_wp2_with (first | (go_at_call 109; refine (impl_compareLists.calls k OA oc (osB l0 y) SA sc (osB l0 (x9 + 1)) cv _ (Kd.C_below RY.out.2 bB) RY.out.1 (Kd.C_below RS.out.2 bB) RS.out.1 HCV.out).mono ?_; rintro e w' ⟨rfl, hdz⟩; (obtain ⟨nd, rfl⟩ := hdz); have n0_ := Aside0.mk (Kd.R_below HO.out (pw_below_drewN (Below.refl _ _) nd)); have n1_ := Aside0.mk (pw_below_drewN bB nd); clear HO HB; have HO := n0_; have HB := n1_; clear n0_ n1_) | fail)
          go_roundg k2
          case measure => omega
          case rel => exact ⟨wrap64 (x6 - 1), (by first | rfl | (simp; done)), ⟨HW.out⟩, ⟨by have := HQ.out; omega⟩, ⟨by have := HM.out; simpa using this⟩, ⟨(by (with_reducible repeat (first | apply Kd.R_alloc | apply Kd.R_drewN | apply Kd.R_drew)); exact HO.out)⟩, ⟨bB⟩⟩
         | false =>
          have c3 : decide (0 < cv) = false := Option.some.inj hb
          clear hb
          have H := HM.out
          clear HM
          simp only [Bool.false_eq_true, if_false, Option.some.injEq] at H
          have HM1 := Aside0.mk (show (m : Int) = x6 by have := HX.out; omega)
          clear H
          obtain ⟨hx, hm_⟩ : x6 = (m : Int) ∧ m ≤ o.length := ⟨by have := HX.out; have := HM1.out; omega, by have h1 := HM1.out; have h2 := HX.out; have h3 := HQ.out; omega⟩
          have HX2 := Aside0.mk (And.intro hx hm_)
          clear hx hm_
          have LM := Aside0.mk (show o.length < 1000000 by have := HL.out; have := HK.out; omega)
          go_wp2_with (first | (go_at_call 109; refine (impl_compareLists.calls k OA oc (osB l0 y) SA sc (osB l0 (x9 + 1)) cv _ (Kd.C_below RY.out.2 bB) RY.out.1 (Kd.C_below RS.out.2 bB) RS.out.1 HCV.out).mono ?_; rintro e w' ⟨rfl, hdz⟩; (obtain ⟨nd, rfl⟩ := hdz); have n0_ := Aside0.mk (Kd.R_below HO.out (pw_below_drewN (Below.refl _ _) nd)); have n1_ := Aside0.mk (pw_below_drewN bB nd); clear HO HB; have HO := n0_; have HB := n1_; clear n0_ n1_) | ((with_reducible refine gate_builtin (b := .append) (xs := #[.tmp 51, .tmp 52]) rfl ?_); at_builtin; refine Kd.R_append (osK T) (w0 := w) w.heap.size rfl (.tmp 51) (.tmp 52) 24 34 (.slice none 0 0) 24 rfl Try.underlying24 info34 rfl Nat.one_pos (by omega) (.slice (some ad2) o.length co) o 0 [.slice none 0 0] (fun _ => True) (fun _ => False) rfl rfl ?aP (fun _ hk => hk.elim) ?aF ?aO ?aB ?aS ?aL ?_; (case aP => exact (by show _ = [osE T 0]; unfold osE; rw [TZ.out])); (case aB => exact bB); (case aF => exact (fun _ _ => trivial)); (case aO => exact (by (with_reducible repeat (first | apply Kd.R_alloc | apply Kd.R_drewN | apply Kd.R_drew)); exact HO.out)); (case aS => exact (below_size bB)); (case aL => have := LM.out; omega); intro v5 w8 ho hb hg hat; have n0_ := Aside0.mk (hb); have n1_ := Aside0.mk (ho); clear HB; clear HO; have HB := n0_; have HO := n1_; clear n0_ n1_; clear ho hb hg hat))
          obtain ⟨go, cp, eo, gb, gl, cl, HG⟩ := Kd.R_form HO.out (by rw [List.length_append]; simp)
          (first | subst eo | cases eo)
          have GB := Aside0.mk gb
          clear gb gl HG cl
          have hw1 : wrap64 (x6 + 1) = ((m + 1 : Nat) : Int) := by have h1 := HX2.out; have h4 := LM.out; unfold wrap64; omega
          have p4 : 0 ≤ wrap64 (x6 + 1) := by omega
          have q4 : wrap64 (x6 + 1) ≤ (((o ++ [0]).length : Nat) : Int) := by have h1 := HX2.out; rw [List.length_append, List.length_singleton]; omega
          have p5 : 0 ≤ x6 := by have h1 := HX2.out; omega
          have q5 : x6 ≤ (((o ++ [0]).length : Nat) : Int) := by have h1 := HX2.out; rw [List.length_append, List.length_singleton]; omega
          have q6 : x6 < (((o ++ [0]).length : Nat) : Int) := by have h1 := HX2.out; rw [List.length_append, List.length_singleton]; omega
          have ew1 : (wrap64 (x6 + 1)).toNat = m + 1 := by rw [hw1]; rfl
          have ex8 : x6.toNat = m := by rw [HX2.out.1]; rfl
          have EW := Aside0.mk (And.intro ew1 ex8)
          clear hw1 ew1 ex8
          have ln : (o ++ [0]).length = o.length + 1 := by simp
          have LN := Aside0.mk ln
          clear ln
          generalize hoo : o ++ [0] = oo at *
          have OO := Aside0.mk hoo
          clear hoo
          refine start_ (n := 8) (S := fun w' => True) (ds := [7]) #[false, false, false, false, false, false, false, false] (by kernel_rfl) rfl rfl trivial (fun hHeld => ?_); refine with_tabW os_tab9 os_bits9 (fun HT_ HW_ => ?_)
          have n0_ := Aside0.mk (Kd.R_drew HO.out)
          have n1_ := Aside0.mk (below_drew1 HB.out)
          clear HO HB
          have HO := n0_
          have HB := n1_
          clear n0_ n1_
          generalize w8.drew = w9 at HO HB ⊢
          refine pU 0 54 #[true, false, false, false, false, false, false, false] ?_
          refine pU 1 55 #[true, true, false, false, false, false, false, false] ?_
          refine pU 2 56 #[true, true, true, false, false, false, false, false] ?_
          refine pU 4 58 #[true, true, true, false, true, false, false, false] ?_
          refine pU 5 59 #[true, true, true, false, true, true, false, false] ?_
          refine pU 3 57 #[true, true, true, true, true, true, false, false] ?_
          refine pU 6 60 #[true, true, true, true, true, true, true, false] ?_
          refine last_ (i := 7) (N := some 61) #[true, true, true, true, true, true, true, true] rfl rfl (one_of HT_.out (by kernel_rfl)) (by decide) (fun K hK => ?_)
          obtain ⟨w10, hrun, ho, hg⟩ := R_shift (P := Try.prog) (ty := 3) (t' := 24) (0 : Int) Try.underlying24 (by rw [show (Try.prog.info? 34).map (·.size) = some 1 from by kernel_rfl]) HO.out (m + 1) m (o.length - m) (cp - (m + 1)) (cp - m) (by have := HX2.out; have := LN.out; omega) (by have := HX2.out; have := LN.out; omega) (by have := HX2.out; have := LN.out; omega)
            (if cp = m + 1 then some ⟨go, 0, none⟩ else some ⟨go, m + 1, none⟩) (if cp = m then some ⟨go, 0, none⟩ else some ⟨go, m, none⟩) (fun h_ => if_neg (by have h1 := (Kd.R_reads' HO.out).2.1; have := LN.out; omega)) (fun h_ => if_neg (by have h1 := (Kd.R_reads' HO.out).2.1; have := LN.out; omega))
          refine value_ (w1 := w10) (v := .int .i64 ((o.length - m : Nat) : Int)) (by rfl) rfl ?_ ?_
          ·refine sb_copy (s := .tmp 57) (x := .tmp 60) (t := 24) (t' := 24) rfl rfl rfl ?_
           simp only [EW.out.1, EW.out.2]
           exact hrun
          refine hK.out _ _ ?_
          clear hK K
          have n0_ := Aside0.mk ho
          have n1_ := Aside0.mk (HB.out.grown hg (below_size HB.out) (fun k_ e_ => by injection e_ with e_; subst e_; exact GB.out))
          clear HO HB ho hrun hg
          have HO := n0_
          have HB := n1_
          clear n0_ n1_
          have p7 := eq_true p5
          have q7 := eq_true q6
          have hl3 : (oo.take (m + 1) ++ (oo.drop m).take (o.length - m) ++ oo.drop (m + 1 + (o.length - m))).length = oo.length := by have := HX2.out; have := LN.out; simp only [List.length_append, List.length_take, List.length_drop]; omega
          obtain ⟨hx9, hf9⟩ := Kd.R_celln 0 HO.out x6 p5 q6
          have HP := Kd.R_putn HO.out x6 (x9 + 1)
          rw [show osE T (x9 + 1) = .slice SA (osB l0 (x9 + 1)).length sc from ES.out] at HP
          have HQ9 := Aside0.mk HP
          clear HP p5 q5 q6 p4 q4
          refine done_ (done_of HT_.out (by kernel_rfl)) ?_
          generalize (if cp = (wrap64 (x6 + 1)).toNat then (some ⟨go, 0, none⟩ : Option Addr) else some ⟨go, (wrap64 (x6 + 1)).toNat, none⟩) = ad37
          generalize (if cp = x6.toNat then (some ⟨go, 0, none⟩ : Option Addr) else some ⟨go, x6.toNat, none⟩) = ad40
          go_wp2
          all_goals (go_roundg k1; (case measure => omega); (case rel => exact ⟨j + 1, o.take m ++ (x9 + 1) :: o.drop m, wrap64 (x9 + 1), (by first | rfl | (simp; done)), ⟨by have h1 := HJ.out; have h2 := HK.out; have h3 := HL.out; unfold wrap64; omega⟩, ⟨by have h2 := HK.out; omega, by have h2 := HK.out; have h4 := HX2.out; simp only [List.length_append, List.length_cons, List.length_take, List.length_drop]; omega⟩, H', ⟨fun q hq => (List.mem_append.mp hq).elim (fun h_ => HM0.out q (List.mem_of_mem_take h_)) (fun h_ => (List.mem_cons.mp h_).elim (fun e_ => by rw [e_]; exact RNG.out) (fun h_ => HM0.out q (List.mem_of_mem_drop h_)))⟩, ⟨by (with_reducible repeat (first | apply Kd.R_alloc | apply Kd.R_drewN | apply Kd.R_drew)); have h8 := HQ9.out; have e9 := sb_shift o m (x9 + 1) HX2.out.2; rw [OO.out] at e9; rw [EW.out.2, e9] at h8; rw [EW.out.2]; exact h8⟩, ⟨by repeat (first | (with_reducible first | exact HB.out | apply below_alloc | apply pw_below_drewN | apply below_drew1 | refine below_set ?_ GB.out) | exact HB.out)⟩⟩))
       · rw [if_neg g2] at hb
         obtain rfl := Option.some.inj hb
         have g2a : (((osB l0 y).length : Int) == ((osB l0 (x9 + 1)).length : Int)) = false := beq_eq_false_iff_ne.mpr g2
         have g2b : ((osB l0 y).length == (osB l0 (x9 + 1)).length) = false := beq_eq_false_iff_ne.mpr (by omega)
         clear g2 hb
         have H := HM.out
         clear HM
         simp only [Bool.false_eq_true, if_false, Option.some.injEq] at H
         have HM1 := Aside0.mk (show (m : Int) = x6 by have := HX.out; omega)
         clear H
         obtain ⟨hx, hm_⟩ : x6 = (m : Int) ∧ m ≤ o.length := ⟨by have := HX.out; have := HM1.out; omega, by have h1 := HM1.out; have h2 := HX.out; have h3 := HQ.out; omega⟩
         have HX2 := Aside0.mk (And.intro hx hm_)
         clear hx hm_
         have LM := Aside0.mk (show o.length < 1000000 by have := HL.out; have := HK.out; omega)
         go_wp2_with (first | ((with_reducible refine gate_builtin (b := .append) (xs := #[.tmp 51, .tmp 52]) rfl ?_); at_builtin; refine Kd.R_append (osK T) (w0 := w) w.heap.size rfl (.tmp 51) (.tmp 52) 24 34 (.slice none 0 0) 24 rfl Try.underlying24 info34 rfl Nat.one_pos (by omega) (.slice (some ad2) o.length co) o 0 [.slice none 0 0] (fun _ => True) (fun _ => False) rfl rfl ?aP (fun _ hk => hk.elim) ?aF ?aO ?aB ?aS ?aL ?_; (case aP => exact (by show _ = [osE T 0]; unfold osE; rw [TZ.out])); (case aB => exact bB); (case aF => exact (fun _ _ => trivial)); (case aO => exact (by (with_reducible repeat (first | apply Kd.R_alloc | apply Kd.R_drewN | apply Kd.R_drew)); exact HO.out)); (case aS => exact (below_size bB)); (case aL => have := LM.out; omega); intro v5 w8 ho hb hg hat; have n0_ := Aside0.mk (hb); have n1_ := Aside0.mk (ho); clear HB; clear HO; have HB := n0_; have HO := n1_; clear n0_ n1_; clear ho hb hg hat))
         obtain ⟨go, cp, eo, gb, gl, cl, HG⟩ := Kd.R_form HO.out (by rw [List.length_append]; simp)
         (first | subst eo | cases eo)
         have GB := Aside0.mk gb
         clear gb gl HG cl
         have hw1 : wrap64 (x6 + 1) = ((m + 1 : Nat) : Int) := by have h1 := HX2.out; have h4 := LM.out; unfold wrap64; omega
         have p4 : 0 ≤ wrap64 (x6 + 1) := by omega
         have q4 : wrap64 (x6 + 1) ≤ (((o ++ [0]).length : Nat) : Int) := by have h1 := HX2.out; rw [List.length_append, List.length_singleton]; omega
         have p5 : 0 ≤ x6 := by have h1 := HX2.out; omega
         have q5 : x6 ≤ (((o ++ [0]).length : Nat) : Int) := by have h1 := HX2.out; rw [List.length_append, List.length_singleton]; omega
         have q6 : x6 < (((o ++ [0]).length : Nat) : Int) := by have h1 := HX2.out; rw [List.length_append, List.length_singleton]; omega
         have ew1 : (wrap64 (x6 + 1)).toNat = m + 1 := by rw [hw1]; rfl
         have ex8 : x6.toNat = m := by rw [HX2.out.1]; rfl
         have EW := Aside0.mk (And.intro ew1 ex8)
         clear hw1 ew1 ex8
         have ln : (o ++ [0]).length = o.length + 1 := by simp
         have LN := Aside0.mk ln
         clear ln
         generalize hoo : o ++ [0] = oo at *
         have OO := Aside0.mk hoo
         clear hoo
         refine start_ (n := 8) (S := fun w' => True) (ds := [7]) #[false, false, false, false, false, false, false, false] (by kernel_rfl) rfl rfl trivial (fun hHeld => ?_); refine with_tabW os_tab9 os_bits9 (fun HT_ HW_ => ?_)
         have n0_ := Aside0.mk (Kd.R_drew HO.out)
         have n1_ := Aside0.mk (below_drew1 HB.out)
         clear HO HB
         have HO := n0_
         have HB := n1_
         clear n0_ n1_
         generalize w8.drew = w9 at HO HB ⊢
         refine pU 0 54 #[true, false, false, false, false, false, false, false] ?_
         refine pU 1 55 #[true, true, false, false, false, false, false, false] ?_
         refine pU 2 56 #[true, true, true, false, false, false, false, false] ?_
         refine pU 4 58 #[true, true, true, false, true, false, false, false] ?_
         refine pU 5 59 #[true, true, true, false, true, true, false, false] ?_
         refine pU 3 57 #[true, true, true, true, true, true, false, false] ?_
         refine pU 6 60 #[true, true, true, true, true, true, true, false] ?_
         refine last_ (i := 7) (N := some 61) #[true, true, true, true, true, true, true, true] rfl rfl (one_of HT_.out (by kernel_rfl)) (by decide) (fun K hK => ?_)
         obtain ⟨w10, hrun, ho, hg⟩ := R_shift (P := Try.prog) (ty := 3) (t' := 24) (0 : Int) Try.underlying24 (by rw [show (Try.prog.info? 34).map (·.size) = some 1 from by kernel_rfl]) HO.out (m + 1) m (o.length - m) (cp - (m + 1)) (cp - m) (by have := HX2.out; have := LN.out; omega) (by have := HX2.out; have := LN.out; omega) (by have := HX2.out; have := LN.out; omega)
           (if cp = m + 1 then some ⟨go, 0, none⟩ else some ⟨go, m + 1, none⟩) (if cp = m then some ⟨go, 0, none⟩ else some ⟨go, m, none⟩) (fun h_ => if_neg (by have h1 := (Kd.R_reads' HO.out).2.1; have := LN.out; omega)) (fun h_ => if_neg (by have h1 := (Kd.R_reads' HO.out).2.1; have := LN.out; omega))
         refine value_ (w1 := w10) (v := .int .i64 ((o.length - m : Nat) : Int)) (by rfl) rfl ?_ ?_
         ·refine sb_copy (s := .tmp 57) (x := .tmp 60) (t := 24) (t' := 24) rfl rfl rfl ?_
          simp only [EW.out.1, EW.out.2]
          exact hrun
         refine hK.out _ _ ?_
         clear hK K
         have n0_ := Aside0.mk ho
         have n1_ := Aside0.mk (HB.out.grown hg (below_size HB.out) (fun k_ e_ => by injection e_ with e_; subst e_; exact GB.out))
         clear HO HB ho hrun hg
         have HO := n0_
         have HB := n1_
         clear n0_ n1_
         have p7 := eq_true p5
         have q7 := eq_true q6
         have hl3 : (oo.take (m + 1) ++ (oo.drop m).take (o.length - m) ++ oo.drop (m + 1 + (o.length - m))).length = oo.length := by have := HX2.out; have := LN.out; simp only [List.length_append, List.length_take, List.length_drop]; omega
         obtain ⟨hx9, hf9⟩ := Kd.R_celln 0 HO.out x6 p5 q6
         have HP := Kd.R_putn HO.out x6 (x9 + 1)
         rw [show osE T (x9 + 1) = .slice SA (osB l0 (x9 + 1)).length sc from ES.out] at HP
         have HQ9 := Aside0.mk HP
         clear HP p5 q5 q6 p4 q4
         refine done_ (done_of HT_.out (by kernel_rfl)) ?_
         generalize (if cp = (wrap64 (x6 + 1)).toNat then (some ⟨go, 0, none⟩ : Option Addr) else some ⟨go, (wrap64 (x6 + 1)).toNat, none⟩) = ad37
         generalize (if cp = x6.toNat then (some ⟨go, 0, none⟩ : Option Addr) else some ⟨go, x6.toNat, none⟩) = ad40
         go_wp2
         all_goals (go_roundg k1; (case measure => omega); (case rel => exact ⟨j + 1, o.take m ++ (x9 + 1) :: o.drop m, wrap64 (x9 + 1), (by first | rfl | (simp; done)), ⟨by have h1 := HJ.out; have h2 := HK.out; have h3 := HL.out; unfold wrap64; omega⟩, ⟨by have h2 := HK.out; omega, by have h2 := HK.out; have h4 := HX2.out; simp only [List.length_append, List.length_cons, List.length_take, List.length_drop]; omega⟩, H', ⟨fun q hq => (List.mem_append.mp hq).elim (fun h_ => HM0.out q (List.mem_of_mem_take h_)) (fun h_ => (List.mem_cons.mp h_).elim (fun e_ => by rw [e_]; exact RNG.out) (fun h_ => HM0.out q (List.mem_of_mem_drop h_)))⟩, ⟨by (with_reducible repeat (first | apply Kd.R_alloc | apply Kd.R_drewN | apply Kd.R_drew)); have h8 := HQ9.out; have e9 := sb_shift o m (x9 + 1) HX2.out.2; rw [OO.out] at e9; rw [EW.out.2, e9] at h8; rw [EW.out.2]; exact h8⟩, ⟨by repeat (first | (with_reducible first | exact HB.out | apply below_alloc | apply pw_below_drewN | apply below_drew1 | refine below_set ?_ GB.out) | exact HB.out)⟩⟩))

/-! ### impl_InitialSets: function 17 -/
def impl_InitialSets.l0 : Nat → Int → List (List Bool) → List (List Int) → Int → Option ((List (List Int)) × Bool)
 | 0, _, _, _, _ => none
 | k + 1, x0, x6, x7, x8 => if 0 ≤ x0 then (if x8 < (shl .i64 1 x0) then ((impl_isInitial.f k x6 x8 (wrap64 ((shl .i64 1 x0) - 1))).bind fun t295 => (if t295 = true then ((impl_listOf.f k x8).bind fun t296 => (if x7.length < 5864062014805 then (impl_InitialSets.l0 k x0 x6 (x7 ++ [t296]) (wrap64 (x8 + 1))) else (none))) else (impl_InitialSets.l0 k x0 x6 x7 (wrap64 (x8 + 1))))) else ((impl_orderedSets.f k x7).bind fun t292 => (some (t292, true)))) else (none)
def impl_InitialSets.f (k : Nat) (a0 : Int) (l1 : List (S71)) : Option ((List (List Int)) × Bool) := (impl_IsPrecedence.f k a0 l1).bind fun t288 => (if t288 = true then ((impl_closure.f k a0 l1).bind fun t289 => (impl_InitialSets.l0 k a0 t289 ([] : List (List Int)) 0)) else (some (([] : List (List Int)), false)))
theorem impl_InitialSets.mono_l : ∀ k, (∀ y0 y1 y2 y3, LeO (impl_InitialSets.l0 k y0 y1 y2 y3) (impl_InitialSets.l0 (k + 1) y0 y1 y2 y3))
 | 0 => fun _ _ _ _ r h => by simp [impl_InitialSets.l0] at h
 | k + 1 => by
  have ih0 := impl_InitialSets.mono_l k
  ·intro y0 y1 y2 y3
   unfold impl_InitialSets.l0
   repeat' first
   | (with_reducible exact ih0 _ _ _ _)
   | (with_reducible exact impl_IsPrecedence.mono _ _ _)
   | (with_reducible exact impl_closure.mono _ _ _)
   | (with_reducible exact impl_isInitial.mono _ _ _ _)
   | (with_reducible exact impl_listOf.mono _ _)
   | (with_reducible exact impl_orderedSets.mono _ _)
   | (with_reducible exact LeO.refl _)
   | (with_reducible exact LeO.none _)
   | (with_reducible refine LeO.ite ?_ ?_)
   | (with_reducible refine LeO.bind ?_ (fun _ => ?_))
   | exact ih0 _ _ _ _
   | exact impl_IsPrecedence.mono _ _ _
   | exact impl_closure.mono _ _ _
   | exact impl_isInitial.mono _ _ _ _
   | exact impl_listOf.mono _ _
   | exact impl_orderedSets.mono _ _
   | exact LeO.none _
   | refine LeO.ite ?_ ?_
   | refine LeO.bind ?_ (fun _ => ?_)
theorem impl_InitialSets.mono : ∀ a0 a1 k, LeO (impl_InitialSets.f k a0 a1) (impl_InitialSets.f (k + 1) a0 a1) := by
 intro a0 a1 k
 have ih0 := impl_InitialSets.mono_l k
 unfold impl_InitialSets.f
 repeat' first
   | (with_reducible exact ih0 _ _ _ _)
   | (with_reducible exact impl_IsPrecedence.mono _ _ _)
   | (with_reducible exact impl_closure.mono _ _ _)
   | (with_reducible exact impl_isInitial.mono _ _ _ _)
   | (with_reducible exact impl_listOf.mono _ _)
   | (with_reducible exact impl_orderedSets.mono _ _)
   | (with_reducible exact LeO.refl _)
   | (with_reducible exact LeO.none _)
   | (with_reducible refine LeO.ite ?_ ?_)
   | (with_reducible refine LeO.bind ?_ (fun _ => ?_))
   | exact ih0 _ _ _ _
   | exact impl_IsPrecedence.mono _ _ _
   | exact impl_closure.mono _ _ _
   | exact impl_isInitial.mono _ _ _ _
   | exact impl_listOf.mono _ _
   | exact impl_orderedSets.mono _ _
   | exact LeO.none _
   | refine LeO.ite ?_ ?_
   | refine LeO.bind ?_ (fun _ => ?_)
set_option maxHeartbeats 8000000 in
set_option maxRecDepth 100000 in
theorem impl_InitialSets.calls (k : Nat) (a0 : Int) (A1 : Option Addr) (c1 : Nat) (l1 : List (S71)) (r1 : List (List Int)) (r2 : Bool) (w : World) (hr1 : Kd.C k71 w A1 l1.length l1) (hc1 : l1.length ≤ c1) (h : impl_InitialSets.f k a0 l1 = some (r1, r2)) :
  Calls Try.prog 17 #[.int .i64 a0, .slice A1 l1.length c1] w fun e w' => ∃ v0_ : Value, e = .returned (.tuple #[v0_, .bool r2]) ∧ Kd.S (Kd.slice 3 (Kd.int .i64)) 34 w' w.heap.size (fun _ => True) v0_ r1 ∧ Below w.heap.size w w' := by
 have HR1 := Aside0.mk hr1
 have HC1 := Aside0.mk hc1
 clear hr1 hc1
 have HB := Aside0.mk (Below.refl w.heap.size w)
 have H : ((impl_IsPrecedence.f k a0 l1).bind fun t288 => (if t288 = true then ((impl_closure.f k a0 l1).bind fun t289 => (impl_InitialSets.l0 k a0 t289 ([] : List (List Int)) 0)) else (some (([] : List (List Int)), false)))) = some (r1, r2) := h
 clear h
 replace H := Option.bind_eq_some_iff.mp H
 obtain ⟨t288, A30, H⟩ := H
 replace H : (if t288 = true then ((impl_closure.f k a0 l1).bind fun t289 => (impl_InitialSets.l0 k a0 t289 ([] : List (List Int)) 0)) else (some (([] : List (List Int)), false))) = some (r1, r2) := H
 have A3 := Aside0.mk A30
 clear A30
 by_cases c4 : t288 = true
 ·subst c4
  have H1 : ((impl_closure.f k a0 l1).bind fun t289 => (impl_InitialSets.l0 k a0 t289 ([] : List (List Int)) 0)) = some (r1, r2) := by rw [if_pos rfl] at H; exact H
  clear H
  have H := H1
  clear H1
  replace H := Option.bind_eq_some_iff.mp H
  obtain ⟨t289, A50, H⟩ := H
  replace H : (impl_InitialSets.l0 k a0 t289 ([] : List (List Int)) 0) = some (r1, r2) := H
  have A5 := Aside0.mk A50
  clear A50
  have H' := Aside0.mk H
  clear H
  go_enter Try.func17, Try.ntmps17
  go_wp2_with (first | ((with_reducible refine gate_callee (f := 62) rfl ?_); refine goesL_ (some 11) rfl rfl Try.func62 (by kernel_rfl) rfl #[.int .i64 a0, .slice A1 l1.length c1] rfl aE ?_; (with_reducible refine (impl_IsPrecedence.calls k a0 _ _ l1 true _ ?side1 ?side2 A3.out).mono ?_); (case side1 => exact cK HR1.out); (case side2 => exact HC1.out); rintro e w6 ⟨rfl, hb⟩; refine ⟨_, rfl, ?_⟩; have n0_ := Aside0.mk (below_step bB hb); clear HB; have HB := n0_; clear n0_; (try clear hb); (try clear hk)) | ((with_reducible refine gate_callee (f := 63) rfl ?_); refine goesL_ (some 15) rfl rfl Try.func63 (by kernel_rfl) rfl #[.int .i64 a0, .slice A1 l1.length c1] rfl aE ?_; (with_reducible refine (impl_closure.calls k a0 _ _ l1 t289 _ ?side1 ?side2 A5.out).mono ?_); (case side1 => exact cK ((Kd.C_below HR1.out HB.out))); (case side2 => exact HC1.out); rintro e w7 ⟨v290, rfl, ho0, hb⟩; refine ⟨_, rfl, ?_⟩; have n0_ := Aside0.mk (Kd.S_lower ho0 (below_size bB)); have n1_ := Aside0.mk (below_step bB hb); clear HB; have HO291 := n0_; have HB := n1_; clear n0_ n1_; (try clear hb); (try clear hk); (try clear ho0)))
  go_loopg [7, 8] k (fun kq v7 v8 w' => ∃ (x7_1 : List (List Int)) (x8_1 : Int), v8 = .int .i64 x8_1 ∧ Aside0 (impl_InitialSets.l0 kq a0 t289 x7_1 x8_1 = some (r1, r2)) ∧ Aside0 (kq ≤ k) ∧ Aside0 (Kd.S (Kd.slice 4 Kd.bool) 80 w' w.heap.size (fun _ => True) v290 t289) ∧ Aside0 (Kd.S (Kd.slice 3 (Kd.int .i64)) 34 w' w.heap.size (fun _ => True) v7 x7_1) ∧ Aside0 (Below w.heap.size w w'))
  case atStart => exact ⟨(([] : List (List Int))), (0), sD, H', ⟨Nat.le_refl _⟩, ⟨kS⟩, ⟨by first | exact Kd.S_nil _ _ _ _ _ | exact Kd.N_nil _ _ _ _ _ | exact Kd.V_nil _ _ _ _ _ | exact Kd.Q_nil _ _ _ _ _ | exact Kd.R_nil _ _ _ _ _⟩, ⟨by repeat (first | (with_reducible first | exact HB.out | apply below_alloc | apply pw_below_drewN | apply below_drew1) | exact HB.out)⟩⟩
  case round =>
   clear H'
   try clear c1
   try clear p2
   try clear c4
   try clear c6
   obtain ⟨x7_1, x8_1, rfl, HA, HK1, HO_6, HO_7, HB⟩ := hrel
   cases gk with
   | zero => exact absurd HA.out (by simp [impl_InitialSets.l0])
   | succ k1 =>
    have H := HA.out
    clear HA
    simp only [impl_InitialSets.l0] at H
    by_cases c8 : 0 ≤ a0; rotate_left
    ·rw [if_neg c8] at H; exact absurd H (by simp)
    rw [if_pos c8] at H
    have c8b0 := eq_true c8
    have c8b1 : decide (0 ≤ a0) = true := decide_eq_true c8
    clear c8
    obtain ⟨ji9, hji9⟩ : ∃ j_ : Int, (shl .i64 1 a0) = j_ := ⟨_, rfl⟩
    replace H : (if x8_1 < (ji9) then ((impl_isInitial.f k1 t289 x8_1 (wrap64 ((ji9) - 1))).bind fun t295 => (if t295 = true then ((impl_listOf.f k1 x8_1).bind fun t296 => (if x7_1.length < 5864062014805 then (impl_InitialSets.l0 k1 a0 t289 (x7_1 ++ [t296]) (wrap64 (x8_1 + 1))) else (none))) else (impl_InitialSets.l0 k1 a0 t289 x7_1 (wrap64 (x8_1 + 1))))) else ((impl_orderedSets.f k1 x7_1).bind fun t292 => (some (t292, true)))) = some (r1, r2) := by first | (rw [hji9] at H; exact H) | (simp only [hji9] at H ⊢; exact H)
    have hji9_ : (IntKind.i64.wrap (1 * 2 ^ min a0.toNat 64)) = ji9 := hji9
    have hji9z : a0 ≤ 64 → (IntKind.i64.wrap (1 * 2 ^ a0.toNat)) = ji9 := shl_small hji9
    have hji9u : (IntKind.i64.wrap (2 ^ min a0.toNat 64)) = ji9 := by have h_ := hji9_; rw [Int.one_mul] at h_; exact h_
    have hji9v : a0 ≤ 64 → (IntKind.i64.wrap (2 ^ a0.toNat)) = ji9 := fun hle_ => by have h_ := hji9z hle_; rw [Int.one_mul] at h_; exact h_
    have hji9y : (wrap64 (1 * 2 ^ min a0.toNat 64)) = ji9 := (i64_w _).symm.trans hji9_
    have hji9x : a0 ≤ 64 → (wrap64 (1 * 2 ^ a0.toNat)) = ji9 := fun h_ => (i64_w _).symm.trans (hji9z h_)
    by_cases c10 : x8_1 < (ji9)
    ·rw [if_pos c10] at H
     have c10b0 : decide (x8_1 < (ji9)) = true := decide_eq_true c10
     clear c10
     have c11b0 := eq_true (oD : 0 ≤ a0)
     replace H := Option.bind_eq_some_iff.mp H
     obtain ⟨t295, A120, H⟩ := H
     replace H : (if t295 = true then ((impl_listOf.f k1 x8_1).bind fun t296 => (if x7_1.length < 5864062014805 then (impl_InitialSets.l0 k1 a0 t289 (x7_1 ++ [t296]) (wrap64 (x8_1 + 1))) else (none))) else (impl_InitialSets.l0 k1 a0 t289 x7_1 (wrap64 (x8_1 + 1)))) = some (r1, r2) := H
     have A12 := Aside0.mk A120
     clear A120
     by_cases c13 : t295 = true
     ·subst c13
      have H1 : ((impl_listOf.f k1 x8_1).bind fun t296 => (if x7_1.length < 5864062014805 then (impl_InitialSets.l0 k1 a0 t289 (x7_1 ++ [t296]) (wrap64 (x8_1 + 1))) else (none))) = some (r1, r2) := by rw [if_pos rfl] at H; exact H
      clear H
      have H := H1
      clear H1
      replace H := Option.bind_eq_some_iff.mp H
      obtain ⟨t296, A140, H⟩ := H
      replace H : (if x7_1.length < 5864062014805 then (impl_InitialSets.l0 k1 a0 t289 (x7_1 ++ [t296]) (wrap64 (x8_1 + 1))) else (none)) = some (r1, r2) := H
      have A14 := Aside0.mk A140
      clear A140
      by_cases c15 : x7_1.length < 5864062014805; rotate_left
      ·rw [if_neg c15] at H; exact absurd H (by simp)
      rw [if_pos c15] at H
      have LMc15 := Aside0.mk c15
      clear c15
      obtain ⟨y299, hy299⟩ : ∃ y_ : List (List Int), y_ = (x7_1 ++ [t296]) := ⟨_, rfl⟩
      replace H : (impl_InitialSets.l0 k1 a0 t289 y299 (wrap64 (x8_1 + 1))) = some (r1, r2) := by first | (rw [hy299]; with_reducible exact H) | (have H2_ := (Option.bind_some _ _).symm.trans H; rw [hy299]; with_reducible exact H2_) | (have H2_ := (Option.bind_some _ _).symm.trans H; with_reducible exact H2_) | with_reducible exact H | (rw [hy299]; exact H) | exact H
      have Ny299 := Aside0.mk hy299
      clear hy299
      have H' := Aside0.mk H
      clear H
      obtain ⟨Ao16, co16, eo16⟩ := Kd.S_slice HO_6.out
      subst eo16
      go_wp2_with (first | ((with_reducible refine gate_callee (f := 64) rfl ?_); refine goesL_ (some 27) rfl rfl Try.func64 (by kernel_rfl) rfl #[.slice Ao16 t289.length co16, .int .i64 x8_1, .int .i64 (wrap64 ((ji9) - 1))] rfl (by (try simp only [List.map_toArray, List.map_cons, List.map_nil]); first | done | (simp only [hji9]; rfl) | rfl | (simp only [List.length_drop, List.length_take]; rfl)) ?_; (with_reducible refine (impl_isInitial.calls k1 _ _ t289 x8_1 (wrap64 ((ji9) - 1)) true _ ?side1 ?side2 A12.out).mono ?_); (case side1 => exact cK ((Kd.S_reads' HO_6.out).2.2)); (case side2 => exact (Kd.S_reads' HO_6.out).2.1); rintro e w' ⟨rfl, ⟨nd, rfl⟩⟩; refine ⟨_, rfl, ?_⟩) | ((with_reducible refine gate_callee (f := 65) rfl ?_); refine goesL_ (some 30) rfl rfl Try.func65 (by kernel_rfl) rfl #[.int .i64 x8_1] rfl aE ?_; (with_reducible refine (impl_listOf.calls k1 x8_1 t296 _ A14.out).mono ?_); rintro e w17 ⟨v297, rfl, ho0, hb⟩; refine ⟨_, rfl, ?_⟩; have n0_ := Aside0.mk (sB HO_6 hb); have n1_ := Aside0.mk (Kd.S_elder' (by (with_reducible repeat (first | apply Kd.S_alloc | apply Kd.S_drewN | apply Kd.S_drew)); exact HO_7.out) (Kd.R_base ho0) hb); have n2_ := Aside0.mk (Kd.R_lower ho0 (below_size bB)); have n3_ := Aside0.mk (below_step bB hb); clear HO_6; clear HO_7; clear HB; have HO_6 := n0_; have HO_7 := n1_; have HO298 := n2_; have HB := n3_; clear n0_ n1_ n2_ n3_; (try clear hb); (try clear hk); (try clear ho0); obtain ⟨Ao19, co19, eo19⟩ := Kd.R_slice HO298.out; subst eo19) | ((with_reducible refine gate_builtin (b := .append) (xs := #[.tmp 28, .tmp 31]) rfl ?_); at_builtin; refine Kd.S_append (Kd.slice 3 (Kd.int .i64)) (w0 := w) w.heap.size rfl (.tmp 28) (.tmp 31) 24 34 (.slice none 0 0) 24 rfl Try.underlying24 info34 rfl (by decide) (by omega) u7 x7_1 t296 [.slice Ao19 t296.length co19] (fun _ => True) (fun k_ => some k_ = (.slice Ao19 t296.length co19 : Value).ownBlock) rfl rfl ?aP (fun k_ hk_ => ((Kd.R_mono (ok' := fun k_ => ((fun _ => True)) k_ ∧ some k_ ≠ (u7 : Value).ownBlock) (Kd.R_apart' (HO298.out) (Kd.S_typed HO_7.out) (by decide)) (fun k_ hk => ⟨trivial, hk.2⟩))).1 k_ hk_.symm) ?aF ?aO ?aB ?aS ?aL ?_; (case aP => exact Kd.M_row (Kd.R_mono (Kd.R_tight rfl (Kd.R_mono (ok' := fun k_ => ((fun _ => True)) k_ ∧ some k_ ≠ (u7 : Value).ownBlock) (Kd.R_apart' (HO298.out) (Kd.S_typed HO_7.out) (by decide)) (fun k_ hk => ⟨trivial, hk.2⟩))) (fun _ h_ => h_))); (case aB => exact bB); (case aF => exact (fun _ _ => trivial)); (case aO => exact (by (with_reducible repeat (first | apply Kd.S_alloc | apply Kd.S_drewN | apply Kd.S_drew)); exact Kd.S_mono HO_7.out (fun k_ hk => ⟨trivial, fun e_ => hk.2 e_⟩))); (case aS => exact (below_size bB)); (case aL => have := LMc15.out; omega); intro v300 w18 ho hb hg hat; rw [← Ny299.out] at ho; have n0_ := Aside0.mk (Kd.S_over' (by (with_reducible repeat (first | apply Kd.S_alloc | apply Kd.S_drewN | apply Kd.S_drew)); exact HO_6.out) (Kd.S_typed (by (with_reducible repeat (first | apply Kd.S_alloc | apply Kd.S_drewN | apply Kd.S_drew)); exact HO_7.out)) (by decide) hg); have n1_ := Aside0.mk (hb); have n2_ := Aside0.mk (ho); clear HO_6; clear HB; clear HO_7; clear HO298; have HO_6 := n0_; have HB := n1_; have HO301 := n2_; clear n0_ n1_ n2_; clear ho hb hg hat))
      go_roundg k1
      case measure => have := HK1.out; omega
      case rel => exact ⟨(y299), (wrap64 (x8_1 + 1)), sD, H', ⟨by have := HK1.out; omega⟩, ⟨kS⟩, ⟨kS⟩, ⟨by repeat (first | (with_reducible first | exact HB.out | apply below_alloc | apply pw_below_drewN | apply below_drew1) | exact HB.out)⟩⟩
     ·replace c13 := Bool.eq_false_iff.mpr c13
      subst c13
      have H1 : (impl_InitialSets.l0 k1 a0 t289 x7_1 (wrap64 (x8_1 + 1))) = some (r1, r2) := by rw [if_neg (show ¬ (false = true) by decide)] at H; exact H
      clear H
      have H := H1
      clear H1
      have H' := Aside0.mk H
      clear H
      obtain ⟨Ao20, co20, eo20⟩ := Kd.S_slice HO_6.out
      subst eo20
      go_wp2_with (first | ((with_reducible refine gate_callee (f := 64) rfl ?_); refine goesL_ (some 27) rfl rfl Try.func64 (by kernel_rfl) rfl #[.slice Ao20 t289.length co20, .int .i64 x8_1, .int .i64 (wrap64 ((ji9) - 1))] rfl (by (try simp only [List.map_toArray, List.map_cons, List.map_nil]); first | done | (simp only [hji9]; rfl) | rfl | (simp only [List.length_drop, List.length_take]; rfl)) ?_; (with_reducible refine (impl_isInitial.calls k1 _ _ t289 x8_1 (wrap64 ((ji9) - 1)) false _ ?side1 ?side2 A12.out).mono ?_); (case side1 => exact cK ((Kd.S_reads' HO_6.out).2.2)); (case side2 => exact (Kd.S_reads' HO_6.out).2.1); rintro e w' ⟨rfl, ⟨nd, rfl⟩⟩; refine ⟨_, rfl, ?_⟩))
      go_roundg k1
      case measure => have := HK1.out; omega
      case rel => exact ⟨(x7_1), (wrap64 (x8_1 + 1)), sD, H', ⟨by have := HK1.out; omega⟩, ⟨kS⟩, ⟨kS⟩, ⟨by repeat (first | (with_reducible first | exact HB.out | apply below_alloc | apply pw_below_drewN | apply below_drew1) | exact HB.out)⟩⟩
    ·rw [if_neg c10] at H
     have c10b0 : decide (x8_1 < (ji9)) = false := decide_eq_false c10
     clear c10
     replace H := Option.bind_eq_some_iff.mp H
     obtain ⟨t292, A210, H⟩ := H
     replace H : (some (t292, true)) = some (r1, r2) := H
     have A21 := Aside0.mk A210
     clear A210
     simp only [Option.some.injEq, Prod.mk.injEq] at H
     obtain ⟨rfl, rfl⟩ := H
     obtain ⟨Ao22, co22, eo22⟩ := Kd.S_slice HO_7.out
     subst eo22
     go_wp2_with (first | ((with_reducible refine gate_callee (f := 66) rfl ?_); refine goesL_ (some 34) rfl rfl Try.func66 (by kernel_rfl) rfl #[.slice Ao22 x7_1.length co22] rfl aE ?_; (with_reducible refine (impl_orderedSets.calls (b0 := w.heap.size) k1 _ _ x7_1 t292 _ ?side1 ?side2 A21.out).mono ?_); (case side2 => exact Kd.S_mono (by (with_reducible repeat (first | apply Kd.S_alloc | apply Kd.S_drewN | apply Kd.S_drew)); exact HO_7.out) (fun _ _ => trivial)); (case side1 => exact below_size bB); rintro e w23 ⟨v293, rfl, ho0, hb⟩; refine ⟨_, rfl, ?_⟩; have n0_ := Aside0.mk (sB HO_6 hb); have n2_ := Aside0.mk ho0; have n3_ := Aside0.mk (below_step bB hb); clear HO_6; clear HO_7; clear HB; have HO_6 := n0_; have HO294 := n2_; have HB := n3_; clear n0_ n2_ n3_; (try clear hb); (try clear hk); (try clear ho0)))
     go_ret2
     exact ⟨_, by first | rfl | (simp [errW_none, errW_some] <;> rfl) | (simp only [← hji9]; first | rfl | (simp [errW_none, errW_some] <;> rfl)) | (simp [*, errW_none, errW_some] <;> rfl), by (with_reducible repeat (first | apply Kd.S_alloc | apply Kd.S_drewN | apply Kd.S_drew)); exact Kd.S_mono HO294.out (fun _ hk => trivial), bB⟩
 ·replace c4 := Bool.eq_false_iff.mpr c4
  subst c4
  have H1 : (some (([] : List (List Int)), false)) = some (r1, r2) := by rw [if_neg (show ¬ (false = true) by decide)] at H; exact H
  clear H
  have H := H1
  clear H1
  simp only [Option.some.injEq, Prod.mk.injEq] at H
  obtain ⟨rfl, rfl⟩ := H
  go_enter Try.func17, Try.ntmps17
  go_wp2_with (first | ((with_reducible refine gate_callee (f := 62) rfl ?_); refine goesL_ (some 11) rfl rfl Try.func62 (by kernel_rfl) rfl #[.int .i64 a0, .slice A1 l1.length c1] rfl aE ?_; (with_reducible refine (impl_IsPrecedence.calls k a0 _ _ l1 false _ ?side1 ?side2 A3.out).mono ?_); (case side1 => exact cK HR1.out); (case side2 => exact HC1.out); rintro e w24 ⟨rfl, hb⟩; refine ⟨_, rfl, ?_⟩; have n0_ := Aside0.mk (below_step bB hb); clear HB; have HB := n0_; clear n0_; (try clear hb); (try clear hk)))
  go_ret2
  exact ⟨_, by first | rfl | (simp [errW_none, errW_some] <;> rfl) | (simp [*, errW_none, errW_some] <;> rfl), by first | exact Kd.S_nil _ _ _ _ _ | exact Kd.N_nil _ _ _ _ _ | exact Kd.V_nil _ _ _ _ _ | exact Kd.Q_nil _ _ _ _ _ | exact Kd.R_nil _ _ _ _ _, bB⟩

end Go.Proofs.Ytecdigebnhlfhaa.OFnExactInitialSets
