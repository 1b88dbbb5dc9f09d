/- How arguments of a law that are slices of structs, of arrays, of slices and of strings are read: for any argument that reads as data there is a plain list whose cells lie there. -/
import Derived.Test.YtlhppclbokkfmaaWMore
import Derived.WalkKit
import Derived.ProofKit
import Derived.OpenShut
import Derived.ShutString
import Derived.ChangeOld
import Derived.Below
import Derived.SizedLaws
import Derived.Deep.Slices
namespace Go.Proofs.Ytlhppclbokkfmaa.Open
open Go.RowKit Go.ChangeShapes Go.WideShapes Go.ChangeAt Go.Deep Go.Proofs.YtlhppclbokkfmaaW.PrintWords Go.Proofs.YtlhppclbokkfmaaW.PrintMore
set_option linter.unusedVariables false
set_option linter.unusedSimpArgs false

def Opens (P : Program) (t : TypeId) {α : Type} (d : Kd α) (G : α → Prop) : Prop :=
  ∀ (H : Type) (enc : TypeId × Value → H) (W : World) (base : Nat) (spare : Nat → Bool) (held : Bool) (fuel : Nat) (cs : List Value) (x : DataW H × List MemPlace),
    DataW.trod enc P W base spare held fuel t cs = some x → ∃ a : α, d.K W a cs ∧ G a
/-- A whole number of Go's int. -/
def I64 (n : Int) : Prop := -9223372036854775808 ≤ n ∧ n ≤ 9223372036854775807
theorem i64_wf {n : Int} (h : (Lit.int .i64 n).wf = true) : I64 n := by
  simp [Lit.wf, IntKind.min, IntKind.max, IntKind.signed, IntKind.bits] at h
  unfold I64
  omega
theorem opens_int {P : Program} {t : TypeId} (ht : P.underlying t = some (.int .i64)) : Opens P t (Kd.int .i64) I64 := by
  intro H enc W base spare held fuel cs x h
  obtain ⟨n, hcs, hx, hw⟩ := DataW.trod_int ht h
  exact ⟨n, hcs, i64_wf hw⟩
theorem opens_string {P : Program} {t : TypeId} (ht : P.underlying t = some .string) : Opens P t Kd.string (fun s => s.size ≤ 9223372036854775807) := by
  intro H enc W base spare held fuel cs x h
  obtain ⟨n, hcs, hx, hw⟩ := DataW.trod_string ht h
  refine ⟨n, hcs, ?_⟩
  unfold maxLen at hw
  exact hw
theorem list_of {α : Type} {Q : Nat → α → Prop} (n : Nat) (h : ∀ i, i < n → ∃ a, Q i a) : ∃ xs : List α, xs.length = n ∧ ∀ j p, xs[j]? = some p → Q j p := by
  induction n with
  | zero => exact ⟨[], rfl, fun j p hj => by simp at hj⟩
  | succ n ih =>
    obtain ⟨xs, hl, hq⟩ := ih (fun i hi => h i (by omega))
    obtain ⟨a, ha⟩ := h n (by omega)
    refine ⟨xs ++ [a], by simp [hl], fun j p hj => ?_⟩
    by_cases hjn : j < n
    · rw [List.getElem?_append_left (by omega)] at hj
      exact hq j p hj
    · rw [List.getElem?_append_right (by omega)] at hj
      have hj0 : j = n := by
        have := (List.getElem?_eq_some_iff.1 hj).1
        simp at this
        omega
      subst hj0
      rw [hl] at hj
      simp at hj
      subst hj
      exact ha
theorem opens_slice {P : Program} {t e : TypeId} {α : Type} {d : Kd α} {G : α → Prop} (ht : P.underlying t = some (.slice e)) (hs : P.cellsOf e = d.sz) (hO : Opens P e d G) :
    Opens P t (Kd.slice e d) (fun xs => xs.length ≤ 9223372036854775807 ∧ ∀ x ∈ xs, G x) := by
  intro H enc W base spare held fuel cs x h
  rcases open_slice ht h with ⟨rfl, _⟩ | ⟨a, len, cap, m, n, D, Pl, rfl, hb, hl, hm, hmm, _, hi⟩
  · exact ⟨[], ⟨none, 0, rfl, Nat.le_refl _, rfl, by simp, fun h0 => absurd h0 (by simp)⟩, by simp, fun x hx => by cases hx⟩
  · have hlm : len ≤ m := by rw [hmm]; split <;> omega
    have hQ : ∀ i, i < len → ∃ b : α, (∃ cs', cs'.length = d.sz ∧ d.K W b cs' ∧ ∀ j u, cs'[j]? = some u → W.cell? (a.add (i * d.sz + j)) = some u) ∧ G b := by
      intro i hil
      obtain ⟨cs', hc, htr⟩ := hi i (by omega)
      obtain ⟨b, hK, hG⟩ := hO H enc W base spare held n cs' _ htr
      rw [hs] at hc
      obtain ⟨_, hcl, hat⟩ := World.cells?_some hc
      refine ⟨b, ⟨cs', hcl, hK, fun j u hj => ?_⟩, hG⟩
      have hjl : j < d.sz := by
        have := (List.getElem?_eq_some_iff.1 hj).1
        omega
      have := hat j hjl
      rw [Go.Deep.add_add] at this
      rw [this, hj]
    obtain ⟨xs, hxl, hxq⟩ := list_of len hQ
    unfold maxLen at hm
    refine ⟨xs, ⟨some a, cap, by rw [hxl], by omega, rfl, by omega, fun _ => ⟨a, rfl, fun j p hj => (hxq j p hj).1⟩⟩, by omega, fun x hx => ?_⟩
    obtain ⟨j, hj⟩ := List.getElem?_of_mem hx
    exact (hxq j x hj).2
theorem ints_of {P : Program} {t e : TypeId} {n : Nat} {xs : List Value} (hlen : xs.length = n) (h : ∀ i, i < n → ∃ z : Int, (xs.drop i).take 1 = [.int .i64 z] ∧ I64 z) :
    ∃ ns : List Int, ns.length = n ∧ xs = ns.map (Value.int .i64) ∧ ∀ z ∈ ns, I64 z := by
  obtain ⟨ns, hl, hq⟩ := list_of n h
  refine ⟨ns, hl, ?_, fun z hz => ?_⟩
  · apply List.ext_getElem?
    intro i
    by_cases hi : i < n
    · have hg : ns[i]? = some (ns[i]'(by omega)) := List.getElem?_eq_getElem (by omega)
      have := (hq i _ hg).1
      have h2 : xs[i]? = ((xs.drop i).take 1)[0]? := by simp
      rw [h2, this]
      simp [hg]
    · rw [List.getElem?_eq_none (by omega), List.getElem?_eq_none (by simp; omega)]
  · obtain ⟨j, hj⟩ := List.getElem?_of_mem hz
    exact (hq j z hj).2
theorem struct_ints {P : Program} {t : TypeId} {fs : Array Field} {H : Type} {enc : TypeId × Value → H} {W : World} {base : Nat} {spare : Nat → Bool} {held : Bool} {fuel : Nat} {cs : List Value} {x : DataW H × List MemPlace}
    (ht : P.underlying t = some (.struct fs)) (hc : P.cellsOf t = fs.size) (hf : ∀ (i : Nat) (f : Field), fs[i]? = some f → f.offset = i ∧ P.underlying f.type = some (.int .i64) ∧ P.cellsOf f.type = 1)
    (h : DataW.trod enc P W base spare held fuel t cs = some x) : ∃ ns : List Int, ns.length = fs.size ∧ cs = ns.map (Value.int .i64) ∧ ∀ z ∈ ns, I64 z := by
  obtain ⟨xs, n, _, _, hcl, hxl, hxf⟩ := DataW.trod_struct ht h
  refine ints_of (P := P) (t := t) (e := t) (hcl.trans hc) (fun i hi => ?_)
  have hg : fs[i]? = some fs[i] := Array.getElem?_eq_getElem hi
  obtain ⟨ho, hu, h1⟩ := hf i _ hg
  have := hxf i _ hg
  rw [ho, h1, List.getElem?_eq_getElem (by omega)] at this
  obtain ⟨z, hz, _, hw⟩ := DataW.trod_int hu this
  exact ⟨z, hz, i64_wf hw⟩
theorem array_ints {P : Program} {t e : TypeId} {m : Nat} {H : Type} {enc : TypeId × Value → H} {W : World} {base : Nat} {spare : Nat → Bool} {held : Bool} {fuel : Nat} {cs : List Value} {x : DataW H × List MemPlace}
    (ht : P.underlying t = some (.array m e)) (hc : P.cellsOf t = m) (he : P.underlying e = some (.int .i64)) (h1 : P.cellsOf e = 1)
    (h : DataW.trod enc P W base spare held fuel t cs = some x) : ∃ ns : List Int, ns.length = m ∧ cs = ns.map (Value.int .i64) ∧ ∀ z ∈ ns, I64 z := by
  obtain ⟨xs, n, _, _, hcl, hxl, hxf⟩ := DataW.trod_array ht h
  refine ints_of (P := P) (t := t) (e := t) (hcl.trans hc) (fun i hi => ?_)
  have := hxf i hi
  rw [h1, Nat.mul_one, List.getElem?_eq_getElem (by omega)] at this
  obtain ⟨z, hz, _, hw⟩ := DataW.trod_int he this
  exact ⟨z, hz, i64_wf hw⟩
/-- An argument that is a slice, opened. -/
theorem arg_slice {P : Program} {t e : TypeId} {α : Type} {d : Kd α} {G : α → Prop} {H : Type} {enc : TypeId × Value → H} {W : World} {base b0 : Nat} {spare : Nat → Bool} {held : Bool} {r : Reach} {v : Value} {x : DataW H} {ps : List MemPlace}
    (ht : P.underlying t = some (.slice e)) (hs : P.cellsOf e = d.sz) (hO : Opens P e d G) (hval : Value.okWide P W r b0 t v) (h : DataW.Trod enc P W base spare held t v x ps) :
    ∃ (A : Option Addr) (c : Nat) (xs : List α), v = .slice A xs.length c ∧ xs.length ≤ c ∧ d.C W A xs.length xs ∧ xs.length ≤ 9223372036854775807 ∧ ∀ x ∈ xs, G x := by
  obtain ⟨a, len, cap, rfl⟩ := okWide_slice ht hval
  obtain ⟨fuel, hf⟩ := h
  obtain ⟨xs, ⟨A, c, hcs, hlc, hC⟩, hle, hG⟩ := opens_slice ht hs hO H enc W base spare held fuel _ _ hf
  simp [Value.cells] at hcs
  obtain ⟨rfl, rfl, rfl⟩ := hcs
  exact ⟨a, cap, xs, rfl, hlc, hC, hle, hG⟩
end Go.Proofs.Ytlhppclbokkfmaa.Open
