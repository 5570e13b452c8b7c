/-
  lemmas for the theorems of this claim. No conditions beyond those written in the statements.
-/
import Derived.ProofKit
import Derived.OpenShut
import Derived.Deep.Slices
import Derived.Deep.Fields
import Derived.ChangeSame
import Derived.Lib.SmallJoins
import Derived.Test.YtpmopobjlpfdaaaDoorP25L
import Derived.Test.YtpmopobjlpfdaaaDoorOpen
set_option linter.unusedVariables false
set_option linter.unusedSimpArgs false
set_option linter.unnecessarySimpa false
namespace Go.Proofs.Sky
open Go Go.RowKit Go.ChangeShapes Go.WideShapes Go.Deep Go.Joins
section
variable {H : Type} {enc : TypeId × Value → H} {P : Program} {W : World} {base : Nat} {sp : Nat → Bool} {held : Bool}
/-- a value of a type can be read -/
def Reads1 (enc : TypeId × Value → H) (P : Program) (W : World) (base : Nat) (sp : Nat → Bool) (held : Bool) (t : TypeId) (v : Value) : Prop := ∃ n y, DataW.trod enc P W base sp held n t [v] = some y
/-- a struct by value: each one-cell field reads -/
theorem fields_of_agg {r : Reach} {b0 : Nat} {t : TypeId} {fs : Array Field} {v : Value} {d : DataW H} {p : List MemPlace} (hs : P.underlying t = some (.struct fs)) (hone : oneCellFields P fs = true) (hC : P.cellsOf t = fs.size)
    (hv : Value.okWide P W r b0 t v) (h : DataW.Trod enc P W base sp held t v d p) :
    ∃ cs : Array Value, v = .agg cs ∧ cs.size = fs.size ∧ ∀ (j : Nat) (f : Field), fs[j]? = some f → ∃ u, cs[j]? = some u ∧ Reads1 enc P W base sp held f.type u := by
  obtain ⟨cs, rfl, hsz⟩ := okWide_struct hs hv
  obtain ⟨fuel, hf⟩ := h
  obtain ⟨xs, n, _, _, _, hlen, hg⟩ := DataW.trod_struct hs hf
  refine ⟨cs, rfl, hsz.trans hC, fun j f hj => ?_⟩
  obtain ⟨o, k⟩ := hone_of hone j f hj
  have hjl : j < fs.size := (Array.getElem?_eq_some_iff.1 hj).1
  have hjc : j < cs.size := by omega
  have h1 := hg j f hj
  rw [o, k] at h1
  have e : ((Value.agg cs).cells.toList.drop j).take 1 = [cs[j]] := by
    simp only [Value.cells]
    rw [List.drop_eq_getElem_cons (by simpa using hjc)]
    simp
  rw [e] at h1
  have hx : xs[j]? = some (xs[j]'(by omega)) := List.getElem?_eq_getElem (by omega)
  exact ⟨cs[j], Array.getElem?_eq_getElem hjc, n, _, h1.trans hx⟩
/-- a slice of structs: the cell of each one-cell field of each element reads -/
theorem fields_of_slice {t e : TypeId} {fs : Array Field} {a : Option Addr} {len cap : Nat} {d : DataW H} {p : List MemPlace} (ht : P.underlying t = some (.slice e)) (he : P.underlying e = some (.struct fs)) (hone : oneCellFields P fs = true) (hC : P.cellsOf e = fs.size)
    (h : DataW.Trod enc P W base sp held t (.slice a len cap) d p) :
    (len = 0 ∧ a = none) ∨ ∃ ad : Addr, a = some ad ∧ len ≤ maxLen ∧ ∀ i, i < len → ∀ (j : Nat) (f : Field), fs[j]? = some f → ∃ u, W.cell? (ad.add (i * fs.size + j)) = some u ∧ Reads1 enc P W base sp held f.type u := by
  obtain ⟨fuel, hf⟩ := h
  rcases open_slice ht hf with ⟨h0, _⟩ | ⟨ad, l, c, m, n, D, Pl, hcs, _, hl, hm, hmm, _, hi⟩
  · simp [Value.cells] at h0; exact .inl ⟨h0.2.1, h0.1⟩
  · simp [Value.cells] at hcs
    obtain ⟨rfl, rfl, rfl⟩ := hcs
    refine .inr ⟨ad, rfl, by omega, fun i hil j f hj => ?_⟩
    obtain ⟨cs', hc, ht'⟩ := hi i (by rw [hmm]; split <;> omega)
    rw [hC] at hc
    obtain ⟨ys, n', _, _, _, hyl, hff⟩ := DataW.trod_struct he ht'
    obtain ⟨_, hcl, hat⟩ := World.cells?_some hc
    obtain ⟨o, k⟩ := hone_of hone j f hj
    have hjl : j < fs.size := (Array.getElem?_eq_some_iff.1 hj).1
    have h1 := hff j f hj
    rw [o, k] at h1
    have e : (cs'.drop j).take 1 = [cs'[j]'(by omega)] := by
      rw [List.drop_eq_getElem_cons (by omega)]; rfl
    rw [e] at h1
    have hx : ys[j]? = some (ys[j]'(by omega)) := List.getElem?_eq_getElem (by omega)
    have hcell := hat j hjl
    rw [List.getElem?_eq_getElem (show j < cs'.length by omega)] at hcell
    rw [add_add] at hcell
    exact ⟨_, hcell, n', _, h1.trans hx⟩
theorem int_of_reads {t : TypeId} {u : Value} {k : IntKind} (ht : P.underlying t = some (.int k)) (h : Reads1 enc P W base sp held t u) : ∃ x, u = .int k x := by
  obtain ⟨n, y, h⟩ := h
  obtain ⟨x, e, _, _⟩ := DataW.trod_int ht h
  simp at e
  exact ⟨x, e⟩
theorem bool_of_reads {t : TypeId} {u : Value} (ht : P.underlying t = some .bool) (h : Reads1 enc P W base sp held t u) : ∃ x, u = .bool x := by
  obtain ⟨n, y, h⟩ := h
  obtain ⟨x, e, _⟩ := DataW.trod_bool ht h
  simp at e
  exact ⟨x, e⟩
theorem array_of {α : Type} (cs : Array α) (l : List α) (h : cs.size = l.length) (hh : ∀ i, i < l.length → cs[i]? = l[i]?) : cs = l.toArray := by
  apply Array.ext (by simpa using h)
  intro i h1 h2
  have := hh i (by simpa using h2)
  rw [Array.getElem?_eq_getElem h1, List.getElem?_eq_getElem (by simpa using h2)] at this
  simpa using this
end
end Go.Proofs.Sky

namespace Go.Proofs.Sky
open Go Go.RowKit Go.ChangeShapes Go.WideShapes Go.Deep Go.Joins
section
variable {H : Type} {enc : TypeId × Value → H} {P : Program} {W : World} {base : Nat} {sp : Nat → Bool} {held : Bool}
/-- an argument that is a slice: its length and its capacity -/
theorem cap_of_trod {t e : TypeId} {a : Option Addr} {len cap : Nat} {d : DataW H} {p : List MemPlace} (ht : P.underlying t = some (.slice e)) (h : DataW.Trod enc P W base sp held t (.slice a len cap) d p) : ∀ a' n c, (Value.slice a len cap) = .slice a' n c → n ≤ c ∧ c ≤ 9223372036854775807 := by
  obtain ⟨fuel, hf⟩ := h
  intro a' n' c' e9
  injection e9 with e1 e2 e3
  subst e1 e2 e3
  rcases open_slice ht hf with ⟨h0, _⟩ | ⟨ad, l, c, m, n, D, Pl, hcs, _, hl, hm, _⟩
  · simp [Value.cells] at h0
    obtain ⟨rfl, rfl, rfl⟩ := h0
    omega
  · simp [Value.cells] at hcs
    obtain ⟨rfl, rfl, rfl⟩ := hcs
    exact ⟨hl, by unfold maxLen at hm; omega⟩
end
end Go.Proofs.Sky
