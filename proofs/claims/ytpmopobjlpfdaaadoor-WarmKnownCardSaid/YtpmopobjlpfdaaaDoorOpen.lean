/-
  lemmas for the theorems of this claim. No conditions beyond those written in the statements.
-/
import Derived.ProofKit
import Derived.OpenShut
import Derived.Deep.SlicePairs
import Derived.Test.YtpmopobjlpfdaaaDoorP25L
set_option linter.unusedVariables false
set_option linter.unusedSimpArgs false
set_option linter.unnecessarySimpa false
namespace Go.Proofs.Sky
open Go Go.RowKit Go.ChangeShapes Go.WideShapes
theorem addr_add (b off i : Nat) : (⟨b, off, none⟩ : Addr).add i = ⟨b, off + i, none⟩ := by simp [Addr.add]
section
variable {H : Type} {enc : TypeId × Value → H} {P : Program} {W : World} {base : Nat} {sp : Nat → Bool} {held : Bool}
/-- an argument that is a slice of structs of two ints reads as a list of pairs -/
theorem rdS_of_trod {t e : TypeId} {f0 f1 : Field} {a : Option Addr} {len cap : Nat} {d : DataW H} {p : List MemPlace} (ht : P.underlying t = some (.slice e)) (he : P.underlying e = some (.struct #[f0, f1])) (ce : P.cellsOf e = 2) (o0 : f0.offset = 0) (o1 : f1.offset = 1) (c0 : P.cellsOf f0.type = 1) (c1 : P.cellsOf f1.type = 1)
    (i0 : P.underlying f0.type = some (.int .i64)) (i1 : P.underlying f1.type = some (.int .i64)) (h : DataW.Trod enc P W base sp held t (.slice a len cap) d p) : ∃ ps : List (Int × Int), RdS W (.slice a len cap) ps := by
  obtain ⟨fuel, hf⟩ := h
  rcases Go.Deep.open_slice_pairs ht he ce o0 o1 c0 c1 hf with ⟨hcs, _⟩ | ⟨ad, l, c, m, n, V0, V1, D0, D1, P0, P1, hcs, _, hl, hm, hmm, _, hx⟩
  · simp [Value.cells] at hcs
    obtain ⟨rfl, rfl, rfl⟩ := hcs
    exact ⟨[], RdS.nil W⟩
  · simp [Value.cells] at hcs
    obtain ⟨rfl, rfl, rfl⟩ := hcs
    have hlm : len ≤ m := by rw [hmm]; split <;> omega
    have each : ∀ i, i < len → ∃ x y : Int, W.cell? (ad.add (i * 2)) = some (.int .i64 x) ∧ W.cell? (ad.add (i * 2 + 1)) = some (.int .i64 y) := by
      intro i hi
      obtain ⟨h1, h2, h3, h4⟩ := hx i (by omega)
      obtain ⟨x, e0, _, _⟩ := DataW.trod_int i0 h3
      obtain ⟨y, e1, _, _⟩ := DataW.trod_int i1 h4
      simp at e0 e1
      exact ⟨x, y, by rw [h1, e0], by rw [h2, e1]⟩
    let ps : List (Int × Int) := (List.range len).map fun i => if hi : i < len then ((each i hi).choose, (each i hi).choose_spec.choose) else (0, 0)
    have hlen : ps.length = len := by simp [ps]
    refine ⟨ps, by rw [hlen]; simp [maxLen] at hm; omega, some ad, cap, by rw [hlen], ?_⟩
    by_cases h0 : len = 0
    · left; exact List.length_eq_zero_iff.1 (hlen.trans h0)
    · right
      obtain ⟨b, off, spot⟩ := ad
      have hsp : spot = none := by
        obtain ⟨x, y, hc, _⟩ := each 0 (by omega)
        simpa [Addr.add] using World.cell?_spot hc
      subst hsp
      refine ⟨b, off, rfl, ?_, fun i hi => ?_⟩
      · obtain ⟨x, y, hc, _⟩ := each 0 (by omega)
        rcases Nat.lt_or_ge b W.heap.size with h' | h'
        · exact h'
        · simp [World.cell?, Addr.add, Array.getElem?_eq_none h'] at hc
      · rw [hlen] at hi
        have e1 := (each i hi).choose_spec.choose_spec
        have hg : ps.getD i (0, 0) = ((each i hi).choose, (each i hi).choose_spec.choose) := by
          rw [List.getD_eq_getElem?_getD]; simp [ps, hi]
        rw [hg]
        rw [← addr_add b off (i * 2), show (⟨b, off + i * 2 + 1, none⟩ : Addr) = (⟨b, off, none⟩ : Addr).add (i * 2 + 1) from (addr_add b off (i * 2 + 1)).symm]
        exact e1
theorem rdI_of_trod {t e : TypeId} {a : Option Addr} {len cap : Nat} {d : DataW H} {p : List MemPlace} (ht : P.underlying t = some (.slice e)) (he : P.underlying e = some (.int .i64)) (ce : P.cellsOf e = 1)
    (h : DataW.Trod enc P W base (fun _ => true) held t (.slice a len cap) d p) : ∃ zs : List Int, RdI W (.slice a len cap) zs := by
  obtain ⟨fuel, hf⟩ := h
  rcases open_ints ht he ce hf with ⟨hcs, _⟩ | ⟨x, l, c, zs, hcs, _, hl, hm, hz, _, hcell, hwz⟩
  · simp [Value.cells] at hcs
    obtain ⟨rfl, rfl, rfl⟩ := hcs
    exact ⟨[], RdI.nil W⟩
  · simp [Value.cells] at hcs
    obtain ⟨rfl, rfl, rfl⟩ := hcs
    have hz' : zs.length = cap := by simpa using hz
    have hlen : (zs.take len).length = len := by simp; omega
    refine ⟨zs.take len, by rw [hlen]; simp [maxLen] at hm; omega, some x, cap, by rw [hlen], ?_⟩
    by_cases h0 : len = 0
    · left; exact List.length_eq_zero_iff.1 (hlen.trans h0)
    · right
      obtain ⟨b, off, spot⟩ := x
      have hc0 := hcell 0 (by omega)
      have hsp : spot = none := by simpa [Addr.add] using World.cell?_spot hc0
      subst hsp
      rw [addr_add] at hc0
      refine ⟨b, off, rfl, ?_, fun i hi => ?_⟩
      · rcases Nat.lt_or_ge b W.heap.size with h' | h'
        · exact h'
        · simp [World.cell?, Array.getElem?_eq_none h'] at hc0
      · rw [hlen] at hi
        have e1 := hcell i (by omega)
        rw [addr_add] at e1
        rw [e1, List.getD_eq_getElem?_getD, List.getD_eq_getElem?_getD, List.getElem?_take, if_pos hi]
end
end Go.Proofs.Sky
