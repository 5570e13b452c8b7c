/-
  lemmas for the theorems of this claim. No conditions beyond those written in the statements.
-/
import Derived.Test.YtdaplhjkccfmgaaOpen
import Derived.Test.YtdaplhjkccfmgaaOpenS
set_option linter.unusedVariables false
set_option linter.unusedSimpArgs false
set_option linter.unnecessarySimpa false
namespace Go.Proofs.Sky
open Go Go.RowKit Go.ChangeShapes Go.WideShapes Go.Deep Go.Joins
section
variable {H : Type} {enc : TypeId × Value → H} {P : Program} {W : World} {base : Nat} {sp : Nat → Bool} {held : Bool}
/-- an argument that is a slice of arrays of two ints reads as a list of pairs -/
theorem rdA_of_trod {t e f : TypeId} {a : Option Addr} {len cap : Nat} {d : DataW H} {p : List MemPlace} (ht : P.underlying t = some (.slice e)) (he : P.underlying e = some (.array 2 f)) (ce : P.cellsOf e = 2) (cf : P.cellsOf f = 1) (hf : P.underlying f = some (.int .i64))
    (h : DataW.Trod enc P W base sp held t (.slice a len cap) d p) : ∃ ps : List (Int × Int), RdS W (.slice a len cap) ps := by
  obtain ⟨fuel, hfu⟩ := h
  rcases open_slice ht hfu with ⟨h0, _⟩ | ⟨ad, l, c, m, n, D, Pl, hcs, _, hl, hm, hmm, _, hi⟩
  · simp [Value.cells] at h0
    obtain ⟨rfl, rfl, rfl⟩ := h0
    exact ⟨[], RdS.nil W⟩
  · simp [Value.cells] at hcs
    obtain ⟨rfl, rfl, rfl⟩ := hcs
    have each : ∀ i, i < len → ∃ x y : Int, W.cell? (ad.add (i * 2)) = some (.int .i64 x) ∧ W.cell? (ad.add (i * 2 + 1)) = some (.int .i64 y) := by
      intro i hil
      obtain ⟨cs', hc, ht'⟩ := hi i (by rw [hmm]; split <;> omega)
      rw [ce] at hc
      obtain ⟨ys, n', _, _, _, hyl, hff⟩ := DataW.trod_array he ht'
      obtain ⟨_, hcl, hat⟩ := World.cells?_some hc
      have one : ∀ j, j < 2 → ∃ x : Int, W.cell? (ad.add (i * 2 + j)) = some (.int .i64 x) := by
        intro j hj
        have h1 := hff j hj
        rw [cf] at h1
        have e1 : (cs'.drop (j * 1)).take 1 = [cs'[j]'(by omega)] := by
          rw [Nat.mul_one, List.drop_eq_getElem_cons (by omega)]; rfl
        rw [e1, List.getElem?_eq_getElem (by omega)] at h1
        obtain ⟨x, ex, _, _⟩ := DataW.trod_int hf h1
        simp at ex
        have hcell := hat (i := j) hj
        rw [List.getElem?_eq_getElem (show j < cs'.length by omega)] at hcell
        rw [add_add] at hcell
        exact ⟨x, by rw [hcell, ex]⟩
      obtain ⟨x, hx⟩ := one 0 (by omega)
      obtain ⟨y, hy⟩ := one 1 (by omega)
      exact ⟨x, y, hx, hy⟩
    let ps : List (Int × Int) := (List.range len).map fun i => if hi : i < len then ((each i hi).choose, (each i hi).choose_spec.choose) else (0, 0)
    have hlen : ps.length = len := by simp [ps]
    refine ⟨ps, by rw [hlen]; simp [maxLen] at hm; omega, some ad, cap, by rw [hlen], ?_⟩
    by_cases h0 : len = 0
    · left; exact List.length_eq_zero_iff.1 (hlen.trans h0)
    · right
      obtain ⟨b, off, spot⟩ := ad
      have hsp : spot = none := by
        obtain ⟨x, y, hc, _⟩ := each 0 (by omega)
        simpa [Addr.add] using World.cell?_spot hc
      subst hsp
      refine ⟨b, off, rfl, ?_, fun i hi => ?_⟩
      · obtain ⟨x, y, hc, _⟩ := each 0 (by omega)
        rcases Nat.lt_or_ge b W.heap.size with h' | h'
        · exact h'
        · simp [World.cell?, Addr.add, Array.getElem?_eq_none h'] at hc
      · rw [hlen] at hi
        have e1 := (each i hi).choose_spec.choose_spec
        have hg : ps.getD i (0, 0) = ((each i hi).choose, (each i hi).choose_spec.choose) := by
          rw [List.getD_eq_getElem?_getD]; simp [ps, hi]
        rw [hg]
        rw [← addr_add b off (i * 2), show (⟨b, off + i * 2 + 1, none⟩ : Addr) = (⟨b, off, none⟩ : Addr).add (i * 2 + 1) from (addr_add b off (i * 2 + 1)).symm]
        exact e1
end
end Go.Proofs.Sky
