/-
  lemmas for the theorems of this claim. No conditions beyond those written in the statements.
-/
import Derived.ProofKit
import Derived.OpenShut
import Derived.Deep.SlicePairs
import Derived.Test.YtmfiiocadhdhaaaBase
import Derived.Test.YtmfiiocadhdhaaaOpenS
import Derived.Test.YtmfiiocadhdhaaaSA26
set_option linter.unusedVariables false
set_option linter.unusedSimpArgs false
set_option linter.unnecessarySimpa false
namespace Go.Proofs.Sky
open Go Go.RowKit Go.ChangeShapes Go.WideShapes
theorem addr_add (b off i : Nat) : (⟨b, off, none⟩ : Addr).add i = ⟨b, off + i, none⟩ := by simp [Addr.add]
section
variable {H : Type} {enc : TypeId × Value → H} {P : Program} {W : World} {base : Nat} {sp : Nat → Bool} {held : Bool}
/-- an argument that is a slice of structs of two ints reads as a list of pairs -/
theorem rdS_of_trod {t e : TypeId} {f0 f1 : Field} {a : Option Addr} {len cap : Nat} {d : DataW H} {p : List MemPlace} (ht : P.underlying t = some (.slice e)) (he : P.underlying e = some (.struct #[f0, f1])) (ce : P.cellsOf e = 2) (o0 : f0.offset = 0) (o1 : f1.offset = 1) (c0 : P.cellsOf f0.type = 1) (c1 : P.cellsOf f1.type = 1)
    (i0 : P.underlying f0.type = some (.int .i64)) (i1 : P.underlying f1.type = some (.int .i64)) (h : DataW.Trod enc P W base sp held t (.slice a len cap) d p) : ∃ ps : List (Int × Int), RdS W (.slice a len cap) ps := by
  obtain ⟨fuel, hf⟩ := h
  rcases Go.Deep.open_slice_pairs ht he ce o0 o1 c0 c1 hf with ⟨hcs, _⟩ | ⟨ad, l, c, m, n, V0, V1, D0, D1, P0, P1, hcs, _, hl, hm, hmm, _, hx⟩
  · simp [Value.cells] at hcs
    obtain ⟨rfl, rfl, rfl⟩ := hcs
    exact ⟨[], RdS.nil W⟩
  · simp [Value.cells] at hcs
    obtain ⟨rfl, rfl, rfl⟩ := hcs
    have hlm : len ≤ m := by rw [hmm]; split <;> omega
    have each : ∀ i, i < len → ∃ x y : Int, W.cell? (ad.add (i * 2)) = some (.int .i64 x) ∧ W.cell? (ad.add (i * 2 + 1)) = some (.int .i64 y) := by
      intro i hi
      obtain ⟨h1, h2, h3, h4⟩ := hx i (by omega)
      obtain ⟨x, e0, _, _⟩ := DataW.trod_int i0 h3
      obtain ⟨y, e1, _, _⟩ := DataW.trod_int i1 h4
      simp at e0 e1
      exact ⟨x, y, by rw [h1, e0], by rw [h2, e1]⟩
    let ps : List (Int × Int) := (List.range len).map fun i => if hi : i < len then ((each i hi).choose, (each i hi).choose_spec.choose) else (0, 0)
    have hlen : ps.length = len := by simp [ps]
    refine ⟨ps, by rw [hlen]; simp [maxLen] at hm; omega, some ad, cap, by rw [hlen], ?_⟩
    by_cases h0 : len = 0
    · left; exact List.length_eq_zero_iff.1 (hlen.trans h0)
    · right
      obtain ⟨b, off, spot⟩ := ad
      have hsp : spot = none := by
        obtain ⟨x, y, hc, _⟩ := each 0 (by omega)
        simpa [Addr.add] using World.cell?_spot hc
      subst hsp
      refine ⟨b, off, rfl, ?_, fun i hi => ?_⟩
      · obtain ⟨x, y, hc, _⟩ := each 0 (by omega)
        rcases Nat.lt_or_ge b W.heap.size with h' | h'
        · exact h'
        · simp [World.cell?, Addr.add, Array.getElem?_eq_none h'] at hc
      · rw [hlen] at hi
        have e1 := (each i hi).choose_spec.choose_spec
        have hg : ps.getD i (0, 0) = ((each i hi).choose, (each i hi).choose_spec.choose) := by
          rw [List.getD_eq_getElem?_getD]; simp [ps, hi]
        rw [hg]
        rw [← addr_add b off (i * 2), show (⟨b, off + i * 2 + 1, none⟩ : Addr) = (⟨b, off, none⟩ : Addr).add (i * 2 + 1) from (addr_add b off (i * 2 + 1)).symm]
        exact e1
theorem rdI_of_trod {t e : TypeId} {a : Option Addr} {len cap : Nat} {d : DataW H} {p : List MemPlace} (ht : P.underlying t = some (.slice e)) (he : P.underlying e = some (.int .i64)) (ce : P.cellsOf e = 1)
    (h : DataW.Trod enc P W base (fun _ => true) held t (.slice a len cap) d p) : ∃ zs : List Int, RdI W (.slice a len cap) zs := by
  obtain ⟨fuel, hf⟩ := h
  rcases open_ints ht he ce hf with ⟨hcs, _⟩ | ⟨x, l, c, zs, hcs, _, hl, hm, hz, _, hcell, hwz⟩
  · simp [Value.cells] at hcs
    obtain ⟨rfl, rfl, rfl⟩ := hcs
    exact ⟨[], RdI.nil W⟩
  · simp [Value.cells] at hcs
    obtain ⟨rfl, rfl, rfl⟩ := hcs
    have hz' : zs.length = cap := by simpa using hz
    have hlen : (zs.take len).length = len := by simp; omega
    refine ⟨zs.take len, by rw [hlen]; simp [maxLen] at hm; omega, some x, cap, by rw [hlen], ?_⟩
    by_cases h0 : len = 0
    · left; exact List.length_eq_zero_iff.1 (hlen.trans h0)
    · right
      obtain ⟨b, off, spot⟩ := x
      have hc0 := hcell 0 (by omega)
      have hsp : spot = none := by simpa [Addr.add] using World.cell?_spot hc0
      subst hsp
      rw [addr_add] at hc0
      refine ⟨b, off, rfl, ?_, fun i hi => ?_⟩
      · rcases Nat.lt_or_ge b W.heap.size with h' | h'
        · exact h'
        · simp [World.cell?, Array.getElem?_eq_none h'] at hc0
      · rw [hlen] at hi
        have e1 := hcell i (by omega)
        rw [addr_add] at e1
        rw [e1, List.getD_eq_getElem?_getD, List.getD_eq_getElem?_getD, List.getElem?_take, if_pos hi]
end
end Go.Proofs.Sky

namespace Go.Proofs.Sky
open Go Go.RowKit Go.ChangeShapes Go.WideShapes Go.Deep Go.Joins
section
variable {H : Type} {enc : TypeId × Value → H} {P : Program} {W : World} {base : Nat} {sp : Nat → Bool} {held : Bool}
/-- an argument that is a slice: its length and its capacity -/
theorem cap_of_trod {t e : TypeId} {a : Option Addr} {len cap : Nat} {d : DataW H} {p : List MemPlace} (ht : P.underlying t = some (.slice e)) (h : DataW.Trod enc P W base sp held t (.slice a len cap) d p) : ∀ a' n c, (Value.slice a len cap) = .slice a' n c → n ≤ c ∧ c ≤ 9223372036854775807 := by
  obtain ⟨fuel, hf⟩ := h
  intro a' n' c' e9
  injection e9 with e1 e2 e3
  subst e1 e2 e3
  rcases open_slice ht hf with ⟨h0, _⟩ | ⟨ad, l, c, m, n, D, Pl, hcs, _, hl, hm, _⟩
  · simp [Value.cells] at h0
    obtain ⟨rfl, rfl, rfl⟩ := h0
    omega
  · simp [Value.cells] at hcs
    obtain ⟨rfl, rfl, rfl⟩ := hcs
    exact ⟨hl, by unfold maxLen at hm; omega⟩
end
end Go.Proofs.Sky

namespace Go.Proofs.Sky
open Go Go.RowKit Go.Shelf Go.ChangeShapes Go.WideShapes Go.Deep Go.Joins
set_option maxHeartbeats 2000000
set_option maxRecDepth 4000
section
variable {H : Type} {enc : TypeId × Value → H} {W : World} {base : Nat} {held : Bool}
theorem rdI_of_reads {P : Program} {t e : TypeId} {v : Value} (ht : P.underlying t = some (.slice e)) (he : P.underlying e = some (.int .i64)) (ce : P.cellsOf e = 1) (h : Reads1 enc P W base (fun _ => true) held t v) : ∃ zs : List Int, RdI W v zs := by
  obtain ⟨n, ⟨d, p⟩, h⟩ := h
  have h' := h
  rcases open_ints ht he ce h with ⟨hcs, _⟩ | ⟨x, l, c, zs, hcs, _⟩
  · simp at hcs; subst hcs
    exact ⟨[], RdI.nil W⟩
  · simp at hcs; subst hcs
    exact rdI_of_trod (d := d) (p := p) ht he ce ⟨n, by simpa [Value.cells] using h'⟩
theorem frs_arg {a : Option Addr} {len cap : Nat} {d : DataW H} {p : List MemPlace} (h : DataW.Trod enc Try.prog W base (fun _ => true) held 29 (.slice a len cap) d p) : ∃ fs : List Fr, RdFr W (.slice a len cap) fs := by
  have hc := cap_of_trod (enc := enc) (base := base) (held := held) Try.underlying29 h a len cap rfl
  rcases fields_of_slice (fs := _) Try.underlying29 Try.underlying47 (by kernel_rfl) (by kernel_rfl) h with ⟨rfl, rfl⟩ | ⟨ad, rfl, hm, hi⟩
  · exact ⟨[], by simp, fun f hf => (by cases hf), none, cap, rfl, hc.1, hc.2, .inl rfl⟩
  · have each : ∀ i, i < len → ∃ f : Fr, (RdI W f.d f.l ∧ Capd f.d) ∧ W.cell? (ad.add (i * 3)) = some (.int .i64 f.t) ∧ W.cell? (ad.add (i * 3 + 1)) = some (.int .i64 f.k) ∧ W.cell? (ad.add (i * 3 + 2)) = some f.d := by
      intro i hil
      obtain ⟨u0, c0, r0⟩ := hi i hil 0 _ rfl
      obtain ⟨u1, c1, r1⟩ := hi i hil 1 _ rfl
      obtain ⟨u2, c2, r2⟩ := hi i hil 2 _ rfl
      obtain ⟨x0, rfl⟩ := int_of_reads Try.underlying3 r0
      obtain ⟨x1, rfl⟩ := int_of_reads Try.underlying3 r1
      obtain ⟨zs, hz⟩ := rdI_of_reads (enc := enc) (base := base) (held := held) Try.underlying40 Try.underlying3 (by kernel_rfl) r2
      obtain ⟨a2, k2, rfl⟩ := hz.form
      obtain ⟨n, y, hr⟩ := r2
      have hc2 : Capd (.slice a2 zs.length k2) := cap_of_trod (enc := enc) (base := base) (held := held) Try.underlying40 ⟨_, by simpa [Value.cells] using hr⟩
      exact ⟨⟨x0, x1, .slice a2 zs.length k2, zs⟩, ⟨hz, hc2⟩, c0, c1, c2⟩
    let fs : List Fr := (List.range len).map fun i => if hi : i < len then (each i hi).choose else dFr
    have hlen : fs.length = len := by simp [fs]
    have hat : ∀ i (hi : i < len) f, fs[i]? = some f → f = (each i hi).choose := fun i hi f hf => by
      simp [fs, hi] at hf
      exact hf.symm
    have hmm : len ≤ 9223372036854775807 := by simp [maxLen] at hm; omega
    refine ⟨fs, by rw [hlen]; exact hmm, fun f hf => ?_, some ad, cap, by rw [hlen], by rw [hlen]; exact hc.1, hc.2, ?_⟩
    · obtain ⟨i, hi'⟩ := List.mem_iff_getElem?.1 hf
      have hil : i < len := by have := (List.getElem?_eq_some_iff.1 hi').1; omega
      rw [hat i hil f hi']
      exact (each i hil).choose_spec.1
    · by_cases h0 : len = 0
      · exact .inl (List.length_eq_zero_iff.1 (hlen.trans h0))
      · right
        obtain ⟨b, off, spot⟩ := ad
        have hsp : spot = none := by
          obtain ⟨f, _, hc, _⟩ := each 0 (by omega)
          simpa [Addr.add] using World.cell?_spot hc
        subst hsp
        refine ⟨b, off, rfl, ?_, fun i f hf => ?_⟩
        · obtain ⟨f, _, hc, _⟩ := each 0 (by omega)
          rcases Nat.lt_or_ge b W.heap.size with h' | h'
          · exact h'
          · simp [World.cell?, Addr.add, Array.getElem?_eq_none h'] at hc
        · have hil : i < len := by have := (List.getElem?_eq_some_iff.1 hf).1; omega
          rw [hat i hil f hf]
          obtain ⟨e1, e2, e3⟩ := (each i hil).choose_spec.2
          refine ⟨?_, ?_, ?_⟩
          · rw [← addr_add b off (i * 3)]; exact e1
          · rw [show off + i * 3 + 1 = off + (i * 3 + 1) by omega, ← addr_add b off (i * 3 + 1)]; exact e2
          · rw [show off + i * 3 + 2 = off + (i * 3 + 2) by omega, ← addr_add b off (i * 3 + 2)]; exact e3
end
end Go.Proofs.Sky
