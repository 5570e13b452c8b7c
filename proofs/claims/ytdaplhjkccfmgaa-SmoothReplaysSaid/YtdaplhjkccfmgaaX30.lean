/-
  lemmas for the theorems of this claim. No conditions beyond those written in the statements.
-/
import Derived.Test.YtdaplhjkccfmgaaE30
import Derived.Test.YtdaplhjkccfmgaaOpen
import Derived.Test.YtdaplhjkccfmgaaOpenS
set_option linter.unusedVariables false
set_option linter.unusedSimpArgs false
set_option linter.unnecessarySimpa false
namespace Go.Proofs.Sky
open Go Go.RowKit Go.ChangeShapes Go.WideShapes Go.Deep Go.Joins
section
variable {H : Type} {enc : TypeId × Value → H} {W : World} {base : Nat} {held : Bool}
theorem rdI_of_reads {P : Program} {t e : TypeId} {v : Value} (ht : P.underlying t = some (.slice e)) (he : P.underlying e = some (.int .i64)) (ce : P.cellsOf e = 1) (h : Reads1 enc P W base (fun _ => true) held t v) : ∃ zs : List Int, RdI W v zs := by
  obtain ⟨n, ⟨d, p⟩, h⟩ := h
  have h' := h
  rcases open_ints ht he ce h with ⟨hcs, _⟩ | ⟨x, l, c, zs, hcs, _⟩
  · simp at hcs; subst hcs
    exact ⟨[], RdI.nil W⟩
  · simp at hcs; subst hcs
    exact rdI_of_trod (d := d) (p := p) ht he ce ⟨n, by simpa [Value.cells] using h'⟩
theorem smooth_arg {r : Reach} {b0 : Nat} {v : Value} {d : DataW H} {p : List MemPlace} (hv : Value.okWide Try.prog W r b0 34 v) (h : DataW.Trod enc Try.prog W base (fun _ => true) held 34 v d p) : ∃ (x y : Int) (zs : List Int) (u : Value), v = .agg #[.int .i64 x, .int .i64 y, u] ∧ RdI W u zs := by
  obtain ⟨cs, rfl, hsz, hf⟩ := fields_of_agg Try.underlying34 (by kernel_rfl) (by kernel_rfl) hv h
  obtain ⟨u0, e0, r0⟩ := hf 0 _ rfl
  obtain ⟨u1, e1, r1⟩ := hf 1 _ rfl
  obtain ⟨u2, e2, r2⟩ := hf 2 _ rfl
  obtain ⟨x0, rfl⟩ := int_of_reads Try.underlying3 r0
  obtain ⟨x1, rfl⟩ := int_of_reads Try.underlying3 r1
  obtain ⟨zs, hz⟩ := rdI_of_reads Try.underlying26 Try.underlying3 (by kernel_rfl) r2
  refine ⟨x0, x1, zs, u2, ?_, hz⟩
  rw [array_of cs [.int .i64 x0, .int .i64 x1, u2] hsz (fun i hi => ?_)]
  match i, hi with
  | 0, _ => exact e0
  | 1, _ => exact e1
  | 2, _ => exact e2
end
end Go.Proofs.Sky
