/-
  lemmas for the theorems of this claim. No conditions beyond those written in the statements.
-/
import Derived.Test.YtcbkjfakedngbaaProg
import Derived.Test.YtcbkjfakedngbaaOpenS
set_option linter.unusedVariables false
set_option linter.unusedSimpArgs false
set_option linter.unnecessarySimpa false
namespace Go.Proofs.Sky
open Go Go.RowKit Go.ChangeShapes Go.WideShapes Go.Deep Go.Joins
section
variable {H : Type} {enc : TypeId × Value → H} {W : World} {base : Nat} {sp : Nat → Bool} {held : Bool}
theorem field_arg {r : Reach} {b0 : Nat} {v : Value} {d : DataW H} {p : List MemPlace} (hv : Value.okWide Try.prog W r b0 24 v) (h : DataW.Trod enc Try.prog W base sp held 24 v d p) :
    ∃ (a n : Int) (g : Bool) (u c : Int), v = .agg #[.int .i64 a, .int .i64 n, .bool g, .int .i64 u, .int .i64 c] := by
  obtain ⟨cs, rfl, hs, hf⟩ := fields_of_agg Try.underlying24 (by kernel_rfl) (by kernel_rfl) hv h
  obtain ⟨u0, e0, r0⟩ := hf 0 _ rfl
  obtain ⟨u1, e1, r1⟩ := hf 1 _ rfl
  obtain ⟨u2, e2, r2⟩ := hf 2 _ rfl
  obtain ⟨u3, e3, r3⟩ := hf 3 _ rfl
  obtain ⟨u4, e4, r4⟩ := hf 4 _ rfl
  obtain ⟨x0, rfl⟩ := int_of_reads Try.underlying3 r0
  obtain ⟨x1, rfl⟩ := int_of_reads Try.underlying3 r1
  obtain ⟨x2, rfl⟩ := bool_of_reads Try.underlying4 r2
  obtain ⟨x3, rfl⟩ := int_of_reads Try.underlying3 r3
  obtain ⟨x4, rfl⟩ := int_of_reads Try.underlying3 r4
  refine ⟨x0, x1, x2, x3, x4, ?_⟩
  rw [array_of cs [.int .i64 x0, .int .i64 x1, .bool x2, .int .i64 x3, .int .i64 x4] hs (fun i hi => ?_)]
  match i, hi with
  | 0, _ => exact e0
  | 1, _ => exact e1
  | 2, _ => exact e2
  | 3, _ => exact e3
  | 4, _ => exact e4
end
end Go.Proofs.Sky
