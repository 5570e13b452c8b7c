/-
  lemmas for the theorems of this claim. No conditions beyond those written in the statements.
-/
import Derived.Test.YtcbkjfakedngbaaQ25
import Derived.Test.YtcbkjfakedngbaaR25
set_option linter.unusedVariables false
set_option linter.unusedSimpArgs false
set_option linter.unnecessarySimpa false
namespace Go.Proofs.Sky
open Go Go.RowKit Go.ChangeShapes Go.WideShapes Go.Deep Go.Joins
section
variable {H : Type} {enc : TypeId × Value → H} {W : World} {base : Nat} {sp : Nat → Bool} {held : Bool}
theorem fields_arg {a : Option Addr} {len cap : Nat} {d : DataW H} {p : List MemPlace} (h : DataW.Trod enc Try.prog W base sp held 41 (.slice a len cap) d p) : ∃ fs : List Fd, RdF W (.slice a len cap) fs := by
  rcases fields_of_slice Try.underlying41 Try.underlying24 (by kernel_rfl) (by kernel_rfl) h with ⟨rfl, rfl⟩ | ⟨ad, rfl, hl, hf⟩
  · exact ⟨[], by simp, none, cap, rfl, .inl rfl⟩
  · have each : ∀ i, i < len → ∃ f : Fd, W.cell? (ad.add (i * 5 + 0)) = some (.int .i64 f.a) ∧ W.cell? (ad.add (i * 5 + 1)) = some (.int .i64 f.n) ∧ W.cell? (ad.add (i * 5 + 2)) = some (.bool f.g) ∧ W.cell? (ad.add (i * 5 + 3)) = some (.int .i64 f.u) ∧ W.cell? (ad.add (i * 5 + 4)) = some (.int .i64 f.c) := by
      intro i hi
      obtain ⟨u0, e0, r0⟩ := hf i hi 0 _ rfl
      obtain ⟨u1, e1, r1⟩ := hf i hi 1 _ rfl
      obtain ⟨u2, e2, r2⟩ := hf i hi 2 _ rfl
      obtain ⟨u3, e3, r3⟩ := hf i hi 3 _ rfl
      obtain ⟨u4, e4, r4⟩ := hf i hi 4 _ rfl
      obtain ⟨x0, rfl⟩ := int_of_reads Try.underlying3 r0
      obtain ⟨x1, rfl⟩ := int_of_reads Try.underlying3 r1
      obtain ⟨x2, rfl⟩ := bool_of_reads Try.underlying4 r2
      obtain ⟨x3, rfl⟩ := int_of_reads Try.underlying3 r3
      obtain ⟨x4, rfl⟩ := int_of_reads Try.underlying3 r4
      exact ⟨⟨x0, x1, x2, x3, x4⟩, e0, e1, e2, e3, e4⟩
    by_cases h0 : len = 0
    · subst h0
      exact ⟨[], by simp, some ad, cap, rfl, .inl rfl⟩
    · obtain ⟨b, off, spot⟩ := ad
      have hsp : spot = none := by
        obtain ⟨f, e, _⟩ := each 0 (by omega)
        simpa [Addr.add] using World.cell?_spot e
      subst hsp
      refine ⟨(List.range len).map fun i => if hi : i < len then (each i hi).choose else default, by simp; simp [maxLen] at hl; omega, _, cap, by simp, .inr ⟨b, off, rfl, ?_, fun i f hf => ?_⟩⟩
      · obtain ⟨f, e, _⟩ := each 0 (by omega)
        rcases Nat.lt_or_ge b W.heap.size with h' | h'
        · exact h'
        · simp [World.cell?, Addr.add, Array.getElem?_eq_none h'] at e
      · rw [List.getElem?_map, Option.map_eq_some_iff] at hf
        obtain ⟨j, hj, rfl⟩ := hf
        obtain ⟨hj1, hj2⟩ := List.getElem?_eq_some_iff.1 hj
        simp at hj1 hj2
        subst hj2
        rw [dif_pos hj1]
        have hs := (each i hj1).choose_spec
        generalize (each i hj1).choose = f at hs
        have ea : ∀ k, (⟨b, off, none⟩ : Addr).add (i * 5 + k) = ⟨b, off + i * 5 + k, none⟩ := fun k => by simp [Addr.add, Nat.add_assoc]
        simp only [ea] at hs
        exact hs
end
end Go.Proofs.Sky
