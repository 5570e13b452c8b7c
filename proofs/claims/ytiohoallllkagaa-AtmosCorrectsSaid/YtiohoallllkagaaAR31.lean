/-
  lemmas for the theorems of this claim. No conditions beyond those written in the statements.
-/
import Derived.Test.YtiohoallllkagaaRdAt
import Derived.Test.YtiohoallllkagaaProg
import Derived.Test.YtiohoallllkagaaOpen
import Derived.Test.YtiohoallllkagaaOpenC
import Derived.Test.YtiohoallllkagaaU25b
set_option linter.unusedVariables false
set_option linter.unusedSimpArgs false
set_option linter.unnecessarySimpa false
namespace Go.Proofs.Sky
open Go Go.RowKit Go.ChangeShapes Go.WideShapes Go.Deep Go.Joins
set_option maxRecDepth 8000
section
variable {H : Type} {enc : TypeId × Value → H} {W : World} {base : Nat} {held : Bool}
theorem rdI_of_reads {P : Program} {t e : TypeId} {v : Value} (ht : P.underlying t = some (.slice e)) (he : P.underlying e = some (.int .i64)) (ce : P.cellsOf e = 1) (h : Reads1 enc P W base (fun _ => true) held t v) : ∃ zs : List Int, RdI W v zs := by
  obtain ⟨n, ⟨d, p⟩, h⟩ := h
  have h' := h
  rcases open_ints ht he ce h with ⟨hcs, _⟩ | ⟨x, l, c, zs, hcs, _⟩
  · simp at hcs; subst hcs
    exact ⟨[], RdI.nil W⟩
  · simp at hcs; subst hcs
    exact rdI_of_trod (d := d) (p := p) ht he ce ⟨n, by simpa [Value.cells] using h'⟩
theorem atmos_arg {r : Reach} {b0 : Nat} {v : Value} {d : DataW H} {p : List MemPlace} (hv : Value.okWide Try.prog W r b0 25 v) (h : DataW.Trod enc Try.prog W base (fun _ => true) held 25 v d p) : ∃ (x0 : Int) (x1 : Int) (x2 : Int) (x3 : Int) (x4 : Int) (x5 : Int) (x6 : Int) (x7 : Int) (x8 : Int), v = .agg #[.int .i64 x0, .int .i64 x1, .int .i64 x2, .int .i64 x3, .int .i64 x4, .int .i64 x5, .int .i64 x6, .int .i64 x7, .int .i64 x8] := by
  obtain ⟨cs, rfl, hsz⟩ := okWide_struct Try.underlying25 hv
  have hsN : cs.size = 9 := hsz.trans (by kernel_rfl)
  obtain ⟨fuel, hf⟩ := h
  obtain ⟨ys⟩ := cs
  have hyN : ys.length = 9 := hsN
  match ys, hyN with
  | [u0, u1, u2, u3, u4, u5, u6, u7, u8], _ =>
    obtain ⟨xs0, n0, _, _, _, hlen0, hg0⟩ := DataW.trod_struct Try.underlying25 hf
    have hl0 : xs0.length = 4 := hlen0
    match xs0, hl0 with
    | [y0_0, y0_1, y0_2, y0_3], _ =>
      have g0_0 : DataW.trod enc Try.prog W base (fun _ => true) held n0 22 [u0, u1, u2, u3] = some y0_0 := hg0 0 _ rfl
      have g0_1 : DataW.trod enc Try.prog W base (fun _ => true) held n0 23 [u4, u5, u6] = some y0_1 := hg0 1 _ rfl
      have g0_2 : DataW.trod enc Try.prog W base (fun _ => true) held n0 3 [u7] = some y0_2 := hg0 2 _ rfl
      have g0_3 : DataW.trod enc Try.prog W base (fun _ => true) held n0 3 [u8] = some y0_3 := hg0 3 _ rfl
      obtain ⟨xs1, n1, _, _, _, hlen1, hg1⟩ := DataW.trod_array Try.underlying22 g0_0
      have hl1 : xs1.length = 4 := hlen1
      match xs1, hl1 with
      | [y1_0, y1_1, y1_2, y1_3], _ =>
        have g1_0 : DataW.trod enc Try.prog W base (fun _ => true) held n1 3 [u0] = some y1_0 := hg1 0 (by omega)
        have g1_1 : DataW.trod enc Try.prog W base (fun _ => true) held n1 3 [u1] = some y1_1 := hg1 1 (by omega)
        have g1_2 : DataW.trod enc Try.prog W base (fun _ => true) held n1 3 [u2] = some y1_2 := hg1 2 (by omega)
        have g1_3 : DataW.trod enc Try.prog W base (fun _ => true) held n1 3 [u3] = some y1_3 := hg1 3 (by omega)
        obtain ⟨x0, e0, _, _⟩ := DataW.trod_int Try.underlying3 g1_0
        obtain ⟨x1, e1, _, _⟩ := DataW.trod_int Try.underlying3 g1_1
        obtain ⟨x2, e2, _, _⟩ := DataW.trod_int Try.underlying3 g1_2
        obtain ⟨x3, e3, _, _⟩ := DataW.trod_int Try.underlying3 g1_3
        obtain ⟨xs2, n2, _, _, _, hlen2, hg2⟩ := DataW.trod_array Try.underlying23 g0_1
        have hl2 : xs2.length = 3 := hlen2
        match xs2, hl2 with
        | [y2_0, y2_1, y2_2], _ =>
          have g2_0 : DataW.trod enc Try.prog W base (fun _ => true) held n2 3 [u4] = some y2_0 := hg2 0 (by omega)
          have g2_1 : DataW.trod enc Try.prog W base (fun _ => true) held n2 3 [u5] = some y2_1 := hg2 1 (by omega)
          have g2_2 : DataW.trod enc Try.prog W base (fun _ => true) held n2 3 [u6] = some y2_2 := hg2 2 (by omega)
          obtain ⟨x4, e4, _, _⟩ := DataW.trod_int Try.underlying3 g2_0
          obtain ⟨x5, e5, _, _⟩ := DataW.trod_int Try.underlying3 g2_1
          obtain ⟨x6, e6, _, _⟩ := DataW.trod_int Try.underlying3 g2_2
          obtain ⟨x7, e7, _, _⟩ := DataW.trod_int Try.underlying3 g0_2
          obtain ⟨x8, e8, _, _⟩ := DataW.trod_int Try.underlying3 g0_3
          simp at e0 e1 e2 e3 e4 e5 e6 e7 e8
          subst e0 e1 e2 e3 e4 e5 e6 e7 e8
          exact ⟨x0, x1, x2, x3, x4, x5, x6, x7, x8, rfl⟩
theorem frame_arg {r : Reach} {b0 : Nat} {v : Value} {d : DataW H} {p : List MemPlace} (hv : Value.okWide Try.prog W r b0 38 v) (h : DataW.Trod enc Try.prog W base (fun _ => true) held 38 v d p) : ∃ (x0 : Int) (x1 : Int) (x2 : Value) (zs2 : List Int), v = .agg #[.int .i64 x0, .int .i64 x1, x2] ∧ RdI W x2 zs2 ∧ Capd x2 := by
  obtain ⟨cs, rfl, hsz⟩ := okWide_struct Try.underlying38 hv
  have hsN : cs.size = 3 := hsz.trans (by kernel_rfl)
  obtain ⟨fuel, hf⟩ := h
  obtain ⟨ys⟩ := cs
  have hyN : ys.length = 3 := hsN
  match ys, hyN with
  | [u0, u1, u2], _ =>
    obtain ⟨xs0, n0, _, _, _, hlen0, hg0⟩ := DataW.trod_struct Try.underlying38 hf
    have hl0 : xs0.length = 3 := hlen0
    match xs0, hl0 with
    | [y0_0, y0_1, y0_2], _ =>
      have g0_0 : DataW.trod enc Try.prog W base (fun _ => true) held n0 3 [u0] = some y0_0 := hg0 0 _ rfl
      have g0_1 : DataW.trod enc Try.prog W base (fun _ => true) held n0 3 [u1] = some y0_1 := hg0 1 _ rfl
      have g0_2 : DataW.trod enc Try.prog W base (fun _ => true) held n0 36 [u2] = some y0_2 := hg0 2 _ rfl
      obtain ⟨x0, e0, _, _⟩ := DataW.trod_int Try.underlying3 g0_0
      obtain ⟨x1, e1, _, _⟩ := DataW.trod_int Try.underlying3 g0_1
      obtain ⟨zs2, hz2⟩ := rdI_of_reads (enc := enc) (base := base) (held := held) Try.underlying36 Try.underlying3 (by kernel_rfl) ⟨_, _, g0_2⟩
      obtain ⟨a2, c2, rfl⟩ := hz2.form
      have hc2 : Capd (.slice a2 zs2.length c2) := cap_of_trod (enc := enc) (base := base) (held := held) Try.underlying36 ⟨_, by simpa [Value.cells] using g0_2⟩
      simp at e0 e1
      subst e0 e1
      exact ⟨x0, x1, _, zs2, rfl, hz2, hc2⟩
end
end Go.Proofs.Sky
