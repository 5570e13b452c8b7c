/-
  lemmas for the theorems of this claim. No conditions beyond those written in the statements.
-/
import Derived.Test.YtmndialneggbjaaBlkC
import Derived.Test.YtmndialneggbjaaProg
import Derived.Test.YtmndialneggbjaaOpen
import Derived.Test.YtmndialneggbjaaOpenS
set_option linter.unusedVariables false
set_option linter.unusedSimpArgs false
set_option linter.unnecessarySimpa false
namespace Go.Proofs.Sky
open Go Go.RowKit Go.ChangeShapes Go.WideShapes Go.Deep Go.Joins
section
variable {H : Type} {enc : TypeId × Value → H} {W : World} {base : Nat} {held : Bool}
theorem rdI_of_reads {P : Program} {t e : TypeId} {v : Value} (ht : P.underlying t = some (.slice e)) (he : P.underlying e = some (.int .i64)) (ce : P.cellsOf e = 1) (h : Reads1 enc P W base (fun _ => true) held t v) : ∃ zs : List Int, RdI W v zs := by
  obtain ⟨n, ⟨d, p⟩, h⟩ := h
  have h' := h
  rcases open_ints ht he ce h with ⟨hcs, _⟩ | ⟨x, l, c, zs, hcs, _⟩
  · simp at hcs; subst hcs
    exact ⟨[], RdI.nil W⟩
  · simp at hcs; subst hcs
    exact rdI_of_trod (d := d) (p := p) ht he ce ⟨n, by simpa [Value.cells] using h'⟩
theorem sync_arg {r : Reach} {b0 : Nat} {v : Value} {d : DataW H} {p : List MemPlace} (hv : Value.okWide Try.prog W r b0 36 v) (h : DataW.Trod enc Try.prog W base (fun _ => true) held 36 v d p) : ∃ (u : Value) (S x y : Int) (zs : List Int), v = .agg #[u, .int .i64 S, .int .i64 x, .int .i64 y] ∧ RdI W u zs := by
  obtain ⟨cs, rfl, hsz⟩ := okWide_struct Try.underlying36 hv
  have hs4 : cs.size = 4 := hsz.trans (by kernel_rfl)
  obtain ⟨fuel, hf⟩ := h
  obtain ⟨xs, n, _, _, _, hlen, hg⟩ := DataW.trod_struct Try.underlying36 hf
  have hl3 : xs.length = 3 := hlen
  obtain ⟨ys⟩ := cs
  have hy4 : ys.length = 4 := hs4
  match ys, hy4 with
  | [u0, u1, u2, u3], _ =>
    match xs, hl3 with
    | [x0, x1, x2], _ =>
      have g0 : DataW.trod enc Try.prog W base (fun _ => true) held n 27 [u0] = some x0 := hg 0 _ rfl
      have g1 : DataW.trod enc Try.prog W base (fun _ => true) held n 3 [u1] = some x1 := hg 1 _ rfl
      have g2 : DataW.trod enc Try.prog W base (fun _ => true) held n 34 [u2, u3] = some x2 := hg 2 _ rfl
      obtain ⟨zs, hz⟩ := rdI_of_reads (enc := enc) (base := base) (held := held) Try.underlying27 Try.underlying3 (by kernel_rfl) ⟨n, _, g0⟩
      obtain ⟨S, e1, _, _⟩ := DataW.trod_int Try.underlying3 g1
      obtain ⟨zz, n2, _, _, _, hlen2, hg2⟩ := DataW.trod_struct Try.underlying34 g2
      have hl2 : zz.length = 2 := hlen2
      match zz, hl2 with
      | [z0, z1], _ =>
        have k0 : DataW.trod enc Try.prog W base (fun _ => true) held n2 3 [u2] = some z0 := hg2 0 _ rfl
        have k1 : DataW.trod enc Try.prog W base (fun _ => true) held n2 3 [u3] = some z1 := hg2 1 _ rfl
        obtain ⟨x, e2, _, _⟩ := DataW.trod_int Try.underlying3 k0
        obtain ⟨y, e3, _, _⟩ := DataW.trod_int Try.underlying3 k1
        simp at e1 e2 e3
        subst e1 e2 e3
        exact ⟨u0, S, x, y, zs, rfl, hz⟩
end
end Go.Proofs.Sky
