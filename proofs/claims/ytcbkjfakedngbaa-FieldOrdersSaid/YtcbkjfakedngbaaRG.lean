/-
  lemmas for the theorems of this claim. No conditions beyond those written in the statements.
-/
import Derived.Test.YtcbkjfakedngbaaRQ
set_option linter.unusedVariables false
set_option linter.unusedSimpArgs false
set_option linter.unnecessarySimpa false
namespace Go.Proofs.Sky
open Go Go.RowKit Go.Shelf
/-- w has grown to w', but for block bl, which may have been written -/
structure Gr (bl : Nat) (w w' : World) : Prop where
  os : w'.os = w.os
  tape : w'.tape = w.tape
  output : w'.output = w.output
  size : w.heap.size ≤ w'.heap.size
  block : ∀ k, k < w.heap.size → k ≠ bl → w'.heap[k]? = w.heap[k]?
theorem Gr.refl (bl : Nat) (w : World) : Gr bl w w := ⟨rfl, rfl, rfl, Nat.le_refl _, fun _ _ _ => rfl⟩
theorem Gr.trans {bl : Nat} {a b c : World} (h : Gr bl a b) (k : Gr bl b c) : Gr bl a c :=
  ⟨k.os.trans h.os, k.tape.trans h.tape, k.output.trans h.output, Nat.le_trans h.size k.size, fun i hi hn => (k.block i (Nat.lt_of_lt_of_le hi h.size) hn).trans (h.block i hi hn)⟩
theorem Gr.of_bw {bl : Nat} {a b : World} (h : Bw a b) : Gr bl a b := ⟨h.out.os, h.out.tape, h.out.output, h.size, fun k hk _ => h.out.block k hk⟩
theorem Gr.bw {bl : Nat} {a b c : World} (h : Gr bl a b) (k : Bw b c) : Gr bl a c := h.trans (Gr.of_bw k)
theorem Gr.set {bl : Nat} {a b : World} (h : Gr bl a b) {p : Addr} (hp : p.block = bl ∨ a.heap.size ≤ p.block) (u : Value) : Gr bl a (b.setCell p u) :=
  have q := Below.setCell (Below.refl 0 b) (p := p) (Nat.zero_le _) u
  ⟨q.os.trans h.os, q.tape.trans h.tape, q.output.trans h.output, Nat.le_trans h.size q.size, fun k hk hn => (Below.heap_setCell _ _ _ _ (by omega)).trans (h.block k hk hn)⟩
theorem Gr.alloc {bl : Nat} {a b : World} (h : Gr bl a b) (o : Obj) : Gr bl a (b.alloc o) := h.bw (Bw.alloc (Bw.refl _) o)
theorem Gr.drew {bl : Nat} {a b : World} (h : Gr bl a b) : Gr bl a b.drew := h.bw (Bw.drew (Bw.refl _))
theorem Gr.shut {bl : Nat} {a b c : World} (h : Gr bl a b) (hS : Shut a.heap.size b c) : Gr bl a c := by
  have k := hS.below h.size
  exact ⟨k.os.trans h.os, k.tape.trans h.tape, k.output.trans h.output, Nat.le_trans h.size k.size, fun i hi hn => (k.block i hi).trans (h.block i hi hn)⟩
theorem Gr.cell {bl : Nat} {w w' : World} (h : Gr bl w w') {b : Nat} (o : Nat) (hb : b < w.heap.size) (hn : b ≠ bl) : w'.cell? ⟨b, o, none⟩ = w.cell? ⟨b, o, none⟩ := World.cell?_of_block (h.block b hb hn)
theorem Gr.frozen {bl : Nat} {w w' : World} (h : Gr bl w w') {b : Nat} (o : Nat) (hb : b < w.heap.size) (hn : b ≠ bl) : w'.frozen? ⟨b, o, none⟩ = w.frozen? ⟨b, o, none⟩ := World.frozen?_of_block (h.block b hb hn)
theorem Gr.K {bl : Nat} {w W W' : World} {row : Option Nat} {B : Nat} (h : Gr bl w W) (hB : w.heap.size ≤ B) (hg : W.grownBy W' row) (hr : ∀ r, row = some r → B ≤ r ∧ ∃ o : Obj, W.heap[r]? = some o ∧ o.isCells = false) : Gr bl w W' :=
  ⟨hg.os.trans h.os, hg.tape.trans h.tape, hg.output.trans h.output, Nat.le_trans h.size hg.size, fun k hk hn => (hg.block k (Nat.lt_of_lt_of_le hk h.size) (fun e => by have := (hr k e.symm).1; omega)).trans (h.block k hk hn)⟩
/-- a block that the call may write is its caller's own, laid since a: nothing below a turns -/
theorem Gr.to_bw {bl : Nat} {a b c : World} (h : Bw a b) (k : Gr bl b c) (hb : a.heap.size ≤ bl) : Bw a c :=
  ⟨k.os.trans h.out.os, k.tape.trans h.out.tape, k.output.trans h.out.output, Nat.le_trans h.size k.size, fun i hi => (k.block i (Nat.lt_of_lt_of_le hi h.size) (by omega)).trans (h.out.block i hi)⟩
end Go.Proofs.Sky
