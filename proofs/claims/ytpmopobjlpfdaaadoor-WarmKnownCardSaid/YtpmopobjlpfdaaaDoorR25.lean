/-
  lemmas for the theorems of this claim. No conditions beyond those written in the statements.
-/
import Derived.Test.YtpmopobjlpfdaaaDoorM25
import Derived.Maps.Own
import Derived.Maps.OwnOps
import Derived.Maps.OwnSet
import Derived.Maps.Views
import Derived.Carry
set_option linter.unusedVariables false
set_option linter.unusedSimpArgs false
set_option linter.unnecessarySimpa false
namespace Go.Proofs.Sky
open Go Go.RowKit Go.Shelf
set_option maxHeartbeats 2000000
def fval (f : Fd) : Value := .agg #[.int .i64 f.a, .int .i64 f.n, .bool f.g, .int .i64 f.u, .int .i64 f.c]
/-- v is a slice of fields: the cells hold fs -/
def RdF (w : World) (v : Value) (fs : List Fd) : Prop :=
  fs.length ≤ 9223372036854775807 ∧ ∃ a cap, v = .slice a fs.length cap ∧ (fs = [] ∨ ∃ b off, a = some ⟨b, off, none⟩ ∧ b < w.heap.size ∧ ∀ i f, fs[i]? = some f →
    w.cell? ⟨b, off + i * 5, none⟩ = some (.int .i64 f.a) ∧ w.cell? ⟨b, off + i * 5 + 1, none⟩ = some (.int .i64 f.n) ∧ w.cell? ⟨b, off + i * 5 + 2, none⟩ = some (.bool f.g) ∧ w.cell? ⟨b, off + i * 5 + 3, none⟩ = some (.int .i64 f.u) ∧ w.cell? ⟨b, off + i * 5 + 4, none⟩ = some (.int .i64 f.c))
theorem RdF.mono {w w' : World} {v : Value} {fs : List Fd} (h : RdF w v fs) (hb : Bw w w') : RdF w' v fs := by
  obtain ⟨h2, a, cap, h3, h4⟩ := h
  refine ⟨h2, a, cap, h3, ?_⟩
  rcases h4 with h4 | ⟨b, off, h5, h6, h7⟩
  · exact .inl h4
  · exact .inr ⟨b, off, h5, Nat.lt_of_lt_of_le h6 hb.size, fun i f hi => by
      obtain ⟨q0, q1, q2, q3, q4⟩ := h7 i f hi
      exact ⟨hb.cell' q0, hb.cell' q1, hb.cell' q2, hb.cell' q3, hb.cell' q4⟩⟩
theorem RdF.form {w : World} {v : Value} {fs : List Fd} (h : RdF w v fs) : ∃ a c, v = .slice a fs.length c := by obtain ⟨_, a, c, h, _⟩ := h; exact ⟨a, c, h⟩
/-- a map of the call's own: which keys it has -/
def OwM (w : World) (B n : Nat) (T : Int → Bool) : Prop := ∃ D : DataW Unit, w.ownsMap Tryd.prog 3 (plainElem Tryd.prog 3) B n D ∧ Maps.IsMap D ∧ ∀ x : Int, Maps.has D (.int .i64 x) = T x
theorem OwM.alloc {w : World} {B n : Nat} {T : Int → Bool} (h : OwM w B n T) (o : Obj) : OwM (w.alloc o) B n T := by
  obtain ⟨D, h1, h2, h3⟩ := h; exact ⟨D, h1.alloc o, h2, h3⟩
theorem OwM.bw {w w' : World} {B n : Nat} {T : Int → Bool} (h : OwM w B n T) (hb : Bw w w') : OwM w' B n T := by
  obtain ⟨D, h1, h2, h3⟩ := h
  exact ⟨D, h1.kept (row := none) ⟨hb.out.os, hb.out.tape, hb.out.output, hb.size, fun k hk _ => hb.out.block k hk⟩ (by simp), h2, h3⟩
theorem OwM.set {w : World} {B n b o : Nat} {T : Int → Bool} (h : OwM w B n T) (u : Value) (hn : b ≠ B) : OwM (w.setCell ⟨b, o, none⟩ u) B n T := by
  obtain ⟨D, h1, h2, h3⟩ := h
  have q := Below.setCell (Below.refl 0 w) (p := ⟨b, o, none⟩) (Nat.zero_le _) u
  exact ⟨D, h1.kept (row := some b) ⟨q.os, q.tape, q.output, q.size, fun k hk hne => Below.heap_setCell _ _ _ _ (fun e => hne (by rw [e]))⟩ (by simpa using Ne.symm hn), h2, h3⟩
theorem OwM.K {w w' : World} {B n base : Nat} {T : Int → Bool} {row : Option Nat} (h : OwM w B n T) (hB : B < base) (hg : w.grownBy w' row) (hr : ∀ r, row = some r → base ≤ r ∧ ∃ o : Obj, w.heap[r]? = some o ∧ o.isCells = false) : OwM w' B n T := by
  obtain ⟨D, h1, h2, h3⟩ := h
  exact ⟨D, h1.kept hg (fun e => by have := (hr _ e.symm).1; omega), h2, h3⟩
theorem OwM.lt {w : World} {B n : Nat} {T : Int → Bool} (h : OwM w B n T) : B < w.heap.size := by obtain ⟨D, h1, _⟩ := h; exact h1.lt
theorem OwM.made (w : World) : OwM (w.alloc (.map #[] 0)) w.heap.size 0 (fun _ => false) := ⟨.map [], World.ownsMap_made w _ _ _, ⟨[], rfl⟩, fun x => rfl⟩
theorem zeroInt (w : World) : (zeroValue 3).run Tryd.prog w = .ok (.int .i64 0) w := by kernel_rfl
theorem lit_wf (x : Int) (h1 : -9223372036854775808 ≤ x) (h2 : x ≤ 9223372036854775807) : (Lit.int .i64 x).wf = true := by have := wrap64_wf x; rwa [show wrap64 x = x by unfold wrap64; omega] at this
theorem OwM.put {w w' : World} {B n : Nat} {D : DataW Unit} {T : Int → Bool} {y v : Int} (h2 : Maps.IsMap D) (h3 : ∀ x : Int, Maps.has D (.int .i64 x) = T x) (h : w'.ownsMap Tryd.prog 3 (plainElem Tryd.prog 3) B (n + 1) (D.put (.int .i64 y) (.lit (.int .i64 v)))) : OwM w' B (n + 1) (fun x => T x || x == y) := by
  refine ⟨_, h, ?_, fun x => ?_⟩
  · obtain ⟨es, rfl⟩ := h2; exact ⟨_, rfl⟩
  · by_cases e : x = y
    · subst e
      rw [Maps.has_put_same h2 (by trivial)]; simp
    · rw [Maps.has_put_other (by intro hh; injection hh; contradiction), h3]; simp [e]
end Go.Proofs.Sky
