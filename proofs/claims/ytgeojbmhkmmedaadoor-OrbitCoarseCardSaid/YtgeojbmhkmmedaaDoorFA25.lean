/-
  lemmas for the theorems of this claim. No conditions beyond those written in the statements.
-/
import Derived.Test.YtgeojbmhkmmedaaDoorM25
import Derived.Maps.Own
import Derived.Maps.OwnOps
import Derived.Maps.OwnSet
import Derived.Maps.Views
import Derived.Carry
import Derived.Test.YtgeojbmhkmmedaaDoorRdAt
import Derived.Test.YtgeojbmhkmmedaaDoorAppP
import Derived.Test.YtgeojbmhkmmedaaDoorHeld
set_option linter.unusedVariables false
set_option linter.unusedSimpArgs false
set_option linter.unnecessarySimpa false
namespace Go.Proofs.Sky
open Go Go.RowKit Go.Shelf
set_option maxHeartbeats 2000000
def fval (f : Fd) : Value := .agg #[.int .i64 f.a, .int .i64 f.n, .bool f.g, .int .i64 f.u, .int .i64 f.c]
/-- v is a slice of fields: the cells hold fs -/
def RdF (w : World) (v : Value) (fs : List Fd) : Prop :=
  fs.length ≤ 9223372036854775807 ∧ ∃ a cap, v = .slice a fs.length cap ∧ (fs = [] ∨ ∃ b off, a = some ⟨b, off, none⟩ ∧ b < w.heap.size ∧ ∀ i f, fs[i]? = some f →
    w.cell? ⟨b, off + i * 5, none⟩ = some (.int .i64 f.a) ∧ w.cell? ⟨b, off + i * 5 + 1, none⟩ = some (.int .i64 f.n) ∧ w.cell? ⟨b, off + i * 5 + 2, none⟩ = some (.bool f.g) ∧ w.cell? ⟨b, off + i * 5 + 3, none⟩ = some (.int .i64 f.u) ∧ w.cell? ⟨b, off + i * 5 + 4, none⟩ = some (.int .i64 f.c))
theorem RdF.mono {w w' : World} {v : Value} {fs : List Fd} (h : RdF w v fs) (hb : Bw w w') : RdF w' v fs := by
  obtain ⟨h2, a, cap, h3, h4⟩ := h
  refine ⟨h2, a, cap, h3, ?_⟩
  rcases h4 with h4 | ⟨b, off, h5, h6, h7⟩
  · exact .inl h4
  · exact .inr ⟨b, off, h5, Nat.lt_of_lt_of_le h6 hb.size, fun i f hi => by
      obtain ⟨q0, q1, q2, q3, q4⟩ := h7 i f hi
      exact ⟨hb.cell' q0, hb.cell' q1, hb.cell' q2, hb.cell' q3, hb.cell' q4⟩⟩
theorem RdF.form {w : World} {v : Value} {fs : List Fd} (h : RdF w v fs) : ∃ a c, v = .slice a fs.length c := by obtain ⟨_, a, c, h, _⟩ := h; exact ⟨a, c, h⟩
/-- a map of the call's own: which keys it has -/
def OwM (w : World) (B n : Nat) (T : Int → Bool) : Prop := ∃ D : DataW Unit, w.ownsMap Tryd.prog 3 (plainElem Tryd.prog 3) B n D ∧ Maps.IsMap D ∧ ∀ x : Int, Maps.has D (.int .i64 x) = T x
theorem OwM.alloc {w : World} {B n : Nat} {T : Int → Bool} (h : OwM w B n T) (o : Obj) : OwM (w.alloc o) B n T := by
  obtain ⟨D, h1, h2, h3⟩ := h; exact ⟨D, h1.alloc o, h2, h3⟩
theorem OwM.bw {w w' : World} {B n : Nat} {T : Int → Bool} (h : OwM w B n T) (hb : Bw w w') : OwM w' B n T := by
  obtain ⟨D, h1, h2, h3⟩ := h
  exact ⟨D, h1.kept (row := none) ⟨hb.out.os, hb.out.tape, hb.out.output, hb.size, fun k hk _ => hb.out.block k hk⟩ (by simp), h2, h3⟩
theorem OwM.set {w : World} {B n b o : Nat} {T : Int → Bool} (h : OwM w B n T) (u : Value) (hn : b ≠ B) : OwM (w.setCell ⟨b, o, none⟩ u) B n T := by
  obtain ⟨D, h1, h2, h3⟩ := h
  have q := Below.setCell (Below.refl 0 w) (p := ⟨b, o, none⟩) (Nat.zero_le _) u
  exact ⟨D, h1.kept (row := some b) ⟨q.os, q.tape, q.output, q.size, fun k hk hne => Below.heap_setCell _ _ _ _ (fun e => hne (by rw [e]))⟩ (by simpa using Ne.symm hn), h2, h3⟩
theorem OwM.K {w w' : World} {B n base : Nat} {T : Int → Bool} {row : Option Nat} (h : OwM w B n T) (hB : B < base) (hg : w.grownBy w' row) (hr : ∀ r, row = some r → base ≤ r ∧ ∃ o : Obj, w.heap[r]? = some o ∧ o.isCells = false) : OwM w' B n T := by
  obtain ⟨D, h1, h2, h3⟩ := h
  exact ⟨D, h1.kept hg (fun e => by have := (hr _ e.symm).1; omega), h2, h3⟩
theorem OwM.lt {w : World} {B n : Nat} {T : Int → Bool} (h : OwM w B n T) : B < w.heap.size := by obtain ⟨D, h1, _⟩ := h; exact h1.lt
theorem OwM.made (w : World) : OwM (w.alloc (.map #[] 0)) w.heap.size 0 (fun _ => false) := ⟨.map [], World.ownsMap_made w _ _ _, ⟨[], rfl⟩, fun x => rfl⟩
theorem zeroInt (w : World) : (zeroValue 3).run Tryd.prog w = .ok (.int .i64 0) w := by kernel_rfl
theorem lit_wf (x : Int) (h1 : -9223372036854775808 ≤ x) (h2 : x ≤ 9223372036854775807) : (Lit.int .i64 x).wf = true := by have := wrap64_wf x; rwa [show wrap64 x = x by unfold wrap64; omega] at this
theorem OwM.put {w w' : World} {B n : Nat} {D : DataW Unit} {T : Int → Bool} {y v : Int} (h2 : Maps.IsMap D) (h3 : ∀ x : Int, Maps.has D (.int .i64 x) = T x) (h : w'.ownsMap Tryd.prog 3 (plainElem Tryd.prog 3) B (n + 1) (D.put (.int .i64 y) (.lit (.int .i64 v)))) : OwM w' B (n + 1) (fun x => T x || x == y) := by
  refine ⟨_, h, ?_, fun x => ?_⟩
  · obtain ⟨es, rfl⟩ := h2; exact ⟨_, rfl⟩
  · by_cases e : x = y
    · subst e
      rw [Maps.has_put_same h2 (by trivial)]; simp
    · rw [Maps.has_put_other (by intro hh; injection hh; contradiction), h3]; simp [e]
end Go.Proofs.Sky

namespace Go.Proofs.Sky
open Go Go.RowKit Go.Shelf
set_option maxHeartbeats 2000000
/-! rows of fields of the call's own -/
def fcs (f : Fd) : List Value := [.int .i64 f.a, .int .i64 f.n, .bool f.g, .int .i64 f.u, .int .i64 f.c]
def flatF (fs : List Fd) : List Value := fs.flatMap fcs
theorem flatF_append (fs gs : List Fd) : flatF (fs ++ gs) = flatF fs ++ flatF gs := by simp [flatF]
theorem flatF_one (f : Fd) : flatF [f] = fcs f := by simp [flatF]
theorem flatF_len (fs : List Fd) : (flatF fs).length = fs.length * 5 := by
  induction fs with
  | nil => rfl
  | cons f r ih => rw [show flatF (f :: r) = fcs f ++ flatF r from rfl, List.length_append, ih, List.length_cons]; simp [fcs]; omega
theorem flatF_at (fs : List Fd) : ∀ (i : Nat) (f : Fd), fs[i]? = some f → ∀ j, j < 5 → (flatF fs)[i * 5 + j]? = (fcs f)[j]? := by
  induction fs with
  | nil => intro i f h; simp at h
  | cons g r ih =>
    intro i f h j hj
    rw [show flatF (g :: r) = fcs g ++ flatF r from rfl]
    cases i with
    | zero =>
      simp only [List.getElem?_cons_zero, Option.some.injEq] at h
      subst h
      rw [List.getElem?_append_left (by simp [fcs]; omega)]
      congr 1; omega
    | succ i =>
      rw [List.getElem?_cons_succ] at h
      rw [List.getElem?_append_right (by simp [fcs]; omega)]
      rw [← ih i f h j hj]
      congr 1; simp [fcs]; omega
theorem own_rdF {w : World} {base : Nat} {e : TypeId} {v : Value} {fs : List Fd} (h : w.ownsRow base e 5 v fs.length (flatF fs)) (hn : fs.length ≤ 9223372036854775807) : RdF w v fs ∧ Fresh base v := by
  have h' := h
  rcases h'.2 with ⟨rfl, h2⟩ | ⟨g, cap, cur, rfl, hg, hh, _⟩
  · obtain rfl : fs = [] := List.length_eq_zero_iff.1 h2
    exact ⟨⟨by simp, none, 0, rfl, .inl rfl⟩, Fresh.nil _ _ _⟩
  · refine ⟨⟨hn, some ⟨g, 0, none⟩, cap, rfl, .inr ⟨g, 0, rfl, (Array.getElem?_eq_some_iff.1 hh).1, fun i f hi => ?_⟩⟩, Fresh.at hg⟩
    have hil : i < fs.length := (List.getElem?_eq_some_iff.1 hi).1
    have hc := fun j (hj : j < 5) => h.cellAt (i * 5 + j) (by omega)
    have hf := flatF_at fs i f hi
    rw [Nat.zero_add]
    exact ⟨(hc 0 (by omega)).trans (hf 0 (by omega)), (hc 1 (by omega)).trans (hf 1 (by omega)), (hc 2 (by omega)).trans (hf 2 (by omega)), (hc 3 (by omega)).trans (hf 3 (by omega)), (hc 4 (by omega)).trans (hf 4 (by omega))⟩
theorem infoFld : (Tryd.prog.info? 83).map (fun i => (i.zero, i.size, i.bytes)) = some (some (.agg #[.int .i64 0, .int .i64 0, .bool false, .int .i64 0, .int .i64 0]), 5, 40) := by kernel_rfl
section
variable {ops : Array Oper} {rest : List Oper} {o : Oper} {a : Act} {w : World} {K : Act → World → Prop} {Q : Exit → Act → World → Prop}
theorem blk_news {w : World} {b : Nat} {T : TypeId} {f : Fd} (hb : Blk w b T (fcs f).toArray) : ∀ (j : Nat) (u : Value), (fcs f)[j]? = some u → w.cell? ((⟨b, 0, none⟩ : Addr).add j) = some u := fun j u hu => by
  have h := hb.cell (j := j) (v := u) (by simpa using hu)
  have e : (⟨b, 0, none⟩ : Addr).add j = ⟨b, j, none⟩ := by
    have h1 : ∀ off : Nat, (⟨b, off, none⟩ : Addr).add j = ⟨b, off + j, none⟩ := fun off => by simp [Addr.add]
    rw [h1, Nat.zero_add]
  rw [e]; exact h
theorem fcs_one (f : Fd) : ∀ u ∈ fcs f, u.oneCell' = true := fun u hu => by
  simp only [fcs, List.mem_cons, List.not_mem_nil, or_false] at hu
  rcases hu with rfl | rfl | rfl | rfl | rfl <;> rfl
theorem wpList_append_fld (hgd : o.guard = none) (s x : Operand) (t : TypeId)
    (ho : o.op = .call { callee := .builtin .append, args := #[s, x], argTypes := #[t, t] })
    (base : Nat) (ht : Tryd.prog.underlying t = some (.slice 83))
    (v : Value) (fs : List Fd) (f : Fd) (hs : a.eval s = v) (hown : w.ownsRow base 83 5 v fs.length (flatF fs))
    (b : Nat) (T : TypeId) (hx : a.eval x = .slice (some ⟨b, 0, none⟩) 1 1) (hb : Blk w b T (fcs f).toArray)
    (hn : fs.length + 1 ≤ 1000000) (hbase : base ≤ w.heap.size)
    (h : ∀ v' w', w'.ownsRow base 83 5 v' (fs ++ [f]).length (flatF (fs ++ [f])) → w.grownBy w' v.ownBlock → wpList Tryd.prog ops Q rest (a.put o.dst v') w') : wpList Tryd.prog ops Q (o :: rest) a w := by
  obtain ⟨i, hi, hzz⟩ := Option.map_eq_some_iff.1 infoFld
  simp only [Prod.mk.injEq] at hzz
  obtain ⟨hz0, hz1, hz2⟩ := hzz
  refine wpList_append_own w hgd s x t ho base 83 i _ 5 40 ht hi hz0 hz1 hz2 rfl (by decide) v fs.length (flatF fs) hs hown ⟨b, 0, none⟩ 1 1 (fcs f) hx rfl (blk_news hb) (fcs_one f) (by unfold maxLen; omega) (by omega) hbase (fun v' w' h2 h3 _ => h v' w' ?_ h3)
  rw [flatF_append, flatF_one, List.length_append]; exact h2
theorem wp_append_fld (s x : Operand) (t : TypeId)
    (ho : o.op = .call { callee := .builtin .append, args := #[s, x], argTypes := #[t, t] }) (dst : Option Tmp) (hd : o.dst = dst)
    (base : Nat) (ht : Tryd.prog.underlying t = some (.slice 83))
    (v : Value) (fs : List Fd) (f : Fd) (hs : a.eval s = v) (hown : w.ownsRow base 83 5 v fs.length (flatF fs))
    (b : Nat) (T : TypeId) (hx : a.eval x = .slice (some ⟨b, 0, none⟩) 1 1) (hb : Blk w b T (fcs f).toArray)
    (hn : fs.length + 1 ≤ 1000000) (hbase : base ≤ w.heap.size)
    (h : ∀ v' w', w'.ownsRow base 83 5 v' (fs ++ [f]).length (flatF (fs ++ [f])) → w.grownBy w' v.ownBlock → K (a.put dst v') w') : o.wp Tryd.prog a w K Q := by
  subst hd
  obtain ⟨i, hi, hzz⟩ := Option.map_eq_some_iff.1 infoFld
  simp only [Prod.mk.injEq] at hzz
  obtain ⟨hz0, hz1, hz2⟩ := hzz
  refine wp_append_own w s x t ho base 83 i _ 5 40 ht hi hz0 hz1 hz2 rfl (by decide) v fs.length (flatF fs) hs hown ⟨b, 0, none⟩ 1 1 (fcs f) hx rfl (blk_news hb) (fcs_one f) (by unfold maxLen; omega) (by omega) hbase (fun v' w' h2 h3 _ => h v' w' ?_ h3)
  rw [flatF_append, flatF_one, List.length_append]; exact h2
theorem wp_append_int9 (s x : Operand) (t : TypeId) (e : TypeId)
    (ho : o.op = .call { callee := .builtin .append, args := #[s, x], argTypes := #[t, t] }) (dst : Option Tmp) (hd : o.dst = dst)
    (base : Nat) (ht : Tryd.prog.underlying t = some (.slice e)) (hi : (Tryd.prog.info? e).map (fun i => (i.zero, i.size, i.bytes)) = some (some (.int .i64 0), 1, 8))
    (v : Value) (zs : List Int) (z : Int) (hs : a.eval s = v) (hown : w.ownsRow base e 1 v zs.length (zs.map (Value.int .i64)))
    (b : Nat) (hx : a.eval x = .slice (some ⟨b, 0, none⟩) 1 1) (hb : w.cell? ⟨b, 0, none⟩ = some (.int .i64 z))
    (hn : zs.length + 1 ≤ 1000000) (hbase : base ≤ w.heap.size)
    (h : ∀ v' w', w'.ownsRow base e 1 v' (zs ++ [z]).length ((zs ++ [z]).map (Value.int .i64)) → w.grownBy w' v.ownBlock → K (a.put dst v') w') : o.wp Tryd.prog a w K Q := by
  subst hd
  obtain ⟨i, hi, hzz⟩ := Option.map_eq_some_iff.1 hi
  simp only [Prod.mk.injEq] at hzz
  obtain ⟨hz0, hz1, hz2⟩ := hzz
  refine wp_append_own w s x t ho base e i _ 1 8 ht hi hz0 hz1 hz2 rfl (by decide) v zs.length (zs.map (Value.int .i64)) hs hown ⟨b, 0, none⟩ 1 1 [.int .i64 z] hx rfl (fun j u hu => ?_) (fun u hu => ?_) (by unfold maxLen; omega) (by omega) hbase (fun v' w' h2 h3 _ => h v' w' ?_ h3)
  · match j, hu with
    | 0, hu => simp at hu; subst hu; simpa [Addr.add] using hb
  · simp at hu; subst hu; rfl
  · rw [List.map_append, List.length_append]; exact h2
end
theorem Bw.grownN {a b c : World} {e : TypeId} {k : Nat} {v : Value} {m n : Nat} {xs : List Value} (hn : a.heap.size = n) (h : Bw a b) (ho : b.ownsRow n e k v m xs) (hg : b.grownBy c v.ownBlock) : Bw a c := by
  subst hn; exact Bw.grown h ho hg
theorem own_some {w : World} {base : Nat} {e : TypeId} {k : Nat} {v : Value} {n : Nat} {xs : List Value} (h : w.ownsRow base e k v n xs) (hn : 0 < n) : ∃ g cap, v = .slice (some ⟨g, 0, none⟩) n cap := by
  rcases h.2 with ⟨rfl, rfl⟩ | ⟨g, cap, cur, rfl, _⟩
  · omega
  · exact ⟨g, cap, rfl⟩
/-- a new row of its own with at least one element -/
def OwnP (ch : List Int) (base : Nat) (v : Value) (w' : World) : Prop := ∃ b cap, v = .slice (some ⟨b, 0, none⟩) ch.length cap ∧ w'.ownsRow base 3 1 (.slice (some ⟨b, 0, none⟩) ch.length cap) ch.length (ch.map (Value.int .i64))
theorem infoBool : (Tryd.prog.info? 4).map (fun i => (i.zero, i.size, i.bytes)) = some (some (.bool false), 1, 1) := by kernel_rfl
end Go.Proofs.Sky
