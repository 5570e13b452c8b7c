/-
  lemmas for the theorems of this claim. No conditions beyond those written in the statements.
-/
import Derived.Test.YtdaplhjkccfmgaaD30
set_option linter.unusedVariables false
set_option linter.unusedSimpArgs false
set_option linter.unnecessarySimpa false
namespace Go.Proofs.Sky
open Go Go.RowKit Go.Shelf
set_option maxHeartbeats 1000000
/-- block g holds the cells cs, all of it, and may be written -/
def Blk (w : World) (g : Nat) (T : TypeId) (cs : Array Value) : Prop := w.heap[g]? = some (.cells cs T (0, 0))
theorem Blk.cell {w : World} {g : Nat} {T : TypeId} {cs : Array Value} (h : Blk w g T cs) {j : Nat} {v : Value} (hj : cs[j]? = some v) : w.cell? ⟨g, j, none⟩ = some v := by
  unfold Blk at h
  simp [World.cell?, h, hj]
theorem Blk.frozen {w : World} {g : Nat} {T : TypeId} {cs : Array Value} (h : Blk w g T cs) (j : Nat) : w.frozen? ⟨g, j, none⟩ = false := by
  unfold Blk at h
  simp [World.frozen?, h]
theorem Blk.set {w : World} {g : Nat} {T : TypeId} {cs : Array Value} (h : Blk w g T cs) (j : Nat) (v : Value) : Blk (w.setCell ⟨g, j, none⟩ v) g T (cs.setIfInBounds j v) := heap_setCell_same w g j cs T v h
theorem Blk.gr {w w' : World} {g b : Nat} {T : TypeId} {cs : Array Value} (h : Blk w g T cs) (hg : Gr b w w') (hn : g ≠ b) : Blk w' g T cs := by
  unfold Blk at *
  rw [hg.block g (Array.getElem?_eq_some_iff.1 h).1 hn]; exact h
theorem Blk.bw {w w' : World} {g : Nat} {T : TypeId} {cs : Array Value} (h : Blk w g T cs) (hb : Bw w w') : Blk w' g T cs := by
  unfold Blk at *
  rw [hb.out.block g (Array.getElem?_eq_some_iff.1 h).1]; exact h
/-- block g holds a ring -/
def RingAt (w : World) (g : Nat) (l : Nat → Int) (first many room sum : Int) : Prop := ∃ cs, Blk w g 53 cs ∧ RingC cs l first many room sum
theorem RingAt.facts {w : World} {g : Nat} {l : Nat → Int} {f m r s : Int} (h : RingAt w g l f m r s) : w.cell? ⟨g, 100, none⟩ = some (.int .i64 f) ∧ w.cell? ⟨g, 101, none⟩ = some (.int .i64 m) ∧ w.cell? ⟨g, 102, none⟩ = some (.int .i64 r) ∧ w.cell? ⟨g, 103, none⟩ = some (.int .i64 s) := by
  obtain ⟨cs, hb, hc⟩ := h
  exact ⟨hb.cell hc.c0, hb.cell hc.c1, hb.cell hc.c2, hb.cell hc.c3⟩
theorem RingAt.fz {w : World} {g : Nat} {l : Nat → Int} {f m r s : Int} (h : RingAt w g l f m r s) (j : Nat) : w.frozen? ⟨g, j, none⟩ = false := by
  obtain ⟨cs, hb, hc⟩ := h
  exact hb.frozen j
theorem RingAt.at_ {w : World} {g : Nat} {l : Nat → Int} {f m r s : Int} (h : RingAt w g l f m r s) (j : Nat) (hj : j < 100) : w.cell? ⟨g, j, none⟩ = some (.int .i64 (l j)) := by
  obtain ⟨cs, hb, hc⟩ := h
  exact hb.cell (hc.at_ j hj)
theorem RingAt.gr {w w' : World} {g b : Nat} {l : Nat → Int} {f m r s : Int} (h : RingAt w g l f m r s) (hg : Gr b w w') (hn : g ≠ b) : RingAt w' g l f m r s := by
  obtain ⟨cs, hb, hc⟩ := h
  exact ⟨cs, hb.gr hg hn, hc⟩
theorem RingAt.bw {w w' : World} {g : Nat} {l : Nat → Int} {f m r s : Int} (h : RingAt w g l f m r s) (hg : Bw w w') : RingAt w' g l f m r s := by
  obtain ⟨cs, hb, hc⟩ := h
  exact ⟨cs, hb.bw hg, hc⟩
theorem RingC.set {cs : Array Value} {l : Nat → Int} {f m r s : Int} (h : RingC cs l f m r s) (j : Nat) (z : Int) (hj : j < 104) :
    RingC (cs.setIfInBounds j (.int .i64 z)) (upd l j z) (if j = 100 then z else f) (if j = 101 then z else m) (if j = 102 then z else r) (if j = 103 then z else s) := by
  have hs := h.size
  refine ⟨by simp [hs], fun i hi => ?_, ?_, ?_, ?_, ?_⟩
  · rw [Array.getElem?_setIfInBounds]
    unfold upd
    by_cases e : j = i
    · subst e; rw [if_pos rfl, if_pos (by omega), if_pos rfl]
    · rw [if_neg e, if_neg (fun h => e h.symm)]; exact h.at_ i hi
  all_goals rw [Array.getElem?_setIfInBounds]
  · by_cases e : j = 100
    · rw [if_pos e, if_pos (by omega), if_pos e]
    · rw [if_neg e, if_neg e]; exact h.c0
  · by_cases e : j = 101
    · rw [if_pos e, if_pos (by omega), if_pos e]
    · rw [if_neg e, if_neg e]; exact h.c1
  · by_cases e : j = 102
    · rw [if_pos e, if_pos (by omega), if_pos e]
    · rw [if_neg e, if_neg e]; exact h.c2
  · by_cases e : j = 103
    · rw [if_pos e, if_pos (by omega), if_pos e]
    · rw [if_neg e, if_neg e]; exact h.c3
/-- what lies beyond the list does not matter -/
theorem RingC.ext {cs : Array Value} {l l' : Nat → Int} {f m r s : Int} (h : RingC cs l f m r s) (hl : ∀ i, i < 100 → l i = l' i) : RingC cs l' f m r s :=
  ⟨h.size, fun i hi => by rw [← hl i hi]; exact h.at_ i hi, h.c0, h.c1, h.c2, h.c3⟩
theorem upd_far (l : Nat → Int) (j : Nat) (z : Int) (hj : 100 ≤ j) : ∀ i, i < 100 → upd l j z i = l i := fun i hi => by unfold upd; rw [if_neg (by omega)]
section
variable {ops : Array Oper} {rest : List Oper} {o : Oper} {a : Act} {w : World} {Q : Exit → Act → World → Prop}
/-- a store of a number into a block -/
theorem run_store_blk {P : Program} (ρ : Operand → Value) (ty : TypeId) (x y : Operand) (ho : o.op = .store ty x y) (g off : Nat) (z : Int) (hx : ρ x = .pointer (some ⟨g, off, none⟩)) (hy : ρ y = .int .i64 z)
    (hi : (P.info? ty).map (·.size) = some 1) {T : TypeId} {cs : Array Value} (hB : Blk w g T cs) (hoff : off < cs.size) : (execOp ρ o).run P w = .ok .skip (w.setCell ⟨g, off, none⟩ (.int .i64 z)) := by
  have hc := hB.cell (Array.getElem?_eq_getElem hoff)
  have hf := hB.frozen off
  obtain ⟨i, hi1, hi2⟩ := Option.map_eq_some_iff.1 hi
  unfold execOp
  simp only [ho]
  simp [hx, hy, hi1, hi2, go_sem, hc, hf, Instr.storeAt, Instr.sureAddr, Value.cells, storeVar, sizeOf, typeInfo, storeCells]
theorem wpList_store_int {P : Program} (hgd : o.guard = none) (ty : TypeId) (x y : Operand) (ho : o.op = .store ty x y) (g off : Nat) (z : Int) (hx : a.eval x = .pointer (some ⟨g, off, none⟩)) (hy : a.eval y = .int .i64 z)
    (hi : (P.info? ty).map (·.size) = some 1) {T : TypeId} {cs : Array Value} (hB : Blk w g T cs) (hoff : off < cs.size) (h : wpList P ops Q rest (a.put o.dst undef) (w.setCell ⟨g, off, none⟩ (.int .i64 z))) : wpList P ops Q (o :: rest) a w := by
  refine wpList_plain hgd fun K hK => ?_
  unfold Oper.wp
  rw [run_store_blk a.eval ty x y ho g off z hx hy hi hB hoff]
  exact hK _ _ h
theorem wpList_store_ring {P : Program} (hgd : o.guard = none) (ty : TypeId) (x y : Operand) (ho : o.op = .store ty x y) (g off : Nat) (z : Int) (hx : a.eval x = .pointer (some ⟨g, off, none⟩)) (hy : a.eval y = .int .i64 z)
    (hi : (P.info? ty).map (·.size) = some 1) {l : Nat → Int} {f m r s : Int} (hB : RingAt w g l f m r s) (hoff : off < 104)
    (h : ∀ w', RingAt w' g (upd l off z) (if off = 100 then z else f) (if off = 101 then z else m) (if off = 102 then z else r) (if off = 103 then z else s) → Gr g w w' → wpList P ops Q rest (a.put o.dst undef) w') : wpList P ops Q (o :: rest) a w := by
  obtain ⟨cs, hb, hc⟩ := hB
  exact wpList_store_int hgd ty x y ho g off z hx hy hi hb (by rw [hc.size]; exact hoff) (h _ ⟨_, hb.set off _, hc.set off z hoff⟩ ((Gr.refl g w).set (.inl rfl) _))
theorem RingAt.ext {w : World} {g : Nat} {l l' : Nat → Int} {f m r s : Int} (h : RingAt w g l f m r s) (hl : ∀ i, i < 100 → l i = l' i) : RingAt w g l' f m r s := by
  obtain ⟨cs, hb, hc⟩ := h
  exact ⟨cs, hb, hc.ext hl⟩
theorem wpList_store_l {P : Program} (hgd : o.guard = none) (ty : TypeId) (x y : Operand) (ho : o.op = .store ty x y) (g off : Nat) (z : Int) (hx : a.eval x = .pointer (some ⟨g, off, none⟩)) (hy : a.eval y = .int .i64 z)
    (hi : (P.info? ty).map (·.size) = some 1) {l : Nat → Int} {f m r s : Int} (hB : RingAt w g l f m r s) (hoff : off < 100)
    (h : ∀ w', RingAt w' g (upd l off z) f m r s → Gr g w w' → wpList P ops Q rest (a.put o.dst undef) w') : wpList P ops Q (o :: rest) a w :=
  wpList_store_ring hgd ty x y ho g off z hx hy hi hB (by omega) (fun w' h1 h2 => h w' (by rw [if_neg (by omega), if_neg (by omega), if_neg (by omega), if_neg (by omega)] at h1; exact h1) h2)
theorem wpList_store_f {P : Program} (hgd : o.guard = none) (ty : TypeId) (x y : Operand) (ho : o.op = .store ty x y) (g : Nat) (z : Int) (hx : a.eval x = .pointer (some ⟨g, 100, none⟩)) (hy : a.eval y = .int .i64 z)
    (hi : (P.info? ty).map (·.size) = some 1) {l : Nat → Int} {f m r s : Int} (hB : RingAt w g l f m r s)
    (h : ∀ w', RingAt w' g l z m r s → Gr g w w' → wpList P ops Q rest (a.put o.dst undef) w') : wpList P ops Q (o :: rest) a w :=
  wpList_store_ring hgd ty x y ho g 100 z hx hy hi hB (by omega) (fun w' h1 h2 => h w' (RingAt.ext h1 (upd_far _ _ _ (by omega))) h2)
theorem wpList_store_m {P : Program} (hgd : o.guard = none) (ty : TypeId) (x y : Operand) (ho : o.op = .store ty x y) (g : Nat) (z : Int) (hx : a.eval x = .pointer (some ⟨g, 101, none⟩)) (hy : a.eval y = .int .i64 z)
    (hi : (P.info? ty).map (·.size) = some 1) {l : Nat → Int} {f m r s : Int} (hB : RingAt w g l f m r s)
    (h : ∀ w', RingAt w' g l f z r s → Gr g w w' → wpList P ops Q rest (a.put o.dst undef) w') : wpList P ops Q (o :: rest) a w :=
  wpList_store_ring hgd ty x y ho g 101 z hx hy hi hB (by omega) (fun w' h1 h2 => h w' (RingAt.ext h1 (upd_far _ _ _ (by omega))) h2)
theorem wpList_store_s {P : Program} (hgd : o.guard = none) (ty : TypeId) (x y : Operand) (ho : o.op = .store ty x y) (g : Nat) (z : Int) (hx : a.eval x = .pointer (some ⟨g, 103, none⟩)) (hy : a.eval y = .int .i64 z)
    (hi : (P.info? ty).map (·.size) = some 1) {l : Nat → Int} {f m r s : Int} (hB : RingAt w g l f m r s)
    (h : ∀ w', RingAt w' g l f m r z → Gr g w w' → wpList P ops Q rest (a.put o.dst undef) w') : wpList P ops Q (o :: rest) a w :=
  wpList_store_ring hgd ty x y ho g 103 z hx hy hi hB (by omega) (fun w' h1 h2 => h w' (RingAt.ext h1 (upd_far _ _ _ (by omega))) h2)
end
theorem Blk.alloc {w : World} {g : Nat} {T : TypeId} {cs : Array Value} (h : Blk w g T cs) (o : Obj) : Blk (w.alloc o) g T cs := h.bw (Bw.alloc (Bw.refl w) o)
theorem Blk.new (w : World) (T : TypeId) (cs : Array Value) : Blk (w.alloc (.cells cs T)) w.heap.size T cs := heap_alloc_new w _
theorem RingAt.sf {w : World} {g : Nat} {l : Nat → Int} {f m r s : Int} (h : RingAt w g l f m r s) (z : Int) : RingAt (w.setCell ⟨g, 100, none⟩ (.int .i64 z)) g l z m r s := by
  obtain ⟨cs, hb, hc⟩ := h
  exact RingAt.ext ⟨_, hb.set 100 _, hc.set 100 z (by omega)⟩ (upd_far _ _ _ (by omega))
theorem RingAt.sm {w : World} {g : Nat} {l : Nat → Int} {f m r s : Int} (h : RingAt w g l f m r s) (z : Int) : RingAt (w.setCell ⟨g, 101, none⟩ (.int .i64 z)) g l f z r s := by
  obtain ⟨cs, hb, hc⟩ := h
  exact RingAt.ext ⟨_, hb.set 101 _, hc.set 101 z (by omega)⟩ (upd_far _ _ _ (by omega))
theorem infoInt1 : (Try.prog.info? 3).map (·.size) = some 1 := by kernel_rfl
end Go.Proofs.Sky
