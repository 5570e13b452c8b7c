/-
  lemmas for the theorems of this claim. No conditions beyond those written in the statements.
-/
import Derived.Test.YtgeojbmhkmmedaaDoorBase
import Derived.Test.YtgeojbmhkmmedaaDoorRG
import Derived.Deep.RegionHeld3
import Derived.Laws.Tables
import Derived.Laws.Rows
set_option linter.unusedVariables false
set_option linter.unusedSimpArgs false
set_option linter.unnecessarySimpa false
namespace Go.Proofs.Sky
open Go Go.RowKit
section
variable {P : Program} {ops : Array Oper} {Q : Exit → Act → World → Prop} {md : Region.Mode} {S : World → Prop}
theorem take1 {i : Nat} (dst : Option Tmp) {oi : Oper} {fuel : Nat} {listed : Array Bool} {a : Act} {w : World} (hi : ops[i]? = some oi) (hd : oi.dst = dst)
    (hs : Region.noSelect ops = true) (hf : Region.free md ops listed i = true) (hr : (Region.ready md ops listed).contains i = true)
    (hQ : ∀ v c a w, Q (.panic c) (a.put oi.dst v) w → Q (.panic c) a w) (hw : Region.wanted oi (yielded ops a.tmps) = true) (hS : S w)
    (h : ∃ v, (∀ w, S w → (execOp a.eval oi).run P w = .ok (.value v) w) ∧ wpAnyH P md ops Q S fuel (listed.setIfInBounds i true) (a.put dst v) w) : wpAnyH P md ops Q S (fuel + 1) listed a w := by
  subst hd
  obtain ⟨v, hv, h⟩ := h
  exact wpAnyH_take hi hs hf hr (hQ v) (.inl ⟨hw, hv⟩) hS h
theorem wp_store_row0 {o : Oper} {a : Act} {w : World} {K : Act → World → Prop} (ty : TypeId) (x y : Operand) (ho : o.op = .store ty x y) (hd : o.dst = none)
    (g : Nat) (cells : Array Value) (hx : a.eval x = .pointer (some ⟨g, 0, none⟩)) (hy : a.eval y = .agg cells)
    (t : TypeId) (old : Array Value) (hg : w.heap[g]? = some (.cells old t (0, 0))) (hi : (P.info? ty).map (·.size) = some cells.size)
    (hold : old.size = cells.size) (h1 : cells.all (·.oneCell') = true)
    (h : K a (w.setRow g cells)) : o.wp P a w K Q :=
  wp_store_row ty x y ho g cells hx hy t old hg hi hold h1 (by rw [hd]; exact h)
/-- a guard for an arm of the walk: the operation that comes next is this store -/
theorem at_store {rest : List Oper} {a : Act} {w : World} (ty : TypeId) (x y : Operand) {dst : Option Tmp} {type : TypeId} {pos : String} {after : Array Edge} {g : Option (Nat × Bool)}
    (h : wpList P ops Q ({ dst := dst, op := .store ty x y, type := type, pos := pos, after := after, guard := g } :: rest) a w) : wpList P ops Q ({ dst := dst, op := .store ty x y, type := type, pos := pos, after := after, guard := g } :: rest) a w := h
theorem at_load {rest : List Oper} {a : Act} {w : World} (ty : TypeId) (x : Operand) {dst : Option Tmp} {type : TypeId} {pos : String} {after : Array Edge} {g : Option (Nat × Bool)}
    (h : wpList P ops Q ({ dst := dst, op := .load ty x, type := type, pos := pos, after := after, guard := g } :: rest) a w) : wpList P ops Q ({ dst := dst, op := .load ty x, type := type, pos := pos, after := after, guard := g } :: rest) a w := h
theorem wp_alloc_agg {o : Oper} {a : Act} {w : World} {K : Act → World → Prop} (ty : TypeId) (ho : o.op = .alloc ty) (dst : Option Tmp) (hd : o.dst = dst) (cs : Array Value) (hz : (zeroValue ty).run P w = .ok (.agg cs) w)
    (h : K (a.put dst (.pointer (some ⟨w.heap.size, 0, none⟩))) (w.alloc (.cells cs ty))) : o.wp P a w K Q := by
  subst hd
  unfold Oper.wp execOp
  simp only [ho]
  simp [Instr.alloc, hz, go_sem]
  exact h
end
end Go.Proofs.Sky
