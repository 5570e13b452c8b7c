/-
  lemmas for the theorems of this claim. No conditions beyond those written in the statements.
-/
import Derived.Test.YtpmopobjlpfdaaaDoorFA25
import Derived.Test.YtpmopobjlpfdaaaDoorK25
import Derived.Test.YtpmopobjlpfdaaaDoorKxC
import Derived.Test.YtpmopobjlpfdaaaDoorBlkC
import Derived.Test.YtpmopobjlpfdaaaDoorP25L
import Derived.Deep.Cut
import Derived.BigQuiet
import Derived.Laws.CopyRow
set_option linter.unusedVariables false
set_option linter.unusedSimpArgs false
set_option linter.unnecessarySimpa false
namespace Go.Proofs.Sky
open Go Go.RowKit Go.Shelf
set_option maxHeartbeats 4000000
set_option maxRecDepth 8000
/-! numbers and their fields -/
def atS (L : List (Int × Bool × Nat)) : Nat → Int
  | 0 => 0
  | k + 1 => atS L k + (L.getD k (0, false, 0)).1
def fdS (L : List (Int × Bool × Nat)) (k : Nat) : Fd := ⟨atS L k, (L.getD k (0, false, 0)).1, (L.getD k (0, false, 0)).2.1, 1, 0⟩
def fdsS (L : List (Int × Bool × Nat)) : List Fd := (List.range L.length).map (fdS L)
def okL (L : List (Int × Bool × Nat)) : Prop := L.length ≤ 100 ∧ ∀ t ∈ L, 1 ≤ t.1 ∧ t.1 ≤ 40
theorem atS_bd {L : List (Int × Bool × Nat)} (h : okL L) : ∀ k, k ≤ L.length → 0 ≤ atS L k ∧ atS L k ≤ 40 * k := by
  intro k
  induction k with
  | zero => intro _; simp [atS]
  | succ k ih =>
    intro hk
    have h1 := ih (by omega)
    have h2 := h.2 _ (getD_mem L k (0, false, 0) (by omega))
    rw [atS]; omega
theorem rdF_get {w : World} {v : Value} {fs : List Fd} (h : RdF w v fs) (h0 : 0 < fs.length) : ∃ b off c, v = .slice (some ⟨b, off, none⟩) fs.length c ∧ ∀ i f, fs[i]? = some f →
    w.cell? ⟨b, off + i * 5, none⟩ = some (.int .i64 f.a) ∧ w.cell? ⟨b, off + i * 5 + 1, none⟩ = some (.int .i64 f.n) ∧ w.cell? ⟨b, off + i * 5 + 2, none⟩ = some (.bool f.g) ∧ w.cell? ⟨b, off + i * 5 + 3, none⟩ = some (.int .i64 f.u) ∧ w.cell? ⟨b, off + i * 5 + 4, none⟩ = some (.int .i64 f.c) := by
  obtain ⟨_, a, c, hv, h4⟩ := h
  rcases h4 with h4 | ⟨b, off, h5, _, h7⟩
  · rw [h4] at h0; simp at h0
  · exact ⟨b, off, c, by rw [hv, h5], h7⟩
theorem grown_blk {a b : World} {base k n : Nat} {e : TypeId} {v : Value} {xs : List Value} {g : Nat} {T : TypeId} {cs : Array Value} (hB : Blk a g T cs) (ho : a.ownsRow base e k v n xs) (hn : T ≠ e) (hg : a.grownBy b v.ownBlock) : Blk b g T cs := by
  unfold Blk at hB ⊢
  have hlt : g < a.heap.size := (Array.getElem?_eq_some_iff.1 hB).1
  rw [hg.block g hlt ?_]
  · exact hB
  · intro e'
    rcases ho.2 with ⟨rfl, _⟩ | ⟨g', cap, cur, rfl, _, hh, _⟩
    · simp [Value.ownBlock] at e'
    · simp [Value.ownBlock] at e'
      subst e'
      rw [hh] at hB
      injection hB with hB
      injection hB with h1 h2 h3
      exact hn h2.symm
def okT (x : Nat → Int) (t : Int × Bool × Nat) : Bool := decide (lowR t.1 t.2.1 ≤ x t.2.2 ∧ x t.2.2 ≤ highR t.1 t.2.1)
theorem all_get {x : Nat → Int} (L : List (Int × Bool × Nat)) (h : ∀ j, j < L.length → okT x (L.getD j (0, false, 0)) = true) : L.all (okT x) = true := by
  rw [List.all_eq_true]
  intro t ht
  obtain ⟨i, hi, rfl⟩ := List.mem_iff_getElem.1 ht
  have := h i hi
  rw [List.getD_eq_getElem?_getD, List.getElem?_eq_getElem hi] at this
  exact this
def okZ (b z : Int) : Bool := decide (lowR b true ≤ z ∧ z ≤ highR b true)
theorem okZ_T (x : Nat → Int) (b : Int) (j : Nat) : okT x (b, true, j) = okZ b (x j) := rfl
theorem okT_un {x : Nat → Int} {b hi : Int} {j : Nat} (h : highR b false = hi) : okT x (b, false, j) = decide (0 ≤ x j ∧ x j ≤ hi) := by
  subst h; rfl
theorem RdI.litN (w : World) (cs : Array Value) (t : TypeId) (zs : List Int) (n : Nat) (hn : w.heap.size = n) (h : cs.toList = zs.map (Value.int .i64)) (hl : zs.length ≤ 9223372036854775807) : RdI (w.alloc (.cells cs t)) (.slice (some ⟨n, 0, none⟩) zs.length zs.length) zs := by
  subst hn; exact RdI.lit w cs t zs h hl
end Go.Proofs.Sky
