/-
  lemmas for the theorems of this claim. No conditions beyond those written in the statements.
-/
import Derived.Test.YtdaplhjkccfmgaaZ30
import Derived.Test.YtdaplhjkccfmgaaFF30
set_option linter.unusedVariables false
set_option linter.unusedSimpArgs false
set_option linter.unnecessarySimpa false
namespace Go.Proofs.Sky
open Go Go.RowKit Go.Shelf
set_option maxHeartbeats 4000000
theorem zeroSm (w : World) : (zeroValue 34).run Try.prog w = .ok (.agg #[.int .i64 0, .int .i64 0, .slice none 0 0]) w := by kernel_rfl
theorem zeroRa (w : World) : (zeroValue 36).run Try.prog w = .ok (.agg #[.int .i64 0, .int .i64 0]) w := by kernel_rfl
section
variable {P : Program} {ops : Array Oper} {Q : Exit → Act → World → Prop}
theorem wp_alloc_new {o : Oper} {a : Act} {w : World} {K : Act → World → Prop} (ty : TypeId) (ho : o.op = .alloc ty) (dst : Option Tmp) (hd : o.dst = dst) (cs : Array Value) (hz : (zeroValue ty).run P w = .ok (.agg cs) w)
    (h : ∀ g w', w.heap.size ≤ g → Blk w' g ty cs → Bw w w' → K (a.put dst (.pointer (some ⟨g, 0, none⟩))) w') : o.wp P a w K Q :=
  wp_alloc_agg ty ho dst hd cs hz (h _ _ (Nat.le_refl _) (Blk.new w ty cs) (Bw.alloc (Bw.refl w) _))
end
theorem Blk.lt {w : World} {g : Nat} {T : TypeId} {cs : Array Value} (h : Blk w g T cs) : g < w.heap.size := (Array.getElem?_eq_some_iff.1 h).1
theorem own_apart {w : World} {base base' : Nat} {e e' : TypeId} {k k' : Nat} {v v' : Value} {n n' : Nat} {xs xs' : List Value} (h : w.ownsRow base e k v n xs) (h' : w.ownsRow base' e' k' v' n' xs') (hne : e ≠ e') : Apart v v' := by
  intro g h1 h2
  rcases h.2 with ⟨rfl, _⟩ | ⟨g1, c1, cur1, rfl, _, hh1, _⟩
  · simp [Value.ownBlock] at h1
  · rcases h'.2 with ⟨rfl, _⟩ | ⟨g2, c2, cur2, rfl, _, hh2, _⟩
    · simp [Value.ownBlock] at h2
    · simp [Value.ownBlock] at h1 h2
      subst h1 h2
      rw [hh1] at hh2; cases hh2; exact hne rfl
theorem own_rowT {w : World} {base : Nat} {e T : TypeId} {k : Nat} {v : Value} {n : Nat} {xs : List Value} (h : w.ownsRow base e k v n xs) {g : Nat} {old : Array Value} (hB : Blk w g T old) (hne : T ≠ e) (cs : Array Value) : (w.setRow g cs).ownsRow base e k v n xs := by
  obtain ⟨h1, h2⟩ := h
  refine ⟨h1, ?_⟩
  rcases h2 with h2 | ⟨g1, cap, cur, hv, hg0, hh, r⟩
  · exact .inl h2
  · refine .inr ⟨g1, cap, cur, hv, hg0, (setRow_other w g g1 cs (fun e1 => ?_)).trans hh, r⟩
    unfold Blk at hB
    subst e1; rw [hh] at hB; cases hB; exact hne rfl
def Off (g : Nat) (v : Value) (zs : List Int) : Prop := zs = [] ∨ ∀ b, v.ownBlock = some b → b ≠ g
theorem RdI.off {w : World} {v : Value} {zs : List Int} (h : RdI w v zs) {g : Nat} (hg : w.heap.size ≤ g) : Off g v zs := by
  obtain ⟨_, a, cap, rfl, h4⟩ := h
  rcases h4 with h4 | ⟨b, off, rfl, h6, _⟩
  · exact .inl h4
  · exact .inr (fun b' e => by simp [Value.ownBlock] at e; omega)
theorem Fresh.off {base g : Nat} {v : Value} (h : Fresh base v) (hg : g < base) (zs : List Int) : Off g v zs := .inr (fun b e => by have := h b e; omega)
theorem RdI.rowOff {w : World} {v : Value} {zs : List Int} (h : RdI w v zs) {g : Nat} (ho : Off g v zs) (cs : Array Value) : RdI (w.setRow g cs) v zs := by
  obtain ⟨h2, a, cap, rfl, h4⟩ := h
  refine ⟨h2, a, cap, rfl, ?_⟩
  rcases h4 with h4 | ⟨b', off, rfl, h6, h7⟩
  · exact .inl h4
  · rcases ho with ho | ho
    · exact .inl ho
    · have := ho b' rfl
      refine .inr ⟨b', off, rfl, by simpa using h6, fun i hi => ?_⟩
      rw [World.cell?_of_block (setRow_other w g b' cs this)]; exact h7 i hi
theorem rstep_true {W L : Int} (hok : wl W L) (ps : List (Int × Int)) (i : Nat) (hi : i < ps.length) (hall : ∀ m ∈ ps.take i, okM m = true) (hm : okM (ps.getD i (0, 0)) = true) {x y nu de er : Int} {l : List Int} {sl : Bool}
    (h : (x, y, l, nu, de, sl, er) = stepR W L (runS W L (ps.take i)).1 (ps.getD i (0, 0)).1 (ps.getD i (0, 0)).2) :
    x = W ∧ y = L ∧ er = 0 ∧ runS W L (ps.take (i + 1)) = (l, (runS W L (ps.take i)).2.1 ++ [(nu, de)], if sl = true then (runS W L (ps.take i)).2.2 ++ [(i : Int)] else (runS W L (ps.take i)).2.2) := by
  rw [stepR_run hok _ hall _ hm] at h
  simp only [Prod.mk.injEq] at h
  obtain ⟨h1, h2, h3, h4, h5, h6, h7⟩ := h
  refine ⟨h1, h2, h7, ?_⟩
  rw [runS_take _ _ _ _ hi]
  unfold stepS
  rw [← h3] at h4 h5
  rw [← h3, ← h4, ← h5, ← h6, runS_len, List.length_take, Nat.min_eq_left (by omega)]
theorem rstep_false {W L : Int} (hok : wl W L) (ps : List (Int × Int)) (i : Nat) (hall : ∀ m ∈ ps.take i, okM m = true) (hm : okM (ps.getD i (0, 0)) = false) {x y nu de er : Int} {l : List Int} {sl : Bool}
    (h : (x, y, l, nu, de, sl, er) = stepR W L (runS W L (ps.take i)).1 (ps.getD i (0, 0)).1 (ps.getD i (0, 0)).2) : er = 2 := by
  rw [stepR_stop hok _ hall _ hm] at h
  simp only [Prod.mk.injEq] at h
  exact h.2.2.2.2.2.2
theorem replR_all {W L : Int} {ps : List (Int × Int)} (h : wl W L) (hl : ps.length ≤ 10000) (ha : ∀ m ∈ ps, okM m = true) : replR W L ps = ((runS W L ps).2.1, (runS W L ps).2.2, 0) := by
  unfold replR
  have ho : okL W L = true := by unfold okL; simpa [wl] using h
  rw [ho, if_neg (by simp), if_neg (by omega), if_pos (List.all_eq_true.2 ha)]
end Go.Proofs.Sky
