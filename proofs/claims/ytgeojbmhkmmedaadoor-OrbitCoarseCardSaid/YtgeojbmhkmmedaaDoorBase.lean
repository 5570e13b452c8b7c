/-
  lemmas for the theorems of this claim. No conditions beyond those written in the statements.
-/
import Derived.WalkKit
import Derived.WalkLawsBesides
import Derived.WalkSpells
import Derived.Outline
import Derived.Below
import Derived.Deep.QuietTactic
import Derived.BigQuiet
import Derived.Deep.LoopGhost
import Derived.Deep.RegionWith
import Derived.Lib.Hide
import Derived.Shelf.Abstract
import Derived.Laws.EntriesVeiled
import Derived.OneCell
import Derived.Laws.MakeOwn
import Derived.Laws.OwnMore
set_option linter.unusedVariables false
set_option linter.unusedSimpArgs false
set_option linter.unnecessarySimpa false
namespace Go.Proofs.Sky
open Go Go.RowKit
/-- v is a slice of n elements of k cells each, and these cells hold xs. -/
def Rd (w : World) (k : Nat) (v : Value) (n : Nat) (xs : List Value) : Prop :=
  xs.length = n * k ∧ n ≤ 9223372036854775807 ∧ ∃ a cap, v = .slice a n cap ∧ (n = 0 ∨ ∃ b off, a = some ⟨b, off, none⟩ ∧ b < w.heap.size ∧ ∀ i, i < xs.length → w.cell? ⟨b, off + i, none⟩ = some (xs.getD i default))
def Bw (w w' : World) : Prop := Below w.heap.size w w'
theorem Bw.out {w w' : World} (h : Bw w w') : Below w.heap.size w w' := h
theorem Bw.refl (w : World) : Bw w w := Below.refl _ _
theorem Bw.trans {a b c : World} (h : Bw a b) (k : Bw b c) : Bw a c := Below.trans h (Below.mono k h.size)
theorem Bw.alloc {a b : World} (h : Bw a b) (o : Obj) : Bw a (b.alloc o) := Below.alloc h h.size o
theorem Bw.drew {a b : World} (h : Bw a b) : Bw a b.drew := Below.drew h
theorem Bw.setCell {a b : World} (h : Bw a b) {p : Addr} (hp : a.heap.size ≤ p.block) (u : Value) : Bw a (b.setCell p u) := Below.setCell h hp u
theorem Bw.size {w w' : World} (h : Bw w w') : w.heap.size ≤ w'.heap.size := Below.size h
theorem Bw.cells {w w' : World} (h : Bw w w') : (∀ b o, b < w.heap.size → w'.cell? ⟨b, o, none⟩ = w.cell? ⟨b, o, none⟩) ∧ (∀ b o, b < w.heap.size → w'.frozen? ⟨b, o, none⟩ = w.frozen? ⟨b, o, none⟩) :=
  ⟨fun b o h' => h.out.cell (p := ⟨b, o, none⟩) h', fun b o h' => h.out.frozen (p := ⟨b, o, none⟩) h'⟩
theorem Rd.mono {w w' : World} {k n : Nat} {v : Value} {xs : List Value} (h : Rd w k v n xs) (hb : Bw w w') : Rd w' k v n xs := by
  obtain ⟨h1, h2, a, cap, h3, h4⟩ := h
  refine ⟨h1, h2, a, cap, h3, ?_⟩
  rcases h4 with h4 | ⟨b, off, h5, h6, h7⟩
  · exact .inl h4
  · exact .inr ⟨b, off, h5, Nat.lt_of_lt_of_le h6 hb.size, fun i hi => by rw [← h7 i hi]; exact hb.out.cell (p := ⟨b, off + i, none⟩) h6⟩
theorem ret_int {k : IntKind} {a b : Int} (h : a = b) : Ending.returned (.int k a) = .returned (.int k b) := by rw [h]
theorem ret_bool {a b : Bool} (h : a = b) : Ending.returned (.bool a) = .returned (.bool b) := by rw [h]
/-- A world that w has grown to. -/
structure Ext (w : World) where
  W : World
  b : Bw w W
instance extNonempty (w : World) : Nonempty (Ext w) := ⟨⟨w, Bw.refl w⟩⟩
instance extInhabited (w : World) : Inhabited (Ext w) := ⟨⟨w, Bw.refl w⟩⟩
theorem wp_region_quiet_ext {P : Program} {id : Nat} {Q : Exit → Act → World → Prop} {a : Act} {w : World} {l : List Oper} (hm : P.follows .mixedOrders = true) (hB : Region.lexB .any l.toArray = true)
    (h : wpQuiet P l.toArray (fun w' => ∃ p : Ext w, w' = p.W) (fun a' => ∀ w', (∃ p : Ext w, w' = p.W) → Q .normal a' w') l a) : (Code.region id l.toArray true).wp P Q a w :=
  wp_region_quiet (C := fun w' => ∃ p : Ext w, w' = p.W) hm hB ⟨⟨{ w with drawn := w.drawn + 1 }, Bw.drew (Bw.refl w)⟩, rfl⟩ (by simpa using h)
theorem Calls.ext_of {P : Program} {f : FuncId} {args : Array Value} {w : World} {p : Ext w} {v : Value}
    (h : Calls P f args p.W fun e w' => e = .returned v ∧ Bw p.W w') : Calls P f args p.W fun e w'' => e = .returned v ∧ ∃ q : Ext w, w'' = q.W :=
  h.mono fun _ w' ⟨he, hm⟩ => ⟨he, ⟨w', p.b.trans hm⟩, rfl⟩
theorem Ext.cell {w : World} {b o : Nat} {v : Value} (hb : b < w.heap.size) (h : w.cell? ⟨b, o, none⟩ = some v) (p : Ext w) : p.W.cell? ⟨b, o, none⟩ = some v := by rw [p.b.cells.1 b o hb]; exact h
/-- v is a slice of pairs of ints: the cells hold ps. -/
def RdS (w : World) (v : Value) (ps : List (Int × Int)) : Prop :=
  ps.length ≤ 9223372036854775807 ∧ ∃ a cap, v = .slice a ps.length cap ∧ (ps = [] ∨ ∃ b off, a = some ⟨b, off, none⟩ ∧ b < w.heap.size ∧ ∀ i, i < ps.length → w.cell? ⟨b, off + i * 2, none⟩ = some (.int .i64 (ps.getD i (0, 0)).1) ∧ w.cell? ⟨b, off + i * 2 + 1, none⟩ = some (.int .i64 (ps.getD i (0, 0)).2))
theorem RdS.mono {w w' : World} {v : Value} {ps : List (Int × Int)} (h : RdS w v ps) (hb : Bw w w') : RdS w' v ps := by
  obtain ⟨h2, a, cap, h3, h4⟩ := h
  refine ⟨h2, a, cap, h3, ?_⟩
  rcases h4 with h4 | ⟨b, off, h5, h6, h7⟩
  · exact .inl h4
  · exact .inr ⟨b, off, h5, Nat.lt_of_lt_of_le h6 hb.size, fun i hi => by rw [hb.cells.1 _ _ h6, hb.cells.1 _ _ h6]; exact h7 i hi⟩
/-- v is a slice of ints: the cells hold zs. -/
def RdI (w : World) (v : Value) (zs : List Int) : Prop :=
  zs.length ≤ 9223372036854775807 ∧ ∃ a cap, v = .slice a zs.length cap ∧ (zs = [] ∨ ∃ b off, a = some ⟨b, off, none⟩ ∧ b < w.heap.size ∧ ∀ i, i < zs.length → w.cell? ⟨b, off + i, none⟩ = some (.int .i64 (zs.getD i 0)))
theorem RdI.mono {w w' : World} {v : Value} {zs : List Int} (h : RdI w v zs) (hb : Bw w w') : RdI w' v zs := by
  obtain ⟨h2, a, cap, h3, h4⟩ := h
  refine ⟨h2, a, cap, h3, ?_⟩
  rcases h4 with h4 | ⟨b, off, h5, h6, h7⟩
  · exact .inl h4
  · exact .inr ⟨b, off, h5, Nat.lt_of_lt_of_le h6 hb.size, fun i hi => by rw [hb.cells.1 _ _ h6]; exact h7 i hi⟩
theorem getD_mem {α : Type} (l : List α) (i : Nat) (d : α) (h : i < l.length) : l.getD i d ∈ l := by
  rw [List.getD_eq_getElem?_getD, List.getElem?_eq_getElem h]; exact List.getElem_mem h
theorem any_of_lt {α : Type} (l : List α) (f : α → Bool) (d : α) (i : Nat) (h : i < l.length) (hf : f (l.getD i d) = true) : l.any f = true :=
  List.any_eq_true.2 ⟨_, getD_mem l i d h, hf⟩
theorem any_none {α : Type} (l : List α) (f : α → Bool) (d : α) (h : ∀ i, i < l.length → f (l.getD i d) = false) : l.any f = false := by
  rw [List.any_eq_false]
  intro x hx
  obtain ⟨i, hi, rfl⟩ := List.getElem_of_mem hx
  have := h i hi
  rw [List.getD_eq_getElem?_getD, List.getElem?_eq_getElem hi] at this
  simp at this
  simp [this]
theorem cell_set_ne (w : World) (b o b' o' : Nat) (u : Value) (h : b' ≠ b) : (w.setCell ⟨b', o', none⟩ u).cell? ⟨b, o, none⟩ = w.cell? ⟨b, o, none⟩ :=
  World.cell?_setCell_other _ _ _ _ (by intro e; injection e; contradiction)
theorem cell_set_off (w : World) (b o o' : Nat) (u : Value) (h : o' ≠ o) : (w.setCell ⟨b, o', none⟩ u).cell? ⟨b, o, none⟩ = w.cell? ⟨b, o, none⟩ :=
  World.cell?_setCell_other _ _ _ _ (by intro e; injection e; contradiction)
theorem cell_set_same (w : World) (b o : Nat) (u : Value) {x : Value} (h : w.cell? ⟨b, o, none⟩ = some x) : (w.setCell ⟨b, o, none⟩ u).cell? ⟨b, o, none⟩ = some u :=
  World.cell?_setCell_same _ _ _ h
theorem frozen_set (w : World) (b o b' o' : Nat) (u : Value) : (w.setCell ⟨b', o', none⟩ u).frozen? ⟨b, o, none⟩ = w.frozen? ⟨b, o, none⟩ := by simp
theorem own_bw {w w' : World} {base : Nat} {e : TypeId} {size : Nat} {v : Value} {n : Nat} {xs : List Value} (h : w.ownsRow base e size v n xs) (hb : Bw w w') : w'.ownsRow base e size v n xs := by
  obtain ⟨h1, h2⟩ := h
  refine ⟨h1, ?_⟩
  rcases h2 with h2 | ⟨g, cap, cur, hv, hg, hh, r⟩
  · exact Or.inl h2
  · refine Or.inr ⟨g, cap, cur, hv, hg, ?_, r⟩
    rw [hb.out.block g (by
      rcases Nat.lt_or_ge g w.heap.size with h' | h'
      · exact h'
      · rw [Array.getElem?_eq_none h'] at hh; cases hh)]
    exact hh
theorem Bw.grown {a b c : World} {e : TypeId} {k : Nat} {v : Value} {n : Nat} {xs : List Value} (h : Bw a b) (ho : b.ownsRow a.heap.size e k v n xs) (hg : b.grownBy c v.ownBlock) : Bw a c :=
  Below.grown h hg h.size fun j hj => (ho.lt j hj).1
def flat (ps : List (Int × Int)) : List Value := ps.flatMap fun p => [.int .i64 p.1, .int .i64 p.2]
theorem flat_nil : flat [] = [] := rfl
theorem flat_cons (p : Int × Int) (ps : List (Int × Int)) : flat (p :: ps) = .int .i64 p.1 :: .int .i64 p.2 :: flat ps := rfl
theorem flat_append (ps qs : List (Int × Int)) : flat (ps ++ qs) = flat ps ++ flat qs := by simp [flat]
theorem flat_length (ps : List (Int × Int)) : (flat ps).length = ps.length * 2 := by
  induction ps with
  | nil => rfl
  | cons p ps ih => rw [flat_cons]; simp [ih]; omega
theorem flat_at (ps : List (Int × Int)) (i : Nat) (h : i < ps.length) : (flat ps)[i * 2]? = some (.int .i64 (ps.getD i (0, 0)).1) ∧ (flat ps)[i * 2 + 1]? = some (.int .i64 (ps.getD i (0, 0)).2) := by
  induction ps generalizing i with
  | nil => simp at h
  | cons p ps ih =>
    rw [flat_cons]
    cases i with
    | zero => simp
    | succ i =>
      have := ih i (by simpa using h)
      rw [show (i + 1) * 2 = i * 2 + 1 + 1 by omega]
      simpa using this
theorem flat_set (l : List (Int × Int)) (m : Nat) (a b : Int) (z : Value) : ((flat l ++ List.replicate ((m + 1) * 2) z).set (l.length * 2) (.int .i64 a)).set (l.length * 2 + 1) (.int .i64 b) = flat (l ++ [(a, b)]) ++ List.replicate (m * 2) z := by
  have hl := flat_length l
  rw [show (m + 1) * 2 = (m * 2 + 1) + 1 by omega, List.replicate_succ, List.replicate_succ, flat_append, flat_cons, flat_nil]
  rw [← hl, List.set_append_right _ _ (Nat.le_refl _)]
  rw [List.set_append_right _ _ (by omega)]
  simp
theorem made2 (z : Value) (n : Nat) : (madeCells #[z, z] (n * 2)).toList = List.replicate (n * 2) z := by
  apply List.ext_getElem?
  intro j
  by_cases hj : j < n * 2
  · rcases Nat.mod_two_eq_zero_or_one j with h | h <;> simp [madeCells, hj, h]
  · simp [madeCells, hj]
theorem own_rdS {w : World} {base : Nat} {e : TypeId} {g cap : Nat} {ps : List (Int × Int)} (h : w.ownsRow base e 2 (.slice (some ⟨g, 0, none⟩) ps.length cap) ps.length (flat ps)) (hn : ps.length ≤ 9223372036854775807) : RdS w (.slice (some ⟨g, 0, none⟩) ps.length cap) ps := by
  refine ⟨hn, _, _, rfl, .inr ⟨g, 0, rfl, (h.lt g rfl).2, fun i hi => ?_⟩⟩
  have hf := flat_at ps i hi
  rw [Nat.zero_add, h.cellAt _ (by omega), h.cellAt _ (by omega)]
  exact hf
theorem own_rdI {w : World} {base : Nat} {e : TypeId} {g cap : Nat} {zs : List Int} (h : w.ownsRow base e 1 (.slice (some ⟨g, 0, none⟩) zs.length cap) zs.length (zs.map (Value.int .i64))) (hn : zs.length ≤ 9223372036854775807) : RdI w (.slice (some ⟨g, 0, none⟩) zs.length cap) zs := by
  refine ⟨hn, _, _, rfl, .inr ⟨g, 0, rfl, (h.lt g rfl).2, fun i hi => ?_⟩⟩
  rw [Nat.zero_add, h.cellAt _ (by omega)]
  simp [List.getElem?_eq_getElem hi, List.getD_eq_getElem?_getD]
/-- v, if it is a slice with memory, lies in a block from base on -/
def Fresh (base : Nat) (v : Value) : Prop := ∀ b, v.ownBlock = some b → base ≤ b
theorem Fresh.mono {base base' : Nat} {v : Value} (h : Fresh base v) (hb : base' ≤ base) : Fresh base' v := fun b e => Nat.le_trans hb (h b e)
theorem Fresh.nil (base : Nat) (n c : Nat) : Fresh base (.slice none n c) := fun _ e => by simp [Value.ownBlock] at e
theorem Fresh.at {base g o n c : Nat} (h : base ≤ g) : Fresh base (.slice (some ⟨g, o, none⟩) n c) := fun b e => by simp [Value.ownBlock] at e; omega
theorem RdS.set {w : World} {v : Value} {ps : List (Int × Int)} (h : RdS w v ps) {base b : Nat} (hf : Fresh base v) (hlt : b < base) (o : Nat) (u : Value) : RdS (w.setCell ⟨b, o, none⟩ u) v ps := by
  obtain ⟨h2, a, cap, rfl, h4⟩ := h
  refine ⟨h2, a, cap, rfl, ?_⟩
  rcases h4 with h4 | ⟨b', off, rfl, h6, h7⟩
  · exact .inl h4
  · have := hf b' rfl
    exact .inr ⟨b', off, rfl, by simpa using h6, fun i hi => by rw [cell_set_ne _ _ _ _ _ _ (by omega), cell_set_ne _ _ _ _ _ _ (by omega)]; exact h7 i hi⟩
theorem RdI.set {w : World} {v : Value} {zs : List Int} (h : RdI w v zs) {base b : Nat} (hf : Fresh base v) (hlt : b < base) (o : Nat) (u : Value) : RdI (w.setCell ⟨b, o, none⟩ u) v zs := by
  obtain ⟨h2, a, cap, rfl, h4⟩ := h
  refine ⟨h2, a, cap, rfl, ?_⟩
  rcases h4 with h4 | ⟨b', off, rfl, h6, h7⟩
  · exact .inl h4
  · have := hf b' rfl
    exact .inr ⟨b', off, rfl, by simpa using h6, fun i hi => by rw [cell_set_ne _ _ _ _ _ _ (by omega)]; exact h7 i hi⟩
theorem RdS.form {w : World} {v : Value} {ps : List (Int × Int)} (h : RdS w v ps) : ∃ a c, v = .slice a ps.length c := by obtain ⟨_, a, c, h, _⟩ := h; exact ⟨a, c, h⟩
theorem RdI.form {w : World} {v : Value} {zs : List Int} (h : RdI w v zs) : ∃ a c, v = .slice a zs.length c := by obtain ⟨_, a, c, h, _⟩ := h; exact ⟨a, c, h⟩
theorem RdS.nil (w : World) : RdS w (.slice none 0 0) [] := ⟨by simp, none, 0, rfl, .inl rfl⟩
theorem RdI.nil (w : World) : RdI w (.slice none 0 0) [] := ⟨by simp, none, 0, rfl, .inl rfl⟩
theorem RdS.lit (w : World) (cs : Array Value) (t : TypeId) (ps : List (Int × Int)) (h : cs.toList = flat ps) (hn : ps.length ≤ 9223372036854775807) : RdS (w.alloc (.cells cs t)) (.slice (some ⟨w.heap.size, 0, none⟩) ps.length ps.length) ps := by
  have hs : cs.size = ps.length * 2 := by rw [← Array.length_toList, h, flat_length]
  have h1 := World.ownsRow_lit (base := 0) (e := t) (size := 2) w cs ps.length (Nat.zero_le _) (by simpa [maxLen] using hn) hs
  rw [h] at h1
  exact own_rdS h1 hn
theorem RdI.lit (w : World) (cs : Array Value) (t : TypeId) (zs : List Int) (h : cs.toList = zs.map (Value.int .i64)) (hn : zs.length ≤ 9223372036854775807) : RdI (w.alloc (.cells cs t)) (.slice (some ⟨w.heap.size, 0, none⟩) zs.length zs.length) zs := by
  have hs : cs.size = zs.length * 1 := by rw [← Array.length_toList, h]; simp
  have h1 := World.ownsRow_lit (base := 0) (e := t) (size := 1) w cs zs.length (Nat.zero_le _) (by simpa [maxLen] using hn) hs
  rw [h] at h1
  exact own_rdI h1 hn
theorem new_cells (w : World) (cs : List Value) (t : TypeId) (hn : cs.length ≤ 1000) : ∀ j u, cs[j]? = some u → (w.alloc (.cells cs.toArray t)).cell? ((⟨w.heap.size, 0, none⟩ : Addr).add j) = some u := by
  have h := World.ownsRow_lit (base := 0) (e := t) (size := 1) w cs.toArray cs.length (Nat.zero_le _) (by unfold maxLen; omega) (by simp)
  exact fun j u hu => h.cells rfl j u (by simpa using hu)
def AnyIdx (b : Bool) (e : Ending) : Prop := ∃ r : Int, e = .returned (.int .i64 r) ∧ decide (0 ≤ r) = b
end Go.Proofs.Sky
