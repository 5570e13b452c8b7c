/-
  lemmas for the theorems of this claim. No conditions beyond those written in the statements.
-/
import Derived.WalkKit
import Derived.WalkLawsBesides
import Derived.WalkSpells
import Derived.Outline
import Derived.Below
import Derived.Deep.QuietTactic
import Derived.BigQuiet
import Derived.Deep.LoopGhost
import Derived.Deep.RegionWith
import Derived.Lib.Hide
import Derived.Shelf.Abstract
import Derived.Laws.EntriesVeiled
import Derived.OneCell
import Derived.Laws.MakeOwn
import Derived.Laws.OwnMore
set_option linter.unusedVariables false
set_option linter.unusedSimpArgs false
set_option linter.unnecessarySimpa false
namespace Go.Proofs.Sky
open Go Go.RowKit
/-- v is a slice of n elements of k cells each, and these cells hold xs. -/
def Rd (w : World) (k : Nat) (v : Value) (n : Nat) (xs : List Value) : Prop :=
  xs.length = n * k ∧ n ≤ 9223372036854775807 ∧ ∃ a cap, v = .slice a n cap ∧ (n = 0 ∨ ∃ b off, a = some ⟨b, off, none⟩ ∧ b < w.heap.size ∧ ∀ i, i < xs.length → w.cell? ⟨b, off + i, none⟩ = some (xs.getD i default))
def Bw (w w' : World) : Prop := Below w.heap.size w w'
theorem Bw.out {w w' : World} (h : Bw w w') : Below w.heap.size w w' := h
theorem Bw.refl (w : World) : Bw w w := Below.refl _ _
theorem Bw.trans {a b c : World} (h : Bw a b) (k : Bw b c) : Bw a c := Below.trans h (Below.mono k h.size)
theorem Bw.alloc {a b : World} (h : Bw a b) (o : Obj) : Bw a (b.alloc o) := Below.alloc h h.size o
theorem Bw.drew {a b : World} (h : Bw a b) : Bw a b.drew := Below.drew h
theorem Bw.setCell {a b : World} (h : Bw a b) {p : Addr} (hp : a.heap.size ≤ p.block) (u : Value) : Bw a (b.setCell p u) := Below.setCell h hp u
theorem Bw.size {w w' : World} (h : Bw w w') : w.heap.size ≤ w'.heap.size := Below.size h
theorem Bw.cells {w w' : World} (h : Bw w w') : (∀ b o, b < w.heap.size → w'.cell? ⟨b, o, none⟩ = w.cell? ⟨b, o, none⟩) ∧ (∀ b o, b < w.heap.size → w'.frozen? ⟨b, o, none⟩ = w.frozen? ⟨b, o, none⟩) :=
  ⟨fun b o h' => h.out.cell (p := ⟨b, o, none⟩) h', fun b o h' => h.out.frozen (p := ⟨b, o, none⟩) h'⟩
theorem Rd.mono {w w' : World} {k n : Nat} {v : Value} {xs : List Value} (h : Rd w k v n xs) (hb : Bw w w') : Rd w' k v n xs := by
  obtain ⟨h1, h2, a, cap, h3, h4⟩ := h
  refine ⟨h1, h2, a, cap, h3, ?_⟩
  rcases h4 with h4 | ⟨b, off, h5, h6, h7⟩
  · exact .inl h4
  · exact .inr ⟨b, off, h5, Nat.lt_of_lt_of_le h6 hb.size, fun i hi => by rw [← h7 i hi]; exact hb.out.cell (p := ⟨b, off + i, none⟩) h6⟩
theorem ret_int {k : IntKind} {a b : Int} (h : a = b) : Ending.returned (.int k a) = .returned (.int k b) := by rw [h]
theorem ret_bool {a b : Bool} (h : a = b) : Ending.returned (.bool a) = .returned (.bool b) := by rw [h]
/-- A world that w has grown to. -/
structure Ext (w : World) where
  W : World
  b : Bw w W
instance extNonempty (w : World) : Nonempty (Ext w) := ⟨⟨w, Bw.refl w⟩⟩
instance extInhabited (w : World) : Inhabited (Ext w) := ⟨⟨w, Bw.refl w⟩⟩
theorem wp_region_quiet_ext {P : Program} {id : Nat} {Q : Exit → Act → World → Prop} {a : Act} {w : World} {l : List Oper} (hm : P.follows .mixedOrders = true) (hB : Region.lexB .any l.toArray = true)
    (h : wpQuiet P l.toArray (fun w' => ∃ p : Ext w, w' = p.W) (fun a' => ∀ w', (∃ p : Ext w, w' = p.W) → Q .normal a' w') l a) : (Code.region id l.toArray true).wp P Q a w :=
  wp_region_quiet (C := fun w' => ∃ p : Ext w, w' = p.W) hm hB ⟨⟨{ w with drawn := w.drawn + 1 }, Bw.drew (Bw.refl w)⟩, rfl⟩ (by simpa using h)
theorem Calls.ext_of {P : Program} {f : FuncId} {args : Array Value} {w : World} {p : Ext w} {v : Value}
    (h : Calls P f args p.W fun e w' => e = .returned v ∧ Bw p.W w') : Calls P f args p.W fun e w'' => e = .returned v ∧ ∃ q : Ext w, w'' = q.W :=
  h.mono fun _ w' ⟨he, hm⟩ => ⟨he, ⟨w', p.b.trans hm⟩, rfl⟩
theorem Ext.cell {w : World} {b o : Nat} {v : Value} (hb : b < w.heap.size) (h : w.cell? ⟨b, o, none⟩ = some v) (p : Ext w) : p.W.cell? ⟨b, o, none⟩ = some v := by rw [p.b.cells.1 b o hb]; exact h
/-- v is a slice of pairs of ints: the cells hold ps. -/
def RdS (w : World) (v : Value) (ps : List (Int × Int)) : Prop :=
  ps.length ≤ 9223372036854775807 ∧ ∃ a cap, v = .slice a ps.length cap ∧ (ps = [] ∨ ∃ b off, a = some ⟨b, off, none⟩ ∧ b < w.heap.size ∧ ∀ i, i < ps.length → w.cell? ⟨b, off + i * 2, none⟩ = some (.int .i64 (ps.getD i (0, 0)).1) ∧ w.cell? ⟨b, off + i * 2 + 1, none⟩ = some (.int .i64 (ps.getD i (0, 0)).2))
theorem RdS.mono {w w' : World} {v : Value} {ps : List (Int × Int)} (h : RdS w v ps) (hb : Bw w w') : RdS w' v ps := by
  obtain ⟨h2, a, cap, h3, h4⟩ := h
  refine ⟨h2, a, cap, h3, ?_⟩
  rcases h4 with h4 | ⟨b, off, h5, h6, h7⟩
  · exact .inl h4
  · exact .inr ⟨b, off, h5, Nat.lt_of_lt_of_le h6 hb.size, fun i hi => by rw [hb.cells.1 _ _ h6, hb.cells.1 _ _ h6]; exact h7 i hi⟩
/-- v is a slice of ints: the cells hold zs. -/
def RdI (w : World) (v : Value) (zs : List Int) : Prop :=
  zs.length ≤ 9223372036854775807 ∧ ∃ a cap, v = .slice a zs.length cap ∧ (zs = [] ∨ ∃ b off, a = some ⟨b, off, none⟩ ∧ b < w.heap.size ∧ ∀ i, i < zs.length → w.cell? ⟨b, off + i, none⟩ = some (.int .i64 (zs.getD i 0)))
theorem RdI.mono {w w' : World} {v : Value} {zs : List Int} (h : RdI w v zs) (hb : Bw w w') : RdI w' v zs := by
  obtain ⟨h2, a, cap, h3, h4⟩ := h
  refine ⟨h2, a, cap, h3, ?_⟩
  rcases h4 with h4 | ⟨b, off, h5, h6, h7⟩
  · exact .inl h4
  · exact .inr ⟨b, off, h5, Nat.lt_of_lt_of_le h6 hb.size, fun i hi => by rw [hb.cells.1 _ _ h6]; exact h7 i hi⟩
theorem getD_mem {α : Type} (l : List α) (i : Nat) (d : α) (h : i < l.length) : l.getD i d ∈ l := by
  rw [List.getD_eq_getElem?_getD, List.getElem?_eq_getElem h]; exact List.getElem_mem h
theorem any_of_lt {α : Type} (l : List α) (f : α → Bool) (d : α) (i : Nat) (h : i < l.length) (hf : f (l.getD i d) = true) : l.any f = true :=
  List.any_eq_true.2 ⟨_, getD_mem l i d h, hf⟩
theorem any_none {α : Type} (l : List α) (f : α → Bool) (d : α) (h : ∀ i, i < l.length → f (l.getD i d) = false) : l.any f = false := by
  rw [List.any_eq_false]
  intro x hx
  obtain ⟨i, hi, rfl⟩ := List.getElem_of_mem hx
  have := h i hi
  rw [List.getD_eq_getElem?_getD, List.getElem?_eq_getElem hi] at this
  simp at this
  simp [this]
theorem cell_set_ne (w : World) (b o b' o' : Nat) (u : Value) (h : b' ≠ b) : (w.setCell ⟨b', o', none⟩ u).cell? ⟨b, o, none⟩ = w.cell? ⟨b, o, none⟩ :=
  World.cell?_setCell_other _ _ _ _ (by intro e; injection e; contradiction)
theorem cell_set_off (w : World) (b o o' : Nat) (u : Value) (h : o' ≠ o) : (w.setCell ⟨b, o', none⟩ u).cell? ⟨b, o, none⟩ = w.cell? ⟨b, o, none⟩ :=
  World.cell?_setCell_other _ _ _ _ (by intro e; injection e; contradiction)
theorem cell_set_same (w : World) (b o : Nat) (u : Value) {x : Value} (h : w.cell? ⟨b, o, none⟩ = some x) : (w.setCell ⟨b, o, none⟩ u).cell? ⟨b, o, none⟩ = some u :=
  World.cell?_setCell_same _ _ _ h
theorem frozen_set (w : World) (b o b' o' : Nat) (u : Value) : (w.setCell ⟨b', o', none⟩ u).frozen? ⟨b, o, none⟩ = w.frozen? ⟨b, o, none⟩ := by simp
theorem own_bw {w w' : World} {base : Nat} {e : TypeId} {size : Nat} {v : Value} {n : Nat} {xs : List Value} (h : w.ownsRow base e size v n xs) (hb : Bw w w') : w'.ownsRow base e size v n xs := by
  obtain ⟨h1, h2⟩ := h
  refine ⟨h1, ?_⟩
  rcases h2 with h2 | ⟨g, cap, cur, hv, hg, hh, r⟩
  · exact Or.inl h2
  · refine Or.inr ⟨g, cap, cur, hv, hg, ?_, r⟩
    rw [hb.out.block g (by
      rcases Nat.lt_or_ge g w.heap.size with h' | h'
      · exact h'
      · rw [Array.getElem?_eq_none h'] at hh; cases hh)]
    exact hh
theorem Bw.grown {a b c : World} {e : TypeId} {k : Nat} {v : Value} {n : Nat} {xs : List Value} (h : Bw a b) (ho : b.ownsRow a.heap.size e k v n xs) (hg : b.grownBy c v.ownBlock) : Bw a c :=
  Below.grown h hg h.size fun j hj => (ho.lt j hj).1
def flat (ps : List (Int × Int)) : List Value := ps.flatMap fun p => [.int .i64 p.1, .int .i64 p.2]
theorem flat_nil : flat [] = [] := rfl
theorem flat_cons (p : Int × Int) (ps : List (Int × Int)) : flat (p :: ps) = .int .i64 p.1 :: .int .i64 p.2 :: flat ps := rfl
theorem flat_append (ps qs : List (Int × Int)) : flat (ps ++ qs) = flat ps ++ flat qs := by simp [flat]
theorem flat_length (ps : List (Int × Int)) : (flat ps).length = ps.length * 2 := by
  induction ps with
  | nil => rfl
  | cons p ps ih => rw [flat_cons]; simp [ih]; omega
theorem flat_at (ps : List (Int × Int)) (i : Nat) (h : i < ps.length) : (flat ps)[i * 2]? = some (.int .i64 (ps.getD i (0, 0)).1) ∧ (flat ps)[i * 2 + 1]? = some (.int .i64 (ps.getD i (0, 0)).2) := by
  induction ps generalizing i with
  | nil => simp at h
  | cons p ps ih =>
    rw [flat_cons]
    cases i with
    | zero => simp
    | succ i =>
      have := ih i (by simpa using h)
      rw [show (i + 1) * 2 = i * 2 + 1 + 1 by omega]
      simpa using this
theorem flat_set (l : List (Int × Int)) (m : Nat) (a b : Int) (z : Value) : ((flat l ++ List.replicate ((m + 1) * 2) z).set (l.length * 2) (.int .i64 a)).set (l.length * 2 + 1) (.int .i64 b) = flat (l ++ [(a, b)]) ++ List.replicate (m * 2) z := by
  have hl := flat_length l
  rw [show (m + 1) * 2 = (m * 2 + 1) + 1 by omega, List.replicate_succ, List.replicate_succ, flat_append, flat_cons, flat_nil]
  rw [← hl, List.set_append_right _ _ (Nat.le_refl _)]
  rw [List.set_append_right _ _ (by omega)]
  simp
theorem made2 (z : Value) (n : Nat) : (madeCells #[z, z] (n * 2)).toList = List.replicate (n * 2) z := by
  apply List.ext_getElem?
  intro j
  by_cases hj : j < n * 2
  · rcases Nat.mod_two_eq_zero_or_one j with h | h <;> simp [madeCells, hj, h]
  · simp [madeCells, hj]
theorem own_rdS {w : World} {base : Nat} {e : TypeId} {g cap : Nat} {ps : List (Int × Int)} (h : w.ownsRow base e 2 (.slice (some ⟨g, 0, none⟩) ps.length cap) ps.length (flat ps)) (hn : ps.length ≤ 9223372036854775807) : RdS w (.slice (some ⟨g, 0, none⟩) ps.length cap) ps := by
  refine ⟨hn, _, _, rfl, .inr ⟨g, 0, rfl, (h.lt g rfl).2, fun i hi => ?_⟩⟩
  have hf := flat_at ps i hi
  rw [Nat.zero_add, h.cellAt _ (by omega), h.cellAt _ (by omega)]
  exact hf
theorem own_rdI {w : World} {base : Nat} {e : TypeId} {g cap : Nat} {zs : List Int} (h : w.ownsRow base e 1 (.slice (some ⟨g, 0, none⟩) zs.length cap) zs.length (zs.map (Value.int .i64))) (hn : zs.length ≤ 9223372036854775807) : RdI w (.slice (some ⟨g, 0, none⟩) zs.length cap) zs := by
  refine ⟨hn, _, _, rfl, .inr ⟨g, 0, rfl, (h.lt g rfl).2, fun i hi => ?_⟩⟩
  rw [Nat.zero_add, h.cellAt _ (by omega)]
  simp [List.getElem?_eq_getElem hi, List.getD_eq_getElem?_getD]
/-- v, if it is a slice with memory, lies in a block from base on -/
def Fresh (base : Nat) (v : Value) : Prop := ∀ b, v.ownBlock = some b → base ≤ b
theorem Fresh.mono {base base' : Nat} {v : Value} (h : Fresh base v) (hb : base' ≤ base) : Fresh base' v := fun b e => Nat.le_trans hb (h b e)
theorem Fresh.nil (base : Nat) (n c : Nat) : Fresh base (.slice none n c) := fun _ e => by simp [Value.ownBlock] at e
theorem Fresh.at {base g o n c : Nat} (h : base ≤ g) : Fresh base (.slice (some ⟨g, o, none⟩) n c) := fun b e => by simp [Value.ownBlock] at e; omega
theorem RdS.set {w : World} {v : Value} {ps : List (Int × Int)} (h : RdS w v ps) {base b : Nat} (hf : Fresh base v) (hlt : b < base) (o : Nat) (u : Value) : RdS (w.setCell ⟨b, o, none⟩ u) v ps := by
  obtain ⟨h2, a, cap, rfl, h4⟩ := h
  refine ⟨h2, a, cap, rfl, ?_⟩
  rcases h4 with h4 | ⟨b', off, rfl, h6, h7⟩
  · exact .inl h4
  · have := hf b' rfl
    exact .inr ⟨b', off, rfl, by simpa using h6, fun i hi => by rw [cell_set_ne _ _ _ _ _ _ (by omega), cell_set_ne _ _ _ _ _ _ (by omega)]; exact h7 i hi⟩
theorem RdI.set {w : World} {v : Value} {zs : List Int} (h : RdI w v zs) {base b : Nat} (hf : Fresh base v) (hlt : b < base) (o : Nat) (u : Value) : RdI (w.setCell ⟨b, o, none⟩ u) v zs := by
  obtain ⟨h2, a, cap, rfl, h4⟩ := h
  refine ⟨h2, a, cap, rfl, ?_⟩
  rcases h4 with h4 | ⟨b', off, rfl, h6, h7⟩
  · exact .inl h4
  · have := hf b' rfl
    exact .inr ⟨b', off, rfl, by simpa using h6, fun i hi => by rw [cell_set_ne _ _ _ _ _ _ (by omega)]; exact h7 i hi⟩
theorem RdS.form {w : World} {v : Value} {ps : List (Int × Int)} (h : RdS w v ps) : ∃ a c, v = .slice a ps.length c := by obtain ⟨_, a, c, h, _⟩ := h; exact ⟨a, c, h⟩
theorem RdI.form {w : World} {v : Value} {zs : List Int} (h : RdI w v zs) : ∃ a c, v = .slice a zs.length c := by obtain ⟨_, a, c, h, _⟩ := h; exact ⟨a, c, h⟩
theorem RdS.nil (w : World) : RdS w (.slice none 0 0) [] := ⟨by simp, none, 0, rfl, .inl rfl⟩
theorem RdI.nil (w : World) : RdI w (.slice none 0 0) [] := ⟨by simp, none, 0, rfl, .inl rfl⟩
theorem RdS.lit (w : World) (cs : Array Value) (t : TypeId) (ps : List (Int × Int)) (h : cs.toList = flat ps) (hn : ps.length ≤ 9223372036854775807) : RdS (w.alloc (.cells cs t)) (.slice (some ⟨w.heap.size, 0, none⟩) ps.length ps.length) ps := by
  have hs : cs.size = ps.length * 2 := by rw [← Array.length_toList, h, flat_length]
  have h1 := World.ownsRow_lit (base := 0) (e := t) (size := 2) w cs ps.length (Nat.zero_le _) (by simpa [maxLen] using hn) hs
  rw [h] at h1
  exact own_rdS h1 hn
theorem RdI.lit (w : World) (cs : Array Value) (t : TypeId) (zs : List Int) (h : cs.toList = zs.map (Value.int .i64)) (hn : zs.length ≤ 9223372036854775807) : RdI (w.alloc (.cells cs t)) (.slice (some ⟨w.heap.size, 0, none⟩) zs.length zs.length) zs := by
  have hs : cs.size = zs.length * 1 := by rw [← Array.length_toList, h]; simp
  have h1 := World.ownsRow_lit (base := 0) (e := t) (size := 1) w cs zs.length (Nat.zero_le _) (by simpa [maxLen] using hn) hs
  rw [h] at h1
  exact own_rdI h1 hn
theorem new_cells (w : World) (cs : List Value) (t : TypeId) (hn : cs.length ≤ 1000) : ∀ j u, cs[j]? = some u → (w.alloc (.cells cs.toArray t)).cell? ((⟨w.heap.size, 0, none⟩ : Addr).add j) = some u := by
  have h := World.ownsRow_lit (base := 0) (e := t) (size := 1) w cs.toArray cs.length (Nat.zero_le _) (by unfold maxLen; omega) (by simp)
  exact fun j u hu => h.cells rfl j u (by simpa using hu)
def AnyIdx (b : Bool) (e : Ending) : Prop := ∃ r : Int, e = .returned (.int .i64 r) ∧ decide (0 ≤ r) = b
end Go.Proofs.Sky

namespace Go.Proofs.Sky
open Go Go.RowKit
/-! (for chapters that have no such lemma of their own) -/
theorem RdI.at {w : World} {v : Value} {zs : List Int} (h : RdI w v zs) (h0 : 0 < zs.length) : ∃ b off c, v = .slice (some ⟨b, off, none⟩) zs.length c ∧ b < w.heap.size ∧ ∀ i, i < zs.length → w.cell? ⟨b, off + i, none⟩ = some (.int .i64 (zs.getD i 0)) := by
  obtain ⟨_, a, c, rfl, h4⟩ := h
  rcases h4 with rfl | ⟨b, off, rfl, h6, h7⟩
  · simp at h0
  · exact ⟨b, off, c, rfl, h6, h7⟩
theorem RdS.at {w : World} {v : Value} {ps : List (Int × Int)} (h : RdS w v ps) (h0 : 0 < ps.length) : ∃ b off c, v = .slice (some ⟨b, off, none⟩) ps.length c ∧ b < w.heap.size ∧ ∀ i, i < ps.length → w.cell? ⟨b, off + i * 2, none⟩ = some (.int .i64 (ps.getD i (0, 0)).1) ∧ w.cell? ⟨b, off + i * 2 + 1, none⟩ = some (.int .i64 (ps.getD i (0, 0)).2) := by
  obtain ⟨_, a, c, rfl, h4⟩ := h
  rcases h4 with rfl | ⟨b, off, rfl, h6, h7⟩
  · simp at h0
  · exact ⟨b, off, c, rfl, h6, h7⟩
end Go.Proofs.Sky

namespace Go.Proofs.Sky
def rnd (x : Int) (s : Nat) : Int := if x < 0 then -((2 ^ s / 2 - x) / 2 ^ s) else (x + 2 ^ s / 2) / 2 ^ s
def gq (b : Int) : Int := 2 ^ (b.toNat - 1) - 1
def clampI (x q : Int) : Int := min (max x (-q)) q
def okG (b s : Int) : Bool := decide (2 ≤ b ∧ b ≤ 8 ∧ 0 ≤ s ∧ s ≤ 30)
theorem okG_iff (b s : Int) : okG b s = true ↔ (2 ≤ b ∧ b ≤ 8 ∧ 0 ≤ s ∧ s ≤ 30) := by simp [okG]
theorem okG_not (b s : Int) (h : ¬ (2 ≤ b ∧ b ≤ 8 ∧ 0 ≤ s ∧ s ≤ 30)) : okG b s = false := by simp only [okG, decide_eq_false_iff_not]; exact h
theorem pow_pos' (s : Nat) : (1 : Int) ≤ 2 ^ s := by
  have : (0:Int) < 2 ^ s := Int.pow_pos (by decide)
  omega
theorem pow_le (s n : Nat) (h : s ≤ n) : (2 : Int) ^ s ≤ 2 ^ n := by
  have := Nat.pow_le_pow_right (n := 2) (by decide) h
  exact_mod_cast this
theorem pow30 (s : Nat) (h : s ≤ 30) : (1 : Int) ≤ 2 ^ s ∧ (2 : Int) ^ s ≤ 1073741824 := ⟨pow_pos' s, by have := pow_le s 30 h; simpa using this⟩
theorem gq_bd (b : Int) (h : 2 ≤ b) (h' : b ≤ 8) : 1 ≤ gq b ∧ gq b ≤ 127 := by
  unfold gq
  have h1 := pow_le 1 (b.toNat - 1) (by omega)
  have h2 := pow_le (b.toNat - 1) 7 (by omega)
  simp at h1 h2
  omega
theorem rnd_zero (x : Int) : rnd x 0 = x := by
  unfold rnd
  split <;> simp
theorem rnd_neg (x : Int) (s : Nat) : rnd (-x) s = - rnd x s := by
  unfold rnd
  by_cases h0 : x = 0
  · subst h0
    have h1 := pow_pos' s
    have : (2:Int) ^ s / 2 / 2 ^ s = 0 := Int.ediv_eq_zero_of_lt (by omega) (by omega)
    simp [this]
  · by_cases h : x < 0
    · rw [if_neg (by omega), if_pos h]
      have : -x + 2 ^ s / 2 = 2 ^ s / 2 - x := by omega
      rw [this]; omega
    · rw [if_pos (by omega), if_neg h]
      have : x + 2 ^ s / 2 = 2 ^ s / 2 - -x := by omega
      rw [this]
theorem rnd_pos (x : Int) (s : Nat) (h : 0 ≤ x) : 0 ≤ rnd x s := by
  unfold rnd
  have h1 := pow_pos' s
  rw [if_neg (by omega)]
  exact Int.ediv_nonneg (by omega) (by omega)
theorem rnd_le (x : Int) (s : Nat) (h : 0 ≤ x) : rnd x s ≤ x := by
  unfold rnd
  have h1 := pow_pos' s
  rw [if_neg (by omega)]
  by_cases hs : (2:Int) ^ s = 1
  · rw [hs]; simp
  · by_cases hx : x = 0
    · subst hx
      rw [Int.ediv_eq_zero_of_lt (by omega) (by omega)]; omega
    · have h2 : (2:Int) ^ s / 2 ≤ x * (2 ^ s - 1) := by
        have : (1:Int) * (2 ^ s - 1) ≤ x * (2 ^ s - 1) := Int.mul_le_mul_of_nonneg_right (by omega) (by omega)
        omega
      have h3 : x + 2 ^ s / 2 ≤ x * 2 ^ s := by
        have : x * (2 ^ s - 1) = x * 2 ^ s - x := by rw [Int.mul_sub]; omega
        omega
      exact Int.ediv_le_of_le_mul (by omega) h3
theorem rnd_bd (x : Int) (s : Nat) (h1 : -70368744177664 ≤ x) (h2 : x ≤ 70368744177664) : -70368744177664 ≤ rnd x s ∧ rnd x s ≤ 70368744177664 := by
  by_cases h : 0 ≤ x
  · have := rnd_pos x s h
    have := rnd_le x s h
    omega
  · have h3 := rnd_neg (-x) s
    rw [Int.neg_neg] at h3
    have := rnd_pos (-x) s (by omega)
    have := rnd_le (-x) s (by omega)
    omega
/-- the reference's way to round -/
theorem rnd_ref (x : Int) (s : Nat) (h : 0 ≤ x) (hs : s ≠ 0) : (x + 2 ^ (s - 1)) / 2 ^ s = rnd x s := by
  unfold rnd
  rw [if_neg (by omega)]
  obtain ⟨k, rfl⟩ : ∃ k, s = k + 1 := ⟨s - 1, by omega⟩
  have : (2:Int) ^ (k + 1) / 2 = 2 ^ k := by rw [Int.pow_succ]; omega
  rw [this]; rfl
theorem clampI_ite (r q : Int) (h : 0 ≤ q) : clampI r q = if r < -q then -q else if q < r then q else r := by
  unfold clampI
  split
  · omega
  · split <;> omega
def errG (b s : Int) : Int := if okG b s then 0 else 2
theorem errG_ok (b s : Int) (h : 2 ≤ b ∧ b ≤ 8 ∧ 0 ≤ s ∧ s ≤ 30) : errG b s = 0 := by unfold errG; rw [(okG_iff b s).2 h]; rfl
theorem errG_no (b s : Int) (h : ¬ (2 ≤ b ∧ b ≤ 8 ∧ 0 ≤ s ∧ s ≤ 30)) : errG b s = 2 := by unfold errG; rw [okG_not b s h]; rfl
end Go.Proofs.Sky

namespace Go.Proofs.Sky
/-! chapter 25, plain -/
def fk (a n u c : Int) : Prop := 0 ≤ a ∧ a ≤ 4000 ∧ 1 ≤ n ∧ n ≤ 40 ∧ a + n ≤ 4000 ∧ 1 ≤ u ∧ u ≤ 1000000 ∧ -1000000000000000 ≤ c ∧ c ≤ 1000000000000000
def lowR (n : Int) (g : Bool) : Int := if g then -(2 ^ (n.toNat - 1)) else 0
def highR (n : Int) (g : Bool) : Int := if g then 2 ^ (n.toNat - 1) - 1 else 2 ^ n.toNat - 1
theorem pow40 (s : Nat) (h : s ≤ 40) : (1 : Int) ≤ 2 ^ s ∧ (2 : Int) ^ s ≤ 1099511627776 := ⟨pow_pos' s, by have := pow_le s 40 h; simpa using this⟩
theorem pow_pred (n : Int) (h : 1 ≤ n) : (2 : Int) ^ n.toNat = 2 * 2 ^ (n.toNat - 1) := by
  obtain ⟨k, hk⟩ : ∃ k, n.toNat = k + 1 := ⟨n.toNat - 1, by omega⟩
  rw [hk, Int.pow_succ]; simp; omega
theorem lowR_bd (n : Int) (g : Bool) (h1 : 1 ≤ n) (h2 : n ≤ 40) : -1099511627776 ≤ lowR n g ∧ lowR n g ≤ 0 := by
  have ⟨p1, p2⟩ := pow40 (n.toNat - 1) (by omega)
  unfold lowR; split <;> omega
theorem highR_bd (n : Int) (g : Bool) (h1 : 1 ≤ n) (h2 : n ≤ 40) : 0 ≤ highR n g ∧ highR n g ≤ 1099511627776 := by
  have ⟨p1, p2⟩ := pow40 (n.toNat - 1) (by omega)
  have ⟨p3, p4⟩ := pow40 n.toNat (by omega)
  unfold highR; split <;> omega
/-- the raw number of a value, before the limits -/
def rawN (d u : Int) : Int := if d < 0 then -((2 * -d + u) / (2 * u)) else (2 * d + u) / (2 * u)
theorem div2 (q r u : Int) (hu : 1 ≤ u) (h0 : 0 ≤ r) (h1 : r < u) : (2 * (u * q + r) + u) / (2 * u) = q + if u ≤ 2 * r then 1 else 0 := by
  have e : 2 * (u * q + r) + u = (2 * r + u) + (2 * u) * q := by
    rw [Int.mul_add, ← Int.mul_assoc]; omega
  rw [e, Int.add_mul_ediv_left _ _ (by omega)]
  split
  · have : (2 * r + u) / (2 * u) = 1 := by
      have h3 : (2 * r + u) = (2 * r - u) + 2 * u * 1 := by omega
      rw [h3, Int.add_mul_ediv_left _ _ (by omega), Int.ediv_eq_zero_of_lt (by omega) (by omega)]; rfl
    omega
  · have : (2 * r + u) / (2 * u) = 0 := Int.ediv_eq_zero_of_lt (by omega) (by omega)
    omega
theorem rawN_pos (d u : Int) (hu : 1 ≤ u) (hd : 0 ≤ d) : rawN d u = d / u + if u ≤ 2 * (d % u) then 1 else 0 := by
  unfold rawN; rw [if_neg (by omega)]
  have h := Int.mul_ediv_add_emod d u
  have := div2 (d / u) (d % u) u hu (Int.emod_nonneg _ (by omega)) (Int.emod_lt_of_pos _ (by omega))
  rw [h] at this; exact this
theorem rawN_neg (d u : Int) (hu : 1 ≤ u) (hd : d < 0) : rawN d u = -(-d / u + if u ≤ 2 * (-d % u) then 1 else 0) := by
  have := rawN_pos (-d) u hu (by omega)
  unfold rawN at this ⊢; rw [if_neg (by omega)] at this; rw [if_pos hd, this]
/-- distance: twice the remainder is at most the unit -/
theorem rawN_near (d u : Int) (hu : 1 ≤ u) : 2 * (rawN d u * u - d) ≤ u ∧ 2 * (d - rawN d u * u) ≤ u := by
  by_cases hd : d < 0
  · rw [rawN_neg d u hu hd]
    have h := Int.mul_ediv_add_emod (-d) u
    have h1 := Int.emod_nonneg (-d) (show u ≠ 0 by omega)
    have h2 := Int.emod_lt_of_pos (-d) (show 0 < u by omega)
    rw [Int.neg_mul, Int.add_mul, Int.mul_comm (-d / u) u]
    split <;> omega
  · rw [rawN_pos d u hu (by omega)]
    have h := Int.mul_ediv_add_emod d u
    have h1 := Int.emod_nonneg d (show u ≠ 0 by omega)
    have h2 := Int.emod_lt_of_pos d (show 0 < u by omega)
    rw [Int.add_mul, Int.mul_comm (d / u) u]
    split <;> omega
def inV (v : Int) : Bool := decide (-2000000000000000000 ≤ v ∧ v ≤ 2000000000000000000)
def rawV (u c v : Int) : Int := if inV v then rawN (v - c) u else 0
def rawB (n : Int) (g : Bool) (u c v : Int) : Bool := inV v && decide (lowR n g ≤ rawN (v - c) u ∧ rawN (v - c) u ≤ highR n g)
/-- the bit of a number at a shift -/
def bitN (x : Int) (s : Nat) : Int := x / 2 ^ s % 2
theorem bitN_01 (x : Int) (s : Nat) : bitN x s = 0 ∨ bitN x s = 1 := by unfold bitN; omega
/-- the list with a raw number in the places of the first k bits (of n) from a on -/
def putL (zs : List Int) (a n : Nat) (x : Int) : Nat → List Int
  | 0 => zs
  | k + 1 => (putL zs a n x k).set (a + k) (bitN x (n - 1 - k))
theorem putL_length (zs : List Int) (a n : Nat) (x : Int) (k : Nat) : (putL zs a n x k).length = zs.length := by
  induction k with
  | zero => rfl
  | succ k ih => simp [putL, ih]
theorem putL_get (zs : List Int) (a n : Nat) (x : Int) (k : Nat) (i : Nat) (h : a + k ≤ zs.length) : (putL zs a n x k).getD i 0 = if a ≤ i ∧ i < a + k then bitN x (n - 1 - (i - a)) else zs.getD i 0 := by
  induction k with
  | zero => rw [if_neg (by omega)]; rfl
  | succ k ih =>
    have ih := ih (by omega)
    simp only [putL, List.getD_eq_getElem?_getD] at ih ⊢
    rw [List.getElem?_set]
    by_cases e : a + k = i
    · subst e
      rw [if_pos rfl, if_pos (by rw [putL_length]; omega), if_pos (by omega)]
      simp
    · rw [if_neg e, ih]
      by_cases h2 : a ≤ i ∧ i < a + k
      · rw [if_pos h2, if_pos (by omega)]
      · rw [if_neg h2, if_neg (by omega)]
/-- the number in the first k places from a on -/
def getN (zs : List Int) (a : Nat) : Nat → Int
  | 0 => 0
  | k + 1 => 2 * getN zs a k + zs.getD (a + k) 0
theorem getN_bd (zs : List Int) (a k : Nat) (h : ∀ i, i < k → zs.getD (a + i) 0 = 0 ∨ zs.getD (a + i) 0 = 1) : 0 ≤ getN zs a k ∧ getN zs a k < 2 ^ k := by
  induction k with
  | zero => simp [getN]
  | succ k ih =>
    have := ih (fun i hi => h i (by omega))
    have h2 := h k (by omega)
    rw [getN, Int.pow_succ]; omega
def sgn (n : Int) (g : Bool) (m : Int) : Int := if highR n g < m then m - 2 ^ n.toNat else m
def oksP (zs : List Int) (a n : Nat) : Bool := (List.range n).all fun i => zs.getD (a + i) 0 == 0 || zs.getD (a + i) 0 == 1
theorem oksP_iff (zs : List Int) (a n : Nat) : oksP zs a n = true ↔ ∀ i, i < n → zs.getD (a + i) 0 = 0 ∨ zs.getD (a + i) 0 = 1 := by
  unfold oksP; simp [List.all_eq_true]
theorem oksP_not (zs : List Int) (a n i : Nat) (hi : i < n) (h0 : zs.getD (a + i) 0 ≠ 0) (h1 : zs.getD (a + i) 0 ≠ 1) : oksP zs a n = false := by
  cases h : oksP zs a n with
  | false => rfl
  | true => have := (oksP_iff zs a n).1 h i hi; omega
end Go.Proofs.Sky

namespace Go.Proofs.Sky
structure Fd where
  a : Int
  n : Int
  g : Bool
  u : Int
  c : Int
deriving instance Inhabited for Fd
def okF (a n u c : Int) : Bool := decide (0 ≤ a ∧ a ≤ 4000 ∧ 1 ≤ n ∧ n ≤ 40 ∧ a + n ≤ 4000 ∧ 1 ≤ u ∧ u ≤ 1000000 ∧ -1000000000000000 ≤ c ∧ c ≤ 1000000000000000)
def errF (a n u c : Int) : Int := if okF a n u c then 0 else 2
theorem errF_ok {a n u c : Int} (h : fk a n u c) : errF a n u c = 0 := by unfold fk at h; unfold errF okF; rw [if_pos (by simpa using h)]
theorem errF_no {a n u c : Int} (h : ¬ fk a n u c) : errF a n u c = 2 := by unfold fk at h; unfold errF okF; rw [if_neg (by simpa using h)]
/-- is a place taken by one of the fields? -/
def tk (pre : List Fd) (p : Int) : Bool := pre.any fun h => decide (h.a ≤ p ∧ p < h.a + h.n)
theorem tk_snoc (pre : List Fd) (f : Fd) (p : Int) : tk (pre ++ [f]) p = (tk pre p || decide (f.a ≤ p ∧ p < f.a + f.n)) := by simp [tk]
def dbl (pre : List Fd) (f : Fd) : Bool := (List.range f.n.toNat).any fun y => tk pre (f.a + (y : Int))
theorem dbl_yes (pre : List Fd) (f : Fd) (y : Nat) (hy : y < f.n.toNat) (h : tk pre (f.a + (y : Int)) = true) : dbl pre f = true := List.any_eq_true.2 ⟨y, List.mem_range.2 hy, h⟩
theorem dbl_no (pre : List Fd) (f : Fd) (h : ∀ y, y < f.n.toNat → tk pre (f.a + (y : Int)) = false) : dbl pre f = false := by
  unfold dbl; rw [List.any_eq_false]; intro y hy; simp [h y (List.mem_range.1 hy)]
def layE (pre : List Fd) (f : Fd) (b : Int) : Int := if errF f.a f.n f.u f.c = 0 then (if b < f.a + f.n then 16 else if dbl pre f then 8 else 0) else 2
def lay (b : Int) : List Fd → List Fd → Int × Int
  | _, [] => (0, 0)
  | pre, f :: r => if layE pre f b = 0 then lay b (pre ++ [f]) r else (layE pre f b, pre.length)
def layout (fs : List Fd) (b : Int) : Int × Int := if 100 < fs.length then (4, 100) else lay b [] fs
theorem lay_step (b : Int) (fs : List Fd) (k : Nat) (f : Fd) (hf : fs[k]? = some f) : lay b (fs.take k) (fs.drop k) = if layE (fs.take k) f b = 0 then lay b (fs.take (k + 1)) (fs.drop (k + 1)) else (layE (fs.take k) f b, (k : Int)) := by
  obtain ⟨hk, rfl⟩ := List.getElem?_eq_some_iff.1 hf
  rw [List.drop_eq_getElem_cons hk, lay, List.take_succ_eq_append_getElem hk, List.length_take, Nat.min_eq_left (by omega)]
end Go.Proofs.Sky
