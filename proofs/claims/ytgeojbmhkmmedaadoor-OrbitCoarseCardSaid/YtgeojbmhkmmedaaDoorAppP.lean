/-
  lemmas for the theorems of this claim. No conditions beyond those written in the statements.
-/
import Derived.Test.YtgeojbmhkmmedaaDoorRdAt
import Derived.ArgAppend
import Derived.Deep.DeepAppendRoom
set_option linter.unusedVariables false
set_option linter.unusedSimpArgs false
set_option linter.unnecessarySimpa false
namespace Go.Proofs.Sky
open Go Go.RowKit Go.Shelf
set_option maxHeartbeats 2000000
/-! pairs appended (the program-free part of chapter 30's lemmas; not for chapter 30 itself) -/
theorem wp_append_pair {P : Program} {o : Oper} {a : Act} {w : World} {K : Act → World → Prop} {Q : Exit → Act → World → Prop} (s x : Operand) (t : TypeId)
    (ho : o.op = .call { callee := .builtin .append, args := #[s, x], argTypes := #[t, t] }) (dst : Option Tmp) (hd : o.dst = dst)
    (base : Nat) (e : TypeId) (ht : P.underlying t = some (.slice e)) (hi : (P.info? e).map (fun i => (i.zero, i.size, i.bytes)) = some (some (.agg #[.int .i64 0, .int .i64 0]), 2, 16))
    (v : Value) (ps : List (Int × Int)) (p1 p2 : Int) (hs : a.eval s = v) (hown : w.ownsRow base e 2 v ps.length (flat ps))
    (b : Nat) (hx : a.eval x = .slice (some ⟨b, 0, none⟩) 1 1) (hr0 : w.cell? ⟨b, 0, none⟩ = some (.int .i64 p1)) (hr1 : w.cell? ⟨b, 1, none⟩ = some (.int .i64 p2))
    (hn : ps.length + 1 ≤ 1000000000) (hbase : base ≤ w.heap.size)
    (h : ∀ v' w', w'.ownsRow base e 2 v' (ps ++ [(p1, p2)]).length (flat (ps ++ [(p1, p2)])) → w.grownBy w' v.ownBlock → K (a.put dst v') w') : o.wp P a w K Q := by
  subst hd
  obtain ⟨i, hi, hzz⟩ := Option.map_eq_some_iff.1 hi
  simp only [Prod.mk.injEq] at hzz
  obtain ⟨hz0, hz1, hz2⟩ := hzz
  refine wp_append_own w s x t ho base e i _ 2 16 ht hi hz0 hz1 hz2 rfl (by decide) v ps.length (flat ps) hs hown ⟨b, 0, none⟩ 1 1 [.int .i64 p1, .int .i64 p2] hx rfl (fun j u hu => ?_) (fun u hu => ?_) (by unfold maxLen; omega) (by omega) hbase (fun v' w' h2 h3 _ => h v' w' ?_ h3)
  · match j, hu with
    | 0, hu => simp at hu; subst hu; simpa [Addr.add] using hr0
    | 1, hu => simp at hu; subst hu; simpa [Addr.add] using hr1
  · simp at hu; rcases hu with rfl | rfl <;> rfl
  · rw [flat_append, flat_cons, flat_nil, List.length_append]; exact h2
theorem own_rdS2 {w : World} {base : Nat} {e : TypeId} {v : Value} {ps : List (Int × Int)} (h : w.ownsRow base e 2 v ps.length (flat ps)) (hn : ps.length ≤ 9223372036854775807) : RdS w v ps ∧ Fresh base v := by
  have h' := h
  rcases h'.2 with ⟨rfl, h2⟩ | ⟨g, cap, cur, rfl, hg, _⟩
  · obtain rfl : ps = [] := List.length_eq_zero_iff.1 h2
    exact ⟨RdS.nil w, Fresh.nil _ _ _⟩
  · exact ⟨own_rdS h hn, Fresh.at hg⟩
theorem own_down {w : World} {base base' : Nat} {e : TypeId} {k : Nat} {v : Value} {n : Nat} {xs : List Value} (h : w.ownsRow base' e k v n xs) (hb : base ≤ base') : w.ownsRow base e k v n xs := by
  obtain ⟨h1, h2⟩ := h
  refine ⟨h1, ?_⟩
  rcases h2 with h2 | ⟨g, cap, cur, hv, hg0, r⟩
  · exact .inl h2
  · exact .inr ⟨g, cap, cur, hv, Nat.le_trans hb hg0, r⟩
def Apart (v u : Value) : Prop := ∀ g, v.ownBlock = some g → u.ownBlock ≠ some g
theorem wpList_append_pair_beside {P : Program} {ops : Array Oper} {rest : List Oper} {o : Oper} {a : Act} {w : World} {Q : Exit → Act → World → Prop} (hgd : o.guard = none) (s x : Operand) (t : TypeId)
    (ho : o.op = .call { callee := .builtin .append, args := #[s, x], argTypes := #[t, t] })
    (base : Nat) (e : TypeId) (ht : P.underlying t = some (.slice e)) (hi : (P.info? e).map (fun i => (i.zero, i.size, i.bytes)) = some (some (.agg #[.int .i64 0, .int .i64 0]), 2, 16))
    (v : Value) (ps : List (Int × Int)) (p1 p2 : Int) (hs : a.eval s = v) (hown : w.ownsRow base e 2 v ps.length (flat ps))
    (b : Nat) (hx : a.eval x = .slice (some ⟨b, 0, none⟩) 1 1) (hr0 : w.cell? ⟨b, 0, none⟩ = some (.int .i64 p1)) (hr1 : w.cell? ⟨b, 1, none⟩ = some (.int .i64 p2))
    (hn : ps.length + 1 ≤ 1000000000) (hbase : base ≤ w.heap.size)
    {e2 : TypeId} {k2 n2 : Nat} {u : Value} {xs2 : List Value} (hown2 : w.ownsRow base e2 k2 u n2 xs2) (hne : Apart v u)
    (h : ∀ v' w', w'.ownsRow base e 2 v' (ps ++ [(p1, p2)]).length (flat (ps ++ [(p1, p2)])) → w.grownBy w' v.ownBlock → w'.ownsRow base e2 k2 u n2 xs2 → Apart v' u → wpList P ops Q rest (a.put o.dst v') w') : wpList P ops Q (o :: rest) a w := by
  obtain ⟨i, hi, hzz⟩ := Option.map_eq_some_iff.1 hi
  simp only [Prod.mk.injEq] at hzz
  obtain ⟨hz0, hz1, hz2⟩ := hzz
  have hnews : ∀ (j : Nat) (u : Value), ([Value.int .i64 p1, Value.int .i64 p2] : List Value)[j]? = some u → w.cell? ((⟨b, 0, none⟩ : Addr).add j) = some u := fun j u hu => by
    match j, hu with
    | 0, hu => simp at hu; subst hu; simpa [Addr.add] using hr0
    | 1, hu => simp at hu; subst hu; simpa [Addr.add] using hr1
  have h1c : ∀ u ∈ ([Value.int .i64 p1, Value.int .i64 p2] : List Value), u.oneCell' = true := fun u hu => by
    simp at hu; rcases hu with rfl | rfl <;> rfl
  have hfl : flat (ps ++ [(p1, p2)]) = flat ps ++ [Value.int .i64 p1, Value.int .i64 p2] := by rw [flat_append, flat_cons, flat_nil]
  have hlen : (ps ++ [(p1, p2)]).length = ps.length + 1 := by simp
  rw [hfl, hlen] at h
  have fresh : ∀ v' w', w'.ownsRow w.heap.size e 2 v' (ps.length + 1) (flat ps ++ [Value.int .i64 p1, Value.int .i64 p2]) → w.grownBy w' none → wpList P ops Q rest (a.put o.dst v') w' := fun v' w' q1 q2 => by
    have q3 := hown2.kept q2 (by cases u.ownBlock <;> simp)
    refine h v' w' (own_down q1 hbase) ⟨q2.os, q2.tape, q2.output, q2.size, fun i hi _ => q2.block i hi (by simp)⟩ q3 (fun g hg hu => ?_)
    have a1 := q1.lt g hg
    have a2 := hown2.lt g hu
    omega
  rcases hown.2 with ⟨rfl, hp0⟩ | ⟨g, cap, cur, rfl, hbg, hgg, hnc, hcm, hcs, htake⟩
  · refine wpList_append_grows w hgd s x t ho e i _ 2 16 ht hi hz0 hz1 hz2 rfl (by decide) none ps.length 0 (flat ps) (by rw [hs, hp0]) (fun _ => ⟨hp0, rfl⟩) hown.1 (fun b e => by cases e) ⟨b, 0, none⟩ 1 1 _ hx rfl hnews h1c (by omega) (by unfold maxLen; omega) (by omega) fresh
  · by_cases hroom : ps.length + 1 ≤ cap
    · refine wpList_append_own_spare w hgd s x t ho base e i 2 ht hi hz1 g ps.length cap (flat ps) hs hown ⟨b, 0, none⟩ 1 1 _ hx rfl hnews h1c hroom (fun w' q1 q2 => ?_)
      refine h _ w' q1 (by simpa [Value.ownBlock] using q2) (hown2.kept q2 (.inr (hne g (by simp [Value.ownBlock])))) (fun g' hg' => hne g' (by simpa [Value.ownBlock] using hg'))
    · refine wpList_append_grows w hgd s x t ho e i _ 2 16 ht hi hz0 hz1 hz2 rfl (by decide) (some ⟨g, 0, none⟩) ps.length cap (flat ps) hs (fun e => by cases e) hown.1 (fun b e => by cases e; exact hown.cells (g := g) (by simp [Value.ownBlock])) ⟨b, 0, none⟩ 1 1 _ hx rfl hnews h1c (by omega) (by unfold maxLen; omega) (by omega) fresh
theorem RdI.grown {w w' : World} {v : Value} {zs : List Int} (h : RdI w v zs) {base : Nat} (hf : Fresh base v) {row : Option Nat} (hg : w.grownBy w' row) (hr : ∀ j, row = some j → j < base) : RdI w' v zs := by
  obtain ⟨h2, a, cap, rfl, h4⟩ := h
  refine ⟨h2, a, cap, rfl, ?_⟩
  rcases h4 with h4 | ⟨b', off, rfl, h6, h7⟩
  · exact .inl h4
  · have := hf b' rfl
    exact .inr ⟨b', off, rfl, Nat.lt_of_lt_of_le h6 hg.size, fun i hi => by rw [World.cell?_of_block (hg.block b' h6 (fun e => by have := hr b' e.symm; omega))]; exact h7 i hi⟩
end Go.Proofs.Sky
