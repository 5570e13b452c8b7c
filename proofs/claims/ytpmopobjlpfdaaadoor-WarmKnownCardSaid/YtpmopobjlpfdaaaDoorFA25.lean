/-
  lemmas for the theorems of this claim. No conditions beyond those written in the statements.
-/
import Derived.Test.YtpmopobjlpfdaaaDoorBlkC
import Derived.Test.YtpmopobjlpfdaaaDoorM25
import Derived.ArgAppend
import Derived.Deep.DeepAppendRoom
import Derived.Test.YtpmopobjlpfdaaaDoorR25
set_option linter.unusedVariables false
set_option linter.unusedSimpArgs false
set_option linter.unnecessarySimpa false
namespace Go.Proofs.Sky
open Go Go.RowKit Go.Shelf
set_option maxHeartbeats 2000000
/-! pairs appended (the program-free part of chapter 30's lemmas; not for chapter 30 itself) -/
theorem wp_append_pair {P : Program} {o : Oper} {a : Act} {w : World} {K : Act → World → Prop} {Q : Exit → Act → World → Prop} (s x : Operand) (t : TypeId)
    (ho : o.op = .call { callee := .builtin .append, args := #[s, x], argTypes := #[t, t] }) (dst : Option Tmp) (hd : o.dst = dst)
    (base : Nat) (e : TypeId) (ht : P.underlying t = some (.slice e)) (hi : (P.info? e).map (fun i => (i.zero, i.size, i.bytes)) = some (some (.agg #[.int .i64 0, .int .i64 0]), 2, 16))
    (v : Value) (ps : List (Int × Int)) (p1 p2 : Int) (hs : a.eval s = v) (hown : w.ownsRow base e 2 v ps.length (flat ps))
    (b : Nat) (hx : a.eval x = .slice (some ⟨b, 0, none⟩) 1 1) (hr0 : w.cell? ⟨b, 0, none⟩ = some (.int .i64 p1)) (hr1 : w.cell? ⟨b, 1, none⟩ = some (.int .i64 p2))
    (hn : ps.length + 1 ≤ 1000000000) (hbase : base ≤ w.heap.size)
    (h : ∀ v' w', w'.ownsRow base e 2 v' (ps ++ [(p1, p2)]).length (flat (ps ++ [(p1, p2)])) → w.grownBy w' v.ownBlock → K (a.put dst v') w') : o.wp P a w K Q := by
  subst hd
  obtain ⟨i, hi, hzz⟩ := Option.map_eq_some_iff.1 hi
  simp only [Prod.mk.injEq] at hzz
  obtain ⟨hz0, hz1, hz2⟩ := hzz
  refine wp_append_own w s x t ho base e i _ 2 16 ht hi hz0 hz1 hz2 rfl (by decide) v ps.length (flat ps) hs hown ⟨b, 0, none⟩ 1 1 [.int .i64 p1, .int .i64 p2] hx rfl (fun j u hu => ?_) (fun u hu => ?_) (by unfold maxLen; omega) (by omega) hbase (fun v' w' h2 h3 _ => h v' w' ?_ h3)
  · match j, hu with
    | 0, hu => simp at hu; subst hu; simpa [Addr.add] using hr0
    | 1, hu => simp at hu; subst hu; simpa [Addr.add] using hr1
  · simp at hu; rcases hu with rfl | rfl <;> rfl
  · rw [flat_append, flat_cons, flat_nil, List.length_append]; exact h2
theorem own_rdS2 {w : World} {base : Nat} {e : TypeId} {v : Value} {ps : List (Int × Int)} (h : w.ownsRow base e 2 v ps.length (flat ps)) (hn : ps.length ≤ 9223372036854775807) : RdS w v ps ∧ Fresh base v := by
  have h' := h
  rcases h'.2 with ⟨rfl, h2⟩ | ⟨g, cap, cur, rfl, hg, _⟩
  · obtain rfl : ps = [] := List.length_eq_zero_iff.1 h2
    exact ⟨RdS.nil w, Fresh.nil _ _ _⟩
  · exact ⟨own_rdS h hn, Fresh.at hg⟩
theorem own_down {w : World} {base base' : Nat} {e : TypeId} {k : Nat} {v : Value} {n : Nat} {xs : List Value} (h : w.ownsRow base' e k v n xs) (hb : base ≤ base') : w.ownsRow base e k v n xs := by
  obtain ⟨h1, h2⟩ := h
  refine ⟨h1, ?_⟩
  rcases h2 with h2 | ⟨g, cap, cur, hv, hg0, r⟩
  · exact .inl h2
  · exact .inr ⟨g, cap, cur, hv, Nat.le_trans hb hg0, r⟩
def Apart (v u : Value) : Prop := ∀ g, v.ownBlock = some g → u.ownBlock ≠ some g
theorem wpList_append_pair_beside {P : Program} {ops : Array Oper} {rest : List Oper} {o : Oper} {a : Act} {w : World} {Q : Exit → Act → World → Prop} (hgd : o.guard = none) (s x : Operand) (t : TypeId)
    (ho : o.op = .call { callee := .builtin .append, args := #[s, x], argTypes := #[t, t] })
    (base : Nat) (e : TypeId) (ht : P.underlying t = some (.slice e)) (hi : (P.info? e).map (fun i => (i.zero, i.size, i.bytes)) = some (some (.agg #[.int .i64 0, .int .i64 0]), 2, 16))
    (v : Value) (ps : List (Int × Int)) (p1 p2 : Int) (hs : a.eval s = v) (hown : w.ownsRow base e 2 v ps.length (flat ps))
    (b : Nat) (hx : a.eval x = .slice (some ⟨b, 0, none⟩) 1 1) (hr0 : w.cell? ⟨b, 0, none⟩ = some (.int .i64 p1)) (hr1 : w.cell? ⟨b, 1, none⟩ = some (.int .i64 p2))
    (hn : ps.length + 1 ≤ 1000000000) (hbase : base ≤ w.heap.size)
    {e2 : TypeId} {k2 n2 : Nat} {u : Value} {xs2 : List Value} (hown2 : w.ownsRow base e2 k2 u n2 xs2) (hne : Apart v u)
    (h : ∀ v' w', w'.ownsRow base e 2 v' (ps ++ [(p1, p2)]).length (flat (ps ++ [(p1, p2)])) → w.grownBy w' v.ownBlock → w'.ownsRow base e2 k2 u n2 xs2 → Apart v' u → wpList P ops Q rest (a.put o.dst v') w') : wpList P ops Q (o :: rest) a w := by
  obtain ⟨i, hi, hzz⟩ := Option.map_eq_some_iff.1 hi
  simp only [Prod.mk.injEq] at hzz
  obtain ⟨hz0, hz1, hz2⟩ := hzz
  have hnews : ∀ (j : Nat) (u : Value), ([Value.int .i64 p1, Value.int .i64 p2] : List Value)[j]? = some u → w.cell? ((⟨b, 0, none⟩ : Addr).add j) = some u := fun j u hu => by
    match j, hu with
    | 0, hu => simp at hu; subst hu; simpa [Addr.add] using hr0
    | 1, hu => simp at hu; subst hu; simpa [Addr.add] using hr1
  have h1c : ∀ u ∈ ([Value.int .i64 p1, Value.int .i64 p2] : List Value), u.oneCell' = true := fun u hu => by
    simp at hu; rcases hu with rfl | rfl <;> rfl
  have hfl : flat (ps ++ [(p1, p2)]) = flat ps ++ [Value.int .i64 p1, Value.int .i64 p2] := by rw [flat_append, flat_cons, flat_nil]
  have hlen : (ps ++ [(p1, p2)]).length = ps.length + 1 := by simp
  rw [hfl, hlen] at h
  have fresh : ∀ v' w', w'.ownsRow w.heap.size e 2 v' (ps.length + 1) (flat ps ++ [Value.int .i64 p1, Value.int .i64 p2]) → w.grownBy w' none → wpList P ops Q rest (a.put o.dst v') w' := fun v' w' q1 q2 => by
    have q3 := hown2.kept q2 (by cases u.ownBlock <;> simp)
    refine h v' w' (own_down q1 hbase) ⟨q2.os, q2.tape, q2.output, q2.size, fun i hi _ => q2.block i hi (by simp)⟩ q3 (fun g hg hu => ?_)
    have a1 := q1.lt g hg
    have a2 := hown2.lt g hu
    omega
  rcases hown.2 with ⟨rfl, hp0⟩ | ⟨g, cap, cur, rfl, hbg, hgg, hnc, hcm, hcs, htake⟩
  · refine wpList_append_grows w hgd s x t ho e i _ 2 16 ht hi hz0 hz1 hz2 rfl (by decide) none ps.length 0 (flat ps) (by rw [hs, hp0]) (fun _ => ⟨hp0, rfl⟩) hown.1 (fun b e => by cases e) ⟨b, 0, none⟩ 1 1 _ hx rfl hnews h1c (by omega) (by unfold maxLen; omega) (by omega) fresh
  · by_cases hroom : ps.length + 1 ≤ cap
    · refine wpList_append_own_spare w hgd s x t ho base e i 2 ht hi hz1 g ps.length cap (flat ps) hs hown ⟨b, 0, none⟩ 1 1 _ hx rfl hnews h1c hroom (fun w' q1 q2 => ?_)
      refine h _ w' q1 (by simpa [Value.ownBlock] using q2) (hown2.kept q2 (.inr (hne g (by simp [Value.ownBlock])))) (fun g' hg' => hne g' (by simpa [Value.ownBlock] using hg'))
    · refine wpList_append_grows w hgd s x t ho e i _ 2 16 ht hi hz0 hz1 hz2 rfl (by decide) (some ⟨g, 0, none⟩) ps.length cap (flat ps) hs (fun e => by cases e) hown.1 (fun b e => by cases e; exact hown.cells (g := g) (by simp [Value.ownBlock])) ⟨b, 0, none⟩ 1 1 _ hx rfl hnews h1c (by omega) (by unfold maxLen; omega) (by omega) fresh
theorem RdI.grown {w w' : World} {v : Value} {zs : List Int} (h : RdI w v zs) {base : Nat} (hf : Fresh base v) {row : Option Nat} (hg : w.grownBy w' row) (hr : ∀ j, row = some j → j < base) : RdI w' v zs := by
  obtain ⟨h2, a, cap, rfl, h4⟩ := h
  refine ⟨h2, a, cap, rfl, ?_⟩
  rcases h4 with h4 | ⟨b', off, rfl, h6, h7⟩
  · exact .inl h4
  · have := hf b' rfl
    exact .inr ⟨b', off, rfl, Nat.lt_of_lt_of_le h6 hg.size, fun i hi => by rw [World.cell?_of_block (hg.block b' h6 (fun e => by have := hr b' e.symm; omega))]; exact h7 i hi⟩
end Go.Proofs.Sky

namespace Go.Proofs.Sky
open Go Go.RowKit Go.Shelf
set_option maxHeartbeats 2000000
/-! rows of fields of the call's own -/
def fcs (f : Fd) : List Value := [.int .i64 f.a, .int .i64 f.n, .bool f.g, .int .i64 f.u, .int .i64 f.c]
def flatF (fs : List Fd) : List Value := fs.flatMap fcs
theorem flatF_append (fs gs : List Fd) : flatF (fs ++ gs) = flatF fs ++ flatF gs := by simp [flatF]
theorem flatF_one (f : Fd) : flatF [f] = fcs f := by simp [flatF]
theorem flatF_len (fs : List Fd) : (flatF fs).length = fs.length * 5 := by
  induction fs with
  | nil => rfl
  | cons f r ih => rw [show flatF (f :: r) = fcs f ++ flatF r from rfl, List.length_append, ih, List.length_cons]; simp [fcs]; omega
theorem flatF_at (fs : List Fd) : ∀ (i : Nat) (f : Fd), fs[i]? = some f → ∀ j, j < 5 → (flatF fs)[i * 5 + j]? = (fcs f)[j]? := by
  induction fs with
  | nil => intro i f h; simp at h
  | cons g r ih =>
    intro i f h j hj
    rw [show flatF (g :: r) = fcs g ++ flatF r from rfl]
    cases i with
    | zero =>
      simp only [List.getElem?_cons_zero, Option.some.injEq] at h
      subst h
      rw [List.getElem?_append_left (by simp [fcs]; omega)]
      congr 1; omega
    | succ i =>
      rw [List.getElem?_cons_succ] at h
      rw [List.getElem?_append_right (by simp [fcs]; omega)]
      rw [← ih i f h j hj]
      congr 1; simp [fcs]; omega
theorem own_rdF {w : World} {base : Nat} {e : TypeId} {v : Value} {fs : List Fd} (h : w.ownsRow base e 5 v fs.length (flatF fs)) (hn : fs.length ≤ 9223372036854775807) : RdF w v fs ∧ Fresh base v := by
  have h' := h
  rcases h'.2 with ⟨rfl, h2⟩ | ⟨g, cap, cur, rfl, hg, hh, _⟩
  · obtain rfl : fs = [] := List.length_eq_zero_iff.1 h2
    exact ⟨⟨by simp, none, 0, rfl, .inl rfl⟩, Fresh.nil _ _ _⟩
  · refine ⟨⟨hn, some ⟨g, 0, none⟩, cap, rfl, .inr ⟨g, 0, rfl, (Array.getElem?_eq_some_iff.1 hh).1, fun i f hi => ?_⟩⟩, Fresh.at hg⟩
    have hil : i < fs.length := (List.getElem?_eq_some_iff.1 hi).1
    have hc := fun j (hj : j < 5) => h.cellAt (i * 5 + j) (by omega)
    have hf := flatF_at fs i f hi
    rw [Nat.zero_add]
    exact ⟨(hc 0 (by omega)).trans (hf 0 (by omega)), (hc 1 (by omega)).trans (hf 1 (by omega)), (hc 2 (by omega)).trans (hf 2 (by omega)), (hc 3 (by omega)).trans (hf 3 (by omega)), (hc 4 (by omega)).trans (hf 4 (by omega))⟩
theorem infoFld : (Tryd.prog.info? 92).map (fun i => (i.zero, i.size, i.bytes)) = some (some (.agg #[.int .i64 0, .int .i64 0, .bool false, .int .i64 0, .int .i64 0]), 5, 40) := by kernel_rfl
section
variable {ops : Array Oper} {rest : List Oper} {o : Oper} {a : Act} {w : World} {K : Act → World → Prop} {Q : Exit → Act → World → Prop}
theorem blk_news {w : World} {b : Nat} {T : TypeId} {f : Fd} (hb : Blk w b T (fcs f).toArray) : ∀ (j : Nat) (u : Value), (fcs f)[j]? = some u → w.cell? ((⟨b, 0, none⟩ : Addr).add j) = some u := fun j u hu => by
  have h := hb.cell (j := j) (v := u) (by simpa using hu)
  have e : (⟨b, 0, none⟩ : Addr).add j = ⟨b, j, none⟩ := by
    have h1 : ∀ off : Nat, (⟨b, off, none⟩ : Addr).add j = ⟨b, off + j, none⟩ := fun off => by simp [Addr.add]
    rw [h1, Nat.zero_add]
  rw [e]; exact h
theorem fcs_one (f : Fd) : ∀ u ∈ fcs f, u.oneCell' = true := fun u hu => by
  simp only [fcs, List.mem_cons, List.not_mem_nil, or_false] at hu
  rcases hu with rfl | rfl | rfl | rfl | rfl <;> rfl
theorem wpList_append_fld (hgd : o.guard = none) (s x : Operand) (t : TypeId)
    (ho : o.op = .call { callee := .builtin .append, args := #[s, x], argTypes := #[t, t] })
    (base : Nat) (ht : Tryd.prog.underlying t = some (.slice 92))
    (v : Value) (fs : List Fd) (f : Fd) (hs : a.eval s = v) (hown : w.ownsRow base 92 5 v fs.length (flatF fs))
    (b : Nat) (T : TypeId) (hx : a.eval x = .slice (some ⟨b, 0, none⟩) 1 1) (hb : Blk w b T (fcs f).toArray)
    (hn : fs.length + 1 ≤ 1000000) (hbase : base ≤ w.heap.size)
    (h : ∀ v' w', w'.ownsRow base 92 5 v' (fs ++ [f]).length (flatF (fs ++ [f])) → w.grownBy w' v.ownBlock → wpList Tryd.prog ops Q rest (a.put o.dst v') w') : wpList Tryd.prog ops Q (o :: rest) a w := by
  obtain ⟨i, hi, hzz⟩ := Option.map_eq_some_iff.1 infoFld
  simp only [Prod.mk.injEq] at hzz
  obtain ⟨hz0, hz1, hz2⟩ := hzz
  refine wpList_append_own w hgd s x t ho base 92 i _ 5 40 ht hi hz0 hz1 hz2 rfl (by decide) v fs.length (flatF fs) hs hown ⟨b, 0, none⟩ 1 1 (fcs f) hx rfl (blk_news hb) (fcs_one f) (by unfold maxLen; omega) (by omega) hbase (fun v' w' h2 h3 _ => h v' w' ?_ h3)
  rw [flatF_append, flatF_one, List.length_append]; exact h2
theorem wp_append_fld (s x : Operand) (t : TypeId)
    (ho : o.op = .call { callee := .builtin .append, args := #[s, x], argTypes := #[t, t] }) (dst : Option Tmp) (hd : o.dst = dst)
    (base : Nat) (ht : Tryd.prog.underlying t = some (.slice 92))
    (v : Value) (fs : List Fd) (f : Fd) (hs : a.eval s = v) (hown : w.ownsRow base 92 5 v fs.length (flatF fs))
    (b : Nat) (T : TypeId) (hx : a.eval x = .slice (some ⟨b, 0, none⟩) 1 1) (hb : Blk w b T (fcs f).toArray)
    (hn : fs.length + 1 ≤ 1000000) (hbase : base ≤ w.heap.size)
    (h : ∀ v' w', w'.ownsRow base 92 5 v' (fs ++ [f]).length (flatF (fs ++ [f])) → w.grownBy w' v.ownBlock → K (a.put dst v') w') : o.wp Tryd.prog a w K Q := by
  subst hd
  obtain ⟨i, hi, hzz⟩ := Option.map_eq_some_iff.1 infoFld
  simp only [Prod.mk.injEq] at hzz
  obtain ⟨hz0, hz1, hz2⟩ := hzz
  refine wp_append_own w s x t ho base 92 i _ 5 40 ht hi hz0 hz1 hz2 rfl (by decide) v fs.length (flatF fs) hs hown ⟨b, 0, none⟩ 1 1 (fcs f) hx rfl (blk_news hb) (fcs_one f) (by unfold maxLen; omega) (by omega) hbase (fun v' w' h2 h3 _ => h v' w' ?_ h3)
  rw [flatF_append, flatF_one, List.length_append]; exact h2
theorem wp_append_int9 (s x : Operand) (t : TypeId) (e : TypeId)
    (ho : o.op = .call { callee := .builtin .append, args := #[s, x], argTypes := #[t, t] }) (dst : Option Tmp) (hd : o.dst = dst)
    (base : Nat) (ht : Tryd.prog.underlying t = some (.slice e)) (hi : (Tryd.prog.info? e).map (fun i => (i.zero, i.size, i.bytes)) = some (some (.int .i64 0), 1, 8))
    (v : Value) (zs : List Int) (z : Int) (hs : a.eval s = v) (hown : w.ownsRow base e 1 v zs.length (zs.map (Value.int .i64)))
    (b : Nat) (hx : a.eval x = .slice (some ⟨b, 0, none⟩) 1 1) (hb : w.cell? ⟨b, 0, none⟩ = some (.int .i64 z))
    (hn : zs.length + 1 ≤ 1000000) (hbase : base ≤ w.heap.size)
    (h : ∀ v' w', w'.ownsRow base e 1 v' (zs ++ [z]).length ((zs ++ [z]).map (Value.int .i64)) → w.grownBy w' v.ownBlock → K (a.put dst v') w') : o.wp Tryd.prog a w K Q := by
  subst hd
  obtain ⟨i, hi, hzz⟩ := Option.map_eq_some_iff.1 hi
  simp only [Prod.mk.injEq] at hzz
  obtain ⟨hz0, hz1, hz2⟩ := hzz
  refine wp_append_own w s x t ho base e i _ 1 8 ht hi hz0 hz1 hz2 rfl (by decide) v zs.length (zs.map (Value.int .i64)) hs hown ⟨b, 0, none⟩ 1 1 [.int .i64 z] hx rfl (fun j u hu => ?_) (fun u hu => ?_) (by unfold maxLen; omega) (by omega) hbase (fun v' w' h2 h3 _ => h v' w' ?_ h3)
  · match j, hu with
    | 0, hu => simp at hu; subst hu; simpa [Addr.add] using hb
  · simp at hu; subst hu; rfl
  · rw [List.map_append, List.length_append]; exact h2
end
theorem Bw.grownN {a b c : World} {e : TypeId} {k : Nat} {v : Value} {m n : Nat} {xs : List Value} (hn : a.heap.size = n) (h : Bw a b) (ho : b.ownsRow n e k v m xs) (hg : b.grownBy c v.ownBlock) : Bw a c := by
  subst hn; exact Bw.grown h ho hg
theorem own_some {w : World} {base : Nat} {e : TypeId} {k : Nat} {v : Value} {n : Nat} {xs : List Value} (h : w.ownsRow base e k v n xs) (hn : 0 < n) : ∃ g cap, v = .slice (some ⟨g, 0, none⟩) n cap := by
  rcases h.2 with ⟨rfl, rfl⟩ | ⟨g, cap, cur, rfl, _⟩
  · omega
  · exact ⟨g, cap, rfl⟩
/-- a new row of its own with at least one element -/
def OwnP (ch : List Int) (base : Nat) (v : Value) (w' : World) : Prop := ∃ b cap, v = .slice (some ⟨b, 0, none⟩) ch.length cap ∧ w'.ownsRow base 3 1 (.slice (some ⟨b, 0, none⟩) ch.length cap) ch.length (ch.map (Value.int .i64))
theorem infoBool : (Tryd.prog.info? 4).map (fun i => (i.zero, i.size, i.bytes)) = some (some (.bool false), 1, 1) := by kernel_rfl
end Go.Proofs.Sky
