/-
  lemmas for the theorems of this claim. No conditions beyond those written in the statements.
-/
import Derived.Test.YtmndialneggbjaaPA21
import Derived.Test.YtmndialneggbjaaPB21
set_option linter.unusedVariables false
set_option linter.unusedSimpArgs false
set_option linter.unnecessarySimpa false
namespace Go.Proofs.Sky
open Go Go.RowKit Go.Shelf
theorem RdS.cells {w : World} {a : Addr} {c : Nat} {ps : List (Int × Int)} (h : RdS w (.slice (some a) ps.length c) ps) : ∀ j u, (flat ps)[j]? = some u → w.cell? (a.add j) = some u := by
  obtain ⟨_, a', c', e, h4⟩ := h
  injection e with e1 e2 e3
  subst e1
  intro j u hu
  obtain ⟨hj, _⟩ := List.getElem?_eq_some_iff.1 hu
  rw [flat_length] at hj
  rcases h4 with h4 | ⟨b, off, e, _, hc⟩
  · subst h4; simp at hj
  · injection e with e; subst e
    have hi : j / 2 < ps.length := by omega
    have hc := hc (j / 2) hi
    have hf := flat_at ps (j / 2) hi
    rw [show (⟨b, off, none⟩ : Addr).add j = ⟨b, off + j, none⟩ by simp [Addr.add]]
    rcases Nat.mod_two_eq_zero_or_one j with h0 | h0
    · rw [show j / 2 * 2 = j by omega] at hc hf
      rw [hf.1] at hu
      injection hu with hu
      rw [← hu]; exact hc.1
    · rw [show off + j / 2 * 2 + 1 = off + j by omega, show j / 2 * 2 + 1 = j by omega] at *
      rw [hf.2] at hu
      injection hu with hu
      rw [← hu]; exact hc.2
theorem flat_one (ps : List (Int × Int)) : ∀ u ∈ flat ps, u.oneCell' = true := by
  induction ps with
  | nil => intro u hu; simp [flat_nil] at hu
  | cons p ps ih =>
    intro u hu
    rw [flat_cons] at hu
    simp only [List.mem_cons] at hu
    rcases hu with rfl | rfl | hu
    · rfl
    · rfl
    · exact ih u hu
theorem wpList_append_prs {P : Program} {w : World} {ops : Array Oper} {rest : List Oper} {o : Oper} {a : Act} {Q : Exit → Act → World → Prop} (hgd : o.guard = none) (s x : Operand) (t : TypeId)
    (ho : o.op = .call { callee := .builtin .append, args := #[s, x], argTypes := #[t, t] })
    (base : Nat) (e : TypeId) (ht : P.underlying t = some (.slice e)) (hi : (P.info? e).map (fun i => (i.zero, i.size, i.bytes)) = some (some (.agg #[.int .i64 0, .int .i64 0]), 2, 16))
    (v : Value) (xs zs : List (Int × Int)) (hs : a.eval s = v) (hown : w.ownsRow base e 2 v xs.length (flat xs))
    (A : Option Addr) (m c : Nat) (hx : a.eval x = .slice A m c) (hr : RdS w (.slice A m c) zs)
    (hn : xs.length + zs.length ≤ 1000000000) (hbase : base ≤ w.heap.size)
    (h : ∀ v' w', w'.ownsRow base e 2 v' (xs ++ zs).length (flat (xs ++ zs)) → w.grownBy w' v.ownBlock → wpList P ops Q rest (a.put o.dst v') w') : wpList P ops Q (o :: rest) a w := by
  obtain ⟨i, hi, hzz⟩ := Option.map_eq_some_iff.1 hi
  simp only [Prod.mk.injEq] at hzz
  obtain ⟨hz0, hz1, hz2⟩ := hzz
  obtain rfl : m = zs.length := by obtain ⟨_, a', c', e, _⟩ := hr; injection e
  refine wpList_append_rd hgd s x t ho base e i (.agg #[.int .i64 0, .int .i64 0]) 2 16 ht hi hz0 hz1 hz2 rfl (by decide) v xs.length (flat xs) hs hown A zs.length c (flat zs) hx (by rw [flat_length]) ?_ ?_ (flat_one zs) (by unfold maxLen; omega) (by omega) hbase ?_
  · intro hA
    obtain ⟨_, a', c', e, h4⟩ := hr
    injection e with e1 e2 e3
    subst e1; subst hA
    rcases h4 with h4 | ⟨b, off, e, _⟩
    · simp [h4]
    · cases e
  · intro ad hA
    subst hA
    exact hr.cells
  · intro v' w' h2 h3
    exact h v' w' (by rw [flat_append, List.length_append]; exact h2) h3
theorem own0P {e : TypeId} (W : World) (n : Nat) (h : W.heap.size = n) : (W.alloc (.cells #[] e)).ownsRow n e 2 (.slice (some ⟨n, 0, none⟩) 0 0) ([] : List (Int × Int)).length (flat []) := by
  subst h
  exact World.ownsRow_lit W #[] 0 (Nat.le_refl _) (by unfold maxLen; omega) (by simp)
theorem parts_plain (n : Nat) (h1 : 1 ≤ n) (h2 : n ≤ 20) (A B : List (Int × Int)) (hA : ∀ a ∈ A, insP a = true) (hB : ∀ a ∈ B, insP a = true) (la : A.length ≤ 60) (lb : B.length ≤ 60) :
    ∃ c1 x1 y1 c2 x2 y2, feedR (List.replicate n 0) 0 (0, 0) A = ((c1, (A.length : Int), (x1, y1)), 0) ∧ feedR c1 A.length (x1, y1) B = ((c2, ((A.length + B.length : Nat) : Int), (x2, y2)), 0) ∧
      feedR (List.replicate n 0) 0 (0, 0) (A ++ B) = ((c2, ((A.length + B.length : Nat) : Int), (x2, y2)), 0) ∧ c1.length = n ∧ c2.length = n ∧ sumL c2 = cntTo (A ++ B) (A.length + B.length) ∧ (∀ x ∈ c2, 0 ≤ x) := by
  have e0 := errS_new n h1 h2
  obtain ⟨p1, p2, p3, p4⟩ := feedL_ok A (List.replicate n 0) 0 (0, 0) hA (by omega) e0
  rw [List.length_replicate] at p3
  obtain ⟨c1, hc1⟩ : ∃ c, c = (feedL (List.replicate n 0) 0 (0, 0) A).1.1 := ⟨_, rfl⟩
  obtain ⟨l1, hl1⟩ : ∃ c, c = (feedL (List.replicate n 0) 0 (0, 0) A).1.2.2 := ⟨_, rfl⟩
  have f1 : feedL (List.replicate n 0) 0 (0, 0) A = ((c1, (A.length : Int), l1), 0) := by
    rw [hc1, hl1]; refine Prod.ext (Prod.ext rfl (Prod.ext ?_ rfl)) ?_
    · simpa using p2
    · exact p1
  rw [f1] at p3 p4
  simp only at p3 p4
  obtain ⟨q1, q2, q3, q4⟩ := feedL_ok B c1 A.length l1 hB (by omega) p4
  obtain ⟨c2, hc2⟩ : ∃ c, c = (feedL c1 A.length l1 B).1.1 := ⟨_, rfl⟩
  obtain ⟨l2, hl2⟩ : ∃ c, c = (feedL c1 A.length l1 B).1.2.2 := ⟨_, rfl⟩
  have f2 : feedL c1 A.length l1 B = ((c2, ((A.length + B.length : Nat) : Int), l2), 0) := by
    rw [hc2, hl2]; refine Prod.ext (Prod.ext rfl (Prod.ext ?_ rfl)) ?_
    · show (feedL c1 A.length l1 B).1.2.1 = _
      rw [q2]; push_cast; rfl
    · exact q1
  rw [f2] at q3 q4
  simp only at q3 q4
  have f3 : feedL (List.replicate n 0) 0 (0, 0) (A ++ B) = ((c2, ((A.length + B.length : Nat) : Int), l2), 0) := by
    rw [feedL_append _ _ _ _ _ p1, f1]; exact f2
  have hs := feed_scan n h1 h2 (A ++ B) (fun a ha => (List.mem_append.1 ha).elim (hA a) (hB a)) (by rw [List.length_append]; omega) (A.length + B.length) (by rw [List.length_append]; omega)
  rw [List.take_of_length_le (by rw [List.length_append]; omega), f3] at hs
  obtain ⟨x1, y1⟩ := l1
  obtain ⟨x2, y2⟩ := l2
  refine ⟨c1, x1, y1, c2, x2, y2, ?_, ?_, ?_, p3, by rw [q3, p3], hs.2.2.2.2, (errS_parts q4).2.2.2.2.1⟩
  · rw [feedR_ok e0 (by omega), f1]
  · rw [feedR_ok p4 (by omega), f2]
  · rw [feedR_ok e0 (by rw [List.length_append]; omega), f3]
end Go.Proofs.Sky
