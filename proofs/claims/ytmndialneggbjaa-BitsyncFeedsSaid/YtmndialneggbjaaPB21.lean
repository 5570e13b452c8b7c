/-
  lemmas for the theorems of this claim. No conditions beyond those written in the statements.
-/
import Derived.Test.YtmndialneggbjaaP21
set_option linter.unusedVariables false
set_option linter.unusedSimpArgs false
set_option linter.unnecessarySimpa false
namespace Go.Proofs.Sky
/-! chapter 21, plain laws of feeding -/
theorem feedL_append (l : List (Int × Int)) : ∀ (m : List (Int × Int)) (ch : List Int) (seen : Int) (la : Int × Int), (feedL ch seen la l).2 = 0 →
    feedL ch seen la (l ++ m) = feedL (feedL ch seen la l).1.1 (feedL ch seen la l).1.2.1 (feedL ch seen la l).1.2.2 m := by
  induction l with
  | nil => intro m ch seen la h; rfl
  | cons a r ih =>
    intro m ch seen la h
    by_cases ha : addE seen a = 0
    · simp only [List.cons_append, feedL, if_pos ha] at h ⊢
      exact ih m _ _ _ h
    · simp only [feedL, if_neg ha] at h
      exact absurd h ha
theorem addE_in {seen : Int} {a : Int × Int} (h : insP a = true) (h2 : seen < 1000000) : addE seen a = 0 := by
  unfold addE; rw [if_neg (by omega), if_pos h]
theorem feedL_ok (l : List (Int × Int)) : ∀ (ch : List Int) (seen : Int) (la : Int × Int), (∀ a ∈ l, insP a = true) → seen + l.length ≤ 1000000 → errS ch seen la = 0 →
    (feedL ch seen la l).2 = 0 ∧ (feedL ch seen la l).1.2.1 = seen + l.length ∧ (feedL ch seen la l).1.1.length = ch.length ∧ errS (feedL ch seen la l).1.1 (feedL ch seen la l).1.2.1 (feedL ch seen la l).1.2.2 = 0 := by
  induction l with
  | nil => intro ch seen la _ _ h; exact ⟨rfl, by simp [feedL], rfl, h⟩
  | cons a r ih =>
    intro ch seen la h1 h2 h3
    simp only [List.length_cons] at h2
    have ha := addE_in (seen := seen) (h1 a (by simp)) (by omega)
    simp only [feedL, if_pos ha]
    obtain ⟨q1, q2, q3, q4⟩ := ih (chN ch seen la a) (seen + 1) a (fun x hx => h1 x (by simp [hx])) (by omega) (errS_step h3 ha)
    refine ⟨q1, by rw [q2, List.length_cons]; omega, by rw [q3, chN_len], q4⟩
theorem errS_new (n : Nat) (h1 : 1 ≤ n) (h2 : n ≤ 20) : errS (List.replicate n 0) 0 (0, 0) = 0 := by
  have hz : ∀ k : Nat, okLeft 0 (List.replicate k 0) = true := by
    intro k
    induction k with
    | zero => rfl
    | succ k ih => rw [List.replicate_succ]; simp only [okLeft]; simpa using ih
  unfold errS
  rw [if_neg (by simp [List.length_replicate]; refine ⟨by omega, by omega, by decide⟩), if_neg (by rw [hz]; simp), if_neg (by simp)]
theorem feedR_ok {ch : List Int} {seen : Int} {la : Int × Int} {l : List (Int × Int)} (h : errS ch seen la = 0) (hl : l.length ≤ 10000) : feedR ch seen la l = feedL ch seen la l := by
  unfold feedR; rw [if_neg (by simpa using h), if_neg (by omega)]
def cntTo (l : List (Int × Int)) : Nat → Nat
  | 0 => 0
  | i + 1 => cntTo l i + (if 1 ≤ i ∧ scl (l.getD (i - 1) (0, 0)) (l.getD i (0, 0)) < 0 then 1 else 0)
theorem cntTo_le (l : List (Int × Int)) (i : Nat) : cntTo l i ≤ i := by
  induction i with
  | zero => exact Nat.le_refl _
  | succ i ih => unfold cntTo; split <;> omega
theorem sumL_zero (n : Nat) : sumL (List.replicate n 0) = 0 := by
  induction n with
  | zero => rfl
  | succ n ih => rw [List.replicate_succ, sumL, ih]; rfl
theorem sumL_append (l m : List Int) : sumL (l ++ m) = sumL l + sumL m := by
  induction l with
  | nil => simp [sumL]
  | cons a l ih => simp only [List.cons_append, sumL, ih]; omega
theorem sumL_nonneg (l : List Int) (h : ∀ n ∈ l, 0 ≤ n) : 0 ≤ sumL l := by
  induction l with
  | nil => simp [sumL]
  | cons a l ih => have := h a (by simp); have := ih (fun n hn => h n (by simp [hn])); simp only [sumL]; omega
theorem sumL_take (l : List Int) (h : ∀ n ∈ l, 0 ≤ n) (k : Nat) : 0 ≤ sumL (l.take k) ∧ sumL (l.take k) ≤ sumL l := by
  have h1 := sumL_nonneg (l.take k) (fun n hn => h n (List.mem_of_mem_take hn))
  have h2 := sumL_nonneg (l.drop k) (fun n hn => h n (List.mem_of_mem_drop hn))
  have h3 := sumL_append (l.take k) (l.drop k)
  rw [List.take_append_drop] at h3
  omega
theorem sumL_succ (l : List Int) (k : Nat) (h : k < l.length) : sumL (l.take (k + 1)) = sumL (l.take k) + l.getD k 0 := by
  rw [List.take_add_one, sumL_append, List.getD_eq_getElem?_getD, List.getElem?_eq_getElem h]
  simp [sumL]
theorem feed_scan (n : Nat) (h1 : 1 ≤ n) (h2 : n ≤ 20) (l : List (Int × Int)) (hin : ∀ a ∈ l, insP a = true) (hlen : l.length ≤ 1000000) : ∀ i, i ≤ l.length →
    (feedL (List.replicate n 0) 0 (0, 0) (l.take i)).2 = 0 ∧ (feedL (List.replicate n 0) 0 (0, 0) (l.take i)).1.2.1 = i ∧ (feedL (List.replicate n 0) 0 (0, 0) (l.take i)).1.1.length = n ∧
    (feedL (List.replicate n 0) 0 (0, 0) (l.take i)).1.2.2 = (if i = 0 then (0, 0) else l.getD (i - 1) (0, 0)) ∧ sumL (feedL (List.replicate n 0) 0 (0, 0) (l.take i)).1.1 = cntTo l i := by
  intro i
  induction i with
  | zero => intro _; exact ⟨rfl, rfl, by simp [feedL], rfl, by simp [feedL, sumL_zero, cntTo]⟩
  | succ i ih =>
    intro hi
    obtain ⟨q1, q2, q3, q4, q5⟩ := ih (by omega)
    have hil : i < l.length := by omega
    have hga : l.getD i (0, 0) = l[i] := by rw [List.getD_eq_getElem?_getD, List.getElem?_eq_getElem hil]; rfl
    have hT : l.take (i + 1) = l.take i ++ [l.getD i (0, 0)] := by
      rw [List.take_add_one, List.getElem?_eq_getElem hil, hga]; rfl
    have hA : addE (i : Int) (l.getD i (0, 0)) = 0 := addE_in (hin _ (by rw [hga]; exact List.getElem_mem hil)) (by omega)
    rw [hT, feedL_append _ _ _ _ _ q1]
    rw [q2]
    simp only [feedL, if_pos hA]
    refine ⟨trivial, by omega, by rw [chN_len, q3], ?_, ?_⟩
    · simp
    · rw [q4]
      unfold chN
      rw [cntTo]
      by_cases h0 : i = 0
      · subst h0
        rw [if_neg (by omega), if_neg (by omega)]
        simpa using q5
      · rw [if_neg h0]
        by_cases hs : scl (l.getD (i - 1) (0, 0)) (l.getD i (0, 0)) < 0
        · rw [if_pos ⟨by omega, hs⟩, if_pos ⟨by omega, hs⟩, sumL_set _ _ (by rw [q3]; exact Nat.mod_lt _ (by omega)), q5]
          push_cast; rfl
        · rw [if_neg (fun h => hs h.2), if_neg (fun h => hs h.2), q5]; simp
theorem errS_parts {ch : List Int} {seen : Int} {la : Int × Int} (h : errS ch seen la = 0) : 1 ≤ ch.length ∧ ch.length ≤ 20 ∧ 0 ≤ seen ∧ seen ≤ 1000000 ∧ (∀ n ∈ ch, 0 ≤ n) ∧ sumL ch ≤ seen := by
  unfold errS at h
  split at h
  · simp at h
  · rename_i h1
    split at h
    · simp at h
    · rename_i h2
      have h6 : ¬ (ch.length < 1) ∧ ¬ (20 < ch.length) ∧ ¬ (seen < 0) ∧ ¬ (1000000 < seen) := by
        refine ⟨fun e => h1 (.inl e), fun e => h1 (.inr (.inl e)), fun e => h1 (.inr (.inr (.inl e))), fun e => h1 (.inr (.inr (.inr (.inl e))))⟩
      have hok : okLeft seen ch = true := by simpa using h2
      obtain ⟨g1, g2⟩ := (okLeft_iff ch seen (by omega)).1 hok
      exact ⟨by omega, by omega, by omega, by omega, g1, g2⟩
end Go.Proofs.Sky
