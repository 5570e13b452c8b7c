/-
  lemmas for the theorems of this claim. No conditions beyond those written in the statements.
-/
import Derived.Test.YtmilfedbggbpdaaAH13
import Derived.Test.YtmilfedbggbpdaaV13
set_option linter.unusedVariables false
set_option linter.unusedSimpArgs false
set_option linter.unnecessarySimpa false
namespace Go.Proofs.Sky
open Go
theorem rnd_dbl_pos (x : Int) (s : Nat) (h : 0 ≤ x) : rnd x s ≤ 2 * rnd x (s + 1) + 1 := by
  have hp := pow_pos' s
  have hh := pow_half s
  unfold rnd
  rw [if_neg (by omega), if_neg (by omega)]
  have e1 : (2:Int) ^ (s + 1) = 2 * 2 ^ s := by rw [Int.pow_succ]; omega
  rw [e1, show (2 * 2 ^ s : Int) / 2 = 2 ^ s by omega]
  generalize (2:Int) ^ s = p at *
  have a1 := Int.emod_add_mul_ediv (x + p) (2 * p)
  have a2 := Int.emod_lt_of_pos (x + p) (show 0 < 2 * p by omega)
  have b1 := Int.emod_add_mul_ediv (x + p / 2) p
  have b2 := Int.emod_nonneg (x + p / 2) (show p ≠ 0 by omega)
  generalize (x + p) / (2 * p) = r at *
  generalize (x + p / 2) / p = t at *
  rw [Int.mul_assoc] at a1
  rcases Int.lt_or_le t (2 * r + 2) with hlt | hle
  · omega
  · exfalso
    have h3 := Int.mul_le_mul_of_nonneg_left hle (show 0 ≤ p by omega)
    have h4 : p * (2 * r + 2) = 2 * (p * r) + 2 * p := by rw [Int.mul_add, Int.mul_left_comm]; omega
    omega
theorem rnd_dbl (x : Int) (s : Nat) : ab (rnd x s) ≤ 2 * ab (rnd x (s + 1)) + 1 := by
  have key : ∀ y : Int, 0 ≤ y → ab (rnd y s) ≤ 2 * ab (rnd y (s + 1)) + 1 := by
    intro y hy
    have h1 := rnd_pos y s hy
    have h2 := rnd_pos y (s + 1) hy
    have h3 := rnd_dbl_pos y s hy
    have h4 := ab_cases (rnd y s)
    have h5 := ab_cases (rnd y (s + 1))
    omega
  by_cases hx : 0 ≤ x
  · exact key x hx
  · have := key (-x) (by omega)
    rw [rnd_neg, rnd_neg] at this
    have h4 := ab_cases (rnd x s)
    have h5 := ab_cases (rnd x (s + 1))
    have h6 := ab_cases (-rnd x s)
    have h7 := ab_cases (-rnd x (s + 1))
    omega
theorem pk_nonneg (s : Nat) (ps : List (Int × Int)) : 0 ≤ pk s ps := by
  have h := (foldl_pk_le s (pk s ps) ps 0).1 (Int.le_refl _)
  exact h.1
theorem pk_dbl (s : Nat) (ps : List (Int × Int)) : pk s ps ≤ 2 * pk (s + 1) ps + 1 := by
  have h0 := pk_nonneg (s + 1) ps
  rw [pk_le2 _ _ _ (by omega)]
  intro p hp
  have h := (pk_le2 (s + 1) (pk (s + 1) ps) ps h0).1 (Int.le_refl _) p hp
  have h1 := rnd_dbl p.1 s
  have h2 := rnd_dbl p.2 s
  omega
theorem adS_bd {b s : Int} (ps : List (Int × Int)) (h : 0 ≤ s ∧ s ≤ 30) : (0 ≤ adS b s ps ∧ adS b s ps ≤ 30) ∧ s - 1 ≤ adS b s ps ∧ adS b s ps ≤ s + 1 := by
  unfold adS; split
  · omega
  · split <;> omega
theorem adS_up {b s : Int} (hb : 2 ≤ b ∧ b ≤ 8) (ps : List (Int × Int)) (h : 0 ≤ s ∧ s ≤ 30) (hu : s < adS b s ps) : adS b s ps ≤ adS b (adS b s ps) ps := by
  have hq := gq_bd b hb.1 hb.2
  have e1 : (ps.length : Int) < 16 * lostN b s ps ∧ adS b s ps = min (s + 1) 30 := by
    unfold adS at hu ⊢
    split
    · exact ⟨by assumption, rfl⟩
    · rename_i hn; rw [if_neg hn] at hu; split at hu <;> omega
  obtain ⟨h1, h2⟩ := e1
  have h3 : adS b s ps = s + 1 := by omega
  have hl := lostN_bd' b s ps
  have h4 : ¬ pk s.toNat ps ≤ gq b := fun h' => by have := (lostN_zero2 b s ps (by omega)).2 h'; omega
  have h5 := pk_dbl s.toNat ps
  rw [h3]
  have h6 : ¬ 4 * pk (s + 1).toNat ps ≤ gq b := by
    rw [show (s + 1).toNat = s.toNat + 1 by omega]
    have := pk_nonneg (s.toNat + 1) ps
    omega
  show s + 1 ≤ adS b (s + 1) ps
  unfold adS
  split
  · omega
  · first | omega | (rw [if_neg h6]; omega)
theorem adS_dn {b s : Int} (hb : 2 ≤ b ∧ b ≤ 8) (ps : List (Int × Int)) (h : 0 ≤ s ∧ s ≤ 30) (hu : adS b s ps < s) : adS b (adS b s ps) ps ≤ adS b s ps := by
  have hq := gq_bd b hb.1 hb.2
  have e1 : 4 * pk s.toNat ps ≤ gq b ∧ adS b s ps = max (s - 1) 0 := by
    unfold adS at hu ⊢
    split
    · rename_i hn; rw [if_pos hn] at hu; omega
    · rename_i hn
      rw [if_neg hn] at hu
      split
      · exact ⟨by assumption, rfl⟩
      · rename_i hn2; rw [if_neg hn2] at hu; omega
  obtain ⟨h1, h2⟩ := e1
  have h3 : adS b s ps = s - 1 := by omega
  have h5 := pk_dbl (s - 1).toNat ps
  rw [show (s - 1).toNat + 1 = s.toNat by omega] at h5
  have h0 := pk_nonneg s.toNat ps
  have h6 : lostN b (s - 1) ps = 0 := (lostN_zero2 b (s - 1) ps (by omega)).2 (by omega)
  rw [h3]
  unfold adS
  rw [if_neg (by rw [h6]; omega)]
  split <;> omega
structure FI (b : Int) (ps : List (Int × Int)) (k : Nat) (s : Int) : Prop where
  bd : 0 ≤ s ∧ s ≤ 30
  st : adS b s ps = s ∨ (s < adS b s ps ∧ (k : Int) ≤ s) ∨ (adS b s ps < s ∧ (k : Int) ≤ 30 - s)
theorem FI.zero {b s : Int} (ps : List (Int × Int)) (h : 0 ≤ s ∧ s ≤ 30) : FI b ps 0 s := ⟨h, by omega⟩
theorem FI.step {b s : Int} {ps : List (Int × Int)} {k : Nat} (hb : 2 ≤ b ∧ b ≤ 8) (h : FI b ps k s) : FI b ps (k + 1) (adS b s ps) := by
  have hd := adS_bd (b := b) ps h.bd
  refine ⟨hd.1, ?_⟩
  rcases h.st with h1 | ⟨h1, h2⟩ | ⟨h1, h2⟩
  · left; rw [h1]; exact h1
  · have := adS_up hb ps h.bd h1
    omega
  · have := adS_dn hb ps h.bd h1
    omega
theorem FI.done {b s : Int} {ps : List (Int × Int)} (h : FI b ps 31 s) : adS b s ps = s := by
  have := h.bd
  rcases h.st with h1 | ⟨h1, h2⟩ | ⟨h1, h2⟩ <;> omega
theorem sum_set (l : List Int) (i : Nat) (h : i < l.length) (u : Int) : (l.set i u).sum = l.sum - l.getD i 0 + u := by
  induction l generalizing i with
  | nil => simp at h
  | cons a l ih =>
    rcases i with _ | i
    · simp; omega
    · simp only [List.length_cons] at h
      have := ih i (by omega)
      simp only [List.set_cons_succ, List.sum_cons, List.getD_cons_succ]
      rw [this]; omega
theorem bump_sum (l : List Int) (i : Int) (h : i.toNat < l.length) : (bump l i).sum = l.sum + 1 := by
  unfold bump
  rw [sum_set _ _ h]; omega
theorem cnt_sum (q : Int) (hq : 0 ≤ q) (l : List (Int × Int)) (h : ∀ p ∈ l, (-q ≤ p.1 ∧ p.1 ≤ q) ∧ -q ≤ p.2 ∧ p.2 ≤ q) : (cntTo q l).sum = 2 * l.length := by
  unfold cntTo
  have key : ∀ acc : List Int, acc.length = (2 * q + 1).toNat → (l.foldl (fun acc p => bump (bump acc (p.1 + q)) (p.2 + q)) acc).sum = acc.sum + 2 * l.length := by
    induction l with
    | nil => intro acc _; simp
    | cons p l ih =>
      intro acc ha
      have hp := h p (List.mem_cons_self ..)
      rw [List.foldl_cons, ih (fun r hr => h r (List.mem_cons_of_mem _ hr)) _ (by rw [bump_len, bump_len]; exact ha), bump_sum _ _ (by rw [bump_len, ha]; omega), bump_sum _ _ (by rw [ha]; omega)]
      simp only [List.length_cons]
      omega
  rw [key _ (by simp)]
  simp
theorem sum_take (l : List Int) (k : Nat) (h : k < l.length) : (l.take (k + 1)).sum = (l.take k).sum + l.getD k 0 := by
  rw [take_snoc' l k 0 h, List.sum_append]; simp
theorem sum_bd (l : List Int) (m : Int) (h : ∀ j, 0 ≤ l.getD j 0 ∧ l.getD j 0 ≤ m) (k : Nat) (hk : k ≤ l.length) : 0 ≤ (l.take k).sum ∧ (l.take k).sum ≤ m * k := by
  induction k with
  | zero => simp
  | succ k ih =>
    rw [sum_take l k (by omega)]
    have h1 := ih (by omega)
    have h2 := h k
    have h3 : m * ((k + 1 : Nat) : Int) = m * k + m := by push_cast; rw [Int.mul_add]; omega
    omega
end Go.Proofs.Sky
