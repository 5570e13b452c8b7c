/-
  lemmas for the theorems of this claim. No conditions beyond those written in the statements.
-/
set_option linter.unusedVariables false
set_option linter.unusedSimpArgs false
set_option linter.unnecessarySimpa false
namespace Go.Proofs.Sky
def rnd (x : Int) (s : Nat) : Int := if x < 0 then -((2 ^ s / 2 - x) / 2 ^ s) else (x + 2 ^ s / 2) / 2 ^ s
def gq (b : Int) : Int := 2 ^ (b.toNat - 1) - 1
def clampI (x q : Int) : Int := min (max x (-q)) q
def okG (b s : Int) : Bool := decide (2 ≤ b ∧ b ≤ 8 ∧ 0 ≤ s ∧ s ≤ 30)
theorem okG_iff (b s : Int) : okG b s = true ↔ (2 ≤ b ∧ b ≤ 8 ∧ 0 ≤ s ∧ s ≤ 30) := by simp [okG]
theorem okG_not (b s : Int) (h : ¬ (2 ≤ b ∧ b ≤ 8 ∧ 0 ≤ s ∧ s ≤ 30)) : okG b s = false := by simp only [okG, decide_eq_false_iff_not]; exact h
theorem pow_pos' (s : Nat) : (1 : Int) ≤ 2 ^ s := by
  have : (0:Int) < 2 ^ s := Int.pow_pos (by decide)
  omega
theorem pow_le (s n : Nat) (h : s ≤ n) : (2 : Int) ^ s ≤ 2 ^ n := by
  have := Nat.pow_le_pow_right (n := 2) (by decide) h
  exact_mod_cast this
theorem pow30 (s : Nat) (h : s ≤ 30) : (1 : Int) ≤ 2 ^ s ∧ (2 : Int) ^ s ≤ 1073741824 := ⟨pow_pos' s, by have := pow_le s 30 h; simpa using this⟩
theorem gq_bd (b : Int) (h : 2 ≤ b) (h' : b ≤ 8) : 1 ≤ gq b ∧ gq b ≤ 127 := by
  unfold gq
  have h1 := pow_le 1 (b.toNat - 1) (by omega)
  have h2 := pow_le (b.toNat - 1) 7 (by omega)
  simp at h1 h2
  omega
theorem rnd_zero (x : Int) : rnd x 0 = x := by
  unfold rnd
  split <;> simp
theorem rnd_neg (x : Int) (s : Nat) : rnd (-x) s = - rnd x s := by
  unfold rnd
  by_cases h0 : x = 0
  · subst h0
    have h1 := pow_pos' s
    have : (2:Int) ^ s / 2 / 2 ^ s = 0 := Int.ediv_eq_zero_of_lt (by omega) (by omega)
    simp [this]
  · by_cases h : x < 0
    · rw [if_neg (by omega), if_pos h]
      have : -x + 2 ^ s / 2 = 2 ^ s / 2 - x := by omega
      rw [this]; omega
    · rw [if_pos (by omega), if_neg h]
      have : x + 2 ^ s / 2 = 2 ^ s / 2 - -x := by omega
      rw [this]
theorem rnd_pos (x : Int) (s : Nat) (h : 0 ≤ x) : 0 ≤ rnd x s := by
  unfold rnd
  have h1 := pow_pos' s
  rw [if_neg (by omega)]
  exact Int.ediv_nonneg (by omega) (by omega)
theorem rnd_le (x : Int) (s : Nat) (h : 0 ≤ x) : rnd x s ≤ x := by
  unfold rnd
  have h1 := pow_pos' s
  rw [if_neg (by omega)]
  by_cases hs : (2:Int) ^ s = 1
  · rw [hs]; simp
  · by_cases hx : x = 0
    · subst hx
      rw [Int.ediv_eq_zero_of_lt (by omega) (by omega)]; omega
    · have h2 : (2:Int) ^ s / 2 ≤ x * (2 ^ s - 1) := by
        have : (1:Int) * (2 ^ s - 1) ≤ x * (2 ^ s - 1) := Int.mul_le_mul_of_nonneg_right (by omega) (by omega)
        omega
      have h3 : x + 2 ^ s / 2 ≤ x * 2 ^ s := by
        have : x * (2 ^ s - 1) = x * 2 ^ s - x := by rw [Int.mul_sub]; omega
        omega
      exact Int.ediv_le_of_le_mul (by omega) h3
theorem rnd_bd (x : Int) (s : Nat) (h1 : -70368744177664 ≤ x) (h2 : x ≤ 70368744177664) : -70368744177664 ≤ rnd x s ∧ rnd x s ≤ 70368744177664 := by
  by_cases h : 0 ≤ x
  · have := rnd_pos x s h
    have := rnd_le x s h
    omega
  · have h3 := rnd_neg (-x) s
    rw [Int.neg_neg] at h3
    have := rnd_pos (-x) s (by omega)
    have := rnd_le (-x) s (by omega)
    omega
/-- the reference's way to round -/
theorem rnd_ref (x : Int) (s : Nat) (h : 0 ≤ x) (hs : s ≠ 0) : (x + 2 ^ (s - 1)) / 2 ^ s = rnd x s := by
  unfold rnd
  rw [if_neg (by omega)]
  obtain ⟨k, rfl⟩ : ∃ k, s = k + 1 := ⟨s - 1, by omega⟩
  have : (2:Int) ^ (k + 1) / 2 = 2 ^ k := by rw [Int.pow_succ]; omega
  rw [this]; rfl
theorem clampI_ite (r q : Int) (h : 0 ≤ q) : clampI r q = if r < -q then -q else if q < r then q else r := by
  unfold clampI
  split
  · omega
  · split <;> omega
def errG (b s : Int) : Int := if okG b s then 0 else 2
theorem errG_ok (b s : Int) (h : 2 ≤ b ∧ b ≤ 8 ∧ 0 ≤ s ∧ s ≤ 30) : errG b s = 0 := by unfold errG; rw [(okG_iff b s).2 h]; rfl
theorem errG_no (b s : Int) (h : ¬ (2 ≤ b ∧ b ≤ 8 ∧ 0 ≤ s ∧ s ≤ 30)) : errG b s = 2 := by unfold errG; rw [okG_not b s h]; rfl
end Go.Proofs.Sky
