/-
  lemmas for the theorems of this claim. No conditions beyond those written in the statements.
-/
set_option linter.unusedVariables false
set_option linter.unusedSimpArgs false
set_option linter.unnecessarySimpa false
namespace Go.Proofs.Sky
/-- the number from 0 to k-1 that any number selects -/
def bel (n k : Int) : Int := if k < 1 then 0 else n % k
theorem bel_bd (n k : Int) (h : 1 ≤ k) : 0 ≤ bel n k ∧ bel n k < k := by
  unfold bel; rw [if_neg (by omega)]
  exact ⟨Int.emod_nonneg _ (by omega), Int.emod_lt_of_pos _ (by omega)⟩
def nth (zs : List Int) (i : Int) : Int := if i < 0 ∨ (zs.length : Int) ≤ i then 0 else zs.getD i.toNat 0
theorem tmod_way (n k : Int) (h : 1 ≤ k) : ∃ r, n.tmod k = r ∧ -k < r ∧ r < k ∧ ((r < 0 ∧ n % k = r + k) ∨ (0 ≤ r ∧ n % k = r)) := by
  refine ⟨n.tmod k, rfl, ?_⟩
  have a := Int.emod_nonneg n (show k ≠ 0 by omega)
  have b := Int.emod_lt_of_pos n (show 0 < k by omega)
  by_cases hn : 0 ≤ n
  · rw [Int.tmod_eq_emod_of_nonneg hn]; exact ⟨by omega, by omega, .inr ⟨a, rfl⟩⟩
  · have e : n.tmod k = -((-n) % k) := by
      have := Int.neg_tmod (-n) k; rw [Int.neg_neg] at this; rw [this, Int.tmod_eq_emod_of_nonneg (by omega)]
    have c := Int.emod_nonneg (-n) (show k ≠ 0 by omega)
    have d := Int.emod_lt_of_pos (-n) (show 0 < k by omega)
    have f := Int.mul_ediv_add_emod (-n) k
    have g := Int.mul_ediv_add_emod n k
    rw [e]
    refine ⟨by omega, by omega, ?_⟩
    by_cases hz : (-n) % k = 0
    · right
      refine ⟨by omega, ?_⟩
      have : k ∣ n := by have := Int.dvd_of_emod_eq_zero hz; exact (Int.dvd_neg).1 this
      rw [Int.emod_eq_zero_of_dvd this, hz]; rfl
    · left
      refine ⟨by omega, ?_⟩
      have h1 : n = k * (-((-n) / k) - 1) + (k - (-n) % k) := by rw [Int.mul_sub, Int.mul_neg]; omega
      have h2 : n % k = (k - (-n) % k) % k := by
        conv => lhs; rw [h1]
        rw [Int.add_comm, Int.add_mul_emod_self_left]
      rw [h2, Int.emod_eq_of_lt (by omega) (by omega)]; omega
end Go.Proofs.Sky
