/-
  lemmas for the theorems of this claim. No conditions beyond those written in the statements.
-/
set_option linter.unusedVariables false
set_option linter.unusedSimpArgs false
set_option linter.unnecessarySimpa false
namespace Go.Proofs.Sky
/-- the number from 0 to k-1 that any number selects -/
def bel (n k : Int) : Int := if k < 1 then 0 else n % k
theorem bel_bd (n k : Int) (h : 1 ≤ k) : 0 ≤ bel n k ∧ bel n k < k := by
  unfold bel; rw [if_neg (by omega)]
  exact ⟨Int.emod_nonneg _ (by omega), Int.emod_lt_of_pos _ (by omega)⟩
def nth (zs : List Int) (i : Int) : Int := if i < 0 ∨ (zs.length : Int) ≤ i then 0 else zs.getD i.toNat 0
theorem tmod_way (n k : Int) (h : 1 ≤ k) : ∃ r, n.tmod k = r ∧ -k < r ∧ r < k ∧ ((r < 0 ∧ n % k = r + k) ∨ (0 ≤ r ∧ n % k = r)) := by
  refine ⟨n.tmod k, rfl, ?_⟩
  have a := Int.emod_nonneg n (show k ≠ 0 by omega)
  have b := Int.emod_lt_of_pos n (show 0 < k by omega)
  by_cases hn : 0 ≤ n
  · rw [Int.tmod_eq_emod_of_nonneg hn]; exact ⟨by omega, by omega, .inr ⟨a, rfl⟩⟩
  · have e : n.tmod k = -((-n) % k) := by
      have := Int.neg_tmod (-n) k; rw [Int.neg_neg] at this; rw [this, Int.tmod_eq_emod_of_nonneg (by omega)]
    have c := Int.emod_nonneg (-n) (show k ≠ 0 by omega)
    have d := Int.emod_lt_of_pos (-n) (show 0 < k by omega)
    have f := Int.mul_ediv_add_emod (-n) k
    have g := Int.mul_ediv_add_emod n k
    rw [e]
    refine ⟨by omega, by omega, ?_⟩
    by_cases hz : (-n) % k = 0
    · right
      refine ⟨by omega, ?_⟩
      have : k ∣ n := by have := Int.dvd_of_emod_eq_zero hz; exact (Int.dvd_neg).1 this
      rw [Int.emod_eq_zero_of_dvd this, hz]; rfl
    · left
      refine ⟨by omega, ?_⟩
      have h1 : n = k * (-((-n) / k) - 1) + (k - (-n) % k) := by rw [Int.mul_sub, Int.mul_neg]; omega
      have h2 : n % k = (k - (-n) % k) % k := by
        conv => lhs; rw [h1]
        rw [Int.add_comm, Int.add_mul_emod_self_left]
      rw [h2, Int.emod_eq_of_lt (by omega) (by omega)]; omega
end Go.Proofs.Sky

namespace Go.Proofs.Sky
/-! chapter 28, plain: numbers of 256 bits by digits of 64 bits -/
def d64 (N i : Nat) : Nat := N / 18446744073709551616 ^ i % 18446744073709551616
theorem d64_lt (N i : Nat) : d64 N i < 18446744073709551616 := Nat.mod_lt _ (by decide)
theorem q_pos (i : Nat) : 0 < 18446744073709551616 ^ i := Nat.pow_pos (by decide)
theorem mod_succ (A i : Nat) : A % 18446744073709551616 ^ (i + 1) = A % 18446744073709551616 ^ i + 18446744073709551616 ^ i * d64 A i := by
  rw [Nat.pow_succ, Nat.mod_mul]; rfl
/-- the carry into digit i of a sum -/
def cA (A B i : Nat) : Nat := (A % 18446744073709551616 ^ i + B % 18446744073709551616 ^ i) / 18446744073709551616 ^ i
theorem cA_zero (A B : Nat) : cA A B 0 = 0 := by simp [cA, Nat.mod_one]
theorem cA_le (A B i : Nat) : cA A B i ≤ 1 := by
  unfold cA
  have h0 := q_pos i
  have h1 := Nat.mod_lt A h0
  have h2 := Nat.mod_lt B h0
  generalize 18446744073709551616 ^ i = p at *
  have : (A % p + B % p) / p < 2 := by rw [Nat.div_lt_iff_lt_mul h0]; omega
  omega
theorem div_sum (p a r : Nat) (hp : 0 < p) : (r + p * a) / p = r / p + a := Nat.add_mul_div_left r a hp
theorem add_div3 (A B p : Nat) (hp : 0 < p) : (A + B) / p = A / p + B / p + (A % p + B % p) / p := by
  have e : A + B = (A % p + B % p) + p * (A / p + B / p) := by
    have h1 := Nat.mod_add_div A p
    have h2 := Nat.mod_add_div B p
    rw [Nat.mul_add]; omega
  rw [e, div_sum _ _ _ hp]
  omega
theorem d64_add (A B i : Nat) : d64 (A + B) i = (d64 A i + d64 B i + cA A B i) % 18446744073709551616 := by
  unfold d64 cA
  rw [add_div3 A B _ (q_pos i)]
  omega
theorem cA_succ (A B i : Nat) : cA A B (i + 1) = (d64 A i + d64 B i + cA A B i) / 18446744073709551616 := by
  have h : cA A B (i + 1) = (A % 18446744073709551616 ^ (i + 1) + B % 18446744073709551616 ^ (i + 1)) / (18446744073709551616 ^ i * 18446744073709551616) := by unfold cA; rw [← Nat.pow_succ]
  rw [h, mod_succ, mod_succ, ← Nat.div_div_eq_div_mul]
  have e : A % 18446744073709551616 ^ i + 18446744073709551616 ^ i * d64 A i + (B % 18446744073709551616 ^ i + 18446744073709551616 ^ i * d64 B i) = (A % 18446744073709551616 ^ i + B % 18446744073709551616 ^ i) + 18446744073709551616 ^ i * (d64 A i + d64 B i) := by rw [Nat.mul_add]; omega
  rw [e, div_sum _ _ _ (q_pos i)]
  congr 1
  show cA A B i + _ = _
  omega
def M256 : Nat := 115792089237316195423570985008687907853269984665640564039457584007913129639936
theorem M256_eq : M256 = 18446744073709551616 ^ 4 := by decide
theorem low_add (A j i : Nat) (h : i ≤ 4) : (A + M256 * j) % 18446744073709551616 ^ i = A % 18446744073709551616 ^ i := by
  have e : M256 * j = 18446744073709551616 ^ i * (18446744073709551616 ^ (4 - i) * j) := by
    rw [M256_eq, ← Nat.mul_assoc, ← Nat.pow_add, Nat.add_sub_cancel' h]
  rw [e, Nat.add_mul_mod_self_left]
theorem d64_low {A B : Nat} (i : Nat) (h : A % 18446744073709551616 ^ (i + 1) = B % 18446744073709551616 ^ (i + 1)) : d64 A i = d64 B i := by
  have h1 : ∀ X : Nat, d64 X i = X % 18446744073709551616 ^ (i + 1) / 18446744073709551616 ^ i := fun X => by
    rw [mod_succ, div_sum _ _ _ (q_pos i), Nat.div_eq_of_lt (Nat.mod_lt _ (q_pos i)), Nat.zero_add]
  rw [h1, h1, h]
/-- the borrow into digit i of a difference -/
def bS (A B i : Nat) : Nat := if A % 18446744073709551616 ^ i < B % 18446744073709551616 ^ i then 1 else 0
theorem bS_zero (A B : Nat) : bS A B 0 = 0 := by simp [bS, Nat.mod_one]
theorem bS_le (A B i : Nat) : bS A B i ≤ 1 := by unfold bS; split <;> omega
theorem bS_cA {A B T : Nat} (h : T + B = A + M256) (i : Nat) (hi : i ≤ 4) : cA T B i = bS A B i := by
  have h1 := low_add A 1 i hi
  rw [Nat.mul_one, ← h] at h1
  unfold cA bS
  have h0 := q_pos i
  have h2 := Nat.mod_lt T h0
  have h3 := Nat.mod_lt B h0
  have h4 := Nat.mod_lt A h0
  have h5 : (T + B) % 18446744073709551616 ^ i = (T % 18446744073709551616 ^ i + B % 18446744073709551616 ^ i) % 18446744073709551616 ^ i := Nat.add_mod _ _ _
  rw [h1] at h5
  generalize 18446744073709551616 ^ i = p at *
  generalize A % p = a at *
  generalize B % p = b at *
  generalize T % p = t at *
  by_cases hc : t + b < p
  · rw [Nat.mod_eq_of_lt hc] at h5
    rw [Nat.div_eq_of_lt hc, if_neg (by omega)]
  · have h6 : (t + b) % p = t + b - p := by rw [Nat.mod_eq_sub_mod (by omega), Nat.mod_eq_of_lt (by omega)]
    have h7 : (t + b) / p = 1 := by rw [Nat.div_eq_sub_div h0 (by omega), Nat.div_eq_of_lt (by omega)]
    rw [h7, if_pos (by omega)]
theorem d64_sub {A B T : Nat} (h : T + B = A + M256) (i : Nat) (hi : i < 4) : (d64 A i + 18446744073709551616 - d64 B i - bS A B i) % 18446744073709551616 = d64 T i ∧ (if d64 A i < d64 B i + bS A B i then 1 else 0) = bS A B (i + 1) := by
  have e1 := d64_add T B i
  have e2 : d64 (T + B) i = d64 A i := by
    rw [h]
    have := low_add A 1 (i + 1) (by omega)
    rw [Nat.mul_one] at this
    exact d64_low i this
  have e3 := cA_succ T B i
  rw [bS_cA h i (by omega)] at e1 e3
  rw [bS_cA h (i + 1) (by omega)] at e3
  rw [e2] at e1
  have b1 := d64_lt A i
  have b2 := d64_lt B i
  have b3 := d64_lt T i
  have b4 := bS_le A B i
  generalize d64 A i = a at *
  generalize d64 B i = b at *
  generalize d64 T i = t at *
  generalize bS A B i = c at *
  rw [e3]
  refine ⟨by omega, ?_⟩
  split <;> omega
theorem bS_four {A B : Nat} (hA : A < M256) (hB : B < M256) : bS A B 4 = if A < B then 1 else 0 := by
  unfold bS
  rw [← M256_eq, Nat.mod_eq_of_lt hA, Nat.mod_eq_of_lt hB]
/-- the carry into digit i of a product with one digit -/
def cM (N m i : Nat) : Nat := N % 18446744073709551616 ^ i * m / 18446744073709551616 ^ i
theorem cM_zero (N m : Nat) : cM N m 0 = 0 := by simp [cM, Nat.mod_one]
theorem cM_lt (N m i : Nat) (hm : 0 < m) : cM N m i < m := by
  unfold cM
  rw [Nat.div_lt_iff_lt_mul (q_pos i)]
  have h := Nat.mod_lt N (q_pos i)
  calc N % 18446744073709551616 ^ i * m < 18446744073709551616 ^ i * m := Nat.mul_lt_mul_of_pos_right h hm
    _ = m * 18446744073709551616 ^ i := Nat.mul_comm _ _
theorem cM_le (N m i : Nat) : cM N m i ≤ m := by
  by_cases h : m = 0
  · subst h; simp [cM]
  · exact Nat.le_of_lt (cM_lt N m i (by omega))
theorem mul_div3 (N m p : Nat) (hp : 0 < p) : N * m / p = N / p * m + N % p * m / p := by
  have e : N * m = N % p * m + p * (N / p * m) := by
    have h1 := Nat.mod_add_div N p
    calc N * m = (N % p + p * (N / p)) * m := by rw [h1]
      _ = _ := by rw [Nat.add_mul, Nat.mul_assoc]
  rw [e, div_sum _ _ _ hp]
  omega
theorem d64_mul (N m i : Nat) : d64 (N * m) i = (d64 N i * m + cM N m i) % 18446744073709551616 := by
  have h : d64 (N * m) i = (N / 18446744073709551616 ^ i * m + cM N m i) % 18446744073709551616 := by
    unfold d64 cM
    rw [mul_div3 N m _ (q_pos i)]
  rw [h, Nat.add_mod, Nat.mul_mod, Nat.add_mod (d64 N i * m), Nat.mul_mod (d64 N i)]
  unfold d64
  rw [Nat.mod_mod]
theorem cM_succ (N m i : Nat) : cM N m (i + 1) = (d64 N i * m + cM N m i) / 18446744073709551616 := by
  have h : cM N m (i + 1) = N % 18446744073709551616 ^ (i + 1) * m / (18446744073709551616 ^ i * 18446744073709551616) := by unfold cM; rw [← Nat.pow_succ]
  rw [h, mod_succ, ← Nat.div_div_eq_div_mul, Nat.add_mul, Nat.mul_assoc, div_sum _ _ _ (q_pos i)]
  congr 1
  show cM N m i + _ = _
  omega
end Go.Proofs.Sky
