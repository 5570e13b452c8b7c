/-
  lemmas for the theorems of this claim. No conditions beyond those written in the statements.
-/
import Derived.Test.YtmilfedbggbpdaaAC13
set_option linter.unusedVariables false
set_option linter.unusedSimpArgs false
set_option linter.unnecessarySimpa false
namespace Go.Proofs.Sky
open Go
theorem clamp_neg (r q : Int) (h : 0 ≤ q) : clampI (-r) q = - clampI r q := by unfold clampI; omega
theorem clamp_mono (r t q : Int) (h : r ≤ t) : clampI r q ≤ clampI t q := by unfold clampI; omega
theorem rnd_mono (x y : Int) (s : Nat) (h : x ≤ y) : rnd x s ≤ rnd y s := by
  have hp := pow_pos' s
  by_cases hy : y < 0
  · have hx : x < 0 := by omega
    unfold rnd
    rw [if_pos hx, if_pos hy]
    have := Int.ediv_le_ediv (c := (2:Int) ^ s) (by omega) (show (2:Int) ^ s / 2 - y ≤ 2 ^ s / 2 - x by omega)
    omega
  · by_cases hx : x < 0
    · have h1 := rnd_pos y s (by omega)
      have h2 := rnd_pos (-x) s (by omega)
      rw [rnd_neg] at h2
      omega
    · unfold rnd
      rw [if_neg hx, if_neg hy]
      exact Int.ediv_le_ediv (by omega) (by omega)
theorem pow_half (s : Nat) : (2:Int) ^ s = 2 * (2 ^ s / 2) ∨ ((2:Int) ^ s = 1 ∧ (2:Int) ^ s / 2 = 0) := by
  rcases s with _ | s
  · right; simp
  · left; rw [Int.pow_succ]; omega
theorem rnd_near (x : Int) (s : Nat) : -(2 ^ s / 2) ≤ rnd x s * 2 ^ s - x ∧ rnd x s * 2 ^ s - x ≤ 2 ^ s / 2 := by
  have hp := pow_pos' s
  have hh := pow_half s
  unfold rnd
  split
  · have h1 := Int.emod_add_mul_ediv (2 ^ s / 2 - x) (2 ^ s)
    have h2 := Int.emod_nonneg (2 ^ s / 2 - x) (show (2:Int) ^ s ≠ 0 by omega)
    have h3 := Int.emod_lt_of_pos (2 ^ s / 2 - x) (show (0:Int) < 2 ^ s by omega)
    rw [Int.neg_mul, Int.mul_comm]
    generalize (2:Int) ^ s * ((2 ^ s / 2 - x) / 2 ^ s) = z at *
    generalize (2:Int) ^ s / 2 = h at *
    generalize (2:Int) ^ s = p at *
    omega
  · have h1 := Int.emod_add_mul_ediv (x + 2 ^ s / 2) (2 ^ s)
    have h2 := Int.emod_nonneg (x + 2 ^ s / 2) (show (2:Int) ^ s ≠ 0 by omega)
    have h3 := Int.emod_lt_of_pos (x + 2 ^ s / 2) (show (0:Int) < 2 ^ s by omega)
    rw [Int.mul_comm]
    generalize (2:Int) ^ s * ((x + 2 ^ s / 2) / 2 ^ s) = z at *
    generalize (2:Int) ^ s / 2 = h at *
    generalize (2:Int) ^ s = p at *
    omega
structure EF (b s x y a c : Int) (la lc : Bool) : Prop where
  x1 : levY b s x = a
  x2 : levL b s x = la
  x3 : levE b s x = 0
  n1 : levY b s (-x) = -a
  n3 : levE b s (-x) = 0
  y1 : levY b s y = c
  y2 : levL b s y = lc
  y3 : levE b s y = 0
  m1 : x ≤ y → a ≤ c
  m2 : y ≤ x → c ≤ a
  q1 : errQ b s [(x, y)] = 0
  q2 : qL b s [(x, y)] = [(a, c)]
  q3 : qN b s [(x, y)] = if (la || lc) = true then 1 else 0
  r1 : errR b s [(a, c)] = 0
  r2 : rsL b s [(a, c)] = [(a * 2 ^ s.toNat, c * 2 ^ s.toNat)]
  k1 : coarse b s = 2 ^ s.toNat / 2
  k2 : errG b s = 0
  d1 : la = false → -(2 ^ s.toNat / 2) ≤ a * 2 ^ s.toNat - x ∧ a * 2 ^ s.toNat - x ≤ 2 ^ s.toNat / 2
  b1 : -127 ≤ a ∧ a ≤ 127
  b2 : -127 ≤ c ∧ c ≤ 127
theorem ef {b s x y : Int} (hG : 2 ≤ b ∧ b ≤ 8 ∧ 0 ≤ s ∧ s ≤ 30) (hx : -1099511627776 ≤ x ∧ x ≤ 1099511627776) (hy : -1099511627776 ≤ y ∧ y ≤ 1099511627776) :
    EF b s x y (lv b s x) (lv b s y) (lost1 b s x) (lost1 b s y) := by
  obtain ⟨g1, g2⟩ := gq_bd b hG.1 hG.2.1
  obtain ⟨x1, x2, x3⟩ := lev_ok (x := x) hG (by omega)
  obtain ⟨n1, n2, n3⟩ := lev_ok (x := -x) hG (by omega)
  obtain ⟨y1, y2, y3⟩ := lev_ok (x := y) hG (by omega)
  have bx := clampI_bd (rnd x s.toNat) (gq b) (by omega)
  have by_ := clampI_bd (rnd y s.toNat) (gq b) (by omega)
  have hq : errQ b s [(x, y)] = 0 := by
    rw [errQ_good _ hG]
    unfold errS
    rw [if_neg (by simp), if_neg]
    simp only [List.any_cons, List.any_nil, inP]
    rw [inI_t (by omega) (by omega), inI_t (by omega) (by omega)]
    decide
  have hr : errR b s [(lv b s x, lv b s y)] = 0 := by
    rw [errR_good _ hG]
    unfold errS
    rw [if_neg (by simp), if_neg]
    simp only [List.any_cons, List.any_nil, inP]
    rw [inI_t (by unfold lv; omega) (by unfold lv; omega), inI_t (by unfold lv; omega) (by unfold lv; omega)]
    decide
  refine ⟨x1, x2, x3, ?_, n3, y1, y2, y3, fun h => clamp_mono _ _ _ (rnd_mono _ _ _ h), fun h => clamp_mono _ _ _ (rnd_mono _ _ _ h), hq, ?_, ?_, hr, ?_, ?_, errG_ok b s hG, ?_, ?_, ?_⟩
  · rw [n1, rnd_neg, clamp_neg _ _ (by omega)]; rfl
  · unfold qL; rw [if_pos hq]; rfl
  · unfold qN; rw [if_pos hq]
    show lostN b s ([] ++ [(x, y)]) = _
    rw [lostN_snoc]
    show 0 + (if (lost1 b s x || lost1 b s y) = true then (1:Int) else 0) = _
    split <;> simp
  · rw [r_ok hr]; rfl
  · unfold coarse; rw [(okG_iff b s).2 hG]; rfl
  · intro h
    have : lv b s x = rnd x s.toNat := by simpa [lost1] using h
    rw [this]
    exact rnd_near x s.toNat
  · unfold lv; omega
  · unfold lv; omega
end Go.Proofs.Sky
