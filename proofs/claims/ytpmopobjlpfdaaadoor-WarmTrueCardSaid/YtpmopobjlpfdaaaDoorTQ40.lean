/-
  lemmas for the theorems of this claim. No conditions beyond those written in the statements.
-/
import Derived.Test.YtpmopobjlpfdaaaDoorNP40
set_option linter.unusedVariables false
set_option linter.unusedSimpArgs false
set_option linter.unnecessarySimpa false
namespace Go.Proofs.Sky
open Go Go.RowKit Go.Shelf
set_option maxHeartbeats 4000000
set_option maxRecDepth 8000
/-! chapter 40: hints hold for all true values within the bounds, plain -/
theorem sq_le40 {p m : Int} (hm : 0 ≤ m) (h : p * p ≤ m * m) : -m ≤ p ∧ p ≤ m := by
  have h1 : p.natAbs * p.natAbs ≤ m.natAbs * m.natAbs := by
    have a1 : ((p.natAbs * p.natAbs : Nat) : Int) = p * p := by rw [Int.natCast_mul]; exact Int.natAbs_mul_self' p
    have a2 : ((m.natAbs * m.natAbs : Nat) : Int) = m * m := by rw [Int.natCast_mul]; exact Int.natAbs_mul_self' m
    omega
  have h2 : p.natAbs ≤ m.natAbs := by
    rcases Nat.lt_or_ge m.natAbs p.natAbs with h3 | h3
    · have := Nat.mul_lt_mul'' h3 h3
      omega
    · exact h3
  omega
theorem cauchy40 (a b c x y z : Int) : (a * x + b * y + c * z) * (a * x + b * y + c * z) ≤ (a * a + b * b + c * c) * (x * x + y * y + z * z) := by
  have h1 := sq_nn (a * y - b * x)
  have h2 := sq_nn (a * z - c * x)
  have h3 := sq_nn (b * z - c * y)
  have e : (a * a + b * b + c * c) * (x * x + y * y + z * z) - (a * x + b * y + c * z) * (a * x + b * y + c * z) = (a * y - b * x) * (a * y - b * x) + (a * z - c * x) * (a * z - c * x) + (b * z - c * y) * (b * z - c * y) := by grind
  omega
theorem rn1024 (a : Int) : -512 ≤ 1024 * rn a 1024 - a ∧ 1024 * rn a 1024 - a ≤ 512 := by
  unfold rn
  split <;> omega
theorem at_near40 (l0 l1 l2 d0 e age L : Int) (hd : szW d0 + L ≤ age) (he : -L ≤ e ∧ e ≤ L) (hL : 0 ≤ L) : -(vQ l1 l2 age * L + 1) ≤ atQ l0 l1 l2 (d0 + e) - atQ l0 l1 l2 d0 ∧ atQ l0 l1 l2 (d0 + e) - atQ l0 l1 l2 d0 ≤ vQ l1 l2 age * L + 1 := by
  have hd0 : 0 ≤ szW d0 := szW_nn d0
  have hage : 0 ≤ age := by omega
  have hy : -(2 * age) ≤ 2 * d0 + e ∧ 2 * d0 + e ≤ 2 * age := by unfold szW at hd hd0; omega
  have hs2 : -szW l2 ≤ l2 ∧ l2 ≤ szW l2 := by unfold szW; omega
  have hs1 : -szW l1 ≤ l1 ∧ l1 ≤ szW l1 := by unfold szW; omega
  have m1 := mul_bd40 hs2 hy
  have hu := (upW_bd (a := 2 * szW l2 * age) (b := 1024) (Int.mul_nonneg (by have := szW_nn l2; omega) hage) (by omega)).2.2
  have em : szW l2 * (2 * age) = 2 * szW l2 * age := by rw [Int.mul_comm 2 (szW l2), Int.mul_assoc]
  have hg : -(1024 * vQ l1 l2 age) ≤ 1024 * l1 + l2 * (2 * d0 + e) ∧ 1024 * l1 + l2 * (2 * d0 + e) ≤ 1024 * vQ l1 l2 age := by unfold vQ; omega
  have m2 := mul_bd40 he hg
  have el : L * (1024 * vQ l1 l2 age) = 1024 * (vQ l1 l2 age * L) := by rw [Int.mul_comm L, Int.mul_assoc]
  have ea : ((64 * l0 + l1 * (d0 + e)) * 1024 + l2 * (d0 + e) * (d0 + e)) - ((64 * l0 + l1 * d0) * 1024 + l2 * d0 * d0) = e * (1024 * l1 + l2 * (2 * d0 + e)) := by grind
  have r1 := rn1024 ((64 * l0 + l1 * (d0 + e)) * 1024 + l2 * (d0 + e) * (d0 + e))
  have r0 := rn1024 ((64 * l0 + l1 * d0) * 1024 + l2 * d0 * d0)
  unfold atQ
  generalize rn ((64 * l0 + l1 * (d0 + e)) * 1024 + l2 * (d0 + e) * (d0 + e)) 1024 = p1 at *
  generalize rn ((64 * l0 + l1 * d0) * 1024 + l2 * d0 * d0) 1024 = p0 at *
  generalize (64 * l0 + l1 * (d0 + e)) * 1024 + l2 * (d0 + e) * (d0 + e) = a1 at *
  generalize (64 * l0 + l1 * d0) * 1024 + l2 * d0 * d0 = a0 at *
  omega
/-- one coordinate of the side -/
theorem side1 (s u ep dl W T : Int) (hep : -W ≤ ep ∧ ep ≤ W) (hdl : -T ≤ dl ∧ dl ≤ T) : -(szW s * T + 2 * (szW u * T) + W * szW u + W * T + T * T) ≤ (s + ep - (u + dl)) * (u + dl) - (s - u) * u ∧ (s + ep - (u + dl)) * (u + dl) - (s - u) * u ≤ szW s * T + 2 * (szW u * T) + W * szW u + W * T + T * T := by
  have hs : -szW s ≤ s ∧ s ≤ szW s := by unfold szW; omega
  have hu : -szW u ≤ u ∧ u ≤ szW u := by unfold szW; omega
  have m1 := mul_bd40 hs hdl
  have m2 := mul_bd40 hu hdl
  have m3 := mul_bd40 hep hu
  have m4 := mul_bd40 hep hdl
  have m5 := mul_bd40 hdl hdl
  have e : (s + ep - (u + dl)) * (u + dl) - (s - u) * u = s * dl - 2 * (u * dl) + ep * u + ep * dl - dl * dl := by grind
  omega
theorem side40 (s0 s1 s2 u0 u1 u2 a0 a1 a2 d0 d1 d2 W T R : Int) (hW : 0 ≤ W) (hT : 0 ≤ T) (hTR : 7 * T ≤ 4 * R) (ha0 : -W ≤ a0 ∧ a0 ≤ W) (ha1 : -W ≤ a1 ∧ a1 ≤ W) (ha2 : -W ≤ a2 ∧ a2 ≤ W) (hd0 : -T ≤ d0 ∧ d0 ≤ T) (hd1 : -T ≤ d1 ∧ d1 ≤ T) (hd2 : -T ≤ d2 ∧ d2 ≤ T) :
    -(W * len3 u0 u1 u2 + R * (len3 s0 s1 s2 + 2 * len3 u0 u1 u2) + 2 * W * R + R * R) ≤ ((s0 + a0 - (u0 + d0)) * (u0 + d0) + (s1 + a1 - (u1 + d1)) * (u1 + d1) + (s2 + a2 - (u2 + d2)) * (u2 + d2)) - (0 + (s0 - u0) * u0 + (s1 - u1) * u1 + (s2 - u2) * u2) ∧
    ((s0 + a0 - (u0 + d0)) * (u0 + d0) + (s1 + a1 - (u1 + d1)) * (u1 + d1) + (s2 + a2 - (u2 + d2)) * (u2 + d2)) - (0 + (s0 - u0) * u0 + (s1 - u1) * u1 + (s2 - u2) * u2) ≤ W * len3 u0 u1 u2 + R * (len3 s0 s1 s2 + 2 * len3 u0 u1 u2) + 2 * W * R + R * R := by
  have k0 := side1 s0 u0 a0 d0 W T ha0 hd0
  have k1 := side1 s1 u1 a1 d1 W T ha1 hd1
  have k2 := side1 s2 u2 a2 d2 W T ha2 hd2
  have hR : 0 ≤ R := by omega
  have hTR2 : T ≤ R := by omega
  have n1 := len3_nn s0 s1 s2
  have n2 := len3_nn u0 u1 u2
  have q1 : T * (len3 s0 s1 s2 + 2 * len3 u0 u1 u2) ≤ R * (len3 s0 s1 s2 + 2 * len3 u0 u1 u2) := Int.mul_le_mul_of_nonneg_right hTR2 (by omega)
  have q2 : W * (3 * T) ≤ W * (2 * R) := Int.mul_le_mul_of_nonneg_left (by omega) hW
  have q3 : (7 * T) * (7 * T) ≤ (4 * R) * (4 * R) := Int.mul_le_mul hTR hTR (by omega) (by omega)
  have q4 := sq_nn R
  have e1 : (7 * T) * (7 * T) = 49 * (T * T) := by grind
  have e2 : (4 * R) * (4 * R) = 16 * (R * R) := by grind
  have e3 : T * (len3 s0 s1 s2 + 2 * len3 u0 u1 u2) = (szW s0 * T + szW s1 * T + szW s2 * T) + 2 * (szW u0 * T + szW u1 * T + szW u2 * T) := by unfold len3; grind
  have e4 : W * len3 u0 u1 u2 = W * szW u0 + W * szW u1 + W * szW u2 := by unfold len3; grind
  have e5 : W * (3 * T) = 3 * (W * T) := by grind
  have e6 : W * (2 * R) = 2 * W * R := by grind
  omega
theorem dist1 (ep dl W T : Int) (hep : -W ≤ ep ∧ ep ≤ W) (hdl : -T ≤ dl ∧ dl ≤ T) : (ep - dl) * (ep - dl) ≤ W * W + 2 * (W * T) + T * T := by
  have h := mul_bd40 (a := ep - dl) (b := ep - dl) (A := W + T) (B := W + T) (by omega) (by omega)
  have e : (W + T) * (W + T) = W * W + 2 * (W * T) + T * T := by grind
  omega
theorem dist40 (A0 A1 A2 D0 D1 D2 q e : Int) (hq : 0 ≤ q) (he : 0 ≤ e) (hD : D0 * D0 + D1 * D1 + D2 * D2 ≤ e * e) (h1 : q * q ≤ A0 * A0 + A1 * A1 + A2 * A2) (h2 : A0 * A0 + A1 * A1 + A2 * A2 < (q + 1) * (q + 1)) :
    mx28 0 (q - e) * mx28 0 (q - e) ≤ (A0 + D0) * (A0 + D0) + (A1 + D1) * (A1 + D1) + (A2 + D2) * (A2 + D2) ∧ (A0 + D0) * (A0 + D0) + (A1 + D1) * (A1 + D1) + (A2 + D2) * (A2 + D2) ≤ (q + 1 + e) * (q + 1 + e) := by
  have nD : 0 ≤ D0 * D0 + D1 * D1 + D2 * D2 := by have := sq_nn D0; have := sq_nn D1; have := sq_nn D2; omega
  have nA : 0 ≤ A0 * A0 + A1 * A1 + A2 * A2 := by have := sq_nn A0; have := sq_nn A1; have := sq_nn A2; omega
  constructor
  · unfold mx28
    by_cases hqe : q - e > 0
    · rw [if_pos hqe]
      rcases Int.lt_or_le ((A0 + D0) * (A0 + D0) + (A1 + D1) * (A1 + D1) + (A2 + D2) * (A2 + D2)) ((q - e) * (q - e)) with h | h
      · exfalso
        have hc := cauchy40 (A0 + D0) (A1 + D1) (A2 + D2) D0 D1 D2
        have nB : 0 ≤ (A0 + D0) * (A0 + D0) + (A1 + D1) * (A1 + D1) + (A2 + D2) * (A2 + D2) := by have := sq_nn (A0 + D0); have := sq_nn (A1 + D1); have := sq_nn (A2 + D2); omega
        have hm : ((A0 + D0) * (A0 + D0) + (A1 + D1) * (A1 + D1) + (A2 + D2) * (A2 + D2)) * (D0 * D0 + D1 * D1 + D2 * D2) ≤ ((q - e) * (q - e)) * (e * e) := Int.mul_le_mul (by omega) hD nD (sq_nn _)
        have e1 : ((q - e) * (q - e)) * (e * e) = ((q - e) * e) * ((q - e) * e) := by grind
        have hp := sq_le40 (p := (A0 + D0) * D0 + (A1 + D1) * D1 + (A2 + D2) * D2) (m := (q - e) * e) (Int.mul_nonneg (by omega) he) (by omega)
        have e2 : A0 * A0 + A1 * A1 + A2 * A2 = ((A0 + D0) * (A0 + D0) + (A1 + D1) * (A1 + D1) + (A2 + D2) * (A2 + D2)) - 2 * ((A0 + D0) * D0 + (A1 + D1) * D1 + (A2 + D2) * D2) + (D0 * D0 + D1 * D1 + D2 * D2) := by grind
        have e3 : q * q = (q - e) * (q - e) + 2 * ((q - e) * e) + e * e := by grind
        omega
      · exact h
    · rw [if_neg hqe]
      have := sq_nn (A0 + D0)
      have := sq_nn (A1 + D1)
      have := sq_nn (A2 + D2)
      omega
  · have hc := cauchy40 A0 A1 A2 D0 D1 D2
    have hm : (A0 * A0 + A1 * A1 + A2 * A2) * (D0 * D0 + D1 * D1 + D2 * D2) ≤ ((q + 1) * (q + 1)) * (e * e) := Int.mul_le_mul (by omega) hD nD (sq_nn _)
    have e1 : ((q + 1) * (q + 1)) * (e * e) = ((q + 1) * e) * ((q + 1) * e) := by grind
    have hp := sq_le40 (p := A0 * D0 + A1 * D1 + A2 * D2) (m := (q + 1) * e) (Int.mul_nonneg (by omega) he) (by omega)
    have e2 : (A0 + D0) * (A0 + D0) + (A1 + D1) * (A1 + D1) + (A2 + D2) * (A2 + D2) = (A0 * A0 + A1 * A1 + A2 * A2) + 2 * (A0 * D0 + A1 * D1 + A2 * D2) + (D0 * D0 + D1 * D1 + D2 * D2) := by grind
    have e3 : (q + 1 + e) * (q + 1 + e) = (q + 1) * (q + 1) + 2 * ((q + 1) * e) + e * e := by grind
    omega
theorem lag40 (low lag high S : Int) (hS : 1 ≤ S) (h1 : low ≤ lag) (h2 : lag ≤ high) : (0 ≤ low % S ∧ low % S < S) ∧ (1 ≤ mn28 (high - low + 1) S ∧ mn28 (high - low + 1) S ≤ S) ∧ (0 ≤ lag % S ∧ lag % S < S) ∧ (lag % S - low % S + S) % S < mn28 (high - low + 1) S := by
  have hz : S ≠ 0 := by omega
  have a1 := Int.emod_nonneg low hz
  have a2 := Int.emod_lt_of_pos low (show 0 < S by omega)
  have a3 := Int.emod_nonneg lag hz
  have a4 := Int.emod_lt_of_pos lag (show 0 < S by omega)
  have e : (lag % S - low % S + S) % S = (lag - low) % S := by rw [Int.add_emod_right, ← Int.sub_emod]
  have a5 := Int.emod_nonneg (lag - low) hz
  have a6 := Int.emod_lt_of_pos (lag - low) (show 0 < S by omega)
  have a7 : (lag - low) % S ≤ lag - low := by
    have h9 := Int.mul_ediv_add_emod (lag - low) S
    have h8 := Int.mul_nonneg (show 0 ≤ S by omega) (Int.ediv_nonneg (show 0 ≤ lag - low by omega) (show 0 ≤ S by omega))
    omega
  rw [e]
  refine ⟨⟨a1, a2⟩, ?_, ⟨a3, a4⟩, ?_⟩
  · unfold mn28; split <;> omega
  · unfold mn28; split <;> omega
end Go.Proofs.Sky


namespace Go.Proofs.Sky
open Go Go.RowKit Go.Shelf
set_option maxHeartbeats 4000000
set_option maxRecDepth 8000
/-! chapter 40: what the walk of WarmTrue needs -/
theorem spr_ge {x : Nat → Int} {l a : Int} (j : Nat) (hj : j < 3) : vQ (x (5 + 3 * j)) (x (6 + 3 * j)) a * l + 1 ≤ sprK x l a 3 := by
  have e : sprK x l a 3 = mx28 (mx28 (mx28 0 (vQ (x 5) (x 6) a * l + 1)) (vQ (x 8) (x 9) a * l + 1)) (vQ (x 11) (x 12) a * l + 1) := rfl
  have h1 := mx28_ge 0 (vQ (x 5) (x 6) a * l + 1)
  have h2 := mx28_ge (mx28 0 (vQ (x 5) (x 6) a * l + 1)) (vQ (x 8) (x 9) a * l + 1)
  have h3 := mx28_ge (mx28 (mx28 0 (vQ (x 5) (x 6) a * l + 1)) (vQ (x 8) (x 9) a * l + 1)) (vQ (x 11) (x 12) a * l + 1)
  rw [e]
  match j, hj with
  | 0, _ => show vQ (x 5) (x 6) a * l + 1 ≤ _; omega
  | 1, _ => show vQ (x 8) (x 9) a * l + 1 ≤ _; omega
  | 2, _ => show vQ (x 11) (x 12) a * l + 1 ≤ _; omega
theorem when40 {t p e l : Int} (ht : 0 ≤ t ∧ t ≤ 604799) (hp : 0 ≤ p ∧ p ≤ 604799) (he : -l ≤ e ∧ e ≤ l) (ha : szW (arQ (t - p)) + l ≤ 14400) : 0 ≤ bel (t + e) 604800 ∧ bel (t + e) 604800 ≤ 604799 ∧ arQ (bel (t + e) 604800 - p) = arQ (t - p) + e := by
  have hb := bel_bd (t + e) 604800 (by decide)
  refine ⟨hb.1, by omega, ?_⟩
  unfold bel szW arQ at *
  rw [if_neg (by decide)] at *
  omega
theorem true_facts (zs : List Int) (u0 u1 u2 r t l c m q e : Int) (ht : 0 ≤ t ∧ t ≤ 604799) (hr : 0 ≤ r ∧ r ≤ 10000000) (hu0 : -10000000 ≤ u0 ∧ u0 ≤ 10000000) (hu1 : -10000000 ≤ u1 ∧ u1 ≤ 10000000) (hu2 : -10000000 ≤ u2 ∧ u2 ≤ 10000000) (hl : 0 ≤ l) (he : -l ≤ e ∧ e ≤ l) (hok : prE (X0p (pg4 zs t) u0 u1 u2 r t l c m) = 0) (hq0 : 0 ≤ q) (hq1 : q * q ≤ sK40 (pr3 (X0p (pg4 zs t) u0 u1 u2 r t l c m)) 3) (hq2 : sK40 (pr3 (X0p (pg4 zs t) u0 u1 u2 r t l c m)) 3 < (q + 1) * (q + 1)) :
    (0 ≤ bel (t + e) 604800 ∧ bel (t + e) 604800 ≤ 604799) ∧ errTm (pg4 zs t) (bel (t + e) 604800) = 0 ∧ (0 ≤ bdP (pg4 zs t) (bel (t + e) 604800) ∧ bdP (pg4 zs t) (bel (t + e) 604800) ≤ 10000000) ∧
    (∀ j, j < 3 → -1000000000 ≤ atP (pg4 zs t) (bel (t + e) 604800) j ∧ atP (pg4 zs t) (bel (t + e) 604800) j ≤ 1000000000) ∧
    (0 ≤ pr4 (X0p (pg4 zs t) u0 u1 u2 r t l c m) q 28 ∧ pr4 (X0p (pg4 zs t) u0 u1 u2 r t l c m) q 28 ≤ pr4 (X0p (pg4 zs t) u0 u1 u2 r t l c m) q 29 ∧ pr4 (X0p (pg4 zs t) u0 u1 u2 r t l c m) q 29 ≤ 2000000000) ∧
    ∀ n0 n1 n2 m0 m1 m2 : Int, (-(bdP (pg4 zs t) (bel (t + e) 604800)) ≤ n0 ∧ n0 ≤ bdP (pg4 zs t) (bel (t + e) 604800)) → (-(bdP (pg4 zs t) (bel (t + e) 604800)) ≤ n1 ∧ n1 ≤ bdP (pg4 zs t) (bel (t + e) 604800)) → (-(bdP (pg4 zs t) (bel (t + e) 604800)) ≤ n2 ∧ n2 ≤ bdP (pg4 zs t) (bel (t + e) 604800)) → (-(r * 4 / 7) ≤ m0 ∧ m0 ≤ r * 4 / 7) → (-(r * 4 / 7) ≤ m1 ∧ m1 ≤ r * 4 / 7) → (-(r * 4 / 7) ≤ m2 ∧ m2 ≤ r * 4 / 7) →
      (pr4 (X0p (pg4 zs t) u0 u1 u2 r t l c m) q 27 = 1 → 0 < (atP (pg4 zs t) (bel (t + e) 604800) 0 + n0 - (u0 + m0)) * (u0 + m0) + (atP (pg4 zs t) (bel (t + e) 604800) 1 + n1 - (u1 + m1)) * (u1 + m1) + (atP (pg4 zs t) (bel (t + e) 604800) 2 + n2 - (u2 + m2)) * (u2 + m2)) ∧
      (pr4 (X0p (pg4 zs t) u0 u1 u2 r t l c m) q 27 = -1 → (atP (pg4 zs t) (bel (t + e) 604800) 0 + n0 - (u0 + m0)) * (u0 + m0) + (atP (pg4 zs t) (bel (t + e) 604800) 1 + n1 - (u1 + m1)) * (u1 + m1) + (atP (pg4 zs t) (bel (t + e) 604800) 2 + n2 - (u2 + m2)) * (u2 + m2) < 0) ∧
      pr4 (X0p (pg4 zs t) u0 u1 u2 r t l c m) q 28 * pr4 (X0p (pg4 zs t) u0 u1 u2 r t l c m) q 28 ≤ (atP (pg4 zs t) (bel (t + e) 604800) 0 + n0 - (u0 + m0)) * (atP (pg4 zs t) (bel (t + e) 604800) 0 + n0 - (u0 + m0)) + (atP (pg4 zs t) (bel (t + e) 604800) 1 + n1 - (u1 + m1)) * (atP (pg4 zs t) (bel (t + e) 604800) 1 + n1 - (u1 + m1)) + (atP (pg4 zs t) (bel (t + e) 604800) 2 + n2 - (u2 + m2)) * (atP (pg4 zs t) (bel (t + e) 604800) 2 + n2 - (u2 + m2)) ∧
      (atP (pg4 zs t) (bel (t + e) 604800) 0 + n0 - (u0 + m0)) * (atP (pg4 zs t) (bel (t + e) 604800) 0 + n0 - (u0 + m0)) + (atP (pg4 zs t) (bel (t + e) 604800) 1 + n1 - (u1 + m1)) * (atP (pg4 zs t) (bel (t + e) 604800) 1 + n1 - (u1 + m1)) + (atP (pg4 zs t) (bel (t + e) 604800) 2 + n2 - (u2 + m2)) * (atP (pg4 zs t) (bel (t + e) 604800) 2 + n2 - (u2 + m2)) ≤ pr4 (X0p (pg4 zs t) u0 u1 u2 r t l c m) q 29 * pr4 (X0p (pg4 zs t) u0 u1 u2 r t l c m) q 29 := by
  obtain ⟨_, hp, hg, hag⟩ := er_ok hok
  have hpp := pg4_ok zs t
  obtain ⟨_, hp1, hp2, hp3, hpx⟩ := pg_lim hpp
  have hsp := sprQ_bd hp hg hag
  have hmid := mid3 (mid2 hp hg hag)
  have hsk := sK_bd hmid 3 (by omega)
  have eA : ageQ (X0p (pg4 zs t) u0 u1 u2 r t l c m) = szW (arQ (t - pg4 zs t 1)) + l := rfl
  rw [eA] at hag
  have hw := when40 ht hp1 he hag
  obtain ⟨w0, w1, hd1⟩ := hw
  have hET : errTm (pg4 zs t) (bel (t + e) 604800) = 0 := by unfold errTm; rw [if_neg (by omega), if_neg (by omega)]
  have hET0 : errTm (pg4 zs t) t = 0 := by unfold errTm; rw [if_neg (by omega), if_neg (by omega)]
  have hd0 : 0 ≤ szW (arQ (t - pg4 zs t 1)) := szW_nn _
  have eAT : ∀ j, atP (pg4 zs t) (bel (t + e) 604800) j = atQ (pg4 zs t (4 + 3 * j)) (pg4 zs t (5 + 3 * j)) (pg4 zs t (6 + 3 * j)) (arQ (t - pg4 zs t 1) + e) := fun j => by unfold atP; rw [if_pos hET, hd1]
  have eA0 : ∀ j, atP (pg4 zs t) t j = atQ (pg4 zs t (4 + 3 * j)) (pg4 zs t (5 + 3 * j)) (pg4 zs t (6 + 3 * j)) (arQ (t - pg4 zs t 1)) := fun j => by unfold atP; rw [if_pos hET0]
  have eX : ∀ j, j < 3 → atP (X0p (pg4 zs t) u0 u1 u2 r t l c m) t j = atP (pg4 zs t) t j := fun j hj => by
    have e9 : errTm (X0p (pg4 zs t) u0 u1 u2 r t l c m) t = errTm (pg4 zs t) t := by unfold errTm; rw [X0_pg]
    unfold atP
    rw [e9]
    match j, hj with
    | 0, _ => rfl
    | 1, _ => rfl
    | 2, _ => rfl
  have eS : sprQ (X0p (pg4 zs t) u0 u1 u2 r t l c m) = sprK (pg4 zs t) l (szW (arQ (t - pg4 zs t 1)) + l) 3 + (pg4 zs t 2 + upW (pg4 zs t 3 * (szW (arQ (t - pg4 zs t 1)) + l)) 3600) := rfl
  have hbw : 0 ≤ bdP (pg4 zs t) (bel (t + e) 604800) ∧ bdP (pg4 zs t) (bel (t + e) 604800) ≤ pg4 zs t 2 + upW (pg4 zs t 3 * (szW (arQ (t - pg4 zs t 1)) + l)) 3600 ∧ bdP (pg4 zs t) (bel (t + e) 604800) ≤ 10000000 := by
    unfold bdP bdQ
    rw [if_pos hET, hd1]
    have h1 : ((arQ (t - pg4 zs t 1) + e).natAbs : Int) ≤ szW (arQ (t - pg4 zs t 1)) + l := by unfold szW; omega
    have h2 : 0 ≤ ((arQ (t - pg4 zs t 1) + e).natAbs : Int) := by omega
    have h3 : pg4 zs t 3 * ((arQ (t - pg4 zs t 1) + e).natAbs : Int) ≤ pg4 zs t 3 * (szW (arQ (t - pg4 zs t 1)) + l) := Int.mul_le_mul_of_nonneg_left h1 hp3.1
    have h4 := Int.mul_nonneg hp3.1 h2
    have h5 : pg4 zs t 3 * (szW (arQ (t - pg4 zs t 1)) + l) ≤ 1048575 * 14400 := Int.mul_le_mul hp3.2 hag (by omega) (by omega)
    unfold upW
    omega
  have hnear : ∀ j, j < 3 → -(sprK (pg4 zs t) l (szW (arQ (t - pg4 zs t 1)) + l) 3) ≤ atP (pg4 zs t) (bel (t + e) 604800) j - atP (pg4 zs t) t j ∧ atP (pg4 zs t) (bel (t + e) 604800) j - atP (pg4 zs t) t j ≤ sprK (pg4 zs t) l (szW (arQ (t - pg4 zs t 1)) + l) 3 := fun j hj => by
    have h1 := at_near40 (pg4 zs t (4 + 3 * j)) (pg4 zs t (5 + 3 * j)) (pg4 zs t (6 + 3 * j)) (arQ (t - pg4 zs t 1)) e (szW (arQ (t - pg4 zs t 1)) + l) l (Int.le_refl _) he hl
    have h2 := spr_ge (x := pg4 zs t) (l := l) (a := szW (arQ (t - pg4 zs t 1)) + l) j hj
    rw [eAT, eA0]
    omega
  have e28 : pr4 (X0p (pg4 zs t) u0 u1 u2 r t l c m) q 28 = mx28 0 (q - (2 * sprQ (X0p (pg4 zs t) u0 u1 u2 r t l c m) + r)) := rfl
  have e29 : pr4 (X0p (pg4 zs t) u0 u1 u2 r t l c m) q 29 = q + 1 + (2 * sprQ (X0p (pg4 zs t) u0 u1 u2 r t l c m) + r) := rfl
  have e27 : pr4 (X0p (pg4 zs t) u0 u1 u2 r t l c m) q 27 = upQ40 (pr2 (X0p (pg4 zs t) u0 u1 u2 r t l c m)) := rfl
  have e3s : sK40 (pr3 (X0p (pg4 zs t) u0 u1 u2 r t l c m)) 3 = 0 + (atP (X0p (pg4 zs t) u0 u1 u2 r t l c m) t 0 - u0) * (atP (X0p (pg4 zs t) u0 u1 u2 r t l c m) t 0 - u0) + (atP (X0p (pg4 zs t) u0 u1 u2 r t l c m) t 1 - u1) * (atP (X0p (pg4 zs t) u0 u1 u2 r t l c m) t 1 - u1) + (atP (X0p (pg4 zs t) u0 u1 u2 r t l c m) t 2 - u2) * (atP (X0p (pg4 zs t) u0 u1 u2 r t l c m) t 2 - u2) := rfl
  have e3b : bQ40 (pr2 (X0p (pg4 zs t) u0 u1 u2 r t l c m)) = sprQ (X0p (pg4 zs t) u0 u1 u2 r t l c m) * len3 u0 u1 u2 + r * (len3 (atP (X0p (pg4 zs t) u0 u1 u2 r t l c m) t 0) (atP (X0p (pg4 zs t) u0 u1 u2 r t l c m) t 1) (atP (X0p (pg4 zs t) u0 u1 u2 r t l c m) t 2) + 2 * len3 u0 u1 u2) + 2 * sprQ (X0p (pg4 zs t) u0 u1 u2 r t l c m) * r + r * r := rfl
  have e3f : fK40 (pr2 (X0p (pg4 zs t) u0 u1 u2 r t l c m)) 3 = 0 + (atP (X0p (pg4 zs t) u0 u1 u2 r t l c m) t 0 - u0) * u0 + (atP (X0p (pg4 zs t) u0 u1 u2 r t l c m) t 1 - u1) * u1 + (atP (X0p (pg4 zs t) u0 u1 u2 r t l c m) t 2 - u2) * u2 := rfl
  rw [eX 0 (by omega), eX 1 (by omega), eX 2 (by omega)] at e3s e3b e3f
  have hsA : ∀ j, j < 3 → -1000000000 ≤ atP (pg4 zs t) (bel (t + e) 604800) j ∧ atP (pg4 zs t) (bel (t + e) 604800) j ≤ 1000000000 := fun j hj => by
    rw [eAT]
    exact atQ_bd (hpx j hj).1 (hpx j hj).2.1 (hpx j hj).2.2 (by unfold szW at hag; omega)
  have hs0 : ∀ j, j < 3 → -1000000000 ≤ atP (pg4 zs t) t j ∧ atP (pg4 zs t) t j ≤ 1000000000 := fun j hj => by
    rw [eA0]
    exact atQ_bd (hpx j hj).1 (hpx j hj).2.1 (hpx j hj).2.2 (by unfold szW at hag; omega)
  have hqq : q ≤ 1750000000 := by
    have a0 := hs0 0 (by omega)
    have a1 := hs0 1 (by omega)
    have a2 := hs0 2 (by omega)
    have k0 := mul_bd40 (a := atP (pg4 zs t) t 0 - u0) (b := atP (pg4 zs t) t 0 - u0) (A := 1010000000) (B := 1010000000) (by omega) (by omega)
    have k1 := mul_bd40 (a := atP (pg4 zs t) t 1 - u1) (b := atP (pg4 zs t) t 1 - u1) (A := 1010000000) (B := 1010000000) (by omega) (by omega)
    have k2 := mul_bd40 (a := atP (pg4 zs t) t 2 - u2) (b := atP (pg4 zs t) t 2 - u2) (A := 1010000000) (B := 1010000000) (by omega) (by omega)
    rcases Int.lt_or_le 1750000000 q with h | h
    · have h9 : 1750000001 * 1750000001 ≤ q * q := Int.mul_le_mul (by omega) (by omega) (by omega) (by omega)
      rw [e3s] at hq1
      omega
    · exact h
  refine ⟨⟨w0, w1⟩, hET, ⟨hbw.1, hbw.2.2⟩, hsA, ?_, ?_⟩
  · rw [e28, e29]
    generalize sprQ (X0p (pg4 zs t) u0 u1 u2 r t l c m) = W at *
    have := mx28_ge 0 (q - (2 * W + r))
    omega
  · intro n0 n1 n2 m0 m1 m2 hn0 hn1 hn2 hm0 hm1 hm2
    have k0 := hnear 0 (by omega)
    have k1 := hnear 1 (by omega)
    have k2 := hnear 2 (by omega)
    generalize bdP (pg4 zs t) (bel (t + e) 604800) = by9 at *
    have hup : upQ40 (pr2 (X0p (pg4 zs t) u0 u1 u2 r t l c m)) = if bQ40 (pr2 (X0p (pg4 zs t) u0 u1 u2 r t l c m)) < fK40 (pr2 (X0p (pg4 zs t) u0 u1 u2 r t l c m)) 3 then 1 else if fK40 (pr2 (X0p (pg4 zs t) u0 u1 u2 r t l c m)) 3 < -(bQ40 (pr2 (X0p (pg4 zs t) u0 u1 u2 r t l c m))) then -1 else 0 := rfl
    rw [e28, e29, e27, hup, e3b, e3f]
    rw [e3s] at hq1 hq2
    generalize sprQ (X0p (pg4 zs t) u0 u1 u2 r t l c m) = W at *
    generalize sprK (pg4 zs t) l (szW (arQ (t - pg4 zs t 1)) + l) 3 = sp at *
    generalize upW (pg4 zs t 3 * (szW (arQ (t - pg4 zs t 1)) + l)) 3600 = uw at *
    generalize pg4 zs t 2 = p2 at *
    obtain ⟨y0, ey0⟩ : ∃ y, y = atP (pg4 zs t) (bel (t + e) 604800) 0 - atP (pg4 zs t) t 0 + n0 := ⟨_, rfl⟩
    obtain ⟨y1, ey1⟩ : ∃ y, y = atP (pg4 zs t) (bel (t + e) 604800) 1 - atP (pg4 zs t) t 1 + n1 := ⟨_, rfl⟩
    obtain ⟨y2, ey2⟩ : ∃ y, y = atP (pg4 zs t) (bel (t + e) 604800) 2 - atP (pg4 zs t) t 2 + n2 := ⟨_, rfl⟩
    rw [show atP (pg4 zs t) (bel (t + e) 604800) 0 + n0 = atP (pg4 zs t) t 0 + y0 by omega, show atP (pg4 zs t) (bel (t + e) 604800) 1 + n1 = atP (pg4 zs t) t 1 + y1 by omega, show atP (pg4 zs t) (bel (t + e) 604800) 2 + n2 = atP (pg4 zs t) t 2 + y2 by omega]
    have hy0 : -W ≤ y0 ∧ y0 ≤ W := by omega
    have hy1 : -W ≤ y1 ∧ y1 ≤ W := by omega
    have hy2 : -W ≤ y2 ∧ y2 ≤ W := by omega
    clear ey0 ey1 ey2 k0 k1 k2 hn0 hn1 hn2
    generalize atP (pg4 zs t) t 0 = s0 at *
    generalize atP (pg4 zs t) t 1 = s1 at *
    generalize atP (pg4 zs t) t 2 = s2 at *
    have hT7 : 7 * (r * 4 / 7) ≤ 4 * r := by omega
    have hT0 : 0 ≤ r * 4 / 7 := by omega
    generalize r * 4 / 7 = T at *
    have hside := side40 s0 s1 s2 u0 u1 u2 y0 y1 y2 m0 m1 m2 W T r hsp.1 hT0 hT7 hy0 hy1 hy2 hm0 hm1 hm2
    have dd0 := dist1 y0 m0 W T hy0 hm0
    have dd1 := dist1 y1 m1 W T hy1 hm1
    have dd2 := dist1 y2 m2 W T hy2 hm2
    have hTR3 : (7 * T) * (7 * T) ≤ (4 * r) * (4 * r) := Int.mul_le_mul hT7 hT7 (by omega) (by omega)
    have hWT : W * (7 * T) ≤ W * (4 * r) := Int.mul_le_mul_of_nonneg_left hT7 hsp.1
    have x1 : (7 * T) * (7 * T) = 49 * (T * T) := by grind
    have x2 : (4 * r) * (4 * r) = 16 * (r * r) := by grind
    have x3 : W * (7 * T) = 7 * (W * T) := by grind
    have x4 : W * (4 * r) = 4 * (W * r) := by grind
    have x5 : (2 * W + r) * (2 * W + r) = 4 * (W * W) + 4 * (W * r) + r * r := by grind
    have x6 := sq_nn W
    have x7 := sq_nn r
    have x8 := Int.mul_nonneg hsp.1 hr.1
    have hD : (y0 - m0) * (y0 - m0) + (y1 - m1) * (y1 - m1) + (y2 - m2) * (y2 - m2) ≤ (2 * W + r) * (2 * W + r) := by omega
    have hdist := dist40 (s0 - u0) (s1 - u1) (s2 - u2) (y0 - m0) (y1 - m1) (y2 - m2) q (2 * W + r) hq0 (by omega) hD (by omega) (by omega)
    rw [show s0 - u0 + (y0 - m0) = s0 + y0 - (u0 + m0) by omega, show s1 - u1 + (y1 - m1) = s1 + y1 - (u1 + m1) by omega, show s2 - u2 + (y2 - m2) = s2 + y2 - (u2 + m2) by omega] at hdist
    refine ⟨fun h => ?_, fun h => ?_, hdist.1, hdist.2⟩
    · split at h
      · omega
      · split at h <;> omega
    · split at h
      · omega
      · split at h
        · omega
        · omega
theorem lag_facts (X : Nat → Int) (q len c' : Int) (hm : 1 ≤ X 20) (h1 : pr4 X q 28 ≤ len) (h2 : len ≤ pr4 X q 29) (h3 : -(X 19) ≤ c' ∧ c' ≤ X 19) : (0 ≤ pr4 X q 30 ∧ pr4 X q 30 < X 20) ∧ (1 ≤ pr4 X q 31 ∧ pr4 X q 31 ≤ X 20) ∧ (0 ≤ (len + c') * 1000 * X 20 / 299792458 % X 20 ∧ (len + c') * 1000 * X 20 / 299792458 % X 20 < X 20) ∧ ((len + c') * 1000 * X 20 / 299792458 % X 20 - pr4 X q 30 + X 20) % X 20 < pr4 X q 31 := by
  have k1 : (pr4 X q 28 - X 19) * 1000 * X 20 ≤ (len + c') * 1000 * X 20 := Int.mul_le_mul_of_nonneg_right (by omega) (by omega)
  have k2 : (len + c') * 1000 * X 20 ≤ (pr4 X q 29 + X 19) * 1000 * X 20 := Int.mul_le_mul_of_nonneg_right (by omega) (by omega)
  have k3 := Int.ediv_le_ediv (show (0 : Int) < 299792458 by omega) k1
  have k4 := Int.ediv_le_ediv (show (0 : Int) < 299792458 by omega) k2
  exact lag40 ((pr4 X q 28 - X 19) * 1000 * X 20 / 299792458) _ ((pr4 X q 29 + X 19) * 1000 * X 20 / 299792458) (X 20) hm k3 k4
end Go.Proofs.Sky
