/-
  lemmas for the theorems of this claim. No conditions beyond those written in the statements.
-/
import Derived.Test.YtcbkjfakedngbaaN25
set_option linter.unusedVariables false
set_option linter.unusedSimpArgs false
set_option linter.unnecessarySimpa false
namespace Go.Proofs.Sky
open Go Go.RowKit Go.Shelf
/-! plain: what Put writes Get reads -/
theorem lt_of_mul_near {r b u : Int} (hu : 1 ≤ u) (h : 2 * (r * u - b * u) ≤ u) : r ≤ b := by
  rcases Int.lt_or_le b r with h1 | h1
  · have h2 : (b + 1) * u ≤ r * u := Int.mul_le_mul_of_nonneg_right (by omega) (by omega)
    rw [Int.add_mul] at h2
    omega
  · exact h1
theorem rawN_exact (q u : Int) (hu : 1 ≤ u) : rawN (q * u) u = q := by
  obtain ⟨h1, h2⟩ := rawN_near (q * u) u hu
  have := lt_of_mul_near hu h1
  have := lt_of_mul_near hu h2
  omega
theorem rawN_range (d u lo hi : Int) (hu : 1 ≤ u) (h1 : lo * u ≤ d) (h2 : d ≤ hi * u) : lo ≤ rawN d u ∧ rawN d u ≤ hi := by
  obtain ⟨n1, n2⟩ := rawN_near d u hu
  constructor
  · exact lt_of_mul_near hu (by omega)
  · exact lt_of_mul_near hu (by omega)
theorem low_lt_high (n : Int) (g : Bool) (h1 : 1 ≤ n) : lowR n g + 1 ≤ highR n g := by
  unfold lowR highR
  have hp := pow_pred n h1
  have := pow_pos' (n.toNat - 1)
  cases g
  · simp; omega
  · simp; omega
theorem emod_step (y M : Int) (hM : 0 < M) : y % (2 * M) = 2 * (y / 2 % M) + y % 2 := by
  have h1 := Int.emod_add_mul_ediv y 2
  have h2 := Int.emod_add_mul_ediv (y / 2) M
  have h3 := Int.emod_nonneg (y / 2) (show M ≠ 0 by omega)
  have h4 := Int.emod_lt_of_pos (y / 2) hM
  have h5 := Int.emod_nonneg y (show (2 : Int) ≠ 0 by omega)
  have h6 := Int.emod_lt_of_pos y (show (0 : Int) < 2 by omega)
  have e : y = 2 * (y / 2 % M) + y % 2 + (2 * M) * (y / 2 / M) := by
    have : (2 * M) * (y / 2 / M) = 2 * (M * (y / 2 / M)) := by rw [Int.mul_assoc]
    omega
  generalize y / 2 % M = r at *
  generalize y % 2 = s at *
  rw [e, Int.add_mul_emod_self_left]
  exact Int.emod_eq_of_lt (by omega) (by omega)
theorem getN_put (zs : List Int) (A N : Nat) (x : Int) (h : A + N ≤ zs.length) : ∀ k, k ≤ N → getN (putL zs A N x N) A k = x / 2 ^ (N - k) % 2 ^ k := by
  intro k
  induction k with
  | zero => intro _; simp [getN]
  | succ k ih =>
    intro hk
    have hs : getN (putL zs A N x N) A (k + 1) = 2 * getN (putL zs A N x N) A k + (putL zs A N x N).getD (A + k) 0 := rfl
    rw [hs, ih (by omega), putL_get _ _ _ _ _ _ h, if_pos (by omega), show N - 1 - (A + k - A) = N - (k + 1) by omega]
    unfold bitN
    have e := bitN_step x (N - (k + 1))
    rw [show N - (k + 1) + 1 = N - k by omega] at e
    rw [← e, Int.pow_succ, Int.mul_comm (2 ^ k) 2, emod_step _ _ (pow_pos' k)]
theorem getN_put_all (zs : List Int) (A N : Nat) (x : Int) (h : A + N ≤ zs.length) : getN (putL zs A N x N) A N = x % 2 ^ N := by
  rw [getN_put zs A N x h N (Nat.le_refl _)]; simp
theorem sgnV_put (N : Nat) (g : Bool) (x : Int) (hN : 1 ≤ N) (h1 : lowR N g ≤ x) (h2 : x ≤ highR N g) : sgnV N g (x % 2 ^ N) = x := by
  unfold lowR at h1
  unfold highR at h2
  simp only [Int.toNat_natCast] at h1 h2
  have hp : (2 : Int) ^ N = 2 * 2 ^ (N - 1) := by have := pow_pred N (by omega); simpa using this
  have h0 := pow_pos' (N - 1)
  unfold sgnV sx
  rw [hp] at h2 ⊢
  generalize (2 : Int) ^ (N - 1) = P at *
  cases g
  · simp at h1 h2 ⊢
    exact Int.emod_eq_of_lt h1 (by omega)
  · simp at h1 h2 ⊢
    rcases Int.lt_or_le x 0 with hx | hx
    · have e : x % (2 * P) = x + 2 * P := by
        rw [← Int.add_emod_right]; exact Int.emod_eq_of_lt (by omega) (by omega)
      rw [e, if_pos (by omega)]; omega
    · have e : x % (2 * P) = x := Int.emod_eq_of_lt hx (by omega)
      rw [e, if_neg (by omega)]
theorem putL_twice (zs : List Int) (A N : Nat) (x : Int) (h : A + N ≤ zs.length) : putL (putL zs A N x N) A N x N = putL zs A N x N := by
  apply list_eq_getD (by rw [putL_length])
  intro i hi
  rw [putL_get _ _ _ _ _ _ (by rw [putL_length]; exact h)]
  by_cases hk : A ≤ i ∧ i < A + N
  · rw [if_pos hk, putL_get _ _ _ _ _ _ h, if_pos hk]
  · rw [if_neg hk]
/-- a field, bits that are all 0 or 1, and a value: what Put and Get do -/
theorem back_plain (zs : List Int) (A N : Nat) (g : Bool) (u c v : Int) (hf : fk A N u c) (hz : A + N ≤ zs.length) (hb : ∀ i, zs.getD i 0 = 0 ∨ zs.getD i 0 = 1) (hv : -2000000000000000000 ≤ v ∧ v ≤ 2000000000000000000) :
    (rawB N g u c v = false ∧ errP zs A N g u c v = 5 ∧ putR zs A N g u c v = [] ∧ (v < c + lowR N g * u ∨ c + highR N g * u < v)) ∨
    (∃ q out, errP zs A N g u c v = 0 ∧ putR zs A N g u c v = out ∧ out.length = zs.length ∧ (∀ i, ¬ (A ≤ i ∧ i < A + N) → out.getD i 0 = zs.getD i 0) ∧ errT out A N u c = 0 ∧ getV out A N g u c = c + q * u ∧ errP out A N g u c (c + q * u) = 0 ∧ putR out A N g u c (c + q * u) = out ∧
      lowR N g ≤ q ∧ q ≤ highR N g ∧ 2 * (c + q * u - v) ≤ u ∧ 2 * (v - (c + q * u)) ≤ u ∧ 2 * (c + lowR N g * u - v) ≤ u ∧ 2 * (v - (c + highR N g * u)) ≤ u) := by
  obtain ⟨f1, f2, f3, f4, f5, f6, f7, f8, f9⟩ := hf
  have hfk : fk A N u c := ⟨f1, f2, f3, f4, f5, f6, f7, f8, f9⟩
  have hT : errT zs A N u c = 0 := by
    unfold errT
    rw [if_pos (errF_ok hfk), if_neg (by omega), if_pos ((oksP_iff _ _ _).2 (fun i _ => hb _))]
  have hin := (inV_iff v).2 hv
  have hN : 1 ≤ N := by omega
  cases hB : rawB N g u c v with
  | false =>
    left
    have hB2 := hB
    rw [rawB_in hin, decide_eq_false_iff_not] at hB2
    have he : errP zs A N g u c v = 5 := by unfold errP; rw [if_pos hT, hB, if_neg (by simp)]
    refine ⟨rfl, he, by unfold putR; rw [he, if_neg (by omega)], ?_⟩
    rcases Int.lt_or_le v (c + lowR N g * u) with h | h
    · exact .inl h
    · rcases Int.lt_or_le (c + highR N g * u) v with h' | h'
      · exact .inr h'
      · exact absurd (rawN_range (v - c) u _ _ f6 (by omega) (by omega)) hB2
  | true =>
    right
    have hB2 := hB
    rw [rawB_in hin, decide_eq_true_iff] at hB2
    obtain ⟨q1, q2⟩ := hB2
    have ⟨n1, n2⟩ := rawN_near (v - c) u f6
    have he : errP zs A N g u c v = 0 := by unfold errP; rw [if_pos hT, hB, if_pos rfl]
    have hrV : rawV u c v = rawN (v - c) u := rawV_in hin
    have hput : putR zs A N g u c v = putL zs A N (rawN (v - c) u) N := by unfold putR; rw [if_pos he, hrV]; simp
    generalize rawN (v - c) u = q at *
    have hlen : (putL zs A N q N).length = zs.length := putL_length _ _ _ _ _
    have hbits : ∀ i, i < N → (putL zs A N q N).getD (A + i) 0 = 0 ∨ (putL zs A N q N).getD (A + i) 0 = 1 := fun i hi => by
      rw [putL_get _ _ _ _ _ _ hz, if_pos (by omega)]; exact bitN_01 _ _
    have hT2 : errT (putL zs A N q N) A N u c = 0 := by
      unfold errT
      rw [if_pos (errF_ok hfk), if_neg (by rw [hlen]; omega), if_pos ((oksP_iff _ _ _).2 (by simpa using hbits))]
    have hl := lowR_bd N g (by omega) (by omega)
    have hh := highR_bd N g (by omega) (by omega)
    have hmul := mul_bd q u (by omega) (by omega) f6 f7
    have hin2 : inV (c + q * u) = true := (inV_iff _).2 (by omega)
    have hraw : rawN (c + q * u - c) u = q := by rw [show c + q * u - c = q * u by omega]; exact rawN_exact q u f6
    have hB3 : rawB N g u c (c + q * u) = true := by rw [rawB_in hin2, hraw, decide_eq_true_iff]; exact ⟨q1, q2⟩
    have he2 : errP (putL zs A N q N) A N g u c (c + q * u) = 0 := by unfold errP; rw [if_pos hT2, hB3, if_pos rfl]
    have hput2 : putR (putL zs A N q N) A N g u c (c + q * u) = putL zs A N q N := by
      unfold putR; rw [if_pos he2, rawV_in hin2, hraw]; simp only [Int.toNat_natCast]; exact putL_twice zs A N q hz
    have hm1 : lowR N g * u ≤ q * u := Int.mul_le_mul_of_nonneg_right q1 (by omega)
    have hm2 : q * u ≤ highR N g * u := Int.mul_le_mul_of_nonneg_right q2 (by omega)
    refine ⟨q, _, he, hput, hlen, fun i hi => ?_, hT2, ?_, he2, hput2, q1, q2, by omega, by omega, by omega, by omega⟩
    · rw [putL_get _ _ _ _ _ _ hz, if_neg hi]
    · unfold getV
      rw [getN_put_all _ _ _ _ hz, sgnV_put N g q hN q1 q2]
end Go.Proofs.Sky
