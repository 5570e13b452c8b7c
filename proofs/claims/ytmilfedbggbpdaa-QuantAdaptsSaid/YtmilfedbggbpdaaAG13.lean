/-
  lemmas for the theorems of this claim. No conditions beyond those written in the statements.
-/
import Derived.Test.YtmilfedbggbpdaaAF13
import Derived.Test.YtmilfedbggbpdaaO13
import Derived.Test.YtmilfedbggbpdaaY13
set_option linter.unusedVariables false
set_option linter.unusedSimpArgs false
set_option linter.unnecessarySimpa false
namespace Go.Proofs.Sky
open Go
theorem foldl_pk_le (s : Nat) (m : Int) (ps : List (Int × Int)) : ∀ m0, ps.foldl (pkf s) m0 ≤ m ↔ m0 ≤ m ∧ ∀ p ∈ ps, ab (rnd p.1 s) ≤ m ∧ ab (rnd p.2 s) ≤ m := by
  induction ps with
  | nil => intro m0; simp
  | cons p ps ih =>
    intro m0
    rw [List.foldl_cons, ih]
    unfold pkf
    constructor
    · rintro ⟨h1, h2⟩
      refine ⟨by omega, fun q hq => ?_⟩
      rcases List.mem_cons.1 hq with rfl | hq
      · exact ⟨by omega, by omega⟩
      · exact h2 q hq
    · rintro ⟨h1, h2⟩
      have h3 := h2 p (List.mem_cons_self ..)
      exact ⟨by omega, fun q hq => h2 q (List.mem_cons_of_mem _ hq)⟩
theorem pk_le2 (s : Nat) (m : Int) (ps : List (Int × Int)) (h : 0 ≤ m) : pk s ps ≤ m ↔ ∀ p ∈ ps, ab (rnd p.1 s) ≤ m ∧ ab (rnd p.2 s) ≤ m := by
  unfold pk
  rw [foldl_pk_le]
  exact ⟨fun h => h.2, fun h' => ⟨h, h'⟩⟩
theorem lost1_iff2 (b s x : Int) (h : 0 ≤ gq b) : lost1 b s x = false ↔ ab (rnd x s.toNat) ≤ gq b := by
  unfold lost1 lv clampI
  have h1 := ab_cases (rnd x s.toNat)
  simp only [bne_eq_false_iff_eq]
  omega
theorem lostN_zero2 (b s : Int) (ps : List (Int × Int)) (h : 0 ≤ gq b) : lostN b s ps = 0 ↔ pk s.toNat ps ≤ gq b := by
  rw [pk_le2 _ _ _ h]
  unfold lostN
  constructor
  · intro h1 p hp
    have h2 : (ps.filter (lostP b s)) = [] := List.length_eq_zero_iff.1 (by omega)
    have h3 := List.filter_eq_nil_iff.1 h2 p hp
    simp only [lostP, Bool.or_eq_true, not_or, Bool.not_eq_true] at h3
    exact ⟨(lost1_iff2 b s p.1 h).1 h3.1, (lost1_iff2 b s p.2 h).1 h3.2⟩
  · intro h1
    have h2 : (ps.filter (lostP b s)) = [] := List.filter_eq_nil_iff.2 (fun p hp => by
      have h3 := h1 p hp
      simp only [lostP, Bool.or_eq_true, not_or, Bool.not_eq_true]
      exact ⟨(lost1_iff2 b s p.1 h).2 h3.1, (lost1_iff2 b s p.2 h).2 h3.2⟩)
    rw [h2]; rfl
theorem mkS_bd (zs : List Int) : ∀ p ∈ mkS zs, (-1073741823 ≤ p.1 ∧ p.1 ≤ 1073741823) ∧ -1073741823 ≤ p.2 ∧ p.2 ≤ 1073741823 := by
  intro p hp
  simp only [mkS, mkTo, List.mem_map] at hp
  obtain ⟨i, _, rfl⟩ := hp
  have h1 := turn_bd (zs.getD (2 * i) 0) 2147483647 (by omega)
  have h2 := turn_bd (zs.getD (2 * i + 1) 0) 2147483647 (by omega)
  simp only [sm]
  omega
theorem mkS_len (zs : List Int) : (mkS zs).length = zs.length / 2 := mkTo_len _ _
theorem errQ_mk {b s : Int} (hG : 2 ≤ b ∧ b ≤ 8 ∧ 0 ≤ s ∧ s ≤ 30) (zs : List Int) (hl : zs.length ≤ 40) : errQ b s (mkS zs) = 0 := by
  rw [errQ_good _ hG]
  unfold errS
  rw [if_neg (by rw [mkS_len]; omega), if_neg]
  simp only [List.any_eq_true, not_exists, not_and, Bool.not_eq_true, Bool.not_eq_false', inP]
  intro p hp
  have := mkS_bd zs p hp
  rw [inI_t (by omega) (by omega), inI_t (by omega) (by omega)]; rfl
theorem rnd30 (x : Int) (h : -1073741823 ≤ x ∧ x ≤ 1073741823) : ab (rnd x 30) ≤ 1 := by
  have h1 := ab_cases (rnd x 30)
  have h2 : -1 ≤ rnd x 30 ∧ rnd x 30 ≤ 1 := by
    unfold rnd
    rw [show (2:Int) ^ 30 = 1073741824 by decide]
    split <;> omega
  omega
theorem pk30 (zs : List Int) : pk 30 (mkS zs) ≤ 1 := by
  rw [pk_le2 _ _ _ (by omega)]
  intro p hp
  have := mkS_bd zs p hp
  exact ⟨rnd30 _ this.1, rnd30 _ this.2⟩
theorem least_mk {b : Int} (h1 : 2 ≤ b) (h2 : b ≤ 8) (zs : List Int) (hl : zs.length ≤ 40) : ∃ k : Nat, k < 31 ∧ leastV b (mkS zs) = (b, (k : Int), 0) ∧ pk k (mkS zs) ≤ gq b ∧ ∀ j, j < k → ¬ pk j (mkS zs) ≤ gq b := by
  have hq := gq_bd b h1 h2
  have h0 : errQ b 0 (mkS zs) = 0 := errQ_mk ⟨h1, h2, by omega, by omega⟩ zs hl
  have h30 : pk 30 (mkS zs) ≤ gq b := by have := pk30 zs; omega
  generalize mkS zs = ps at *
  have key : ∀ n : Nat, pk n ps ≤ gq b → ∃ k, k ≤ n ∧ pk k ps ≤ gq b ∧ ∀ j, j < k → ¬ pk j ps ≤ gq b := by
    intro n
    induction n using Nat.strongRecOn with
    | ind n ih =>
      intro hn
      by_cases hj : ∃ j, j < n ∧ pk j ps ≤ gq b
      · obtain ⟨j, hj1, hj2⟩ := hj
        obtain ⟨k, k1, k2, k3⟩ := ih j hj1 hj2
        exact ⟨k, by omega, k2, k3⟩
      · exact ⟨n, Nat.le_refl _, hn, fun j hj1 hj2 => hj ⟨j, hj1, hj2⟩⟩
  obtain ⟨k, k1, k2, k3⟩ := key 30 h30
  exact ⟨k, by omega, least_hit h0 k (by omega) k3 k2, k2, k3⟩
end Go.Proofs.Sky
