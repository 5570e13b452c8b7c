/-
  lemmas for the theorems of this claim. No conditions beyond those written in the statements.
-/
import Derived.Test.YtmndialneggbjaaRA21
import Derived.Test.YtmndialneggbjaaPA21
set_option linter.unusedVariables false
set_option linter.unusedSimpArgs false
set_option linter.unnecessarySimpa false
namespace Go.Proofs.Sky
open Go Go.RowKit Go.Shelf
/-! chapter 21, plain: right bits, second part -/
theorem getD_set0 (p t : Nat) (c : Int) (ht : t < p) (j : Nat) : ((List.replicate p (0 : Int)).set t c).getD j 0 = if j = t then c else 0 := by
  rw [List.getD_eq_getElem?_getD, List.getElem?_set]
  by_cases h : t = j
  · subst h; rw [if_pos rfl, if_pos (by simpa using ht), if_pos rfl]; rfl
  · rw [if_neg h, if_neg (fun e => h e.symm), List.getElem?_replicate]
    split <;> rfl
theorem sumL_set0 (p t : Nat) (c : Int) (ht : t < p) : sumL ((List.replicate p (0 : Int)).set t c) = c := by
  induction p generalizing t with
  | zero => omega
  | succ p ih =>
    rw [List.replicate_succ]
    cases t with
    | zero => rw [List.set_cons_zero, sumL, sumL_zero]; omega
    | succ t => rw [List.set_cons_succ, sumL, ih t (by omega)]; omega
theorem edge_right (p t : Nat) (hp : 1 ≤ p) (hp2 : p ≤ 20) (ht : t < p) (c N : Nat) (hc : c ≤ N) (hN : N ≤ 10000) (la : Int × Int) (hla : insP la = true) (hl0 : N = 0 → la = (0, 0)) :
    errS ((List.replicate p (0 : Int)).set t c) N la = 0 ∧ edgeR ((List.replicate p (0 : Int)).set t c) N la 1 = if 0 < c then ((t : Int), 0) else (0, 18) := by
  have hmem : ∀ n ∈ (List.replicate p (0 : Int)).set t c, 0 ≤ n := fun n hn => by
    rcases List.mem_or_eq_of_mem_set hn with h | h
    · have := List.eq_of_mem_replicate h; omega
    · omega
  have he : errS ((List.replicate p (0 : Int)).set t c) N la = 0 := by
    unfold errS
    rw [if_neg, if_neg, if_neg]
    · rintro ⟨h1, h2⟩; exact h2 (hl0 (by omega))
    · rw [(okLeft_iff _ _ (by omega)).2 ⟨hmem, by rw [sumL_set0 p t c ht]; omega⟩]; simp
    · rw [List.length_set, List.length_replicate, hla]
      rintro (h | h | h | h | h)
      · omega
      · omega
      · omega
      · omega
      · cases h
  refine ⟨he, ?_⟩
  have hsp := amx_spec ((List.replicate p (0 : Int)).set t c) (p - 1)
  unfold edgeR
  rw [if_neg (by rw [he]; simp), if_neg (by omega), List.length_set, List.length_replicate]
  generalize amx ((List.replicate p (0 : Int)).set t c) (p - 1) = am at hsp ⊢
  simp only [getD_set0 p t c ht] at hsp ⊢
  have h1 := hsp.2.1 t (by omega)
  rw [if_pos rfl] at h1
  by_cases hc0 : 0 < c
  · have ham : am = t := by
      apply Classical.byContradiction
      intro h9
      rw [if_neg h9] at h1
      omega
    subst ham
    rw [if_pos rfl, if_pos hc0, if_neg (by omega), if_neg]
    rw [Bool.not_eq_true, List.any_eq_false]
    intro j hj
    by_cases h9 : j = am
    · simp [h9]
    · rw [if_neg h9]; simp; intro _; omega
  · rw [if_neg hc0]
    have : c = 0 := by omega
    subst this
    rw [if_pos]
    split <;> omega
def bt (zs : List Int) (j : Nat) : Int := bel (zs.getD j 0) 2
theorem bt_01 (zs : List Int) (j : Nat) : bt zs j = 0 ∨ bt zs j = 1 := by
  have := bel_bd (zs.getD j 0) 2 (by omega)
  unfold bt
  omega
def allB (zs : List Int) (p t : Nat) (k : Nat) : Int := if t ≤ k then bt zs ((k - t) / p) else 1 - bt zs 0
theorem allB_01 (zs : List Int) (p t k : Nat) : allB zs p t k = 0 ∨ allB zs p t k = 1 := by
  unfold allB
  split
  · exact bt_01 _ _
  · have := bt_01 zs 0; omega
theorem allB_jump (zs : List Int) (p t : Nat) (hp : 1 ≤ p) (ht : t < p) (k : Nat) (hk : 1 ≤ k) (h : allB zs p t (k - 1) ≠ allB zs p t k) : k % p = t := by
  rcases Nat.lt_trichotomy k t with h1 | h1 | h1
  · exfalso; apply h; unfold allB; rw [if_neg (by omega), if_neg (by omega)]
  · rw [h1]; exact Nat.mod_eq_of_lt ht
  · by_cases h2 : (k - t) % p = 0
    · have h3 := Nat.div_add_mod (k - t) p
      rw [h2] at h3
      have h4 : k = t + p * ((k - t) / p) := by omega
      rw [h4, Nat.add_mul_mod_self_left]; exact Nat.mod_eq_of_lt ht
    · exfalso; apply h; unfold allB
      rw [if_pos (by omega), if_pos (by omega)]
      have h3 := Nat.div_add_mod (k - t) p
      have h4 := Nat.mod_lt (k - t) (show 0 < p by omega)
      have : (k - 1 - t) / p = (k - t) / p := by
        apply Nat.div_eq_of_lt_le
        · rw [Nat.mul_comm]; omega
        · rw [Nat.mul_comm, Nat.mul_succ]; omega
      rw [this]
/-- the bits that are read -/
theorem read_right (zs : List Int) (p t nb : Nat) (hp : 1 ≤ p) (hp2 : p ≤ 20) (ht : t < p) (hnb : 1 ≤ nb) (hnb2 : nb ≤ 20) (I Q R M : Int) (hM : 1 ≤ M) (hR : 4 * R ≤ M) (hI : -M ≤ I ∧ I ≤ M) (hQ : -M ≤ Q ∧ Q ≤ M) (hMx : I = M ∨ I = -M ∨ Q = M ∨ Q = -M)
    (g : Nat → Int × Int) (hin : ∀ k, k < t + p * nb → insP (g k) = true) (hg : ∀ k, k < t + p * nb → Near (1 - 2 * allB zs p t k) I Q R (g k)) :
    readR ((List.range (t + p * nb)).map g) p t = ((List.range nb).map (fun j => (bt zs j + bt zs 0) % 2), 0) := by
  have hlen : ((List.range (t + p * nb)).map g).length = t + p * nb := by simp
  have hpn : p * nb ≤ 400 := by
    have := Nat.mul_le_mul hp2 hnb2; omega
  have hpn1 : p ≤ p * nb := Nat.le_mul_of_pos_right p (by omega)
  unfold readR
  rw [valR_in _ p t hp hp2 ht (by rw [hlen]; omega) (fun a ha => by
    obtain ⟨k, hk, rfl⟩ := List.mem_map.1 ha
    exact hin k (List.mem_range.1 hk)), hlen, if_neg (by omega)]
  simp only [Prod.mk.injEq, and_true]
  have hcount : (t + p * nb - t) / p = nb := by rw [Nat.add_sub_cancel_left]; exact Nat.mul_div_cancel_left nb (by omega)
  have hv : valsL ((List.range (t + p * nb)).map g) p t = (List.range nb).map (bitV ((List.range (t + p * nb)).map g) p t) := by
    unfold valsL; rw [hlen, hcount]
  rw [hv]
  have hnear : ∀ j, j < nb → Near (1 - 2 * bt zs j) (p * I) (p * Q) (p * R) (bitV ((List.range (t + p * nb)).map g) p t j) := by
    intro j hj
    have hroom : t + j * p + p ≤ t + p * nb := by
      have := Nat.mul_le_mul_left p (show j + 1 ≤ nb by omega)
      rw [Nat.mul_succ] at this
      rw [Nat.mul_comm j p]; omega
    have hl : ((((List.range (t + p * nb)).map g).drop (t + j * p)).take p).length = p := by
      rw [List.length_take, List.length_drop, hlen]; omega
    have := near_chunk (s := 1 - 2 * bt zs j) (I := I) (Q := Q) (R := R) ((((List.range (t + p * nb)).map g).drop (t + j * p)).take p) (fun v hv9 => by
      obtain ⟨i, hi, rfl⟩ := List.getElem_of_mem hv9
      rw [hl] at hi
      rw [List.getElem_take, List.getElem_drop, List.getElem_map, List.getElem_range]
      have h1 := hg (t + j * p + i) (by omega)
      have h2 : allB zs p t (t + j * p + i) = bt zs j := by
        unfold allB
        rw [if_pos (by omega), show t + j * p + i - t = i + p * j by rw [Nat.mul_comm j p]; omega, Nat.add_mul_div_left _ _ (show 0 < p by omega), Nat.div_eq_of_lt hi, Nat.zero_add]
      rw [h2] at h1
      exact h1)
    rw [hl] at this
    exact this
  generalize bitV ((List.range (t + p * nb)).map g) p t = V at hnear
  have hsc : ∀ j, j + 1 < nb → (scl (V j) (V (j + 1)) < 0 ↔ bt zs j ≠ bt zs (j + 1)) := by
    intro j hj
    have q := Int.mul_nonneg (show 0 ≤ (p : Int) by omega) (show 0 ≤ M - 4 * R by omega)
    rw [Int.mul_sub, show (p : Int) * (4 * R) = 4 * (p * R) by rw [Int.mul_left_comm]] at q
    have q2 : 1 ≤ (p : Int) * M := by
      have := Int.mul_le_mul (show (1 : Int) ≤ p by omega) hM (by omega) (by omega)
      omega
    have qI : -((p : Int) * M) ≤ p * I ∧ p * I ≤ p * M := by
      have a := Int.mul_le_mul_of_nonneg_left hI.1 (show 0 ≤ (p : Int) by omega)
      have b := Int.mul_le_mul_of_nonneg_left hI.2 (show 0 ≤ (p : Int) by omega)
      rw [Int.mul_neg] at a; exact ⟨a, b⟩
    have qQ : -((p : Int) * M) ≤ p * Q ∧ p * Q ≤ p * M := by
      have a := Int.mul_le_mul_of_nonneg_left hQ.1 (show 0 ≤ (p : Int) by omega)
      have b := Int.mul_le_mul_of_nonneg_left hQ.2 (show 0 ≤ (p : Int) by omega)
      rw [Int.mul_neg] at a; exact ⟨a, b⟩
    have b1 := bt_01 zs j
    have b2 := bt_01 zs (j + 1)
    rw [near_scl (M := p * M) (hnear j (by omega)) (hnear (j + 1) hj) (by omega) (by omega) q2 (by omega) qI qQ (by
      rcases hMx with e | e | e | e
      · exact .inl (by rw [e])
      · exact .inr (.inl (by rw [e, Int.mul_neg]))
      · exact .inr (.inr (.inl (by rw [e])))
      · exact .inr (.inr (.inr (by rw [e, Int.mul_neg]))))]
    constructor
    · intro h h9; apply h; rw [h9]
    · intro h h9; apply h; omega
  unfold bitsL
  rw [List.length_map, List.length_range]
  apply List.map_congr_left
  intro j hj
  have hj := List.mem_range.1 hj
  have hgd : ∀ i, i < nb → ((List.range nb).map V).getD i (0, 0) = V i := fun i hi => by
    rw [List.getD_eq_getElem?_getD, List.getElem?_map, List.getElem?_range hi]; rfl
  clear hnear hin hg hv
  induction j with
  | zero => have := bt_01 zs 0; simp only [bitAt]; omega
  | succ j ih =>
    have ih := ih (List.mem_range.2 (by omega)) (by omega)
    rw [bitAt, ih, hgd j (by omega), hgd (j + 1) hj]
    have b0 := bt_01 zs 0
    have b1 := bt_01 zs j
    have b2 := bt_01 zs (j + 1)
    have hs := hsc j hj
    by_cases h : scl (V j) (V (j + 1)) < 0
    · rw [if_pos h]; have := hs.1 h; omega
    · rw [if_neg h]; have : ¬ (bt zs j ≠ bt zs (j + 1)) := fun h9 => h (hs.2 h9); omega
end Go.Proofs.Sky
